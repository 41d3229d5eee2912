/- The reader of names: from the heads to the bodies; what heads and bodies leave, in plain Lean. (and what follows of it). The conditions stand at each lemma. -/
import Derived.Test.YtbadjmmjbpeocaaGreatDoorKaa
import Derived.Test.YtbadjmmjbpeocaaGreatDoorKbh
import Derived.Test.YtbadjmmjbpeocaaGreatDoorKaz
set_option linter.unusedVariables false
set_option linter.unusedSimpArgs false
set_option maxRecDepth 100000
set_option maxHeartbeats 16000000
namespace Go.Proofs.YtbadjmmjbpeocaaGreatDoor
open Go Go.RowKit
theorem zJu {α β:Type}{r:YQ α}{f:α→YQ β}{y:β}(h:r.bind f=.ok y):∃x,r=.ok x∧f x=.ok y:=by
 cases r with
 | ok x=>exact⟨x,rfl,h⟩
 | err i e=>cases h
theorem zPM {α β:Type}{r:YQ α}{f:α→YQ β}{i:Nat}{e:Int}(h:r.bind f=.err i e):r=.err i e∨∃x,r=.ok x∧f x=.err i e:=by
 cases r with
 | ok x=>exact .inr ⟨x,rfl,h⟩
 | err j d=>
  injection h with a b;subst a;subst b;exact .inl rfl
structure zUA (t:List Nd)(K:List Nat)(s:Nr):Prop where
 vars:s.vars=[]
 blocks:s.blocks=[]
 procs:∀p ∈ s.procs,p.vars=[]∧p.params=0∧p.root ∈ K∧(xC t p.root).kind≠2
theorem zKe {t:List Nd}:∀(l:List Nat) (cs:List Bs) (s:Nr) (x:List Bs × Nr),zAr t l cs s=.ok x→x.2.vars=s.vars∧x.2.blocks=s.blocks∧x.2.procs=s.procs
 | [],cs,s,x,h=>by injection h with h; subst h; exact⟨rfl,rfl,rfl⟩
 | k::l,cs,s,x,h=>by
  unfold zAr at h
  split at h
  ·cases h
  ·obtain⟨a,b,c⟩:=zKe l _ _ x h;exact⟨a,b,c⟩
theorem zPy {t:List Nd}{K:List Nat}:∀(l:List Nat) (s s':Nr),(∀k ∈ l,k ∈ K)→zUA t K s→XF t l s=.ok s'→zUA t K s'
 | [],s,s',_,h,e=>by injection e with e; subst e; exact h
 | k::l,s,s',hK,h,e=>by
  unfold XF at e;obtain⟨x,e1,e2⟩:=zJu e;refine zPy l x s' (fun k hk=>hK k (by simp[hk])) ?_ e2
  by_cases hk:(xC t k).kind=2
  ·rw[if_pos hk] at e1;unfold JQ at e1
   split at e1
   ·cases e1
   ·split at e1
    ·obtain⟨y,e3,e4⟩:=zJu e1;injection e4 with e4;subst e4;obtain⟨a,b,c⟩:=zKe _ _ _ _ e3;exact⟨a.trans h.vars,b.trans h.blocks,by show ∀p ∈ y.2.procs,_; rw[c]; exact h.procs⟩
    ·cases e1
  ·rw[if_neg hk] at e1;unfold zCi at e1
   split at e1
   ·cases e1
   ·split at e1
    ·injection e1 with e1;subst e1;refine⟨h.vars,h.blocks,fun p hp=>?_⟩
     rcases List.mem_append.1 hp with hp | hp
     ·exact h.procs p hp
     ·rw[yN] at hp;subst hp;exact⟨rfl,rfl,hK k (by simp),hk⟩
    ·cases e1
theorem zTJ {t:List Nd}{j na nb:Nat}{s:Nr}{p:Np}(hp:s.procs[j]?=some p)(hk:(xC t p.root).kids=[na,nb]):zFO t j s=(jQ (zFa t t.length na nb) { s with vars:=[] }).bind fun s2=>.ok { s2 with procs:=s2.procs.set j { p with params:=(xC t na).kids.length,vars:=s2.vars } }:=by
 unfold zFO;rw[hp];simp only[YI,hk,List.getD_cons_zero,List.getD_cons_succ]
 rfl
theorem zPZ {t:List Nd}(R:VA t){f na nb:Nat}{s s':Nr}(h:jQ (zFa t f na nb) s=.ok s'):s'.xH=s.xH∧s'.procs=s.procs∧s'.of.length=s.of.length∧s'.blocks=s.blocks:=by
 refine zGY (fun a b ha hab=>?_) h;unfold zFa at hab;obtain⟨x,e1,e2⟩:=zJu hab;have k1:=zDD _ _ _ ha e1;exact k1.trans (zAA (fun k a b h1 h2=>zBe R f k a b h1 h2) k1.ne e2)
def stN (S:StH)(R:DyH)(bp n:Nat):StN:=⟨S.a,S.p,S.bo,S.co,S.A,S.ct,S.l,R.At,R.cT,R.th,R.Ac,R.cc,R.cm,S.mt,bp,R.cP,n,S.B⟩
theorem BI.start {w:World}{S:StH}{s:Nr}{R:DyH}(h:NH w S s R)(hn:0<s.procs.length)(hb:s.blocks=[])(hv:∀p ∈ s.procs,p.vars=[]∧p.params=0) :
  ∃bp pc,R.Ap=some ⟨bp,0,none⟩∧S.B≤bp∧BI w (stN S R bp s.procs.length) s 0 pc none 0 (hp s.procs):=by
 have hne:zCk (hp s.procs)≠[]:=fun e=>by
  have:=congrArg List.length e
  rw[zAW,zLK] at this;simp only[zL] at this;omega
 obtain⟨bp,e1,e2,cur,hcur⟩:=zF9 h.procs hne;refine⟨bp,cur,e1,e2,?_⟩
 have hmb:∀b,MB (stN S R bp s.procs.length) none b→b=S.a∨b=S.bo∨b=bp:=fun b hb=>by
  rcases hb with e | e | e | e
  ·exact .inl e
  ·exact .inr (.inl e)
  ·exact .inr (.inr e)
  ·cases e
 have hmine:∀b,MB (stN S R bp s.procs.length) none b→jC S R b:=fun b hb=>by
  rcases hmb b hb with rfl | rfl | rfl
  ·exact .inl rfl
  ·exact .inr (.inr (.inl rfl))
  ·exact .inr (.inr (.inr (.inr (.inr (.inr e1)))))
 have hty:∀(b:Nat) (t:TypeId) (c:Array Value),Blk w b t c→t≠86→t≠3→t≠42→¬MB (stN S R bp s.procs.length) none b:=fun b t c hc h1 h2 h3 hm=>by
  rcases hmb b hm with rfl | rfl | rfl
  ·exact Blk.differ hc h.rd h1 rfl
  ·exact Blk.differ hc h.of h2 rfl
  ·exact Blk.differ hc hcur h3 rfl
 have hsafe:∀ {t:TypeId} {sz n c:Nat} {A:Option Addr} {xs:List Value},w.ownsRow S.B t sz (.slice A n c) n xs→t≠86→t≠3→t≠42→XE w (MB (stN S R bp s.procs.length) none) A xs:=fun {t sz n c A xs} ho h1 h2 h3=>by
  by_cases hx:xs=[]
  ·exact .inl hx
  ·rcases Cells.own ho with hc | ⟨b,off,a1,a2,a3⟩
   ·exact .inl hc
   ·obtain⟨b',a4,_,c2,hc2⟩:=zF9 ho hx;rw[a1] at a4;injection a4 with a4;injection a4 with a4;subst a4;exact .inr ⟨b,off,a1,a2,hty b t c2 hc2 h1 h2 h3,a3⟩
 refine⟨⟨⟨?_,hty _ _ _ h.pg (by decide) (by decide) (by decide)⟩,h.tree.xG (zBf hmine),hsafe h.zA2 (by decide) (by decide) (by decide),h.thl,hsafe h.zFl (by decide) (by decide) (by decide),h.cml,fun k b x a1 a2=>(h.zD8 k b x a1 a2).xG (zBf hmine),⟨h.mt.mono h.zRw,fun hm=>?_⟩⟩,⟨_,h.rd⟩,h.of,h.len,hcur,zR _ _ _ _,h.low,hb,by unfold hp; rw[List.map_map]; exact List.map_id _,fun i hi=>?_,fun i x hi=>absurd hi (Nat.not_lt_zero _),fun i x _ e=>?_,fun k x y a1 a2=>(h.zII k x y a1 a2).xG (zBf hmine)⟩
 ·show Blk w S.p 35 #[.slice S.A S.l.length S.ct,.slice R.At s.xH.length R.cT,.slice (some ⟨bp,0,none⟩) s.procs.length R.cP,.slice (some ⟨S.bo,0,none⟩) S.l.length S.co]
  rw[←e1];exact h.pg
 ·rcases hmb _ hm with e | e | e
  ·exact h.mt.ne h.rd e
  ·exact h.mt.ne h.of e
  ·exact h.mt.ne hcur e
 ·have h1:=hcur.cell i;have h2:=h.procs;rw[e1] at h2;have h3:=h2.cellAt i (by rw[zLK] at hi; exact hi);exact h1.symm.trans h3
 ·unfold hp at e;rw[zN] at e
  cases hq:s.procs[i]? with
  | none=>rw[hq] at e; cases e
  | some p=>
   rw[hq] at e;injection e with e;subst e;obtain⟨a,b⟩:=hv p (yB hq);exact⟨rfl,a,b⟩
theorem zRc {ps:List Pw}{j n:Nat}{vars:List Bs}{Av:Option Addr}{cv:Nat}(hj:j<ps.length):(zAG ps j n vars Av cv).map Prod.fst=(ps.map Prod.fst).set j { ps[j].1 with params:=n,vars:=vars }:=by
 apply List.ext_getElem?;intro i;unfold zAG;rw[zN,List.getElem?_modify,List.getElem?_set,yQ,zN]
 by_cases hij:j=i
 ·subst hij;simp[hj]
 ·simp[hij]
theorem zOB {ps:List Pw}{j n:Nat}{vars:List Bs}{Av:Option Addr}{cv:Nat}{x:Pw}(hx:x ∈ zAG ps j n vars Av cv):∃y ∈ ps,y.1.root=x.1.root:=by
 obtain⟨i,hi⟩:=List.mem_iff_getElem?.1 hx;unfold zAG at hi;rw[List.getElem?_modify] at hi
 try simp only[Option.map_eq_map] at hi
 obtain⟨y,hy,rfl⟩:=Option.map_eq_some_iff.1 hi;refine⟨y,yB hy,?_⟩
 by_cases h:j=i
 ·rw[if_pos h]
 ·rw[if_neg h]
theorem zOa {t:List Nd}{n k:Nat}{s:Nr}(hk:k<n)(hn:s.procs.length=n):JX t (n-k) k s=(zFO t k s).bind (JX t (n-(k+1)) (k+1)):=by
 rw[show n-k=(n-(k+1))+1 by omega]
 show(if k<s.procs.length then _ else _)=_
 rw[if_pos (by omega)]
theorem zOC {t:List Nd}{n:Nat}{s:Nr}:JX t (n-n) n s=.ok s:=by rw[Nat.sub_self]; rfl
theorem zKW {w1 wc w6:World}{M M':Nat→Prop}(hx:Ext w1 wc)(mv:xD wc M w6 M')(hm:∀b,M b→w1.heap.size≤b):Ext w1 w6:=
 ⟨mv.os.trans hx.os,mv.tape.trans hx.tape,mv.output.trans hx.output,Nat.le_trans hx.size mv.size,fun b hb=>(mv.jL b (yU hb hx.size) fun h=>by have:=hm b h; omega).trans (hx.block b hb)⟩
end Go.Proofs.YtbadjmmjbpeocaaGreatDoor
namespace Go.Proofs.YtbadjmmjbpeocaaGreatDoor
def E0 {α:Type}(r:YQ α):Prop:=∀i e,r=.err i e→e≠0
theorem zAp {α:Type}(x:α):E0 (.ok x:YQ α):=fun i e h=>by cases h
theorem zAV {α:Type}(i:Nat)(e:Int)(h:e≠0):E0 (.err i e:YQ α):=fun j d k=>by injection k with _ k; rw[←k]; exact h
theorem XN {α β:Type}{r:YQ α}{f:α→YQ β}(h:E0 r)(k:∀x,E0 (f x)):E0 (r.bind f):=fun i e he=>by
 rcases zPM he with he | ⟨x,_,he⟩
 ·exact h i e he
 ·exact k x i e he
theorem XQ {α:Type}{c:Prop} [Decidable c] {a b:YQ α}(h:E0 a)(k:E0 b):E0 (if c then a else b):=by
 split
 ·exact h
 ·exact k
theorem zPi {t:List Nd}:∀(l:List Nat) (cs:List Bs) (s:Nr),E0 (zAr t l cs s)
 | [],cs,s=>zAp _
 | k::l,cs,s=>by unfold zAr; exact XQ (zAV _ _ (by decide)) (zPi l _ _)
theorem zRF {t:List Nd}(i:Nat)(s:Nr):E0 (JQ t i s):=by
 unfold JQ;exact XQ (zAV _ _ (by decide)) (XQ (XN (zPi _ _ _) fun x=>zAp _) (zAV _ _ (by decide)))
theorem zUf {t:List Nd}(i:Nat)(s:Nr):E0 (zCi t i s):=by
 unfold zCi;exact XQ (zAV _ _ (by decide)) (XQ (zAp _) (zAV _ _ (by decide)))
theorem zMo {t:List Nd}:∀(l:List Nat) (s:Nr),E0 (XF t l s)
 | [],s=>zAp _
 | k::l,s=>by
  unfold XF;refine XN ?_ fun x=>zMo l x
  split
  ·exact zRF _ _
  ·exact zUf _ _
theorem zFk {t:List Nd}(i:Nat)(b:Bool)(s:Nr):E0 (vT t i b s):=by
 unfold vT;exact XQ (zAp _) (zAV _ _ (by decide))
theorem zQH {t:List Nd}(i:Nat)(s:Nr):E0 (ZR t i s):=by
 unfold ZR
 split
 ·exact zFk _ _ _
 ·exact XQ (zAV _ _ (by decide)) (zAp _)
theorem zGm {does:Nn}(h:∀s,E0 (does s))(s:Nr):E0 (jQ does s):=by
 unfold jQ;exact XN (h _) fun x=>zAp _
theorem zO2 {t:List Nd}(i:Nat)(s:Nr):E0 (ofN t i s):=by
 unfold ofN
 split
 ·exact zAV _ _ (by decide)
 ·exact zAp _
theorem zKA {t:List Nd}(i:Nat)(x:Int)(s:Nr):E0 (ZH t i x s):=by
 unfold ZH
 split
 ·exact zAV _ _ (by decide)
 ·exact zAp _
theorem zEN {one:Nat→Nn}(h:∀k s,E0 (one k s)):∀(l:List Nat) (s:Nr),E0 (vD one l s)
 | [],s=>zAp _
 | k::l,s=>by unfold vD; exact XN (h k s) fun x=>zEN h l x
theorem zF3 {t:List Nd}:∀(f i:Nat) (s:Nr),E0 (xX t f i s)
 | 0,i,s=>zAp _
 | f+1,i,s=>by
  unfold xX;refine XN (XQ ?_ (XQ (zO2 _ _) (zAp _))) fun x=>zEN (fun k s=>zF3 f k s) _ _
  split
  ·exact zAV _ _ (by decide)
  ·exact zAp _
theorem zIM {t:List Nd}{st:Nat→Nn}(h:∀k s,E0 (st k s))(i:Nat)(top:Bool)(s:Nr):E0 (jN t st i top s):=by
 unfold jN;exact zGm (fun s=>zEN (fun k s=>XQ (h k s) (zAV _ _ (by decide))) _ _) s
theorem zTT {t:List Nd}(i:Nat)(s:Nr):E0 (ZC t i s):=by
 unfold ZC;exact XQ (zQH _ _) (zAp _)
theorem zLF {t:List Nd}:∀(f i:Nat) (s:Nr),E0 (vF t f i s)
 | 0,i,s=>zAp _
 | f+1,i,s=>by
  unfold vF;refine XN (XQ ?_ (XQ ?_ (XQ ?_ (XQ ?_ ?_)))) fun x=>zTT _ _
  ·exact XN (zF3 _ _ _) fun x=>XN (zKA _ _ _) fun y=>zEN (fun k s=>zF3 _ k s) _ _
  ·exact XN (zO2 _ _) fun x=>XN (XQ (zAp _) (zAV _ _ (by decide))) fun y=>zEN (fun k s=>zF3 _ k s) _ _
  ·exact XN (zO2 _ _) fun x=>zKA _ _ _
  ·exact XQ (zAV _ _ (by decide)) (zGm (fun s=>XN (zFk _ _ _) fun y=>zIM (fun k s=>zLF f k s) _ _ _) _)
  ·exact zEN (fun k s=>XQ (zO2 _ _) (XQ (zIM (fun k s=>zLF f k s) _ _ _) (zF3 _ _ _))) _ _
theorem zJ3 {t:List Nd}:∀(l:List Nat) (s:Nr),E0 (ZP t l s)
 | [],s=>zAp _
 | k::l,s=>by unfold ZP; exact XQ (zAV _ _ (by decide)) (XN (zFk _ _ _) fun x=>zJ3 l x)
theorem zTb {t:List Nd}(j:Nat)(s:Nr):E0 (zFO t j s):=by
 unfold zFO
 split
 ·exact zAp _
 ·exact XN (zGm (fun s=>XN (zJ3 _ _) fun x=>zIM (fun k s=>zLF _ k s) _ _ _) _) fun x=>zAp _
theorem zKn {t:List Nd}:∀(f j:Nat) (s:Nr),E0 (JX t f j s)
 | 0,j,s=>zAp _
 | f+1,j,s=>by unfold JX; exact XQ (XN (zTb _ _) fun x=>zKn f _ x) (zAp _)
theorem zLD {t:List Nd}(i:Nat)(e:Int)(h:jK t=.err i e):e≠0:=by
 unfold jK at h;exact XN (zMo _ _) (fun x=>zKn _ _ _) i e h
end Go.Proofs.YtbadjmmjbpeocaaGreatDoor
namespace Go.Proofs.YtbadjmmjbpeocaaGreatDoor
open Go Go.RowKit
structure zP1 (w:World)(M:Nat→Prop)(A At Ap:Option Addr)(l:List Tx)(th:List Hd2)(ps:List Pw)(bo:Nat)(s:Nr):Prop where
 tree:zAT w M A l
 zA2:XE w M At (JI s.xH th)
 thl:th.length=s.xH.length
 zII:∀(k:Nat) (x:Nt) (h:Hd2),s.xH[k]?=some x→th[k]?=some h→XE w M h.1 (strs x.zA0)
 procs:XE w M Ap (zCk ps)
 psl:ps.map Prod.fst=s.procs
 vars:∀x ∈ ps,XE w M x.2.1 (strs x.1.vars)
 of:XE w M (some ⟨bo,0,none⟩) (ofc s.of)
 len:s.of.length=l.length
theorem zP1.xG {w w':World}{M M':Nat→Prop}{A At Ap:Option Addr}{l:List Tx}{th:List Hd2}{ps:List Pw}{bo:Nat}{s:Nr}(h:zP1 w M A At Ap l th ps bo s)(k:xD w M w' M'):zP1 w' M' A At Ap l th ps bo s:=
 ⟨h.tree.xG k,h.zA2.xG k,h.thl,fun i x y e1 e2=>(h.zII i x y e1 e2).xG k,h.procs.xG k,h.psl,fun x hx=>(h.vars x hx).xG k,h.of.xG k,h.len⟩
def okv:Value→Prop
 | .slice _ _ _=>True
 | .nilIface=>True
 | _=>False
theorem XE.other {w:World}{M:Nat→Prop}{A:Option Addr}{cs:List Value}(h:XE w M A cs){G:Nat→Prop}(hG:∀b,G b→∃t cells,Blk w b t cells∧∀u ∈ cells.toList,okv u)(hc:∀u,cs[0]?=some u→¬okv u):XE w G A cs:=by
 rcases h with h | ⟨b,off,e1,e2,e3,e4⟩
 ·exact .inl h
 ·by_cases hn:cs=[]
  ·exact .inl hn
  ·refine .inr ⟨b,off,e1,e2,fun hg=>?_,e4⟩;obtain⟨t,cells,hb,ho⟩:=hG b hg;have hl:0<cs.length:=List.length_pos_iff.2 hn;have h0:=e4 0 hl;rw[hb.cell,yJ hl] at h0
   exact hc _ (yJ hl) (ho _ (by
    have:=Array.mem_of_getElem? h0
    simpa using this))
theorem zRk {l:List Nat}:∀u,(ints l)[0]?=some u→¬okv u:=fun u h=>by
 cases l with
 | nil=>cases h
 | cons x l=>injection h with h; subst h; exact fun h=>h
theorem zIQ {l:List Bs}:∀u,(strs l)[0]?=some u→¬okv u:=fun u h=>by
 cases l with
 | nil=>cases h
 | cons x l=>injection h with h; subst h; exact fun h=>h
theorem zUb {l:List Tx}:∀u,(tcs l)[0]?=some u→¬okv u:=fun u h=>by
 cases l with
 | nil=>cases h
 | cons x l=>injection h with h; subst h; exact fun h=>h
theorem zP5 {l:List Nt}{th:List Hd2}:∀u,(JI l th)[0]?=some u→¬okv u:=fun u h=>by
 cases l with
 | nil=>cases h
 | cons x l=>
  cases th with
  | nil=>cases h
  | cons y th=>injection h with h; subst h; exact fun h=>h
theorem zAT.other {w:World}{M:Nat→Prop}{A:Option Addr}{l:List Tx}(h:zAT w M A l){G:Nat→Prop}(hG:∀b,G b→∃t cells,Blk w b t cells∧∀u ∈ cells.toList,okv u):zAT w G A l:=
 ⟨h.row.other hG zUb,fun x hx=>(h.kids x hx).other hG zRk,h.text,h.zUw⟩
def GE2 (gt ge:Nat)(b:Nat):Prop:=b=gt∨b=ge
theorem zLT {w:World}{gt ge:Nat}(hp:Blk w gt 35 zAE)(he:Blk w ge 28 #[.nilIface]):∀b,GE2 gt ge b→∃t cells,Blk w b t cells∧(t=35∨t=28)∧∀u ∈ cells.toList,okv u:=fun b hb=>by
 rcases hb with rfl | rfl
 ·refine⟨_,_,hp,.inl rfl,fun u hu=>?_⟩;unfold zAE at hu;simp only[zU,List.not_mem_nil,or_false,or_self] at hu;subst hu
  trivial
 ·refine⟨_,_,he,.inr rfl,fun u hu=>?_⟩;simp only[zU,List.not_mem_nil,or_false] at hu;subst hu
  trivial
theorem zK1 {w w8:World}{gt ge:Nat}{v:Value}(h:Touch gt w w8):xD w (GE2 gt ge) (w8.setCell ⟨ge,0,none⟩ v) (GE2 gt ge):=
 ⟨h.os,h.tape,h.output,by simp[World.setCell,h.size],fun b hb hn=>(zS w8 ⟨ge,0,none⟩ v b fun e=>hn (.inr e)).trans (h.other b fun e=>hn (.inl e)),fun b h=>.inl h⟩
theorem BI.prg {w:World} {gt ge:Nat} (hp:Blk w gt 35 zAE) (he:Blk w ge 28 #[.nilIface]) {T:StN}{s:Nr}{j:Nat}{pc:Array Value}{Ab:Option Addr}{cb:Nat}{ps:List Pw}(h:BI w T s j pc Ab cb ps)(hj:ps.length≤j):zP1 w (GE2 gt ge) T.A T.At (some ⟨T.bp,0,none⟩) T.l T.th ps T.bo s:=by
 have hG:∀b,GE2 gt ge b→∃t cells,Blk w b t cells∧∀u ∈ cells.toList,okv u:=fun b hb=>let ⟨t,c,a,_,d⟩:=zLT hp he b hb; ⟨t,c,a,d⟩
 have hty:∀(b:Nat) (t:TypeId) (c:Array Value),Blk w b t c→t≠35→t≠28→¬GE2 gt ge b:=fun b t c hc h1 h2 hb=>by
  obtain⟨t',c',a,e,_⟩:=zLT hp he b hb
  rcases e with rfl | rfl
  ·exact Blk.differ hc a h1 rfl
  ·exact Blk.differ hc a h2 rfl
 refine⟨h.st.tree.other hG,h.st.zA2.other hG zP5,h.st.thl,fun k x y e1 e2=>(h.tk k x y e1 e2).other hG zIQ,?_,h.psl,fun x hx=>?_,?_,h.len⟩
 ·refine .inr ⟨T.bp,0,rfl,h.pr.lt,hty _ _ _ h.pr (by decide) (by decide),fun k hk=>?_⟩;rw[Nat.zero_add,h.pr.cell k];exact h.pcs k (by rw[zAW] at hk; exact hk)
 ·obtain⟨i,hi,rfl⟩:=List.getElem_of_mem hx;exact(h.dn i _ (by omega) (yJ hi)).other hG zIQ
 ·refine .inr ⟨T.bo,0,rfl,h.of.lt,hty _ _ _ h.of (by decide) (by decide),fun k hk=>?_⟩;rw[Nat.zero_add,h.of.cell k]
  simp
theorem NH.prg {w:World} {gt ge:Nat} (hp:Blk w gt 35 zAE) (he:Blk w ge 28 #[.nilIface]) {S:StH}{s:Nr}{R:DyH}(h:NH w S s R)(hn:s.procs=[]):zP1 w (GE2 gt ge) S.A R.At R.Ap S.l R.th [] S.bo s:=by
 have hG:∀b,GE2 gt ge b→∃t cells,Blk w b t cells∧∀u ∈ cells.toList,okv u:=fun b hb=>let ⟨t,c,a,_,d⟩:=zLT hp he b hb; ⟨t,c,a,d⟩
 have hty:∀(b:Nat) (t:TypeId) (c:Array Value),Blk w b t c→t≠35→t≠28→¬GE2 gt ge b:=fun b t c hc h1 h2 hb=>by
  obtain⟨t',c',a,e,_⟩:=zLT hp he b hb
  rcases e with rfl | rfl
  ·exact Blk.differ hc a h1 rfl
  ·exact Blk.differ hc a h2 rfl
 refine⟨h.tree.other hG,?_,h.thl,fun k x y e1 e2=>(h.zII k x y e1 e2).other hG zIQ,.inl rfl,by rw[hn]; rfl,fun x hx=>(by cases hx),?_,h.len⟩
 ·by_cases hx:JI s.xH R.th=[]
  ·exact .inl hx
  ·rcases Cells.own h.zA2 with hc | ⟨b,off,a1,a2,a3⟩
   ·exact .inl hc
   ·obtain⟨b',a4,_,c2,hc2⟩:=zF9 h.zA2 hx;rw[a1] at a4;injection a4 with a4;injection a4 with a4;subst a4;exact .inr ⟨b,off,a1,a2,hty b _ c2 hc2 (by decide) (by decide),a3⟩
 ·refine .inr ⟨S.bo,0,rfl,h.of.lt,hty _ _ _ h.of (by decide) (by decide),fun k hk=>?_⟩;rw[Nat.zero_add,h.of.cell k]
  simp
end Go.Proofs.YtbadjmmjbpeocaaGreatDoor
