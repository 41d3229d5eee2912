/- The reader of names: from the heads to the bodies; what heads and bodies leave, in plain Lean. (and what follows of it). The conditions stand at each lemma. -/
import Derived.Test.YtbadjmmjbpeocaaGreatKaa
import Derived.Test.YtbadjmmjbpeocaaGreatKbj
import Derived.Test.YtbadjmmjbpeocaaGreatKaz
set_option linter.unusedVariables false
set_option linter.unusedSimpArgs false
set_option maxRecDepth 100000
set_option maxHeartbeats 16000000
namespace Go.Proofs.YtbadjmmjbpeocaaGreat
open Go Go.RowKit
theorem zIL {α β:Type}{r:YU α}{f:α→YU β}{y:β}(h:r.bind f=.ok y):∃x,r=.ok x∧f x=.ok y:=by
 cases r with
 | ok x=>exact⟨x,rfl,h⟩
 | err i e=>cases h
theorem zPU {α β:Type}{r:YU α}{f:α→YU β}{i:Nat}{e:Int}(h:r.bind f=.err i e):r=.err i e∨∃x,r=.ok x∧f x=.err i e:=by
 cases r with
 | ok x=>exact .inr ⟨x,rfl,h⟩
 | err j d=>
  injection h with a b;subst a;subst b;exact .inl rfl
structure zUh (t:List Nd)(K:List Nat)(s:Nr):Prop where
 vars:s.vars=[]
 blocks:s.blocks=[]
 procs:∀p ∈ s.procs,p.vars=[]∧p.params=0∧p.root ∈ K∧(xB t p.root).kind≠2
theorem zKB {t:List Nd}:∀(l:List Nat) (cs:List Bs) (s:Nr) (x:List Bs × Nr),zAq t l cs s=.ok x→x.2.vars=s.vars∧x.2.blocks=s.blocks∧x.2.procs=s.procs
 | [],cs,s,x,h=>by injection h with h; subst h; exact⟨rfl,rfl,rfl⟩
 | k::l,cs,s,x,h=>by
  unfold zAq at h
  split at h
  ·cases h
  ·obtain⟨a,b,c⟩:=zKB l _ _ x h;exact⟨a,b,c⟩
theorem zPH {t:List Nd}{K:List Nat}:∀(l:List Nat) (s s':Nr),(∀k ∈ l,k ∈ K)→zUh t K s→XI t l s=.ok s'→zUh t K s'
 | [],s,s',_,h,e=>by injection e with e; subst e; exact h
 | k::l,s,s',hK,h,e=>by
  unfold XI at e;obtain⟨x,e1,e2⟩:=zIL e;refine zPH l x s' (fun k hk=>hK k (by simp[hk])) ?_ e2
  by_cases hk:(xB t k).kind=2
  ·rw[if_pos hk] at e1;unfold JU at e1
   split at e1
   ·cases e1
   ·split at e1
    ·obtain⟨y,e3,e4⟩:=zIL e1;injection e4 with e4;subst e4;obtain⟨a,b,c⟩:=zKB _ _ _ _ e3;exact⟨a.trans h.vars,b.trans h.blocks,by show ∀p ∈ y.2.procs,_; rw[c]; exact h.procs⟩
    ·cases e1
  ·rw[if_neg hk] at e1;unfold zB2 at e1
   split at e1
   ·cases e1
   ·split at e1
    ·injection e1 with e1;subst e1;refine⟨h.vars,h.blocks,fun p hp=>?_⟩
     rcases List.mem_append.1 hp with hp | hp
     ·exact h.procs p hp
     ·rw[yN] at hp;subst hp;exact⟨rfl,rfl,hK k (by simp),hk⟩
    ·cases e1
theorem zTv {t:List Nd}{j na nb:Nat}{s:Nr}{p:Np}(hp:s.procs[j]?=some p)(hk:(xB t p.root).kids=[na,nb]):zFY t j s=(jQ (zFi t t.length na nb) { s with vars:=[] }).bind fun s2=>.ok { s2 with procs:=s2.procs.set j { p with params:=(xB t na).kids.length,vars:=s2.vars } }:=by
 unfold zFY;rw[hp];simp only[ZL,hk,List.getD_cons_zero,List.getD_cons_succ]
 rfl
theorem zP4 {t:List Nd}(R:XK t){f na nb:Nat}{s s':Nr}(h:jQ (zFi t f na nb) s=.ok s'):s'.xG=s.xG∧s'.procs=s.procs∧s'.of.length=s.of.length∧s'.blocks=s.blocks:=by
 refine zG2 (fun a b ha hab=>?_) h;unfold zFi at hab;obtain⟨x,e1,e2⟩:=zIL hab;have k1:=zDJ _ _ _ ha e1;exact k1.trans (zAA (fun k a b h1 h2=>zA9 R f k a b h1 h2) k1.ne e2)
def stN (S:StH)(R:DyH)(bp n:Nat):StN:=⟨S.a,S.p,S.bo,S.co,S.A,S.ct,S.l,R.At,R.cT,R.th,R.Ac,R.cc,R.cm,S.mt,bp,R.cP,n,S.B⟩
theorem BI.start {w:World}{S:StH}{s:Nr}{R:DyH}(h:NH w S s R)(hn:0<s.procs.length)(hb:s.blocks=[])(hv:∀p ∈ s.procs,p.vars=[]∧p.params=0) :
  ∃bp pc,R.Ap=some ⟨bp,0,none⟩∧S.B≤bp∧BI w (stN S R bp s.procs.length) s 0 pc none 0 (hp s.procs):=by
 have hne:zB4 (hp s.procs)≠[]:=fun e=>by
  have:=congrArg List.length e
  rw[zEx,zL8] at this;simp only[zL] at this;omega
 obtain⟨bp,e1,e2,cur,hcur⟩:=zGl h.procs hne;refine⟨bp,cur,e1,e2,?_⟩
 have hmb:∀b,MB (stN S R bp s.procs.length) none b→b=S.a∨b=S.bo∨b=bp:=fun b hb=>by
  rcases hb with e | e | e | e
  ·exact .inl e
  ·exact .inr (.inl e)
  ·exact .inr (.inr e)
  ·cases e
 have hmine:∀b,MB (stN S R bp s.procs.length) none b→jB S R b:=fun b hb=>by
  rcases hmb b hb with rfl | rfl | rfl
  ·exact .inl rfl
  ·exact .inr (.inr (.inl rfl))
  ·exact .inr (.inr (.inr (.inr (.inr (.inr e1)))))
 have hty:∀(b:Nat) (t:TypeId) (c:Array Value),Blk w b t c→t≠115→t≠3→t≠85→¬MB (stN S R bp s.procs.length) none b:=fun b t c hc h1 h2 h3 hm=>by
  rcases hmb b hm with rfl | rfl | rfl
  ·exact Blk.differ hc h.rd h1 rfl
  ·exact Blk.differ hc h.of h2 rfl
  ·exact Blk.differ hc hcur h3 rfl
 have hsafe:∀ {t:TypeId} {sz n c:Nat} {A:Option Addr} {xs:List Value},w.ownsRow S.B t sz (.slice A n c) n xs→t≠115→t≠3→t≠85→XH w (MB (stN S R bp s.procs.length) none) A xs:=fun {t sz n c A xs} ho h1 h2 h3=>by
  by_cases hx:xs=[]
  ·exact .inl hx
  ·rcases Cells.own ho with hc | ⟨b,off,a1,a2,a3⟩
   ·exact .inl hc
   ·obtain⟨b',a4,_,c2,hc2⟩:=zGl ho hx;rw[a1] at a4;injection a4 with a4;injection a4 with a4;subst a4;exact .inr ⟨b,off,a1,a2,hty b t c2 hc2 h1 h2 h3,a3⟩
 refine⟨⟨⟨?_,hty _ _ _ h.pg (by decide) (by decide) (by decide)⟩,h.tree.xE (zBa hmine),hsafe h.zBP (by decide) (by decide) (by decide),h.thl,hsafe h.zFs (by decide) (by decide) (by decide),h.cml,fun k b x a1 a2=>(h.zEg k b x a1 a2).xE (zBa hmine),⟨h.mt.mono h.zRu,fun hm=>?_⟩⟩,⟨_,h.rd⟩,h.of,h.len,hcur,zR _ _ _ _,h.low,hb,by unfold hp; rw[List.map_map]; exact List.map_id _,fun i hi=>?_,fun i x hi=>absurd hi (Nat.not_lt_zero _),fun i x _ e=>?_,fun k x y a1 a2=>(h.zHr k x y a1 a2).xE (zBa hmine)⟩
 ·show Blk w S.p 32 #[.slice S.A S.l.length S.ct,.slice R.At s.xG.length R.cT,.slice (some ⟨bp,0,none⟩) s.procs.length R.cP,.slice (some ⟨S.bo,0,none⟩) S.l.length S.co]
  rw[←e1];exact h.pg
 ·rcases hmb _ hm with e | e | e
  ·exact h.mt.ne h.rd e
  ·exact h.mt.ne h.of e
  ·exact h.mt.ne hcur e
 ·have h1:=hcur.cell i;have h2:=h.procs;rw[e1] at h2;have h3:=h2.cellAt i (by rw[zL8] at hi; exact hi);exact h1.symm.trans h3
 ·unfold hp at e;rw[zN] at e
  cases hq:s.procs[i]? with
  | none=>rw[hq] at e; cases e
  | some p=>
   rw[hq] at e;injection e with e;subst e;obtain⟨a,b⟩:=hv p (yB hq);exact⟨rfl,a,b⟩
theorem zRc {ps:List Pw}{j n:Nat}{vars:List Bs}{Av:Option Addr}{cv:Nat}(hj:j<ps.length):(zAF ps j n vars Av cv).map Prod.fst=(ps.map Prod.fst).set j { ps[j].1 with params:=n,vars:=vars }:=by
 apply List.ext_getElem?;intro i;unfold zAF;rw[zN,List.getElem?_modify,List.getElem?_set,yQ,zN]
 by_cases hij:j=i
 ·subst hij;simp[hj]
 ·simp[hij]
theorem zOP {ps:List Pw}{j n:Nat}{vars:List Bs}{Av:Option Addr}{cv:Nat}{x:Pw}(hx:x ∈ zAF ps j n vars Av cv):∃y ∈ ps,y.1.root=x.1.root:=by
 obtain⟨i,hi⟩:=List.mem_iff_getElem?.1 hx;unfold zAF at hi;rw[List.getElem?_modify] at hi
 try simp only[Option.map_eq_map] at hi
 obtain⟨y,hy,rfl⟩:=Option.map_eq_some_iff.1 hi;refine⟨y,yB hy,?_⟩
 by_cases h:j=i
 ·rw[if_pos h]
 ·rw[if_neg h]
theorem zOq {t:List Nd}{n k:Nat}{s:Nr}(hk:k<n)(hn:s.procs.length=n):JY t (n-k) k s=(zFY t k s).bind (JY t (n-(k+1)) (k+1)):=by
 rw[show n-k=(n-(k+1))+1 by omega]
 show(if k<s.procs.length then _ else _)=_
 rw[if_pos (by omega)]
theorem zOQ {t:List Nd}{n:Nat}{s:Nr}:JY t (n-n) n s=.ok s:=by rw[Nat.sub_self]; rfl
theorem zLj {w1 wc w6:World}{M M':Nat→Prop}(hx:Ext w1 wc)(mv:xC wc M w6 M')(hm:∀b,M b→w1.heap.size≤b):Ext w1 w6:=
 ⟨mv.os.trans hx.os,mv.tape.trans hx.tape,mv.output.trans hx.output,Nat.le_trans hx.size mv.size,fun b hb=>(mv.jK b (yU hb hx.size) fun h=>by have:=hm b h; omega).trans (hx.block b hb)⟩
end Go.Proofs.YtbadjmmjbpeocaaGreat
namespace Go.Proofs.YtbadjmmjbpeocaaGreat
def E0 {α:Type}(r:YU α):Prop:=∀i e,r=.err i e→e≠0
theorem zAo {α:Type}(x:α):E0 (.ok x:YU α):=fun i e h=>by cases h
theorem zAT {α:Type}(i:Nat)(e:Int)(h:e≠0):E0 (.err i e:YU α):=fun j d k=>by injection k with _ k; rw[←k]; exact h
theorem XQ {α β:Type}{r:YU α}{f:α→YU β}(h:E0 r)(k:∀x,E0 (f x)):E0 (r.bind f):=fun i e he=>by
 rcases zPU he with he | ⟨x,_,he⟩
 ·exact h i e he
 ·exact k x i e he
theorem XT {α:Type}{c:Prop} [Decidable c] {a b:YU α}(h:E0 a)(k:E0 b):E0 (if c then a else b):=by
 split
 ·exact h
 ·exact k
theorem zPr {t:List Nd}:∀(l:List Nat) (cs:List Bs) (s:Nr),E0 (zAq t l cs s)
 | [],cs,s=>zAo _
 | k::l,cs,s=>by unfold zAq; exact XT (zAT _ _ (by decide)) (zPr l _ _)
theorem zRD {t:List Nd}(i:Nat)(s:Nr):E0 (JU t i s):=by
 unfold JU;exact XT (zAT _ _ (by decide)) (XT (XQ (zPr _ _ _) fun x=>zAo _) (zAT _ _ (by decide)))
theorem zTX {t:List Nd}(i:Nat)(s:Nr):E0 (zB2 t i s):=by
 unfold zB2;exact XT (zAT _ _ (by decide)) (XT (zAo _) (zAT _ _ (by decide)))
theorem zMJ {t:List Nd}:∀(l:List Nat) (s:Nr),E0 (XI t l s)
 | [],s=>zAo _
 | k::l,s=>by
  unfold XI;refine XQ ?_ fun x=>zMJ l x
  split
  ·exact zRD _ _
  ·exact zTX _ _
theorem zFr {t:List Nd}(i:Nat)(b:Bool)(s:Nr):E0 (vV t i b s):=by
 unfold vV;exact XT (zAo _) (zAT _ _ (by decide))
theorem zQH {t:List Nd}(i:Nat)(s:Nr):E0 (ZU t i s):=by
 unfold ZU
 split
 ·exact zFr _ _ _
 ·exact XT (zAT _ _ (by decide)) (zAo _)
theorem zGs {does:Nn}(h:∀s,E0 (does s))(s:Nr):E0 (jQ does s):=by
 unfold jQ;exact XQ (h _) fun x=>zAo _
theorem zPe {t:List Nd}(i:Nat)(s:Nr):E0 (ofN t i s):=by
 unfold ofN
 split
 ·exact zAT _ _ (by decide)
 ·exact zAo _
theorem zKZ {t:List Nd}(i:Nat)(x:Int)(s:Nr):E0 (ZI t i x s):=by
 unfold ZI
 split
 ·exact zAT _ _ (by decide)
 ·exact zAo _
theorem zEX {one:Nat→Nn}(h:∀k s,E0 (one k s)):∀(l:List Nat) (s:Nr),E0 (vE one l s)
 | [],s=>zAo _
 | k::l,s=>by unfold vE; exact XQ (h k s) fun x=>zEX h l x
theorem zGf {t:List Nd}:∀(f i:Nat) (s:Nr),E0 (xW t f i s)
 | 0,i,s=>zAo _
 | f+1,i,s=>by
  unfold xW;refine XQ (XT ?_ (XT (zPe _ _) (zAo _))) fun x=>zEX (fun k s=>zGf f k s) _ _
  split
  ·exact zAT _ _ (by decide)
  ·exact zAo _
theorem zH1 {t:List Nd}{st:Nat→Nn}(h:∀k s,E0 (st k s))(i:Nat)(top:Bool)(s:Nr):E0 (jN t st i top s):=by
 unfold jN;exact zGs (fun s=>zEX (fun k s=>XT (h k s) (zAT _ _ (by decide))) _ _) s
theorem zTD {t:List Nd}(i:Nat)(s:Nr):E0 (ZC t i s):=by
 unfold ZC;exact XT (zQH _ _) (zAo _)
theorem zL4 {t:List Nd}:∀(f i:Nat) (s:Nr),E0 (vF t f i s)
 | 0,i,s=>zAo _
 | f+1,i,s=>by
  unfold vF;refine XQ (XT ?_ (XT ?_ (XT ?_ (XT ?_ ?_)))) fun x=>zTD _ _
  ·exact XQ (zGf _ _ _) fun x=>XQ (zKZ _ _ _) fun y=>zEX (fun k s=>zGf _ k s) _ _
  ·exact XQ (zPe _ _) fun x=>XQ (XT (zAo _) (zAT _ _ (by decide))) fun y=>zEX (fun k s=>zGf _ k s) _ _
  ·exact XQ (zPe _ _) fun x=>zKZ _ _ _
  ·exact XT (zAT _ _ (by decide)) (zGs (fun s=>XQ (zFr _ _ _) fun y=>zH1 (fun k s=>zL4 f k s) _ _ _) _)
  ·exact zEX (fun k s=>XT (zPe _ _) (XT (zH1 (fun k s=>zL4 f k s) _ _ _) (zGf _ _ _))) _ _
theorem zKp {t:List Nd}:∀(l:List Nat) (s:Nr),E0 (ZR t l s)
 | [],s=>zAo _
 | k::l,s=>by unfold ZR; exact XT (zAT _ _ (by decide)) (XQ (zFr _ _ _) fun x=>zKp l x)
theorem zS5 {t:List Nd}(j:Nat)(s:Nr):E0 (zFY t j s):=by
 unfold zFY
 split
 ·exact zAo _
 ·exact XQ (zGs (fun s=>XQ (zKp _ _) fun x=>zH1 (fun k s=>zL4 _ k s) _ _ _) _) fun x=>zAo _
theorem zKN {t:List Nd}:∀(f j:Nat) (s:Nr),E0 (JY t f j s)
 | 0,j,s=>zAo _
 | f+1,j,s=>by unfold JY; exact XT (XQ (zS5 _ _) fun x=>zKN f _ x) (zAo _)
theorem zL2 {t:List Nd}(i:Nat)(e:Int)(h:jL t=.err i e):e≠0:=by
 unfold jL at h;exact XQ (zMJ _ _) (fun x=>zKN _ _ _) i e h
end Go.Proofs.YtbadjmmjbpeocaaGreat
namespace Go.Proofs.YtbadjmmjbpeocaaGreat
open Go Go.RowKit
structure zLI (w:World)(M:Nat→Prop)(A At Ap:Option Addr)(l:List Tx)(th:List Hd2)(ps:List Pw)(bo:Nat)(s:Nr):Prop where
 tree:zAQ w M A l
 zBP:XH w M At (VB s.xG th)
 thl:th.length=s.xG.length
 zHr:∀(k:Nat) (x:Nt) (h:Hd2),s.xG[k]?=some x→th[k]?=some h→XH w M h.1 (strs x.zAX)
 procs:XH w M Ap (zB4 ps)
 psl:ps.map Prod.fst=s.procs
 vars:∀x ∈ ps,XH w M x.2.1 (strs x.1.vars)
 of:XH w M (some ⟨bo,0,none⟩) (ofc s.of)
 len:s.of.length=l.length
theorem zLI.xE {w w':World}{M M':Nat→Prop}{A At Ap:Option Addr}{l:List Tx}{th:List Hd2}{ps:List Pw}{bo:Nat}{s:Nr}(h:zLI w M A At Ap l th ps bo s)(k:xC w M w' M'):zLI w' M' A At Ap l th ps bo s:=
 ⟨h.tree.xE k,h.zBP.xE k,h.thl,fun i x y e1 e2=>(h.zHr i x y e1 e2).xE k,h.procs.xE k,h.psl,fun x hx=>(h.vars x hx).xE k,h.of.xE k,h.len⟩
def okv:Value→Prop
 | .slice _ _ _=>True
 | .nilIface=>True
 | _=>False
theorem XH.other {w:World}{M:Nat→Prop}{A:Option Addr}{cs:List Value}(h:XH w M A cs){G:Nat→Prop}(hG:∀b,G b→∃t cells,Blk w b t cells∧∀u ∈ cells.toList,okv u)(hc:∀u,cs[0]?=some u→¬okv u):XH w G A cs:=by
 rcases h with h | ⟨b,off,e1,e2,e3,e4⟩
 ·exact .inl h
 ·by_cases hn:cs=[]
  ·exact .inl hn
  ·refine .inr ⟨b,off,e1,e2,fun hg=>?_,e4⟩;obtain⟨t,cells,hb,ho⟩:=hG b hg;have hl:0<cs.length:=List.length_pos_iff.2 hn;have h0:=e4 0 hl;rw[hb.cell,yJ hl] at h0
   exact hc _ (yJ hl) (ho _ (by
    have:=Array.mem_of_getElem? h0
    simpa using this))
theorem zRj {l:List Nat}:∀u,(ints l)[0]?=some u→¬okv u:=fun u h=>by
 cases l with
 | nil=>cases h
 | cons x l=>injection h with h; subst h; exact fun h=>h
theorem zEe {l:List Bs}:∀u,(strs l)[0]?=some u→¬okv u:=fun u h=>by
 cases l with
 | nil=>cases h
 | cons x l=>injection h with h; subst h; exact fun h=>h
theorem zTT {l:List Tx}:∀u,(tcs l)[0]?=some u→¬okv u:=fun u h=>by
 cases l with
 | nil=>cases h
 | cons x l=>injection h with h; subst h; exact fun h=>h
theorem zKz {l:List Nt}{th:List Hd2}:∀u,(VB l th)[0]?=some u→¬okv u:=fun u h=>by
 cases l with
 | nil=>cases h
 | cons x l=>
  cases th with
  | nil=>cases h
  | cons y th=>injection h with h; subst h; exact fun h=>h
theorem zAQ.other {w:World}{M:Nat→Prop}{A:Option Addr}{l:List Tx}(h:zAQ w M A l){G:Nat→Prop}(hG:∀b,G b→∃t cells,Blk w b t cells∧∀u ∈ cells.toList,okv u):zAQ w G A l:=
 ⟨h.row.other hG zTT,fun x hx=>(h.kids x hx).other hG zRj,h.text,h.zUe⟩
def GE2 (gt ge:Nat)(b:Nat):Prop:=b=gt∨b=ge
theorem zMf {w:World}{gt ge:Nat}(hp:Blk w gt 32 XE)(he:Blk w ge 62 #[.nilIface]):∀b,GE2 gt ge b→∃t cells,Blk w b t cells∧(t=32∨t=62)∧∀u ∈ cells.toList,okv u:=fun b hb=>by
 rcases hb with rfl | rfl
 ·refine⟨_,_,hp,.inl rfl,fun u hu=>?_⟩;unfold XE at hu;simp only[zU,List.not_mem_nil,or_false,or_self] at hu;subst hu
  trivial
 ·refine⟨_,_,he,.inr rfl,fun u hu=>?_⟩;simp only[zU,List.not_mem_nil,or_false] at hu;subst hu
  trivial
theorem zLo {w w8:World}{gt ge:Nat}{v:Value}(h:Touch gt w w8):xC w (GE2 gt ge) (w8.setCell ⟨ge,0,none⟩ v) (GE2 gt ge):=
 ⟨h.os,h.tape,h.output,by simp[World.setCell,h.size],fun b hb hn=>(zS w8 ⟨ge,0,none⟩ v b fun e=>hn (.inr e)).trans (h.other b fun e=>hn (.inl e)),fun b h=>.inl h⟩
theorem BI.prg {w:World} {gt ge:Nat} (hp:Blk w gt 32 XE) (he:Blk w ge 62 #[.nilIface]) {T:StN}{s:Nr}{j:Nat}{pc:Array Value}{Ab:Option Addr}{cb:Nat}{ps:List Pw}(h:BI w T s j pc Ab cb ps)(hj:ps.length≤j):zLI w (GE2 gt ge) T.A T.At (some ⟨T.bp,0,none⟩) T.l T.th ps T.bo s:=by
 have hG:∀b,GE2 gt ge b→∃t cells,Blk w b t cells∧∀u ∈ cells.toList,okv u:=fun b hb=>let ⟨t,c,a,_,d⟩:=zMf hp he b hb; ⟨t,c,a,d⟩
 have hty:∀(b:Nat) (t:TypeId) (c:Array Value),Blk w b t c→t≠32→t≠62→¬GE2 gt ge b:=fun b t c hc h1 h2 hb=>by
  obtain⟨t',c',a,e,_⟩:=zMf hp he b hb
  rcases e with rfl | rfl
  ·exact Blk.differ hc a h1 rfl
  ·exact Blk.differ hc a h2 rfl
 refine⟨h.st.tree.other hG,h.st.zBP.other hG zKz,h.st.thl,fun k x y e1 e2=>(h.tk k x y e1 e2).other hG zEe,?_,h.psl,fun x hx=>?_,?_,h.len⟩
 ·refine .inr ⟨T.bp,0,rfl,h.pr.lt,hty _ _ _ h.pr (by decide) (by decide),fun k hk=>?_⟩;rw[Nat.zero_add,h.pr.cell k];exact h.pcs k (by rw[zEx] at hk; exact hk)
 ·obtain⟨i,hi,rfl⟩:=List.getElem_of_mem hx;exact(h.dn i _ (by omega) (yJ hi)).other hG zEe
 ·refine .inr ⟨T.bo,0,rfl,h.of.lt,hty _ _ _ h.of (by decide) (by decide),fun k hk=>?_⟩;rw[Nat.zero_add,h.of.cell k]
  simp
theorem NH.prg {w:World} {gt ge:Nat} (hp:Blk w gt 32 XE) (he:Blk w ge 62 #[.nilIface]) {S:StH}{s:Nr}{R:DyH}(h:NH w S s R)(hn:s.procs=[]):zLI w (GE2 gt ge) S.A R.At R.Ap S.l R.th [] S.bo s:=by
 have hG:∀b,GE2 gt ge b→∃t cells,Blk w b t cells∧∀u ∈ cells.toList,okv u:=fun b hb=>let ⟨t,c,a,_,d⟩:=zMf hp he b hb; ⟨t,c,a,d⟩
 have hty:∀(b:Nat) (t:TypeId) (c:Array Value),Blk w b t c→t≠32→t≠62→¬GE2 gt ge b:=fun b t c hc h1 h2 hb=>by
  obtain⟨t',c',a,e,_⟩:=zMf hp he b hb
  rcases e with rfl | rfl
  ·exact Blk.differ hc a h1 rfl
  ·exact Blk.differ hc a h2 rfl
 refine⟨h.tree.other hG,?_,h.thl,fun k x y e1 e2=>(h.zHr k x y e1 e2).other hG zEe,.inl rfl,by rw[hn]; rfl,fun x hx=>(by cases hx),?_,h.len⟩
 ·by_cases hx:VB s.xG R.th=[]
  ·exact .inl hx
  ·rcases Cells.own h.zBP with hc | ⟨b,off,a1,a2,a3⟩
   ·exact .inl hc
   ·obtain⟨b',a4,_,c2,hc2⟩:=zGl h.zBP hx;rw[a1] at a4;injection a4 with a4;injection a4 with a4;subst a4;exact .inr ⟨b,off,a1,a2,hty b _ c2 hc2 (by decide) (by decide),a3⟩
 ·refine .inr ⟨S.bo,0,rfl,h.of.lt,hty _ _ _ h.of (by decide) (by decide),fun k hk=>?_⟩;rw[Nat.zero_add,h.of.cell k]
  simp
end Go.Proofs.YtbadjmmjbpeocaaGreat
