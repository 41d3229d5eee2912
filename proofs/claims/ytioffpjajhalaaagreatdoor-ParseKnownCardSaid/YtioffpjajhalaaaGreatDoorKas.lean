/- Two readings side by side: the same words, at other places, with other tokens behind, other nodes ahead. (and what follows of it). The conditions stand at each lemma. -/
import Derived.Test.YtioffpjajhalaaaGreatDoorKaa
import Derived.Test.YtioffpjajhalaaaGreatDoorKaq
set_option linter.unusedVariables false
set_option linter.unusedSimpArgs false
set_option maxRecDepth 100000
set_option maxHeartbeats 16000000
namespace Go.Proofs.YtioffpjajhalaaaGreatDoor
structure Cx where
 φ:Nat→Nat
 K:List Nat
 A:List Nd
 R0:Nd
 V:List Tok
 V':List Tok
def Cx.ι (c:Cx)(i:Nat):Nat:=if i=0 then 0 else i+c.A.length
def Cx.mv (c:Cx)(n:Nd):Nd:={ n with pos:=c.φ n.pos,kids:=n.kids.map c.ι }
def Cx.emb (c:Cx):List Nd→List Nd
 | []=>[]
 | r::X=>{ c.R0 with kids:=c.K++r.kids.map c.ι } :: (c.A++X.map c.mv)
def Tw (c:Cx)(t t':Tok):Prop:=t'.kind=t.kind∧t'.text=t.text∧t'.n=t.n∧t'.at_=c.φ t.at_
inductive Pw (c:Cx):List Tok→List Tok→Prop where
 | nil:Pw c [] []
 | cons {t t':Tok} {r r':List Tok} (h:Tw c t t') (k:Pw c r r'):Pw c (t::r) (t'::r')
theorem Cx.zTI (c:Cx){l:List Nd}(h:l≠[]):(c.emb l).length=c.ι l.length:=by
 cases l with
 | nil=>exact absurd rfl h
 | cons r X=>
  unfold Cx.emb Cx.ι
  simp
  omega
theorem Cx.zTX (c:Cx){l:List Nd}(h:l≠[])(x:Nd):c.emb (l++[x])=c.emb l++[c.mv x]:=by
 cases l with
 | nil=>exact absurd rfl h
 | cons r X=>simp[Cx.emb]
theorem zHE {α β:Type}(f:α→β)(g:α→α)(k:β→β)(h:∀x,f (g x)=k (f x)):∀(l:List α) (i:Nat),(l.modify i g).map f=(l.map f).modify i k
 | [],i=>by simp
 | x::l,0=>by simp[h]
 | x::l,i+1=>by simp[zHE f g k h l i]
theorem Cx.zMa (c:Cx)(f f':Nd→Nd)(i:Nat)(h0:i=0→∀r:Nd,({ c.R0 with kids:=c.K++(f r).kids.map c.ι }:Nd)=f' { c.R0 with kids:=c.K++r.kids.map c.ι })(h1:∀n:Nd,c.mv (f n)=f' (c.mv n))(l:List Nd):c.emb (l.modify i f)=(c.emb l).modify (c.ι i) f':=by
 cases l with
 | nil=>simp[Cx.emb]
 | cons r X=>
  cases i with
  | zero=>
   have e:c.ι 0=0:=rfl;rw[e]
   show(_::_:List Nd)=List.modify (_::_) 0 f'
   rw[List.modify_zero_cons];rw[←h0 rfl r]
  | succ i=>
   have e:c.ι (i+1)=(c.A.length+i)+1:=by unfold Cx.ι; rw[if_neg (by omega)]; omega
   rw[e,List.modify_succ_cons]
   show(_::_:List Nd)=List.modify (_::(c.A++X.map c.mv)) (c.A.length+i+1) f'
   rw[List.modify_succ_cons]
   congr 1
   rw[zHE c.mv f f' h1];apply List.ext_getElem
   ·simp
   ·intro j h2 h3;simp only[List.getElem_append,List.getElem_modify]
    by_cases hj:j<c.A.length
    ·rw[dif_pos hj,if_neg (by omega)];simp[hj]
    ·rw[dif_neg hj]
     by_cases AA:i=j-c.A.length
     ·rw[if_pos AA,if_pos (by omega)];simp[hj]
     ·rw[if_neg AA,if_neg (by omega)];simp[hj]
structure Rel (c:Cx)(s s':Ps):Prop where
 zBX:∃r r',s.ts=r++c.V∧s'.ts=r'++c.V'∧Pw c r r'
 ne:s.nd≠[]
 nd:s'.nd=c.emb s.nd
 deep:s'.deep=s.deep
 lst:Lst s
 XQ:Lst s'
def InV {α:Type}(V:List Tok):Res α→Prop
 | .ok _ t=>Lst t∧∃pre,V=pre++t.ts
 | .err e a=>(e=50∨e=51)∧∃t ∈ V,t.at_=a∧(e=51→t.kind≠4)
def InS {α:Type}(V:List Tok):Res α→Prop
 | .ok _ t=>Lst t∧∃pre,V=pre++t.ts∧t.ts.length<V.length
 | .err e a=>(e=50∨e=51)∧∃t ∈ V,t.at_=a∧(e=51→t.kind≠4)
theorem InS.in {α:Type}{V:List Tok}{r:Res α}(h:InS V r):InV V r:=by
 cases r with
 | ok a t=>obtain⟨h1,p,h2,_⟩:=h; exact⟨h1,p,h2⟩
 | err e a=>exact h
theorem xX.inV {α:Type}{s:Ps}{V:List Tok}{r:Res α}(h:xX s r)(e:s.ts=V):InV V r:=by
 subst e
 cases r with
 | ok a t=>exact h
 | err e a=>exact h
theorem ZX.inS {α:Type}{s:Ps}{V:List Tok}{r:Res α}(h:ZX s r)(e:s.ts=V):InS V r:=by
 subst e
 cases r with
 | ok a t=>obtain⟨h1,⟨p,hp⟩,h2⟩:=h; exact⟨h1,p,hp,h2⟩
 | err e a=>exact h
inductive Out {α:Type} (c:Cx) (W:α→α→Prop) (I:List Tok→Res α→Prop) (x x':Res α):Prop where
 | both (a a':α) (t t':Ps) (h:x=.ok a t) (h':x'=.ok a' t') (w:W a a') (r:Rel c t t')
 | fail (e:Int) (p:Nat) (h:x=.err e p) (h':x'=.err e (c.φ p))
 | VI (h:I c.V x) (h':I c.V' x')
def EqU:Unit→Unit→Prop:=fun _ _=>True
abbrev zBz (c:Cx):=@Out Unit c EqU InV
abbrev zHh (c:Cx):=@Out Unit c EqU InS
theorem zHh.u {c:Cx}{x x':Res Unit}(h:zHh c x x'):zBz c x x':=by
 cases h with
 | both a a' t t' h h' w r=>exact .both a a' t t' h h' w r
 | fail e p h h'=>exact .fail e p h h'
 | VI h h'=>exact .VI h.in h'.in
theorem InV.bind {α β:Type}{V:List Tok}{x:Res α}{f:α→Ps→Res β}(h:InV V x)(k:∀a t,x=.ok a t→Lst t→xX t (f a t)):InV V (x.bind f):=by
 cases x with
 | ok a t=>
  obtain⟨h1,p,h2⟩:=h
  have:=k a t rfl h1
  show InV V (f a t)
  cases hr:f a t with
  | ok b u=>
   rw[hr] at this;obtain⟨q,hq⟩:=this.2;exact⟨this.1,p++q,by rw[h2,hq,List.append_assoc]⟩
  | err e q=>
   rw[hr] at this;obtain⟨he,u,hu,AA⟩:=this;exact⟨he,u,by rw[h2]; exact List.mem_append_right _ hu,AA⟩
 | err e a=>exact h
theorem InV.zJw {α β:Type}{V:List Tok}{x:Res α}{f:α→Ps→Res β}(h:InV V x)(k:∀a t,x=.ok a t→Lst t→ZX t (f a t)):InS V (x.bind f):=by
 cases x with
 | ok a t=>
  obtain⟨h1,p,h2⟩:=h
  have:=k a t rfl h1
  show InS V (f a t)
  cases hr:f a t with
  | ok b u=>
   rw[hr] at this;obtain⟨l1,⟨q,hq⟩,l2⟩:=this;exact⟨l1,p++q,by rw[h2,hq,List.append_assoc],by rw[h2,yN]; omega⟩
  | err e q=>
   rw[hr] at this;obtain⟨he,u,hu,AA⟩:=this;exact⟨he,u,by rw[h2]; exact List.mem_append_right _ hu,AA⟩
 | err e a=>exact h
theorem InS.bind {α β:Type}{V:List Tok}{x:Res α}{f:α→Ps→Res β}(h:InS V x)(k:∀a t,x=.ok a t→Lst t→xX t (f a t)):InS V (x.bind f):=by
 cases x with
 | ok a t=>
  obtain⟨h1,p,h2,h3⟩:=h
  have:=k a t rfl h1
  show InS V (f a t)
  cases hr:f a t with
  | ok b u=>
   rw[hr] at this;obtain⟨l1,q,hq⟩:=this
   have hl:u.ts.length≤t.ts.length:=by rw[hq,yN]; omega
   exact⟨l1,p++q,by rw[h2,hq,List.append_assoc],by omega⟩
  | err e q=>
   rw[hr] at this;obtain⟨he,u,hu,AA⟩:=this;exact⟨he,u,by rw[h2]; exact List.mem_append_right _ hu,AA⟩
 | err e a=>exact h
theorem Out.bind {α β:Type}{c:Cx}{W:α→α→Prop}{W2:β→β→Prop}{x x':Res α}{f f':α→Ps→Res β}(h:Out c W InV x x')(k:∀a a' t t',x=.ok a t→x'=.ok a' t'→W a a'→Rel c t t'→Out c W2 InV (f a t) (f' a' t'))
  (s1:∀a t,x=.ok a t→Lst t→xX t (f a t)) (s2:∀a t,x'=.ok a t→Lst t→xX t (f' a t)):Out c W2 InV (x.bind f) (x'.bind f'):=by
 cases h with
 | both a a' t t' h h' w r=>subst h h'; exact k a a' t t' rfl rfl w r
 | fail e p h h'=>subst h h'; exact .fail e p rfl rfl
 | VI h h'=>exact .VI (h.bind s1) (h'.bind s2)
theorem Out.zJw {α β:Type}{c:Cx}{W:α→α→Prop}{W2:β→β→Prop}{x x':Res α}{f f':α→Ps→Res β}(h:Out c W InV x x')(k:∀a a' t t',x=.ok a t→x'=.ok a' t'→W a a'→Rel c t t'→Out c W2 InS (f a t) (f' a' t'))
  (s1:∀a t,x=.ok a t→Lst t→ZX t (f a t)) (s2:∀a t,x'=.ok a t→Lst t→ZX t (f' a t)):Out c W2 InS (x.bind f) (x'.bind f'):=by
 cases h with
 | both a a' t t' h h' w r=>subst h h'; exact k a a' t t' rfl rfl w r
 | fail e p h h'=>subst h h'; exact .fail e p rfl rfl
 | VI h h'=>exact .VI (h.zJw s1) (h'.zJw s2)
theorem Out.inV {α:Type}{c:Cx}{W:α→α→Prop}{x x':Res α}(h:Out c W InS x x'):Out c W InV x x':=by
 cases h with
 | both a a' t t' h h' w r=>exact .both a a' t t' h h' w r
 | fail e p h h'=>exact .fail e p h h'
 | VI h h'=>exact .VI h.in h'.in
theorem Rel.cut {c:Cx}{s s':Ps}(h:Rel c s s'):(s.ts=c.V∧s'.ts=c.V')∨(Tw c s.hd s'.hd∧(s.hd.kind≠4→Rel c s.adv s'.adv)):=by
 obtain⟨r,r',h1,h2,h3⟩:=h.zBX
 cases h3 with
 | nil=>exact .inl ⟨h1,h2⟩
 | cons ht hr=>
  rename_i t t' r r'
  have e1:s.hd=t:=by unfold Ps.hd; rw[h1]; rfl
  have e2:s'.hd=t':=by unfold Ps.hd; rw[h2]; rfl
  refine .inr ⟨by rw[e1,e2]; exact ht,fun hk=>⟨⟨r,r',?_,?_,hr⟩,h.ne,h.nd,h.deep,h.lst.adv hk,h.XQ.adv (by rw[e2,ht.1,←e1]; exact hk)⟩⟩
  ·show s.ts.tail=_; rw[h1]; rfl
  ·show s'.ts.tail=_; rw[h2]; rfl
theorem Tw.isP {c:Cx}{s s':Ps}(h:Tw c s.hd s'.hd)(t:Bs):isP t s'=isP t s:=by unfold Proofs.YtioffpjajhalaaaGreatDoor.isP; rw[h.1,h.2.1]
theorem Rel.nds {c:Cx}{s s' t t':Ps}(h:Rel c s s')(e1:t.ts=s.ts)(e2:t'.ts=s'.ts)(hn:t.nd≠[])(he:t'.nd=c.emb t.nd)(hd:t'.deep=t.deep):Rel c t t':=
 ⟨by rw[e1,e2]; exact h.zBX,hn,he,hd,h.lst.of e1,h.XQ.of e2⟩
theorem zPn {s:Ps}{i:Nat}{f:Nd→Nd}(h:s.nd≠[]):(s.on i f).nd≠[]:=by
 intro e
 have:=congrArg List.length e
 rw[zBC] at this;exact h (List.eq_nil_of_length_eq_zero (by simpa using this))
theorem Rel.text {c:Cx}{s s':Ps}(h:Rel c s s')(i:Nat)(hi:i≠0)(t:Bs):Rel c (s.text i t) (s'.text (c.ι i) t):=
 h.nds rfl rfl (zPn h.ne) (by show s'.nd.modify _ _=_; rw[h.nd]; exact(c.zMa (fun n=>{ n with text:=t }) (fun n=>{ n with text:=t }) i (fun h=>absurd h hi) (fun _=>rfl) s.nd).symm) h.deep
theorem Rel.num {c:Cx}{s s':Ps}(h:Rel c s s')(i:Nat)(hi:i≠0)(x:Int):Rel c (s.num i x) (s'.num (c.ι i) x):=
 h.nds rfl rfl (zPn h.ne) (by show s'.nd.modify _ _=_; rw[h.nd]; exact(c.zMa (fun n=>{ n with num:=x }) (fun n=>{ n with num:=x }) i (fun h=>absurd h hi) (fun _=>rfl) s.nd).symm) h.deep
theorem Rel.kind {c:Cx}{s s':Ps}(h:Rel c s s')(i k:Nat)(hi:i≠0):Rel c (s.kind i k) (s'.kind (c.ι i) k):=
 h.nds rfl rfl (zPn h.ne) (by show s'.nd.modify _ _=_; rw[h.nd]; exact(c.zMa (fun n=>{ n with kind:=k }) (fun n=>{ n with kind:=k }) i (fun h=>absurd h hi) (fun _=>rfl) s.nd).symm) h.deep
theorem Rel.len {c:Cx}{s s':Ps}(h:Rel c s s'):s'.nd.length=c.ι s.nd.length:=by rw[h.nd,c.zTI h.ne]
theorem Rel.kid {c:Cx}{s s':Ps}(h:Rel c s s')(i:Nat):Rel c (s.kid i) (s'.kid (c.ι i)):=
 h.nds rfl rfl (zPn h.ne) (by
  show s'.nd.modify (c.ι i) (fun n=>{ n with kids:=n.kids++[s'.nd.length] })=c.emb (s.nd.modify i fun n=>{ n with kids:=n.kids++[s.nd.length] })
  rw[h.len,h.nd]
  exact(c.zMa (fun n=>{ n with kids:=n.kids++[s.nd.length] }) (fun n=>{ n with kids:=n.kids++[c.ι s.nd.length] }) i (fun _ r=>by simp) (fun n=>by simp[Cx.mv]) s.nd).symm) h.deep
theorem Rel.add {c:Cx}{s s':Ps}(h:Rel c s s')(x:Nd):Rel c (s.add x) (s'.add (c.mv x)):=
 h.nds rfl rfl (by show s.nd++[x]≠[]; simp) (by show s'.nd++[c.mv x]=c.emb (s.nd++[x]); rw[h.nd,c.zTX h.ne]) h.deep
theorem Rel.zE7 {c:Cx}{s s':Ps}(h:Rel c s s')(d:Nat):Rel c { s with deep:=d } { s' with deep:=d }:=h.nds rfl rfl h.ne h.nd rfl
theorem Rel.top {c:Cx}{s s':Ps}(h:Rel c s s'):s.nd.length≠0:=fun e=>h.ne (List.eq_nil_of_length_eq_zero e)
theorem Rel.yX {c:Cx}{s s':Ps}(h:Rel c s s')(hat:s'.hd.at_=c.φ s.hd.at_)(i k:Nat):Rel c (s.yX i k) (s'.yX (c.ι i) k):=by
 have:=(h.kid i).add ⟨k,s.hd.at_,[],0,[]⟩
 have e:c.mv ⟨k,s.hd.at_,[],0,[]⟩=⟨k,s'.hd.at_,[],0,[]⟩:=by unfold Cx.mv; rw[hat]; rfl
 rw[e] at this;exact this
theorem Out.zEl {α β:Type}{c:Cx}{W:α→α→Prop}{W2:β→β→Prop}{x x':Res α}{f f':α→Ps→Res β}(h:Out c W InS x x')(k:∀a a' t t',x=.ok a t→x'=.ok a' t'→W a a'→Rel c t t'→Out c W2 InS (f a t) (f' a' t'))
  (s1:∀a t,x=.ok a t→Lst t→xX t (f a t)) (s2:∀a t,x'=.ok a t→Lst t→xX t (f' a t)):Out c W2 InS (x.bind f) (x'.bind f'):=by
 cases h with
 | both a a' t t' h h' w r=>subst h h'; exact k a a' t t' rfl rfl w r
 | fail e p h h'=>subst h h'; exact .fail e p rfl rfl
 | VI h h'=>exact .VI (h.bind s1) (h'.bind s2)
theorem Out.okU {c:Cx}{I:List Tok→Res Unit→Prop}{t t':Ps}(h:Rel c t t'):Out c EqU I (.ok () t) (.ok () t'):=.both () () t t' rfl rfl trivial h
variable {c:Cx}
theorem go_take (t:Bs){s s':Ps}(h:Rel c s s'):zHh c (xY t s) (xY t s'):=by
 rcases h.cut with ⟨e1,e2⟩ | ⟨ht,ha⟩
 ·exact .VI ((xP t h.lst).inS e1) ((xP t h.XQ).inS e2)
 ·unfold xY;rw[ht.isP t,ht.2.2.2]
  split
  ·rename_i hi;exact .okU (ha (vG hi).1)
  ·exact .fail 50 _ rfl rfl
theorem go_of (k:Nat)(hk:k≠4){s s':Ps}(h:Rel c s s'):Out c (Tw c) InS (ofP k s) (ofP k s'):=by
 rcases h.cut with ⟨e1,e2⟩ | ⟨ht,ha⟩
 ·exact .VI ((zLz k hk h.lst).inS e1) ((zLz k hk h.XQ).inS e2)
 ·unfold ofP;rw[ht.1,ht.2.2.2]
  split
  ·rename_i hi;exact .both _ _ _ _ rfl rfl ht (ha (by rw[hi]; exact hk))
  ·exact .fail 50 _ rfl rfl
theorem go_named (i:Nat)(hi:i≠0){s s':Ps}(h:Rel c s s'):zHh c (jC i s) (jC (c.ι i) s'):=
 (go_of 1 (by decide) h).zEl (fun a a' t t' _ _ w r=>by rw[w.2.1]; exact .okU (r.text i hi a.text)) (fun a t _ l=>vL l rfl) (fun a t _ l=>vL l rfl)
theorem go_numAt (i:Nat)(hi:i≠0){s s':Ps}(h:Rel c s s'):zHh c (zCe i s) (zCe (c.ι i) s'):=
 (go_of 2 (by decide) h).zEl (fun a a' t t' _ _ w r=>by rw[w.2.2.1]; exact .okU (r.num i hi a.n)) (fun a t _ l=>vL l rfl) (fun a t _ l=>vL l rfl)
theorem go_word (i:Nat){s s':Ps}(h:Rel c s s'):zHh c (JA i s) (JA (c.ι i) s'):=by
 rcases h.cut with ⟨e1,e2⟩ | ⟨ht,ha⟩
 ·exact .VI ((jF i h.lst).inS e1) ((jF _ h.XQ).inS e2)
 ·have:=go_named s.nd.length h.top (h.yX ht.2.2.2 i 5)
  rw[←h.len] at this;exact this
theorem go_number (i:Nat){s s':Ps}(h:Rel c s s'):zHh c (YL i s) (YL (c.ι i) s'):=by
 rcases h.cut with ⟨e1,e2⟩ | ⟨ht,ha⟩
 ·exact .VI ((XN i h.lst).inS e1) ((XN _ h.XQ).inS e2)
 ·have:=go_numAt s.nd.length h.top (h.yX ht.2.2.2 i 21)
  rw[←h.len] at this;exact this
theorem Rel.zRx {s s':Ps}(h:Rel c s.adv s'.adv)(hd:s'.deep=s.deep):Rel c { s.adv with deep:=s.deep+1 } { s'.adv with deep:=s'.deep+1 }:=by
 rw[hd];exact h.zE7 (s.deep+1)
theorem Rel.zRy {s s':Ps}(h:Rel c s s'):Rel c { s with deep:=s.deep-1 } { s' with deep:=s'.deep-1 }:=by
 rw[h.deep];exact h.zE7 (s.deep-1)
theorem go_within {α:Type}{W:α→α→Prop}(a z:Bs)(hz:z≠[]){body body':Pm α}{s s':Ps}(h:Rel c s s')(hb:∀t t',Rel c t t'→t.ts.length<s.ts.length→t'.ts.length<s'.ts.length→Out c W InV (body t) (body' t'))
  (h1:∀t,Lst t→t.ts.length<s.ts.length→xX t (body t)) (h2:∀t,Lst t→t.ts.length<s'.ts.length→xX t (body' t)):Out c W InS (vR a z body s) (vR a z body' s'):=by
 rcases h.cut with ⟨e1,e2⟩ | ⟨ht,ha⟩
 ·exact .VI ((zAk a z h.lst h1).inS e1) ((zAk a z h.XQ h2).inS e2)
 ·unfold vR;rw[ht.isP a,ht.2.2.2,h.deep]
  split
  ·rename_i hi
   split
   ·exact .fail 51 _ rfl rfl
   ·have hk:=(vG hi).1;have hr:=(ha hk).zRx h.deep;rw[h.deep] at hr;have hl:=h.lst.len hk;have AA:=h.XQ.len (by rw[ht.1]; exact hk);refine(hb _ _ hr hl AA).zJw (fun x x' t t' _ _ w r=>?_) (fun x t _ l=>?_) (fun x t _ l=>?_)
    ·exact(go_take z r).zEl (fun _ _ u u' _ _ _ r=>.both _ _ _ _ rfl rfl w r.zRy) (fun _ _ _ l=>vL l rfl) (fun _ _ _ l=>vL l rfl)
    ·exact(xP z l).bind fun _ _ _ l _=>vL l rfl
    ·exact(xP z l).bind fun _ _ _ l _=>vL l rfl
  ·exact .fail 50 _ rfl rfl
theorem go_within0 {α:Type}{W:α→α→Prop}(a:Bs){body body':Pm α}{s s':Ps}(h:Rel c s s')(hb:∀t t',Rel c t t'→t.ts.length<s.ts.length→t'.ts.length<s'.ts.length→Out c W InV (body t) (body' t'))
  (h1:∀t,Lst t→t.ts.length<s.ts.length→xX t (body t)) (h2:∀t,Lst t→t.ts.length<s'.ts.length→xX t (body' t)):Out c W InV (vR a [] body s) (vR a [] body' s'):=by
 rcases h.cut with ⟨e1,e2⟩ | ⟨ht,ha⟩
 ·exact .VI ((zAk a [] h.lst h1).inS e1).in ((zAk a [] h.XQ h2).inS e2).in
 ·unfold vR;rw[ht.isP a,ht.2.2.2,h.deep]
  split
  ·rename_i hi
   split
   ·exact .fail 51 _ rfl rfl
   ·have hk:=(vG hi).1;have hr:=(ha hk).zRx h.deep;rw[h.deep] at hr;have hl:=h.lst.len hk;have AA:=h.XQ.len (by rw[ht.1]; exact hk);refine(hb _ _ hr hl AA).bind (fun x x' t t' _ _ w r=>?_) (fun x t _ l=>?_) (fun x t _ l=>?_)
    ·rw[if_pos rfl,if_pos rfl];exact .both _ _ _ _ rfl rfl w r.zRy
    ·rw[if_pos rfl]; exact vL l rfl
    ·rw[if_pos rfl]; exact vL l rfl
  ·exact .fail 50 _ rfl rfl
def Cx.mvE (c:Cx):Ex→Ex
 | .leaf k p t n=>.leaf k (c.φ p) t n
 | .neg p a=>.neg (c.φ p) (c.mvE a)
 | .bin k p a b=>.bin k (c.φ p) (c.mvE a) (c.mvE b)
theorem zTP (c:Cx)(e:Ex):(c.mvE e).pos=c.φ e.pos:=by cases e <;> rfl
abbrev WE (c:Cx)(a a':Ex):Prop:=a'=c.mvE a
theorem zKK {ms:List (Bs × Nat)}{s s':Ps}(ht:Tw c s.hd s'.hd):zCn ms s'=zCn ms s:=by
 unfold zCn
 congr 2
 funext m
 exact ht.isP m.1
theorem go_loop {ms:List (Bs × Nat)}{part part':Pm Ex}(n n':Nat)(hp:∀t t',Rel c t t'→t.ts.length≤n→t'.ts.length≤n'→Out c (WE c) InV (part t) (part' t'))
  (h1:∀t,Lst t→t.ts.length≤n→xX t (part t)) (h2:∀t,Lst t→t.ts.length≤n'→xX t (part' t)):∀(f f':Nat) (e:Ex) (t t':Ps),Rel c t t'→t.ts.length≤n→t'.ts.length≤n'→t.ts.length<f→t'.ts.length<f'→Out c (WE c) InV (YW ms part f e t) (YW ms part' f' (c.mvE e) t')
 | 0,_,_,_,_,_,_,_,h,_=>absurd h (by omega)
 | _,0,_,_,_,_,_,_,_,h=>absurd h (by omega)
 | f+1,f'+1,e,t,t',r,l1,l2,l3,l4=>by
  rcases r.cut with ⟨e1,e2⟩ | ⟨ht,ha⟩
  ·exact .VI ((zB1 n h1 _ e t r.lst l1 l3).inV e1) ((zB1 n' h2 _ _ t' r.XQ l2 l4).inV e2)
  ·cases hm:zCn ms t with
   | none=>rw[YW,YW,zKK ht,hm]; exact .both _ _ _ _ rfl rfl rfl r
   | some k=>
    have hk:=zFD hm;have q1:=r.lst.len hk;have q2:=r.XQ.len (by rw[ht.1]; exact hk);rw[YW,YW,zKK ht,hm];refine(hp _ _ (ha hk) (by omega) (by omega)).bind (fun x x' u u' hx AA w ru=>?_) (fun x u hx l=>?_) (fun x u hx l=>?_)
    ·have b1:=h1 _ (ha hk).lst (by omega);have b2:=h2 _ (ha hk).XQ (by omega);rw[hx] at b1;rw[AA] at b2;have c1:=b1.2.len;have c2:=b2.2.len
     have:=go_loop (ms:=ms) n n' hp h1 h2 f f' (.bin k e.pos e x) u u' ru (by omega) (by omega) (by omega) (by omega)
     rw[w,zTP];exact this
    ·have b1:=h1 _ (ha hk).lst (by omega);rw[hx] at b1;have c1:=b1.2.len;exact zB1 n h1 f _ u l (by omega) (by omega)
    ·have b2:=h2 _ (ha hk).XQ (by omega);rw[hx] at b2;have c2:=b2.2.len;exact zB1 n' h2 f' _ u l (by omega) (by omega)
theorem go_chain {ms:List (Bs × Nat)}{part part':Pm Ex}(n n':Nat)(hp:∀t t',Rel c t t'→t.ts.length≤n→t'.ts.length≤n'→Out c (WE c) InV (part t) (part' t'))
  (h1:∀t,Lst t→t.ts.length≤n→xX t (part t)) (h2:∀t,Lst t→t.ts.length≤n'→xX t (part' t)) {s s':Ps} (r:Rel c s s') (l1:s.ts.length≤n) (l2:s'.ts.length≤n'):Out c (WE c) InV (XD ms part s) (XD ms part' s'):=by
 have b1:=h1 s r.lst l1;have b2:=h2 s' r.XQ l2;refine(hp s s' r l1 l2).bind (fun x x' u u' hx AA w ru=>?_) (fun x u hx l=>?_) (fun x u hx l=>?_)
 ·rw[hx] at b1;rw[AA] at b2;have c1:=b1.2.len;have c2:=b2.2.len;rw[w];exact go_loop n n' hp h1 h2 _ _ x u u' ru (by omega) (by omega) (Nat.lt_succ_self _) (Nat.lt_succ_self _)
 ·rw[hx] at b1;have c1:=b1.2.len;exact zB1 n h1 _ _ u l (by omega) (Nat.lt_succ_self _)
 ·rw[hx] at b2;have c2:=b2.2.len;exact zB1 n' h2 _ _ u l (by omega) (Nat.lt_succ_self _)
theorem go_sumOf {part part':Pm Ex}(n n':Nat)(hp:∀t t',Rel c t t'→t.ts.length≤n→t'.ts.length≤n'→Out c (WE c) InV (part t) (part' t'))
  (h1:∀t,Lst t→t.ts.length≤n→xX t (part t)) (h2:∀t,Lst t→t.ts.length≤n'→xX t (part' t)) {s s':Ps} (r:Rel c s s') (l1:s.ts.length≤n) (l2:s'.ts.length≤n'):Out c (WE c) InV (zEn part s) (zEn part' s'):=
 go_chain n n' (fun t t' r l1 l2=>go_chain n n' hp h1 h2 r l1 l2) (fun t g ht=>zFh n h1 g ht) (fun t g ht=>zFh n' h2 g ht) r l1 l2
theorem go_factor:∀(f f':Nat) (s s':Ps),Rel c s s'→s.ts.length≤f→s'.ts.length≤f'→Out c (WE c) InV (vM f s) (vM f' s')
 | 0,_,s,_,r,l1,_=>absurd r.lst.pos (by omega)
 | _,0,_,s',r,_,l2=>absurd r.XQ.pos (by omega)
 | f+1,f'+1,s,s',r,l1,l2=>by
  rcases r.cut with ⟨e1,e2⟩ | ⟨ht,ha⟩
  ·exact .VI ((YY _ s r.lst l1).inV e1) ((YY _ s' r.XQ l2).inV e2)
  ·rw[vM,vM,ht.1,ht.isP [45],ht.2.1,ht.2.2.1,ht.2.2.2]
   split
   ·rename_i hk;exact .both _ _ _ _ rfl rfl rfl (ha (by omega))
   ·split
    ·rename_i hk;exact .both _ _ _ _ rfl rfl rfl (ha (by omega))
    ·split
     ·refine(go_within0 [45] r (fun t t' rt q1 q2=>go_factor f f' t t' rt (by omega) (by omega)) (fun t l q=>YY f t l (by omega)) (fun t l q=>YY f' t l (by omega))).bind (fun x x' u u' _ _ w ru=>?_) (fun x u _ l=>vL l rfl) (fun x u _ l=>vL l rfl);exact .both _ _ _ _ rfl rfl (by rw[w]; rfl) ru
     ·exact(go_within [40] [41] (by decide) r (fun t t' rt q1 q2=>go_sumOf f f' (fun t t' rt a b=>go_factor f f' t t' rt a b) (fun t l q=>YY f t l q) (fun t l q=>YY f' t l q) rt (by omega) (by omega)) (fun t l q=>zI4 f (fun t l q=>YY f t l q) l (by omega)) (fun t l q=>zI4 f' (fun t l q=>YY f' t l q) l (by omega))).inV
theorem go_sumP {s s':Ps}(r:Rel c s s'):Out c (WE c) InV (zKr s) (zKr s'):=
 go_sumOf _ _ (fun t t' rt a b=>go_factor _ _ t t' rt a b) (fun t l q=>YY _ t l q) (fun t l q=>YY _ t l q) r (zU _) (zU _)
theorem go_put:∀(e:Ex) (i:Nat) (s s':Ps),Rel c s s'→Rel c (JW i e s) (JW (c.ι i) (c.mvE e) s')
 | .leaf k p t n,i,s,s',r=>(r.kid i).add ⟨k,p,t,n,[]⟩
 | .neg p a,i,s,s',r=>by
  have:=go_put a s.nd.length _ _ ((r.kid i).add ⟨26,p,[],0,[]⟩)
  rw[←r.len] at this;exact this
 | .bin k p a b,i,s,s',r=>by
  have h1:=go_put a s.nd.length _ _ ((r.kid i).add ⟨k,p,[],0,[]⟩);have h2:=go_put b s.nd.length _ _ h1;rw[←r.len] at h2;exact h2
theorem go_expr (i:Nat){s s':Ps}(r:Rel c s s'):zBz c (JS i s) (JS (c.ι i) s'):=
 (go_sumP r).bind (fun x x' t t' _ _ w rt=>by rw[w]; exact .okU (go_put x i t t' rt)) (fun x t _ l=>vL l (zA6 x i t).2.1) (fun x t _ l=>vL l (zA6 x _ t).2.1)
end Go.Proofs.YtioffpjajhalaaaGreatDoor
