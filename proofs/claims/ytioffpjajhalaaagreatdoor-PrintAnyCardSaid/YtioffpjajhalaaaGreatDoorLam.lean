/- What the plain reading answers: the tokens left are an end of those given; an error stands at one of them. (and what follows of it). The conditions stand at each lemma. -/
import Derived.Test.YtioffpjajhalaaaGreatDoorLaa
import Derived.Test.YtioffpjajhalaaaGreatDoorLal
import Derived.Test.YtioffpjajhalaaaGreatDoorLae
import Derived.Deep.AppendLies
set_option linter.unusedVariables false
set_option linter.unusedSimpArgs false
set_option maxRecDepth 100000
set_option maxHeartbeats 16000000
namespace Go.Proofs.YtioffpjajhalaaaGreatDoor
def Lst (s:Ps):Prop:=∃l e,s.ts=l++[e]∧e.kind=4
theorem Lst.ne {s:Ps}(h:Lst s):s.ts≠[]:=by obtain⟨l,e,h,_⟩:=h; rw[h]; simp
theorem Lst.pos {s:Ps}(h:Lst s):0<s.ts.length:=List.length_pos_iff.2 h.ne
theorem Lst.hd {s:Ps}(h:Lst s):s.hd ∈ s.ts:=by
 unfold Ps.hd
 cases hs:s.ts with
 | nil=>exact absurd hs h.ne
 | cons t r=>exact List.mem_cons_self ..
theorem Lst.adv {s:Ps}(h:Lst s)(hk:s.hd.kind≠4):Lst s.adv:=by
 obtain⟨l,e,hl,he⟩:=h
 cases l with
 | nil=>
  exfalso
  apply hk;unfold Ps.hd;rw[hl];exact he
 | cons t r=>exact⟨r,e,by show s.ts.tail=_; rw[hl]; rfl,he⟩
theorem Lst.len {s:Ps}(h:Lst s)(hk:s.hd.kind≠4):s.adv.ts.length<s.ts.length:=by
 have:=h.pos
 have:=jN (s:=s)
 omega
def Tl (s s':Ps):Prop:=∃pre,s.ts=pre++s'.ts
theorem Tl.refl (s:Ps):Tl s s:=⟨[],rfl⟩
theorem Tl.trans {a b c:Ps}(h:Tl a b)(k:Tl b c):Tl a c:=by
 obtain⟨p,hp⟩:=h;obtain⟨q,hq⟩:=k;exact⟨p++q,by rw[hp,hq,List.append_assoc]⟩
theorem Tl.adv (s:Ps):Tl s s.adv:=by
 cases hs:s.ts with
 | nil=>exact⟨[],by show s.ts=_; rw[show s.adv.ts=s.ts.tail from rfl,hs]; rfl⟩
 | cons t r=>exact⟨[t],by rw[show s.adv.ts=s.ts.tail from rfl,hs]; rfl⟩
theorem Tl.mem {s s':Ps}(h:Tl s s'){t:Tok}(ht:t ∈ s'.ts):t ∈ s.ts:=by
 obtain⟨p,hp⟩:=h;rw[hp];exact List.mem_append_right _ ht
theorem Tl.len {s s':Ps}(h:Tl s s'):s'.ts.length≤s.ts.length:=by
 obtain⟨p,hp⟩:=h;rw[hp,yM];omega
def vM {α:Type}(s:Ps):Res α→Prop
 | .ok _ s'=>Lst s'∧Tl s s'
 | .err e a=>(e=50∨e=51)∧∃t ∈ s.ts,t.at_=a∧(e=51→t.kind≠4)
def YF {α:Type}(s:Ps):Res α→Prop
 | .ok _ s'=>Lst s'∧Tl s s'∧s'.ts.length<s.ts.length
 | .err e a=>(e=50∨e=51)∧∃t ∈ s.ts,t.at_=a∧(e=51→t.kind≠4)
theorem YF.at {α:Type}{s:Ps}{r:Res α}(h:YF s r):vM s r:=by
 cases r with
 | ok a t=>exact⟨h.1,h.2.1⟩
 | err e a=>exact h
theorem vM.of {α:Type}{s s2:Ps}(e:s2.ts=s.ts){r:Res α}(h:vM s2 r):vM s r:=by
 cases r with
 | ok a t=>exact⟨h.1,by obtain⟨p,hp⟩:=h.2; exact⟨p,by rw[←e,hp]⟩⟩
 | err c a=>obtain⟨h1,x,hx,AA⟩:=h; exact⟨h1,x,by rw[←e]; exact hx,AA⟩
theorem YF.of {α:Type}{s s2:Ps}(e:s2.ts=s.ts){r:Res α}(h:YF s2 r):YF s r:=by
 cases r with
 | ok a t=>exact⟨h.1,by obtain⟨p,hp⟩:=h.2.1; exact⟨p,by rw[←e,hp]⟩,by rw[←e]; exact h.2.2⟩
 | err c a=>obtain⟨h1,x,hx,AA⟩:=h; exact⟨h1,x,by rw[←e]; exact hx,AA⟩
theorem vM.trans {α:Type}{s t:Ps}{r:Res α}(h:Tl s t)(k:vM t r):vM s r:=by
 cases r with
 | ok a u=>exact⟨k.1,h.trans k.2⟩
 | err c a=>obtain⟨h1,x,hx,AA⟩:=k; exact⟨h1,x,h.mem hx,AA⟩
theorem YF.trans {α:Type}{s t:Ps}{r:Res α}(h:Tl s t)(hl:t.ts.length<s.ts.length)(k:vM t r):YF s r:=by
 cases r with
 | ok a u=>exact⟨k.1,h.trans k.2,Nat.lt_of_le_of_lt k.2.len hl⟩
 | err c a=>obtain⟨h1,x,hx,AA⟩:=k; exact⟨h1,x,h.mem hx,AA⟩
theorem vM.bind {α β:Type}{s:Ps}{r:Res α}{f:α→Ps→Res β}(h:vM s r)(k:∀a t,r=.ok a t→Lst t→t.ts.length≤s.ts.length→vM t (f a t)):vM s (r.bind f):=by
 cases r with
 | ok a t=>exact vM.trans h.2 (k a t rfl h.1 h.2.len)
 | err e a=>exact h
theorem YF.bind {α β:Type}{s:Ps}{r:Res α}{f:α→Ps→Res β}(h:YF s r)(k:∀a t,r=.ok a t→Lst t→t.ts.length<s.ts.length→vM t (f a t)):YF s (r.bind f):=by
 cases r with
 | ok a t=>exact YF.trans h.2.1 h.2.2 (k a t rfl h.1 h.2.2)
 | err e a=>exact h
theorem zRC {α:Type}{s:Ps}(h:Lst s)(e:Int)(he:e=50∨e=51)(hk:e=51→s.hd.kind≠4):vM s (.err e s.hd.at_:Res α):=⟨he,_,h.hd,rfl,hk⟩
theorem zCN {α:Type}{s:Ps}(h:Lst s)(e:Int)(he:e=50∨e=51)(hk:e=51→s.hd.kind≠4):YF s (.err e s.hd.at_:Res α):=⟨he,_,h.hd,rfl,hk⟩
theorem zGK {α:Type}{s:Ps}{a:α}(h:Lst s)(hk:s.hd.kind≠4):YF s (.ok a s.adv):=⟨h.adv hk,Tl.adv s,h.len hk⟩
theorem jW {α:Type}{s t:Ps}{a:α}(h:Lst s)(e:t.ts=s.ts):vM s (.ok a t):=⟨by obtain⟨l,x,hl,hx⟩:=h; exact⟨l,x,by rw[e,hl],hx⟩,⟨[],by rw[e]; rfl⟩⟩
theorem Lst.of {s t:Ps}(h:Lst s)(e:t.ts=s.ts):Lst t:=by obtain⟨l,x,hl,hx⟩:=h; exact⟨l,x,by rw[e,hl],hx⟩
theorem jQ (t:Bs){s:Ps}(h:Lst s):YF s (vJ t s):=by
 unfold vJ
 split
 ·rename_i hi;exact zGK h (vD hi).1
 ·exact zCN h 50 (.inl rfl) (fun h=>absurd h (by decide))
theorem zPv (k:Nat)(hk:k≠4){s:Ps}(h:Lst s):YF s (ofP k s):=by
 unfold ofP
 split
 ·rename_i hi;exact zGK h (by rw[hi]; exact hk)
 ·exact zCN h 50 (.inl rfl) (fun h=>absurd h (by decide))
theorem JV (i:Nat){s:Ps}(h:Lst s):YF s (jI i s):=(zPv 1 (by decide) h).bind fun t u _ hu _=>jW hu rfl
theorem zB0 (i:Nat){s:Ps}(h:Lst s):YF s (zAm i s):=YF.of rfl (JV _ (h.of rfl))
theorem zHE (i:Nat){s:Ps}(h:Lst s):YF s (zCm i s):=YF.of (s2:=s.xH i 21) rfl ((zPv 2 (by decide) (h.of (t:=s.xH i 21) rfl)).bind fun t u _ hu _=>jW hu rfl)
theorem zCo {α:Type}(a z:Bs){body:Pm α}{s:Ps}(h:Lst s)(hb:∀t,Lst t→t.ts.length<s.ts.length→vM t (body t)):YF s (vX a z body s):=by
 unfold vX
 split
 ·rename_i hi
  split
  ·exact zCN h 51 (.inr rfl) (fun _=>(vD hi).1)
  ·have hk:=(vD hi).1;have hl:=h.len hk;refine YF.trans (t:={ s.adv with deep:=s.deep+1 }) (Tl.adv s) hl ((hb _ ((h.adv hk).of (t:={ s.adv with deep:=s.deep+1 }) rfl) hl).bind fun x t _ ht _=>?_)
   split
   ·exact jW ht rfl
   ·exact((jQ z ht).at).bind fun _ u _ hu _=>jW hu rfl
 ·exact zCN h 50 (.inl rfl) (fun h=>absurd h (by decide))
theorem zKR {ms:List (Bs × Nat)}{part:Pm Ex}(n:Nat)(hp:∀t,Lst t→t.ts.length≤n→vM t (part t)):∀(f:Nat) (e:Ex) (t:Ps),Lst t→t.ts.length≤n→t.ts.length<f→vM t (VW ms part f e t)
 | 0,_,_,_,_,h=>absurd h (by omega)
 | f+1,e,t,g,hl,hf=>by
  unfold VW
  split
  ·exact jW g rfl
  ·rename_i k hk;have h4:=zGW hk;have AB:=g.len h4;exact vM.trans (Tl.adv t) ((hp _ (g.adv h4) (by omega)).bind fun r u _ hu AA=>zKR n hp f _ u hu (by omega) (by omega))
theorem zIl {ms:List (Bs × Nat)}{part:Pm Ex}(n:Nat)(hp:∀t,Lst t→t.ts.length≤n→vM t (part t)){s:Ps}(g:Lst s)(hl:s.ts.length≤n):vM s (YP ms part s):=
 (hp s g hl).bind fun e u _ hu AA=>zKR n hp _ e u hu (by omega) (Nat.lt_succ_self _)
theorem zNh {part:Pm Ex}(n:Nat)(hp:∀t,Lst t→t.ts.length≤n→vM t (part t)){s:Ps}(g:Lst s)(hl:s.ts.length≤n):vM s (sumOf part s):=
 zIl n (fun t gt ht=>zIl n hp gt ht) g hl
theorem zDB:∀(f:Nat) (s:Ps),Lst s→s.ts.length≤f→vM s (vE f s)
 | 0,s,g,hl=>absurd g.pos (by omega)
 | f+1,s,g,hl=>by
  unfold vE
  split
  ·rename_i hk;exact(zGK g (by omega)).at
  ·split
   ·rename_i hk;exact(zGK g (by omega)).at
   ·split
    ·exact(zCo [45] [] g fun t gt ht=>zDB f t gt (by omega)).at.bind fun a t _ ht _=>jW ht rfl
    ·exact(zCo [40] [41] g fun t gt ht=>zNh f (fun t gt ht=>zDB f t gt ht) gt (by omega)).at
theorem zP9 {s:Ps}(g:Lst s):vM s (zN1 s):=zNh _ (fun t gt ht=>zDB _ t gt ht) g (zU _)
theorem zBs (i:Nat){s:Ps}(g:Lst s):vM s (zAi i s):=(zP9 g).bind fun e t _ ht _=>jW ht (zBI e i t).2.1
theorem zKT {one:Pm Unit}(h:∀s,Lst s→vM s (one s)):∀(f:Nat) (s:Ps),Lst s→s.ts.length<f→vM s (zBu one f s)
 | 0,_,_,hl=>absurd hl (by omega)
 | f+1,s,g,hl=>by
  unfold zBu
  split
  ·rename_i hi;have hk:=(vD hi).1;have AB:=g.len hk;exact vM.trans (Tl.adv s) ((h _ (g.adv hk)).bind fun _ t _ ht AA=>zKT h f t ht (by omega))
  ·exact jW g rfl
theorem zHl {one:Pm Unit}(h:∀s,Lst s→vM s (one s)){s:Ps}(g:Lst s):vM s (VH one s):=(h s g).bind fun _ t _ ht hl=>zKT h _ t ht (Nat.lt_succ_self _)
theorem zM3 (i:Nat){s:Ps}(g:Lst s):YF s (zFB i s):=zCo [91] [93] g fun t gt _=>zBs i gt
theorem zIY (i:Nat){s:Ps}(g:Lst s):vM s (zJd i s):=vM.of (s2:=s.xH i 20) rfl ((JV _ (g.of (t:=s.xH i 20) rfl)).at.bind fun _ t _ ht _=>(zM3 _ ht).at)
theorem zJ2 (i:Nat){s:Ps}(g:Lst s):vM s (zIJ i s):=(zIY i g).bind fun _ t _ ht _=>(jQ _ ht).at.bind fun _ t _ ht _=>(zB0 i ht).at
theorem zQX (i:Nat){s:Ps}(g:Lst s):vM s (zKV i s):=(JV i g).at.bind fun _ t _ ht _=>(jQ _ ht).at.bind fun _ t _ ht _=>(zJ2 i ht).bind fun _ t _ ht _=>by
 split
 ·rename_i hi;exact vM.trans (Tl.adv t) ((jQ _ (ht.adv (vD hi).1)).at.bind fun _ u _ hu _=>jW hu rfl)
 ·exact jW ht rfl
theorem zR0 (i:Nat){s:Ps}(g:Lst s):vM s (zQs i s):=(zJ2 i g).bind fun _ t _ ht _=>(jQ _ ht).at.bind fun _ t _ ht _=>zBs i ht
theorem zLX (i:Nat){s:Ps}(g:Lst s):vM s (zEq i s):=(zIY i g).bind fun _ t _ ht _=>(jQ _ ht).at.bind fun _ t _ ht _=>(zHl (fun s g=>zBs i g) ht).bind fun _ t _ ht _=>(jQ _ ht).at
theorem zPR (i:Nat){s:Ps}(g:Lst s):vM s (zJI i s):=(JV i g).at.bind fun _ t _ ht _=>(jQ _ ht).at.bind fun _ t _ ht _=>(zB0 i ht).at.bind fun _ t _ ht _=>(jQ _ ht).at.bind fun _ t _ ht _=>(zB0 i ht).at
theorem zP7 (i:Nat){s:Ps}(g:Lst s):vM s (zJ3 i s):=(zB0 i g).at.bind fun _ t _ ht _=>by
 split
 ·rename_i hi;exact vM.trans (Tl.adv t) (jW (ht.adv (vD hi).1) rfl)
 ·exact(jQ _ ht).at
theorem zLh (i:Nat){s:Ps}(g:Lst s):vM s (zCY i s):=vM.of (s2:=s.xH i 5) rfl ((JV _ (g.of (t:=s.xH i 5) rfl)).at.bind fun _ t _ ht _=>by
 split
 ·exact vM.of (s2:=t.kind s.nd.length 20) rfl (zM3 _ (ht.of (t:=t.kind s.nd.length 20) rfl)).at
 ·exact jW ht rfl)
theorem zQK (i:Nat){s:Ps}(g:Lst s):vM s (zEc i s):=by
 unfold zEc
 split
 ·rename_i hi;exact vM.trans (Tl.adv s) (jW (g.adv (vD hi).1) rfl)
 ·exact(jQ _ g).at
theorem zRS (i:Nat){s:Ps}(g:Lst s):vM s (zPE i s):=(JV i g).at.bind fun _ t _ ht _=>(jQ _ ht).at.bind fun _ t _ ht _=>zBs i ht
def zMS (n:Nat)(st:Nat→Pm Unit):Prop:=∀i s,Lst s→s.ts.length≤n→YF s (st i s)
theorem zIt {n:Nat}{st:Nat→Pm Unit}(h:zMS n st)(i:Nat):∀f s,Lst s→s.ts.length≤n→s.ts.length<f→vM s (YZ st i f s)
 | 0,_,_,_,hf=>absurd hf (by omega)
 | f+1,s,g,hl,hf=>by
  unfold YZ
  split
  ·exact jW g rfl
  ·exact((h i s g hl).bind fun _ t _ ht AA=>zIt h i f t ht (by omega) (by omega)).at
theorem zDp {n:Nat}{st:Nat→Pm Unit}(h:zMS n st)(i:Nat){s:Ps}(g:Lst s)(hl:s.ts.length≤n+1):YF s (zAK st i s):=
 YF.of (s2:=s.xH i 6) rfl (zCo [123] [125] (g.of (t:=s.xH i 6) rfl) fun t gt ht=>zIt h _ _ t gt (by rw[YB] at ht; omega) (Nat.lt_succ_self _))
theorem zP0 {n:Nat}{st:Nat→Pm Unit}(h:zMS n st)(i:Nat){s:Ps}(g:Lst s)(hl:s.ts.length≤n+1):vM s (zHO st i s):=by
 unfold zHO
 split
 ·rename_i hi;have hk:=(vD hi).1
  have:=g.len hk
  exact vM.trans (Tl.adv s) (zDp h i (g.adv hk) (by omega)).at
 ·exact jW g rfl
theorem zLv {n:Nat}{st:Nat→Pm Unit}(h:zMS n st)(i:Nat){s:Ps}(g:Lst s)(hl:s.ts.length≤n+1):vM s (zC0 st i s):=
 (zBs i g).bind fun _ t _ gt l1=>(zQK i gt).bind fun _ t _ gt l2=>(zBs i gt).bind fun _ t _ gt l3=>(zDp h i gt (by omega)).at.bind fun _ t _ gt l4=>zP0 h i gt (by omega)
theorem zNO {n:Nat}{st:Nat→Pm Unit}(h:zMS n st)(i:Nat){s:Ps}(g:Lst s)(hl:s.ts.length≤n+1):vM s (zHf st i s):=
 (JV i g).at.bind fun _ t _ gt l1=>(jQ _ gt).at.bind fun _ t _ gt l2=>(zHE i gt).at.bind fun _ t _ gt l3=>(jQ _ gt).at.bind fun _ t _ gt l4=>(zHE i gt).at.bind fun _ t _ gt l5=>(zDp h i gt (by omega)).at
theorem zNE {n:Nat}{st:Nat→Pm Unit}(h:zMS n st)(k i:Nat){s:Ps}(g:Lst s)(hl:s.ts.length≤n+1):vM s (VL st k i s):=by
 unfold VL
 split
 ·exact zQX i g
 split
 ·exact zR0 i g
 split
 ·exact zLX i g
 split
 ·exact zIY i g
 split
 ·exact zPR i g
 split
 ·exact zP7 i g
 split
 ·exact zLh i g
 split
 ·exact zLv h i g hl
 split
 ·exact zNO h i g hl
 split
 ·exact zRS i g
 split
 ·exact zBs i g
 ·exact jW g rfl
theorem zLl:∀f,zMS f (YG f)
 | 0,i,s,g,hl=>absurd g.pos (by omega)
 | f+1,i,s,g,hl=>by
  unfold YG
  split
  ·exact zCN g 50 (.inl rfl) (fun h=>absurd h (by decide))
  ·rename_i k hk
   have h1:s.hd.kind=1:=by
    split at hk
    ·assumption
    ·cases hk
   have h4:s.hd.kind≠4:=by omega
   have AA:=g.len h4;have e:(s.xH i k).adv.ts=s.adv.ts:=rfl;refine YF.trans (t:=s.adv) (Tl.adv s) AA (vM.of (s2:=(s.xH i k).adv) rfl ((zNE (zLl f) k s.nd.length ((g.adv h4).of (t:=(s.xH i k).adv) rfl) (by rw[e]; omega)).bind fun _ u _ gu _=>?_))
   split
   ·exact jW gu rfl
   ·exact(jQ _ gu).at
theorem zLC (i:Nat){s:Ps}(g:Lst s):YF s (zDz i s):=zDp (zLl s.ts.length) i g (by omega)
theorem zNV (i:Nat){s:Ps}(g:Lst s):YF s (zCt i s):=YF.of (s2:=s.xH i 2) rfl ((jQ _ (g.of (t:=s.xH i 2) rfl)).bind fun _ t _ gt _=>(JV _ gt).at.bind fun _ t _ gt _=>(jQ _ gt).at.bind fun _ t _ gt _=>(zHl (fun s g=>(zB0 _ g).at) gt).bind fun _ t _ gt _=>(jQ _ gt).at.bind fun _ t _ gt _=>(jQ _ gt).at)
theorem zOw (i:Nat){s:Ps}(g:Lst s):vM s (zBy i s):=by
 have e:zBy i s=if isP [41] (s.xH i 4)=true then .ok () (s.xH i 4) else VH (zAm s.nd.length) (s.xH i 4):=rfl;rw[e]
 cases hi:isP [41] (s.xH i 4) with
 | true=>simp only[if_true]; exact jW g rfl
 | false=>simp only[Bool.false_eq_true,if_false]; exact vM.of (s2:=s.xH i 4) rfl (zHl (fun s g=>(zB0 _ g).at) (g.of (t:=s.xH i 4) rfl))
theorem zMM (i:Nat){s:Ps}(g:Lst s):vM s (VN i s):=by
 unfold VN
 split
 ·rename_i hi;exact vM.trans (Tl.adv s) (jW (g.adv (vD hi).1) rfl)
 ·exact jW g rfl
theorem zQE (i:Nat){s:Ps}(g:Lst s):YF s (zDv i s):=YF.of (s2:=s.xH i 3) rfl ((jQ _ (g.of (t:=s.xH i 3) rfl)).bind fun _ t _ gt _=>(JV _ gt).at.bind fun _ t _ gt _=>(jQ _ gt).at.bind fun _ t _ gt _=>(zOw _ gt).bind fun _ t _ gt _=>(jQ _ gt).at.bind fun _ t _ gt _=>(zMM _ gt).bind fun _ t _ gt _=>(zLC _ gt).at)
theorem zEC:∀(f:Nat) (s:Ps),Lst s→s.ts.length<f→vM s (YY f s)
 | 0,_,_,h=>absurd h (by omega)
 | f+1,s,g,hf=>by
  unfold YY
  split
  ·exact jW g rfl
  ·split
   ·exact((zNV 0 g).bind fun _ t _ gt hl=>zEC f t gt (by omega)).at
   ·split
    ·exact((zQE 0 g).bind fun _ t _ gt hl=>zEC f t gt (by omega)).at
    ·exact zRC g 50 (.inl rfl) (fun h=>absurd h (by decide))
theorem zKb {s:Ps}(g:Lst s):vM s (zCW s):=vM.of (s2:=s.node 1) rfl (zEC _ _ (g.of (t:=s.node 1) rfl) (Nat.lt_succ_self _))
def okI (x:Int):Prop:=-9223372036854775808≤x∧x≤9223372036854775807
def okT (t:Tok):Prop:=okI t.n∧t.text.length≤1500∧t.at_≤1500
def okN (n:Nd):Prop:=n.kind<256∧okI n.num∧n.text.length≤1500∧n.pos≤1500
structure KS (s:Ps):Prop where
 nd:∀n ∈ s.nd,okN n
 ts:∀t ∈ s.ts,okT t
theorem zO8 {x:Int}(h:-1000≤x)(h2:x≤1000):okI x:=⟨by omega,by omega⟩
section
variable {s:Ps}
theorem KS.adv (h:KS s):KS s.adv:=⟨h.nd,fun t ht=>h.ts t (List.mem_of_mem_tail ht)⟩
theorem KS.deep (h:KS s)(d:Nat):KS { s with deep:=d }:=⟨h.nd,h.ts⟩
theorem ok0:okI 0:=zO8 (by decide) (by decide)
theorem KS.hd (h:KS s):okT s.hd:=by
 unfold Ps.hd
 cases e:s.ts with
 | nil=>exact⟨ok0,zT _,zT _⟩
 | cons t l=>exact h.ts t (by rw[e]; simp)
theorem KS.add (h:KS s){n:Nd}(hn:okN n):KS (s.add n):=⟨fun m hm=>by
 rcases List.mem_append.1 hm with hm | hm
 ·exact h.nd m hm
 ·rw[yK] at hm; subst hm; exact hn,h.ts⟩
theorem KS.on (h:KS s)(i:Nat){f:Nd→Nd}(hf:∀n,okN n→okN (f n)):KS (s.on i f):=⟨fun m hm=>by
 obtain⟨j,hj⟩:=List.mem_iff_getElem?.1 hm;have hj:(s.nd.modify i f)[j]?=some m:=hj;rw[List.getElem?_modify] at hj
 try simp only[Option.map_eq_map] at hj
 obtain⟨y,hy,rfl⟩:=Option.map_eq_some_iff.1 hj
 have:=h.nd y (zY hy)
 by_cases AA:i=j
 ·rw[if_pos AA]; exact hf y this
 ·rw[if_neg AA]; exact this,h.ts⟩
theorem KS.kid (h:KS s)(i:Nat):KS (s.kid i):=h.on i fun n hn=>hn
theorem KS.node (h:KS s){k:Nat}(hk:k<256):KS (s.node k):=h.add ⟨hk,ok0,zT _,h.hd.2.2⟩
theorem KS.text (h:KS s)(i:Nat){t:Bs}(ht:t.length≤1500):KS (s.text i t):=h.on i fun n hn=>⟨hn.1,hn.2.1,ht,hn.2.2.2⟩
theorem KS.num (h:KS s)(i:Nat){x:Int}(hx:okI x):KS (s.num i x):=h.on i fun n hn=>⟨hn.1,hx,hn.2.2⟩
theorem KS.kind (h:KS s)(i:Nat){k:Nat}(hk:k<256):KS (s.kind i k):=h.on i fun n hn=>⟨hk,hn.2⟩
theorem KS.xH (h:KS s)(i:Nat){k:Nat}(hk:k<256):KS (s.xH i k):=(h.kid i).node hk
end
def QE:Ex→Prop
 | .leaf k p t n=>k<256∧okI n∧t.length≤1500∧p≤1500
 | .neg p a=>p≤1500∧QE a
 | .bin k p a b=>k<256∧p≤1500∧QE a∧QE b
theorem QE.pos:∀ {e:Ex},QE e→e.pos≤1500
 | .leaf _ _ _ _,h=>h.2.2.2
 | .neg _ _,h=>h.1
 | .bin _ _ _ _,h=>h.2.1
section
variable {s:Ps}
end
section
variable {s:Ps}
end
end Go.Proofs.YtioffpjajhalaaaGreatDoor
namespace Go.Proofs.YtioffpjajhalaaaGreatDoor
open Go Go.RowKit
abbrev Hd2:=Option Addr × Nat
def ints (l:List Nat):List Value:=l.map fun (k:Nat)=>Value.int .i64 (k:Int)
def ZW (x:Nd × Hd2):List Value:=[.int .u8 (x.1.kind:Int),.int .i64 (x.1.pos:Int),.string (yX x.1.text),.int .i64 x.1.num,.slice x.2.1 x.1.kids.length x.2.2]
def ncs (l:List (Nd × Hd2)):List Value:=l.flatMap ZW
theorem zNF (l:List Nat)(k:Nat):ints (l++[k])=ints l++[.int .i64 (k:Int)]:=by simp[ints]
theorem zQZ (l:List (Nd × Hd2))(x:Nd × Hd2):ncs (l++[x])=ncs l++ZW x:=by unfold ncs; simp
theorem zSM (l:List (Nd × Hd2)):∀(i:Nat) (hi:i<l.length) (j:Nat),j<5→(ncs l)[i*5+j]?=(ZW l[i])[j]?:=by
 induction l with
 | nil=>intro i hi; simp at hi
 | cons x l ih=>
  intro i hi j hj
  show(ZW x++ncs l)[i*5+j]?=_
  match i,hi with
  | 0,_=>rw[Nat.zero_mul,Nat.zero_add,List.getElem?_append_left (by show j<5; exact hj)]; rfl
  | i+1,hi=>
   have e:(i+1)*5+j=5+(i*5+j):=by omega
   rw[e,List.getElem?_append_right (by show 5≤_; omega),show 5+(i*5+j)-(ZW x).length=i*5+j from by show 5+(i*5+j)-5=_; omega];exact ih i (by simpa using hi) j hj
theorem zHr (l:List (Nd × Hd2))(i:Nat)(hi:i<l.length)(j:Nat)(hj:j<5)(u:Value)(f:Nd × Hd2→Nd × Hd2)(hf:ZW (f l[i])=(ZW l[i]).set j u):ncs (l.modify i f)=(ncs l).set (i*5+j) u:=by
 induction l generalizing i with
 | nil=>simp at hi
 | cons x l ih=>
  match i,hi with
  | 0,_=>
   simp only[List.getElem_cons_zero] at hf;rw[List.modify_zero_cons]
   show ZW (f x)++ncs l=(ZW x++ncs l).set (0*5+j) u
   rw[hf,Nat.zero_mul,Nat.zero_add,List.set_append_left _ _ (by show j<5; exact hj)]
  | i+1,hi=>
   rw[List.modify_succ_cons]
   show ZW x++ncs (l.modify i f)=(ZW x++ncs l).set ((i+1)*5+j) u
   rw[ih i (by simpa using hi) (by simpa using hf),List.set_append_right _ _ (by show 5≤_; omega)]
   congr 2
   show _=(i+1)*5+j-5
   omega
structure NS (w:World)(B:Nat)(tn ti:TypeId)(A:Option Addr)(c:Nat)(nh:List (Nd × Hd2)):Prop where
 row:w.ownsRow B tn 5 (.slice A nh.length c) nh.length (ncs nh)
 kids:∀x ∈ nh,w.ownsRow B ti 1 (.slice x.2.1 x.1.kids.length x.2.2) x.1.kids.length (ints x.1.kids)
 apart:∀(i j:Nat) (hi:i<nh.length) (hj:j<nh.length),nh[i].2.1=nh[j].2.1→nh[i].2.1≠none→i=j
 rz:nh.length=0→c=0
 kz:∀x ∈ nh,x.1.kids.length=0→x.2.2=0
def zFl (A:Option Addr)(nh:List (Nd × Hd2))(b:Nat):Prop:=A=some ⟨b,0,none⟩∨some (⟨b,0,none⟩:Addr) ∈ nh.map fun x=>x.2.1
structure xK (w:World)(M:Nat→Prop)(w':World)(M':Nat→Prop):Prop where
 os:w'.os=w.os
 tape:w'.tape=w.tape
 output:w'.output=w.output
 size:w.heap.size≤w'.heap.size
 JX:∀b,b<w.heap.size→¬M b→w'.heap[b]?=w.heap[b]?
 zD9:∀b,M' b→M b∨w.heap.size≤b
theorem xK.refl (w:World)(M:Nat→Prop):xK w M w M:=⟨rfl,rfl,rfl,zU _,fun _ _ _=>rfl,fun _ h=>.inl h⟩
theorem xK.trans {w w1 w2:World}{M M1 M2:Nat→Prop}(h:xK w M w1 M1)(k:xK w1 M1 w2 M2):xK w M w2 M2:=by
 refine⟨k.os.trans h.os,k.tape.trans h.tape,k.output.trans h.output,Nat.le_trans h.size k.size,fun b hb hM=>?_,fun b hb=>?_⟩
 ·rw[k.JX b (yR hb h.size) (fun h1=>by rcases h.zD9 b h1 with h2 | h2 <;> first | exact hM h2 | omega)]
  exact h.JX b hb hM
 ·rcases k.zD9 b hb with h1 | h1
  ·exact h.zD9 b h1
  ·exact .inr (Nat.le_trans h.size h1)
theorem xK.ext {w w':World}{M:Nat→Prop}(h:Ext w w'):xK w M w' M:=⟨h.os,h.tape,h.output,h.size,fun b hb _=>h.block b hb,fun _ h=>.inl h⟩
theorem xK.below {w w':World}{M M':Nat→Prop}{B:Nat}(h:xK w M w' M')(hM:∀b,M b→B≤b)(hB:B≤w.heap.size):Below B w w':=⟨h.os,h.tape,h.output,h.size,fun b hb=>h.JX b (by omega) (fun hm=>by have:=hM b hm; omega)⟩
def Safe (w:World)(M:Nat→Prop)(g:Nat)(t:TypeId)(cs:Array Value):Prop:=Blk w g t cs∧¬M g
theorem Safe.xO {w w':World}{M M':Nat→Prop}{g:Nat}{t:TypeId}{cs:Array Value}(h:Safe w M g t cs)(k:xK w M w' M'):Safe w' M' g t cs:=
 ⟨(k.JX g h.1.lt h.2).trans h.1,fun h1=>by rcases k.zD9 g h1 with h2 | h2 <;> first | exact h.2 h2 | (have:=h.1.lt; omega)⟩
def zD2 (w:World)(M:Nat→Prop)(A:Option Addr)(cs:List Value):Prop:=cs=[]∨∃b off,A=some ⟨b,off,none⟩∧b<w.heap.size∧¬M b∧∀k,k<cs.length→w.cell? ⟨b,off+k,none⟩=cs[k]?
theorem zD2.cells {w:World}{M:Nat→Prop}{A:Option Addr}{cs:List Value}(h:zD2 w M A cs):Cells w A cs:=by
 rcases h with h | ⟨b,AA,h1,h2,_,h3⟩
 ·exact .inl h
 ·exact .inr ⟨b,AA,h1,h2,h3⟩
theorem zD2.xO {w w':World}{M M':Nat→Prop}{A:Option Addr}{cs:List Value}(h:zD2 w M A cs)(k:xK w M w' M'):zD2 w' M' A cs:=by
 rcases h with h | ⟨b,AA,h1,h2,h3,h4⟩
 ·exact .inl h
 ·refine .inr ⟨b,AA,h1,yR h2 k.size,fun h5=>by rcases k.zD9 b h5 with h6 | h6 <;> first | exact h3 h6 | omega,fun j hj=>?_⟩
  rw[World.cell?_of_block (w:=w) (k.JX b h2 h3)];exact h4 j hj
theorem XY {w:World}{B:Nat}{t:TypeId}{s n c m:Nat}{A:Option Addr}{xs:List Value}(h:w.ownsRow B t s (.slice A m c) n xs){b:Nat}(e:A=some ⟨b,0,none⟩):B≤b∧b<w.heap.size:=by
 rcases h.2 with ⟨hv,_⟩ | ⟨g,AB,AA,hv,hb,hh,_⟩
 ·rw[e] at hv; cases hv
 ·rw[e] at hv;injection hv with h1;injection h1 with h1;injection h1 with h1;subst h1;exact⟨hb,(Array.getElem?_eq_some_iff.1 hh).1⟩
theorem jX {w:World}{B:Nat}{t:TypeId}{s n c m:Nat}{A:Option Addr}{xs:List Value}(h:w.ownsRow B t s (.slice A m c) n xs){b:Nat}(e:A=some ⟨b,0,none⟩):∃cur,Blk w b t cur:=by
 rcases h.2 with ⟨hv,_⟩ | ⟨g,AA,cur,hv,hb,hh,_⟩
 ·rw[e] at hv; cases hv
 ·rw[e] at hv;injection hv with h1;injection h1 with h1;injection h1 with h1;subst h1;exact⟨cur,hh⟩
theorem zD1 {w:World}{B:Nat}{t:TypeId}{s n c m:Nat}{A:Option Addr}{xs:List Value}(h:w.ownsRow B t s (.slice A m c) n xs):A=none∨∃b,A=some ⟨b,0,none⟩:=by
 rcases h.2 with ⟨hv,_⟩ | ⟨g,AB,AA,hv,hb,hh,_⟩
 ·injection hv with h1; exact .inl h1
 ·injection hv with h1; exact .inr ⟨g,h1⟩
theorem NS.zCy {w:World}{B:Nat}{tn ti:TypeId}{A:Option Addr}{c:Nat}{nh:List (Nd × Hd2)}(h:NS w B tn ti A c nh){b:Nat}(hb:zFl A nh b):B≤b∧b<w.heap.size:=by
 rcases hb with hb | hb
 ·exact XY h.row hb
 ·obtain⟨x,hx,e⟩:=List.mem_map.1 hb;exact XY (h.kids x hx) e
theorem NS.zCb {w:World}{B:Nat}{tn ti:TypeId}{A:Option Addr}{c:Nat}{nh:List (Nd × Hd2)}(h:NS w B tn ti A c nh){g:Nat}{t:TypeId}{cs:Array Value}(hg:Blk w g t cs)(h1:t≠tn)(h2:t≠ti):¬zFl A nh g:=by
 rintro (hb | hb)
 ·obtain⟨AA,hc⟩:=jX h.row hb;exact Blk.differ hg hc h1 rfl
 ·obtain⟨x,hx,e⟩:=List.mem_map.1 hb;obtain⟨AA,hc⟩:=jX (h.kids x hx) e;exact Blk.differ hg hc h2 rfl
theorem NS.JX {w w':World}{B:Nat}{tn ti:TypeId}{A:Option Addr}{c:Nat}{nh:List (Nd × Hd2)}(h:NS w B tn ti A c nh)(hk:∀b,zFl A nh b→w'.heap[b]?=w.heap[b]?):NS w' B tn ti A c nh:=by
 refine⟨⟨h.row.1,?_⟩,fun x hx=>⟨(h.kids x hx).1,?_⟩,h.apart,h.rz,h.kz⟩
 ·rcases h.row.2 with hn | ⟨g,AB,AA,hv,hb,hh,r⟩
  ·exact .inl hn
  ·injection hv with e1 e2 e3;exact .inr ⟨g,AB,AA,by rw[e1,e3],hb,(hk g (.inl e1)).trans hh,r⟩
 ·rcases(h.kids x hx).2 with hn | ⟨g,AB,AA,hv,hb,hh,r⟩
  ·exact .inl hn
  ·injection hv with e1 e2 e3;exact .inr ⟨g,AB,AA,by rw[e1,e3],hb,(hk g (.inr (by rw[←e1]; exact List.mem_map.2 ⟨x,hx,rfl⟩))).trans hh,r⟩
theorem NS.ext {w w':World}{B:Nat}{tn ti:TypeId}{A:Option Addr}{c:Nat}{nh:List (Nd × Hd2)}(h:NS w B tn ti A c nh)(hx:Ext w w'):NS w' B tn ti A c nh:=h.JX fun b hb=>hx.block b (h.zCy hb).2
theorem zDS {w w':World}{b1:Nat}{t1:TypeId}{s1 n1 c1:Nat}{A1:Option Addr}{xs1:List Value}{o:Option Nat}(h1:w.ownsRow b1 t1 s1 (.slice A1 n1 c1) n1 xs1)(hg:w.grownBy w' o)(hne:∀b,A1=some ⟨b,0,none⟩→o≠some b):w'.ownsRow b1 t1 s1 (.slice A1 n1 c1) n1 xs1:=by
 refine h1.kept hg ?_
 rcases zD1 h1 with e | ⟨b,e⟩
 ·rw[e]; exact .inl rfl
 ·refine .inr fun e2=>hne b e ?_;rw[←e2,e]
  rfl
theorem zHX {A:Option Addr}{n c b:Nat}(h:(Value.slice A n c).ownBlock=some b):∃a,A=some a∧a.block=b:=by
 cases A with
 | none=>cases h
 | some a=>exact⟨a,rfl,by simpa [Value.ownBlock] using h⟩
theorem vQ {w:World}{B:Nat}{t:TypeId}{s n c m:Nat}{A:Option Addr}{xs:List Value}(h:w.ownsRow B t s (.slice A m c) n xs){b:Nat}(e:(Value.slice A m c).ownBlock=some b):A=some ⟨b,0,none⟩:=by
 obtain⟨a,ea,eb⟩:=zHX e
 rcases zD1 h with e0 | ⟨b',e0⟩
 ·rw[e0] at ea; cases ea
 ·rw[e0] at ea ⊢;injection ea with ea;subst ea
  simp only at eb
  rw[eb]
theorem NS.snoc {w w':World}{B:Nat}{tn ti:TypeId}{A:Option Addr}{c:Nat}{nh:List (Nd × Hd2)}(h:NS w B tn ti A c nh)(hne:tn≠ti)(x:Nd)(hx:x.kids=[]){g cap:Nat}
  (ho:w'.ownsRow B tn 5 (.slice (some ⟨g,0,none⟩) (nh.length+1) cap) (nh.length+1) (ncs nh++ZW (x,(none,0)))) (hg:w.grownBy w' (Value.slice A nh.length c).ownBlock):NS w' B tn ti (some ⟨g,0,none⟩) cap (nh++[(x,(none,0))]):=by
 refine⟨by rw[zQZ,yM]; exact ho,fun y hy=>?_,fun i j hi hj he hn=>?_,fun h0=>by simp at h0,fun y hy h0=>?_⟩
 ·rcases List.mem_append.1 hy with hy | hy
  ·refine zDS (h.kids y hy) hg fun b e e2=>?_;obtain⟨AC,hc⟩:=jX (h.kids y hy) e;exact YX h.row hc hne e2
  ·have:=List.mem_singleton.1 hy
   subst this
   show w'.ownsRow B ti 1 (.slice none x.kids.length 0) x.kids.length (ints x.kids)
   rw[hx];exact zP _ _ _ _
 ·rw[yM] at hi hj;simp only[zJ,zK,Nat.zero_add] at hi hj
  by_cases AA:i<nh.length
  ·rw[List.getElem_append_left AA] at he hn
   by_cases AB:j<nh.length
   ·rw[List.getElem_append_left AB] at he;exact h.apart i j AA AB he hn
   ·exfalso
    apply hn;rw[he,List.getElem_append_right (by omega)]
    simp
  ·exfalso
   apply hn;rw[List.getElem_append_right (by omega)]
   simp
 ·rcases List.mem_append.1 hy with hy | hy
  ·exact h.kz y hy h0
  ·rw[List.mem_singleton.1 hy]
theorem zJD {w:World}{base g n m c k sz:Nat}{e:TypeId}{xs:List Value}(h:w.ownsRow base e sz (.slice (some ⟨g,0,none⟩) m c) n xs)(hk:k<n*sz)(u:Value):(w.setCell ⟨g,k,none⟩ u).ownsRow base e sz (.slice (some ⟨g,0,none⟩) m c) n (xs.set k u):=by
 refine⟨by rw[zB]; exact h.1,?_⟩
 rcases h.2 with ⟨hv,_⟩ | ⟨g',AB,AA,hv,hb,hh,h1,h2,h3,h4⟩
 ·cases hv
 ·injection hv with e1 e2 e3;injection e1 with e1;injection e1 with e1;subst e1 e3;refine .inr ⟨g,c,AA.setIfInBounds k u,by rw[e2],hb,?_,h1,h2,by simpa using h3,?_⟩
  ·simp[World.setCell,Array.getElem?_modify,hh]
  ·rw[Array.toList_setIfInBounds,List.take_set,h4]
theorem zDT {w:World}{b1 g:Nat}{t1:TypeId}{s1 n1:Nat}{v1:Value}{xs1:List Value}{t:TypeId}{cs:Array Value}(h1:w.ownsRow b1 t1 s1 v1 n1 xs1)(h2:Blk w g t cs)(ht:t1≠t)(k:Nat)(u:Value):(w.setCell ⟨g,k,none⟩ u).ownsRow b1 t1 s1 v1 n1 xs1:=zNz h1 (YX h1 h2 ht) u
theorem NS.put {w:World}{B:Nat}{tn ti:TypeId}{A:Option Addr}{c:Nat}{nh:List (Nd × Hd2)}(h:NS w B tn ti A c nh)(hne:tn≠ti)(i:Nat)(hi:i<nh.length)(j:Nat)(hj:j<5)(u:Value)(f:Nd→Nd)(hk:∀x,(f x).kids=x.kids)(hf:ZW (f nh[i].1,nh[i].2)=(ZW nh[i]).set j u){g:Nat}(hA:A=some ⟨g,0,none⟩) :
  NS (w.setCell ⟨g,i*5+j,none⟩ u) B tn ti A c (nh.modify i fun x=>(f x.1,x.2)):=by
 subst hA;obtain⟨AB,hc⟩:=jX h.row rfl;refine⟨?_,fun y hy=>?_,fun a b ha hb he hn=>?_,fun h0=>h.rz (by rw[List.length_modify] at h0; exact h0),fun y hy h0=>?_⟩
 ·rw[List.length_modify,zHr nh i hi j hj u _ hf];exact zJD h.row (by omega) u
 ·obtain⟨a,ha,rfl⟩:=List.mem_iff_getElem.1 hy;rw[List.length_modify] at ha;have hb:=zDT (h.kids _ (yL ha)) hc (Ne.symm hne) (i*5+j) u;rw[List.getElem_modify]
  split
  ·simp only[hk];exact hb
  ·exact hb
 ·rw[List.length_modify] at ha hb
  have e:∀(a:Nat) (ha:a<nh.length),((nh.modify i fun x=>(f x.1,x.2))[a]'(by rw[List.length_modify]; exact ha)).2.1=nh[a].2.1:=fun a ha=>by
   rw[List.getElem_modify]; split <;> rfl
  rw[e a ha,e b hb] at he;rw[e a ha] at hn;exact h.apart a b ha hb he hn
 ·obtain⟨a,ha,rfl⟩:=List.mem_iff_getElem.1 hy;rw[List.length_modify] at ha;rw[List.getElem_modify] at h0 ⊢
  split
  ·rename_i AA;rw[if_pos AA] at h0;simp only[hk] at h0;exact h.kz nh[a] (yL ha) h0
  ·rename_i AA;rw[if_neg AA] at h0;exact h.kz _ (yL ha) h0
theorem zPV {A:Option Addr}{nh:List (Nd × Hd2)}(i:Nat)(f:Nd→Nd)(b:Nat)(hb:zFl A (nh.modify i fun x=>(f x.1,x.2)) b):zFl A nh b:=by
 rcases hb with hb | hb
 ·exact .inl hb
 ·refine .inr ?_;obtain⟨x,hx,e⟩:=List.mem_map.1 hb;obtain⟨a,ha,rfl⟩:=List.mem_iff_getElem.1 hx;rw[List.length_modify] at ha;rw[List.getElem_modify] at e;refine List.mem_map.2 ⟨nh[a],yL ha,?_⟩
  split at e <;> exact e
theorem NS.kid {W w1:World}{B:Nat}{tn ti:TypeId}{A:Option Addr}{c:Nat}{nh:List (Nd × Hd2)}(h:NS W B tn ti A c nh)(hne:tn≠ti)(i:Nat)(hi:i<nh.length)(k:Nat){g gk cap:Nat}(hA:A=some ⟨g,0,none⟩)
  (ho:w1.ownsRow B ti 1 (.slice (some ⟨gk,0,none⟩) (nh[i].1.kids.length+1) cap) (nh[i].1.kids.length+1) (ints nh[i].1.kids++[.int .i64 (k:Int)])) (hg:W.grownBy w1 (Value.slice nh[i].2.1 nh[i].1.kids.length nh[i].2.2).ownBlock)
  (hf:(Value.slice nh[i].2.1 nh[i].1.kids.length nh[i].2.2).ownBlock=some gk∨W.heap.size≤gk) :
  NS (w1.setCell ⟨g,i*5+4,none⟩ (.slice (some ⟨gk,0,none⟩) (nh[i].1.kids.length+1) cap)) B tn ti A c (nh.modify i fun x=>({ x.1 with kids:=x.1.kids++[k] },(some ⟨gk,0,none⟩,cap))):=by
 subst hA
 have AB:=zDS h.row hg fun b e e2=>by
  have e3:=vQ (h.kids _ (yL hi)) e2;obtain⟨c1,h1⟩:=jX h.row e;obtain⟨c2,h2⟩:=jX (h.kids _ (yL hi)) e3;exact Blk.differ h1 h2 hne rfl
 obtain⟨AD,hc⟩:=jX AB rfl;refine⟨?_,fun y hy=>?_,fun a b ha hb he hn=>?_,fun h0=>h.rz (by rw[List.length_modify] at h0; exact h0),fun y hy h0=>?_⟩
 ·rw[List.length_modify,zHr nh i hi 4 (by decide) (.slice (some ⟨gk,0,none⟩) (nh[i].1.kids.length+1) cap) _ (by simp[ZW])];exact zJD AB (by omega) _
 ·obtain⟨a,ha,rfl⟩:=List.mem_iff_getElem.1 hy;rw[List.length_modify] at ha;rw[List.getElem_modify]
  split
  ·rename_i AA;subst AA;have hb:=zDT ho hc (Ne.symm hne) (i*5+4) (.slice (some ⟨gk,0,none⟩) (nh[i].1.kids.length+1) cap);rw[←zNF] at hb;simp only[yM,zJ,zK,Nat.zero_add];exact hb
  ·rename_i AA;refine zDT (zDS (h.kids _ (yL ha)) hg fun b e e2=>?_) hc (Ne.symm hne) _ _;have e3:=vQ (h.kids _ (yL hi)) e2;exact AA (h.apart i a hi ha (e3.trans e.symm) (by rw[e3]; simp))
 ·rw[List.length_modify] at ha hb
  have AC:∀(a:Nat) (ha:a<nh.length),i≠a→nh[a].2.1≠some ⟨gk,0,none⟩:=by
   intro a ha AA e
   rcases hf with hf | hf
   ·have e3:=vQ (h.kids _ (yL hi)) hf;exact AA (h.apart i a hi ha (e3.trans e.symm) (by rw[e3]; simp))
   ·have:=(XY (h.kids _ (yL ha)) e).2
    omega
  rw[List.getElem_modify,List.getElem_modify] at he;rw[List.getElem_modify] at hn
  split at he <;> split at he
  ·omega
  ·rename_i h1 h2;exact absurd he.symm (AC b hb h2)
  ·rename_i h1 h2;exact absurd he (AC a ha h1)
  ·rename_i h1 h2;rw[if_neg h1] at hn;exact h.apart a b ha hb he hn
 ·obtain⟨a,ha,rfl⟩:=List.mem_iff_getElem.1 hy;rw[List.length_modify] at ha;rw[List.getElem_modify] at h0 ⊢
  split
  ·rename_i AA;rw[if_pos AA] at h0
   simp at h0
  ·rename_i AA;rw[if_neg AA] at h0;exact h.kz _ (yL ha) h0
theorem zPM {W:World}{B:Nat}{tn ti:TypeId}{A:Option Addr}{c:Nat}{nh:List (Nd × Hd2)}(h:NS W B tn ti A c nh){i:Nat}(hi:i<nh.length)(f:Nd→Nd){gk cap:Nat}
  (hf:(Value.slice nh[i].2.1 nh[i].1.kids.length nh[i].2.2).ownBlock=some gk∨W.heap.size≤gk) (b:Nat) (hb:zFl A (nh.modify i fun x=>(f x.1,(some ⟨gk,0,none⟩,cap))) b):zFl A nh b∨W.heap.size≤b:=by
 rcases hb with hb | hb
 ·exact .inl (.inl hb)
 ·obtain⟨x,hx,e⟩:=List.mem_map.1 hb;obtain⟨a,ha,rfl⟩:=List.mem_iff_getElem.1 hx;rw[List.length_modify] at ha;rw[List.getElem_modify] at e
  split at e
  ·injection e with e;injection e with e;subst e
   rcases hf with hf | hf
   ·exact .inl (.inr (List.mem_map.2 ⟨nh[i],yL hi,vQ (h.kids _ (yL hi)) hf⟩))
   ·exact .inr hf
  ·exact .inl (.inr (List.mem_map.2 ⟨nh[a],yL ha,e⟩))
end Go.Proofs.YtioffpjajhalaaaGreatDoor
