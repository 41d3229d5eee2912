/- What the plain reading keeps: tokens are taken from the front, the last one stays; nodes are few. (and what follows of it). The conditions stand at each lemma. -/
import Derived.Test.YtioffpjajhalaaaGreatDoorJaa
import Derived.Test.YtioffpjajhalaaaGreatDoorJaj
set_option linter.unusedVariables false
set_option linter.unusedSimpArgs false
set_option maxRecDepth 100000
set_option maxHeartbeats 16000000
namespace Go.Proofs.YtioffpjajhalaaaGreatDoor
structure zEo (s:Ps):Prop where
 last:∃l e,s.ts=l++[e]∧e.kind=4
 deep:s.deep≤64
structure Good (s:Ps):Prop where
 last:∃l e,s.ts=l++[e]∧e.kind=4
 deep:s.deep≤64
 few:∀n ∈ s.nd,n.kids.length≤s.nd.length
theorem Good.base {s:Ps}(h:Good s):zEo s:=⟨h.last,h.deep⟩
theorem zEo.ne {s:Ps}(h:zEo s):s.ts≠[]:=by
 obtain⟨l,e,h,_⟩:=h.last;rw[h]
 simp
theorem zEo.pos {s:Ps}(h:zEo s):0<s.ts.length:=List.length_pos_iff.2 h.ne
theorem zEo.hd {s:Ps}(h:zEo s):∃t r,s.ts=t::r∧s.hd=t:=by
 cases hs:s.ts with
 | nil=>exact absurd hs h.ne
 | cons t r=>exact⟨t,r,rfl,by unfold Ps.hd; rw[hs]; rfl⟩
theorem zEo.adv {s:Ps}(h:zEo s)(hk:s.hd.kind≠4):zEo s.adv:=by
 refine⟨?_,h.deep⟩;obtain⟨l,e,hl,he⟩:=h.last
 cases l with
 | nil=>
  exfalso
  apply hk;unfold Ps.hd;rw[hl];exact he
 | cons t r=>
  refine⟨r,e,?_,he⟩
  show s.ts.tail=_
  rw[hl]
  rfl
def Ps.phi (s:Ps):Nat:=s.nd.length+2*s.ts.length
structure ZR (s s':Ps):Prop where
 xQ:Good s'
 phi:s'.phi≤s.phi
 ts:s'.ts.length≤s.ts.length
 nd:s.nd.length≤s'.nd.length
 deep:s'.deep=s.deep
theorem ZR.refl {s:Ps}(h:Good s):ZR s s:=⟨h,zU _,zU _,zU _,rfl⟩
theorem ZR.trans {a b c:Ps}(h:ZR a b)(k:ZR b c):ZR a c:=⟨k.xQ,Nat.le_trans k.phi h.phi,Nat.le_trans k.ts h.ts,Nat.le_trans h.nd k.nd,k.deep.trans h.deep⟩
def jM {α:Type}(s:Ps):Res α→Prop
 | .ok _ s'=>ZR s s'
 | .err _ _=>True
def zBh {α:Type}(m:Pm α):Prop:=∀s,Good s→jM s (m s)
theorem Good.pos {s:Ps}(h:Good s):0<s.ts.length:=h.base.pos
theorem Good.adv {s:Ps}(h:Good s)(hk:s.hd.kind≠4):Good s.adv:=⟨(h.base.adv hk).last,h.deep,h.few⟩
theorem jX {s:Ps}:s.adv.ts.length=s.ts.length-1:=by show s.ts.tail.length=_; simp
theorem VL {s:Ps}(h:Good s)(hk:s.hd.kind≠4):ZR s s.adv:=by
 have:=h.pos
 have ht:=jX (s:=s);exact⟨h.adv hk,by unfold Ps.phi; rw[ht]; show s.nd.length+_≤_; omega,by omega,zU _,rfl⟩
theorem vI {t:Bs}{s:Ps}(h:isP t s=true):s.hd.kind≠4∧s.hd.kind≠2∧s.hd.text=t:=by
 unfold isP at h;simp only[zF,zD,zN] at h;exact⟨h.1.1,h.1.2,h.2⟩
theorem zDQ {s:Ps}{i:Nat}{f:Nd→Nd}:(s.on i f).nd.length=s.nd.length:=by unfold Ps.on; simp
theorem zTx {s:Ps}{i:Nat}{f:Nd→Nd}(m:Nat)(hk:∀n ∈ s.nd,(f n).kids.length≤m)(h:∀n ∈ s.nd,n.kids.length≤m):∀n ∈ (s.on i f).nd,n.kids.length≤m:=by
 intro n hn;have AB:n ∈ s.nd.modify i f:=hn;obtain⟨a,ha,rfl⟩:=List.mem_iff_getElem.1 AB
 have AA:a<s.nd.length:=by rw[List.length_modify] at ha; exact ha
 rw[List.getElem_modify]
 split
 ·exact hk _ (yL AA)
 ·exact h _ (yL AA)
theorem zAz {s:Ps}{i:Nat}{f:Nd→Nd}(h:Good s)(hk:∀n,(f n).kids=n.kids):ZR s (s.on i f):=⟨⟨h.last,h.deep,by rw[zDQ]; exact zTx _ (fun n hn=>by rw[hk]; exact h.few n hn) h.few⟩,by unfold Ps.phi; rw[zDQ]; exact zU _,zU _,by rw[zDQ]; exact zU _,rfl⟩
theorem jM.trans {α:Type}{a b:Ps}{r:Res α}(h:ZR a b)(k:jM b r):jM a r:=by
 cases r with
 | ok x s=>exact h.trans k
 | err _ _=>trivial
theorem jM.bind {α β:Type}{s:Ps}{r:Res α}{f:α→Ps→Res β}(h:jM s r)(k:∀a s',r=.ok a s'→Good s'→jM s' (f a s')):jM s (r.bind f):=by
 cases r with
 | ok a s'=>exact jM.trans h (k a s' rfl h.xQ)
 | err e p=>trivial
theorem xN (t:Bs):zBh (vE t):=by
 intro s h;unfold vE
 split
 ·rename_i hi;exact VL h (vI hi).1
 ·trivial
theorem zVb (k:Nat)(hk:k≠4):zBh (ofP k):=by
 intro s h;unfold ofP
 split
 ·rename_i hi;exact VL h (by rw[hi]; exact hk)
 ·trivial
theorem ZY (i:Nat):zBh (vS i):=fun s h=>(zVb 1 (by decide) s h).bind fun t s' _ h'=>zAz h' (fun _=>rfl)
def JV {α:Type}(s:Ps):Res α→Prop
 | .ok _ s'=>Good s'∧s'.phi+2≤s.phi∧s'.ts.length+1≤s.ts.length∧s.nd.length≤s'.nd.length∧s'.deep=s.deep
 | .err _ _=>True
theorem jR (s:Ps)(i k:Nat):(s.xB i k).nd.length=s.nd.length+1:=by
 show((s.kid i).nd++[_]).length=_
 rw[yM]
 show(s.on i _).nd.length+1=_
 rw[zDQ]
theorem zBH {s:Ps}(h:∀n ∈ s.nd,n.kids.length≤s.nd.length)(i:Nat)(x:Nd)(hx:x.kids=[]):∀n ∈ ((s.kid i).add x).nd,n.kids.length≤((s.kid i).add x).nd.length:=by
 have hl:((s.kid i).add x).nd.length=s.nd.length+1:=by
  show((s.kid i).nd++[_]).length=_
  rw[yM]
  show(s.on i _).nd.length+1=_
  rw[zDQ]
 intro n hn;rw[hl]
 rcases List.mem_append.1 hn with hn | hn
 ·exact zTx (s.nd.length+1) (fun n hn=>by have:=h n hn; simp; omega) (fun n hn=>by have:=h n hn; omega) n hn
 ·rw[List.mem_singleton.1 hn,hx]
  simp
theorem vH {s:Ps}(h:Good s)(i k:Nat):Good (s.xB i k):=⟨h.last,h.deep,zBH h.few i _ rfl⟩
theorem YY (s:Ps)(i k:Nat):(s.xB i k).ts=s.ts:=rfl
theorem zLT (s:Ps)(i k:Nat):(s.xB i k).deep=s.deep:=rfl
theorem JV.at {α:Type}{s:Ps}{i k:Nat}{r:Res α}(h:JV (s.xB i k) r):jM s r:=by
 cases r with
 | ok a s'=>
  obtain⟨h1,h2,h3,h4,h5⟩:=h;have hl:=jR s i k;unfold Ps.phi at h2;rw[hl,YY] at h2;rw[YY] at h3;rw[hl] at h4;rw[zLT] at h5;exact⟨h1,by unfold Ps.phi; omega,by omega,by omega,h5⟩
 | err _ _=>trivial
theorem JV.bind {α β:Type}{s:Ps}{r:Res α}{f:α→Ps→Res β}(h:JV s r)(k:∀a s',r=.ok a s'→Good s'→jM s' (f a s')):JV s (r.bind f):=by
 cases r with
 | ok a s'=>
  have hk:=k a s' rfl h.1
  show JV s (f a s')
  obtain⟨h1,h2,h3,h4,h5⟩:=h
  cases hr:f a s' with
  | ok b s2=>
   rw[hr] at hk
   have:=hk.phi
   have:=hk.ts
   have:=hk.nd
   exact⟨hk.xQ,by omega,by omega,by omega,hk.deep.trans h5⟩
  | err _ _=>trivial
 | err e p=>trivial
theorem zC8 {s:Ps}(h:Good s)(hk:s.hd.kind≠4):JV s (.ok () s.adv:Res Unit):=by
 have:=h.pos
 have ht:=jX (s:=s);exact⟨h.adv hk,by unfold Ps.phi; rw[ht]; show s.nd.length+_+2≤_; omega,by omega,zU _,rfl⟩
theorem zNZ {s:Ps}(k:Nat)(hk:k≠4)(h:Good s):JV s (ofP k s):=by
 unfold ofP
 split
 ·rename_i hi
  have h0:s.hd.kind≠4:=by rw[hi]; exact hk
  exact zC8 h h0
 ·trivial
theorem zFA {s:Ps}(t:Bs)(h:Good s):JV s (vE t s):=by
 unfold vE
 split
 ·rename_i hi;exact zC8 h (vI hi).1
 ·trivial
theorem zAK {s:Ps}(i:Nat)(h:Good s):JV s (vS i s):=(zNZ 1 (by decide) h).bind fun t s' _ h'=>zAz h' (fun _=>rfl)
theorem YN (i:Nat):zBh (JN i):=fun s h=>JV.at (zAK _ (vH h i 5))
theorem zCR (i:Nat):zBh (JX i):=fun s h=>JV.at ((zNZ 2 (by decide) (vH h i 21)).bind fun t s' _ h'=>zAz h' (fun _=>rfl))
theorem zF3 {α:Type}{s:Ps}(a z:Bs){body:Pm α}(hb:∀t,Good t→t.ts.length<s.ts.length→jM t (body t))(h:Good s):JV s (xY a z body s):=by
 unfold xY
 split
 ·rename_i hi
  split
  ·trivial
  ·rename_i hd;have hk:=(vI hi).1;have AE:=h.deep;have hp:=h.pos;have g:Good { s.adv with deep:=s.deep+1 }:=⟨(h.adv hk).last,by show s.deep+1≤64; omega,h.few⟩;have AA:=hb _ g (by show s.adv.ts.length<_; rw[jX]; omega)
   cases hr:body { s.adv with deep:=s.deep+1 } with
   | err e p=>trivial
   | ok x t=>
    rw[hr] at AA;have hl:t.ts.length≤s.adv.ts.length:=AA.ts;have hn:s.nd.length≤t.nd.length:=AA.nd;have AC:t.deep=s.deep+1:=AA.deep;have AB:t.phi≤s.nd.length+2*s.adv.ts.length:=AA.phi;have AD:=jX (s:=s);have g2:∀u:Ps,Good u→u.deep=s.deep+1→Good { u with deep:=u.deep-1 }:=fun u gu hu=>⟨gu.last,by show u.deep-1≤64; omega,gu.few⟩
    show JV s (if z=[] then Res.ok x { t with deep:=t.deep-1 } else (vE z t).bind fun _ s=>.ok x { s with deep:=s.deep-1 })
    split
    ·exact⟨g2 t AA.xQ AC,by show t.phi+2≤s.phi; unfold Ps.phi at AB ⊢; omega,by show t.ts.length+1≤_; omega,hn,by show t.deep-1=s.deep; omega⟩
    ·have ht:=xN z t AA.xQ
     cases hq:vE z t with
     | err e p=>trivial
     | ok y u=>
      rw[hq] at ht;have h1:u.ts.length≤t.ts.length:=ht.ts;have h2:t.nd.length≤u.nd.length:=ht.nd;have h3:u.deep=t.deep:=ht.deep;have h4:u.phi≤t.phi:=ht.phi;exact⟨g2 u ht.xQ (by omega),by show u.phi+2≤s.phi; unfold Ps.phi at AB h4 ⊢; omega,by show u.ts.length+1≤_; omega,by show s.nd.length≤u.nd.length; omega,by show u.deep-1=s.deep; omega⟩
 ·trivial
theorem JV.zXy {α:Type}{s:Ps}{r:Res α}(h:JV s r):jM s r:=by
 cases r with
 | ok a s'=>
  obtain⟨h1,h2,h3,h4,h5⟩:=h;exact⟨h1,by omega,by omega,h4,h5⟩
 | err _ _=>trivial
def Ex.size:Ex→Nat
 | .leaf ..=>1
 | .neg _ a=>a.size+1
 | .bin _ _ a b=>a.size+b.size+1
def zDg (s:Ps):Res Ex→Prop
 | .ok e s'=>Good s'∧s'.ts.length+e.size≤s.ts.length∧s'.nd=s.nd∧s'.deep=s.deep
 | .err _ _=>True
theorem zI6 {ms:List (Bs × Nat)}{s:Ps}{k:Nat}(h:zAi ms s=some k):s.hd.kind≠4:=by
 unfold zAi at h
 cases hf:ms.find? fun m=>isP m.1 s with
 | none=>rw[hf] at h; cases h
 | some m=>exact(vI (t:=m.1) (List.find?_some (p:=fun m:Bs × Nat=>isP m.1 s) hf)).1
theorem zI5 {ms:List (Bs × Nat)}{part:Pm Ex}(n:Nat)(hp:∀t,Good t→t.ts.length≤n→zDg t (part t))(s:Ps):∀(f:Nat) (e:Ex) (t:Ps),Good t→t.ts.length≤n→t.ts.length+e.size≤s.ts.length→t.nd=s.nd→t.deep=s.deep→zDg s (ZE ms part f e t)
 | 0,_,_,_,_,_,_,_=>trivial
 | f+1,e,t,g,hl,hs,hn,hd=>by
  unfold ZE
  split
  ·exact⟨g,hs,hn,hd⟩
  ·rename_i k hk;have h4:=zI6 hk;have AB:=g.pos;have AC:=jX (s:=t);have AA:=hp t.adv (g.adv h4) (by omega)
   cases hr:part t.adv with
   | err e p=>trivial
   | ok r u=>
    rw[hr] at AA;obtain⟨h1,h2,h3,h5⟩:=AA;exact zI5 n hp s f (.bin k e.pos e r) u h1 (by omega) (by show u.ts.length+(e.size+r.size+1)≤_; omega) (h3.trans hn) (h5.trans hd)
theorem zEk {ms:List (Bs × Nat)}{part:Pm Ex}(n:Nat)(hp:∀t,Good t→t.ts.length≤n→zDg t (part t)):∀s,Good s→s.ts.length≤n→zDg s (ZL ms part s):=by
 intro s g hl;have AA:=hp s g hl;unfold ZL
 cases hr:part s with
 | err e p=>trivial
 | ok e u=>
  rw[hr] at AA;obtain⟨h1,h2,h3,h5⟩:=AA;exact zI5 n hp s _ e u h1 (by omega) h2 h3 h5
theorem zGA {part:Pm Ex}(n:Nat)(hp:∀t,Good t→t.ts.length≤n→zDg t (part t)):∀s,Good s→s.ts.length≤n→zDg s (sumOf part s):=zEk n (zEk n hp)
def zV8 (s:Ps):Res Ex→Prop
 | .ok e s'=>Good s'∧s'.ts.length+e.size+1≤s.ts.length∧s'.nd=s.nd∧s'.deep=s.deep
 | .err _ _=>True
theorem zF9 {s:Ps}(a z:Bs){body:Pm Ex}(hb:∀t,Good t→t.ts.length<s.ts.length→zDg t (body t))(h:Good s):zV8 s (xY a z body s):=by
 unfold xY
 split
 ·rename_i hi
  split
  ·trivial
  ·rename_i hd;have hk:=(vI hi).1;have AH:=h.deep;have hp:=h.pos;have g:Good { s.adv with deep:=s.deep+1 }:=⟨(h.adv hk).last,by show s.deep+1≤64; omega,h.few⟩;have AD:=jX (s:=s);have AA:=hb _ g (by show s.adv.ts.length<_; omega)
   cases hr:body { s.adv with deep:=s.deep+1 } with
   | err e p=>trivial
   | ok x t=>
    rw[hr] at AA;obtain⟨h1,h2,h3,h4⟩:=AA;have AG:t.ts.length+x.size≤s.adv.ts.length:=h2;have AC:t.deep=s.deep+1:=h4;have g2:∀u:Ps,Good u→u.deep=s.deep+1→Good { u with deep:=u.deep-1 }:=fun u gu hu=>⟨gu.last,by show u.deep-1≤64; omega,gu.few⟩;simp only[vT]
    split
    ·exact⟨g2 t h1 AC,by show t.ts.length+_+1≤_; omega,h3,by show t.deep-1=s.deep; omega⟩
    ·have ht:=xN z t h1
     cases hq:vE z t with
     | err e p=>trivial
     | ok y u=>
      rw[hq] at ht;have AE:u.ts.length≤t.ts.length:=ht.ts;have AF:u.deep=t.deep:=ht.deep
      have AB:u.nd=t.nd:=by
       unfold vE at hq
       split at hq
       ·injection hq with _ e2;rw[←e2]; rfl
       ·cases hq
      exact⟨g2 u ht.xQ (by omega),by show u.ts.length+_+1≤_; omega,AB.trans h3,by show u.deep-1=s.deep; omega⟩
 ·trivial
theorem JW:∀(f:Nat) (s:Ps),Good s→s.ts.length≤f→zDg s (xM f s)
 | 0,s,g,hl=>absurd g.pos (by omega)
 | f+1,s,g,hl=>by
  have hp:=g.pos;have AA:=jX (s:=s);unfold xM
  split
  ·rename_i hk;exact⟨g.adv (by omega),by show s.adv.ts.length+1≤_; omega,rfl,rfl⟩
  ·split
   ·rename_i hk;exact⟨g.adv (by omega),by show s.adv.ts.length+1≤_; omega,rfl,rfl⟩
   ·split
    ·have h:=zF9 [45] [] (body:=xM f) (fun t gt ht=>JW f t gt (by omega)) g
     cases hr:xY [45] [] (xM f) s with
     | err e p=>trivial
     | ok a t=>
      rw[hr] at h;obtain⟨h1,h2,h3,h4⟩:=h;exact⟨h1,by show t.ts.length+(a.size+1)≤_; omega,h3,h4⟩
    ·have h:=zF9 [40] [41] (body:=sumOf (xM f)) (fun t gt ht=>zGA f (fun t gt ht=>JW f t gt ht) t gt (by omega)) g
     cases hr:xY [40] [41] (sumOf (xM f)) s with
     | err e p=>trivial
     | ok a t=>
      rw[hr] at h;obtain⟨h1,h2,h3,h4⟩:=h;exact⟨h1,by omega,h3,h4⟩
theorem zI2 (s:Ps)(g:Good s):zDg s (zLN s):=zGA _ (fun t gt ht=>JW _ t gt ht) s g (zU _)
theorem zBQ (s:Ps)(i:Nat)(n:Nd):((s.kid i).add n).nd.length=s.nd.length+1:=by
 show((s.kid i).nd++[_]).length=_
 rw[yM]
 show(s.on i _).nd.length+1=_
 rw[zDQ]
theorem zCL:∀(e:Ex) (i:Nat) (s:Ps),(zAe i e s).nd.length=s.nd.length+e.size∧(zAe i e s).ts=s.ts∧(zAe i e s).deep=s.deep
 | .leaf k p t n,i,s=>⟨zBQ s i _,rfl,rfl⟩
 | .neg p a,i,s=>by
  obtain⟨h1,h2,h3⟩:=zCL a s.nd.length ((s.kid i).add ⟨26,p,[],0,[]⟩);refine⟨?_,h2,h3⟩
  show(zAe s.nd.length a _).nd.length=s.nd.length+(a.size+1)
  rw[h1,zBQ];omega
 | .bin k p a b,i,s=>by
  obtain⟨h1,h2,h3⟩:=zCL a s.nd.length ((s.kid i).add ⟨k,p,[],0,[]⟩);obtain⟨h4,h5,h6⟩:=zCL b s.nd.length (zAe s.nd.length a ((s.kid i).add ⟨k,p,[],0,[]⟩));refine⟨?_,h5.trans h2,h6.trans h3⟩
  show(zAe s.nd.length b _).nd.length=s.nd.length+(a.size+b.size+1)
  rw[h4,h1,zBQ];omega
theorem zFO:∀(e:Ex) (i:Nat) (s:Ps),(∀n ∈ s.nd,n.kids.length≤s.nd.length)→∀n ∈ (zAe i e s).nd,n.kids.length≤(zAe i e s).nd.length
 | .leaf k p t n,i,s,h=>zBH h i _ rfl
 | .neg p a,i,s,h=>zFO a _ _ (zBH h i _ rfl)
 | .bin k p a b,i,s,h=>zFO b _ _ (zFO a _ _ (zBH h i _ rfl))
theorem YB (i:Nat):zBh (XC i):=by
 intro s g;unfold XC;have h:=zI2 s g
 cases hr:zLN s with
 | err e p=>trivial
 | ok e t=>
  rw[hr] at h;obtain⟨h1,h2,h3,h4⟩:=h;obtain⟨p1,p2,p3⟩:=zCL e i t;refine⟨⟨by rw[p2]; exact h1.last,by rw[p3]; exact h1.deep,zFO e i t h1.few⟩,?_,by rw[p2]; omega,by rw[p1,h3]; omega,by rw[p3,h4]⟩;unfold Ps.phi;rw[p1,p2,h3];omega
theorem zKT {one:Pm Unit}(h:zBh one):∀f,zBh (JU one f)
 | 0=>fun _ _=>trivial
 | f+1=>fun s g=>by
  unfold JU
  split
  ·rename_i hi;have hk:=(vI hi).1;exact jM.trans (VL g hk) ((h _ (g.adv hk)).bind fun _ t _ gt=>zKT h f t gt)
  ·exact ZR.refl g
theorem zBz {one:Pm Unit}(h:zBh one):zBh (JC one):=fun s g=>(h s g).bind fun _ t _ gt=>zKT h _ t gt
theorem zIV (i:Nat):zBh (zD5 i):=fun s g=>(zF3 [91] [93] (fun t gt _=>YB i t gt) g).zXy
theorem zEv (i:Nat):zBh (zEn i):=fun s g=>JV.at ((zAK _ (vH g i 20)).bind fun _ t _ gt=>zIV _ t gt)
theorem zE0 (i:Nat):zBh (zEF i):=fun s g=>(zEv i s g).bind fun _ t _ gt=>(xN _ t gt).bind fun _ t _ gt=>YN i t gt
theorem zRe (i:Nat):zBh (zGb i):=fun s g=>(ZY i s g).bind fun _ t _ gt=>(xN _ t gt).bind fun _ t _ gt=>(zE0 i t gt).bind fun _ t _ gt=>by
 split
 ·rename_i hi;exact jM.trans (VL gt (vI hi).1) ((xN _ _ (gt.adv (vI hi).1)).bind fun _ t _ gt=>zAz gt (fun _=>rfl))
 ·exact ZR.refl gt
theorem zTE (i:Nat):zBh (zL4 i):=fun s g=>(zE0 i s g).bind fun _ t _ gt=>(xN _ t gt).bind fun _ t _ gt=>YB i t gt
theorem zOh (i:Nat):zBh (zCm i):=fun s g=>(zEv i s g).bind fun _ t _ gt=>(xN _ t gt).bind fun _ t _ gt=>(zBz (YB i) t gt).bind fun _ t _ gt=>xN _ t gt
theorem zRP (i:Nat):zBh (zFH i):=fun s g=>(ZY i s g).bind fun _ t _ gt=>(xN _ t gt).bind fun _ t _ gt=>(YN i t gt).bind fun _ t _ gt=>(xN _ t gt).bind fun _ t _ gt=>YN i t gt
theorem zQL (i:Nat):zBh (zFR i):=fun s g=>(YN i s g).bind fun _ t _ gt=>by
 split
 ·rename_i hi;exact(VL gt (vI hi).1).trans (zAz (gt.adv (vI hi).1) (fun _=>rfl))
 ·exact xN _ t gt
theorem zLw (i:Nat):zBh (zAw i):=fun s g=>JV.at ((zAK _ (vH g i 5)).bind fun _ t _ gt=>by
 split
 ·have l1:ZR t (t.kind s.nd.length 20):=zAz gt (fun _=>rfl);exact jM.trans l1 (zIV _ _ l1.xQ)
 ·exact ZR.refl gt)
theorem zSr (i:Nat):zBh (zLI i):=fun s g=>(ZY i s g).bind fun _ t _ gt=>(xN _ t gt).bind fun _ t _ gt=>YB i t gt
theorem zRj (i:Nat):zBh (zCN i):=fun s g=>by
 unfold zCN
 split
 ·rename_i hi;exact(VL g (vI hi).1).trans (zAz (g.adv (vI hi).1) (fun _=>rfl))
 ·exact xN _ s g
def zDt (n:Nat)(st:Nat→Pm Unit):Prop:=∀i s,Good s→s.ts.length≤n→jM s (st i s)
theorem zFs {n:Nat}{st:Nat→Pm Unit}(h:zDt n st)(i:Nat):∀f s,Good s→s.ts.length≤n→jM s (ZJ st i f s)
 | 0,_,_,_=>trivial
 | f+1,s,g,hl=>by
  unfold ZJ
  split
  ·exact ZR.refl g
  ·have h1:=h i s g hl
   cases hr:st i s with
   | err e p=>trivial
   | ok a t=>
    rw[hr] at h1
    have:=h1.ts
    exact jM.trans h1 (zFs h i f t h1.xQ (by omega))
theorem VA {n:Nat}{st:Nat→Pm Unit}(h:zDt n st)(i:Nat)(s:Ps)(g:Good s)(hl:s.ts.length≤n+1):jM s (XN st i s):=
 JV.at (zF3 [123] [125] (fun t gt ht=>zFs h _ _ t gt (by rw[YY] at ht; omega)) (vH g i 6))
theorem zQW {n:Nat}{st:Nat→Pm Unit}(h:zDt n st)(i:Nat)(s:Ps)(g:Good s)(hl:s.ts.length≤n+1):jM s (zC4 st i s):=by
 unfold zC4
 split
 ·rename_i hi;have hk:=(vI hi).1;have AA:=jX (s:=s);exact jM.trans (VL g hk) (VA h i _ (g.adv hk) (by omega))
 ·exact ZR.refl g
theorem jM.zF0 {α β:Type}{s:Ps}{r:Res α}{f:α→Ps→Res β}(h:jM s r)(k:∀a s',Good s'→s'.ts.length≤s.ts.length→jM s' (f a s')):jM s (r.bind f):=by
 cases r with
 | ok a s'=>exact jM.trans h (k a s' h.xQ h.ts)
 | err e p=>trivial
theorem zNC {n:Nat}{st:Nat→Pm Unit}(h:zDt n st)(i:Nat)(s:Ps)(g:Good s)(hl:s.ts.length≤n+1):jM s (zAx st i s):=
 (YB i s g).zF0 fun _ t gt l1=>(zRj i t gt).zF0 fun _ t gt l2=>(YB i t gt).zF0 fun _ t gt l3=>(VA h i t gt (by omega)).zF0 fun _ t gt l4=>zQW h i t gt (by omega)
theorem zRL {n:Nat}{st:Nat→Pm Unit}(h:zDt n st)(i:Nat)(s:Ps)(g:Good s)(hl:s.ts.length≤n+1):jM s (zDC st i s):=
 (ZY i s g).zF0 fun _ t gt l1=>(xN _ t gt).zF0 fun _ t gt l2=>(zCR i t gt).zF0 fun _ t gt l3=>(xN _ t gt).zF0 fun _ t gt l4=>(zCR i t gt).zF0 fun _ t gt l5=>VA h i t gt (by omega)
theorem zDz {n:Nat}{st:Nat→Pm Unit}(h:zDt n st)(k i:Nat)(s:Ps)(g:Good s)(hl:s.ts.length≤n+1):jM s (YO st k i s):=by
 unfold YO
 split
 ·exact zRe i s g
 split
 ·exact zTE i s g
 split
 ·exact zOh i s g
 split
 ·exact zEv i s g
 split
 ·exact zRP i s g
 split
 ·exact zQL i s g
 split
 ·exact zLw i s g
 split
 ·exact zNC h i s g hl
 split
 ·exact zRL h i s g hl
 split
 ·exact zSr i s g
 split
 ·exact YB i s g
 ·exact ZR.refl g
theorem zAL:∀f,zDt f (jO f)
 | 0,_,_,_,_=>trivial
 | f+1,i,s,g,hl=>by
  unfold jO
  split
  ·trivial
  ·rename_i k hk
   have h1:s.hd.kind=1:=by
    split at hk
    ·assumption
    ·cases hk
   have h4:(s.xB i k).hd.kind≠4:=by show s.hd.kind≠4; omega
   refine JV.at (i:=i) (k:=k) ?_;refine JV.bind (r:=.ok () (s.xB i k).adv) (zC8 (vH g i k) h4) (f:=fun _ t=>(YO (jO f) k s.nd.length t).bind fun _ s=>if k=14∨k=15 then .ok () s else vE [59] s) ?_;intro _ t ht gt;injection ht with _ ht;have AA:=jX (s:=s.xB i k);rw[YY] at AA
   have:=g.pos
   refine(zDz (zAL f) k _ t gt (by rw[←ht,AA]; omega)).bind fun _ u _ gu=>?_
   split
   ·exact ZR.refl gu
   ·exact xN _ u gu
theorem zCW (i:Nat):zBh (zD4 i):=fun s g=>VA (zAL s.ts.length) i s g (by omega)
theorem zJ0 (i:Nat):zBh (zAX i):=fun s g=>JV.at ((zFA _ (vH g i 2)).bind fun _ t _ gt=>(ZY _ t gt).bind fun _ t _ gt=>(xN _ t gt).bind fun _ t _ gt=>(zBz (YN _) t gt).bind fun _ t _ gt=>(xN _ t gt).bind fun _ t _ gt=>xN _ t gt)
theorem zHf (i:Nat):zBh (VF i):=fun s g=>by
 unfold VF
 split
 ·rename_i hi;exact(VL g (vI hi).1).trans (zAz (g.adv (vI hi).1) (fun _=>rfl))
 ·exact ZR.refl g
def Lst (s:Ps):Prop:=∃l e,s.ts=l++[e]∧e.kind=4
theorem Lst.ne {s:Ps}(h:Lst s):s.ts≠[]:=by obtain⟨l,e,h,_⟩:=h; rw[h]; simp
theorem Lst.pos {s:Ps}(h:Lst s):0<s.ts.length:=List.length_pos_iff.2 h.ne
theorem Lst.hd {s:Ps}(h:Lst s):s.hd ∈ s.ts:=by
 unfold Ps.hd
 cases hs:s.ts with
 | nil=>exact absurd hs h.ne
 | cons t r=>exact List.mem_cons_self ..
theorem Lst.adv {s:Ps}(h:Lst s)(hk:s.hd.kind≠4):Lst s.adv:=by
 obtain⟨l,e,hl,he⟩:=h
 cases l with
 | nil=>
  exfalso
  apply hk;unfold Ps.hd;rw[hl];exact he
 | cons t r=>exact⟨r,e,by show s.ts.tail=_; rw[hl]; rfl,he⟩
theorem Lst.len {s:Ps}(h:Lst s)(hk:s.hd.kind≠4):s.adv.ts.length<s.ts.length:=by
 have:=h.pos
 have:=jX (s:=s)
 omega
def Tl (s s':Ps):Prop:=∃pre,s.ts=pre++s'.ts
theorem Tl.refl (s:Ps):Tl s s:=⟨[],rfl⟩
theorem Tl.trans {a b c:Ps}(h:Tl a b)(k:Tl b c):Tl a c:=by
 obtain⟨p,hp⟩:=h;obtain⟨q,hq⟩:=k;exact⟨p++q,by rw[hp,hq,List.append_assoc]⟩
theorem Tl.adv (s:Ps):Tl s s.adv:=by
 cases hs:s.ts with
 | nil=>exact⟨[],by show s.ts=_; rw[show s.adv.ts=s.ts.tail from rfl,hs]; rfl⟩
 | cons t r=>exact⟨[t],by rw[show s.adv.ts=s.ts.tail from rfl,hs]; rfl⟩
theorem Tl.mem {s s':Ps}(h:Tl s s'){t:Tok}(ht:t ∈ s'.ts):t ∈ s.ts:=by
 obtain⟨p,hp⟩:=h;rw[hp];exact List.mem_append_right _ ht
theorem Tl.len {s s':Ps}(h:Tl s s'):s'.ts.length≤s.ts.length:=by
 obtain⟨p,hp⟩:=h;rw[hp,yM];omega
def vQ {α:Type}(s:Ps):Res α→Prop
 | .ok _ s'=>Lst s'∧Tl s s'
 | .err e a=>(e=50∨e=51)∧∃t ∈ s.ts,t.at_=a∧(e=51→t.kind≠4)
def XB {α:Type}(s:Ps):Res α→Prop
 | .ok _ s'=>Lst s'∧Tl s s'∧s'.ts.length<s.ts.length
 | .err e a=>(e=50∨e=51)∧∃t ∈ s.ts,t.at_=a∧(e=51→t.kind≠4)
theorem XB.at {α:Type}{s:Ps}{r:Res α}(h:XB s r):vQ s r:=by
 cases r with
 | ok a t=>exact⟨h.1,h.2.1⟩
 | err e a=>exact h
theorem vQ.of {α:Type}{s s2:Ps}(e:s2.ts=s.ts){r:Res α}(h:vQ s2 r):vQ s r:=by
 cases r with
 | ok a t=>exact⟨h.1,by obtain⟨p,hp⟩:=h.2; exact⟨p,by rw[←e,hp]⟩⟩
 | err c a=>obtain⟨h1,x,hx,AA⟩:=h; exact⟨h1,x,by rw[←e]; exact hx,AA⟩
theorem XB.of {α:Type}{s s2:Ps}(e:s2.ts=s.ts){r:Res α}(h:XB s2 r):XB s r:=by
 cases r with
 | ok a t=>exact⟨h.1,by obtain⟨p,hp⟩:=h.2.1; exact⟨p,by rw[←e,hp]⟩,by rw[←e]; exact h.2.2⟩
 | err c a=>obtain⟨h1,x,hx,AA⟩:=h; exact⟨h1,x,by rw[←e]; exact hx,AA⟩
theorem vQ.trans {α:Type}{s t:Ps}{r:Res α}(h:Tl s t)(k:vQ t r):vQ s r:=by
 cases r with
 | ok a u=>exact⟨k.1,h.trans k.2⟩
 | err c a=>obtain⟨h1,x,hx,AA⟩:=k; exact⟨h1,x,h.mem hx,AA⟩
theorem XB.trans {α:Type}{s t:Ps}{r:Res α}(h:Tl s t)(hl:t.ts.length<s.ts.length)(k:vQ t r):XB s r:=by
 cases r with
 | ok a u=>exact⟨k.1,h.trans k.2,Nat.lt_of_le_of_lt k.2.len hl⟩
 | err c a=>obtain⟨h1,x,hx,AA⟩:=k; exact⟨h1,x,h.mem hx,AA⟩
theorem vQ.bind {α β:Type}{s:Ps}{r:Res α}{f:α→Ps→Res β}(h:vQ s r)(k:∀a t,r=.ok a t→Lst t→t.ts.length≤s.ts.length→vQ t (f a t)):vQ s (r.bind f):=by
 cases r with
 | ok a t=>exact vQ.trans h.2 (k a t rfl h.1 h.2.len)
 | err e a=>exact h
theorem XB.bind {α β:Type}{s:Ps}{r:Res α}{f:α→Ps→Res β}(h:XB s r)(k:∀a t,r=.ok a t→Lst t→t.ts.length<s.ts.length→vQ t (f a t)):XB s (r.bind f):=by
 cases r with
 | ok a t=>exact XB.trans h.2.1 h.2.2 (k a t rfl h.1 h.2.2)
 | err e a=>exact h
theorem zUD {α:Type}{s:Ps}(h:Lst s)(e:Int)(he:e=50∨e=51)(hk:e=51→s.hd.kind≠4):vQ s (.err e s.hd.at_:Res α):=⟨he,_,h.hd,rfl,hk⟩
theorem zEd {α:Type}{s:Ps}(h:Lst s)(e:Int)(he:e=50∨e=51)(hk:e=51→s.hd.kind≠4):XB s (.err e s.hd.at_:Res α):=⟨he,_,h.hd,rfl,hk⟩
theorem zIO {α:Type}{s:Ps}{a:α}(h:Lst s)(hk:s.hd.kind≠4):XB s (.ok a s.adv):=⟨h.adv hk,Tl.adv s,h.len hk⟩
theorem ZM {α:Type}{s t:Ps}{a:α}(h:Lst s)(e:t.ts=s.ts):vQ s (.ok a t):=⟨by obtain⟨l,x,hl,hx⟩:=h; exact⟨l,x,by rw[e,hl],hx⟩,⟨[],by rw[e]; rfl⟩⟩
theorem Lst.of {s t:Ps}(h:Lst s)(e:t.ts=s.ts):Lst t:=by obtain⟨l,x,hl,hx⟩:=h; exact⟨l,x,by rw[e,hl],hx⟩
theorem ZA (t:Bs){s:Ps}(h:Lst s):XB s (vE t s):=by
 unfold vE
 split
 ·rename_i hi;exact zIO h (vI hi).1
 ·exact zEd h 50 (.inl rfl) (fun h=>absurd h (by decide))
theorem zRV (k:Nat)(hk:k≠4){s:Ps}(h:Lst s):XB s (ofP k s):=by
 unfold ofP
 split
 ·rename_i hi;exact zIO h (by rw[hi]; exact hk)
 ·exact zEd h 50 (.inl rfl) (fun h=>absurd h (by decide))
theorem zAd (i:Nat){s:Ps}(h:Lst s):XB s (vS i s):=(zRV 1 (by decide) h).bind fun t u _ hu _=>ZM hu rfl
theorem zDa (i:Nat){s:Ps}(h:Lst s):XB s (JN i s):=XB.of rfl (zAd _ (h.of rfl))
theorem zJR (i:Nat){s:Ps}(h:Lst s):XB s (JX i s):=XB.of (s2:=s.xB i 21) rfl ((zRV 2 (by decide) (h.of (t:=s.xB i 21) rfl)).bind fun t u _ hu _=>ZM hu rfl)
theorem zDB {α:Type}(a z:Bs){body:Pm α}{s:Ps}(h:Lst s)(hb:∀t,Lst t→t.ts.length<s.ts.length→vQ t (body t)):XB s (xY a z body s):=by
 unfold xY
 split
 ·rename_i hi
  split
  ·exact zEd h 51 (.inr rfl) (fun _=>(vI hi).1)
  ·have hk:=(vI hi).1;have hl:=h.len hk;refine XB.trans (t:={ s.adv with deep:=s.deep+1 }) (Tl.adv s) hl ((hb _ ((h.adv hk).of (t:={ s.adv with deep:=s.deep+1 }) rfl) hl).bind fun x t _ ht _=>?_)
   split
   ·exact ZM ht rfl
   ·exact((ZA z ht).at).bind fun _ u _ hu _=>ZM hu rfl
 ·exact zEd h 50 (.inl rfl) (fun h=>absurd h (by decide))
theorem zNP {ms:List (Bs × Nat)}{part:Pm Ex}(n:Nat)(hp:∀t,Lst t→t.ts.length≤n→vQ t (part t)):∀(f:Nat) (e:Ex) (t:Ps),Lst t→t.ts.length≤n→t.ts.length<f→vQ t (ZE ms part f e t)
 | 0,_,_,_,_,h=>absurd h (by omega)
 | f+1,e,t,g,hl,hf=>by
  unfold ZE
  split
  ·exact ZM g rfl
  ·rename_i k hk;have h4:=zI6 hk;have AA:=g.len h4;exact vQ.trans (Tl.adv t) ((hp _ (g.adv h4) (by omega)).bind fun r u _ hu AB=>zNP n hp f _ u hu (by omega) (by omega))
theorem zKQ {ms:List (Bs × Nat)}{part:Pm Ex}(n:Nat)(hp:∀t,Lst t→t.ts.length≤n→vQ t (part t)){s:Ps}(g:Lst s)(hl:s.ts.length≤n):vQ s (ZL ms part s):=
 (hp s g hl).bind fun e u _ hu AA=>zNP n hp _ e u hu (by omega) (Nat.lt_succ_self _)
theorem zPW {part:Pm Ex}(n:Nat)(hp:∀t,Lst t→t.ts.length≤n→vQ t (part t)){s:Ps}(g:Lst s)(hl:s.ts.length≤n):vQ s (sumOf part s):=
 zKQ n (fun t gt ht=>zKQ n hp gt ht) g hl
theorem zFg:∀(f:Nat) (s:Ps),Lst s→s.ts.length≤f→vQ s (xM f s)
 | 0,s,g,hl=>absurd g.pos (by omega)
 | f+1,s,g,hl=>by
  unfold xM
  split
  ·rename_i hk;exact(zIO g (by omega)).at
  ·split
   ·rename_i hk;exact(zIO g (by omega)).at
   ·split
    ·exact(zDB [45] [] g fun t gt ht=>zFg f t gt (by omega)).at.bind fun a t _ ht _=>ZM ht rfl
    ·exact(zDB [40] [41] g fun t gt ht=>zPW f (fun t gt ht=>zFg f t gt ht) gt (by omega)).at
theorem zSK {s:Ps}(g:Lst s):vQ s (zLN s):=zPW _ (fun t gt ht=>zFg _ t gt ht) g (zU _)
theorem zCC (i:Nat){s:Ps}(g:Lst s):vQ s (XC i s):=(zSK g).bind fun e t _ ht _=>ZM ht (zCL e i t).2.1
theorem zNR {one:Pm Unit}(h:∀s,Lst s→vQ s (one s)):∀(f:Nat) (s:Ps),Lst s→s.ts.length<f→vQ s (JU one f s)
 | 0,_,_,hl=>absurd hl (by omega)
 | f+1,s,g,hl=>by
  unfold JU
  split
  ·rename_i hi;have hk:=(vI hi).1;have AB:=g.len hk;exact vQ.trans (Tl.adv s) ((h _ (g.adv hk)).bind fun _ t _ ht AA=>zNR h f t ht (by omega))
  ·exact ZM g rfl
theorem zJs {one:Pm Unit}(h:∀s,Lst s→vQ s (one s)){s:Ps}(g:Lst s):vQ s (JC one s):=(h s g).bind fun _ t _ ht hl=>zNR h _ t ht (Nat.lt_succ_self _)
theorem zPA (i:Nat){s:Ps}(g:Lst s):XB s (zD5 i s):=zDB [91] [93] g fun t gt _=>zCC i gt
theorem zLG (i:Nat){s:Ps}(g:Lst s):vQ s (zEn i s):=vQ.of (s2:=s.xB i 20) rfl ((zAd _ (g.of (t:=s.xB i 20) rfl)).at.bind fun _ t _ ht _=>(zPA _ ht).at)
theorem zMY (i:Nat){s:Ps}(g:Lst s):vQ s (zEF i s):=(zLG i g).bind fun _ t _ ht _=>(ZA _ ht).at.bind fun _ t _ ht _=>(zDa i ht).at
theorem zTy (i:Nat){s:Ps}(g:Lst s):vQ s (zGb i s):=(zAd i g).at.bind fun _ t _ ht _=>(ZA _ ht).at.bind fun _ t _ ht _=>(zMY i ht).bind fun _ t _ ht _=>by
 split
 ·rename_i hi;exact vQ.trans (Tl.adv t) ((ZA _ (ht.adv (vI hi).1)).at.bind fun _ u _ hu _=>ZM hu rfl)
 ·exact ZM ht rfl
theorem zU6 (i:Nat){s:Ps}(g:Lst s):vQ s (zL4 i s):=(zMY i g).bind fun _ t _ ht _=>(ZA _ ht).at.bind fun _ t _ ht _=>zCC i ht
theorem zOT (i:Nat){s:Ps}(g:Lst s):vQ s (zCm i s):=(zLG i g).bind fun _ t _ ht _=>(ZA _ ht).at.bind fun _ t _ ht _=>(zJs (fun s g=>zCC i g) ht).bind fun _ t _ ht _=>(ZA _ ht).at
theorem zSi (i:Nat){s:Ps}(g:Lst s):vQ s (zFH i s):=(zAd i g).at.bind fun _ t _ ht _=>(ZA _ ht).at.bind fun _ t _ ht _=>(zDa i ht).at.bind fun _ t _ ht _=>(ZA _ ht).at.bind fun _ t _ ht _=>(zDa i ht).at
theorem zSG (i:Nat){s:Ps}(g:Lst s):vQ s (zFR i s):=(zDa i g).at.bind fun _ t _ ht _=>by
 split
 ·rename_i hi;exact vQ.trans (Tl.adv t) (ZM (ht.adv (vI hi).1) rfl)
 ·exact(ZA _ ht).at
theorem zOg (i:Nat){s:Ps}(g:Lst s):vQ s (zAw i s):=vQ.of (s2:=s.xB i 5) rfl ((zAd _ (g.of (t:=s.xB i 5) rfl)).at.bind fun _ t _ ht _=>by
 split
 ·exact vQ.of (s2:=t.kind s.nd.length 20) rfl (zPA _ (ht.of (t:=t.kind s.nd.length 20) rfl)).at
 ·exact ZM ht rfl)
theorem zTl (i:Nat){s:Ps}(g:Lst s):vQ s (zCN i s):=by
 unfold zCN
 split
 ·rename_i hi;exact vQ.trans (Tl.adv s) (ZM (g.adv (vI hi).1) rfl)
 ·exact(ZA _ g).at
theorem zUV (i:Nat){s:Ps}(g:Lst s):vQ s (zLI i s):=(zAd i g).at.bind fun _ t _ ht _=>(ZA _ ht).at.bind fun _ t _ ht _=>zCC i ht
def zPr (n:Nat)(st:Nat→Pm Unit):Prop:=∀i s,Lst s→s.ts.length≤n→XB s (st i s)
theorem zK0 {n:Nat}{st:Nat→Pm Unit}(h:zPr n st)(i:Nat):∀f s,Lst s→s.ts.length≤n→s.ts.length<f→vQ s (ZJ st i f s)
 | 0,_,_,_,hf=>absurd hf (by omega)
 | f+1,s,g,hl,hf=>by
  unfold ZJ
  split
  ·exact ZM g rfl
  ·exact((h i s g hl).bind fun _ t _ ht AA=>zK0 h i f t ht (by omega) (by omega)).at
theorem zE1 {n:Nat}{st:Nat→Pm Unit}(h:zPr n st)(i:Nat){s:Ps}(g:Lst s)(hl:s.ts.length≤n+1):XB s (XN st i s):=
 XB.of (s2:=s.xB i 6) rfl (zDB [123] [125] (g.of (t:=s.xB i 6) rfl) fun t gt ht=>zK0 h _ _ t gt (by rw[YY] at ht; omega) (Nat.lt_succ_self _))
theorem zSw {n:Nat}{st:Nat→Pm Unit}(h:zPr n st)(i:Nat){s:Ps}(g:Lst s)(hl:s.ts.length≤n+1):vQ s (zC4 st i s):=by
 unfold zC4
 split
 ·rename_i hi;have hk:=(vI hi).1
  have:=g.len hk
  exact vQ.trans (Tl.adv s) (zE1 h i (g.adv hk) (by omega)).at
 ·exact ZM g rfl
theorem zOw {n:Nat}{st:Nat→Pm Unit}(h:zPr n st)(i:Nat){s:Ps}(g:Lst s)(hl:s.ts.length≤n+1):vQ s (zAx st i s):=
 (zCC i g).bind fun _ t _ gt l1=>(zTl i gt).bind fun _ t _ gt l2=>(zCC i gt).bind fun _ t _ gt l3=>(zE1 h i gt (by omega)).at.bind fun _ t _ gt l4=>zSw h i gt (by omega)
theorem zQB {n:Nat}{st:Nat→Pm Unit}(h:zPr n st)(i:Nat){s:Ps}(g:Lst s)(hl:s.ts.length≤n+1):vQ s (zDC st i s):=
 (zAd i g).at.bind fun _ t _ gt l1=>(ZA _ gt).at.bind fun _ t _ gt l2=>(zJR i gt).at.bind fun _ t _ gt l3=>(ZA _ gt).at.bind fun _ t _ gt l4=>(zJR i gt).at.bind fun _ t _ gt l5=>(zE1 h i gt (by omega)).at
theorem zQr {n:Nat}{st:Nat→Pm Unit}(h:zPr n st)(k i:Nat){s:Ps}(g:Lst s)(hl:s.ts.length≤n+1):vQ s (YO st k i s):=by
 unfold YO
 split
 ·exact zTy i g
 split
 ·exact zU6 i g
 split
 ·exact zOT i g
 split
 ·exact zLG i g
 split
 ·exact zSi i g
 split
 ·exact zSG i g
 split
 ·exact zOg i g
 split
 ·exact zOw h i g hl
 split
 ·exact zQB h i g hl
 split
 ·exact zUV i g
 split
 ·exact zCC i g
 ·exact ZM g rfl
theorem zOl:∀f,zPr f (jO f)
 | 0,i,s,g,hl=>absurd g.pos (by omega)
 | f+1,i,s,g,hl=>by
  unfold jO
  split
  ·exact zEd g 50 (.inl rfl) (fun h=>absurd h (by decide))
  ·rename_i k hk
   have h1:s.hd.kind=1:=by
    split at hk
    ·assumption
    ·cases hk
   have h4:s.hd.kind≠4:=by omega
   have AA:=g.len h4;have e:(s.xB i k).adv.ts=s.adv.ts:=rfl;refine XB.trans (t:=s.adv) (Tl.adv s) AA (vQ.of (s2:=(s.xB i k).adv) rfl ((zQr (zOl f) k s.nd.length ((g.adv h4).of (t:=(s.xB i k).adv) rfl) (by rw[e]; omega)).bind fun _ u _ gu _=>?_))
   split
   ·exact ZM gu rfl
   ·exact(ZA _ gu).at
theorem zOA (i:Nat){s:Ps}(g:Lst s):XB s (zD4 i s):=zE1 (zOl s.ts.length) i g (by omega)
theorem zQH (i:Nat){s:Ps}(g:Lst s):XB s (zAX i s):=XB.of (s2:=s.xB i 2) rfl ((ZA _ (g.of (t:=s.xB i 2) rfl)).bind fun _ t _ gt _=>(zAd _ gt).at.bind fun _ t _ gt _=>(ZA _ gt).at.bind fun _ t _ gt _=>(zJs (fun s g=>(zDa _ g).at) gt).bind fun _ t _ gt _=>(ZA _ gt).at.bind fun _ t _ gt _=>(ZA _ gt).at)
theorem zRa (i:Nat){s:Ps}(g:Lst s):vQ s (JM i s):=by
 have e:JM i s=if isP [41] (s.xB i 4)=true then .ok () (s.xB i 4) else JC (JN s.nd.length) (s.xB i 4):=rfl;rw[e]
 cases hi:isP [41] (s.xB i 4) with
 | true=>simp only[if_true]; exact ZM g rfl
 | false=>simp only[Bool.false_eq_true,if_false]; exact vQ.of (s2:=s.xB i 4) rfl (zJs (fun s g=>(zDa _ g).at) (g.of (t:=s.xB i 4) rfl))
theorem zPo (i:Nat){s:Ps}(g:Lst s):vQ s (VF i s):=by
 unfold VF
 split
 ·rename_i hi;exact vQ.trans (Tl.adv s) (ZM (g.adv (vI hi).1) rfl)
 ·exact ZM g rfl
theorem zTf (i:Nat){s:Ps}(g:Lst s):XB s (zCB i s):=XB.of (s2:=s.xB i 3) rfl ((ZA _ (g.of (t:=s.xB i 3) rfl)).bind fun _ t _ gt _=>(zAd _ gt).at.bind fun _ t _ gt _=>(ZA _ gt).at.bind fun _ t _ gt _=>(zRa _ gt).bind fun _ t _ gt _=>(ZA _ gt).at.bind fun _ t _ gt _=>(zPo _ gt).bind fun _ t _ gt _=>(zOA _ gt).at)
theorem zGs:∀(f:Nat) (s:Ps),Lst s→s.ts.length<f→vQ s (vY f s)
 | 0,_,_,h=>absurd h (by omega)
 | f+1,s,g,hf=>by
  unfold vY
  split
  ·exact ZM g rfl
  ·split
   ·exact((zQH 0 g).bind fun _ t _ gt hl=>zGs f t gt (by omega)).at
   ·split
    ·exact((zTf 0 g).bind fun _ t _ gt hl=>zGs f t gt (by omega)).at
    ·exact zUD g 50 (.inl rfl) (fun h=>absurd h (by decide))
theorem zNc {s:Ps}(g:Lst s):vQ s (zAZ s):=vQ.of (s2:=s.node 1) rfl (zGs _ _ (g.of (t:=s.node 1) rfl) (Nat.lt_succ_self _))
def okI (x:Int):Prop:=-9223372036854775808≤x∧x≤9223372036854775807
def okT (t:Tok):Prop:=okI t.n∧t.text.length≤1500∧t.at_≤1500
def okN (n:Nd):Prop:=n.kind<256∧okI n.num∧n.text.length≤1500∧n.pos≤1500
structure KS (s:Ps):Prop where
 nd:∀n ∈ s.nd,okN n
 ts:∀t ∈ s.ts,okT t
def KP {α:Type}(Q:α→Prop)(r:Res α):Prop:=∀a s,r=.ok a s→KS s∧Q a
def QT {α:Type}(_:α):Prop:=True
theorem VI {α:Type}{Q:α→Prop}{a:α}{s:Ps}(h:KS s)(q:Q a):KP Q (.ok a s):=fun b t e=>by injection e with e1 e2; subst e1; subst e2; exact⟨h,q⟩
theorem zBU {α:Type}{Q:α→Prop}{e:Int}{p:Nat}:KP Q (.err e p:Res α):=fun b t h=>by cases h
theorem xX {α β:Type}{Q:α→Prop}{T:β→Prop}{r:Res α}{f:α→Ps→Res β}(h:KP Q r)(k:∀a s,KS s→Q a→KP T (f a s)):KP T (r.bind f):=fun b t e=>by
 cases r with
 | ok a s=>exact k a s (h a s rfl).1 (h a s rfl).2 b t e
 | err i p=>cases e
theorem XX {α:Type}{Q:α→Prop}{c:Prop} [Decidable c] {a b:Res α}(h:KP Q a)(k:KP Q b):KP Q (if c then a else b):=by
 split
 ·exact h
 ·exact k
theorem zLc {x:Int}(h:-1000≤x)(h2:x≤1000):okI x:=⟨by omega,by omega⟩
section
variable {s:Ps}
theorem KS.adv (h:KS s):KS s.adv:=⟨h.nd,fun t ht=>h.ts t (List.mem_of_mem_tail ht)⟩
theorem KS.deep (h:KS s)(d:Nat):KS { s with deep:=d }:=⟨h.nd,h.ts⟩
theorem ok0:okI 0:=zLc (by decide) (by decide)
theorem KS.hd (h:KS s):okT s.hd:=by
 unfold Ps.hd
 cases e:s.ts with
 | nil=>exact⟨ok0,zT _,zT _⟩
 | cons t l=>exact h.ts t (by rw[e]; simp)
theorem KS.add (h:KS s){n:Nd}(hn:okN n):KS (s.add n):=⟨fun m hm=>by
 rcases List.mem_append.1 hm with hm | hm
 ·exact h.nd m hm
 ·rw[yK] at hm; subst hm; exact hn,h.ts⟩
theorem KS.on (h:KS s)(i:Nat){f:Nd→Nd}(hf:∀n,okN n→okN (f n)):KS (s.on i f):=⟨fun m hm=>by
 obtain⟨j,hj⟩:=List.mem_iff_getElem?.1 hm;have hj:(s.nd.modify i f)[j]?=some m:=hj;rw[List.getElem?_modify] at hj
 try simp only[Option.map_eq_map] at hj
 obtain⟨y,hy,rfl⟩:=Option.map_eq_some_iff.1 hj
 have:=h.nd y (zY hy)
 by_cases AA:i=j
 ·rw[if_pos AA]; exact hf y this
 ·rw[if_neg AA]; exact this,h.ts⟩
theorem KS.kid (h:KS s)(i:Nat):KS (s.kid i):=h.on i fun n hn=>hn
theorem KS.node (h:KS s){k:Nat}(hk:k<256):KS (s.node k):=h.add ⟨hk,ok0,zT _,h.hd.2.2⟩
theorem KS.text (h:KS s)(i:Nat){t:Bs}(ht:t.length≤1500):KS (s.text i t):=h.on i fun n hn=>⟨hn.1,hn.2.1,ht,hn.2.2.2⟩
theorem KS.num (h:KS s)(i:Nat){x:Int}(hx:okI x):KS (s.num i x):=h.on i fun n hn=>⟨hn.1,hx,hn.2.2⟩
theorem KS.kind (h:KS s)(i:Nat){k:Nat}(hk:k<256):KS (s.kind i k):=h.on i fun n hn=>⟨hk,hn.2⟩
theorem KS.xB (h:KS s)(i:Nat){k:Nat}(hk:k<256):KS (s.xB i k):=(h.kid i).node hk
theorem YH (h:KS s)(t:Bs):KP QT (vE t s):=XX (VI h.adv trivial) zBU
theorem zVl (h:KS s)(k:Nat):KP okT (ofP k s):=XX (VI h.adv h.hd) zBU
theorem zAW (h:KS s)(i:Nat):KP QT (vS i s):=xX (zVl h 1) fun t s hs ht=>VI (hs.text _ ht.2.1) trivial
theorem zE2 (h:KS s)(i:Nat):KP QT (JN i s):=zAW (h.xB i (by decide)) _
theorem zS1 (h:KS s)(i:Nat):KP QT (zBr i s):=xX (zVl h 2) fun t s hs ht=>VI (hs.num _ ht.1) trivial
theorem zKz (h:KS s)(i:Nat):KP QT (JX i s):=zS1 (h.xB i (by decide)) _
theorem zEW {α:Type}{Q:α→Prop}{body:Pm α}(hb:∀s,KS s→KP Q (body s))(h:KS s)(a z:Bs):KP Q (xY a z body s):=by
 unfold xY;refine XX (XX zBU (xX (hb _ (h.adv.deep _)) fun x t ht hx=>XX (VI (ht.deep _) hx) (xX (YH ht z) fun _ u hu _=>VI (hu.deep _) hx))) zBU
end
def QE:Ex→Prop
 | .leaf k p t n=>k<256∧okI n∧t.length≤1500∧p≤1500
 | .neg p a=>p≤1500∧QE a
 | .bin k p a b=>k<256∧p≤1500∧QE a∧QE b
theorem QE.pos:∀ {e:Ex},QE e→e.pos≤1500
 | .leaf _ _ _ _,h=>h.2.2.2
 | .neg _ _,h=>h.1
 | .bin _ _ _ _,h=>h.2.1
theorem zLZ:∀(e:Ex) (i:Nat) (s:Ps),KS s→QE e→KS (zAe i e s)
 | .leaf k p t n,i,s,h,q=>(h.kid i).add q
 | .neg p a,i,s,h,q=>zLZ a _ _ ((h.kid i).add ⟨show 26<256 by decide,ok0,zT _,q.1⟩) q.2
 | .bin k p a b,i,s,h,q=>zLZ b _ _ (zLZ a _ _ ((h.kid i).add ⟨q.1,ok0,zT _,q.2.1⟩) q.2.2.1) q.2.2.2
theorem zUh {ms:List (Bs × Nat)}(hm:∀m ∈ ms,m.2<256){s:Ps}{k:Nat}(h:zAi ms s=some k):k<256:=by
 unfold zAi at h;obtain⟨m,h1,rfl⟩:=Option.map_eq_some_iff.1 h;exact hm m (List.mem_of_find?_eq_some h1)
theorem zK3 {ms:List (Bs × Nat)}(hm:∀m ∈ ms,m.2<256){part:Pm Ex}(hp:∀s,KS s→KP QE (part s)):∀(f:Nat) (e:Ex) (s:Ps),KS s→QE e→KP QE (ZE ms part f e s)
 | 0,e,s,h,q=>zBU
 | f+1,e,s,h,q=>by
  unfold ZE
  split
  ·exact VI h q
  ·rename_i k hk;exact xX (hp _ h.adv) fun r t ht hr=>zK3 hm hp f _ _ ht ⟨zUh hm hk,q.pos,q,hr⟩
theorem zMZ {ms:List (Bs × Nat)}(hm:∀m ∈ ms,m.2<256){part:Pm Ex}(hp:∀s,KS s→KP QE (part s)){s:Ps}(h:KS s):KP QE (ZL ms part s):=xX (hp s h) fun e t ht q=>zK3 hm hp _ _ _ ht q
theorem zNo {part:Pm Ex}(hp:∀s,KS s→KP QE (part s)){s:Ps}(h:KS s):KP QE (sumOf part s):=zMZ (by decide) (fun s h=>zMZ (by decide) hp h) h
theorem zG3:∀(f:Nat) (s:Ps),KS s→KP QE (xM f s)
 | 0,s,h=>zBU
 | f+1,s,h=>by
  unfold xM;exact XX (VI h.adv ⟨by decide,ok0,h.hd.2⟩) (XX (VI h.adv ⟨by decide,h.hd.1,zT _,h.hd.2.2⟩) (XX (xX (zEW (fun s h=>zG3 f s h) h _ _) fun a t ht q=>VI ht ⟨h.hd.2.2,q⟩) (zEW (fun s h=>zNo (fun s h=>zG3 f s h) h) h _ _)))
section
variable {s:Ps}
theorem zDE (h:KS s)(i:Nat):KP QT (XC i s):=xX (zNo (fun s h=>zG3 _ s h) h) fun e t ht q=>VI (zLZ _ _ _ ht q) trivial
theorem zPX {one:Pm Unit}(ho:∀s,KS s→KP QT (one s)):∀(f:Nat) (s:Ps),KS s→KP QT (JU one f s)
 | 0,s,h=>zBU
 | f+1,s,h=>by unfold JU; exact XX (xX (ho _ h.adv) fun _ t ht _=>zPX ho f t ht) (VI h trivial)
theorem zMt {one:Pm Unit}(ho:∀s,KS s→KP QT (one s))(h:KS s):KP QT (JC one s):=xX (ho _ h) fun _ t ht _=>zPX ho _ t ht
theorem zTM (h:KS s)(i:Nat):KP QT (zD5 i s):=zEW (fun s h=>zDE h i) h _ _
theorem zPm (h:KS s)(i:Nat):KP QT (zEn i s):=xX (zAW (h.xB i (by decide)) _) fun _ t ht _=>zTM ht _
theorem zP4 (h:KS s)(i:Nat):KP QT (zEF i s):=xX (zPm h i) fun _ t ht _=>xX (YH ht _) fun _ u hu _=>zE2 hu i
end
end Go.Proofs.YtioffpjajhalaaaGreatDoor
