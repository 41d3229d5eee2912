/- What the plain reading keeps: tokens are taken from the front, the last one stays; nodes are few. (and what follows of it). The conditions stand at each lemma. -/
import Derived.Test.YtioffpjajhalaaaGreatDoorKaa
import Derived.Test.YtioffpjajhalaaaGreatDoorKaf
import Derived.Test.YtioffpjajhalaaaGreatDoorKae
import Derived.Deep.AppendLies
set_option linter.unusedVariables false
set_option linter.unusedSimpArgs false
set_option maxRecDepth 100000
set_option maxHeartbeats 16000000
namespace Go.Proofs.YtioffpjajhalaaaGreatDoor
structure zEM (s:Ps):Prop where
 last:∃l e,s.ts=l++[e]∧e.kind=4
 deep:s.deep≤64
structure Good (s:Ps):Prop where
 last:∃l e,s.ts=l++[e]∧e.kind=4
 deep:s.deep≤64
 few:∀n ∈ s.nd,n.kids.length≤s.nd.length
theorem Good.base {s:Ps}(h:Good s):zEM s:=⟨h.last,h.deep⟩
theorem zEM.ne {s:Ps}(h:zEM s):s.ts≠[]:=by
 obtain⟨l,e,h,_⟩:=h.last;rw[h]
 simp
theorem zEM.pos {s:Ps}(h:zEM s):0<s.ts.length:=List.length_pos_iff.2 h.ne
theorem zEM.hd {s:Ps}(h:zEM s):∃t r,s.ts=t::r∧s.hd=t:=by
 cases hs:s.ts with
 | nil=>exact absurd hs h.ne
 | cons t r=>exact⟨t,r,rfl,by unfold Ps.hd; rw[hs]; rfl⟩
theorem zEM.adv {s:Ps}(h:zEM s)(hk:s.hd.kind≠4):zEM s.adv:=by
 refine⟨?_,h.deep⟩;obtain⟨l,e,hl,he⟩:=h.last
 cases l with
 | nil=>
  exfalso
  apply hk;unfold Ps.hd;rw[hl];exact he
 | cons t r=>
  refine⟨r,e,?_,he⟩
  show s.ts.tail=_
  rw[hl]
  rfl
def Ps.phi (s:Ps):Nat:=s.nd.length+2*s.ts.length
structure ZY (s s':Ps):Prop where
 yY:Good s'
 phi:s'.phi≤s.phi
 ts:s'.ts.length≤s.ts.length
 nd:s.nd.length≤s'.nd.length
 deep:s'.deep=s.deep
theorem ZY.refl {s:Ps}(h:Good s):ZY s s:=⟨h,zU _,zU _,zU _,rfl⟩
theorem ZY.trans {a b c:Ps}(h:ZY a b)(k:ZY b c):ZY a c:=⟨k.yY,Nat.le_trans k.phi h.phi,Nat.le_trans k.ts h.ts,Nat.le_trans h.nd k.nd,k.deep.trans h.deep⟩
def jW {α:Type}(s:Ps):Res α→Prop
 | .ok _ s'=>ZY s s'
 | .err _ _=>True
def zBp {α:Type}(m:Pm α):Prop:=∀s,Good s→jW s (m s)
theorem Good.pos {s:Ps}(h:Good s):0<s.ts.length:=h.base.pos
theorem Good.adv {s:Ps}(h:Good s)(hk:s.hd.kind≠4):Good s.adv:=⟨(h.base.adv hk).last,h.deep,h.few⟩
theorem ZF {s:Ps}:s.adv.ts.length=s.ts.length-1:=by show s.ts.tail.length=_; simp
theorem zAd {s:Ps}(h:Good s)(hk:s.hd.kind≠4):ZY s s.adv:=by
 have:=h.pos
 have ht:=ZF (s:=s);exact⟨h.adv hk,by unfold Ps.phi; rw[ht]; show s.nd.length+_≤_; omega,by omega,zU _,rfl⟩
theorem vG {t:Bs}{s:Ps}(h:isP t s=true):s.hd.kind≠4∧s.hd.kind≠2∧s.hd.text=t:=by
 unfold isP at h;simp only[zF,zD,zN] at h;exact⟨h.1.1,h.1.2,h.2⟩
theorem zBC {s:Ps}{i:Nat}{f:Nd→Nd}:(s.on i f).nd.length=s.nd.length:=by unfold Ps.on; simp
theorem zMl {s:Ps}{i:Nat}{f:Nd→Nd}(m:Nat)(hk:∀n ∈ s.nd,(f n).kids.length≤m)(h:∀n ∈ s.nd,n.kids.length≤m):∀n ∈ (s.on i f).nd,n.kids.length≤m:=by
 intro n hn;have AB:n ∈ s.nd.modify i f:=hn;obtain⟨a,ha,rfl⟩:=List.mem_iff_getElem.1 AB
 have AA:a<s.nd.length:=by rw[List.length_modify] at ha; exact ha
 rw[List.getElem_modify]
 split
 ·exact hk _ (yM AA)
 ·exact h _ (yM AA)
theorem zAI {s:Ps}{i:Nat}{f:Nd→Nd}(h:Good s)(hk:∀n,(f n).kids=n.kids):ZY s (s.on i f):=⟨⟨h.last,h.deep,by rw[zBC]; exact zMl _ (fun n hn=>by rw[hk]; exact h.few n hn) h.few⟩,by unfold Ps.phi; rw[zBC]; exact zU _,zU _,by rw[zBC]; exact zU _,rfl⟩
theorem jW.trans {α:Type}{a b:Ps}{r:Res α}(h:ZY a b)(k:jW b r):jW a r:=by
 cases r with
 | ok x s=>exact h.trans k
 | err _ _=>trivial
theorem jW.bind {α β:Type}{s:Ps}{r:Res α}{f:α→Ps→Res β}(h:jW s r)(k:∀a s',r=.ok a s'→Good s'→jW s' (f a s')):jW s (r.bind f):=by
 cases r with
 | ok a s'=>exact jW.trans h (k a s' rfl h.yY)
 | err e p=>trivial
theorem vA (t:Bs):zBp (xY t):=by
 intro s h;unfold xY
 split
 ·rename_i hi;exact zAd h (vG hi).1
 ·trivial
theorem zT4 (k:Nat)(hk:k≠4):zBp (ofP k):=by
 intro s h;unfold ofP
 split
 ·rename_i hi;exact zAd h (by rw[hi]; exact hk)
 ·trivial
theorem YN (i:Nat):zBp (jC i):=fun s h=>(zT4 1 (by decide) s h).bind fun t s' _ h'=>zAI h' (fun _=>rfl)
def VM {α:Type}(s:Ps):Res α→Prop
 | .ok _ s'=>Good s'∧s'.phi+2≤s.phi∧s'.ts.length+1≤s.ts.length∧s.nd.length≤s'.nd.length∧s'.deep=s.deep
 | .err _ _=>True
theorem xR (s:Ps)(i k:Nat):(s.yX i k).nd.length=s.nd.length+1:=by
 show((s.kid i).nd++[_]).length=_
 rw[yN]
 show(s.on i _).nd.length+1=_
 rw[zBC]
theorem zAT {s:Ps}(h:∀n ∈ s.nd,n.kids.length≤s.nd.length)(i:Nat)(x:Nd)(hx:x.kids=[]):∀n ∈ ((s.kid i).add x).nd,n.kids.length≤((s.kid i).add x).nd.length:=by
 have hl:((s.kid i).add x).nd.length=s.nd.length+1:=by
  show((s.kid i).nd++[_]).length=_
  rw[yN]
  show(s.on i _).nd.length+1=_
  rw[zBC]
 intro n hn;rw[hl]
 rcases List.mem_append.1 hn with hn | hn
 ·exact zMl (s.nd.length+1) (fun n hn=>by have:=h n hn; simp; omega) (fun n hn=>by have:=h n hn; omega) n hn
 ·rw[List.mem_singleton.1 hn,hx]
  simp
theorem vT {s:Ps}(h:Good s)(i k:Nat):Good (s.yX i k):=⟨h.last,h.deep,zAT h.few i _ rfl⟩
theorem ZZ (s:Ps)(i k:Nat):(s.yX i k).ts=s.ts:=rfl
theorem zLR (s:Ps)(i k:Nat):(s.yX i k).deep=s.deep:=rfl
theorem VM.at {α:Type}{s:Ps}{i k:Nat}{r:Res α}(h:VM (s.yX i k) r):jW s r:=by
 cases r with
 | ok a s'=>
  obtain⟨h1,h2,h3,h4,h5⟩:=h;have hl:=xR s i k;unfold Ps.phi at h2;rw[hl,ZZ] at h2;rw[ZZ] at h3;rw[hl] at h4;rw[zLR] at h5;exact⟨h1,by unfold Ps.phi; omega,by omega,by omega,h5⟩
 | err _ _=>trivial
theorem VM.bind {α β:Type}{s:Ps}{r:Res α}{f:α→Ps→Res β}(h:VM s r)(k:∀a s',r=.ok a s'→Good s'→jW s' (f a s')):VM s (r.bind f):=by
 cases r with
 | ok a s'=>
  have hk:=k a s' rfl h.1
  show VM s (f a s')
  obtain⟨h1,h2,h3,h4,h5⟩:=h
  cases hr:f a s' with
  | ok b s2=>
   rw[hr] at hk
   have:=hk.phi
   have:=hk.ts
   have:=hk.nd
   exact⟨hk.yY,by omega,by omega,by omega,hk.deep.trans h5⟩
  | err _ _=>trivial
 | err e p=>trivial
theorem zDx {s:Ps}(h:Good s)(hk:s.hd.kind≠4):VM s (.ok () s.adv:Res Unit):=by
 have:=h.pos
 have ht:=ZF (s:=s);exact⟨h.adv hk,by unfold Ps.phi; rw[ht]; show s.nd.length+_+2≤_; omega,by omega,zU _,rfl⟩
theorem zNI {s:Ps}(k:Nat)(hk:k≠4)(h:Good s):VM s (ofP k s):=by
 unfold ofP
 split
 ·rename_i hi
  have h0:s.hd.kind≠4:=by rw[hi]; exact hk
  exact zDx h h0
 ·trivial
theorem zF0 {s:Ps}(t:Bs)(h:Good s):VM s (xY t s):=by
 unfold xY
 split
 ·rename_i hi;exact zDx h (vG hi).1
 ·trivial
theorem zAU {s:Ps}(i:Nat)(h:Good s):VM s (jC i s):=(zNI 1 (by decide) h).bind fun t s' _ h'=>zAI h' (fun _=>rfl)
theorem YZ (i:Nat):zBp (JA i):=fun s h=>VM.at (zAU _ (vT h i 5))
theorem zDk (i:Nat):zBp (YL i):=fun s h=>VM.at ((zNI 2 (by decide) (vT h i 21)).bind fun t s' _ h'=>zAI h' (fun _=>rfl))
theorem zGu {α:Type}{s:Ps}(a z:Bs){body:Pm α}(hb:∀t,Good t→t.ts.length<s.ts.length→jW t (body t))(h:Good s):VM s (vR a z body s):=by
 unfold vR
 split
 ·rename_i hi
  split
  ·trivial
  ·rename_i hd;have hk:=(vG hi).1;have AD:=h.deep;have hp:=h.pos;have g:Good { s.adv with deep:=s.deep+1 }:=⟨(h.adv hk).last,by show s.deep+1≤64; omega,h.few⟩;have AA:=hb _ g (by show s.adv.ts.length<_; rw[ZF]; omega)
   cases hr:body { s.adv with deep:=s.deep+1 } with
   | err e p=>trivial
   | ok x t=>
    rw[hr] at AA;have hl:t.ts.length≤s.adv.ts.length:=AA.ts;have hn:s.nd.length≤t.nd.length:=AA.nd;have AC:t.deep=s.deep+1:=AA.deep;have AB:t.phi≤s.nd.length+2*s.adv.ts.length:=AA.phi;have AE:=ZF (s:=s);have g2:∀u:Ps,Good u→u.deep=s.deep+1→Good { u with deep:=u.deep-1 }:=fun u gu hu=>⟨gu.last,by show u.deep-1≤64; omega,gu.few⟩
    show VM s (if z=[] then Res.ok x { t with deep:=t.deep-1 } else (xY z t).bind fun _ s=>.ok x { s with deep:=s.deep-1 })
    split
    ·exact⟨g2 t AA.yY AC,by show t.phi+2≤s.phi; unfold Ps.phi at AB ⊢; omega,by show t.ts.length+1≤_; omega,hn,by show t.deep-1=s.deep; omega⟩
    ·have ht:=vA z t AA.yY
     cases hq:xY z t with
     | err e p=>trivial
     | ok y u=>
      rw[hq] at ht;have h1:u.ts.length≤t.ts.length:=ht.ts;have h2:t.nd.length≤u.nd.length:=ht.nd;have h3:u.deep=t.deep:=ht.deep;have h4:u.phi≤t.phi:=ht.phi;exact⟨g2 u ht.yY (by omega),by show u.phi+2≤s.phi; unfold Ps.phi at AB h4 ⊢; omega,by show u.ts.length+1≤_; omega,by show s.nd.length≤u.nd.length; omega,by show u.deep-1=s.deep; omega⟩
 ·trivial
theorem VM.zU2 {α:Type}{s:Ps}{r:Res α}(h:VM s r):jW s r:=by
 cases r with
 | ok a s'=>
  obtain⟨h1,h2,h3,h4,h5⟩:=h;exact⟨h1,by omega,by omega,h4,h5⟩
 | err _ _=>trivial
def Ex.size:Ex→Nat
 | .leaf ..=>1
 | .neg _ a=>a.size+1
 | .bin _ _ a b=>a.size+b.size+1
def zDI (s:Ps):Res Ex→Prop
 | .ok e s'=>Good s'∧s'.ts.length+e.size≤s.ts.length∧s'.nd=s.nd∧s'.deep=s.deep
 | .err _ _=>True
theorem zFD {ms:List (Bs × Nat)}{s:Ps}{k:Nat}(h:zCn ms s=some k):s.hd.kind≠4:=by
 unfold zCn at h
 cases hf:ms.find? fun m=>isP m.1 s with
 | none=>rw[hf] at h; cases h
 | some m=>exact(vG (t:=m.1) (List.find?_some (p:=fun m:Bs × Nat=>isP m.1 s) hf)).1
theorem zJk {ms:List (Bs × Nat)}{part:Pm Ex}(n:Nat)(hp:∀t,Good t→t.ts.length≤n→zDI t (part t))(s:Ps):∀(f:Nat) (e:Ex) (t:Ps),Good t→t.ts.length≤n→t.ts.length+e.size≤s.ts.length→t.nd=s.nd→t.deep=s.deep→zDI s (YW ms part f e t)
 | 0,_,_,_,_,_,_,_=>trivial
 | f+1,e,t,g,hl,hs,hn,hd=>by
  unfold YW
  split
  ·exact⟨g,hs,hn,hd⟩
  ·rename_i k hk;have h4:=zFD hk;have AB:=g.pos;have AC:=ZF (s:=t);have AA:=hp t.adv (g.adv h4) (by omega)
   cases hr:part t.adv with
   | err e p=>trivial
   | ok r u=>
    rw[hr] at AA;obtain⟨h1,h2,h3,h5⟩:=AA;exact zJk n hp s f (.bin k e.pos e r) u h1 (by omega) (by show u.ts.length+(e.size+r.size+1)≤_; omega) (h3.trans hn) (h5.trans hd)
theorem zEH {ms:List (Bs × Nat)}{part:Pm Ex}(n:Nat)(hp:∀t,Good t→t.ts.length≤n→zDI t (part t)):∀s,Good s→s.ts.length≤n→zDI s (XD ms part s):=by
 intro s g hl;have AA:=hp s g hl;unfold XD
 cases hr:part s with
 | err e p=>trivial
 | ok e u=>
  rw[hr] at AA;obtain⟨h1,h2,h3,h5⟩:=AA;exact zJk n hp s _ e u h1 (by omega) h2 h3 h5
theorem zG4 {part:Pm Ex}(n:Nat)(hp:∀t,Good t→t.ts.length≤n→zDI t (part t)):∀s,Good s→s.ts.length≤n→zDI s (zEn part s):=zEH n (zEH n hp)
def zUy (s:Ps):Res Ex→Prop
 | .ok e s'=>Good s'∧s'.ts.length+e.size+1≤s.ts.length∧s'.nd=s.nd∧s'.deep=s.deep
 | .err _ _=>True
theorem zGx {s:Ps}(a z:Bs){body:Pm Ex}(hb:∀t,Good t→t.ts.length<s.ts.length→zDI t (body t))(h:Good s):zUy s (vR a z body s):=by
 unfold vR
 split
 ·rename_i hi
  split
  ·trivial
  ·rename_i hd;have hk:=(vG hi).1;have AF:=h.deep;have hp:=h.pos;have g:Good { s.adv with deep:=s.deep+1 }:=⟨(h.adv hk).last,by show s.deep+1≤64; omega,h.few⟩;have AH:=ZF (s:=s);have AA:=hb _ g (by show s.adv.ts.length<_; omega)
   cases hr:body { s.adv with deep:=s.deep+1 } with
   | err e p=>trivial
   | ok x t=>
    rw[hr] at AA;obtain⟨h1,h2,h3,h4⟩:=AA;have AD:t.ts.length+x.size≤s.adv.ts.length:=h2;have AC:t.deep=s.deep+1:=h4;have g2:∀u:Ps,Good u→u.deep=s.deep+1→Good { u with deep:=u.deep-1 }:=fun u gu hu=>⟨gu.last,by show u.deep-1≤64; omega,gu.few⟩;simp only[JJ]
    split
    ·exact⟨g2 t h1 AC,by show t.ts.length+_+1≤_; omega,h3,by show t.deep-1=s.deep; omega⟩
    ·have ht:=vA z t h1
     cases hq:xY z t with
     | err e p=>trivial
     | ok y u=>
      rw[hq] at ht;have AE:u.ts.length≤t.ts.length:=ht.ts;have AG:u.deep=t.deep:=ht.deep
      have AB:u.nd=t.nd:=by
       unfold xY at hq
       split at hq
       ·injection hq with _ e2;rw[←e2]; rfl
       ·cases hq
      exact⟨g2 u ht.yY (by omega),by show u.ts.length+_+1≤_; omega,AB.trans h3,by show u.deep-1=s.deep; omega⟩
 ·trivial
theorem VO:∀(f:Nat) (s:Ps),Good s→s.ts.length≤f→zDI s (vM f s)
 | 0,s,g,hl=>absurd g.pos (by omega)
 | f+1,s,g,hl=>by
  have hp:=g.pos;have AA:=ZF (s:=s);unfold vM
  split
  ·rename_i hk;exact⟨g.adv (by omega),by show s.adv.ts.length+1≤_; omega,rfl,rfl⟩
  ·split
   ·rename_i hk;exact⟨g.adv (by omega),by show s.adv.ts.length+1≤_; omega,rfl,rfl⟩
   ·split
    ·have h:=zGx [45] [] (body:=vM f) (fun t gt ht=>VO f t gt (by omega)) g
     cases hr:vR [45] [] (vM f) s with
     | err e p=>trivial
     | ok a t=>
      rw[hr] at h;obtain⟨h1,h2,h3,h4⟩:=h;exact⟨h1,by show t.ts.length+(a.size+1)≤_; omega,h3,h4⟩
    ·have h:=zGx [40] [41] (body:=zEn (vM f)) (fun t gt ht=>zG4 f (fun t gt ht=>VO f t gt ht) t gt (by omega)) g
     cases hr:vR [40] [41] (zEn (vM f)) s with
     | err e p=>trivial
     | ok a t=>
      rw[hr] at h;obtain⟨h1,h2,h3,h4⟩:=h;exact⟨h1,by omega,h3,h4⟩
theorem zJh (s:Ps)(g:Good s):zDI s (zKr s):=zG4 _ (fun t gt ht=>VO _ t gt ht) s g (zU _)
theorem zAo (s:Ps)(i:Nat)(n:Nd):((s.kid i).add n).nd.length=s.nd.length+1:=by
 show((s.kid i).nd++[_]).length=_
 rw[yN]
 show(s.on i _).nd.length+1=_
 rw[zBC]
theorem zA6:∀(e:Ex) (i:Nat) (s:Ps),(JW i e s).nd.length=s.nd.length+e.size∧(JW i e s).ts=s.ts∧(JW i e s).deep=s.deep
 | .leaf k p t n,i,s=>⟨zAo s i _,rfl,rfl⟩
 | .neg p a,i,s=>by
  obtain⟨h1,h2,h3⟩:=zA6 a s.nd.length ((s.kid i).add ⟨26,p,[],0,[]⟩);refine⟨?_,h2,h3⟩
  show(JW s.nd.length a _).nd.length=s.nd.length+(a.size+1)
  rw[h1,zAo];omega
 | .bin k p a b,i,s=>by
  obtain⟨h1,h2,h3⟩:=zA6 a s.nd.length ((s.kid i).add ⟨k,p,[],0,[]⟩);obtain⟨h4,h5,h6⟩:=zA6 b s.nd.length (JW s.nd.length a ((s.kid i).add ⟨k,p,[],0,[]⟩));refine⟨?_,h5.trans h2,h6.trans h3⟩
  show(JW s.nd.length b _).nd.length=s.nd.length+(a.size+b.size+1)
  rw[h4,h1,zAo];omega
theorem zFb:∀(e:Ex) (i:Nat) (s:Ps),(∀n ∈ s.nd,n.kids.length≤s.nd.length)→∀n ∈ (JW i e s).nd,n.kids.length≤(JW i e s).nd.length
 | .leaf k p t n,i,s,h=>zAT h i _ rfl
 | .neg p a,i,s,h=>zFb a _ _ (zAT h i _ rfl)
 | .bin k p a b,i,s,h=>zFb b _ _ (zFb a _ _ (zAT h i _ rfl))
theorem YS (i:Nat):zBp (JS i):=by
 intro s g;unfold JS;have h:=zJh s g
 cases hr:zKr s with
 | err e p=>trivial
 | ok e t=>
  rw[hr] at h;obtain⟨h1,h2,h3,h4⟩:=h;obtain⟨p1,p2,p3⟩:=zA6 e i t;refine⟨⟨by rw[p2]; exact h1.last,by rw[p3]; exact h1.deep,zFb e i t h1.few⟩,?_,by rw[p2]; omega,by rw[p1,h3]; omega,by rw[p3,h4]⟩;unfold Ps.phi;rw[p1,p2,h3];omega
theorem zK1 {one:Pm Unit}(h:zBp one):∀f,zBp (zAG one f)
 | 0=>fun _ _=>trivial
 | f+1=>fun s g=>by
  unfold zAG
  split
  ·rename_i hi;have hk:=(vG hi).1;exact jW.trans (zAd g hk) ((h _ (g.adv hk)).bind fun _ t _ gt=>zK1 h f t gt)
  ·exact ZY.refl g
theorem zBH {one:Pm Unit}(h:zBp one):zBp (XV one):=fun s g=>(h s g).bind fun _ t _ gt=>zK1 h _ t gt
theorem zJb (i:Nat):zBp (zCI i):=fun s g=>(zGu [91] [93] (fun t gt _=>YS i t gt) g).zU2
theorem zET (i:Nat):zBp (zG9 i):=fun s g=>VM.at ((zAU _ (vT g i 20)).bind fun _ t _ gt=>zJb _ t gt)
theorem zFr (i:Nat):zBp (zGF i):=fun s g=>(zET i s g).bind fun _ t _ gt=>(vA _ t gt).bind fun _ t _ gt=>YZ i t gt
theorem zQD (i:Nat):zBp (zGC i):=fun s g=>(YN i s g).bind fun _ t _ gt=>(vA _ t gt).bind fun _ t _ gt=>(zFr i t gt).bind fun _ t _ gt=>by
 split
 ·rename_i hi;exact jW.trans (zAd gt (vG hi).1) ((vA _ _ (gt.adv (vG hi).1)).bind fun _ t _ gt=>zAI gt (fun _=>rfl))
 ·exact ZY.refl gt
theorem zSX (i:Nat):zBp (zL2 i):=fun s g=>(zFr i s g).bind fun _ t _ gt=>(vA _ t gt).bind fun _ t _ gt=>YS i t gt
theorem zNW (i:Nat):zBp (zCu i):=fun s g=>(zET i s g).bind fun _ t _ gt=>(vA _ t gt).bind fun _ t _ gt=>(zBH (YS i) t gt).bind fun _ t _ gt=>vA _ t gt
theorem zRl (i:Nat):zBp (zF5 i):=fun s g=>(YN i s g).bind fun _ t _ gt=>(vA _ t gt).bind fun _ t _ gt=>(YZ i t gt).bind fun _ t _ gt=>(vA _ t gt).bind fun _ t _ gt=>YZ i t gt
theorem zQd (i:Nat):zBp (zGg i):=fun s g=>(YZ i s g).bind fun _ t _ gt=>by
 split
 ·rename_i hi;exact(zAd gt (vG hi).1).trans (zAI (gt.adv (vG hi).1) (fun _=>rfl))
 ·exact vA _ t gt
theorem zLB (i:Nat):zBp (zBh i):=fun s g=>VM.at ((zAU _ (vT g i 5)).bind fun _ t _ gt=>by
 split
 ·have l1:ZY t (t.kind s.nd.length 20):=zAI gt (fun _=>rfl);exact jW.trans l1 (zJb _ _ l1.yY)
 ·exact ZY.refl gt)
theorem zRU (i:Nat):zBp (zLF i):=fun s g=>(YN i s g).bind fun _ t _ gt=>(vA _ t gt).bind fun _ t _ gt=>YS i t gt
theorem zQJ (i:Nat):zBp (zCR i):=fun s g=>by
 unfold zCR
 split
 ·rename_i hi;exact(zAd g (vG hi).1).trans (zAI (g.adv (vG hi).1) (fun _=>rfl))
 ·exact vA _ s g
def zDS (n:Nat)(st:Nat→Pm Unit):Prop:=∀i s,Good s→s.ts.length≤n→jW s (st i s)
theorem zFR {n:Nat}{st:Nat→Pm Unit}(h:zDS n st)(i:Nat):∀f s,Good s→s.ts.length≤n→jW s (YF st i f s)
 | 0,_,_,_=>trivial
 | f+1,s,g,hl=>by
  unfold YF
  split
  ·exact ZY.refl g
  ·have h1:=h i s g hl
   cases hr:st i s with
   | err e p=>trivial
   | ok a t=>
    rw[hr] at h1
    have:=h1.ts
    exact jW.trans h1 (zFR h i f t h1.yY (by omega))
theorem VQ {n:Nat}{st:Nat→Pm Unit}(h:zDS n st)(i:Nat)(s:Ps)(g:Good s)(hl:s.ts.length≤n+1):jW s (ZC st i s):=
 VM.at (zGu [123] [125] (fun t gt ht=>zFR h _ _ t gt (by rw[ZZ] at ht; omega)) (vT g i 6))
theorem zQp {n:Nat}{st:Nat→Pm Unit}(h:zDS n st)(i:Nat)(s:Ps)(g:Good s)(hl:s.ts.length≤n+1):jW s (zAR st i s):=by
 unfold zAR
 split
 ·rename_i hi;have hk:=(vG hi).1;have AA:=ZF (s:=s);exact jW.trans (zAd g hk) (VQ h i _ (g.adv hk) (by omega))
 ·exact ZY.refl g
theorem jW.zBd {α β:Type}{s:Ps}{r:Res α}{f:α→Ps→Res β}(h:jW s r)(k:∀a s',Good s'→s'.ts.length≤s.ts.length→jW s' (f a s')):jW s (r.bind f):=by
 cases r with
 | ok a s'=>exact jW.trans h (k a s' h.yY h.ts)
 | err e p=>trivial
theorem zNp {n:Nat}{st:Nat→Pm Unit}(h:zDS n st)(i:Nat)(s:Ps)(g:Good s)(hl:s.ts.length≤n+1):jW s (zBi st i s):=
 (YS i s g).zBd fun _ t gt l1=>(zQJ i t gt).zBd fun _ t gt l2=>(YS i t gt).zBd fun _ t gt l3=>(VQ h i t gt (by omega)).zBd fun _ t gt l4=>zQp h i t gt (by omega)
theorem zRd {n:Nat}{st:Nat→Pm Unit}(h:zDS n st)(i:Nat)(s:Ps)(g:Good s)(hl:s.ts.length≤n+1):jW s (zD7 st i s):=
 (YN i s g).zBd fun _ t gt l1=>(vA _ t gt).zBd fun _ t gt l2=>(zDk i t gt).zBd fun _ t gt l3=>(vA _ t gt).zBd fun _ t gt l4=>(zDk i t gt).zBd fun _ t gt l5=>VQ h i t gt (by omega)
theorem zD3 {n:Nat}{st:Nat→Pm Unit}(h:zDS n st)(k i:Nat)(s:Ps)(g:Good s)(hl:s.ts.length≤n+1):jW s (JB st k i s):=by
 unfold JB
 split
 ·exact zQD i s g
 split
 ·exact zSX i s g
 split
 ·exact zNW i s g
 split
 ·exact zET i s g
 split
 ·exact zRl i s g
 split
 ·exact zQd i s g
 split
 ·exact zLB i s g
 split
 ·exact zNp h i s g hl
 split
 ·exact zRd h i s g hl
 split
 ·exact zRU i s g
 split
 ·exact YS i s g
 ·exact ZY.refl g
theorem zAV:∀f,zDS f (YK f)
 | 0,_,_,_,_=>trivial
 | f+1,i,s,g,hl=>by
  unfold YK
  split
  ·trivial
  ·rename_i k hk
   have h1:s.hd.kind=1:=by
    split at hk
    ·assumption
    ·cases hk
   have h4:(s.yX i k).hd.kind≠4:=by show s.hd.kind≠4; omega
   refine VM.at (i:=i) (k:=k) ?_;refine VM.bind (r:=.ok () (s.yX i k).adv) (zDx (vT g i k) h4) (f:=fun _ t=>(JB (YK f) k s.nd.length t).bind fun _ s=>if k=14∨k=15 then .ok () s else xY [59] s) ?_;intro _ t ht gt;injection ht with _ ht;have AA:=ZF (s:=s.yX i k);rw[ZZ] at AA
   have:=g.pos
   refine(zD3 (zAV f) k _ t gt (by rw[←ht,AA]; omega)).bind fun _ u _ gu=>?_
   split
   ·exact ZY.refl gu
   ·exact vA _ u gu
theorem zDp (i:Nat):zBp (VN i):=fun s g=>VQ (zAV s.ts.length) i s g (by omega)
theorem zFW (i:Nat):zBp (zBb i):=fun s g=>VM.at ((zF0 _ (vT g i 2)).bind fun _ t _ gt=>(YN _ t gt).bind fun _ t _ gt=>(vA _ t gt).bind fun _ t _ gt=>(zBH (YZ _) t gt).bind fun _ t _ gt=>(vA _ t gt).bind fun _ t _ gt=>vA _ t gt)
theorem zHx (i:Nat):zBp (YE i):=fun s g=>by
 unfold YE
 split
 ·rename_i hi;exact(zAd g (vG hi).1).trans (zAI (g.adv (vG hi).1) (fun _=>rfl))
 ·exact ZY.refl g
end Go.Proofs.YtioffpjajhalaaaGreatDoor
namespace Go.Proofs.YtioffpjajhalaaaGreatDoor
open Go Go.RowKit
abbrev Hd2:=Option Addr × Nat
def ints (l:List Nat):List Value:=l.map fun (k:Nat)=>Value.int .i64 (k:Int)
def jL (x:Nd × Hd2):List Value:=[.int .u8 (x.1.kind:Int),.int .i64 (x.1.pos:Int),.string (xE x.1.text),.int .i64 x.1.num,.slice x.2.1 x.1.kids.length x.2.2]
def ncs (l:List (Nd × Hd2)):List Value:=l.flatMap jL
theorem zPR (l:List Nat)(k:Nat):ints (l++[k])=ints l++[.int .i64 (k:Int)]:=by simp[ints]
theorem zI2 (l:List (Nd × Hd2)):(ncs l).length=l.length*5:=by
 unfold ncs
 induction l with
 | nil=>rfl
 | cons t l ih=>rw[List.flatMap_cons,yN,ih,zJ]; show 5+_=_; omega
theorem zSV (l:List (Nd × Hd2))(x:Nd × Hd2):ncs (l++[x])=ncs l++jL x:=by unfold ncs; simp
theorem zMt (l:List (Nd × Hd2)):∀(i:Nat) (hi:i<l.length) (j:Nat),j<5→(ncs l)[i*5+j]?=(jL l[i])[j]?:=by
 induction l with
 | nil=>intro i hi; simp at hi
 | cons x l ih=>
  intro i hi j hj
  show(jL x++ncs l)[i*5+j]?=_
  match i,hi with
  | 0,_=>rw[Nat.zero_mul,Nat.zero_add,List.getElem?_append_left (by show j<5; exact hj)]; rfl
  | i+1,hi=>
   have e:(i+1)*5+j=5+(i*5+j):=by omega
   rw[e,List.getElem?_append_right (by show 5≤_; omega),show 5+(i*5+j)-(jL x).length=i*5+j from by show 5+(i*5+j)-5=_; omega];exact ih i (by simpa using hi) j hj
theorem zJO (l:List (Nd × Hd2))(i:Nat)(hi:i<l.length)(j:Nat)(hj:j<5)(u:Value)(f:Nd × Hd2→Nd × Hd2)(hf:jL (f l[i])=(jL l[i]).set j u):ncs (l.modify i f)=(ncs l).set (i*5+j) u:=by
 induction l generalizing i with
 | nil=>simp at hi
 | cons x l ih=>
  match i,hi with
  | 0,_=>
   simp only[List.getElem_cons_zero] at hf;rw[List.modify_zero_cons]
   show jL (f x)++ncs l=(jL x++ncs l).set (0*5+j) u
   rw[hf,Nat.zero_mul,Nat.zero_add,List.set_append_left _ _ (by show j<5; exact hj)]
  | i+1,hi=>
   rw[List.modify_succ_cons]
   show jL x++ncs (l.modify i f)=(jL x++ncs l).set ((i+1)*5+j) u
   rw[ih i (by simpa using hi) (by simpa using hf),List.set_append_right _ _ (by show 5≤_; omega)]
   congr 2
   show _=(i+1)*5+j-5
   omega
structure NS (w:World)(B:Nat)(tn ti:TypeId)(A:Option Addr)(c:Nat)(nh:List (Nd × Hd2)):Prop where
 row:w.ownsRow B tn 5 (.slice A nh.length c) nh.length (ncs nh)
 kids:∀x ∈ nh,w.ownsRow B ti 1 (.slice x.2.1 x.1.kids.length x.2.2) x.1.kids.length (ints x.1.kids)
 apart:∀(i j:Nat) (hi:i<nh.length) (hj:j<nh.length),nh[i].2.1=nh[j].2.1→nh[i].2.1≠none→i=j
 rz:nh.length=0→c=0
 kz:∀x ∈ nh,x.1.kids.length=0→x.2.2=0
def zGy (A:Option Addr)(nh:List (Nd × Hd2))(b:Nat):Prop:=A=some ⟨b,0,none⟩∨some (⟨b,0,none⟩:Addr) ∈ nh.map fun x=>x.2.1
structure yZ (w:World)(M:Nat→Prop)(w':World)(M':Nat→Prop):Prop where
 os:w'.os=w.os
 tape:w'.tape=w.tape
 output:w'.output=w.output
 size:w.heap.size≤w'.heap.size
 VS:∀b,b<w.heap.size→¬M b→w'.heap[b]?=w.heap[b]?
 zFK:∀b,M' b→M b∨w.heap.size≤b
theorem yZ.refl (w:World)(M:Nat→Prop):yZ w M w M:=⟨rfl,rfl,rfl,zU _,fun _ _ _=>rfl,fun _ h=>.inl h⟩
theorem yZ.trans {w w1 w2:World}{M M1 M2:Nat→Prop}(h:yZ w M w1 M1)(k:yZ w1 M1 w2 M2):yZ w M w2 M2:=by
 refine⟨k.os.trans h.os,k.tape.trans h.tape,k.output.trans h.output,Nat.le_trans h.size k.size,fun b hb hM=>?_,fun b hb=>?_⟩
 ·rw[k.VS b (yS hb h.size) (fun h1=>by rcases h.zFK b h1 with h2 | h2 <;> first | exact hM h2 | omega)]
  exact h.VS b hb hM
 ·rcases k.zFK b hb with h1 | h1
  ·exact h.zFK b h1
  ·exact .inr (Nat.le_trans h.size h1)
theorem yZ.ext {w w':World}{M:Nat→Prop}(h:Ext w w'):yZ w M w' M:=⟨h.os,h.tape,h.output,h.size,fun b hb _=>h.block b hb,fun _ h=>.inl h⟩
theorem yZ.below {w w':World}{M M':Nat→Prop}{B:Nat}(h:yZ w M w' M')(hM:∀b,M b→B≤b)(hB:B≤w.heap.size):Below B w w':=⟨h.os,h.tape,h.output,h.size,fun b hb=>h.VS b (by omega) (fun hm=>by have:=hM b hm; omega)⟩
def Safe (w:World)(M:Nat→Prop)(g:Nat)(t:TypeId)(cs:Array Value):Prop:=Blk w g t cs∧¬M g
theorem Safe.xC {w w':World}{M M':Nat→Prop}{g:Nat}{t:TypeId}{cs:Array Value}(h:Safe w M g t cs)(k:yZ w M w' M'):Safe w' M' g t cs:=
 ⟨(k.VS g h.1.lt h.2).trans h.1,fun h1=>by rcases k.zFK g h1 with h2 | h2 <;> first | exact h.2 h2 | (have:=h.1.lt; omega)⟩
def zF7 (w:World)(M:Nat→Prop)(A:Option Addr)(cs:List Value):Prop:=cs=[]∨∃b off,A=some ⟨b,off,none⟩∧b<w.heap.size∧¬M b∧∀k,k<cs.length→w.cell? ⟨b,off+k,none⟩=cs[k]?
theorem zF7.cells {w:World}{M:Nat→Prop}{A:Option Addr}{cs:List Value}(h:zF7 w M A cs):Cells w A cs:=by
 rcases h with h | ⟨b,AA,h1,h2,_,h3⟩
 ·exact .inl h
 ·exact .inr ⟨b,AA,h1,h2,h3⟩
theorem zF7.xC {w w':World}{M M':Nat→Prop}{A:Option Addr}{cs:List Value}(h:zF7 w M A cs)(k:yZ w M w' M'):zF7 w' M' A cs:=by
 rcases h with h | ⟨b,AA,h1,h2,h3,h4⟩
 ·exact .inl h
 ·refine .inr ⟨b,AA,h1,yS h2 k.size,fun h5=>by rcases k.zFK b h5 with h6 | h6 <;> first | exact h3 h6 | omega,fun j hj=>?_⟩
  rw[World.cell?_of_block (w:=w) (k.VS b h2 h3)];exact h4 j hj
theorem YP {w:World}{B:Nat}{t:TypeId}{s n c m:Nat}{A:Option Addr}{xs:List Value}(h:w.ownsRow B t s (.slice A m c) n xs){b:Nat}(e:A=some ⟨b,0,none⟩):B≤b∧b<w.heap.size:=by
 rcases h.2 with ⟨hv,_⟩ | ⟨g,AA,AB,hv,hb,hh,_⟩
 ·rw[e] at hv; cases hv
 ·rw[e] at hv;injection hv with h1;injection h1 with h1;injection h1 with h1;subst h1;exact⟨hb,(Array.getElem?_eq_some_iff.1 hh).1⟩
theorem vZ {w:World}{B:Nat}{t:TypeId}{s n c m:Nat}{A:Option Addr}{xs:List Value}(h:w.ownsRow B t s (.slice A m c) n xs){b:Nat}(e:A=some ⟨b,0,none⟩):∃cur,Blk w b t cur:=by
 rcases h.2 with ⟨hv,_⟩ | ⟨g,AA,cur,hv,hb,hh,_⟩
 ·rw[e] at hv; cases hv
 ·rw[e] at hv;injection hv with h1;injection h1 with h1;injection h1 with h1;subst h1;exact⟨cur,hh⟩
theorem zCJ {w:World}{B:Nat}{t:TypeId}{s n c m:Nat}{A:Option Addr}{xs:List Value}(h:w.ownsRow B t s (.slice A m c) n xs):A=none∨∃b,A=some ⟨b,0,none⟩:=by
 rcases h.2 with ⟨hv,_⟩ | ⟨g,AA,AB,hv,hb,hh,_⟩
 ·injection hv with h1; exact .inl h1
 ·injection hv with h1; exact .inr ⟨g,h1⟩
theorem NS.zBM {w:World}{B:Nat}{tn ti:TypeId}{A:Option Addr}{c:Nat}{nh:List (Nd × Hd2)}(h:NS w B tn ti A c nh){b:Nat}(hb:zGy A nh b):B≤b∧b<w.heap.size:=by
 rcases hb with hb | hb
 ·exact YP h.row hb
 ·obtain⟨x,hx,e⟩:=List.mem_map.1 hb;exact YP (h.kids x hx) e
theorem NS.zAH {w:World}{B:Nat}{tn ti:TypeId}{A:Option Addr}{c:Nat}{nh:List (Nd × Hd2)}(h:NS w B tn ti A c nh){g:Nat}{t:TypeId}{cs:Array Value}(hg:Blk w g t cs)(h1:t≠tn)(h2:t≠ti):¬zGy A nh g:=by
 rintro (hb | hb)
 ·obtain⟨AA,hc⟩:=vZ h.row hb;exact Blk.differ hg hc h1 rfl
 ·obtain⟨x,hx,e⟩:=List.mem_map.1 hb;obtain⟨AA,hc⟩:=vZ (h.kids x hx) e;exact Blk.differ hg hc h2 rfl
theorem NS.VS {w w':World}{B:Nat}{tn ti:TypeId}{A:Option Addr}{c:Nat}{nh:List (Nd × Hd2)}(h:NS w B tn ti A c nh)(hk:∀b,zGy A nh b→w'.heap[b]?=w.heap[b]?):NS w' B tn ti A c nh:=by
 refine⟨⟨h.row.1,?_⟩,fun x hx=>⟨(h.kids x hx).1,?_⟩,h.apart,h.rz,h.kz⟩
 ·rcases h.row.2 with hn | ⟨g,AA,AB,hv,hb,hh,r⟩
  ·exact .inl hn
  ·injection hv with e1 e2 e3;exact .inr ⟨g,AA,AB,by rw[e1,e3],hb,(hk g (.inl e1)).trans hh,r⟩
 ·rcases(h.kids x hx).2 with hn | ⟨g,AA,AB,hv,hb,hh,r⟩
  ·exact .inl hn
  ·injection hv with e1 e2 e3;exact .inr ⟨g,AA,AB,by rw[e1,e3],hb,(hk g (.inr (by rw[←e1]; exact List.mem_map.2 ⟨x,hx,rfl⟩))).trans hh,r⟩
theorem NS.ext {w w':World}{B:Nat}{tn ti:TypeId}{A:Option Addr}{c:Nat}{nh:List (Nd × Hd2)}(h:NS w B tn ti A c nh)(hx:Ext w w'):NS w' B tn ti A c nh:=h.VS fun b hb=>hx.block b (h.zBM hb).2
theorem zFV {w w':World}{b1:Nat}{t1:TypeId}{s1 n1 c1:Nat}{A1:Option Addr}{xs1:List Value}{o:Option Nat}(h1:w.ownsRow b1 t1 s1 (.slice A1 n1 c1) n1 xs1)(hg:w.grownBy w' o)(hne:∀b,A1=some ⟨b,0,none⟩→o≠some b):w'.ownsRow b1 t1 s1 (.slice A1 n1 c1) n1 xs1:=by
 refine h1.kept hg ?_
 rcases zCJ h1 with e | ⟨b,e⟩
 ·rw[e]; exact .inl rfl
 ·refine .inr fun e2=>hne b e ?_;rw[←e2,e]
  rfl
theorem zKz {A:Option Addr}{n c b:Nat}(h:(Value.slice A n c).ownBlock=some b):∃a,A=some a∧a.block=b:=by
 cases A with
 | none=>cases h
 | some a=>exact⟨a,rfl,by simpa [Value.ownBlock] using h⟩
theorem vH {w:World}{B:Nat}{t:TypeId}{s n c m:Nat}{A:Option Addr}{xs:List Value}(h:w.ownsRow B t s (.slice A m c) n xs){b:Nat}(e:(Value.slice A m c).ownBlock=some b):A=some ⟨b,0,none⟩:=by
 obtain⟨a,ea,eb⟩:=zKz e
 rcases zCJ h with e0 | ⟨b',e0⟩
 ·rw[e0] at ea; cases ea
 ·rw[e0] at ea ⊢;injection ea with ea;subst ea
  simp only at eb
  rw[eb]
theorem NS.snoc {w w':World}{B:Nat}{tn ti:TypeId}{A:Option Addr}{c:Nat}{nh:List (Nd × Hd2)}(h:NS w B tn ti A c nh)(hne:tn≠ti)(x:Nd)(hx:x.kids=[]){g cap:Nat}
  (ho:w'.ownsRow B tn 5 (.slice (some ⟨g,0,none⟩) (nh.length+1) cap) (nh.length+1) (ncs nh++jL (x,(none,0)))) (hg:w.grownBy w' (Value.slice A nh.length c).ownBlock):NS w' B tn ti (some ⟨g,0,none⟩) cap (nh++[(x,(none,0))]):=by
 refine⟨by rw[zSV,yN]; exact ho,fun y hy=>?_,fun i j hi hj he hn=>?_,fun h0=>by simp at h0,fun y hy h0=>?_⟩
 ·rcases List.mem_append.1 hy with hy | hy
  ·refine zFV (h.kids y hy) hg fun b e e2=>?_;obtain⟨AC,hc⟩:=vZ (h.kids y hy) e;exact JM h.row hc hne e2
  ·have:=List.mem_singleton.1 hy
   subst this
   show w'.ownsRow B ti 1 (.slice none x.kids.length 0) x.kids.length (ints x.kids)
   rw[hx];exact zP _ _ _ _
 ·rw[yN] at hi hj;simp only[zJ,zK,Nat.zero_add] at hi hj
  by_cases AA:i<nh.length
  ·rw[List.getElem_append_left AA] at he hn
   by_cases AB:j<nh.length
   ·rw[List.getElem_append_left AB] at he;exact h.apart i j AA AB he hn
   ·exfalso
    apply hn;rw[he,List.getElem_append_right (by omega)]
    simp
  ·exfalso
   apply hn;rw[List.getElem_append_right (by omega)]
   simp
 ·rcases List.mem_append.1 hy with hy | hy
  ·exact h.kz y hy h0
  ·rw[List.mem_singleton.1 hy]
theorem zMy {w:World}{base g n m c k sz:Nat}{e:TypeId}{xs:List Value}(h:w.ownsRow base e sz (.slice (some ⟨g,0,none⟩) m c) n xs)(hk:k<n*sz)(u:Value):(w.setCell ⟨g,k,none⟩ u).ownsRow base e sz (.slice (some ⟨g,0,none⟩) m c) n (xs.set k u):=by
 refine⟨by rw[zB]; exact h.1,?_⟩
 rcases h.2 with ⟨hv,_⟩ | ⟨g',AB,AA,hv,hb,hh,h1,h2,h3,h4⟩
 ·cases hv
 ·injection hv with e1 e2 e3;injection e1 with e1;injection e1 with e1;subst e1 e3;refine .inr ⟨g,c,AA.setIfInBounds k u,by rw[e2],hb,?_,h1,h2,by simpa using h3,?_⟩
  ·simp[World.setCell,Array.getElem?_modify,hh]
  ·rw[Array.toList_setIfInBounds,List.take_set,h4]
theorem zFX {w:World}{b1 g:Nat}{t1:TypeId}{s1 n1:Nat}{v1:Value}{xs1:List Value}{t:TypeId}{cs:Array Value}(h1:w.ownsRow b1 t1 s1 v1 n1 xs1)(h2:Blk w g t cs)(ht:t1≠t)(k:Nat)(u:Value):(w.setCell ⟨g,k,none⟩ u).ownsRow b1 t1 s1 v1 n1 xs1:=zPH h1 (JM h1 h2 ht) u
theorem NS.put {w:World}{B:Nat}{tn ti:TypeId}{A:Option Addr}{c:Nat}{nh:List (Nd × Hd2)}(h:NS w B tn ti A c nh)(hne:tn≠ti)(i:Nat)(hi:i<nh.length)(j:Nat)(hj:j<5)(u:Value)(f:Nd→Nd)(hk:∀x,(f x).kids=x.kids)(hf:jL (f nh[i].1,nh[i].2)=(jL nh[i]).set j u){g:Nat}(hA:A=some ⟨g,0,none⟩) :
  NS (w.setCell ⟨g,i*5+j,none⟩ u) B tn ti A c (nh.modify i fun x=>(f x.1,x.2)):=by
 subst hA;obtain⟨AB,hc⟩:=vZ h.row rfl;refine⟨?_,fun y hy=>?_,fun a b ha hb he hn=>?_,fun h0=>h.rz (by rw[List.length_modify] at h0; exact h0),fun y hy h0=>?_⟩
 ·rw[List.length_modify,zJO nh i hi j hj u _ hf];exact zMy h.row (by omega) u
 ·obtain⟨a,ha,rfl⟩:=List.mem_iff_getElem.1 hy;rw[List.length_modify] at ha;have hb:=zFX (h.kids _ (yM ha)) hc (Ne.symm hne) (i*5+j) u;rw[List.getElem_modify]
  split
  ·simp only[hk];exact hb
  ·exact hb
 ·rw[List.length_modify] at ha hb
  have e:∀(a:Nat) (ha:a<nh.length),((nh.modify i fun x=>(f x.1,x.2))[a]'(by rw[List.length_modify]; exact ha)).2.1=nh[a].2.1:=fun a ha=>by
   rw[List.getElem_modify]; split <;> rfl
  rw[e a ha,e b hb] at he;rw[e a ha] at hn;exact h.apart a b ha hb he hn
 ·obtain⟨a,ha,rfl⟩:=List.mem_iff_getElem.1 hy;rw[List.length_modify] at ha;rw[List.getElem_modify] at h0 ⊢
  split
  ·rename_i AA;rw[if_pos AA] at h0;simp only[hk] at h0;exact h.kz nh[a] (yM ha) h0
  ·rename_i AA;rw[if_neg AA] at h0;exact h.kz _ (yM ha) h0
theorem zMQ {A:Option Addr}{nh:List (Nd × Hd2)}(i:Nat)(f:Nd→Nd)(b:Nat)(hb:zGy A (nh.modify i fun x=>(f x.1,x.2)) b):zGy A nh b:=by
 rcases hb with hb | hb
 ·exact .inl hb
 ·refine .inr ?_;obtain⟨x,hx,e⟩:=List.mem_map.1 hb;obtain⟨a,ha,rfl⟩:=List.mem_iff_getElem.1 hx;rw[List.length_modify] at ha;rw[List.getElem_modify] at e;refine List.mem_map.2 ⟨nh[a],yM ha,?_⟩
  split at e <;> exact e
theorem NS.kid {W w1:World}{B:Nat}{tn ti:TypeId}{A:Option Addr}{c:Nat}{nh:List (Nd × Hd2)}(h:NS W B tn ti A c nh)(hne:tn≠ti)(i:Nat)(hi:i<nh.length)(k:Nat){g gk cap:Nat}(hA:A=some ⟨g,0,none⟩)
  (ho:w1.ownsRow B ti 1 (.slice (some ⟨gk,0,none⟩) (nh[i].1.kids.length+1) cap) (nh[i].1.kids.length+1) (ints nh[i].1.kids++[.int .i64 (k:Int)])) (hg:W.grownBy w1 (Value.slice nh[i].2.1 nh[i].1.kids.length nh[i].2.2).ownBlock)
  (hf:(Value.slice nh[i].2.1 nh[i].1.kids.length nh[i].2.2).ownBlock=some gk∨W.heap.size≤gk) :
  NS (w1.setCell ⟨g,i*5+4,none⟩ (.slice (some ⟨gk,0,none⟩) (nh[i].1.kids.length+1) cap)) B tn ti A c (nh.modify i fun x=>({ x.1 with kids:=x.1.kids++[k] },(some ⟨gk,0,none⟩,cap))):=by
 subst hA
 have AB:=zFV h.row hg fun b e e2=>by
  have e3:=vH (h.kids _ (yM hi)) e2;obtain⟨c1,h1⟩:=vZ h.row e;obtain⟨c2,h2⟩:=vZ (h.kids _ (yM hi)) e3;exact Blk.differ h1 h2 hne rfl
 obtain⟨AD,hc⟩:=vZ AB rfl;refine⟨?_,fun y hy=>?_,fun a b ha hb he hn=>?_,fun h0=>h.rz (by rw[List.length_modify] at h0; exact h0),fun y hy h0=>?_⟩
 ·rw[List.length_modify,zJO nh i hi 4 (by decide) (.slice (some ⟨gk,0,none⟩) (nh[i].1.kids.length+1) cap) _ (by simp[jL])];exact zMy AB (by omega) _
 ·obtain⟨a,ha,rfl⟩:=List.mem_iff_getElem.1 hy;rw[List.length_modify] at ha;rw[List.getElem_modify]
  split
  ·rename_i AA;subst AA;have hb:=zFX ho hc (Ne.symm hne) (i*5+4) (.slice (some ⟨gk,0,none⟩) (nh[i].1.kids.length+1) cap);rw[←zPR] at hb;simp only[yN,zJ,zK,Nat.zero_add];exact hb
  ·rename_i AA;refine zFX (zFV (h.kids _ (yM ha)) hg fun b e e2=>?_) hc (Ne.symm hne) _ _;have e3:=vH (h.kids _ (yM hi)) e2;exact AA (h.apart i a hi ha (e3.trans e.symm) (by rw[e3]; simp))
 ·rw[List.length_modify] at ha hb
  have AC:∀(a:Nat) (ha:a<nh.length),i≠a→nh[a].2.1≠some ⟨gk,0,none⟩:=by
   intro a ha AA e
   rcases hf with hf | hf
   ·have e3:=vH (h.kids _ (yM hi)) hf;exact AA (h.apart i a hi ha (e3.trans e.symm) (by rw[e3]; simp))
   ·have:=(YP (h.kids _ (yM ha)) e).2
    omega
  rw[List.getElem_modify,List.getElem_modify] at he;rw[List.getElem_modify] at hn
  split at he <;> split at he
  ·omega
  ·rename_i h1 h2;exact absurd he.symm (AC b hb h2)
  ·rename_i h1 h2;exact absurd he (AC a ha h1)
  ·rename_i h1 h2;rw[if_neg h1] at hn;exact h.apart a b ha hb he hn
 ·obtain⟨a,ha,rfl⟩:=List.mem_iff_getElem.1 hy;rw[List.length_modify] at ha;rw[List.getElem_modify] at h0 ⊢
  split
  ·rename_i AA;rw[if_pos AA] at h0
   simp at h0
  ·rename_i AA;rw[if_neg AA] at h0;exact h.kz _ (yM ha) h0
theorem zMI {W:World}{B:Nat}{tn ti:TypeId}{A:Option Addr}{c:Nat}{nh:List (Nd × Hd2)}(h:NS W B tn ti A c nh){i:Nat}(hi:i<nh.length)(f:Nd→Nd){gk cap:Nat}
  (hf:(Value.slice nh[i].2.1 nh[i].1.kids.length nh[i].2.2).ownBlock=some gk∨W.heap.size≤gk) (b:Nat) (hb:zGy A (nh.modify i fun x=>(f x.1,(some ⟨gk,0,none⟩,cap))) b):zGy A nh b∨W.heap.size≤b:=by
 rcases hb with hb | hb
 ·exact .inl (.inl hb)
 ·obtain⟨x,hx,e⟩:=List.mem_map.1 hb;obtain⟨a,ha,rfl⟩:=List.mem_iff_getElem.1 hx;rw[List.length_modify] at ha;rw[List.getElem_modify] at e
  split at e
  ·injection e with e;injection e with e;subst e
   rcases hf with hf | hf
   ·exact .inl (.inr (List.mem_map.2 ⟨nh[i],yM hi,vH (h.kids _ (yM hi)) hf⟩))
   ·exact .inr hf
  ·exact .inl (.inr (List.mem_map.2 ⟨nh[a],yM ha,e⟩))
end Go.Proofs.YtioffpjajhalaaaGreatDoor
