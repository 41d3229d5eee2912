/- What the plain reading keeps: tokens are taken from the front, the last one stays; nodes are few. (and what follows of it). The conditions stand at each lemma. -/
import Derived.Test.YtbadjmmjbpeocaaGreatKaa
import Derived.Test.YtbadjmmjbpeocaaGreatKae
import Derived.Deep.AppendLies
import Derived.Test.YtbadjmmjbpeocaaGreatKab
import Derived.Test.YtbadjmmjbpeocaaGreatKac
import Derived.Maps.OwnSet
set_option linter.unusedVariables false
set_option linter.unusedSimpArgs false
set_option maxRecDepth 100000
set_option maxHeartbeats 16000000
namespace Go.Proofs.YtbadjmmjbpeocaaGreat
structure zEz (s:Ps):Prop where
 last:∃l e,s.ts=l++[e]∧e.kind=4
 deep:s.deep≤64
structure Good (s:Ps):Prop where
 last:∃l e,s.ts=l++[e]∧e.kind=4
 deep:s.deep≤64
 few:∀n ∈ s.nd,n.kids.length≤s.nd.length
theorem Good.base {s:Ps}(h:Good s):zEz s:=⟨h.last,h.deep⟩
theorem zEz.ne {s:Ps}(h:zEz s):s.ts≠[]:=by
 obtain⟨l,e,h,_⟩:=h.last;rw[h]
 simp
theorem zEz.pos {s:Ps}(h:zEz s):0<s.ts.length:=List.length_pos_iff.2 h.ne
theorem zEz.hd {s:Ps}(h:zEz s):∃t r,s.ts=t::r∧s.hd=t:=by
 cases hs:s.ts with
 | nil=>exact absurd hs h.ne
 | cons t r=>exact⟨t,r,rfl,by unfold Ps.hd; rw[hs]; rfl⟩
theorem zEz.adv {s:Ps}(h:zEz s)(hk:s.hd.kind≠4):zEz s.adv:=by
 refine⟨?_,h.deep⟩;obtain⟨l,e,hl,he⟩:=h.last
 cases l with
 | nil=>
  exfalso
  apply hk;unfold Ps.hd;rw[hl];exact he
 | cons t r=>
  refine⟨r,e,?_,he⟩
  show s.ts.tail=_
  rw[hl]
  rfl
def Ps.phi (s:Ps):Nat:=s.nd.length+2*s.ts.length
structure ZJ (s s':Ps):Prop where
 xR:Good s'
 phi:s'.phi≤s.phi
 ts:s'.ts.length≤s.ts.length
 nd:s.nd.length≤s'.nd.length
 deep:s'.deep=s.deep
theorem ZJ.refl {s:Ps}(h:Good s):ZJ s s:=⟨h,zX _,zX _,zX _,rfl⟩
theorem ZJ.trans {a b c:Ps}(h:ZJ a b)(k:ZJ b c):ZJ a c:=⟨k.xR,Nat.le_trans k.phi h.phi,Nat.le_trans k.ts h.ts,Nat.le_trans h.nd k.nd,k.deep.trans h.deep⟩
def jO {α:Type}(s:Ps):Res α→Prop
 | .ok _ s'=>ZJ s s'
 | .err _ _=>True
def zA5 {α:Type}(m:Pm α):Prop:=∀s,Good s→jO s (m s)
theorem Good.pos {s:Ps}(h:Good s):0<s.ts.length:=h.base.pos
theorem Good.adv {s:Ps}(h:Good s)(hk:s.hd.kind≠4):Good s.adv:=⟨(h.base.adv hk).last,h.deep,h.few⟩
theorem jX {s:Ps}:s.adv.ts.length=s.ts.length-1:=by show s.ts.tail.length=_; simp
theorem VF {s:Ps}(h:Good s)(hk:s.hd.kind≠4):ZJ s s.adv:=by
 have:=h.pos
 have ht:=jX (s:=s);exact⟨h.adv hk,by unfold Ps.phi; rw[ht]; show s.nd.length+_≤_; omega,by omega,zX _,rfl⟩
theorem vN {t:Bs}{s:Ps}(h:isP t s=true):s.hd.kind≠4∧s.hd.kind≠2∧s.hd.text=t:=by
 unfold isP at h;simp only[zG,zE,zO] at h;exact⟨h.1.1,h.1.2,h.2⟩
theorem zDR {s:Ps}{i:Nat}{f:Nd→Nd}:(s.on i f).nd.length=s.nd.length:=by unfold Ps.on; simp
theorem zSI {s:Ps}{i:Nat}{f:Nd→Nd}(m:Nat)(hk:∀n ∈ s.nd,(f n).kids.length≤m)(h:∀n ∈ s.nd,n.kids.length≤m):∀n ∈ (s.on i f).nd,n.kids.length≤m:=by
 intro n hn;have hn':n ∈ s.nd.modify i f:=hn;obtain⟨a,ha,rfl⟩:=List.mem_iff_getElem.1 hn'
 have ha':a<s.nd.length:=by rw[List.length_modify] at ha; exact ha
 rw[List.getElem_modify]
 split
 ·exact hk _ (yO ha')
 ·exact h _ (yO ha')
theorem zAp {s:Ps}{i:Nat}{f:Nd→Nd}(h:Good s)(hk:∀n,(f n).kids=n.kids):ZJ s (s.on i f):=⟨⟨h.last,h.deep,by rw[zDR]; exact zSI _ (fun n hn=>by rw[hk]; exact h.few n hn) h.few⟩,by unfold Ps.phi; rw[zDR]; exact zX _,zX _,by rw[zDR]; exact zX _,rfl⟩
theorem jO.trans {α:Type}{a b:Ps}{r:Res α}(h:ZJ a b)(k:jO b r):jO a r:=by
 cases r with
 | ok x s=>exact h.trans k
 | err _ _=>trivial
theorem jO.bind {α β:Type}{s:Ps}{r:Res α}{f:α→Ps→Res β}(h:jO s r)(k:∀a s',r=.ok a s'→Good s'→jO s' (f a s')):jO s (r.bind f):=by
 cases r with
 | ok a s'=>exact jO.trans h (k a s' rfl h.xR)
 | err e p=>trivial
theorem xP (t:Bs):zA5 (vX t):=by
 intro s h;unfold vX
 split
 ·rename_i hi;exact VF h (vN hi).1
 ·trivial
theorem zTY (k:Nat)(hk:k≠4):zA5 (ofP k):=by
 intro s h;unfold ofP
 split
 ·rename_i hi;exact VF h (by rw[hi]; exact hk)
 ·trivial
theorem ZT (i:Nat):zA5 (jT i):=fun s h=>(zTY 1 (by decide) s h).bind fun t s' _ h'=>zAp h' (fun _=>rfl)
def JP {α:Type}(s:Ps):Res α→Prop
 | .ok _ s'=>Good s'∧s'.phi+2≤s.phi∧s'.ts.length+1≤s.ts.length∧s.nd.length≤s'.nd.length∧s'.deep=s.deep
 | .err _ _=>True
theorem jU (s:Ps)(i k:Nat):(s.xI i k).nd.length=s.nd.length+1:=by
 show((s.kid i).nd++[_]).length=_
 rw[yP]
 show(s.on i _).nd.length+1=_
 rw[zDR]
theorem zBx {s:Ps}(h:∀n ∈ s.nd,n.kids.length≤s.nd.length)(i:Nat)(x:Nd)(hx:x.kids=[]):∀n ∈ ((s.kid i).add x).nd,n.kids.length≤((s.kid i).add x).nd.length:=by
 have hl:((s.kid i).add x).nd.length=s.nd.length+1:=by
  show((s.kid i).nd++[_]).length=_
  rw[yP]
  show(s.on i _).nd.length+1=_
  rw[zDR]
 intro n hn;rw[hl]
 rcases List.mem_append.1 hn with hn | hn
 ·exact zSI (s.nd.length+1) (fun n hn=>by have:=h n hn; simp; omega) (fun n hn=>by have:=h n hn; omega) n hn
 ·rw[List.mem_singleton.1 hn,hx]
  simp
theorem vM {s:Ps}(h:Good s)(i k:Nat):Good (s.xI i k):=⟨h.last,h.deep,zBx h.few i _ rfl⟩
theorem YV (s:Ps)(i k:Nat):(s.xI i k).ts=s.ts:=rfl
theorem zLP (s:Ps)(i k:Nat):(s.xI i k).deep=s.deep:=rfl
theorem JP.at {α:Type}{s:Ps}{i k:Nat}{r:Res α}(h:JP (s.xI i k) r):jO s r:=by
 cases r with
 | ok a s'=>
  obtain⟨h1,h2,h3,h4,h5⟩:=h;have hl:=jU s i k;unfold Ps.phi at h2;rw[hl,YV] at h2;rw[YV] at h3;rw[hl] at h4;rw[zLP] at h5;exact⟨h1,by unfold Ps.phi; omega,by omega,by omega,h5⟩
 | err _ _=>trivial
theorem JP.bind {α β:Type}{s:Ps}{r:Res α}{f:α→Ps→Res β}(h:JP s r)(k:∀a s',r=.ok a s'→Good s'→jO s' (f a s')):JP s (r.bind f):=by
 cases r with
 | ok a s'=>
  have hk:=k a s' rfl h.1
  show JP s (f a s')
  obtain⟨h1,h2,h3,h4,h5⟩:=h
  cases hr:f a s' with
  | ok b s2=>
   rw[hr] at hk
   have:=hk.phi
   have:=hk.ts
   have:=hk.nd
   exact⟨hk.xR,by omega,by omega,by omega,hk.deep.trans h5⟩
  | err _ _=>trivial
 | err e p=>trivial
theorem zDb {s:Ps}(h:Good s)(hk:s.hd.kind≠4):JP s (.ok () s.adv:Res Unit):=by
 have:=h.pos
 have ht:=jX (s:=s);exact⟨h.adv hk,by unfold Ps.phi; rw[ht]; show s.nd.length+_+2≤_; omega,by omega,zX _,rfl⟩
theorem zNz {s:Ps}(k:Nat)(hk:k≠4)(h:Good s):JP s (ofP k s):=by
 unfold ofP
 split
 ·rename_i hi
  have h0:s.hd.kind≠4:=by rw[hi]; exact hk
  exact zDb h h0
 ·trivial
theorem zFG {s:Ps}(t:Bs)(h:Good s):JP s (vX t s):=by
 unfold vX
 split
 ·rename_i hi;exact zDb h (vN hi).1
 ·trivial
theorem zAC {s:Ps}(i:Nat)(h:Good s):JP s (jT i s):=(zNz 1 (by decide) h).bind fun t s' _ h'=>zAp h' (fun _=>rfl)
theorem YF (i:Nat):zA5 (zAH i):=fun s h=>JP.at (zAC _ (vM h i 5))
theorem zCH (i:Nat):zA5 (zCx i):=fun s h=>JP.at ((zNz 2 (by decide) (vM h i 21)).bind fun t s' _ h'=>zAp h' (fun _=>rfl))
theorem zF8 {α:Type}{s:Ps}(a z:Bs){body:Pm α}(hb:∀t,Good t→t.ts.length<s.ts.length→jO t (body t))(h:Good s):JP s (jE a z body s):=by
 unfold jE
 split
 ·rename_i hi
  split
  ·trivial
  ·rename_i hd;have hk:=(vN hi).1;have hdl:=h.deep;have hp:=h.pos;have g:Good { s.adv with deep:=s.deep+1 }:=⟨(h.adv hk).last,by show s.deep+1≤64; omega,h.few⟩;have hbt:=hb _ g (by show s.adv.ts.length<_; rw[jX]; omega)
   cases hr:body { s.adv with deep:=s.deep+1 } with
   | err e p=>trivial
   | ok x t=>
    rw[hr] at hbt;have hl:t.ts.length≤s.adv.ts.length:=hbt.ts;have hn:s.nd.length≤t.nd.length:=hbt.nd;have hdp:t.deep=s.deep+1:=hbt.deep;have hph:t.phi≤s.nd.length+2*s.adv.ts.length:=hbt.phi;have hal:=jX (s:=s);have g2:∀u:Ps,Good u→u.deep=s.deep+1→Good { u with deep:=u.deep-1 }:=fun u gu hu=>⟨gu.last,by show u.deep-1≤64; omega,gu.few⟩
    show JP s (if z=[] then Res.ok x { t with deep:=t.deep-1 } else (vX z t).bind fun _ s=>.ok x { s with deep:=s.deep-1 })
    split
    ·exact⟨g2 t hbt.xR hdp,by show t.phi+2≤s.phi; unfold Ps.phi at hph ⊢; omega,by show t.ts.length+1≤_; omega,hn,by show t.deep-1=s.deep; omega⟩
    ·have ht:=xP z t hbt.xR
     cases hq:vX z t with
     | err e p=>trivial
     | ok y u=>
      rw[hq] at ht;have h1:u.ts.length≤t.ts.length:=ht.ts;have h2:t.nd.length≤u.nd.length:=ht.nd;have h3:u.deep=t.deep:=ht.deep;have h4:u.phi≤t.phi:=ht.phi;exact⟨g2 u ht.xR (by omega),by show u.phi+2≤s.phi; unfold Ps.phi at hph h4 ⊢; omega,by show u.ts.length+1≤_; omega,by show s.nd.length≤u.nd.length; omega,by show u.deep-1=s.deep; omega⟩
 ·trivial
theorem JP.zUW {α:Type}{s:Ps}{r:Res α}(h:JP s r):jO s r:=by
 cases r with
 | ok a s'=>
  obtain⟨h1,h2,h3,h4,h5⟩:=h;exact⟨h1,by omega,by omega,h4,h5⟩
 | err _ _=>trivial
def Ex.size:Ex→Nat
 | .leaf ..=>1
 | .neg _ a=>a.size+1
 | .bin _ _ a b=>a.size+b.size+1
def zDi (s:Ps):Res Ex→Prop
 | .ok e s'=>Good s'∧s'.ts.length+e.size≤s.ts.length∧s'.nd=s.nd∧s'.deep=s.deep
 | .err _ _=>True
theorem zH4 {ms:List (Bs × Nat)}{s:Ps}{k:Nat}(h:zDW ms s=some k):s.hd.kind≠4:=by
 unfold zDW at h
 cases hf:ms.find? fun m=>isP m.1 s with
 | none=>rw[hf] at h; cases h
 | some m=>exact(vN (t:=m.1) (List.find?_some (p:=fun m:Bs × Nat=>isP m.1 s) hf)).1
theorem zH2 {ms:List (Bs × Nat)}{part:Pm Ex}(n:Nat)(hp:∀t,Good t→t.ts.length≤n→zDi t (part t))(s:Ps):∀(f:Nat) (e:Ex) (t:Ps),Good t→t.ts.length≤n→t.ts.length+e.size≤s.ts.length→t.nd=s.nd→t.deep=s.deep→zDi s (VU ms part f e t)
 | 0,_,_,_,_,_,_,_=>trivial
 | f+1,e,t,g,hl,hs,hn,hd=>by
  unfold VU
  split
  ·exact⟨g,hs,hn,hd⟩
  ·rename_i k hk;have h4:=zH4 hk;have hpos:=g.pos;have hal:=jX (s:=t);have hpt:=hp t.adv (g.adv h4) (by omega)
   cases hr:part t.adv with
   | err e p=>trivial
   | ok r u=>
    rw[hr] at hpt;obtain⟨h1,h2,h3,h5⟩:=hpt;exact zH2 n hp s f (.bin k e.pos e r) u h1 (by omega) (by show u.ts.length+(e.size+r.size+1)≤_; omega) (h3.trans hn) (h5.trans hd)
theorem zEr {ms:List (Bs × Nat)}{part:Pm Ex}(n:Nat)(hp:∀t,Good t→t.ts.length≤n→zDi t (part t)):∀s,Good s→s.ts.length≤n→zDi s (XD ms part s):=by
 intro s g hl;have hpt:=hp s g hl;unfold XD
 cases hr:part s with
 | err e p=>trivial
 | ok e u=>
  rw[hr] at hpt;obtain⟨h1,h2,h3,h5⟩:=hpt;exact zH2 n hp s _ e u h1 (by omega) h2 h3 h5
theorem zGz {part:Pm Ex}(n:Nat)(hp:∀t,Good t→t.ts.length≤n→zDi t (part t)):∀s,Good s→s.ts.length≤n→zDi s (zEA part s):=zEr n (zEr n hp)
def zUn (s:Ps):Res Ex→Prop
 | .ok e s'=>Good s'∧s'.ts.length+e.size+1≤s.ts.length∧s'.nd=s.nd∧s'.deep=s.deep
 | .err _ _=>True
theorem zGb {s:Ps}(a z:Bs){body:Pm Ex}(hb:∀t,Good t→t.ts.length<s.ts.length→zDi t (body t))(h:Good s):zUn s (jE a z body s):=by
 unfold jE
 split
 ·rename_i hi
  split
  ·trivial
  ·rename_i hd;have hk:=(vN hi).1;have hdl:=h.deep;have hp:=h.pos;have g:Good { s.adv with deep:=s.deep+1 }:=⟨(h.adv hk).last,by show s.deep+1≤64; omega,h.few⟩;have hal:=jX (s:=s);have hbt:=hb _ g (by show s.adv.ts.length<_; omega)
   cases hr:body { s.adv with deep:=s.deep+1 } with
   | err e p=>trivial
   | ok x t=>
    rw[hr] at hbt;obtain⟨h1,h2,h3,h4⟩:=hbt;have h2':t.ts.length+x.size≤s.adv.ts.length:=h2;have h4':t.deep=s.deep+1:=h4;have g2:∀u:Ps,Good u→u.deep=s.deep+1→Good { u with deep:=u.deep-1 }:=fun u gu hu=>⟨gu.last,by show u.deep-1≤64; omega,gu.few⟩;simp only[VL]
    split
    ·exact⟨g2 t h1 h4',by show t.ts.length+_+1≤_; omega,h3,by show t.deep-1=s.deep; omega⟩
    ·have ht:=xP z t h1
     cases hq:vX z t with
     | err e p=>trivial
     | ok y u=>
      rw[hq] at ht;have h1':u.ts.length≤t.ts.length:=ht.ts;have h3':u.deep=t.deep:=ht.deep
      have hnd:u.nd=t.nd:=by
       unfold vX at hq
       split at hq
       ·injection hq with _ e2;rw[←e2]; rfl
       ·cases hq
      exact⟨g2 u ht.xR (by omega),by show u.ts.length+_+1≤_; omega,hnd.trans h3,by show u.deep-1=s.deep; omega⟩
 ·trivial
theorem JQ:∀(f:Nat) (s:Ps),Good s→s.ts.length≤f→zDi s (vL f s)
 | 0,s,g,hl=>absurd g.pos (by omega)
 | f+1,s,g,hl=>by
  have hp:=g.pos;have hal:=jX (s:=s);unfold vL
  split
  ·rename_i hk;exact⟨g.adv (by omega),by show s.adv.ts.length+1≤_; omega,rfl,rfl⟩
  ·split
   ·rename_i hk;exact⟨g.adv (by omega),by show s.adv.ts.length+1≤_; omega,rfl,rfl⟩
   ·split
    ·have h:=zGb [45] [] (body:=vL f) (fun t gt ht=>JQ f t gt (by omega)) g
     cases hr:jE [45] [] (vL f) s with
     | err e p=>trivial
     | ok a t=>
      rw[hr] at h;obtain⟨h1,h2,h3,h4⟩:=h;exact⟨h1,by show t.ts.length+(a.size+1)≤_; omega,h3,h4⟩
    ·have h:=zGb [40] [41] (body:=zEA (vL f)) (fun t gt ht=>zGz f (fun t gt ht=>JQ f t gt ht) t gt (by omega)) g
     cases hr:jE [40] [41] (zEA (vL f)) s with
     | err e p=>trivial
     | ok a t=>
      rw[hr] at h;obtain⟨h1,h2,h3,h4⟩:=h;exact⟨h1,by omega,h3,h4⟩
theorem zHZ (s:Ps)(g:Good s):zDi s (zP7 s):=zGz _ (fun t gt ht=>JQ _ t gt ht) s g (zX _)
theorem zBH (s:Ps)(i:Nat)(n:Nd):((s.kid i).add n).nd.length=s.nd.length+1:=by
 show((s.kid i).nd++[_]).length=_
 rw[yP]
 show(s.on i _).nd.length+1=_
 rw[zDR]
theorem zCA:∀(e:Ex) (i:Nat) (s:Ps),(zBW i e s).nd.length=s.nd.length+e.size∧(zBW i e s).ts=s.ts∧(zBW i e s).deep=s.deep
 | .leaf k p t n,i,s=>⟨zBH s i _,rfl,rfl⟩
 | .neg p a,i,s=>by
  obtain⟨h1,h2,h3⟩:=zCA a s.nd.length ((s.kid i).add ⟨26,p,[],0,[]⟩);refine⟨?_,h2,h3⟩
  show(zBW s.nd.length a _).nd.length=s.nd.length+(a.size+1)
  rw[h1,zBH];omega
 | .bin k p a b,i,s=>by
  obtain⟨h1,h2,h3⟩:=zCA a s.nd.length ((s.kid i).add ⟨k,p,[],0,[]⟩);obtain⟨h4,h5,h6⟩:=zCA b s.nd.length (zBW s.nd.length a ((s.kid i).add ⟨k,p,[],0,[]⟩));refine⟨?_,h5.trans h2,h6.trans h3⟩
  show(zBW s.nd.length b _).nd.length=s.nd.length+(a.size+b.size+1)
  rw[h4,h1,zBH];omega
theorem zFN:∀(e:Ex) (i:Nat) (s:Ps),(∀n ∈ s.nd,n.kids.length≤s.nd.length)→∀n ∈ (zBW i e s).nd,n.kids.length≤(zBW i e s).nd.length
 | .leaf k p t n,i,s,h=>zBx h i _ rfl
 | .neg p a,i,s,h=>zFN a _ _ (zBx h i _ rfl)
 | .bin k p a b,i,s,h=>zFN b _ _ (zFN a _ _ (zBx h i _ rfl))
theorem ZY (i:Nat):zA5 (zAB i):=by
 intro s g;unfold zAB;have h:=zHZ s g
 cases hr:zP7 s with
 | err e p=>trivial
 | ok e t=>
  rw[hr] at h;obtain⟨h1,h2,h3,h4⟩:=h;obtain⟨p1,p2,p3⟩:=zCA e i t;refine⟨⟨by rw[p2]; exact h1.last,by rw[p3]; exact h1.deep,zFN e i t h1.few⟩,?_,by rw[p2]; omega,by rw[p1,h3]; omega,by rw[p3,h4]⟩;unfold Ps.phi;rw[p1,p2,h3];omega
theorem zKP {one:Pm Unit}(h:zA5 one):∀f,zA5 (zBF one f)
 | 0=>fun _ _=>trivial
 | f+1=>fun s g=>by
  unfold zBF
  split
  ·rename_i hi;have hk:=(vN hi).1;exact jO.trans (VF g hk) ((h _ (g.adv hk)).bind fun _ t _ gt=>zKP h f t gt)
  ·exact ZJ.refl g
theorem zBq {one:Pm Unit}(h:zA5 one):zA5 (zAc one):=fun s g=>(h s g).bind fun _ t _ gt=>zKP h _ t gt
theorem zHT (i:Nat):zA5 (zGo i):=fun s g=>(zF8 [91] [93] (fun t gt _=>ZY i t gt) g).zUW
theorem zEH (i:Nat):zA5 (zJH i):=fun s g=>JP.at ((zAC _ (vM g i 20)).bind fun _ t _ gt=>zHT _ t gt)
theorem zE2 (i:Nat):zA5 (zIR i):=fun s g=>(zEH i s g).bind fun _ t _ gt=>(xP _ t gt).bind fun _ t _ gt=>YF i t gt
theorem zQs (i:Nat):zA5 (zK9 i):=fun s g=>(ZT i s g).bind fun _ t _ gt=>(xP _ t gt).bind fun _ t _ gt=>(zE2 i t gt).bind fun _ t _ gt=>by
 split
 ·rename_i hi;exact jO.trans (VF gt (vN hi).1) ((xP _ _ (gt.adv (vN hi).1)).bind fun _ t _ gt=>zAp gt (fun _=>rfl))
 ·exact ZJ.refl gt
theorem zSN (i:Nat):zA5 (zQA i):=fun s g=>(zE2 i s g).bind fun _ t _ gt=>(xP _ t gt).bind fun _ t _ gt=>ZY i t gt
theorem zNS (i:Nat):zA5 (zE3 i):=fun s g=>(zEH i s g).bind fun _ t _ gt=>(xP _ t gt).bind fun _ t _ gt=>(zBq (ZY i) t gt).bind fun _ t _ gt=>xP _ t gt
theorem zQ5 (i:Nat):zA5 (zKl i):=fun s g=>(ZT i s g).bind fun _ t _ gt=>(xP _ t gt).bind fun _ t _ gt=>(YF i t gt).bind fun _ t _ gt=>(xP _ t gt).bind fun _ t _ gt=>YF i t gt
theorem zP8 (i:Nat):zA5 (zKu i):=fun s g=>(YF i s g).bind fun _ t _ gt=>by
 split
 ·rename_i hi;exact(VF gt (vN hi).1).trans (zAp (gt.adv (vN hi).1) (fun _=>rfl))
 ·exact xP _ t gt
theorem zLr (i:Nat):zA5 (zDq i):=fun s g=>JP.at ((zAC _ (vM g i 5)).bind fun _ t _ gt=>by
 split
 ·have l1:ZJ t (t.kind s.nd.length 20):=zAp gt (fun _=>rfl);exact jO.trans l1 (zHT _ _ l1.xR)
 ·exact ZJ.refl gt)
theorem zRH (i:Nat):zA5 (zPW i):=fun s g=>(ZT i s g).bind fun _ t _ gt=>(xP _ t gt).bind fun _ t _ gt=>ZY i t gt
theorem zQw (i:Nat):zA5 (zFf i):=fun s g=>by
 unfold zFf
 split
 ·rename_i hi;exact(VF g (vN hi).1).trans (zAp (g.adv (vN hi).1) (fun _=>rfl))
 ·exact xP _ s g
def zDv (n:Nat)(st:Nat→Pm Unit):Prop:=∀i s,Good s→s.ts.length≤n→jO s (st i s)
theorem zFx {n:Nat}{st:Nat→Pm Unit}(h:zDv n st)(i:Nat):∀f s,Good s→s.ts.length≤n→jO s (XC st i f s)
 | 0,_,_,_=>trivial
 | f+1,s,g,hl=>by
  unfold XC
  split
  ·exact ZJ.refl g
  ·have h1:=h i s g hl
   cases hr:st i s with
   | err e p=>trivial
   | ok a t=>
    rw[hr] at h1
    have:=h1.ts
    exact jO.trans h1 (zFx h i f t h1.xR (by omega))
theorem JV {n:Nat}{st:Nat→Pm Unit}(h:zDv n st)(i:Nat)(s:Ps)(g:Good s)(hl:s.ts.length≤n+1):jO s (zAU st i s):=
 JP.at (zF8 [123] [125] (fun t gt ht=>zFx h _ _ t gt (by rw[YV] at ht; omega)) (vM g i 6))
theorem zQf {n:Nat}{st:Nat→Pm Unit}(h:zDv n st)(i:Nat)(s:Ps)(g:Good s)(hl:s.ts.length≤n+1):jO s (zGT st i s):=by
 unfold zGT
 split
 ·rename_i hi;have hk:=(vN hi).1;have hal:=jX (s:=s);exact jO.trans (VF g hk) (JV h i _ (g.adv hk) (by omega))
 ·exact ZJ.refl g
theorem jO.zF3 {α β:Type}{s:Ps}{r:Res α}{f:α→Ps→Res β}(h:jO s r)(k:∀a s',Good s'→s'.ts.length≤s.ts.length→jO s' (f a s')):jO s (r.bind f):=by
 cases r with
 | ok a s'=>exact jO.trans h (k a s' h.xR h.ts)
 | err e p=>trivial
theorem zNc {n:Nat}{st:Nat→Pm Unit}(h:zDv n st)(i:Nat)(s:Ps)(g:Good s)(hl:s.ts.length≤n+1):jO s (zDr st i s):=
 (ZY i s g).zF3 fun _ t gt l1=>(zQw i t gt).zF3 fun _ t gt l2=>(ZY i t gt).zF3 fun _ t gt l3=>(JV h i t gt (by omega)).zF3 fun _ t gt l4=>zQf h i t gt (by omega)
theorem zQV {n:Nat}{st:Nat→Pm Unit}(h:zDv n st)(i:Nat)(s:Ps)(g:Good s)(hl:s.ts.length≤n+1):jO s (zGA st i s):=
 (ZT i s g).zF3 fun _ t gt l1=>(xP _ t gt).zF3 fun _ t gt l2=>(zCH i t gt).zF3 fun _ t gt l3=>(xP _ t gt).zF3 fun _ t gt l4=>(zCH i t gt).zF3 fun _ t gt l5=>JV h i t gt (by omega)
theorem zDA {n:Nat}{st:Nat→Pm Unit}(h:zDv n st)(k i:Nat)(s:Ps)(g:Good s)(hl:s.ts.length≤n+1):jO s (VI st k i s):=by
 unfold VI
 split
 ·exact zQs i s g
 split
 ·exact zSN i s g
 split
 ·exact zNS i s g
 split
 ·exact zEH i s g
 split
 ·exact zQ5 i s g
 split
 ·exact zP8 i s g
 split
 ·exact zLr i s g
 split
 ·exact zNc h i s g hl
 split
 ·exact zQV h i s g hl
 split
 ·exact zRH i s g
 split
 ·exact ZY i s g
 ·exact ZJ.refl g
theorem zAD:∀f,zDv f (YS f)
 | 0,_,_,_,_=>trivial
 | f+1,i,s,g,hl=>by
  unfold YS
  split
  ·trivial
  ·rename_i k hk
   have h1:s.hd.kind=1:=by
    split at hk
    ·assumption
    ·cases hk
   have h4:(s.xI i k).hd.kind≠4:=by show s.hd.kind≠4; omega
   refine JP.at (i:=i) (k:=k) ?_;refine JP.bind (r:=.ok () (s.xI i k).adv) (zDb (vM g i k) h4) (f:=fun _ t=>(VI (YS f) k s.nd.length t).bind fun _ s=>if k=14∨k=15 then .ok () s else vX [59] s) ?_;intro _ t ht gt;injection ht with _ ht;have hal:=jX (s:=s.xI i k);rw[YV] at hal
   have:=g.pos
   refine(zDA (zAD f) k _ t gt (by rw[←ht,hal]; omega)).bind fun _ u _ gu=>?_
   split
   ·exact ZJ.refl gu
   ·exact xP _ u gu
theorem zCK (i:Nat):zA5 (zEa i):=fun s g=>JV (zAD s.ts.length) i s g (by omega)
theorem zIJ (i:Nat):zA5 (zCW i):=fun s g=>JP.at ((zFG _ (vM g i 2)).bind fun _ t _ gt=>(ZT _ t gt).bind fun _ t _ gt=>(xP _ t gt).bind fun _ t _ gt=>(zBq (YF _) t gt).bind fun _ t _ gt=>(xP _ t gt).bind fun _ t _ gt=>xP _ t gt)
theorem zGX (i:Nat):zA5 (VY i):=fun s g=>by
 unfold VY
 split
 ·rename_i hi;exact(VF g (vN hi).1).trans (zAp (g.adv (vN hi).1) (fun _=>rfl))
 ·exact ZJ.refl g
end Go.Proofs.YtbadjmmjbpeocaaGreat
namespace Go.Proofs.YtbadjmmjbpeocaaGreat
open Go Go.RowKit
abbrev Hd2:=Option Addr × Nat
def ints (l:List Nat):List Value:=l.map fun (k:Nat)=>Value.int .i64 (k:Int)
def YO (x:Nd × Hd2):List Value:=[.int .u8 (x.1.kind:Int),.int .i64 (x.1.pos:Int),.string (xH x.1.text),.int .i64 x.1.num,.slice x.2.1 x.1.kids.length x.2.2]
def ncs (l:List (Nd × Hd2)):List Value:=l.flatMap YO
theorem vR (l:List Nat):(ints l).length=l.length:=by simp[ints]
theorem zPL (l:List Nat)(k:Nat):ints (l++[k])=ints l++[.int .i64 (k:Int)]:=by simp[ints]
theorem zSL (l:List (Nd × Hd2))(x:Nd × Hd2):ncs (l++[x])=ncs l++YO x:=by unfold ncs; simp
theorem zUD (l:List (Nd × Hd2)):∀(i:Nat) (hi:i<l.length) (j:Nat),j<5→(ncs l)[i*5+j]?=(YO l[i])[j]?:=by
 induction l with
 | nil=>intro i hi; simp at hi
 | cons x l ih=>
  intro i hi j hj
  show(YO x++ncs l)[i*5+j]?=_
  match i,hi with
  | 0,_=>rw[Nat.zero_mul,Nat.zero_add,List.getElem?_append_left (by show j<5; exact hj)]; rfl
  | i+1,hi=>
   have e:(i+1)*5+j=5+(i*5+j):=by omega
   rw[e,List.getElem?_append_right (by show 5≤_; omega),show 5+(i*5+j)-(YO x).length=i*5+j from by show 5+(i*5+j)-5=_; omega];exact ih i (by simpa using hi) j hj
theorem zIo (l:List (Nd × Hd2))(i:Nat)(hi:i<l.length)(j:Nat)(hj:j<5)(u:Value)(f:Nd × Hd2→Nd × Hd2)(hf:YO (f l[i])=(YO l[i]).set j u):ncs (l.modify i f)=(ncs l).set (i*5+j) u:=by
 induction l generalizing i with
 | nil=>simp at hi
 | cons x l ih=>
  match i,hi with
  | 0,_=>
   simp only[List.getElem_cons_zero] at hf;rw[List.modify_zero_cons]
   show YO (f x)++ncs l=(YO x++ncs l).set (0*5+j) u
   rw[hf,Nat.zero_mul,Nat.zero_add,List.set_append_left _ _ (by show j<5; exact hj)]
  | i+1,hi=>
   rw[List.modify_succ_cons]
   show YO x++ncs (l.modify i f)=(YO x++ncs l).set ((i+1)*5+j) u
   rw[ih i (by simpa using hi) (by simpa using hf),List.set_append_right _ _ (by show 5≤_; omega)]
   congr 2
   show _=(i+1)*5+j-5
   omega
structure NS (w:World)(B:Nat)(tn ti:TypeId)(A:Option Addr)(c:Nat)(nh:List (Nd × Hd2)):Prop where
 row:w.ownsRow B tn 5 (.slice A nh.length c) nh.length (ncs nh)
 kids:∀x ∈ nh,w.ownsRow B ti 1 (.slice x.2.1 x.1.kids.length x.2.2) x.1.kids.length (ints x.1.kids)
 apart:∀(i j:Nat) (hi:i<nh.length) (hj:j<nh.length),nh[i].2.1=nh[j].2.1→nh[i].2.1≠none→i=j
 rz:nh.length=0→c=0
 kz:∀x ∈ nh,x.1.kids.length=0→x.2.2=0
def zHc (A:Option Addr)(nh:List (Nd × Hd2))(b:Nat):Prop:=A=some ⟨b,0,none⟩∨some (⟨b,0,none⟩:Addr) ∈ nh.map fun x=>x.2.1
structure xC (w:World)(M:Nat→Prop)(w':World)(M':Nat→Prop):Prop where
 os:w'.os=w.os
 tape:w'.tape=w.tape
 output:w'.output=w.output
 size:w.heap.size≤w'.heap.size
 jK:∀b,b<w.heap.size→¬M b→w'.heap[b]?=w.heap[b]?
 zDC:∀b,M' b→M b∨w.heap.size≤b
theorem xC.refl (w:World)(M:Nat→Prop):xC w M w M:=⟨rfl,rfl,rfl,zX _,fun _ _ _=>rfl,fun _ h=>.inl h⟩
theorem xC.trans {w w1 w2:World}{M M1 M2:Nat→Prop}(h:xC w M w1 M1)(k:xC w1 M1 w2 M2):xC w M w2 M2:=by
 refine⟨k.os.trans h.os,k.tape.trans h.tape,k.output.trans h.output,Nat.le_trans h.size k.size,fun b hb hM=>?_,fun b hb=>?_⟩
 ·rw[k.jK b (yU hb h.size) (fun h1=>by rcases h.zDC b h1 with h2 | h2 <;> first | exact hM h2 | omega)]
  exact h.jK b hb hM
 ·rcases k.zDC b hb with h1 | h1
  ·exact h.zDC b h1
  ·exact .inr (Nat.le_trans h.size h1)
theorem xC.ext {w w':World}{M:Nat→Prop}(h:Ext w w'):xC w M w' M:=⟨h.os,h.tape,h.output,h.size,fun b hb _=>h.block b hb,fun _ h=>.inl h⟩
theorem xC.below {w w':World}{M M':Nat→Prop}{B:Nat}(h:xC w M w' M')(hM:∀b,M b→B≤b)(hB:B≤w.heap.size):Below B w w':=⟨h.os,h.tape,h.output,h.size,fun b hb=>h.jK b (by omega) (fun hm=>by have:=hM b hm; omega)⟩
def Safe (w:World)(M:Nat→Prop)(g:Nat)(t:TypeId)(cs:Array Value):Prop:=Blk w g t cs∧¬M g
theorem Safe.xE {w w':World}{M M':Nat→Prop}{g:Nat}{t:TypeId}{cs:Array Value}(h:Safe w M g t cs)(k:xC w M w' M'):Safe w' M' g t cs:=
 ⟨(k.jK g h.1.lt h.2).trans h.1,fun h1=>by rcases k.zDC g h1 with h2 | h2 <;> first | exact h.2 h2 | (have:=h.1.lt; omega)⟩
def XH (w:World)(M:Nat→Prop)(A:Option Addr)(cs:List Value):Prop:=cs=[]∨∃b off,A=some ⟨b,off,none⟩∧b<w.heap.size∧¬M b∧∀k,k<cs.length→w.cell? ⟨b,off+k,none⟩=cs[k]?
theorem XH.cells {w:World}{M:Nat→Prop}{A:Option Addr}{cs:List Value}(h:XH w M A cs):Cells w A cs:=by
 rcases h with h | ⟨b,off,h1,h2,_,h3⟩
 ·exact .inl h
 ·exact .inr ⟨b,off,h1,h2,h3⟩
theorem XH.xE {w w':World}{M M':Nat→Prop}{A:Option Addr}{cs:List Value}(h:XH w M A cs)(k:xC w M w' M'):XH w' M' A cs:=by
 rcases h with h | ⟨b,off,h1,h2,h3,h4⟩
 ·exact .inl h
 ·refine .inr ⟨b,off,h1,yU h2 k.size,fun h5=>by rcases k.zDC b h5 with h6 | h6 <;> first | exact h3 h6 | omega,fun j hj=>?_⟩
  rw[World.cell?_of_block (w:=w) (k.jK b h2 h3)];exact h4 j hj
theorem jD {w:World}{B:Nat}{t:TypeId}{s n c m:Nat}{A:Option Addr}{xs:List Value}(h:w.ownsRow B t s (.slice A m c) n xs){b:Nat}(e:A=some ⟨b,0,none⟩):B≤b∧b<w.heap.size:=by
 rcases h.2 with ⟨hv,_⟩ | ⟨g,cap,cur,hv,hb,hh,_⟩
 ·rw[e] at hv; cases hv
 ·rw[e] at hv;injection hv with h1;injection h1 with h1;injection h1 with h1;subst h1;exact⟨hb,(Array.getElem?_eq_some_iff.1 hh).1⟩
theorem xY {w:World}{B:Nat}{t:TypeId}{s n c m:Nat}{A:Option Addr}{xs:List Value}(h:w.ownsRow B t s (.slice A m c) n xs){b:Nat}(e:A=some ⟨b,0,none⟩):∃cur,Blk w b t cur:=by
 rcases h.2 with ⟨hv,_⟩ | ⟨g,cap,cur,hv,hb,hh,_⟩
 ·rw[e] at hv; cases hv
 ·rw[e] at hv;injection hv with h1;injection h1 with h1;injection h1 with h1;subst h1;exact⟨cur,hh⟩
theorem zAN {w:World}{B:Nat}{t:TypeId}{s n c m:Nat}{A:Option Addr}{xs:List Value}(h:w.ownsRow B t s (.slice A m c) n xs):A=none∨∃b,A=some ⟨b,0,none⟩:=by
 rcases h.2 with ⟨hv,_⟩ | ⟨g,cap,cur,hv,hb,hh,_⟩
 ·injection hv with h1; exact .inl h1
 ·injection hv with h1; exact .inr ⟨g,h1⟩
theorem NS.ZX {w:World}{B:Nat}{tn ti:TypeId}{A:Option Addr}{c:Nat}{nh:List (Nd × Hd2)}(h:NS w B tn ti A c nh){b:Nat}(hb:zHc A nh b):B≤b∧b<w.heap.size:=by
 rcases hb with hb | hb
 ·exact jD h.row hb
 ·obtain⟨x,hx,e⟩:=List.mem_map.1 hb;exact jD (h.kids x hx) e
theorem NS.zDn {w:World}{B:Nat}{tn ti:TypeId}{A:Option Addr}{c:Nat}{nh:List (Nd × Hd2)}(h:NS w B tn ti A c nh){g:Nat}{t:TypeId}{cs:Array Value}(hg:Blk w g t cs)(h1:t≠tn)(h2:t≠ti):¬zHc A nh g:=by
 rintro (hb | hb)
 ·obtain⟨cur,hc⟩:=xY h.row hb;exact Blk.differ hg hc h1 rfl
 ·obtain⟨x,hx,e⟩:=List.mem_map.1 hb;obtain⟨cur,hc⟩:=xY (h.kids x hx) e;exact Blk.differ hg hc h2 rfl
theorem NS.jK {w w':World}{B:Nat}{tn ti:TypeId}{A:Option Addr}{c:Nat}{nh:List (Nd × Hd2)}(h:NS w B tn ti A c nh)(hk:∀b,zHc A nh b→w'.heap[b]?=w.heap[b]?):NS w' B tn ti A c nh:=by
 refine⟨⟨h.row.1,?_⟩,fun x hx=>⟨(h.kids x hx).1,?_⟩,h.apart,h.rz,h.kz⟩
 ·rcases h.row.2 with hn | ⟨g,cap,cur,hv,hb,hh,r⟩
  ·exact .inl hn
  ·injection hv with e1 e2 e3;exact .inr ⟨g,cap,cur,by rw[e1,e3],hb,(hk g (.inl e1)).trans hh,r⟩
 ·rcases(h.kids x hx).2 with hn | ⟨g,cap,cur,hv,hb,hh,r⟩
  ·exact .inl hn
  ·injection hv with e1 e2 e3;exact .inr ⟨g,cap,cur,by rw[e1,e3],hb,(hk g (.inr (by rw[←e1]; exact List.mem_map.2 ⟨x,hx,rfl⟩))).trans hh,r⟩
theorem NS.ext {w w':World}{B:Nat}{tn ti:TypeId}{A:Option Addr}{c:Nat}{nh:List (Nd × Hd2)}(h:NS w B tn ti A c nh)(hx:Ext w w'):NS w' B tn ti A c nh:=h.jK fun b hb=>hx.block b (h.ZX hb).2
theorem zFC {w w':World}{b1:Nat}{t1:TypeId}{s1 n1 c1:Nat}{A1:Option Addr}{xs1:List Value}{o:Option Nat}(h1:w.ownsRow b1 t1 s1 (.slice A1 n1 c1) n1 xs1)(hg:w.grownBy w' o)(hne:∀b,A1=some ⟨b,0,none⟩→o≠some b):w'.ownsRow b1 t1 s1 (.slice A1 n1 c1) n1 xs1:=by
 refine h1.kept hg ?_
 rcases zAN h1 with e | ⟨b,e⟩
 ·rw[e]; exact .inl rfl
 ·refine .inr fun e2=>hne b e ?_;rw[←e2,e]
  rfl
theorem zJW {A:Option Addr}{n c b:Nat}(h:(Value.slice A n c).ownBlock=some b):∃a,A=some a∧a.block=b:=by
 cases A with
 | none=>cases h
 | some a=>exact⟨a,rfl,by simpa [Value.ownBlock] using h⟩
theorem xO {w:World}{B:Nat}{t:TypeId}{s n c m:Nat}{A:Option Addr}{xs:List Value}(h:w.ownsRow B t s (.slice A m c) n xs){b:Nat}(e:(Value.slice A m c).ownBlock=some b):A=some ⟨b,0,none⟩:=by
 obtain⟨a,ea,eb⟩:=zJW e
 rcases zAN h with e0 | ⟨b',e0⟩
 ·rw[e0] at ea; cases ea
 ·rw[e0] at ea ⊢;injection ea with ea;subst ea
  simp only at eb
  rw[eb]
theorem NS.snoc {w w':World}{B:Nat}{tn ti:TypeId}{A:Option Addr}{c:Nat}{nh:List (Nd × Hd2)}(h:NS w B tn ti A c nh)(hne:tn≠ti)(x:Nd)(hx:x.kids=[]){g cap:Nat}
  (ho:w'.ownsRow B tn 5 (.slice (some ⟨g,0,none⟩) (nh.length+1) cap) (nh.length+1) (ncs nh++YO (x,(none,0)))) (hg:w.grownBy w' (Value.slice A nh.length c).ownBlock):NS w' B tn ti (some ⟨g,0,none⟩) cap (nh++[(x,(none,0))]):=by
 refine⟨by rw[zSL,yP]; exact ho,fun y hy=>?_,fun i j hi hj he hn=>?_,fun h0=>by simp at h0,fun y hy h0=>?_⟩
 ·rcases List.mem_append.1 hy with hy | hy
  ·refine zFC (h.kids y hy) hg fun b e e2=>?_;obtain⟨cur,hc⟩:=xY (h.kids y hy) e;exact YE h.row hc hne e2
  ·have:=List.mem_singleton.1 hy
   subst this
   show w'.ownsRow B ti 1 (.slice none x.kids.length 0) x.kids.length (ints x.kids)
   rw[hx];exact zR _ _ _ _
 ·rw[yP] at hi hj;simp only[zK,zL,Nat.zero_add] at hi hj
  by_cases hi':i<nh.length
  ·rw[List.getElem_append_left hi'] at he hn
   by_cases hj':j<nh.length
   ·rw[List.getElem_append_left hj'] at he;exact h.apart i j hi' hj' he hn
   ·exfalso
    apply hn;rw[he,List.getElem_append_right (by omega)]
    simp
  ·exfalso
   apply hn;rw[List.getElem_append_right (by omega)]
   simp
 ·rcases List.mem_append.1 hy with hy | hy
  ·exact h.kz y hy h0
  ·rw[List.mem_singleton.1 hy]
theorem zHU {w:World}{base g n m c k sz:Nat}{e:TypeId}{xs:List Value}(h:w.ownsRow base e sz (.slice (some ⟨g,0,none⟩) m c) n xs)(hk:k<n*sz)(u:Value):(w.setCell ⟨g,k,none⟩ u).ownsRow base e sz (.slice (some ⟨g,0,none⟩) m c) n (xs.set k u):=by
 refine⟨by rw[zB]; exact h.1,?_⟩
 rcases h.2 with ⟨hv,_⟩ | ⟨g',cap,cur,hv,hb,hh,h1,h2,h3,h4⟩
 ·cases hv
 ·injection hv with e1 e2 e3;injection e1 with e1;injection e1 with e1;subst e1 e3;refine .inr ⟨g,c,cur.setIfInBounds k u,by rw[e2],hb,?_,h1,h2,by simpa using h3,?_⟩
  ·simp[World.setCell,Array.getElem?_modify,hh]
  ·rw[Array.toList_setIfInBounds,List.take_set,h4]
theorem zAx {w:World}{b1 g:Nat}{t1:TypeId}{s1 n1:Nat}{v1:Value}{xs1:List Value}{t:TypeId}{cs:Array Value}(h1:w.ownsRow b1 t1 s1 v1 n1 xs1)(h2:Blk w g t cs)(ht:t1≠t)(k:Nat)(u:Value):(w.setCell ⟨g,k,none⟩ u).ownsRow b1 t1 s1 v1 n1 xs1:=zHR h1 (YE h1 h2 ht) u
theorem NS.put {w:World}{B:Nat}{tn ti:TypeId}{A:Option Addr}{c:Nat}{nh:List (Nd × Hd2)}(h:NS w B tn ti A c nh)(hne:tn≠ti)(i:Nat)(hi:i<nh.length)(j:Nat)(hj:j<5)(u:Value)(f:Nd→Nd)(hk:∀x,(f x).kids=x.kids)(hf:YO (f nh[i].1,nh[i].2)=(YO nh[i]).set j u){g:Nat}(hA:A=some ⟨g,0,none⟩) :
  NS (w.setCell ⟨g,i*5+j,none⟩ u) B tn ti A c (nh.modify i fun x=>(f x.1,x.2)):=by
 subst hA;obtain⟨cur,hc⟩:=xY h.row rfl;refine⟨?_,fun y hy=>?_,fun a b ha hb he hn=>?_,fun h0=>h.rz (by rw[List.length_modify] at h0; exact h0),fun y hy h0=>?_⟩
 ·rw[List.length_modify,zIo nh i hi j hj u _ hf];exact zHU h.row (by omega) u
 ·obtain⟨a,ha,rfl⟩:=List.mem_iff_getElem.1 hy;rw[List.length_modify] at ha;have hb:=zAx (h.kids _ (yO ha)) hc (Ne.symm hne) (i*5+j) u;rw[List.getElem_modify]
  split
  ·simp only[hk];exact hb
  ·exact hb
 ·rw[List.length_modify] at ha hb
  have e:∀(a:Nat) (ha:a<nh.length),((nh.modify i fun x=>(f x.1,x.2))[a]'(by rw[List.length_modify]; exact ha)).2.1=nh[a].2.1:=fun a ha=>by
   rw[List.getElem_modify]; split <;> rfl
  rw[e a ha,e b hb] at he;rw[e a ha] at hn;exact h.apart a b ha hb he hn
 ·obtain⟨a,ha,rfl⟩:=List.mem_iff_getElem.1 hy;rw[List.length_modify] at ha;rw[List.getElem_modify] at h0 ⊢
  split
  ·rename_i hia;rw[if_pos hia] at h0;simp only[hk] at h0;exact h.kz nh[a] (yO ha) h0
  ·rename_i hia;rw[if_neg hia] at h0;exact h.kz _ (yO ha) h0
theorem zRF {A:Option Addr}{nh:List (Nd × Hd2)}(i:Nat)(f:Nd→Nd)(b:Nat)(hb:zHc A (nh.modify i fun x=>(f x.1,x.2)) b):zHc A nh b:=by
 rcases hb with hb | hb
 ·exact .inl hb
 ·refine .inr ?_;obtain⟨x,hx,e⟩:=List.mem_map.1 hb;obtain⟨a,ha,rfl⟩:=List.mem_iff_getElem.1 hx;rw[List.length_modify] at ha;rw[List.getElem_modify] at e;refine List.mem_map.2 ⟨nh[a],yO ha,?_⟩
  split at e <;> exact e
theorem NS.kid {W w1:World}{B:Nat}{tn ti:TypeId}{A:Option Addr}{c:Nat}{nh:List (Nd × Hd2)}(h:NS W B tn ti A c nh)(hne:tn≠ti)(i:Nat)(hi:i<nh.length)(k:Nat){g gk cap:Nat}(hA:A=some ⟨g,0,none⟩)
  (ho:w1.ownsRow B ti 1 (.slice (some ⟨gk,0,none⟩) (nh[i].1.kids.length+1) cap) (nh[i].1.kids.length+1) (ints nh[i].1.kids++[.int .i64 (k:Int)])) (hg:W.grownBy w1 (Value.slice nh[i].2.1 nh[i].1.kids.length nh[i].2.2).ownBlock)
  (hf:(Value.slice nh[i].2.1 nh[i].1.kids.length nh[i].2.2).ownBlock=some gk∨W.heap.size≤gk) :
  NS (w1.setCell ⟨g,i*5+4,none⟩ (.slice (some ⟨gk,0,none⟩) (nh[i].1.kids.length+1) cap)) B tn ti A c (nh.modify i fun x=>({ x.1 with kids:=x.1.kids++[k] },(some ⟨gk,0,none⟩,cap))):=by
 subst hA
 have hrow:=zFC h.row hg fun b e e2=>by
  have e3:=xO (h.kids _ (yO hi)) e2;obtain⟨c1,h1⟩:=xY h.row e;obtain⟨c2,h2⟩:=xY (h.kids _ (yO hi)) e3;exact Blk.differ h1 h2 hne rfl
 obtain⟨cur,hc⟩:=xY hrow rfl;refine⟨?_,fun y hy=>?_,fun a b ha hb he hn=>?_,fun h0=>h.rz (by rw[List.length_modify] at h0; exact h0),fun y hy h0=>?_⟩
 ·rw[List.length_modify,zIo nh i hi 4 (by decide) (.slice (some ⟨gk,0,none⟩) (nh[i].1.kids.length+1) cap) _ (by simp[YO])];exact zHU hrow (by omega) _
 ·obtain⟨a,ha,rfl⟩:=List.mem_iff_getElem.1 hy;rw[List.length_modify] at ha;rw[List.getElem_modify]
  split
  ·rename_i hia;subst hia;have hb:=zAx ho hc (Ne.symm hne) (i*5+4) (.slice (some ⟨gk,0,none⟩) (nh[i].1.kids.length+1) cap);rw[←zPL] at hb;simp only[yP,zK,zL,Nat.zero_add];exact hb
  ·rename_i hia;refine zAx (zFC (h.kids _ (yO ha)) hg fun b e e2=>?_) hc (Ne.symm hne) _ _;have e3:=xO (h.kids _ (yO hi)) e2;exact hia (h.apart i a hi ha (e3.trans e.symm) (by rw[e3]; simp))
 ·rw[List.length_modify] at ha hb
  have key:∀(a:Nat) (ha:a<nh.length),i≠a→nh[a].2.1≠some ⟨gk,0,none⟩:=by
   intro a ha hia e
   rcases hf with hf | hf
   ·have e3:=xO (h.kids _ (yO hi)) hf;exact hia (h.apart i a hi ha (e3.trans e.symm) (by rw[e3]; simp))
   ·have:=(jD (h.kids _ (yO ha)) e).2
    omega
  rw[List.getElem_modify,List.getElem_modify] at he;rw[List.getElem_modify] at hn
  split at he <;> split at he
  ·omega
  ·rename_i h1 h2;exact absurd he.symm (key b hb h2)
  ·rename_i h1 h2;exact absurd he (key a ha h1)
  ·rename_i h1 h2;rw[if_neg h1] at hn;exact h.apart a b ha hb he hn
 ·obtain⟨a,ha,rfl⟩:=List.mem_iff_getElem.1 hy;rw[List.length_modify] at ha;rw[List.getElem_modify] at h0 ⊢
  split
  ·rename_i hia;rw[if_pos hia] at h0
   simp at h0
  ·rename_i hia;rw[if_neg hia] at h0;exact h.kz _ (yO ha) h0
theorem zRv {W:World}{B:Nat}{tn ti:TypeId}{A:Option Addr}{c:Nat}{nh:List (Nd × Hd2)}(h:NS W B tn ti A c nh){i:Nat}(hi:i<nh.length)(f:Nd→Nd){gk cap:Nat}
  (hf:(Value.slice nh[i].2.1 nh[i].1.kids.length nh[i].2.2).ownBlock=some gk∨W.heap.size≤gk) (b:Nat) (hb:zHc A (nh.modify i fun x=>(f x.1,(some ⟨gk,0,none⟩,cap))) b):zHc A nh b∨W.heap.size≤b:=by
 rcases hb with hb | hb
 ·exact .inl (.inl hb)
 ·obtain⟨x,hx,e⟩:=List.mem_map.1 hb;obtain⟨a,ha,rfl⟩:=List.mem_iff_getElem.1 hx;rw[List.length_modify] at ha;rw[List.getElem_modify] at e
  split at e
  ·injection e with e;injection e with e;subst e
   rcases hf with hf | hf
   ·exact .inl (.inr (List.mem_map.2 ⟨nh[i],yO hi,xO (h.kids _ (yO hi)) hf⟩))
   ·exact .inr hf
  ·exact .inl (.inr (List.mem_map.2 ⟨nh[a],yO ha,e⟩))
def zT4:Value→Option (DataW Value × List MemPlace):=fun v=>some (.held v,[])
def MF (P:Program)(kt:TypeId)(w:World)(b n:Nat)(f:Bs→Option Value):Prop:=
 ∃D:DataW Value,w.ownsMap P kt zT4 b n D∧Maps.IsMap D∧∀k:Bs,Maps.has D (.string k)=(f k).isSome∧∀z,D.atKey (.string k) (.held z)=.held ((f k).getD z)
section
variable {P:Program} {kt:TypeId} {w w':World} {b n:Nat} {f:Bs→Option Value}
theorem MF.lt (h:MF P kt w b n f):b<w.heap.size:=let ⟨_,h1,_⟩:=h; h1.lt
theorem MF.jK (h:MF P kt w b n f)(hk:w'.heap[b]?=w.heap[b]?):MF P kt w' b n f:=by
 obtain⟨D,⟨es,clock,hb,r⟩,h2⟩:=h;exact⟨D,⟨es,clock,hk.trans hb,r⟩,h2⟩
theorem MF.mono (h:MF P kt w b n f){m:Nat}(hm:n≤m):MF P kt w b m f:=let ⟨D,h1,h2⟩:=h; ⟨D,h1.mono hm,h2⟩
theorem MF.ext (h:MF P kt w b n f)(hx:Ext w w'):MF P kt w' b n f:=h.jK (hx.block b h.lt)
theorem MF.congr (h:MF P kt w b n f){g:Bs→Option Value}(e:∀k,g k=f k):MF P kt w b n g:=by rw[show g=f from funext e]; exact h
theorem MF.isMap (h:MF P kt w b n f):∃es clock,w.heap[b]?=some (.map es clock):=let ⟨_,⟨es,clock,hb,_⟩,_⟩:=h; ⟨es,clock,hb⟩
theorem MF.ne (h:MF P kt w b n f){g:Nat}{t:TypeId}{cs:Array Value}(hg:Blk w g t cs):b≠g:=by
 rintro rfl;obtain⟨es,clock,hb⟩:=h.isMap
 have:=hg.symm.trans hb
 cases this
theorem MF.new (w:World):MF P kt (w.alloc (.map #[] 0)) w.heap.size 0 fun _=>none:=
 ⟨.map [],World.ownsMap_made w P kt zT4,Maps.isMap_empty,fun k=>⟨rfl,fun z=>rfl⟩⟩
theorem MF.get {t e:TypeId}(h:MF P kt w b n f)(hk:P.underlying kt=some .string)(ht:P.underlying t=some (.map kt e)){z:Value}(hz:(zeroValue e).run P w=.ok z w)(k:Bs)(hl:k.length≤maxLen) :
  (Instr.lookup t (.map (some b)) (.string (xH k)) true).run P w=.ok (.tuple #[(f k).getD z,.bool (f k).isSome]) w:=by
 obtain⟨D,h1,h2,h3⟩:=h;have hkey:keyOf P kt (.string (xH k))=some (.string k):=WideMaps.keyOf_string_mk hk (s:=xH k) hl;obtain⟨v,ps,hrun,hv⟩:=h1.look_ok (Maps.string_keyed hk) ht hz (zd:=.held z) (zp:=[]) rfl hkey
 have e1:DataW.held v=.held ((f k).getD z):=by
  rw[←(h3 k).2 z];exact congrArg Prod.fst (Option.some.inj hv)
 injection e1 with e1;rw[hrun,(h3 k).1,e1]
theorem MF.put {t e:TypeId}(h:MF P kt w b n f)(hk:P.underlying kt=some .string)(ht:P.underlying t=some (.map kt e))(hn:n<maxLen)(k:Bs)(hl:k.length≤maxLen)(v:Value) :
  ∃w',(Instr.mapUpdate t (.map (some b)) (.string (xH k)) v).run P w=.ok () w'∧MF P kt w' b (n+1) (fun x=>if x=k then some v else f x)∧w.grownBy w' (some b)∧w'.heap.size=w.heap.size:=by
 obtain⟨D,h1,h2,h3⟩:=h;have hkey:keyOf P kt (.string (xH k))=some (.string k):=WideMaps.keyOf_string_mk hk (s:=xH k) hl;have hlit:WideAt.IsKeyLit (.string k):=(Maps.string_keyed hk).key hkey;obtain⟨w',hrun,r1,r2⟩:=h1.store (Maps.string_keyed hk) ht hn (d:=.held v) (ps:=[]) hkey rfl;refine⟨w',hrun,⟨_,r1,h2.put _ _,fun x=>?_⟩,r2.grown,?_⟩
 ·by_cases hx:x=k
  ·subst hx;simp only[if_true];exact⟨Maps.has_put_same h2 hlit _,fun z=>Maps.atKey_put_same h2 hlit _ _⟩
  ·simp only[if_neg hx];have hne:Lit.string x≠Lit.string k:=fun e=>hx (by injection e);exact⟨(Maps.has_put_other hne _).trans (h3 x).1,fun z=>(Maps.atKey_put_other hne _ _).trans ((h3 x).2 z)⟩
 ·obtain⟨es,clock,es',clock',hb,rfl⟩:=r2;simp[Go.ChangeMaps.setBlock]
end
section
variable {P:Program} {ops:Array Oper} {rest:List Oper} {o:Oper} {a:Act} {w:World} {Q:Exit→Act→World→Prop}
theorem zFc (hg:o.guard=none)(m x v:Operand)(t:TypeId)(hop:o.op=Op.mapUpdate t m x v){kt e:TypeId}(hk:P.underlying kt=some .string)(ht:P.underlying t=some (.map kt e))
  (b n:Nat) (f:Bs→Option Value) (k:Bs) (u:Value) (hm:a.eval m=.map (some b)) (hx:a.eval x=.string (xH k)) (hv:a.eval v=u) (h:MF P kt w b n f) (hn:n<maxLen) (hl:k.length≤maxLen)
  (hK:∀w',MF P kt w' b (n+1) (fun y=>if y=k then some u else f y)→w.grownBy w' (some b)→w'.heap.size=w.heap.size→wpList P ops Q rest (a.put o.dst undef) w'):wpList P ops Q (o::rest) a w:=by
 refine wpList_plain hg fun K' hK'=>?_;obtain⟨w',hrun,r1,r2,r3⟩:=h.put hk ht hn k hl u;unfold Oper.wp;simp[execOp,hop,hm,hx,hv,hrun,Result.andThen];exact hK' _ _ (hK w' r1 r2 r3)
end
end Go.Proofs.YtbadjmmjbpeocaaGreat
