/- The document's reading of statements, as plain Lean: it answers as the plain reading. (and what follows of it). The conditions stand at each lemma. -/
import Derived.Test.YtioffpjajhalaaaGreatDoorKaa
import Derived.Test.YtioffpjajhalaaaGreatDoorKaz
import Derived.Test.YtioffpjajhalaaaGreatDoorKag
import Derived.Test.YtioffpjajhalaaaGreatDoorKah
import Derived.Deep.QuietTactic
set_option linter.unusedVariables false
set_option linter.unusedSimpArgs false
set_option maxRecDepth 100000
set_option maxHeartbeats 16000000
namespace Go.Proofs.YtioffpjajhalaaaGreatDoor
def YO (i:Nat)(r:Rs):Rs:=if r.is [91]=true then (if r.inn.e=0 then (xD [93] (vU i r.inn.adv)).out else r.inn.fail 50) else r.fail 50
def zAj (i:Nat)(r:Rs):Rs:=YO r.s.nd.length (xM r.s.nd.length (r.yX i 20))
def VL (one:Rs→Rs):Nat→Rs→Rs
 | 0,r=>r
 | f+1,r=>if r.is [44]=true then VL one f (one r.adv) else r
def zCO (one:Rs→Rs)(r:Rs):Rs:=VL one ((one r).s.ts.length+1) (one r)
def zDu (i:Nat)(r:Rs):Rs:=vW i (xD [46] (zAj i r))
def zEj (i:Nat)(r:Rs):Rs:=let q:=zDu i (xD [61] (xM i r))
 if q.is [102,111,114]=true then (xD [117,112,100,97,116,101] q.adv).num i 1 else q
def zSZ (i:Nat)(r:Rs):Rs:=vU i (xD [61] (zDu i r))
def zFa (i:Nat)(r:Rs):Rs:=xD [41] (zCO (vU i) (xD [40] (zAj i r)))
def zNJ (i:Nat)(r:Rs):Rs:=vW i (xD [46] (vW i (xD [61] (xM i r))))
def zEp (i:Nat)(r:Rs):Rs:=let q:=vW i r
 if q.is [97,108,108]=true then (q.num i 1).adv else xD [115,104,97,114,101,100] q
def VX (i:Nat)(r:Rs):Rs:=let q:=xM r.s.nd.length (r.yX i 5)
 if q.is [91]=true then YO r.s.nd.length (q.kind r.s.nd.length 20) else q
def zFy (i:Nat)(r:Rs):Rs:=if r.is [61,61]=true then (r.num i 1).adv else xD [60] r
def zSL (i:Nat)(r:Rs):Rs:=vU i (xD [61] (xM i r))
theorem zGT (i:Nat):ZU (zCI i) (YO i):=by
 refine⟨fun r hr=>?_,fun s hs=>?_⟩
 ·unfold YO;rw[if_neg (by rw[zE4 hr]; decide)];exact zDL 50 r hr
 ·unfold YO zCI;rw[zBf]
  by_cases h:isP [91] s=true
  ·rw[if_pos h];refine zIX h (fun hd=>?_) (fun hd=>?_)
   ·rw[zGs hd,if_neg (show ¬((51:Int)=0) by decide)];exact⟨rfl,rfl⟩
   ·rw[zGm hs hd,if_pos rfl];have ea:(⟨{ s with deep:=s.deep+1 },0⟩:Rs).adv=⟨{ s.adv with deep:=s.deep+1 },0⟩:=rfl;rw[ea];exact⟨_,(zAP i).live { s.adv with deep:=s.deep+1 } (by show s.deep+1≤64; omega),by rw[if_neg (by decide)]⟩
  ·rw[if_neg h];unfold vR;rw[if_neg h];exact fun _=>⟨rfl,rfl⟩
theorem ZU.node {m:Pm Unit}{M:Rs→Rs}(h:ZU m M)(i k:Nat):zOA (fun r=>M (r.yX i k))∧∀s,s.deep≤64→zDU s (m (s.yX i k)) (M ((⟨s,0⟩:Rs).yX i k)):=
 ⟨fun r hr=>h.dead (r.yX i k) hr,fun s hs=>h.live (s.yX i k) hs⟩
theorem zG6 (i:Nat):ZU (zG9 i) (zAj i):=by
 refine⟨fun r hr=>?_,fun s hs=>?_⟩
 ·exact((XI r.s.nd.length).bind (zGT r.s.nd.length)).dead (r.yX i 20) hr
 ·exact((XI s.nd.length).bind (zGT s.nd.length)).live (s.yX i 20) hs
theorem zFO {O:Rs→Rs}:∀(f:Nat) (r:Rs),r.e≠0→(VL O f r).e=r.e∧(VL O f r).s.ts=r.s.ts
 | 0,r,_=>⟨rfl,rfl⟩
 | f+1,r,hr=>by unfold VL; rw[if_neg (by rw[zE4 hr]; decide)]; exact⟨rfl,rfl⟩
theorem zKZ {one:Pm Unit}{O:Rs→Rs}(h:ZU one O):∀(f:Nat) (s:Ps),s.deep≤64→zDU s (zAG one f s) (VL O f ⟨s,0⟩)
 | 0,s,_=>fun he=>absurd rfl he
 | f+1,s,hs=>by
  unfold zAG VL;rw[zBf]
  split
  ·refine Fits.bind (N:=VL O f) (h.live s.adv hs) (fun hr=>?_) fun _ t _ hd hr=>?_
   ·exact zFO f _ hr
   ·rw[hr];exact zKZ h f t (by rw[hd]; exact hs)
  ·exact⟨rfl,rfl,trivial⟩
theorem zFC {one:Pm Unit}{O:Rs→Rs}(h:ZU one O):ZU (XV one) (zCO O):=by
 refine⟨fun r hr=>?_,fun s hs=>?_⟩
 ·unfold zCO;obtain⟨h1,h2⟩:=h.dead r hr;obtain⟨k1,k2⟩:=zFO (O:=O) ((O r).s.ts.length+1) (O r) (by rw[h1]; exact hr);exact⟨k1.trans h1,k2.trans h2⟩
 ·unfold XV zCO;refine Fits.bind (N:=fun q=>VL O (q.s.ts.length+1) q) (h.live s hs) (fun hr=>zFO _ _ hr) fun _ t _ hd hr=>?_;rw[hr];exact zKZ h _ t (by rw[hd]; exact hs)
theorem zJt (i:Nat):ZU (zGF i) (zDu i):=(zG6 i).bind ((jE _).bind (zBv i))
theorem zRr (i:Nat)(x:Int):ZU (fun s=>.ok () (s.num i x)) (fun r=>r.num i x):=⟨fun r _=>⟨rfl,rfl⟩,fun s _=>⟨rfl,rfl,trivial⟩⟩
theorem zCU {a b:Pm Unit}{A B:Rs→Rs}(t:Bs)(ha:∀s,s.deep≤64→isP t s=true→zDU s (a s) (A ⟨s,0⟩))(hb:ZU b B):ZU (fun s=>if isP t s=true then a s else b s) (fun r=>if r.is t=true then A r else B r):=by
 refine⟨fun r hr=>?_,fun s hs=>?_⟩
 ·show(if r.is t=true then A r else B r).e=_∧(if r.is t=true then A r else B r).s.ts=_
  rw[if_neg (by rw[zE4 hr]; decide)];exact hb.dead r hr
 ·show zDU s (if isP t s=true then a s else b s) (if (⟨s,0⟩:Rs).is t=true then A ⟨s,0⟩ else B ⟨s,0⟩)
  rw[zBf]
  split
  ·exact ha s hs (by assumption)
  ·exact hb.live s hs
theorem zEF:ZU (fun s=>.ok () s) (fun r=>r):=⟨fun r _=>⟨rfl,rfl⟩,fun s _=>⟨rfl,rfl,trivial⟩⟩
theorem zR0 {m:Pm Unit}{M:Rs→Rs}(h:ZU m M)(s:Ps)(hs:s.deep≤64):zDU s (m s.adv) (M (⟨s,0⟩:Rs).adv):=h.live s.adv hs
theorem zOl (i:Nat):ZU (zGC i) (zEj i):=(XI i).bind ((jE _).bind ((zJt i).bind
 (zCU (a:=fun s=>(xY [117,112,100,97,116,101] s.adv).bind fun _ t=>.ok () (t.num i 1)) (A:=fun r=>(xD [117,112,100,97,116,101] r.adv).num i 1) [102,111,114] (fun s hs _=>zR0 ((jE [117,112,100,97,116,101]).bind (zRr i 1)) s hs) zEF)))
theorem zQf (i:Nat):ZU (zL2 i) (zSZ i):=(zJt i).bind ((jE _).bind (zAP i))
theorem zL7 (i:Nat):ZU (zCu i) (zFa i):=(zG6 i).bind ((jE _).bind ((zFC (zAP i)).bind (jE _)))
theorem zOi (i:Nat):ZU (zF5 i) (zNJ i):=(XI i).bind ((jE _).bind ((zBv i).bind ((jE _).bind (zBv i))))
theorem zNZ (i:Nat):ZU (zGg i) (zEp i):=(zBv i).bind (zCU (a:=fun s=>.ok () (s.adv.num i 1)) (A:=fun r=>(r.num i 1).adv) [97,108,108] (fun s hs _=>⟨rfl,rfl,trivial⟩) (jE _))
theorem zKu (i:Nat):ZU (zBh i) (VX i):=by
 have h:∀n,ZU (fun s=>(jC n s).bind fun _ t=>if isP [91] t=true then zCI n (t.kind n 20) else .ok () t) (fun r=>let q:=xM n r; if q.is [91]=true then YO n (q.kind n 20) else q):=fun n=>
  (XI n).bind (zCU (a:=fun s=>zCI n (s.kind n 20)) (A:=fun r=>YO n (r.kind n 20)) [91] (fun s hs _=>(zGT n).live (s.kind n 20) hs) zEF)
 refine⟨fun r hr=>?_,fun s hs=>?_⟩
 ·exact(h r.s.nd.length).dead (r.yX i 5) hr
 ·exact(h s.nd.length).live (s.yX i 5) hs
theorem zOD (i:Nat):ZU (zCR i) (zFy i):=zCU (a:=fun s=>.ok () (s.adv.num i 1)) (A:=fun r=>(r.num i 1).adv) [61,61] (fun s hs _=>⟨rfl,rfl,trivial⟩) (jE _)
theorem zRj (i:Nat):ZU (zLF i) (zSL i):=(XI i).bind ((jE _).bind (zAP i))
def XA (st:Nat→Rs→Rs)(i:Nat):Nat→Rs→Rs
 | 0,r=>r
 | f+1,r=>if (r.e==0 && !r.is [125])=true then XA st i f (st i r) else r
def ZI (st:Nat→Rs→Rs)(i:Nat)(r:Rs):Rs:=let q:=r.yX i 6
 if q.is [123]=true then (if q.inn.e=0 then (xD [125] (XA st r.s.nd.length (q.inn.adv.s.ts.length+1) q.inn.adv)).out else q.inn.fail 50) else q.fail 50
def zDi (st:Nat→Rs→Rs)(i:Nat)(r:Rs):Rs:=if r.is [101,108,115,101]=true then ZI st i r.adv else r
def XT (st:Nat→Rs→Rs)(i:Nat)(r:Rs):Rs:=zDi st i (ZI st i (vU i (zFy i (vU i r))))
def zKc (st:Nat→Rs→Rs)(i:Nat)(r:Rs):Rs:=ZI st i (zAi i (xD [116,111] (zAi i (xD [61] (xM i r)))))
def zJi (st:Nat→Rs→Rs)(k i:Nat):Rs→Rs:=
 if k=7 then zEj i else if k=8 then zSZ i else if k=9 then zFa i else if k=10 then zAj i else if k=11 then zNJ i
 else if k=12 then zEp i else if k=13 then VX i else if k=14 then XT st i else if k=15 then zKc st i else if k=16 then zSL i
 else if k=17 then vU i else fun r=>r
def xV:Nat→Nat→Rs→Rs
 | 0,_,r=>r
 | f+1,i,r=>match (if r.s.hd.kind=1 then vP r.s.hd.text else none) with
  | none=>r.fail 50
  | some k=>let q:=zJi (xV f) k r.s.nd.length (r.yX i k).adv
   if k=14∨k=15 then q else xD [59] q
def zKi (st:Nat→Pm Unit)(ST:Nat→Rs→Rs):Prop:=∀i s,s.deep≤64→zDU s (st i s) (ST i ⟨s,0⟩)
theorem zHG {ST:Nat→Rs→Rs}(i:Nat):∀(f:Nat) (r:Rs),r.e≠0→XA ST i f r=r
 | 0,r,_=>rfl
 | f+1,r,h=>by unfold XA; rw[beq_eq_false_iff_ne.2 h,Bool.false_and,if_neg (by decide)]
theorem zKa {st:Nat→Pm Unit}{ST:Nat→Rs→Rs}(h:zKi st ST)(i:Nat):∀(f:Nat) (s:Ps),s.deep≤64→zDU s (YF st i f s) (XA ST i f ⟨s,0⟩)
 | 0,s,_=>fun he=>absurd rfl he
 | f+1,s,hs=>by
  unfold YF XA;rw[zBf]
  by_cases hp:isP [125] s=true
  ·rw[if_pos hp,hp,if_neg (by simp)];exact⟨rfl,rfl,trivial⟩
  ·rw[if_neg hp,if_pos (by simp[hp])];refine Fits.bind (N:=XA ST i f) (h i s hs) (fun hr=>?_) fun _ t _ hd hr=>?_
   ·rw[zHG i f _ hr]; exact⟨rfl,rfl⟩
   ·rw[hr]; exact zKa h i f t (by rw[hd]; exact hs)
theorem zB4 {st:Nat→Pm Unit}{ST:Nat→Rs→Rs}(h:zKi st ST)(i:Nat):ZU (ZC st i) (ZI ST i):=by
 refine⟨fun r hr=>?_,fun s hs=>?_⟩
 ·unfold ZI;have hq:(r.yX i 6).e≠0:=hr
  dsimp only
  rw[if_neg (by rw[zE4 hq]; decide)];exact zDL 50 (r.yX i 6) hq
 ·unfold ZI ZC;have eq:(⟨s,0⟩:Rs).yX i 6=⟨s.yX i 6,0⟩:=rfl
  dsimp only
  rw[eq,zBf];have AB:(s.yX i 6).deep≤64:=hs;have AC:(s.yX i 6).deep=s.deep:=rfl
  have AA:∀u:Ps,u.deep≤64→zDU u (vR [123] [125] (fun t=>YF st s.nd.length (t.ts.length+1) t) u) (if isP [123] u=true then (if (⟨u,0⟩:Rs).inn.e=0 then (xD [125] (XA ST s.nd.length ((⟨u,0⟩:Rs).inn.adv.s.ts.length+1) (⟨u,0⟩:Rs).inn.adv)).out else (⟨u,0⟩:Rs).inn.fail 50) else (⟨u,0⟩:Rs).fail 50):=by
   intro u hu
   by_cases hb:isP [123] u=true
   ·rw[if_pos hb];refine zIX hb (fun hd=>?_) (fun hd=>?_)
    ·rw[zGs hd,if_neg (show ¬((51:Int)=0) by decide)];exact⟨rfl,rfl⟩
    ·rw[zGm hu hd,if_pos rfl];have ea:(⟨{ u with deep:=u.deep+1 },0⟩:Rs).adv=⟨{ u.adv with deep:=u.deep+1 },0⟩:=rfl;rw[ea];exact⟨_,zKa h s.nd.length _ { u.adv with deep:=u.deep+1 } (by show u.deep+1≤64; omega),by rw[if_neg (by decide)]⟩
   ·rw[if_neg hb];unfold vR;rw[if_neg hb];exact fun _=>⟨rfl,rfl⟩
  exact AA (s.yX i 6) AB
theorem zPd {st:Nat→Pm Unit}{ST:Nat→Rs→Rs}(h:zKi st ST)(i:Nat):ZU (zAR st i) (zDi ST i):=
 zCU (a:=fun s=>ZC st i s.adv) (A:=fun r=>ZI ST i r.adv) [101,108,115,101] (fun s hs _=>(zB4 h i).live s.adv hs) zEF
theorem zLK {st:Nat→Pm Unit}{ST:Nat→Rs→Rs}(h:zKi st ST)(i:Nat):ZU (zBi st i) (XT ST i):=(zAP i).bind ((zOD i).bind ((zAP i).bind ((zB4 h i).bind (zPd h i))))
theorem zN8 {st:Nat→Pm Unit}{ST:Nat→Rs→Rs}(h:zKi st ST)(i:Nat):ZU (zD7 st i) (zKc ST i):=(XI i).bind ((jE _).bind ((zF4 i).bind ((jE _).bind ((zF4 i).bind (zB4 h i)))))
theorem VA {c:Prop} [Decidable c] {a b:Pm Unit}{A B:Rs→Rs}(ha:ZU a A)(hb:ZU b B):ZU (if c then a else b) (if c then A else B):=by
 by_cases h:c
 ·rw[if_pos h,if_pos h]; exact ha
 ·rw[if_neg h,if_neg h]; exact hb
theorem zNs {st:Nat→Pm Unit}{ST:Nat→Rs→Rs}(h:zKi st ST)(k i:Nat):ZU (JB st k i) (zJi ST k i):=
 VA (zOl i) (VA (zQf i) (VA (zL7 i) (VA (zG6 i) (VA (zOi i) (VA (zNZ i) (VA (zKu i)
  (VA (zLK h i) (VA (zN8 h i) (VA (zRj i) (VA (zAP i) zEF))))))))))
theorem zGY:∀f,zKi (YK f) (xV f)
 | 0=>fun i s _ he=>absurd rfl he
 | f+1=>fun i s hs=>by
  have ih:=zGY f;unfold YK xV
  show zDU s (match (if s.hd.kind=1 then vP s.hd.text else none) with
   | none=>.err 50 s.hd.at_
   | some k=>(JB (YK f) k s.nd.length (s.yX i k).adv).bind fun _ s=>if k=14∨k=15 then .ok () s else xY [59] s) (match (if s.hd.kind=1 then vP s.hd.text else none) with
   | none=>(⟨s,0⟩:Rs).fail 50
   | some k=>let q:=zJi (xV f) k s.nd.length ((⟨s,0⟩:Rs).yX i k).adv; if k=14∨k=15 then q else xD [59] q)
  cases (if s.hd.kind=1 then vP s.hd.text else none) with
  | none=>exact fun _=>⟨rfl,rfl⟩
  | some k=>
   have h1:=(zNs ih k s.nd.length).live (s.yX i k).adv hs
   by_cases hk:k=14∨k=15
   ·have h2:=Fits.bind (N:=fun r=>r) (f:=fun _ s=>.ok () s) (B:=fun _=>True) h1 (fun _=>⟨rfl,rfl⟩) fun _ t _ hd hr=>by rw[hr]; exact⟨rfl,rfl,trivial⟩
    simp only[if_pos hk];exact h2
   ·have h2:=Fits.bind (N:=xD [59]) (f:=fun _ s=>xY [59] s) (B:=fun _=>True) h1 (fun hr=>(jE [59]).dead _ hr) fun _ t _ hd hr=>by rw[hr]; exact(jE [59]).live t (by rw[hd]; exact hs)
    simp only[if_neg hk];exact h2
def zD9 (i:Nat)(r:Rs):Rs:=ZI (xV r.s.ts.length) i r
def zEs (i:Nat)(r:Rs):Rs:=xD [59] (xD [41] (zCO (vW r.s.nd.length) (xD [40] (xM r.s.nd.length (r.yX i 2).adv))))
def zB5 (i:Nat)(r:Rs):Rs:=let q:=r.yX i 4; if q.is [41]=true then q else zCO (vW r.s.nd.length) q
def singleR (i:Nat)(r:Rs):Rs:=if r.is [115,105,110,103,108,101]=true then (r.num i 1).adv else r
def zEK (i:Nat)(r:Rs):Rs:=zD9 r.s.nd.length (singleR r.s.nd.length (xD [41] (zB5 r.s.nd.length (xD [40] (xM r.s.nd.length (r.yX i 3).adv)))))
def YX:Nat→Rs→Rs
 | 0,r=>r
 | f+1,r=>if (r.e==0&&r.s.hd.kind != 4)=true then
   (if r.is [116,97,98,108,101]=true then YX f (zEs 0 r) else if r.is [112,114,111,99]=true then YX f (zEK 0 r) else YX f (r.fail 50))
  else r
theorem zLG (i:Nat):ZU (VN i) (zD9 i):=by
 refine⟨fun r hr=>?_,fun s hs=>?_⟩
 ·exact(zB4 (zGY r.s.ts.length) i).dead r hr
 ·exact(zB4 (zGY s.ts.length) i).live s hs
theorem zMu (i:Nat):ZU (YE i) (singleR i):=zCU (a:=fun s=>.ok () (s.adv.num i 1)) (A:=fun r=>(r.num i 1).adv) [115,105,110,103,108,101] (fun s hs _=>⟨rfl,rfl,trivial⟩) zEF
theorem zMR (i:Nat):ZU (VG i) (zB5 i):=by
 have h:∀n,ZU (fun t=>if isP [41] t=true then .ok () t else XV (JA n) t) (fun q=>if q.is [41]=true then q else zCO (vW n) q):=fun n=>
  zCU (a:=fun s=>.ok () s) (A:=fun r=>r) [41] (fun s hs _=>⟨rfl,rfl,trivial⟩) (zFC (zBv n))
 refine⟨fun r hr=>?_,fun s hs=>?_⟩
 ·exact(h r.s.nd.length).dead (r.yX i 4) hr
 ·exact(h s.nd.length).live (s.yX i 4) hs
theorem zOd (i:Nat)(s:Ps)(hs:s.deep≤64)(hw:isP [116,97,98,108,101] s=true):zDU s (zBb i s) (zEs i ⟨s,0⟩):=by
 unfold zBb
 have ht:xY [116,97,98,108,101] (s.yX i 2)=.ok () (s.yX i 2).adv:=by unfold xY; rw[if_pos]; exact hw
 rw[ht,JJ];exact((XI s.nd.length).bind ((jE _).bind ((zFC (zBv s.nd.length)).bind ((jE _).bind (jE _))))).live (s.yX i 2).adv hs
theorem zPZ (i:Nat)(s:Ps)(hs:s.deep≤64)(hw:isP [112,114,111,99] s=true):zDU s (zCS i s) (zEK i ⟨s,0⟩):=by
 unfold zCS
 have ht:xY [112,114,111,99] (s.yX i 3)=.ok () (s.yX i 3).adv:=by unfold xY; rw[if_pos]; exact hw
 rw[ht,JJ];exact((XI s.nd.length).bind ((jE _).bind ((zMR s.nd.length).bind ((jE _).bind ((zMu s.nd.length).bind (zLG s.nd.length)))))).live (s.yX i 3).adv hs
theorem zC7:∀(f:Nat) (r:Rs),r.e≠0→YX f r=r
 | 0,r,_=>rfl
 | f+1,r,h=>by unfold YX; rw[beq_eq_false_iff_ne.2 h,Bool.false_and,if_neg (by decide)]
theorem zFJ:∀(f:Nat) (s:Ps),s.deep≤64→zDU s (jT f s) (YX f ⟨s,0⟩)
 | 0,s,_=>fun he=>absurd rfl he
 | f+1,s,hs=>by
  unfold jT YX;rw[zBf,zBf];have e0:((⟨s,0⟩:Rs).e==0&&(⟨s,0⟩:Rs).s.hd.kind != 4)=(s.hd.kind != 4):=rfl;rw[e0]
  by_cases hk:s.hd.kind=4
  ·rw[if_pos hk,if_neg (by rw[hk]; decide)];exact⟨rfl,rfl,trivial⟩
  ·rw[if_neg hk,if_pos (bne_iff_ne.2 hk)]
   by_cases ht:isP [116,97,98,108,101] s=true
   ·rw[if_pos ht,if_pos ht];refine Fits.bind (N:=YX f) (zOd 0 s hs ht) (fun hr=>by rw[zC7 f _ hr]; exact⟨rfl,rfl⟩) fun _ t _ hd hr=>?_;rw[hr];exact zFJ f t (by rw[hd]; exact hs)
   ·rw[if_neg ht,if_neg ht]
    by_cases hp:isP [112,114,111,99] s=true
    ·rw[if_pos hp,if_pos hp];refine Fits.bind (N:=YX f) (zPZ 0 s hs hp) (fun hr=>by rw[zC7 f _ hr]; exact⟨rfl,rfl⟩) fun _ t _ hd hr=>?_;rw[hr];exact zFJ f t (by rw[hd]; exact hs)
    ·rw[if_neg hp,if_neg hp,zC7 f _ (show((50:Int)≠0) by decide)];exact fun _=>⟨rfl,rfl⟩
def zD5 (ts:List Tok):zGS:=let r:=YX (ts.length+1) ⟨(⟨ts,[],0⟩:Ps).node 1,0⟩
 if r.e=0 then .ok r.s.nd else .err r.s.hd.at_ r.e
theorem zJI {ts:List Tok}(h:Lst ⟨ts,[],0⟩):zD5 ts=XF ts:=by
 unfold zD5 XF zDO;have h1:=zFJ (ts.length+1) ((⟨ts,[],0⟩:Ps).node 1) (zT _);have h2:=zE6 (ts.length+1) ((⟨ts,[],0⟩:Ps).node 1) h (Nat.lt_succ_self _)
 dsimp only
 cases hw:jT (ts.length+1) ((⟨ts,[],0⟩:Ps).node 1) with
 | ok a s=>
  rw[hw] at h1;obtain⟨a1,_,_⟩:=h1;rw[a1,if_pos rfl]
 | err e p=>
  rw[hw] at h1 h2
  have he:e≠0:=by
   obtain⟨h3,_⟩:=h2
   rcases h3 with rfl | rfl <;> decide
  obtain⟨a1,a2⟩:=h1 he;rw[a1,a2,if_neg he]
structure XW (r:Rs):Prop where
 last:Lst r.s
 deep:r.s.deep≤65
 live:r.e=0→r.s.deep≤64
 few:∀n ∈ r.s.nd,n.kids.length≤r.s.nd.length
def Rs.phi (r:Rs):Int:=(r.s.nd.length:Int)+16*(r.s.ts.length:Int)
structure xK (c:Int)(r q:Rs):Prop where
 yY:XW q
 phi:q.phi≤r.phi+c
 ts:q.s.ts.length≤r.s.ts.length
 nd:r.s.nd.length≤q.s.nd.length
def XP (c:Int)(M:Rs→Rs):Prop:=∀r,XW r→xK c r (M r)
theorem xK.refl {r:Rs}(h:XW r):xK 0 r r:=⟨h,by omega,zU _,zU _⟩
theorem xK.trans {a b:Int}{r q u:Rs}(h:xK a r q)(k:xK b q u):xK (a+b) r u:=⟨k.yY,by have:=h.phi; have:=k.phi; omega,Nat.le_trans k.ts h.ts,Nat.le_trans h.nd k.nd⟩
theorem xK.le {a b:Int}{r q:Rs}(h:xK a r q)(hab:a≤b):xK b r q:=⟨h.yY,by have:=h.phi; omega,h.ts,h.nd⟩
theorem XP.comp {a b:Int}{M N:Rs→Rs}(h:XP a M)(k:XP b N):XP (a+b) fun r=>N (M r):=fun r g=>(h r g).trans (k _ (h r g).yY)
theorem XP.le {a b:Int}{M:Rs→Rs}(h:XP a M)(hab:a≤b):XP b M:=fun r g=>(h r g).le hab
theorem jI {r:Rs}(g:XW r)(hk:r.s.hd.kind≠4):xK (-16) r r.adv:=by
 have h:=g.last.len hk;refine⟨⟨g.last.adv hk,g.deep,g.live,g.few⟩,?_,zS h,zU _⟩;unfold Rs.phi
 show(r.s.nd.length:Int)+16*(r.s.adv.ts.length:Int)≤_
 omega
theorem XU {r:Rs}(g:XW r)(e:Int):xK 0 r (r.fail e):=by
 unfold Rs.fail
 split
 ·rename_i h;exact⟨⟨g.last,g.deep,fun _=>g.live h,g.few⟩,by show r.phi≤_; omega,zU _,zU _⟩
 ·exact xK.refl g
theorem vS {t:Bs}{r:Rs}(h:r.is t=true):r.s.hd.kind≠4∧r.e=0:=by
 unfold Rs.is at h;rw[zF] at h;exact⟨(vG h.2).1,by simpa using h.1⟩
theorem xJ (t:Bs):XP 0 (xD t):=fun r g=>by
 unfold xD
 split
 ·rename_i h;exact(jI g (vS h).1).le (by decide)
 ·exact XU g 50
theorem zJ8 {r:Rs}(g:XW r)(i:Nat)(f:Nd→Nd)(hf:∀n,(f n).kids=n.kids):xK 0 r { r with s:=r.s.on i f }:=by
 have hl:(r.s.on i f).nd.length=r.s.nd.length:=zBC;refine⟨⟨g.last,g.deep,g.live,?_⟩,by unfold Rs.phi; show((r.s.on i f).nd.length:Int)+_≤_; rw[hl]; show(r.s.nd.length:Int)+16*(r.s.ts.length:Int)≤_; omega,zU _,by show _≤(r.s.on i f).nd.length; omega⟩
 show ∀n ∈ (r.s.on i f).nd,n.kids.length≤(r.s.on i f).nd.length
 rw[hl];exact zMl _ (fun n hn=>by rw[hf]; exact g.few n hn) g.few
theorem jY (i:Nat):XP 0 (xM i):=fun r g=>by
 have h:xK 0 r (zDD r):=by
  unfold zDD
  split
  ·rename_i h;unfold Rs.zF6 at h;rw[zF] at h
   have hk:r.s.hd.kind=1:=by simpa using h.2
   exact(jI g (by omega)).le (by decide)
  ·exact XU g 50
 have h2:=zJ8 h.yY i (fun n=>{ n with text:=r.zAz }) fun _=>rfl;exact(h.trans h2).le (show(0:Int)+0≤0 by decide)
theorem ZG {r:Rs}(g:XW r)(i k:Nat):xK 1 r (r.yX i k):=by
 have hl:=xR r.s i k;refine⟨⟨g.last,g.deep,g.live,zAT g.few i _ rfl⟩,?_,zU _,by show _≤(r.s.yX i k).nd.length; omega⟩;unfold Rs.phi
 show((r.s.yX i k).nd.length:Int)+16*(r.s.ts.length:Int)≤_
 rw[hl];omega
theorem vY (i:Nat):XP 1 (vW i):=fun r g=>((ZG g i 5).trans (jY _ _ (ZG g i 5).yY)).le (by decide)
theorem zDX (i:Nat):XP 1 (zAi i):=fun r g=>by
 unfold zAi;have h:=ZG g i 21
 dsimp only
 split
 ·rename_i hk;rw[zF] at hk
  have AA:(r.yX i 21).s.hd.kind=2:=by simpa using hk.2
  have h2:=zJ8 h.yY r.s.nd.length (fun n=>{ n with num:=(r.yX i 21).s.hd.n }) fun _=>rfl;have h3:=jI h2.yY (by show(r.yX i 21).s.hd.kind≠4; omega);exact((h.trans h2).trans h3).le (by decide)
 ·exact(h.trans (XU h.yY 50)).le (by decide)
theorem zFP {r:Rs}(g:XW r)(h0:r.e=0):xK 0 r r.inn:=by
 unfold Rs.inn;have hd:=g.live h0
 by_cases h:r.e=0∧64≤r.s.deep
 ·rw[if_pos h];exact⟨⟨g.last,by show r.s.deep+1≤65; omega,fun h=>absurd h (by show(51:Int)≠0; decide),g.few⟩,by show r.phi≤_; omega,zU _,zU _⟩
 ·rw[if_neg h]
  have:r.s.deep<64:=by
   rcases Nat.lt_or_ge r.s.deep 64 with h2 | h2
   ·exact h2
   ·exact absurd ⟨h0,h2⟩ h
  exact⟨⟨g.last,by show r.s.deep+1≤65; omega,fun _=>by show r.s.deep+1≤64; omega,g.few⟩,by show r.phi≤_; omega,zU _,zU _⟩
theorem zEZ {r:Rs}(g:XW r):xK 0 r r.out:=⟨⟨g.last,by have:=g.deep; show r.s.deep-1≤65; omega,fun h=>by have:=g.live h; show r.s.deep-1≤64; omega,g.few⟩,by show r.phi≤_; omega,zU _,zU _⟩
structure zCo (r:Rs)(x:Ex × Rs):Prop where
 yY:XW x.2
 ts:x.2.s.ts.length≤r.s.ts.length
 nd:x.2.s.nd=r.s.nd
 size:x.2.e=0→x.1.size+x.2.s.ts.length≤r.s.ts.length
 err:r.e≠0→x.2.e≠0
theorem zOw {ms:List (Bs × Nat)}{r:Rs}{k:Nat}(h:zBZ ms r=some k):r.s.hd.kind≠4∧r.e=0:=by
 unfold zBZ at h
 cases hf:ms.find? fun m=>r.is m.1 with
 | none=>rw[hf] at h; cases h
 | some m=>exact vS (t:=m.1) (List.find?_some (p:=fun m:Bs × Nat=>r.is m.1) hf)
theorem zGb {ms:List (Bs × Nat)}{P:Rs→Ex × Rs}{n:Nat}(hP:∀r,XW r→r.s.ts.length≤n→zCo r (P r))(r:Rs)(hn:r.s.ts.length≤n):∀(f:Nat) (e:Ex) (q:Rs),zCo r (e,q)→zCo r (YG ms P f e q)
 | 0,e,q,h=>h
 | f+1,e,q,h=>by
  unfold YG
  cases hm:zBZ ms q with
  | none=>exact h
  | some k=>
   obtain⟨hk,h0⟩:=zOw hm;have ha:=jI h.yY hk;have hl:q.adv.s.ts.length<q.s.ts.length:=h.yY.last.len hk;have h1:q.s.ts.length≤r.s.ts.length:=h.ts;have hp:=hP q.adv ha.yY (by omega);have h2:=hp.ts;have h3:q.e=0→e.size+q.s.ts.length≤r.s.ts.length:=h.size;have h3:=h3 h0;refine zGb hP r hn f _ _ ⟨hp.yY,?_,hp.nd.trans h.nd,fun he=>?_,fun he=>?_⟩
   ·have AA:q.s.ts.length≤r.s.ts.length:=h1
    show(P q.adv).2.s.ts.length≤_
    omega
   ·have h4:=hp.size he
    show e.size+(P q.adv).1.size+1+(P q.adv).2.s.ts.length≤_
    omega
   ·exact absurd h0 (h.err he)
theorem JO {ms:List (Bs × Nat)}{P:Rs→Ex × Rs}{n:Nat}(hP:∀r,XW r→r.s.ts.length≤n→zCo r (P r))(r:Rs)(g:XW r)(hn:r.s.ts.length≤n):zCo r (vQ ms P r):=zGb hP r hn _ _ _ (hP r g hn)
theorem zTy (t:Bs)(r:Rs):(xD t r).s.nd=r.s.nd:=by
 unfold xD Rs.fail
 split
 ·rfl
 ·split <;> rfl
theorem zR7 (t:Bs)(r:Rs)(h:r.e≠0):(xD t r).e≠0:=by
 rw[((jE t).dead r h).1];exact h
theorem zGH (r:Rs):(r.fail 50).e≠0:=by
 unfold Rs.fail
 split
 ·show(50:Int)≠0; decide
 ·assumption
theorem zTg (e:Int)(r:Rs):(r.fail e).s=r.s:=by unfold Rs.fail; split <;> rfl
theorem zDF (r:Rs):r.inn.s.ts=r.s.ts∧r.inn.s.nd=r.s.nd:=by unfold Rs.inn; split <;> exact⟨rfl,rfl⟩
theorem zPp {r:Rs}(g:XW r)(hk:r.s.hd.kind≠4)(h0:r.e=0)(k p:Nat)(tx:Bs)(x:Int):zCo r (.leaf k p tx x,r.adv):=by
 have h:=g.last.len hk;have ha:=jI g hk;refine⟨ha.yY,ha.ts,rfl,fun _=>?_,fun h=>absurd h0 h⟩
 show 1+r.s.adv.ts.length≤_
 omega
theorem zI7 {r q:Rs}(h:xK 0 r q)(hn:q.s.nd=r.s.nd)(he:q.e≠0)(e:Ex):zCo r (e,q):=⟨h.yY,h.ts,hn,fun h=>absurd h he,fun _=>he⟩
theorem JK:∀(f:Nat) (r:Rs),XW r→r.s.ts.length≤f→zCo r (xZ f r)
 | 0,r,g,h=>absurd g.last.pos (by omega)
 | f+1,r,g,hl=>by
  unfold xZ
  by_cases h0:r.e≠0
  ·rw[if_pos h0];exact zI7 (xK.refl g) rfl h0 _
  ·rw[if_neg h0];have h0:r.e=0:=Decidable.not_not.1 h0
   by_cases h1:r.s.hd.kind=1
   ·rw[if_pos h1];exact zPp g (by omega) h0 _ _ _ _
   ·rw[if_neg h1]
    by_cases h2:r.s.hd.kind=2
    ·rw[if_pos h2];exact zPp g (by omega) h0 _ _ _ _
    ·rw[if_neg h2]
     have AA:r.s.hd.kind≠4→xK 0 r r.inn∧xK (-16) r.inn r.inn.adv∧r.inn.adv.s.ts.length<r.s.ts.length∧r.inn.adv.s.nd=r.s.nd:=fun hk=>by
      have a:=zFP g h0
      have AB:r.inn.s.hd.kind≠4:=by rw[zHB (zDF r).1]; exact hk
      have b:=jI a.yY AB;have c:=a.yY.last.len AB;refine⟨a,b,?_,(zDF r).2⟩
      have d:r.inn.s.ts.length=r.s.ts.length:=by rw[(zDF r).1]
      show r.inn.s.adv.ts.length<_
      omega
     by_cases h3:r.is [40]=true
     ·rw[if_pos h3];obtain⟨a,b,c,d⟩:=AA (vS h3).1
      by_cases h4:r.inn.e=0
      ·rw[if_pos h4];have hx:=JO (ms:=ZL) (n:=f) (fun q gq hq=>JO (ms:=YI) (n:=f) (fun u gu hu=>JK f u gu hu) q gq hq) r.inn.adv b.yY (by omega);generalize vQ ZL (vQ YI (xZ f)) r.inn.adv=x at *
       dsimp only
       have ht:=xJ [41] x.2 hx.yY;have ho:=zEZ ht.yY;have e1:=hx.ts;have e2:=ht.ts;refine⟨ho.yY,?_,?_,fun he=>?_,fun h=>absurd h0 h⟩
       ·show(xD [41] x.2).s.ts.length≤_
        omega
       ·show(xD [41] x.2).s.nd=_
        rw[zTy,hx.nd,d]
       ·have hq:x.2.e=0:=by
         by_cases hq:x.2.e=0
         ·exact hq
         ·exact absurd he (zR7 [41] x.2 hq)
        have e3:=hx.size hq
        show x.1.size+(xD [41] x.2).s.ts.length≤_
        omega
      ·rw[if_neg h4];exact zI7 ((a.trans (zEZ a.yY)).le (by decide)) (zDF r).2 h4 _
     ·rw[if_neg h3]
      by_cases h5:r.is [45]=true
      ·rw[if_pos h5];obtain⟨a,b,c,d⟩:=AA (vS h5).1
       by_cases h4:r.inn.e=0
       ·rw[if_pos h4];have hx:=JK f r.inn.adv b.yY (by omega);generalize xZ f r.inn.adv=x at *
        dsimp only
        have ho:=zEZ hx.yY;have e1:=hx.ts;refine⟨ho.yY,?_,?_,fun he=>?_,fun h=>absurd h0 h⟩
        ·show x.2.s.ts.length≤_
         omega
        ·exact hx.nd.trans d
        ·have e3:=hx.size he
         show x.1.size+1+x.2.s.ts.length≤_
         omega
       ·rw[if_neg h4];exact zI7 ((a.trans (zEZ a.yY)).le (by decide)) (zDF r).2 h4 _
      ·rw[if_neg h5];exact zI7 (XU g 50) (by rw[zTg]) (zGH r) _
theorem zJJ (r:Rs)(g:XW r):zCo r (zDK r):=JO (n:=r.s.ts.length) (fun q gq hq=>JO (n:=r.s.ts.length) (fun u gu hu=>JK _ u gu hu) q gq hq) r g (zU _)
theorem jQ (i:Nat):XP 0 (vU i):=fun r g=>by
 unfold vU;have h:=zJJ r g;generalize zDK r=x at *;obtain⟨e,q⟩:=x;have AA:q.s.nd=r.s.nd:=h.nd;have AB:q.s.ts.length≤r.s.ts.length:=h.ts
 dsimp only
 by_cases h0:q.e=0
 ·rw[if_pos h0];have hs:e.size+q.s.ts.length≤r.s.ts.length:=h.size h0;obtain⟨p1,p2,p3⟩:=zA6 e i q.s;refine⟨⟨h.yY.last.of p2,by show(JW i e q.s).deep≤65; rw[p3]; exact h.yY.deep,fun hh=>by show(JW i e q.s).deep≤64; rw[p3]; exact h.yY.live hh,zFb e i q.s h.yY.few⟩,?_,?_,?_⟩
  ·unfold Rs.phi
   show((JW i e q.s).nd.length:Int)+16*((JW i e q.s).ts.length:Int)≤_
   rw[p1,p2,AA];omega
  ·show(JW i e q.s).ts.length≤_
   rw[p2];exact AB
  ·show _≤(JW i e q.s).nd.length
   rw[p1,AA];omega
 ·rw[if_neg h0];refine⟨h.yY,?_,AB,by show _≤q.s.nd.length; rw[AA]; exact zU _⟩;unfold Rs.phi
  show(q.s.nd.length:Int)+16*(q.s.ts.length:Int)≤_
  rw[AA];omega
theorem zLe {r:Rs}(g:XW r){t z:Bs}{c:Int}(ht:r.is t=true){B:Rs→Rs}(hB:XP c B)(hc:c≤16):xK 0 r (if r.inn.e=0 then (xD z (B r.inn.adv)).out else r.inn.fail 50):=by
 obtain⟨hk,h0⟩:=vS ht;have a:=zFP g h0
 split
 ·have b:=jI a.yY (by rw[zHB (zDF r).1]; exact hk);have d:=hB _ b.yY;have e:=xJ z _ d.yY;exact((((a.trans b).trans d).trans e).trans (zEZ e.yY)).le (by omega)
 ·exact(a.trans (XU a.yY 50)).le (by decide)
theorem zDl (i:Nat):XP 0 (YO i):=fun r g=>by
 unfold YO
 split
 ·rename_i h;exact zLe g h (jQ i) (by decide)
 ·exact XU g 50
theorem zAv (i:Nat):XP 1 (zAj i):=fun r g=>by
 have a:=ZG g i 20;have b:=jY r.s.nd.length _ a.yY;have c:=zDl r.s.nd.length _ b.yY;exact((a.trans b).trans c).le (by decide)
theorem zNP {one:Rs→Rs}{c:Int}(h:XP c one)(hc:c≤16):∀f,XP 0 (VL one f)
 | 0=>fun r g=>xK.refl g
 | f+1=>fun r g=>by
  unfold VL
  split
  ·rename_i hi;have a:=jI g (vS hi).1;have b:=h _ a.yY;exact((a.trans b).trans (zNP h hc f _ b.yY)).le (by omega)
  ·exact xK.refl g
theorem zGG {one:Rs→Rs}{c:Int}(h:XP c one)(hc:c≤16):XP c (zCO one):=fun r g=>by
 have a:=h r g;exact(a.trans (zNP h hc _ _ a.yY)).le (by omega)
theorem zNq (i:Nat):XP 2 (zDu i):=((zAv i).comp ((xJ _).comp (vY i))).le (by decide)
theorem zD8 (i:Nat)(x:Int):XP 0 (fun r=>r.num i x):=fun r g=>zJ8 g i (fun n=>{ n with num:=x }) fun _=>rfl
theorem zG1 {r:Rs}(g:XW r)(i:Nat)(x:Int)(hk:r.s.hd.kind≠4):xK 0 r (r.num i x).adv:=by
 have a:=zD8 i x r g;exact(a.trans (jI a.yY hk)).le (by decide)
theorem zSF (i:Nat):XP 2 (zEj i):=fun r g=>by
 have a:=((jY i).comp ((xJ [61]).comp (zNq i))) r g;unfold zEj
 dsimp only
 split
 ·rename_i h;have b:=jI a.yY (vS h).1;have c:=xJ [117,112,100,97,116,101] _ b.yY;exact(((a.trans b).trans c).trans (zD8 i 1 _ c.yY)).le (by decide)
 ·exact a.le (by decide)
theorem zTr (i:Nat):XP 2 (zSZ i):=((zNq i).comp ((xJ _).comp (jQ i))).le (by decide)
theorem zOb (i:Nat):XP 1 (zFa i):=((zAv i).comp ((xJ _).comp ((zGG (jQ i) (by decide)).comp (xJ _)))).le (by decide)
theorem zSD (i:Nat):XP 2 (zNJ i):=((jY i).comp ((xJ _).comp ((vY i).comp ((xJ _).comp (vY i))))).le (by decide)
theorem zSj (i:Nat):XP 1 (zEp i):=fun r g=>by
 have a:=vY i r g;unfold zEp
 dsimp only
 split
 ·rename_i h;exact(a.trans (zG1 a.yY i 1 (vS h).1)).le (by decide)
 ·exact(a.trans (xJ _ _ a.yY)).le (by decide)
theorem zMS (i:Nat):XP 1 (VX i):=fun r g=>by
 have a:=ZG g i 5;have b:=jY r.s.nd.length _ a.yY;unfold VX
 dsimp only
 split
 ·have c:=zJ8 b.yY r.s.nd.length (fun n=>{ n with kind:=20 }) fun _=>rfl;exact(((a.trans b).trans c).trans (zDl r.s.nd.length _ c.yY)).le (by decide)
 ·exact(a.trans b).le (by decide)
theorem zRV (i:Nat):XP 0 (zFy i):=fun r g=>by
 unfold zFy
 split
 ·rename_i h;exact zG1 g i 1 (vS h).1
 ·exact xJ _ r g
theorem zTG (i:Nat):XP 0 (zSL i):=((jY i).comp ((xJ _).comp (jQ i))).le (by decide)
theorem zK7 {ST:Nat→Rs→Rs}(h:∀i,XP 0 (ST i))(i:Nat):∀f,XP 0 (XA ST i f)
 | 0=>fun r g=>xK.refl g
 | f+1=>fun r g=>by
  unfold XA
  split
  ·have a:=h i r g;exact(a.trans (zK7 h i f _ a.yY)).le (by decide)
  ·exact xK.refl g
theorem ZJ {ST:Nat→Rs→Rs}(h:∀i,XP 0 (ST i))(i:Nat):XP 1 (ZI ST i):=fun r g=>by
 have a:=ZG g i 6;unfold ZI
 dsimp only
 split
 ·rename_i hi;exact(a.trans (zLe (c:=0) a.yY hi (B:=fun q=>XA ST r.s.nd.length (q.s.ts.length+1) q) (fun q gq=>zK7 h _ _ q gq) (by decide))).le (by decide)
 ·exact(a.trans (XU a.yY 50)).le (by decide)
theorem zSO {ST:Nat→Rs→Rs}(h:∀i,XP 0 (ST i))(i:Nat):XP 0 (zDi ST i):=fun r g=>by
 unfold zDi
 split
 ·rename_i hi;have a:=jI g (vS hi).1;exact(a.trans (ZJ h i _ a.yY)).le (by decide)
 ·exact xK.refl g
theorem zFI {ST:Nat→Rs→Rs}(h:∀i,XP 0 (ST i))(i:Nat):XP 1 (XT ST i):=((jQ i).comp ((zRV i).comp ((jQ i).comp ((ZJ h i).comp (zSO h i))))).le (by decide)
theorem zKb {ST:Nat→Rs→Rs}(h:∀i,XP 0 (ST i))(i:Nat):XP 3 (zKc ST i):=((jY i).comp ((xJ _).comp ((zDX i).comp ((xJ _).comp ((zDX i).comp (ZJ h i)))))).le (by decide)
theorem zSI:XP 0 (fun r=>r):=fun r g=>xK.refl g
theorem zBe {c:Prop} [Decidable c] {a:Int}{A B:Rs→Rs}(ha:XP a A)(hb:XP a B):XP a (if c then A else B):=by
 by_cases h:c
 ·rw[if_pos h]; exact ha
 ·rw[if_neg h]; exact hb
theorem zKQ {ST:Nat→Rs→Rs}(h:∀i,XP 0 (ST i))(k i:Nat):XP 3 (zJi ST k i):=
 zBe ((zSF i).le (by decide)) (zBe ((zTr i).le (by decide)) (zBe ((zOb i).le (by decide)) (zBe ((zAv i).le (by decide)) (zBe ((zSD i).le (by decide)) (zBe ((zSj i).le (by decide)) (zBe ((zMS i).le (by decide))
  (zBe ((zFI h i).le (by decide)) (zBe (zKb h i) (zBe ((zTG i).le (by decide)) (zBe ((jQ i).le (by decide)) (zSI.le (by decide))))))))))))
theorem ZB:∀f i,XP 0 (xV f i)
 | 0,i=>zSI
 | f+1,i=>fun r g=>by
  have ih:=ZB f;unfold xV
  by_cases hk:r.s.hd.kind=1
  ·rw[if_pos hk]
   cases vP r.s.hd.text with
   | none=>exact XU g 50
   | some k=>
    have a:=ZG g i k;have b:=jI a.yY (by show r.s.hd.kind≠4; omega);have c:=zKQ ih k r.s.nd.length _ b.yY
    dsimp only
    split
    ·exact((a.trans b).trans c).le (by decide)
    ·exact(((a.trans b).trans c).trans (xJ _ _ c.yY)).le (by decide)
  ·rw[if_neg hk];exact XU g 50
theorem zHF (i:Nat):XP 1 (zD9 i):=fun r g=>ZJ (ZB r.s.ts.length) i r g
theorem zJc (i:Nat):XP 0 (singleR i):=fun r g=>by
 unfold singleR
 split
 ·rename_i h;exact zG1 g i 1 (vS h).1
 ·exact xK.refl g
theorem zKY (i:Nat):XP 2 (zB5 i):=fun r g=>by
 have a:=ZG g i 4;unfold zB5
 dsimp only
 split
 ·exact a.le (by decide)
 ·exact(a.trans (zGG (vY r.s.nd.length) (by decide) _ a.yY)).le (by decide)
theorem zNN {r:Rs}(g:XW r)(i:Nat)(hk:r.s.hd.kind≠4):xK 0 r (zEs i r):=by
 have a:=ZG g i 2;have b:=jI a.yY (by exact hk);exact((a.trans b).trans (((jY r.s.nd.length).comp ((xJ _).comp ((zGG (vY r.s.nd.length) (by decide)).comp ((xJ _).comp (xJ _))))) _ b.yY)).le (by decide)
theorem zPu {r:Rs}(g:XW r)(i:Nat)(hk:r.s.hd.kind≠4):xK 0 r (zEK i r):=by
 have a:=ZG g i 3;have b:=jI a.yY (by exact hk);exact((a.trans b).trans (((jY r.s.nd.length).comp ((xJ _).comp ((zKY r.s.nd.length).comp ((xJ _).comp ((zJc r.s.nd.length).comp (zHF r.s.nd.length)))))) _ b.yY)).le (by decide)
end Go.Proofs.YtioffpjajhalaaaGreatDoor
namespace Go.Proofs.YtioffpjajhalaaaGreatDoor
open Go Go.RowKit
structure vJ where
 bt:Nat
 o0:Nat
 I:Nat
 ct:Nat
 A:Option Addr
 c:Nat
 nh:List (Nd × Hd2)
structure QS (w:World)(p B:Nat)(r:Rs)(R:vJ):Prop where
 blk:Blk w p 127 #[.slice (some ⟨R.bt,R.o0,none⟩) (R.I+r.s.ts.length) R.ct,.int .i64 (R.I:Int),.int .i64 (r.s.deep:Int),.slice R.A R.nh.length R.c,.int .i64 r.e]
 zBX:∀k,k<r.s.ts.length*5→w.cell? ⟨R.bt,R.o0+R.I*5+k,none⟩=(vB r.s.ts)[k]?
 few:R.I+r.s.ts.length≤1000000
 XZ:R.bt<B
 nodes:r.s.nd=R.nh.map Prod.fst
 ns:NS w B 100 3 R.A R.c R.nh
 pB:B≤p
 yY:XW r
theorem QS.tok {w:World}{p B:Nat}{r:Rs}{R:vJ}(h:QS w p B r R)(j:Nat)(hj:j<5):w.cell? ⟨R.bt,R.o0+R.I*5+j,none⟩=(xS r.s.hd)[j]?:=by
 have hp:=h.yY.last.pos;rw[h.zBX j (by omega)];unfold Ps.hd
 cases hs:r.s.ts with
 | nil=>rw[hs] at hp; simp at hp
 | cons t l=>
  show(xS t++vB l)[j]?=_
  rw[List.getElem?_append_left (by show j<5; exact hj)]
  rfl
theorem ZR (w:World)(p B:Nat)(r:Rs)(R:vJ)(h:QS w p B r R) :
  Calls Tryz.prog 121 #[.pointer (some ⟨p,0,none⟩)] w fun e w'=>e=.returned (.string (xE r.s.hd.text))∧∃m,w'=w.drewN m:=by
 have x0:w.cell? ⟨p,0,none⟩=some (.slice (some ⟨R.bt,R.o0,none⟩) (R.I+r.s.ts.length) R.ct):=h.blk.cell 0;have x1:w.cell? ⟨p,1,none⟩=some (.int .i64 (R.I:Int)):=h.blk.cell 1;have t3:w.cell? ⟨R.bt,R.o0+R.I*5+3,none⟩=some (.string (xE r.s.hd.text)):=h.tok 3 (by decide);have AB:=h.yY.last.pos;have AA:=h.few
 have q0:(R.I:Int)<(R.I:Int)+(r.s.ts.length:Int):=by omega
 clear h;generalize r.s.hd.text=tx at *;generalize r.s.ts.length=n at *;obtain⟨bt,o0,I,ct,A,c,nh⟩:=R
 dsimp only at *
 go_enter Tryz.func121,Tryz.ntmps121
 go_wp2
 go_quiet (fail)
 go_wp2
 go_ret;exact⟨rfl,nq,rfl⟩
theorem QS.drewN {w:World}{p B:Nat}{r:Rs}{R:vJ}(h:QS w p B r R)(n:Nat):QS (w.drewN n) p B r R:=⟨h.blk,h.zBX,h.few,h.XZ,h.nodes,⟨h.ns.row,h.ns.kids,h.ns.apart,h.ns.rz,h.ns.kz⟩,h.pB,h.yY⟩
theorem vE (w:World)(p B:Nat)(r:Rs)(R:vJ)(t:Bs)(b:Bool)(hb:Hid (r.is t=b))(h:QS w p B r R) :
  Calls Tryz.prog 75 #[.pointer (some ⟨p,0,none⟩),.string (xE t)] w fun e w'=>e=.returned (.bool b)∧∃m,w'=w.drewN m:=by
 have HP:=yE h;have HT:=yE fun W hW=>ZR W p B r R hW;have x0:w.cell? ⟨p,0,none⟩=some (.slice (some ⟨R.bt,R.o0,none⟩) (R.I+r.s.ts.length) R.ct):=h.blk.cell 0;have x1:w.cell? ⟨p,1,none⟩=some (.int .i64 (R.I:Int)):=h.blk.cell 1;have x4:w.cell? ⟨p,4,none⟩=some (.int .i64 r.e):=h.blk.cell 4;have t0:w.cell? ⟨R.bt,R.o0+R.I*5,none⟩=some (.int .u8 (r.s.hd.kind:Int)):=h.tok 0 (by decide);have AC:=h.yY.last.pos;have AB:=h.few
 have q0:(R.I:Int)<(R.I:Int)+(r.s.ts.length:Int):=by omega
 clear h;have HB:Hid ((r.e==0&&((r.s.hd.kind != 4&&r.s.hd.kind != 2)&&r.s.hd.text==t))=b):=hb;clear hb;generalize r.s.hd.text=tx at *;generalize r.s.hd.kind=k at *;obtain⟨ee,AA⟩:∃x,x=r.e:=⟨_,rfl⟩;rw[←AA] at x4 HB
 by_cases h0:ee=0
 ·subst h0;clear AA
  by_cases h4:k=4
  ·subst h4
   have e:b=false:=by rw[←HB.out]; rfl
   clear HB
   go_enter Tryz.func75,Tryz.ntmps75
   go_wp2_with fail
   go_quiet (fail)
   go_wp2_with fail
   go_ret;exact⟨by rw[e]; rfl,nq,rfl⟩
  ·by_cases h2:k=2
   ·subst h2
    have e:b=false:=by rw[←HB.out]; rfl
    clear HB
    go_enter Tryz.func75,Tryz.ntmps75
    go_wp2_with fail
    go_quiet (fail)
    go_wp2_with fail
    go_ret;exact⟨by rw[e]; rfl,nq,rfl⟩
   ·have i4:¬(k:Int)=4:=by omega
    have i2:¬(k:Int)=2:=by omega
    have j4:((k:Int) != 4)=true:=by rw[zD]; omega
    have j2:((k:Int) != 2)=true:=by rw[zD]; omega
    have e:(tx==t)=b:=by
     rw[←HB.out]
     have b4:(k != 4)=true:=by rw[zD]; omega
     have b2:(k != 2)=true:=by rw[zD]; omega
     rw[b4,b2]
     rfl
    have HE:=yE e;clear HB h4 h2 e
    go_enter Tryz.func75,Tryz.ntmps75
    go_wp2_with fail
    go_quiet (refine Calls.quiet_of (HT.out _ (HP.out.drewN _)))
    go_wp2_with fail
    go_ret;exact⟨YA (by simp only[YU]; exact HE.out),nq,rfl⟩
 ·have e:b=false:=by rw[←HB.out,beq_eq_false_iff_ne.2 h0]; rfl
  have g0:(ee==0)=false:=beq_eq_false_iff_ne.2 h0;clear HB AA
  go_enter Tryz.func75,Tryz.ntmps75
  go_wp2_with fail
  go_quiet (fail)
  go_wp2_with fail
  go_ret;exact⟨by rw[e]; rfl,nq,rfl⟩
theorem QS.zU1 {w:World}{p B:Nat}{r:Rs}{R:vJ}(h:QS w p B r R)(e:Int)(he:e≠0):QS (w.setCell ⟨p,4,none⟩ (.int .i64 e)) p B { r with e:=e } R:=by
 refine⟨?_,fun k hk=>?_,h.few,h.XZ,h.nodes,?_,h.pB,⟨h.yY.last,h.yY.deep,fun h0=>absurd h0 he,h.yY.few⟩⟩
 ·have:=h.blk.put 4 (.int .i64 e)
  simpa using this
 ·have AA:R.bt≠p:=by have:=h.XZ; have:=h.pB; omega
  rw[World.cell?_of_block (w:=w) (zQ w ⟨p,4,none⟩ _ R.bt AA)];exact h.zBX k hk
 ·refine h.ns.VS fun b hb=>zQ w ⟨p,4,none⟩ _ b fun e=>?_;rw[e] at hb;exact h.ns.zAH h.blk (by decide) (by decide) hb
def xI (p:Nat)(R:vJ)(b:Nat):Prop:=b=p∨zGy R.A R.nh b
def jO (w:World)(p B:Nat)(R:vJ)(r':Rs)(w':World):Prop:=∃R',QS w' p B r' R'∧yZ w (xI p R) w' (xI p R')
def zGo (w:World)(p B:Nat)(R:vJ)(r':Rs)(w':World):Prop:=∃I',QS w' p B r' { R with I:=I' } ∧ yZ w (xI p R) w' (xI p R)
theorem zGo.toQ {w:World}{p B:Nat}{R:vJ}{r:Rs}{w':World}(h:zGo w p B R r w'):jO w p B R r w':=let ⟨_,a,b⟩:=h; ⟨_,a,b⟩
theorem zGo.trans {w w1 w2:World}{p B:Nat}{R:vJ}{r:Rs}(h:yZ w (xI p R) w1 (xI p R))(k:zGo w1 p B R r w2):zGo w p B R r w2:=let ⟨_,a,b⟩:=k; ⟨_,a,h.trans b⟩
theorem zMv (w:World)(p B:Nat)(r:Rs)(R:vJ)(er:Int)(he:er≠0)(h:QS w p B r R) :
  Calls Tryz.prog 78 #[.pointer (some ⟨p,0,none⟩),.int .i64 er] w fun e w'=>e=.returned (.tuple #[])∧zGo w p B R (r.fail er) w':=by
 have HP:=yE h;have x4:w.cell? ⟨p,4,none⟩=some (.int .i64 r.e):=h.blk.cell 4;have hf:=h.blk.frozen 4;clear h
 by_cases h0:r.e=0
 ·have HF:Hid (r.fail er = { r with e:=er }):=yE (by unfold Rs.fail; rw[if_pos h0]);rw[h0] at x4;clear h0
  go_enter Tryz.func78,Tryz.ntmps78
  go_wp2_with fail
  go_end0;rw[HF.out];exact⟨rfl,R.I,HP.out.zU1 er he,yZ.set (.inl rfl)⟩
 ·have HF:Hid (r.fail er=r):=yE (by unfold Rs.fail; rw[if_neg h0]);have g0:(r.e==0)=false:=beq_eq_false_iff_ne.2 h0
  go_enter Tryz.func78,Tryz.ntmps78
  go_wp2_with fail
  go_end0;rw[HF.out];exact⟨rfl,R.I,HP.out,yZ.refl _ _⟩
theorem JF (w:World)(p B:Nat)(r:Rs)(R:vJ)(er:Int)(he:er≠0)(h:QS w p B r R) :
  Calls Tryz.prog 78 #[.pointer (some ⟨p,0,none⟩),.int .i64 er] w fun e w'=>e=.returned (.tuple #[])∧jO w p B R (r.fail er) w':=(zMv w p B r R er he h).mono fun _ _ h=>⟨h.1,h.2.toQ⟩
end Go.Proofs.YtioffpjajhalaaaGreatDoor
