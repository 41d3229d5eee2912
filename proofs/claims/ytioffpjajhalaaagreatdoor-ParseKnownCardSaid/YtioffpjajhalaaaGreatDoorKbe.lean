/- The document's reading never comes out of more than it went into. No condition. -/
import Derived.Test.YtioffpjajhalaaaGreatDoorKaa
import Derived.Test.YtioffpjajhalaaaGreatDoorKba
set_option linter.unusedVariables false
set_option linter.unusedSimpArgs false
set_option maxRecDepth 100000
set_option maxHeartbeats 16000000
namespace Go.Proofs.YtioffpjajhalaaaGreatDoor
def Up (M:Rs→Rs):Prop:=∀r,r.s.deep≤(M r).s.deep
def UpE (P:Rs→Ex × Rs):Prop:=∀r,r.s.deep≤(P r).2.s.deep
theorem Up.comp {M N:Rs→Rs}(h:Up M)(k:Up N):Up fun r=>N (M r):=fun r=>Nat.le_trans (h r) (k (M r))
theorem zA2 (r:Rs):r.inn.s.deep=r.s.deep+1:=by unfold Rs.inn; split <;> rfl
theorem zCq (e:Int):Up (Rs.fail e):=fun r=>by unfold Rs.fail; split <;> exact zU _
theorem XB (t:Bs):Up (xD t):=fun r=>by
 unfold xD
 split
 ·exact zU _
 ·exact zCq 50 r
theorem zCD (i:Nat):Up (xM i):=fun r=>by
 show r.s.deep≤(zDD r).s.deep
 unfold zDD
 split
 ·exact zU _
 ·exact zCq 50 r
theorem zI3 (i:Nat):Up (vW i):=fun r=>zCD r.s.nd.length (r.yX i 5)
theorem zKH (i:Nat):Up (zAi i):=fun r=>by
 unfold zAi
 dsimp only
 split
 ·exact zU _
 ·exact zCq 50 (r.yX i 21)
theorem zKW {ms:List (Bs × Nat)}{P:Rs→Ex × Rs}(h:UpE P):∀f e r,r.s.deep≤(YG ms P f e r).2.s.deep
 | 0,e,r=>zU _
 | f+1,e,r=>by
  unfold YG
  split
  ·exact zU _
  ·exact Nat.le_trans (h r.adv) (zKW h f _ _)
theorem zCB {ms:List (Bs × Nat)}{P:Rs→Ex × Rs}(h:UpE P):UpE (vQ ms P):=fun r=>Nat.le_trans (h r) (zKW h _ _ _)
theorem zFe:∀f,UpE (xZ f)
 | 0=>fun r=>zU _
 | f+1=>fun r=>by
  have ih:=zFe f;have hi:=zA2 r;unfold xZ
  split
  ·exact zU _
  ·split
   ·exact zU _
   ·split
    ·exact zU _
    ·split
     ·split
      ·have h1:=zCB (ms:=ZL) (zCB (ms:=YI) ih) r.inn.adv;have h2:=XB [41] (vQ ZL (vQ YI (xZ f)) r.inn.adv).2
       show r.s.deep≤(xD [41] (vQ ZL (vQ YI (xZ f)) r.inn.adv).2).s.deep-1
       have h3:r.inn.adv.s.deep=r.inn.s.deep:=rfl;omega
      ·show r.s.deep≤r.inn.s.deep-1
       omega
     ·split
      ·split
       ·have h1:=ih r.inn.adv
        show r.s.deep≤(xZ f r.inn.adv).2.s.deep-1
        have h3:r.inn.adv.s.deep=r.inn.s.deep:=rfl;omega
       ·show r.s.deep≤r.inn.s.deep-1
        omega
      ·exact zCq 50 r
theorem zUg:UpE zDK:=fun r=>zCB (zCB (zFe _)) r
theorem zDn (i:Nat):Up (vU i):=fun r=>by
 unfold vU;have h:=zUg r
 split
 ·show _≤(JW i (zDK r).1 (zDK r).2.s).deep
  rw[zLq];exact h
 ·exact h
theorem zJr (i:Nat):Up (YO i):=fun r=>by
 unfold YO;have hi:=zA2 r
 split
 ·split
  ·have h1:=zDn i r.inn.adv;have h2:=XB [93] (vU i r.inn.adv)
   show r.s.deep≤(xD [93] (vU i r.inn.adv)).s.deep-1
   have h3:r.inn.adv.s.deep=r.inn.s.deep:=rfl;omega
  ·have:=zCq 50 r.inn
   omega
 ·exact zCq 50 r
theorem zOQ (i:Nat):Up (zAj i):=fun r=>Nat.le_trans (zCD r.s.nd.length (r.yX i 20)) (zJr r.s.nd.length _)
theorem zPr {one:Rs→Rs}(h:Up one):∀f,Up (VL one f)
 | 0=>fun r=>zU _
 | f+1=>fun r=>by
  unfold VL
  split
  ·exact Nat.le_trans (h r.adv) (zPr h f _)
  ·exact zU _
theorem zTH {one:Rs→Rs}(h:Up one):Up (zCO one):=fun r=>Nat.le_trans (h r) (zPr h _ _)
theorem zPq (i:Nat):Up (zDu i):=(zOQ i).comp ((XB _).comp (zI3 i))
theorem zTn (i:Nat):Up (zEj i):=fun r=>by
 have h:=((zCD i).comp ((XB [61]).comp (zPq i))) r;unfold zEj
 dsimp only
 split
 ·exact Nat.le_trans h (XB [117,112,100,97,116,101] (zDu i (xD [61] (xM i r))).adv)
 ·exact h
theorem zUl (i:Nat):Up (zSZ i):=(zPq i).comp ((XB _).comp (zDn i))
theorem zPJ (i:Nat):Up (zFa i):=(zOQ i).comp ((XB _).comp ((zTH (zDn i)).comp (XB _)))
theorem zTf (i:Nat):Up (zNJ i):=(zCD i).comp ((XB _).comp ((zI3 i).comp ((XB _).comp (zI3 i))))
theorem zS8 (i:Nat):Up (zEp i):=fun r=>by
 have h:=zI3 i r;unfold zEp
 dsimp only
 split
 ·exact h
 ·exact Nat.le_trans h (XB _ _)
theorem zPa (i:Nat):Up (VX i):=fun r=>by
 have h:=zCD r.s.nd.length (r.yX i 5);unfold VX
 dsimp only
 split
 ·exact Nat.le_trans h (zJr r.s.nd.length ((xM r.s.nd.length (r.yX i 5)).kind r.s.nd.length 20))
 ·exact h
theorem zTJ (i:Nat):Up (zFy i):=fun r=>by
 unfold zFy
 split
 ·exact zU _
 ·exact XB _ r
theorem zUG (i:Nat):Up (zSL i):=(zCD i).comp ((XB _).comp (zDn i))
theorem zNE {ST:Nat→Rs→Rs}(h:∀i,Up (ST i))(i:Nat):∀f,Up (XA ST i f)
 | 0=>fun r=>zU _
 | f+1=>fun r=>by
  unfold XA
  split
  ·exact Nat.le_trans (h i r) (zNE h i f _)
  ·exact zU _
theorem zJH {ST:Nat→Rs→Rs}(h:∀i,Up (ST i))(i:Nat):Up (ZI ST i):=fun r=>by
 unfold ZI
 dsimp only
 have hi:=zA2 (r.yX i 6);have h0:(r.yX i 6).s.deep=r.s.deep:=rfl
 split
 ·split
  ·have h1:=zNE h r.s.nd.length ((r.yX i 6).inn.adv.s.ts.length+1) (r.yX i 6).inn.adv;have h2:=XB [125] (XA ST r.s.nd.length ((r.yX i 6).inn.adv.s.ts.length+1) (r.yX i 6).inn.adv)
   show r.s.deep≤(xD [125] (XA ST r.s.nd.length ((r.yX i 6).inn.adv.s.ts.length+1) (r.yX i 6).inn.adv)).s.deep-1
   have h3:(r.yX i 6).inn.adv.s.deep=(r.yX i 6).inn.s.deep:=rfl;omega
  ·have:=zCq 50 (r.yX i 6).inn
   omega
 ·exact zCq 50 (r.yX i 6)
theorem zTx {ST:Nat→Rs→Rs}(h:∀i,Up (ST i))(i:Nat):Up (zDi ST i):=fun r=>by
 unfold zDi
 split
 ·exact zJH h i r.adv
 ·exact zU _
theorem zRc {ST:Nat→Rs→Rs}(h:∀i,Up (ST i))(i:Nat):Up (XT ST i):=(zDn i).comp ((zTJ i).comp ((zDn i).comp ((zJH h i).comp (zTx h i))))
theorem zTe {ST:Nat→Rs→Rs}(h:∀i,Up (ST i))(i:Nat):Up (zKc ST i):=(zCD i).comp ((XB _).comp ((zKH i).comp ((XB _).comp ((zKH i).comp (zJH h i)))))
theorem zCY {c:Prop} [Decidable c] {A B:Rs→Rs}(ha:Up A)(hb:Up B):Up (if c then A else B):=by
 by_cases h:c
 ·rw[if_pos h]; exact ha
 ·rw[if_neg h]; exact hb
theorem zT9:Up (fun r=>r):=fun r=>zU _
theorem zRF {ST:Nat→Rs→Rs}(h:∀i,Up (ST i))(k i:Nat):Up (zJi ST k i):=
 zCY (zTn i) (zCY (zUl i) (zCY (zPJ i) (zCY (zOQ i) (zCY (zTf i) (zCY (zS8 i) (zCY (zPa i)
  (zCY (zRc h i) (zCY (zTe h i) (zCY (zUG i) (zCY (zDn i) zT9))))))))))
theorem zPy:∀f i,Up (xV f i)
 | 0,i=>zT9
 | f+1,i=>fun r=>by
  have ih:=zPy f;unfold xV
  split
  ·exact zCq 50 r
  ·rename_i k hk;have h:=zRF ih k r.s.nd.length (r.yX i k).adv
   dsimp only
   split
   ·exact h
   ·exact Nat.le_trans h (XB _ _)
end Go.Proofs.YtioffpjajhalaaaGreatDoor
