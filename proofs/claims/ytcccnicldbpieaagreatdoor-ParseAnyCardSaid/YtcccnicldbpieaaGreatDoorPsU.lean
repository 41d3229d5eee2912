/- The program's table, proc and program. Condition: the nodes fit into memory. -/
import Derived.Test.YtcccnicldbpieaaGreatDoorPsT
namespace Go.Proofs.YtcccnicldbpieaaGreatDoor
open Go Go.RowKit
set_option linter.unusedVariables false
set_option linter.unusedSimpArgs false
theorem Ran.goF {α : Type} {w w1 w2 : World} {p B : Nat} {R R1 : PRep} {s s1 : Ps} {r : Res Unit} {whole : Res α} {f : Unit → Ps → Res α} {e : Ending} (HL : Hid (whole = r.bind f)) (h : Hid (Ran w p B R s w1 R1 s1)) (hf : FineAt s1 r) (hp : PostU w1 p B R1 r e w2) :
    (∃ s2 R2, Hid (r = .ok () s2) ∧ Hid (whole = f () s2) ∧ e = .returned (.tuple #[]) ∧ Hid (Ran w p B R s w2 R2 s2)) ∨ (∃ er a, e = panicV er ∧ Hid (whole = .err er a) ∧ Hid (ErrP w p B R er a (panicV er) w2)) := by
  cases r with
  | ok a s2 =>
    obtain ⟨h1, R2, h2, h3⟩ := hp
    exact .inl ⟨s2, R2, Lib.hid rfl, Lib.hid HL.out, h1, Lib.hid ⟨h2, h.out.mv.trans h3, h.out.lt.trans hf⟩⟩
  | err er a =>
    obtain ⟨h1, h2⟩ := hp
    exact .inr ⟨er, a, h1, Lib.hid HL.out, Lib.hid (ErrP.trans h.out.mv ⟨rfl, h2⟩)⟩
/-- A kid's node, then a token. -/
theorem kidTake {s s1 : Ps} {i k : Nat} {t : Bs} (g : Good s) (h : takeP t (s.kidNode i k) = .ok () s1) : s.nd.length < s1.nd.length ∧ s1.phi + 1 ≤ s.phi ∧ s1.ts.length + 1 ≤ s.ts.length := by
  have hf := fineN_take t (kidNode_good g i k)
  rw [h] at hf
  obtain ⟨_, h2, h3, h4, _⟩ := hf
  rw [kidNode_len] at h4
  rw [kidNode_phi] at h2
  rw [kidNode_ts] at h3
  omega
theorem kidTake_fine {s : Ps} {i k : Nat} (t : Bs) (g : Good s) : FineAt s (takeP t (s.kidNode i k)) := FineN.at (fineN_take t (kidNode_good g i k))
theorem table_takes {i : Nat} {s s' : Ps} (g : Good s) (h : tableP i s = .ok () s') : s'.ts.length < s.ts.length := by
  unfold tableP at h
  cases hr : takeP [116, 97, 98, 108, 101] (s.kidNode i 2) with
  | err e q => rw [hr] at h; cases h
  | ok a s1 =>
    rw [hr] at h
    have h1 := kidTake g hr
    have gf := kidTake_fine (i := i) (k := 2) [116, 97, 98, 108, 101] g
    rw [hr] at gf
    have h2 := (fine_named s.nd.length s1 gf.good).bind fun _ t _ gt => (fine_take [40] t gt).bind fun _ t _ gt => (fine_list (fine_word s.nd.length) t gt).bind fun _ t _ gt => (fine_take [41] t gt).bind fun _ t _ gt => fine_take [59] t gt
    rw [bind_ok] at h
    rw [h] at h2
    have := h2.ts
    omega
set_option maxRecDepth 100000 in
set_option maxHeartbeats 8000000 in
theorem ptable_any (w : World) (p B : Nat) (s : Ps) (R : PRep) (i : Nat) (h : PS w p B s R) (hG : Good s) (hi : i < s.nd.length) (hbig : s.phi ≤ 1000000) :
    Calls Tryz.prog 44 #[.pointer (some ⟨p, 0, none⟩), .int .i64 (i : Int)] w (PostU w p B R (tableP i s)) := by
  have HP := Lib.hid h
  have HG := Lib.hid hG
  have HS0 := Lib.hid (Ran.refl h hG)
  have HI := Lib.hid hi
  have HBG := Lib.hid hbig
  obtain ⟨whole, HL0⟩ : ∃ x, Hid (x = tableP i s) := ⟨_, Lib.hid rfl⟩
  rw [← HL0.out]
  have hm := hmf
  clear h hG hi hbig
  go_enter Tryz.func44, Tryz.ntmps44
  go_wp2_with fail
  refine (pkid_none w p B s R i 2 HP.out HI.out (by have := HBG.out; unfold Ps.phi at this; omega) HG.out).mono ?_
  rintro e w1 ⟨rfl, R1, hp1, hm1⟩
  have HP1 := Lib.hid hp1
  have HM1 := Lib.hid (hm1)
  clear hp1 hm1
  go_wp2_with fail
  refine (ptake_any _ p B _ R1 [116, 97, 98, 108, 101] HP1.out).mono ?_
  intro e w2 hp
  rcases Ran.goF HL0 HS0 (kidTake_fine [116, 97, 98, 108, 101] HG.out) (PostU.trans HM1.out hp) with ⟨s2, R2, HE2, HL2, rfl, HS2⟩ | ⟨er, a, rfl, HX, HY⟩
  rotate_left
  · refine panics_post (P := Tryz.prog) (fn := Tryz.f44) rfl ?_
    rw [HX.out]
    exact HY.out
  clear hp
  have HI2 : Hid (s.nd.length < s2.nd.length) := Lib.hid (kidTake HG.out HE2.out).1
  have HBG2 : Hid (s2.phi ≤ 1000000) := Lib.hid (HS2.out.phi HBG.out)
  have HBH2 : Hid (s2.phi + 1 ≤ s.phi) := Lib.hid (kidTake HG.out HE2.out).2.1
  have HMB := Lib.hid (HS2.out.mv)
  have HSB := Lib.hid (Ran.refl HS2.out.ps HS2.out.lt.good)
  go_wp2_with fail
  refine (pnamed_any _ p B s2 R2 s.nd.length HSB.out.ps (HSB.out.idx HI2.out)).mono ?_
  intro e w1 hp
  rcases Ran.go HL2 HSB (fine_named s.nd.length _ HSB.out.lt.good) hp with ⟨s1, R1, HL1, rfl, HS1⟩ | ⟨er, a, rfl, HX, HY⟩
  rotate_left
  · refine panics_post (P := Tryz.prog) (fn := Tryz.f44) rfl ?_
    refine PostU.trans HMB.out ?_
    rw [HX.out]
    exact HY.out
  clear hp
  go_wp2_with fail
  refine (ptake_any _ p B s1 R1 [40] HS1.out.ps).mono ?_
  intro e w2 hp
  rcases Ran.go HL1 HS1 (fine_take _ _ HS1.out.lt.good) hp with ⟨s2, R2, HL2, rfl, HS2⟩ | ⟨er, a, rfl, HX, HY⟩
  rotate_left
  · refine panics_post (P := Tryz.prog) (fn := Tryz.f44) rfl ?_
    refine PostU.trans HMB.out ?_
    rw [HX.out]
    exact HY.out
  clear hp
  go_wp2_with fail
  refine (plist_any _ p B s2 R2 s.nd.length ⟨81, #[.pointer (some ⟨p, 0, none⟩)], #[], wordP s.nd.length⟩ HS2.out.ps HS2.out.lt.good (enters_of Tryz.func81 (by kernel_rfl) rfl) (fine_word s.nd.length) (fun wr s9 R9 hl9 hm9 hp9 => pword_any wr p B s9 R9 s.nd.length hp9 hl9.good (Nat.lt_of_lt_of_le (HS2.out.idx HI2.out) hl9.nd) (by have h1 := hl9.phi; have h2 := HS2.out.phi HBG2.out; unfold Ps.phi at h1 h2; omega))).mono ?_
  intro e w3 hp
  rcases Ran.go HL2 HS2 (fine_list (fine_word s.nd.length) _ HS2.out.lt.good) hp with ⟨s3, R3, HL3, rfl, HS3⟩ | ⟨er, a, rfl, HX, HY⟩
  rotate_left
  · refine panics_post (P := Tryz.prog) (fn := Tryz.f44) rfl ?_
    refine PostU.trans HMB.out ?_
    rw [HX.out]
    exact HY.out
  clear hp
  go_wp2_with fail
  refine (ptake_any _ p B s3 R3 [41] HS3.out.ps).mono ?_
  intro e w4 hp
  rcases Ran.go HL3 HS3 (fine_take _ _ HS3.out.lt.good) hp with ⟨s4, R4, HL4, rfl, HS4⟩ | ⟨er, a, rfl, HX, HY⟩
  rotate_left
  · refine panics_post (P := Tryz.prog) (fn := Tryz.f44) rfl ?_
    refine PostU.trans HMB.out ?_
    rw [HX.out]
    exact HY.out
  clear hp
  have HB5 := Lib.hid (bind_last HL4.out)
  go_wp2_with fail
  refine (ptake_any _ p B s4 R4 [59] HS4.out.ps).mono ?_
  intro e w5 hp
  rcases Ran.go HB5 HS4 (fine_take _ _ HS4.out.lt.good) hp with ⟨s5, R5, HL5, rfl, HS5⟩ | ⟨er, a, rfl, HX, HY⟩
  rotate_left
  · refine panics_post (P := Tryz.prog) (fn := Tryz.f44) rfl ?_
    refine PostU.trans HMB.out ?_
    rw [HX.out]
    exact HY.out
  clear hp
  go_wp2_with fail
  go_end0
  refine PostU.trans HMB.out ?_
  rw [HL5.out]
  exact PostU.ok HS5.out.okp
/-! ### A procedure -/
theorem bind_eq_ok {α : Type} {whole : Res α} {r : Res Unit} {f : Unit → Ps → Res α} {t : Ps} (h : Hid (whole = r.bind f)) (e : r = .ok () t) : whole = f () t := by rw [h.out, e]; rfl
theorem single_yes {i : Nat} {s : Ps} (h : Hid (isP [115, 105, 110, 103, 108, 101] s = true)) : singleP i s = .ok () (s.adv.num i 1) := by unfold singleP; rw [if_pos h.out]
theorem single_no {i : Nat} {s : Ps} (h : Hid (isP [115, 105, 110, 103, 108, 101] s = false)) : singleP i s = .ok () s := by unfold singleP; rw [h.out]; rfl
theorem names_later (n : Nat) (s : Ps) (g : Good s) : match namesP n s with
    | .ok _ t => Good t ∧ t.phi ≤ s.phi + 1 ∧ s.nd.length + 1 ≤ t.nd.length ∧ t.ts.length ≤ s.ts.length ∧ t.deep = s.deep
    | .err _ _ => True := by
  have hk := kidNode_phi s n 4
  have hl := kidNode_len s n 4
  have e : namesP n s = if isP [41] (s.kidNode n 4) = true then .ok () (s.kidNode n 4) else listP (wordP s.nd.length) (s.kidNode n 4) := rfl
  rw [e]
  cases hi : isP [41] (s.kidNode n 4) with
  | true =>
    simp only [if_true]
    exact ⟨kidNode_good g n 4, by omega, by omega, Nat.le_refl _, rfl⟩
  | false =>
    simp only [Bool.false_eq_true, if_false]
    have h := fine_list (fine_word s.nd.length) _ (kidNode_good g n 4)
    cases hr : listP (wordP s.nd.length) (s.kidNode n 4) with
    | err e q => trivial
    | ok a t =>
      rw [hr] at h
      have h1 := h.phi
      have h2 := h.nd
      exact ⟨h.good, by omega, by omega, h.ts, h.deep⟩
theorem fine_proc (i : Nat) : Fine (procP i) := fun s g => by
  unfold procP
  cases hr : takeP [112, 114, 111, 99] (s.kidNode i 3) with
  | err e q => trivial
  | ok a s2 =>
    have h1 := kidTake g hr
    have gf := kidTake_fine (i := i) (k := 3) [112, 114, 111, 99] g
    rw [hr] at gf
    have g2 := gf.good
    have hl2 := ((fine_named s.nd.length s2 g2).bind fun _ t _ gt => fine_take [40] t gt : FineAt s2 _)
    rw [bind_ok]
    cases hr3 : (namedP s.nd.length s2).bind fun _ t => takeP [40] t with
    | err e q =>
      have : ∀ {f : Ps → Res Unit}, ((namedP s.nd.length s2).bind fun _ t => (takeP [40] t).bind fun _ t => f t) = .err e q := by
        intro f
        cases hn : namedP s.nd.length s2 with
        | err e2 q2 => rw [hn] at hr3; exact hr3
        | ok b t => rw [hn] at hr3; rw [bind_ok] at hr3 ⊢; rw [hr3]; rfl
      rw [this (f := fun t => (namesP s.nd.length t).bind fun _ t => (takeP [41] t).bind fun _ t => (singleP s.nd.length t).bind fun _ t => blockP s.nd.length t)]
      trivial
    | ok b s4 =>
      rw [hr3] at hl2
      have : ∀ {f : Ps → Res Unit}, ((namedP s.nd.length s2).bind fun _ t => (takeP [40] t).bind fun _ t => f t) = f s4 := by
        intro f
        cases hn : namedP s.nd.length s2 with
        | err e2 q2 => rw [hn] at hr3; cases hr3
        | ok b t => rw [hn] at hr3; rw [bind_ok] at hr3 ⊢; rw [hr3]; rfl
      rw [this (f := fun t => (namesP s.nd.length t).bind fun _ t => (takeP [41] t).bind fun _ t => (singleP s.nd.length t).bind fun _ t => blockP s.nd.length t)]
      have hn := names_later s.nd.length s4 hl2.good
      cases hr5 : namesP s.nd.length s4 with
      | err e q => trivial
      | ok c s5 =>
        rw [hr5] at hn
        obtain ⟨n1, n2, n3, n4, n5⟩ := hn
        have m1 := hl2.phi
        have m2 := hl2.nd
        have m3 := hl2.ts
        have m4 := hl2.deep
        have l5 : Later s s5 := ⟨n1, by omega, by omega, by omega, by rw [n5, m4, gf.deep]⟩
        rw [bind_ok]
        exact FineAt.trans l5 ((fine_take [41] s5 n1).bind fun _ t _ gt => (fine_single s.nd.length t gt).bind fun _ t _ gt => fine_blockP s.nd.length t gt)
theorem proc_takes {i : Nat} {s s' : Ps} (g : Good s) (h : procP i s = .ok () s') : s'.ts.length < s.ts.length := by
  unfold procP at h
  cases hr : takeP [112, 114, 111, 99] (s.kidNode i 3) with
  | err e q => rw [hr] at h; cases h
  | ok a s1 =>
    have h1 := kidTake g hr
    have gf := kidTake_fine (i := i) (k := 3) [112, 114, 111, 99] g
    rw [hr] at gf h
    rw [bind_ok] at h
    have h2 : ∀ {t : Ps}, Good t → t.ts.length ≤ s1.ts.length → ∀ {r : Res Unit}, FineAt t r → r = .ok () s' → s'.ts.length ≤ s1.ts.length := fun gt hl _ hf e => by rw [e] at hf; have := hf.ts; omega
    cases hn : namedP s.nd.length s1 with
    | err e q => rw [hn] at h; cases h
    | ok b t =>
      have f1 := fine_named s.nd.length s1 gf.good
      rw [hn] at f1 h
      rw [bind_ok] at h
      cases hk : takeP [40] t with
      | err e q => rw [hk] at h; cases h
      | ok c t2 =>
        have f2 := fine_take [40] t f1.good
        rw [hk] at f2 h
        rw [bind_ok] at h
        cases hm : namesP s.nd.length t2 with
        | err e q => rw [hm] at h; cases h
        | ok d t3 =>
          have f3 := names_later s.nd.length t2 f2.good
          rw [hm] at f3 h
          rw [bind_ok] at h
          have f4 := (fine_take [41] t3 f3.1).bind fun _ t _ gt => (fine_single s.nd.length t gt).bind fun _ t _ gt => fine_blockP s.nd.length t gt
          rw [h] at f4
          have a1 := f1.ts
          have a2 := f2.ts
          have a3 := f3.2.2.2.1
          have a4 := f4.ts
          omega
set_option maxRecDepth 100000 in
set_option maxHeartbeats 4000000 in
theorem pprocC_any (w : World) (p B gp : Nat) (s : Ps) (R : PRep) (i : Nat) (h : PS w p B s R) (hG : Good s) (hi : i < s.nd.length) (hbig : s.phi ≤ 1000000) (hb : Safe w (MineP p R) gp 55 #[.pointer (some ⟨p, 0, none⟩)]) :
    Calls Tryz.prog 82 #[.int .i64 (i : Int), .pointer (some ⟨gp, 0, none⟩)] w (PostU w p B R (if isP [41] s = true then .ok () s else listP (wordP i) s)) := by
  have HS0 := Lib.hid (Ran.refl h hG)
  have HI := Lib.hid hi
  have HBG := Lib.hid hbig
  have HBX := Lib.hid hb
  obtain ⟨whole, HL0⟩ : ∃ x, Hid (x = if isP [41] s = true then .ok () s else listP (wordP i) s) := ⟨_, Lib.hid rfl⟩
  rw [← HL0.out]
  have hm := hmf
  clear h hG hi hbig hb
  go_enter Tryz.func82, Tryz.ntmps82
  cases hi6 : isP [41] s with
  | false =>
    have HI6 := Lib.hid hi6
    clear hi6
    have HL6 := Lib.hid (if_no (t := [41]) (s := s) HL0 HI6)
    have cb := (HBX.out.moves HS0.out.mv).1.cell 0
    simp only [List.getElem?_toArray, List.getElem?_cons_zero] at cb
    go_wp2_with fail
    try clear cb
    refine (pis_any _ p B s R [41] false HI6 HS0.out.ps).mono ?_
    rintro e w6 ⟨rfl, hx⟩
    have HS6 := Lib.hid (HS0.out.ext hx)
    clear hx
    have HB7 := Lib.hid (bind_last HL6.out)
    have cb := (HBX.out.moves HS6.out.mv).1.cell 0
    simp only [List.getElem?_toArray, List.getElem?_cons_zero] at cb
    go_wp2_with fail
    try clear cb
    refine (plist_any _ p B s R i ⟨81, #[.pointer (some ⟨p, 0, none⟩)], #[], wordP i⟩ HS6.out.ps HS6.out.lt.good (enters_of Tryz.func81 (by kernel_rfl) rfl) (fine_word i) (fun wr s9 R9 hl9 hm9 hp9 => pword_any wr p B s9 R9 i hp9 hl9.good (Nat.lt_of_lt_of_le (HS6.out.idx HI.out) hl9.nd) (by have h1 := hl9.phi; have h2 := HS6.out.phi HBG.out; unfold Ps.phi at h1 h2; omega))).mono ?_
    intro e w7 hp
    rcases Ran.go HB7 HS6 (fine_list (fine_word i) _ HS6.out.lt.good) hp with ⟨s7, R7, HL7, rfl, HS7⟩ | ⟨er, a, rfl, HX, HY⟩
    rotate_left
    · refine panics_post (P := Tryz.prog) (fn := Tryz.f82) rfl ?_
      rw [HX.out]
      exact HY.out
    clear hp
    have cb := (HBX.out.moves HS7.out.mv).1.cell 0
    simp only [List.getElem?_toArray, List.getElem?_cons_zero] at cb
    go_wp2_with fail
    try clear cb
    go_end0
    rw [HL7.out]
    exact PostU.ok HS7.out.okp
  | true =>
    have HI6 := Lib.hid hi6
    clear hi6
    have HL6 := Lib.hid (if_yes (t := [41]) (s := s) HL0 HI6)
    have cb := (HBX.out.moves HS0.out.mv).1.cell 0
    simp only [List.getElem?_toArray, List.getElem?_cons_zero] at cb
    go_wp2_with fail
    try clear cb
    refine (pis_any _ p B s R [41] true HI6 HS0.out.ps).mono ?_
    rintro e w6 ⟨rfl, hx⟩
    have HS6 := Lib.hid (HS0.out.ext hx)
    clear hx
    have cb := (HBX.out.moves HS6.out.mv).1.cell 0
    simp only [List.getElem?_toArray, List.getElem?_cons_zero] at cb
    go_wp2_with fail
    try clear cb
    go_end0
    rw [HL6.out]
    exact PostU.ok HS6.out.okp
set_option maxRecDepth 100000 in
set_option maxHeartbeats 8000000 in
theorem pproc_any (w : World) (p B : Nat) (s : Ps) (R : PRep) (i : Nat) (h : PS w p B s R) (hG : Good s) (hi : i < s.nd.length) (hbig : s.phi ≤ 1000000) :
    Calls Tryz.prog 45 #[.pointer (some ⟨p, 0, none⟩), .int .i64 (i : Int)] w (PostU w p B R (procP i s)) := by
  have HP := Lib.hid h
  have HG := Lib.hid hG
  have HS0 := Lib.hid (Ran.refl h hG)
  have HI := Lib.hid hi
  have HBG := Lib.hid hbig
  obtain ⟨whole, HL0⟩ : ∃ x, Hid (x = procP i s) := ⟨_, Lib.hid rfl⟩
  rw [← HL0.out]
  have hm := hmf
  have HX1 : Hid (Ext w (w.alloc (.cells #[.pointer (some ⟨p, 0, none⟩)] 55))) := Lib.hid (Ext.alloc _ _)
  have HBX := Lib.hid (h.fresh 55 #[.pointer (some ⟨p, 0, none⟩)])
  have HPX := Lib.hid (h.ext HX1.out)
  clear HS0
  have HS0 := Lib.hid (Ran.refl HPX.out hG)
  obtain ⟨gp, HGP⟩ : ∃ gp, Hid (w.heap.size = gp) := ⟨_, Lib.hid rfl⟩
  rw [HGP.out] at HBX
  have cb := HBX.out.1.cell 0
  simp only [List.getElem?_toArray, List.getElem?_cons_zero] at cb
  clear h hG hi hbig
  go_enter Tryz.func45, Tryz.ntmps45
  go_upto_region 1 with fail
  rw [HGP.out]
  generalize w.alloc (.cells #[.pointer (some ⟨p, 0, none⟩)] 55) = W0 at *
  go_wp2_with fail
  refine (pkid_none W0 p B s R i 3 HPX.out HI.out (by have := HBG.out; unfold Ps.phi at this; omega) HG.out).mono ?_
  rintro e w1 ⟨rfl, R1, hp1, hm1⟩
  have HP1 := Lib.hid hp1
  have HM1 := Lib.hid (hm1)
  clear hp1 hm1
  have cb := (HBX.out.moves HM1.out).1.cell 0
  simp only [List.getElem?_toArray, List.getElem?_cons_zero] at cb
  go_wp2_with fail
  refine (ptake_any _ p B _ R1 [112, 114, 111, 99] HP1.out).mono ?_
  intro e w2 hp
  rcases Ran.goF HL0 HS0 (kidTake_fine [112, 114, 111, 99] HG.out) (PostU.trans HM1.out hp) with ⟨s2, R2, HE2, HL2, rfl, HS2⟩ | ⟨er, a, rfl, HX, HY⟩
  rotate_left
  · refine panics_post (P := Tryz.prog) (fn := Tryz.f45) rfl ?_
    refine PostU.trans (Moves.ext HX1.out) ?_
    rw [HX.out]
    exact HY.out
  clear hp
  have HI2 : Hid (s.nd.length < s2.nd.length) := Lib.hid (kidTake HG.out HE2.out).1
  have HBG2 : Hid (s2.phi ≤ 1000000) := Lib.hid (HS2.out.phi HBG.out)
  have HBH2 : Hid (s2.phi + 1 ≤ s.phi) := Lib.hid (kidTake HG.out HE2.out).2.1
  have HMB := Lib.hid (((Moves.ext (M := MineP p R) HX1.out).trans HS2.out.mv))
  have HBY := Lib.hid (HBX.out.moves HS2.out.mv)
  have HSB := Lib.hid (Ran.refl HS2.out.ps HS2.out.lt.good)
  have cb := (HBY.out.moves HSB.out.mv).1.cell 0
  simp only [List.getElem?_toArray, List.getElem?_cons_zero] at cb
  go_wp2_with fail
  try clear cb
  refine (pnamed_any _ p B s2 R2 s.nd.length HSB.out.ps (HSB.out.idx HI2.out)).mono ?_
  intro e w8 hp
  rcases Ran.go HL2 HSB (fine_named s.nd.length _ HSB.out.lt.good) hp with ⟨s8, R8, HL8, rfl, HS8⟩ | ⟨er, a, rfl, HX, HY⟩
  rotate_left
  · refine panics_post (P := Tryz.prog) (fn := Tryz.f45) rfl ?_
    refine PostU.trans HMB.out ?_
    rw [HX.out]
    exact HY.out
  clear hp
  have cb := (HBY.out.moves HS8.out.mv).1.cell 0
  simp only [List.getElem?_toArray, List.getElem?_cons_zero] at cb
  go_wp2_with fail
  try clear cb
  refine (ptake_any _ p B s8 R8 [40] HS8.out.ps).mono ?_
  intro e w9 hp
  rcases Ran.go HL8 HS8 (fine_take _ _ HS8.out.lt.good) hp with ⟨s9, R9, HL9, rfl, HS9⟩ | ⟨er, a, rfl, HX, HY⟩
  rotate_left
  · refine panics_post (P := Tryz.prog) (fn := Tryz.f45) rfl ?_
    refine PostU.trans HMB.out ?_
    rw [HX.out]
    exact HY.out
  clear hp
  have HF := Lib.hid (HS9.out.ps.fresh 90 #[.func (.func 82) #[] #[.pointer (some ⟨gp, 0, none⟩)]])
  have HXF : Hid (Ext w9 (w9.alloc (.cells #[.func (.func 82) #[] #[.pointer (some ⟨gp, 0, none⟩)]] 90))) := Lib.hid (Ext.alloc _ _)
  have HBF := Lib.hid ((HBY.out.moves HS9.out.mv).ext HXF.out)
  have cb := (HBY.out.moves HS9.out.mv).1.cell 0
  simp only [List.getElem?_toArray, List.getElem?_cons_zero] at cb
  go_wp2_with fail
  try clear cb
  refine (pkid_any _ p B s9 R9 s.nd.length 4 _ [⟨82, #[], #[.pointer (some ⟨gp, 0, none⟩)], fun t => if isP [41] t = true then .ok () t else listP (wordP s9.nd.length) t⟩] 1 (HS9.out.ps.ext HXF.out) (HS9.out.idx HI2.out) (HS9.out.nd HBG2.out) (by simp) HS9.out.lt.good HF.out.row (fun f hf => by
    rw [List.mem_singleton.1 hf]
    exact enters_of Tryz.func82 (by kernel_rfl) rfl) (fun k hk s' wr R' h1 h2 h3 => by
    obtain rfl : k = 0 := by simp at hk; omega
    injection h1 with _ h1
    subst h1
    exact pprocC_any wr p B gp _ R' s9.nd.length h3 (kidNode_good HS9.out.lt.good s.nd.length 4) (by rw [kidNode_len]; omega) (by
      rw [kidNode_phi]
      have h1 := HS9.out.lt.phi
      have h2 := HBH2.out
      have h3 := HBG.out
      omega) (HBF.out.moves h2))).mono ?_
  intro e w50 hp
  rw [seqK_one] at hp
  have hp' : PostV _ p B R9 (.int .i64 (s9.nd.length : Int)) (namesP s.nd.length s9) e w50 := hp
  have hnl := names_later s.nd.length s9 HS9.out.lt.good
  cases hq : namesP s.nd.length s9 with
  | err er a =>
    rw [hq] at hp'
    obtain ⟨rfl, ho⟩ := hp'
    have HF9 : Hid (PostU w p B R whole (panicV er) w50) := Lib.hid (by
      refine PostU.trans HMB.out ?_
      rw [HL9.out, hq]
      exact ErrP.trans (HS9.out.mv.trans (Moves.ext HXF.out)) ⟨rfl, ho⟩)
    exact panics_post (P := Tryz.prog) (fn := Tryz.f45) rfl HF9.out
  | ok a s50 =>
    rw [hq] at hp' hnl
    obtain ⟨rfl, R50, hp50, hm50⟩ := hp'
    obtain ⟨n1, n2, n3, n4, n5⟩ := hnl
    have HMC := Lib.hid (HMB.out.trans ((HS9.out.mv.trans (Moves.ext HXF.out)).trans hm50))
    have HBZ := Lib.hid (HBF.out.moves hm50)
    have HI5 : Hid (s.nd.length < s50.nd.length) := Lib.hid (by have h1 := HS9.out.lt.nd; have h2 := HI2.out; omega)
    have HBG5 : Hid (s50.phi ≤ 1000000) := Lib.hid (by have h1 := HS9.out.lt.phi; have h2 := HBH2.out; have h3 := HBG.out; omega)
    have HSC := Lib.hid (Ran.refl hp50 n1)
    have HL50 : Hid (whole = (takeP [41] s50).bind fun _ t => (singleP s.nd.length t).bind fun _ t => blockP s.nd.length t) := Lib.hid (by rw [HL9.out, hq]; rfl)
    clear hp hq hp50 hm50 n1 n2 n3 n4 n5
    have cb := (HBZ.out.moves HSC.out.mv).1.cell 0
    simp only [List.getElem?_toArray, List.getElem?_cons_zero] at cb
    go_wp2_with fail
    try clear cb
    refine (ptake_any _ p B s50 R50 [41] HSC.out.ps).mono ?_
    intro e w10 hp
    rcases Ran.go HL50 HSC (fine_take _ _ HSC.out.lt.good) hp with ⟨s10, R10, HL10, rfl, HS10⟩ | ⟨er, a, rfl, HX, HY⟩
    rotate_left
    · refine panics_post (P := Tryz.prog) (fn := Tryz.f45) rfl ?_
      refine PostU.trans HMC.out ?_
      rw [HX.out]
      exact HY.out
    clear hp
    cases hi11 : isP [115, 105, 110, 103, 108, 101] s10 with
    | false =>
      have HI11 := Lib.hid hi11
      clear hi11
      have HL11 := Lib.hid (bind_eq_ok HL10 (single_no HI11))
      have cb := (HBZ.out.moves HS10.out.mv).1.cell 0
      simp only [List.getElem?_toArray, List.getElem?_cons_zero] at cb
      go_wp2_with fail
      try clear cb
      refine (pskip_no _ p B s10 R10 [115, 105, 110, 103, 108, 101] HI11 HS10.out.ps).mono ?_
      rintro e w11 ⟨rfl, hx⟩
      have HS11 := Lib.hid (HS10.out.ext hx)
      clear hx
      have HB12 := Lib.hid (bind_last HL11.out)
      have cb := (HBZ.out.moves HS11.out.mv).1.cell 0
      simp only [List.getElem?_toArray, List.getElem?_cons_zero] at cb
      go_wp2_with fail
      try clear cb
      refine (pblock_any _ p B s10 R10 s.nd.length HS11.out.ps HS11.out.lt.good (HS11.out.idx HI5.out) (HS11.out.phi HBG5.out)).mono ?_
      intro e w12 hp
      rcases Ran.go HB12 HS11 (fine_blockP s.nd.length _ HS11.out.lt.good) hp with ⟨s12, R12, HL12, rfl, HS12⟩ | ⟨er, a, rfl, HX, HY⟩
      rotate_left
      · refine panics_post (P := Tryz.prog) (fn := Tryz.f45) rfl ?_
        refine PostU.trans HMC.out ?_
        rw [HX.out]
        exact HY.out
      clear hp
      have cb := (HBZ.out.moves HS12.out.mv).1.cell 0
      simp only [List.getElem?_toArray, List.getElem?_cons_zero] at cb
      go_wp2_with fail
      try clear cb
      go_end0
      refine PostU.trans HMC.out ?_
      rw [HL12.out]
      exact PostU.ok HS12.out.okp
    | true =>
      have HI11 := Lib.hid hi11
      clear hi11
      have HL11 := Lib.hid (bind_eq HL10 (single_yes HI11))
      have cb := (HBZ.out.moves HS10.out.mv).1.cell 0
      simp only [List.getElem?_toArray, List.getElem?_cons_zero] at cb
      go_wp2_with fail
      try clear cb
      refine (pskip_yes _ p B s10 R10 [115, 105, 110, 103, 108, 101] HI11 HS10.out.ps).mono ?_
      rintro e w11 ⟨rfl, ho⟩
      obtain ⟨R11, hs⟩ := HS10.out.then ho (later_skip HS10.out.lt.good HI11)
      have HS11 := Lib.hid hs
      clear ho hs
      have cb := (HBZ.out.moves HS11.out.mv).1.cell 0
      simp only [List.getElem?_toArray, List.getElem?_cons_zero] at cb
      go_wp2_with fail
      try clear cb
      refine (pmarked_any _ p B s10.adv R11 s.nd.length HS11.out.ps (HS11.out.idx HI5.out)).mono ?_
      intro e w13 hp
      rcases Ran.go HL11 HS11 (Later.num HS11.out.lt.good s.nd.length 1) hp with ⟨s13, R13, HL13, rfl, HS13⟩ | ⟨er, a, rfl, HX, HY⟩
      rotate_left
      · refine panics_post (P := Tryz.prog) (fn := Tryz.f45) rfl ?_
        refine PostU.trans HMC.out ?_
        rw [HX.out]
        exact HY.out
      clear hp
      have HB14 := Lib.hid (bind_last HL13.out)
      have cb := (HBZ.out.moves HS13.out.mv).1.cell 0
      simp only [List.getElem?_toArray, List.getElem?_cons_zero] at cb
      go_wp2_with fail
      try clear cb
      refine (pblock_any _ p B s13 R13 s.nd.length HS13.out.ps HS13.out.lt.good (HS13.out.idx HI5.out) (HS13.out.phi HBG5.out)).mono ?_
      intro e w14 hp
      rcases Ran.go HB14 HS13 (fine_blockP s.nd.length _ HS13.out.lt.good) hp with ⟨s14, R14, HL14, rfl, HS14⟩ | ⟨er, a, rfl, HX, HY⟩
      rotate_left
      · refine panics_post (P := Tryz.prog) (fn := Tryz.f45) rfl ?_
        refine PostU.trans HMC.out ?_
        rw [HX.out]
        exact HY.out
      clear hp
      have cb := (HBZ.out.moves HS14.out.mv).1.cell 0
      simp only [List.getElem?_toArray, List.getElem?_cons_zero] at cb
      go_wp2_with fail
      try clear cb
      go_end0
      refine PostU.trans HMC.out ?_
      rw [HL14.out]
      exact PostU.ok HS14.out.okp
end Go.Proofs.YtcccnicldbpieaaGreatDoor
