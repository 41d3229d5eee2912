/- The program's program: tables and procedures to the end. Condition: the nodes fit into memory. -/
import Derived.Test.YtcccnicldbpieaaGreatDoorPsU
namespace Go.Proofs.YtcccnicldbpieaaGreatDoor
open Go Go.RowKit
set_option linter.unusedVariables false
set_option linter.unusedSimpArgs false
theorem whole_end {f : Nat} {s : Ps} (h : s.hd.kind = 4) : wholeL (f + 1) s = .ok () s := by unfold wholeL; rw [if_pos h]
theorem whole_table {f : Nat} {s : Ps} (h : s.hd.kind ≠ 4) (h1 : isP [116, 97, 98, 108, 101] s = true) : wholeL (f + 1) s = (tableP 0 s).bind fun _ s => wholeL f s := by rw [wholeL, if_neg h, if_pos h1]
theorem whole_proc {f : Nat} {s : Ps} (h : s.hd.kind ≠ 4) (h1 : isP [116, 97, 98, 108, 101] s = false) (h2 : isP [112, 114, 111, 99] s = true) : wholeL (f + 1) s = (procP 0 s).bind fun _ s => wholeL f s := by
  rw [wholeL, if_neg h, h1, if_pos h2]
  rfl
theorem whole_err {f : Nat} {s : Ps} (h : s.hd.kind ≠ 4) (h1 : isP [116, 97, 98, 108, 101] s = false) (h2 : isP [112, 114, 111, 99] s = false) : wholeL (f + 1) s = .err 50 s.hd.at_ := by
  rw [wholeL, if_neg h, h1, h2]
  rfl
set_option maxRecDepth 100000 in
set_option maxHeartbeats 8000000 in
theorem pprogramC_any (w : World) (p B gp : Nat) (s : Ps) (R : PRep) (i : Nat) (hi0 : i = 0) (h : PS w p B s R) (hG : Good s) (hi : i < s.nd.length) (hbig : s.phi ≤ 1000000) (hb : Safe w (MineP p R) gp 55 #[.pointer (some ⟨p, 0, none⟩)]) :
    Calls Tryz.prog 42 #[.int .i64 (i : Int), .pointer (some ⟨gp, 0, none⟩)] w (PostU w p B R (wholeL (s.ts.length + 1) s)) := by
  have HS0 := Lib.hid (Ran.refl h hG)
  have HI := Lib.hid hi
  have HBG := Lib.hid hbig
  have HBX := Lib.hid hb
  have HI0 := Lib.hid hi0
  have hf0 := tokField0
  obtain ⟨whole, HL0⟩ : ∃ x, Hid (x = wholeL (s.ts.length + 1) s) := ⟨_, Lib.hid rfl⟩
  rw [← HL0.out]
  clear h hG hi hbig hb hi0
  go_enter Tryz.func42, Tryz.ntmps42
  go_wp2_with fail
  go_loopw [] (fun wr => ∃ (s' : Ps) (R' : PRep) (m : Nat), Hid (Ran w p B R s wr R' s') ∧ Hid (s'.ts.length < m) ∧ Hid (whole = wholeL m s')) (fun wr => lenAt p wr)
  case atStart => exact ⟨s, R, s.ts.length + 1, HS0, Lib.hid (Nat.lt_succ_self _), HL0⟩
  case round =>
    obtain ⟨s', R', m, HS, HM, HL⟩ := hrel
    obtain ⟨wa, rfl⟩ : ∃ wa : World, wa = wr := ⟨_, rfl⟩
    obtain ⟨m', rfl⟩ : ∃ m', m = m' + 1 := ⟨m - 1, by have := HM.out; omega⟩
    have cb := (HBX.out.moves HS.out.mv).1.cell 0
    simp only [List.getElem?_toArray, List.getElem?_cons_zero] at cb
    by_cases hk : s'.hd.kind = 4
    · have HR : Hid (whole = .ok () s') := Lib.hid (by rw [HL.out, whole_end hk])
      have b4 : ((s'.hd.kind : Int) != 4) = false := by rw [hk]; rfl
      have c4 : (s'.hd.kind : Int) = 4 := by rw [hk]; rfl
      clear hk
      go_wp2_with fail
      refine (pnext_any wa p s' R' HS.out.ps.ts).mono ?_
      rintro e w2 ⟨rfl, hx⟩
      have HS2 := Lib.hid (HS.out.ext hx)
      clear hx cb
      unfold kcell
      go_wp2_with fail
      go_end0
      rw [HR.out]
      exact PostU.ok HS2.out.okp
    · have HK := Lib.hid hk
      have b4 : ((s'.hd.kind : Int) != 4) = true := by rw [bne_iff_ne]; omega
      have c4 : ¬ (s'.hd.kind : Int) = 4 := by omega
      clear hk
      go_wp2_with fail
      refine (pnext_any wa p s' R' HS.out.ps.ts).mono ?_
      rintro e w2 ⟨rfl, hx⟩
      have HS2 := Lib.hid (HS.out.ext hx)
      clear hx cb
      unfold kcell
      have cb2 := (HBX.out.moves HS2.out.mv).1.cell 0
      simp only [List.getElem?_toArray, List.getElem?_cons_zero] at cb2
      cases hi : isP [116, 97, 98, 108, 101] s' with
      | true =>
        have HIT := Lib.hid hi
        have HQ : Hid (whole = (tableP i s').bind fun _ s => wholeL m' s) := Lib.hid (by rw [HL.out, HI0.out, whole_table HK.out hi])
        clear hi
        go_wp2_with fail
        refine (pis_any _ p B s' R' [116, 97, 98, 108, 101] true HIT HS2.out.ps).mono ?_
        rintro e w4 ⟨rfl, hx⟩
        have HS4 := Lib.hid (HS2.out.ext hx)
        clear hx
        have cb4 := (HBX.out.moves HS4.out.mv).1.cell 0
        simp only [List.getElem?_toArray, List.getElem?_cons_zero] at cb4
        go_wp2_with fail
        refine (ptable_any w4 p B s' R' i HS4.out.ps HS4.out.lt.good (HS4.out.idx HI.out) (HS4.out.phi HBG.out)).mono ?_
        intro e w5 hp
        rcases Ran.goF HQ HS4 (fine_table i _ HS4.out.lt.good) hp with ⟨s5, R5, HE5, HL5, rfl, HS5⟩ | ⟨er, a, rfl, HX, HY⟩
        rotate_left
        · refine panics_post (P := Tryz.prog) (fn := Tryz.f42) rfl ?_
          rw [HX.out]
          exact HY.out
        clear hp cb4
        have HLT := Lib.hid (table_takes HS4.out.lt.good HE5.out)
        have HM5 : Hid (s5.ts.length < m') := Lib.hid (by have := HLT.out; have := HM.out; omega)
        have HLL : Hid (lenAt p w5 < lenAt p wa) := Lib.hid (by rw [HS5.out.ps.lenAt, HS.out.ps.lenAt]; exact HLT.out)
        go_wp2_with fail
        go_roundw
        case rel => exact ⟨s5, R5, m', HS5, HM5, HL5⟩
        case measure => exact HLL.out
      | false =>
        have HIT := Lib.hid hi
        clear hi
        go_wp2_with fail
        refine (pis_any _ p B s' R' [116, 97, 98, 108, 101] false HIT HS2.out.ps).mono ?_
        rintro e w3 ⟨rfl, hx⟩
        have HS3 := Lib.hid (HS2.out.ext hx)
        clear hx cb2
        have cb3 := (HBX.out.moves HS3.out.mv).1.cell 0
        simp only [List.getElem?_toArray, List.getElem?_cons_zero] at cb3
        cases hi : isP [112, 114, 111, 99] s' with
        | true =>
          have HIP := Lib.hid hi
          have HQ : Hid (whole = (procP i s').bind fun _ s => wholeL m' s) := Lib.hid (by rw [HL.out, HI0.out, whole_proc HK.out HIT.out hi])
          clear hi
          go_wp2_with fail
          refine (pis_any _ p B s' R' [112, 114, 111, 99] true HIP HS3.out.ps).mono ?_
          rintro e w4 ⟨rfl, hx⟩
          have HS4 := Lib.hid (HS3.out.ext hx)
          clear hx
          have cb4 := (HBX.out.moves HS4.out.mv).1.cell 0
          simp only [List.getElem?_toArray, List.getElem?_cons_zero] at cb4
          go_wp2_with fail
          refine (pproc_any w4 p B s' R' i HS4.out.ps HS4.out.lt.good (HS4.out.idx HI.out) (HS4.out.phi HBG.out)).mono ?_
          intro e w5 hp
          rcases Ran.goF HQ HS4 (fine_proc i _ HS4.out.lt.good) hp with ⟨s5, R5, HE5, HL5, rfl, HS5⟩ | ⟨er, a, rfl, HX, HY⟩
          rotate_left
          · refine panics_post (P := Tryz.prog) (fn := Tryz.f42) rfl ?_
            rw [HX.out]
            exact HY.out
          clear hp cb4
          have HLT := Lib.hid (proc_takes HS4.out.lt.good HE5.out)
          have HM5 : Hid (s5.ts.length < m') := Lib.hid (by have := HLT.out; have := HM.out; omega)
          have HLL : Hid (lenAt p w5 < lenAt p wa) := Lib.hid (by rw [HS5.out.ps.lenAt, HS.out.ps.lenAt]; exact HLT.out)
          go_wp2_with fail
          go_roundw
          case rel => exact ⟨s5, R5, m', HS5, HM5, HL5⟩
          case measure => exact HLL.out
        | false =>
          have HIP := Lib.hid hi
          have HQ : Hid (whole = .err 50 s'.hd.at_) := Lib.hid (by rw [HL.out, whole_err HK.out HIT.out hi])
          clear hi
          go_wp2_with fail
          refine (pis_any _ p B s' R' [112, 114, 111, 99] false HIP HS3.out.ps).mono ?_
          rintro e w4 ⟨rfl, hx⟩
          have HS4 := Lib.hid (HS3.out.ext hx)
          clear hx
          have cb4 := (HBX.out.moves HS4.out.mv).1.cell 0
          simp only [List.getElem?_toArray, List.getElem?_cons_zero] at cb4
          go_wp2_with fail
          refine (pfail_any _ p 50).mono ?_
          rintro e w5 ⟨rfl, rfl⟩
          have HF : Hid (PostU w p B R whole (panicV 50) w4) := Lib.hid (by rw [HQ.out]; exact ⟨rfl, s', rfl, HS4.out.okp⟩)
          exact panics_post (P := Tryz.prog) (fn := Tryz.f42) rfl HF.out
theorem node_good {s : Ps} (h : Good s) (k : Nat) : Good (s.node k) := by
  refine ⟨h.last, h.deep, fun n hn => ?_⟩
  have hl : (s.node k).nd.length = s.nd.length + 1 := by show (s.nd ++ [_]).length = _; simp
  rw [hl]
  rcases List.mem_append.1 (show n ∈ s.nd ++ [_] from hn) with hn | hn
  · have := h.few n hn; omega
  · rw [List.mem_singleton.1 hn]; simp
theorem node_len (s : Ps) (k : Nat) : (s.node k).nd.length = s.nd.length + 1 := by show (s.nd ++ [_]).length = _; simp
set_option maxRecDepth 100000 in
set_option maxHeartbeats 4000000 in
theorem pprogram_any (w : World) (p B : Nat) (s : Ps) (R : PRep) (h : PS w p B s R) (hG : Good s) (h0 : s.nd.length = 0) (hbig : s.phi ≤ 999999) :
    Calls Tryz.prog 23 #[.pointer (some ⟨p, 0, none⟩)] w (PostU w p B R (programP s)) := by
  have HP := Lib.hid h
  have HG := Lib.hid hG
  have H0 := Lib.hid h0
  have HBG := Lib.hid hbig
  have HX1 : Hid (Ext w (w.alloc (.cells #[.pointer (some ⟨p, 0, none⟩)] 55))) := Lib.hid (Ext.alloc _ _)
  have HB0 := Lib.hid (h.fresh 55 #[.pointer (some ⟨p, 0, none⟩)])
  have HP1 := Lib.hid (h.ext HX1.out)
  have cb := HB0.out.1.cell 0
  simp only [List.getElem?_toArray, List.getElem?_cons_zero] at cb
  obtain ⟨whole, HL0⟩ : ∃ x, Hid (x = programP s) := ⟨_, Lib.hid rfl⟩
  rw [← HL0.out]
  have hm := hmf
  obtain ⟨gb, HGB⟩ : ∃ gb, Hid (w.heap.size = gb) := ⟨_, Lib.hid rfl⟩
  rw [HGB.out] at HB0 cb
  clear h hG hbig h0
  go_enter Tryz.func23, Tryz.ntmps23
  go_upto_region 1 with fail
  rw [HGB.out]
  generalize w.alloc (.cells #[.pointer (some ⟨p, 0, none⟩)] 55) = W0 at *
  have HF := Lib.hid (HP1.out.fresh 90 #[.func (.func 42) #[] #[.pointer (some ⟨gb, 0, none⟩)]])
  have HX2 : Hid (Ext W0 (W0.alloc (.cells #[.func (.func 42) #[] #[.pointer (some ⟨gb, 0, none⟩)]] 90))) := Lib.hid (Ext.alloc _ _)
  go_wp2_with fail
  refine (pnode_any _ p B s R 1 _ [⟨42, #[], #[.pointer (some ⟨gb, 0, none⟩)], fun t => wholeL (t.ts.length + 1) t⟩] 1 (HP1.out.ext HX2.out) (by have := HBG.out; unfold Ps.phi at this; omega) (by simp) HF.out.row (fun f hf => by
    rw [List.mem_singleton.1 hf]
    exact enters_of Tryz.func42 (by kernel_rfl) rfl) (fun k hk s' wr R' h1 h2 h3 => by
    obtain rfl : k = 0 := by simp at hk; omega
    injection h1 with _ h1
    subst h1
    exact pprogramC_any wr p B gb _ R' s.nd.length H0.out h3 (node_good HG.out 1) (by rw [node_len]; omega) (by
      have h1 := HBG.out
      unfold Ps.phi at h1 ⊢
      rw [node_len]
      show s.nd.length + 1 + 2 * s.ts.length ≤ _
      omega) ((HB0.out.ext HX2.out).moves h2))).mono ?_
  intro e w1 hpost
  rw [seqK_one] at hpost
  rcases hpost.unit with ⟨s', hr, rfl, ho⟩ | ⟨er, a, hr, he⟩
  · have HR : Hid (whole = .ok () s') := Lib.hid (HL0.out.trans hr)
    have HO := Lib.hid (OkP.trans (Moves.ext (HX1.out.trans HX2.out)) ho)
    clear hpost hr ho
    go_wp2_with fail
    go_end0
    rw [HR.out]
    exact PostU.ok HO.out
  · have HE := Lib.hid (ErrP.trans (Moves.ext (HX1.out.trans HX2.out)) he)
    have HR : Hid (whole = .err er a) := Lib.hid (HL0.out.trans hr)
    obtain ⟨rfl, _⟩ := he
    refine panics_post (P := Tryz.prog) (fn := Tryz.f23) rfl ?_
    rw [HR.out]
    exact HE.out
end Go.Proofs.YtcccnicldbpieaaGreatDoor
