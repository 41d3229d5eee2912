/- reader.skip, walked. Condition: the reader's block is known whole, and the source does not lie in it. -/
import Derived.Test.YtcccnicldbpieaaGreatDoorLxB
namespace Go.Proofs.YtcccnicldbpieaaGreatDoor
open Go Go.RowKit
set_option linter.unusedVariables false
set_option linter.unusedSimpArgs false
theorem lexL_blanks : ∀ (s : Bs) (p : Nat), lexL p s = lexL (p + (s.takeWhile blankB).length) (s.drop (s.takeWhile blankB).length)
  | [], p => rfl
  | c :: r, p => by
    rw [List.takeWhile_cons]
    split
    · rename_i h
      have hs : step (c :: r) = .skip 1 := by show stepC c r = _; unfold stepC; rw [if_pos h]
      rw [lexL_skip hs, List.length_cons]
      show lexL (p + 1) r = lexL _ (r.drop _)
      rw [lexL_blanks r (p + 1), show p + 1 + (r.takeWhile blankB).length = p + ((r.takeWhile blankB).length + 1) from by omega]
    · rfl
theorem lexL_hash {s : Bs} (h : s.head? = some 35) (p : Nat) : lexL p s = lexL (p + (s.takeWhile fun x => x != 10).length) (s.drop (s.takeWhile fun x => x != 10).length) ∧ 0 < (s.takeWhile fun x => x != 10).length := by
  cases s with
  | nil => cases h
  | cons c r =>
    injection h with h
    subst h
    have hs : step (35 :: r) = .skip (1 + (r.takeWhile fun x => x != 10).length) := rfl
    have ht : ((35 : UInt8) :: r).takeWhile (fun x => x != 10) = 35 :: r.takeWhile fun x => x != 10 := rfl
    rw [ht, List.length_cons, lexL_skip hs, Nat.add_comm 1]
    exact ⟨rfl, by omega⟩
theorem indexByte_tw (s : Bs) (c : UInt8) : Lib.indexByte s c = if (s.takeWhile fun x => x != c).length < s.length then ((s.takeWhile fun x => x != c).length : Int) else -1 := by
  induction s with
  | nil => rfl
  | cons b s ih =>
    unfold Lib.indexByte
    rw [List.takeWhile_cons]
    by_cases hb : (b == c) = true
    · have : (b != c) = false := by rw [bne, hb]; rfl
      rw [if_pos hb, this]
      simp
    · have hb' : (b == c) = false := by simpa using hb
      have : (b != c) = true := by rw [bne, hb']; rfl
      rw [if_neg hb, this, ih]
      simp only [if_true, List.length_cons]
      split
      · rename_i h
        rw [if_neg (by simp), if_pos (by omega)]
        omega
      · rename_i h
        rw [if_pos (by rfl), if_neg (by omega)]
theorem blanks_set : IsSet ⟨#[32, 9, 10, 13]⟩ blankB := by unfold IsSet; decide +kernel
set_option maxHeartbeats 4000000 in
set_option maxRecDepth 100000 in
theorem skip_any (g : Nat) (A : Option Addr) (l : Bs) (c k : Nat) (w : World) (hr : Rd w g A l c k) :
    Calls Tryz.prog 32 #[.pointer (some ⟨g, 0, none⟩)] w fun e w' => e = .returned (.tuple #[]) ∧ ∃ k', k ≤ k' ∧ Mod g w w' ∧ Rd w' g A l c k' ∧ lexL k (l.drop k) = lexL k' (l.drop k') ∧ ∀ x, (l.drop k').head? = some x → blankB x = false ∧ (x == 35) = false := by
  have hbig := hr.big
  have hle := hr.le
  have hcap := hr.cap
  have HR := Lib.hid hr
  clear hr
  go_enter Tryz.func32, Tryz.ntmps32
  go_wp2_with fail
  go_loopg [] (l.length - k) (fun gk wr => ∃ k' : Nat, k ≤ k' ∧ k' ≤ l.length ∧ gk = l.length - k' ∧ Hid (Mod g w wr ∧ Rd wr g A l c k' ∧ lexL k (l.drop k) = lexL k' (l.drop k')))
  case atStart => exact ⟨k, Nat.le_refl _, hle, rfl, Lib.hid ⟨Mod.refl _ _, HR.out, rfl⟩⟩
  case round =>
    obtain ⟨k1, hk1, hk2, rfl, HW⟩ := hrel
    go_wp2_with fail
    refine (while_any g A l c k1 _ blankB blanks_set wr HW.out.2.1).mono ?_
    rintro e w1 ⟨rfl, hm1, hr1⟩
    have hlx := HW.out.2.2.trans (lexL_blanks (l.drop k1) k1)
    rw [List.drop_drop] at hlx
    have hhd : ∀ x, (l.drop (k1 + ((l.drop k1).takeWhile blankB).length)).head? = some x → blankB x = false := by
      intro x hx
      rw [← List.drop_drop] at hx
      generalize l.drop k1 = s at hx
      clear hlx hr1 hm1
      induction s with
      | nil => simp at hx
      | cons a s ih =>
        rw [List.takeWhile_cons] at hx
        split at hx
        · exact ih (by simpa using hx)
        · rename_i ha
          simp at hx
          subst hx
          simpa using ha
    have hk2' : k1 ≤ k1 + ((l.drop k1).takeWhile blankB).length := by omega
    have HM := Lib.hid (HW.out.1.trans hm1)
    have HR1 := Lib.hid hr1
    have HLX := Lib.hid hlx
    have HHD := Lib.hid hhd
    clear hm1 hr1 hlx hhd HW
    generalize k1 + ((l.drop k1).takeWhile blankB).length = k2 at *
    have hk3 := HR1.out.le
    have b0 : w1.cell? ⟨g, 0, none⟩ = some (.slice A l.length c) := HR1.out.blk.cell 0
    have b1 : w1.cell? ⟨g, 1, none⟩ = some (.int .i64 (k2 : Int)) := HR1.out.blk.cell 1
    have f1 := HR1.out.blk.frozen 1
    by_cases hlt : k2 < l.length
    · have d0 : ((k2 : Int) == (l.length : Int)) = false := by rw [beq_eq_false_iff_ne]; omega
      obtain ⟨b, off, hA, hbg, hbw, hby⟩ := HR1.out.byte (by omega)
      have e0 := hby k2 hlt
      have q0 : (k2 : Int) < (l.length : Int) := by omega
      have hdr := List.drop_eq_getElem_cons hlt
      have HBY := Lib.hid hby
      generalize l[k2] = x at *
      have HDR := Lib.hid hdr
      clear hby hdr
      subst hA
      by_cases hx : x = 35
      · subst hx
        have e0' : w1.cell? ⟨b, off + k2, none⟩ = some (.int .u8 35) := e0
        clear e0
        have hsl : ∀ W, (Instr.slice 22 (.slice (some ⟨b, off, none⟩) l.length c) (some (.int .i64 (k2 : Int))) none none).run Tryz.prog W = .ok (.slice (some ⟨b, off + k2, none⟩) (l.length - k2) (c - k2)) W := fun W => by
          rw [run_cut_from W _ _ Tryz.underlying22 size_u8 _ _ c k2 hk3]
          unfold cutA
          rw [if_neg (by omega)]
          simp only [Option.map_some, Addr.add]
          split
          · rename_i h0; subst h0; rfl
          · rfl
        have hib : ∀ W : World, (∀ i (h : i < (l.drop k2).length), W.cell? ⟨b, off + k2 + i, none⟩ = some (.int .u8 ((l.drop k2)[i].toNat : Int))) → Calls Tryz.prog 63 #[.slice (some ⟨b, off + k2, none⟩) (l.length - k2) (c - k2), .int .u8 10] W fun e w' => e = .returned (.int .i64 (Lib.indexByte (l.drop k2) 10)) ∧ w' = W := fun W hW =>
          bytesIndexByte_any b (off + k2) (l.length - k2) (c - k2) (l.drop k2) 10 W (by simp) hW
        have HCD : Hid (∀ i (h : i < (l.drop k2).length), w1.cell? ⟨b, off + k2 + i, none⟩ = some (.int .u8 ((l.drop k2)[i].toNat : Int))) := Lib.hid fun i hi => by
          rw [List.length_drop] at hi
          rw [Nat.add_assoc, HBY.out (k2 + i) (by omega), List.getElem_drop]
        have HIB := Lib.hid hib
        have HID := Lib.hid (indexByte_tw (l.drop k2) 10)
        have HTW := Lib.hid (lexL_hash (s := l.drop k2) (by rw [HDR.out]; rfl) k2)
        have htl : ((l.drop k2).takeWhile fun x => x != 10).length ≤ l.length - k2 := by have := tw_le (fun x : UInt8 => x != 10) (l.drop k2); rw [List.length_drop] at this; exact this
        have htp := HTW.out.2
        clear hib
        generalize ((l.drop k2).takeWhile fun x => x != 10).length = j at *
        obtain ⟨z, hz⟩ : ∃ z, Lib.indexByte (l.drop k2) 10 = z := ⟨_, rfl⟩
        rw [hz] at HID HIB
        clear hz
        have hfin : ∀ (v : Int), v = (j : Int) → True := fun _ _ => trivial
        by_cases hj : j < (l.drop k2).length
        · have hzj : Hid (z = (j : Int)) := Lib.hid (by rw [HID.out, if_pos hj])
          have hz0 : 0 ≤ z := by rw [hzj.out]; omega
          have hz1 : z ≤ 140737488355328 := by rw [hzj.out]; omega
          have d2 : decide (z < 0) = false := decide_eq_false (by omega)
          clear hfin
          go_wp2_with fail
          go_quiet (fail)
          go_wp2_with fail
          go_quiet ((go_at_call 63; exact Calls.quiet_of_same2 (HIB.out _ (by exact HCD.out))))
          go_wp2_with fail
          go_roundg (l.length - (k2 + j))
          case measure => omega
          case rel =>
            refine ⟨k2 + j, by omega, by omega, rfl, Lib.hid ⟨(HM.out.drewN _).setCell 1 _, ?_, ?_⟩⟩
            · rw [show ((k2 : Int) + z) = ((k2 + j : Nat) : Int) from by rw [hzj.out]; omega]
              exact (HR1.out.drewN _).put (k2 + j) (by omega)
            · have h := HLX.out.trans HTW.out.1
              rw [List.drop_drop] at h
              exact h
        · have hjl : j = l.length - k2 := by rw [List.length_drop] at hj; omega
          have hzj : Hid (z = -1) := Lib.hid (by rw [HID.out, if_neg hj])
          have hz0 : z < 0 := by rw [hzj.out]; omega
          have d2 : decide (z < 0) = true := decide_eq_true (by omega)
          go_wp2_with fail
          go_quiet (fail)
          go_wp2_with fail
          go_quiet ((go_at_call 63; exact Calls.quiet_of_same2 (HIB.out _ (by exact HCD.out))))
          go_wp2_with fail
          go_quiet (fail)
          go_wp2_with fail
          go_roundg (l.length - (k2 + j))
          case measure => omega
          case rel =>
            refine ⟨k2 + j, by omega, by omega, rfl, Lib.hid ⟨(HM.out.drewN _).setCell 1 _, ?_, ?_⟩⟩
            · rw [show ((k2 : Int) + ((l.length : Int) - (k2 : Int))) = ((k2 + j : Nat) : Int) from by omega]
              exact (HR1.out.drewN _).put (k2 + j) (by omega)
            · have h := HLX.out.trans HTW.out.1
              rw [List.drop_drop] at h
              exact h
      · have d1 : ((x.toNat : Int) != 35) = true := by
          rw [bne_iff_ne]
          intro h
          apply hx
          have : x.toNat = 35 := by omega
          exact UInt8.toNat_inj.1 this
        have HXX := Lib.hid (show (x == 35) = false by simpa using hx)
        clear hx
        go_wp2_with fail
        go_quiet (fail)
        go_wp2_with fail
        refine bodyPost_ret (v := .tuple #[]) (by simp [results, Tryz.results32, go_sem]) rfl ?_
        exact ⟨rfl, k2, by omega, HM.out.drewN _, HR1.out.drewN _, HLX.out, fun y hy => ⟨HHD.out y hy, by rw [HDR.out] at hy; injection hy with hy; subst hy; exact HXX.out⟩⟩
    · obtain rfl : k2 = l.length := by omega
      have d0 : ((l.length : Int) == (l.length : Int)) = true := by simp
      go_wp2_with fail
      go_quiet (fail)
      go_wp2_with fail
      refine bodyPost_ret (v := .tuple #[]) (by simp [results, Tryz.results32, go_sem]) rfl ?_
      exact ⟨rfl, l.length, by omega, HM.out.drewN _, HR1.out.drewN _, HLX.out, fun y hy => by simp at hy⟩
end Go.Proofs.YtcccnicldbpieaaGreatDoor
