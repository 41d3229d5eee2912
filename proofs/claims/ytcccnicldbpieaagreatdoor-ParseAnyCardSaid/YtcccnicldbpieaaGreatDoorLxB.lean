/- reader.while, walked. Condition: the reader's block is known whole, and the source does not lie in it. -/
import Derived.Test.YtcccnicldbpieaaGreatDoorLxA
namespace Go.Proofs.YtcccnicldbpieaaGreatDoor
open Go Go.RowKit
set_option linter.unusedVariables false
set_option linter.unusedSimpArgs false
/-- A reader, its source. -/
structure Rd (w : World) (g : Nat) (A : Option Addr) (l : Bs) (c k : Nat) : Prop where
  blk : Blk w g 80 #[.slice A l.length c, .int .i64 (k : Int)]
  src : Cells w A (bcells l)
  far : 0 < l.length → ∀ b off, A = some ⟨b, off, none⟩ → b ≠ g
  le : k ≤ l.length
  cap : l.length ≤ c
  nil_ : A = none → c = 0
  big : l.length ≤ 140737488355328
theorem Rd.byte {w : World} {g : Nat} {A : Option Addr} {l : Bs} {c k : Nat} (h : Rd w g A l c k) (h0 : 0 < l.length) : ∃ b off, A = some ⟨b, off, none⟩ ∧ b ≠ g ∧ b < w.heap.size ∧ ∀ i (hi : i < l.length), w.cell? ⟨b, off + i, none⟩ = some (.int .u8 (l[i].toNat : Int)) := by
  obtain ⟨b, off, rfl, hb, hc⟩ := h.src.at_ (by rw [bcells_len]; exact h0)
  exact ⟨b, off, rfl, h.far h0 b off rfl, hb, fun i hi => by rw [hc i (by rw [bcells_len]; exact hi), bcells_at l i hi]⟩
theorem Rd.drewN {w : World} {g : Nat} {A : Option Addr} {l : Bs} {c k : Nat} (h : Rd w g A l c k) (n : Nat) : Rd (w.drewN n) g A l c k := ⟨h.blk, h.src, h.far, h.le, h.cap, h.nil_, h.big⟩
theorem Mod.cells0 {g : Nat} {w w' : World} {A : Option Addr} {l : Bs} (h : Mod g w w') (hc : Cells w A (bcells l)) (hk : 0 < l.length → ∀ b off, A = some ⟨b, off, none⟩ → b ≠ g) : Cells w' A (bcells l) := by
  by_cases h0 : 0 < l.length
  · exact h.cells hc (hk h0)
  · have : l = [] := List.eq_nil_of_length_eq_zero (by omega)
    subst this
    exact .inl rfl
theorem Rd.put {w : World} {g : Nat} {A : Option Addr} {l : Bs} {c k : Nat} (h : Rd w g A l c k) (k' : Nat) (hk : k' ≤ l.length) : Rd (w.setCell ⟨g, 1, none⟩ (.int .i64 (k' : Int))) g A l c k' :=
  ⟨h.blk.put 1 _, ((Mod.refl g w).setCell 1 _).cells0 h.src h.far, h.far, hk, h.cap, h.nil_, h.big⟩
theorem ret_str {a b : Bs} (h : a = b) : Ending.returned (.string (bstr a)) = .returned (.string (bstr b)) := by rw [h]
theorem tw_step {p : UInt8 → Bool} {l : Bs} {k : Nat} (h : k < l.length) : (l.drop k).takeWhile p = if p l[k] then l[k] :: (l.drop (k + 1)).takeWhile p else [] := by
  rw [List.drop_eq_getElem_cons h, List.takeWhile_cons]
/-- Where a part of a slice begins. -/
def cutA (A : Option Addr) (c k : Nat) : Option Addr := if c = k then A else A.map (·.add k)
theorem run_cut {P : Program} (W : World) (t e : TypeId) (ht : P.underlying t = some (.slice e)) (hz : ∀ w, (Go.sizeOf e).run P w = .ok 1 w) (A : Option Addr) (len cap l h : Nat) (hlh : l ≤ h) (hh : h ≤ cap) :
    (Instr.slice t (.slice A len cap) (some (.int .i64 (l : Int))) (some (.int .i64 (h : Int))) none).run P W = .ok (.slice (cutA A cap l) (h - l) (cap - l)) W := by
  have ht' : P.underlying t = some (.slice (P.elem t)) := by simp [Program.elem, ht]
  have he : P.elem t = e := by simp [Program.elem, ht]
  rw [run_slice_lh W t _ _ _ ht' .i64 .i64 _ _ (by omega) (by omega) (by omega), he, hz]
  simp [Result.andThen, sliced, cutA]
theorem run_cut_from {P : Program} (W : World) (t e : TypeId) (ht : P.underlying t = some (.slice e)) (hz : ∀ w, (Go.sizeOf e).run P w = .ok 1 w) (A : Option Addr) (len cap l : Nat) (hlh : l ≤ len) :
    (Instr.slice t (.slice A len cap) (some (.int .i64 (l : Int))) none none).run P W = .ok (.slice (cutA A cap l) (len - l) (cap - l)) W := by
  have ht' : P.underlying t = some (.slice (P.elem t)) := by simp [Program.elem, ht]
  have he : P.elem t = e := by simp [Program.elem, ht]
  rw [run_slice_l W t _ _ _ ht' .i64 _ (by omega) (by omega), he, hz]
  simp [Result.andThen, sliced, cutA]
theorem cells_cut {w : World} {A : Option Addr} {l : Bs} {c : Nat} (h : Cells w A (bcells l)) (hc : l.length ≤ c) (k m : Nat) : Cells w (cutA A c k) (bcells ((l.drop k).take m)) := by
  by_cases hk : k < l.length
  · rcases h with h | ⟨b, off, rfl, hb, hcc⟩
    · have : (bcells l).length = 0 := by rw [h]; rfl
      rw [bcells_len] at this
      omega
    · refine .inr ⟨b, off + k, ?_, hb, fun i hi => ?_⟩
      · unfold cutA
        rw [if_neg (by omega)]
        simp only [Option.map_some, Addr.add]
        split
        · rename_i h0; subst h0; rfl
        · rfl
      · rw [bcells_len] at hi
        have hi2 : i < m ∧ k + i < l.length := by rw [List.length_take, List.length_drop] at hi; omega
        rw [Nat.add_assoc, hcc (k + i) (by rw [bcells_len]; omega), bcells_at l _ hi2.2, bcells_at _ i hi]
        simp
  · refine .inl ?_
    rw [List.drop_eq_nil_of_le (by omega)]
    simp [bcells]
theorem run_bytes_str {P : Program} {w : World} {src e dst : TypeId} (hs : P.underlying src = some (.slice e)) (he : P.underlying e = some (.int .u8)) (hd : P.underlying dst = some .string) {A : Option Addr} {l : Bs} {n c : Nat} (hn : n = l.length) (h : Cells w A (bcells l)) :
    (convert src dst (.slice A n c)).run P w = .ok (.string (bstr l)) w := by
  subst hn
  rw [← strOfNums_bnums]
  by_cases h0 : 0 < l.length
  · obtain ⟨b, off, rfl, hb, hcc⟩ := h.at_ (by rw [bcells_len]; exact h0)
    exact run_convert_bytes_arg w src e hs he b off _ c (bnums l) (bnums_len l) (fun i hi => by rw [hcc i (by rw [bcells_len]; exact hi), bcells_at l i hi, bnums_at l i hi]) dst hd
  · have : l = [] := List.eq_nil_of_length_eq_zero (by omega)
    subst this
    cases A with
    | none => exact run_convert_bytes_nil w src e hs he _ _ dst hd
    | some a =>
      rw [run_convert_bytes_string w src dst e _ _ c hs he hd]
      have hl : (loadCells a 0).run P w = .ok #[] w := by
        simp [loadCells, loadCellsFrom]
      simp [Conv.bytesToString, hl, Result.andThen, bnums, strOfNums]
      rfl
theorem size_u8 : ∀ w, (Go.sizeOf 5).run Tryz.prog w = .ok 1 w := fun w => by kernel_rfl
set_option maxHeartbeats 2000000 in
set_option maxRecDepth 100000 in
theorem while_any (g : Nat) (A : Option Addr) (l : Bs) (c k : Nat) (s : ByteArray) (p : UInt8 → Bool) (hs : IsSet s p) (w : World) (hr : Rd w g A l c k) :
    Calls Tryz.prog 62 #[.pointer (some ⟨g, 0, none⟩), .string s] w fun e w' => e = .returned (.string (bstr ((l.drop k).takeWhile p))) ∧ Mod g w w' ∧ Rd w' g A l c (k + ((l.drop k).takeWhile p).length) := by
  have hbig := hr.big
  have hle := hr.le
  have hcap := hr.cap
  have HR := Lib.hid hr
  have HS := Lib.hid hs
  obtain ⟨u, HU⟩ : ∃ u, Hid ((l.drop k).takeWhile p = u) := ⟨_, Lib.hid rfl⟩
  have c0 := hr.blk.cell 0
  have c1 := hr.blk.cell 1
  clear hr hs
  go_enter Tryz.func62, Tryz.ntmps62
  go_wp2_with fail
  go_loopg [] (l.length - k) (fun gk wr => ∃ k' : Nat, k ≤ k' ∧ k' ≤ l.length ∧ gk = l.length - k' ∧ Hid (Mod g w wr ∧ Rd wr g A l c k' ∧ (l.drop k).takeWhile p = (l.drop k).take (k' - k) ++ (l.drop k').takeWhile p))
  case atStart => exact ⟨k, Nat.le_refl _, hle, rfl, Lib.hid ⟨Mod.refl _ _, HR.out, by simp⟩⟩
  case round =>
    obtain ⟨k', hk1, hk2, rfl, HW⟩ := hrel
    have b0 : wr.cell? ⟨g, 0, none⟩ = some (.slice A l.length c) := HW.out.2.1.blk.cell 0
    have b1 : wr.cell? ⟨g, 1, none⟩ = some (.int .i64 (k' : Int)) := HW.out.2.1.blk.cell 1
    have f1 := HW.out.2.1.blk.frozen 1
    have hbrk : ∀ (u : Bs), (l.drop k').takeWhile p = [] → Hid ((l.drop k).takeWhile p = (l.drop k).take (k' - k) ∧ k + ((l.drop k).takeWhile p).length = k') := fun _ e => by
      have h := HW.out.2.2
      rw [e, List.append_nil] at h
      refine Lib.hid ⟨h, ?_⟩
      rw [h, List.length_take, List.length_drop]
      omega
    have HBR := Lib.hid hbrk
    clear hbrk
    have hsl : ∀ W, (Instr.slice 22 (.slice A l.length c) (some (.int .i64 (k : Int))) (some (.int .i64 (k' : Int))) none).run Tryz.prog W = .ok (.slice (cutA A c k) (k' - k) (c - k)) W := fun W => run_cut W _ _ Tryz.underlying22 size_u8 A _ c k k' hk1 (by omega)
    have hcv : ∀ n, (convert 22 9 (.slice (cutA A c k) (k' - k) (c - k))).run Tryz.prog (wr.drewN n) = .ok (.string (bstr ((l.drop k).take (k' - k)))) (wr.drewN n) := fun n =>
      run_bytes_str Tryz.underlying22 Tryz.underlying5 Tryz.underlying9 (by simp; omega) (show Cells (wr.drewN n) _ _ from cells_cut HW.out.2.1.src (by omega) k _)
    by_cases hlt : k' < l.length
    · have d0 : decide ((k' : Int) < (l.length : Int)) = true := decide_eq_true (by omega)
      obtain ⟨b, off, hA, hbg, hbw, hby⟩ := HW.out.2.1.byte (by omega)
      have e0 := hby k' hlt
      have q0 : (k' : Int) < (l.length : Int) := by omega
      have hst := tw_step (p := p) hlt
      have hp := HS.out.at_ l[k']
      have hxe := List.getElem?_eq_getElem hlt
      generalize l[k'] = x at *
      have HX := Lib.hid hxe
      have HST := Lib.hid hst
      clear hby hxe hst
      cases hpx : p x with
      | true =>
        rw [hpx] at hp
        rw [hpx] at HST
        clear hpx
        subst hA
        go_wp2_with fail
        go_quiet ((go_at_call 65; exact Calls.quiet_of_same (sIndexByte_set HS.out x _)))
        go_wp2_with fail
        go_roundg (l.length - (k' + 1))
        case measure => omega
        case rel =>
          refine ⟨k' + 1, by omega, by omega, rfl, Lib.hid ⟨((HW.out.1.drewN _).setCell 1 _), (HW.out.2.1.drewN _).put (k' + 1) (by omega), ?_⟩⟩
          have hh := HW.out.2.2
          rw [HST.out] at hh
          simp only [if_true] at hh
          rw [hh, show k' + 1 - k = (k' - k) + 1 from by omega, List.take_add_one, List.getElem?_drop, show k + (k' - k) = k' from by omega, HX.out]
          simp
      | false =>
        rw [hpx] at hp
        rw [hpx] at HST
        have HEN := HBR.out [] HST.out
        clear hpx
        subst hA
        go_wp2_with fail
        go_quiet ((go_at_call 65; exact Calls.quiet_of_same (sIndexByte_set HS.out x _)))
        go_wp2_with fail
        go_quiet (fail)
        go_wp2_with fail
        go_ret
        exact ⟨ret_str HEN.out.1.symm, (HW.out.1.drewN _).drewN _, by rw [HEN.out.2]; exact (HW.out.2.1.drewN _).drewN _⟩
    · have d0 : decide ((k' : Int) < (l.length : Int)) = false := decide_eq_false (by omega)
      have HEN := HBR.out [] (by rw [List.drop_eq_nil_of_le (by omega)]; rfl)
      go_wp2_with fail
      go_quiet (fail)
      go_wp2_with fail
      go_quiet (fail)
      go_wp2_with fail
      go_ret
      exact ⟨ret_str HEN.out.1.symm, (HW.out.1.drewN _).drewN _, by rw [HEN.out.2]; exact (HW.out.2.1.drewN _).drewN _⟩
end Go.Proofs.YtcccnicldbpieaaGreatDoor
