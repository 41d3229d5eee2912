/- Chapter 01, modes: walks of the program and of its reference, function by function: what each call returns, for every input of its kind and in whatever memory; what was in memory stays. -/
import Derived.Test.YtinakfhijcmodaaT5
namespace Go.Proofs.Ytinakfhijcmodaa
open Go.RowKit
set_option linter.unusedVariables false
set_option linter.unusedSimpArgs false
/-- the slice value reads as the modes l -/
def Row8 (w : World) (A : Option Addr) (l : List Int) : Prop := l = [] ∨ ∃ b off, A = some ⟨b, off, none⟩ ∧ b < w.heap.size ∧ ∀ k, k < l.length → w.cell? ⟨b, off + k, none⟩ = some (.int .u8 (l.getD k 0))
theorem Row8.ext {w w' : World} {A : Option Addr} {l : List Int} (h : Row8 w A l) (hb : Ext w w') : Row8 w' A l := by
  rcases h with h | ⟨b, off, hA, hlt, hc⟩
  · exact .inl h
  · exact .inr ⟨b, off, hA, Nat.lt_of_lt_of_le hlt hb.size, fun k hk => (hb.cell (p := ⟨b, off + k, none⟩) hlt).trans (hc k hk)⟩
def joinB (l : List Int) : Int := l.foldl (fun b m => bits .or .u8 b (allowsN m)) 0
def joinN (l : List Int) : Int := leastN (joinB l)
theorem or_bd (a b : Int) (h0 : 0 ≤ a) (h1 : a < 16) (h2 : 0 ≤ b) (h3 : b < 16) : 0 ≤ bits .or .u8 a b ∧ bits .or .u8 a b < 16 := by
  obtain ⟨n, rfl⟩ := Int.eq_ofNat_of_zero_le h0
  obtain ⟨m, rfl⟩ := Int.eq_ofNat_of_zero_le h2
  have key : ∀ n, n < 16 → ∀ m, m < 16 → 0 ≤ bits .or .u8 (n : Nat) (m : Nat) ∧ bits .or .u8 (n : Nat) (m : Nat) < 16 := by decide +kernel
  exact key n (by omega) m (by omega)
theorem joinB_bd (l : List Int) : ∀ b, 0 ≤ b → b < 16 → 0 ≤ l.foldl (fun b m => bits .or .u8 b (allowsN m)) b ∧ l.foldl (fun b m => bits .or .u8 b (allowsN m)) b < 16 := by
  induction l with
  | nil => intro b h0 h1; exact ⟨h0, h1⟩
  | cons m l ih =>
    intro b h0 h1
    have h := or_bd b (allowsN m) h0 h1 (allowsN_lt m).1 (allowsN_lt m).2
    exact ih _ h.1 h.2
theorem joinB_snoc (l : List Int) (k : Nat) (h : k < l.length) : joinB (l.take (k + 1)) = bits .or .u8 (joinB (l.take k)) (allowsN (l.getD k 0)) := by
  unfold joinB
  rw [List.take_succ_eq_append_getElem h, List.foldl_append]
  simp [List.getD, h]
theorem ret_int {k : IntKind} {a b : Int} (h : a = b) : Ending.returned (.int k a) = .returned (.int k b) := by rw [h]
theorem ret_bool {a b : Bool} (h : a = b) : Ending.returned (.bool a) = .returned (.bool b) := by rw [h]
set_option maxHeartbeats 1000000 in
theorem join_any (A : Option Addr) (l : List Int) (c : Nat) (w : World) (hl : l.length ≤ 1000) (hr : Row8 w A l) (hm : ∀ k, 0 ≤ l.getD k 0 ∧ l.getD k 0 < 256) :
    Calls Try.prog 16 #[.slice A l.length c] w fun e w' => e = .returned (.int .u8 (joinN l)) ∧ w = w' := by
  rcases hr with rfl | ⟨b, off, rfl, hlt, hc⟩
  · go_enter Try.func16, Try.ntmps16
    go_wp2_with fail
    refine wp_loop_rounds 1 ?_
    rw [rounds_succ]
    go_wp2_with (go_at_call 35; refine (least_any _ _ (by omega) (by omega)).mono ?_; rintro e w' ⟨rfl, rfl⟩)
    go_ret
    exact ⟨rfl, rfl⟩
  · go_enter Try.func16, Try.ntmps16
    go_wp2_with fail
    go_loop [3, 8] (fun n i => ∃ k : Nat, k ≤ l.length ∧ i = .int .i64 k ∧ n = .int .u8 (joinB (l.take k))) (fun _ i => l.length - (intOf i).toNat)
    case atStart => exact ⟨0, Nat.zero_le _, rfl, rfl⟩
    case round =>
      obtain ⟨k, hk, rfl, rfl⟩ := hrel
      have hbd := joinB_bd (l.take k) 0 (by omega) (by omega)
      have hbd : 0 ≤ joinB (l.take k) ∧ joinB (l.take k) < 16 := hbd
      by_cases hlt' : k < l.length
      · have hcell := hc k hlt'
        have hmk := hm k
        have hsn := Lib.hid (joinB_snoc l k hlt')
        clear hc hm
        generalize l.getD k 0 = m at *
        go_wp2_with (go_at_call 32; refine (allows_any _ _ (by omega) (by omega)).mono ?_; rintro e w' ⟨rfl, rfl⟩)
        go_round
        case rel => exact ⟨k + 1, by omega, by go_num, by rw [hsn.out]⟩
        case measure => simp [intOf]; omega
      · have hkk : k = l.length := by omega
        have HJ : Hid (joinB (l.take k) = joinB l) := by rw [hkk, List.take_length]; exact Lib.hid rfl
        clear hc hm hkk
        generalize joinB (l.take k) = j at *
        go_wp2_with (go_at_call 35; refine (least_any _ _ (by omega) (by omega)).mono ?_; rintro e w' ⟨rfl, rfl⟩)
        go_ret
        exact ⟨ret_int (by unfold joinN; rw [HJ.out]), rfl⟩
theorem join_at (A : Option Addr) (l : List Int) (n c : Nat) (v : Int) (w : World) (hn : n = l.length) (hl : l.length ≤ 1000) (hr : Row8 w A l) (hm : ∀ k, 0 ≤ l.getD k 0 ∧ l.getD k 0 < 256) (h : Hid (joinN l = v)) :
    Calls Try.prog 16 #[.slice A n c] w fun e w' => e = .returned (.int .u8 v) ∧ w = w' := by
  subst hn; rw [← h.out]; exact join_any A l c w hl hr hm
def coversT (x y : Int) : Bool := coversN x y
/-- the search of ref Covers: some mode just below x covers y -/
theorem covers_step : ∀ x, x < 6 → ∀ y, y < 6 → coversN (x : Nat) (y : Nat) = (decide (x = y) || (List.range 6).any fun m => stepB (x : Nat) (m : Nat) && coversN (m : Nat) (y : Nat)) := by decide +kernel
theorem step_down : ∀ x, x < 6 → ∀ m, m < 6 → stepB (x : Nat) (m : Nat) = true → m < x := by decide +kernel
theorem allows_of (m : Int) (h : 0 ≤ m) : allowsN (ofM m) = allowsN m := by unfold allowsN ofM; omega
theorem covers_of (a b : Int) (h0 : 0 ≤ a) (h1 : 0 ≤ b) : coversN a b = coversN (ofM a) (ofM b) := by
  unfold coversN; rw [allows_of a h0, allows_of b h1]
theorem step_v (a b : Int) (v : Bool) (w : World) (h0 : 0 ≤ a) (h1 : a < 256) (h2 : 0 ≤ b) (h3 : b < 256) (h : Hid (stepB a b = v)) :
    Calls Try.prog 34 #[.int .u8 a, .int .u8 b] w fun e w' => e = .returned (.bool v) ∧ w = w' := by
  rw [← h.out]; exact step_any a b w h0 h1 h2 h3
theorem ofM_lt (x : Nat) (h : x < 6) : ofM (x : Int) = (x : Int) := by unfold ofM; rw [if_pos (by omega)]
set_option maxHeartbeats 1000000 in
theorem refcovers_x (n : Nat) : ∀ (x y : Nat) (a b : Int) (w : World), x < n → x < 6 → y < 6 → 0 ≤ a → a < 256 → 0 ≤ b → b < 256 → Hid (ofM a = x) → Hid (ofM b = y) →
    Calls Try.prog 15 #[.int .u8 a, .int .u8 b] w fun e w' => e = .returned (.bool (coversN x y)) ∧ w = w' := by
  induction n with
  | zero =>
    intro x y a b w hxn
    omega
  | succ n ih =>
    intro x y a b w hxn hx hy h0 h1 h2 h3 HX HY
    have hst := covers_step x hx y hy
    by_cases hxy : x = y
    · have hfin := Lib.hid (show coversN x y = true by rw [hst]; simp [hxy])
      have hb1 : ((x : Int) == (y : Int)) = true := beq_iff_eq.2 (by omega)
      clear hst hxy
      go_enter Try.func15, Try.ntmps15
      go_wp2_with fail
      refine (of_at _ _ _ h0 h1 HX).mono ?_
      rintro e w' ⟨rfl, rfl⟩
      go_wp2_with fail
      refine (of_at _ _ _ h2 h3 HY).mono ?_
      rintro e w' ⟨rfl, rfl⟩
      go_wp2_with fail
      go_ret
      exact ⟨ret_bool hfin.out.symm, rfl⟩
    · have hb1 : ((x : Int) == (y : Int)) = false := beq_eq_false_iff_ne.2 (by omega)
      have HST : Hid (coversN (x : Nat) (y : Nat) = (List.range 6).any fun m => stepB (x : Nat) (m : Nat) && coversN (m : Nat) (y : Nat)) := Lib.hid (by rw [hst]; simp [hxy])
      clear hst
      have HIH := Lib.hid ih
      clear ih
      go_enter Try.func15, Try.ntmps15
      go_wp2_with fail
      refine (of_at _ _ _ h0 h1 HX).mono ?_
      rintro e w' ⟨rfl, rfl⟩
      go_wp2_with fail
      refine (of_at _ _ _ h2 h3 HY).mono ?_
      rintro e w' ⟨rfl, rfl⟩
      go_wp2_with fail
      go_loop [7] (fun i => ∃ k : Nat, k ≤ 6 ∧ i = .int .u8 k ∧ Hid (∀ m, m < k → (stepB (x : Nat) (m : Nat) && coversN (m : Nat) (y : Nat)) = false)) (fun i => 6 - (intOf i).toNat)
      case atStart => exact ⟨0, Nat.zero_le _, rfl, fun m hm => by omega⟩
      case round =>
        obtain ⟨k, hk, rfl, HK⟩ := hrel
        by_cases hk6 : k < 6
        · cases hs : stepB (x : Nat) (k : Nat)
          · have HS := Lib.hid hs
            clear hs
            go_wp2_with fail
            refine (step_v _ _ _ _ (by omega) (by omega) (by omega) (by omega) HS).mono ?_
            rintro e w' ⟨rfl, rfl⟩
            go_wp2_with fail
            go_round
            case rel => exact ⟨k + 1, by omega, by go_num, fun m hm => by
              by_cases hmk : m = k
              · rw [hmk, HS.out]; rfl
              · exact HK.out m (by omega)⟩
            case measure => simp [intOf]; omega
          · have hlt := step_down x hx k hk6 hs
            have HS := Lib.hid hs
            clear hs
            cases hcv : coversN (k : Nat) (y : Nat)
            all_goals
              have HC := Lib.hid hcv
              clear hcv
              go_wp2_with fail
              refine (step_v _ _ _ _ (by omega) (by omega) (by omega) (by omega) HS).mono ?_
              rintro e w' ⟨rfl, rfl⟩
              go_wp2_with fail
              refine (HIH.out k y _ _ _ (by omega) hk6 hy (by omega) (by omega) (by omega) (by omega) (ofM_lt k hk6) (ofM_lt y hy)).mono ?_
              rw [HC.out]
              rintro e w' ⟨rfl, rfl⟩
              go_wp2_with fail
            · go_round
              case rel => exact ⟨k + 1, by omega, by go_num, fun m hm => by
                by_cases hmk : m = k
                · rw [hmk, HS.out, HC.out]; rfl
                · exact HK.out m (by omega)⟩
              case measure => simp [intOf]; omega
            · go_ret
              refine ⟨ret_bool ?_, rfl⟩
              rw [HST.out]
              exact (List.any_eq_true.2 ⟨k, List.mem_range.2 hk6, by rw [HS.out, HC.out]; rfl⟩).symm
        · have hk6 : k = 6 := by omega
          have HF : Hid (coversN (x : Nat) (y : Nat) = false) := by
            rw [HST.out]
            exact List.any_eq_false.2 fun m hm => by rw [HK.out m (by have := List.mem_range.1 hm; omega)]; simp
          subst hk6
          go_wp2_with fail
          go_ret
          exact ⟨ret_bool HF.out.symm, rfl⟩
theorem refcovers_at (a b : Int) (v : Bool) (w : World) (h0 : 0 ≤ a) (h1 : a < 256) (h2 : 0 ≤ b) (h3 : b < 256) (h : Hid (coversN a b = v)) :
    Calls Try.prog 15 #[.int .u8 a, .int .u8 b] w fun e w' => e = .returned (.bool v) ∧ w = w' := by
  have ha := ofM_bd a h0 h1
  have hb := ofM_bd b h2 h3
  rw [← h.out, covers_of a b h0 h2]
  obtain ⟨x, hx⟩ := Int.eq_ofNat_of_zero_le ha.1
  obtain ⟨y, hy⟩ := Int.eq_ofNat_of_zero_le hb.1
  rw [hx, hy]
  exact refcovers_x (x + 1) x y a b w (by omega) (by omega) (by omega) h0 h1 h2 h3 hx hy
end Go.Proofs.Ytinakfhijcmodaa
