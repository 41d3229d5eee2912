/- diag.In, interlocklaw02.works, DiagPlaces: walked; the plain law of places. Condition: errors.errorType reads as the program's text lays it. -/
import Derived.Test.YtjjeebocebhhaaaDoorLxK
namespace Go.Proofs.YtjjeebocebhhaaaDoor
open Go Go.RowKit
set_option linter.unusedVariables false
set_option linter.unusedSimpArgs false
/-! ### Places -/
theorem lastTo_take (l : Bs) (m : Nat) : ∀ k, k ≤ m → lastTo (l.take m) k = lastTo l k
  | 0, _ => rfl
  | k + 1, h => by
    unfold lastTo
    rw [lastTo_take l m k (by omega), show (l.take m).getD k 0 = l.getD k 0 from by simp [List.getElem?_take, show k < m from by omega]]
theorem line_step (l : Bs) (m : Nat) (h : m < l.length) : lineN l (m + 1) = lineN l m + (if l[m] = 10 then 1 else 0) := by
  unfold lineN
  rw [List.take_succ_eq_append_getElem h, List.count_append]
  by_cases hx : l[m] = 10
  · rw [hx, if_pos rfl]; simp
  · rw [if_neg hx, List.count_singleton, if_neg (by simpa using hx)]; simp
theorem last_step (l : Bs) (m : Nat) (h : m < l.length) : lastTo l (m + 1) = if l[m] = 10 then (m : Int) else lastTo l m := by
  conv => lhs; unfold lastTo
  rw [show l.getD m 0 = l[m] from by simp [h]]
  by_cases hx : l[m] = 10 <;> simp [hx]
theorem line_mono (l : Bs) (k : Nat) : ∀ m, k ≤ m → m ≤ l.length → lineN l k ≤ lineN l m ∧ (lineN l k = lineN l m → lastTo l k = lastTo l m)
  | 0, h, _ => by obtain rfl : k = 0 := by omega
                  exact ⟨Int.le_refl _, fun _ => rfl⟩
  | m + 1, h, hm => by
    by_cases hk : k = m + 1
    · subst hk; exact ⟨Int.le_refl _, fun _ => rfl⟩
    · obtain ⟨h1, h2⟩ := line_mono l k m (by omega) (by omega)
      rw [line_step l m (by omega), last_step l m (by omega)]
      by_cases hx : l[m] = 10
      · rw [if_pos hx, if_pos hx]; exact ⟨by omega, fun e => by omega⟩
      · rw [if_neg hx, if_neg hx]; exact ⟨by omega, fun e => h2 (by omega)⟩
theorem col_eq (l : Bs) (k : Nat) : colN l k = (k : Int) - lastTo l k := by unfold colN; rw [lastTo_take l k k (Nat.le_refl _)]
theorem place_cases (l : Bs) (x y : Nat) (hx : x ≤ l.length) (hy : y ≤ l.length) :
    ((x : Int) < y ∧ lineN l x < lineN l y) ∨ ((x : Int) < y ∧ lineN l x = lineN l y ∧ colN l x < colN l y) ∨ ((x : Int) = y ∧ lineN l x = lineN l y ∧ colN l x = colN l y) ∨
    ((y : Int) < x ∧ lineN l y < lineN l x) ∨ ((y : Int) < x ∧ lineN l x = lineN l y ∧ colN l y < colN l x) := by
  rw [col_eq, col_eq]
  rcases Nat.lt_trichotomy x y with h | h | h
  · obtain ⟨h1, h2⟩ := line_mono l x y (by omega) hy
    by_cases he : lineN l x = lineN l y
    · have := h2 he; exact .inr (.inl ⟨by omega, he, by omega⟩)
    · exact .inl ⟨by omega, by omega⟩
  · subst h; exact .inr (.inr (.inl ⟨rfl, rfl, rfl⟩))
  · obtain ⟨h1, h2⟩ := line_mono l y x (by omega) hx
    by_cases he : lineN l y = lineN l x
    · have := h2 he; exact .inr (.inr (.inr (.inr ⟨by omega, he.symm, by omega⟩)))
    · exact .inr (.inr (.inr (.inl ⟨by omega, by omega⟩)))
theorem line_one (l : Bs) (k : Nat) : 1 ≤ lineN l k := by unfold lineN; omega
theorem col_one (l : Bs) (k : Nat) : 1 ≤ colN l k := by have := (lastTo_bd (l.take k) k).2; unfold colN; omega
/-! ### Errors -/
set_option maxHeartbeats 2000000 in
theorem in_any (t : TypeId) (v : Value) (s : ByteArray) (w : World) : Calls Tryd.prog 30 #[.iface t v, .string s] w fun e w' => e = .returned (.iface 80 (.agg #[.iface t v, .string s])) ∧ w = w' := by
  go_enter Tryd.func30, Tryd.ntmps30
  go_wp2_with fail
  go_ret
  exact ⟨rfl, rfl⟩
theorem new_at (A : Option Addr) (l : Bs) (n c : Nat) (at_ er : Int) (w : World) (hn : n = l.length) (hbig : l.length ≤ 140737488355328) (hcap : l.length ≤ c) (hat1 : -9223372036854775808 ≤ at_) (hat2 : at_ ≤ 9223372036854775807) (h : Cells w A (bcells l)) (her : er ≠ 0) (a' : Nat) (l' c' : Int) (ha : atN at_ l.length = a') (hl : lineN l a' = l') (hc : colN l a' = c') :
    Calls Tryd.prog 14 #[.slice A n c, .int .i64 at_, .int .i64 er] w fun e w' => ∃ g, e = .returned (.iface 57 (.pointer (some ⟨g, 0, none⟩))) ∧ w.heap.size ≤ g ∧ Blk w' g 61 #[.int .i64 (a' : Int), .int .i64 l', .int .i64 c', .int .i64 er] ∧ Ext w w' := by
  subst ha hl hc
  exact new_any A l n c at_ er w hn hbig hcap hat1 hat2 h her
set_option maxHeartbeats 8000000 in
set_option maxRecDepth 100000 in
theorem works2_any (w : World) (hG : GT w) : Calls Tryd.prog 12 #[] w fun e w' => e = .returned (.bool true) ∧ Ext w w' := by
  have HG := Lib.hid hG
  clear hG
  have v1 := fun W => lit_conv W #[.int .u8 97, .int .u8 98, .int .u8 10, .int .u8 99] 4 rfl
  have HC1 := Lib.hid (lit_cells w #[.int .u8 97, .int .u8 98, .int .u8 10, .int .u8 99] 4 [97, 98, 10, 99] rfl)
  have HX1 := Lib.hid (lit_ext w #[.int .u8 97, .int .u8 98, .int .u8 10, .int .u8 99] 4)
  go_enter Tryd.func12, Tryd.ntmps12
  go_wp2_with fail
  refine (new_at _ [97, 98, 10, 99] 4 4 3 50 _ rfl (by decide) (by decide) (by decide) (by decide) HC1.out (by decide) 3 2 1 (by decide) (by decide +kernel) (by decide +kernel)).mono ?_
  rintro e w1 ⟨g1, rfl, _, hb1, hx1⟩
  have HB1 := Lib.hid hb1
  have HX1' := Lib.hid (HX1.out.trans hx1)
  clear hb1 hx1 v1 HC1 HX1
  go_wp2_with fail
  refine (place_at g1 _ _ _ _ w1 (HG.out.ext HX1'.out) HB1.out).mono ?_
  rintro e w2 ⟨rfl, hx2⟩
  have HX2 := Lib.hid (HX1'.out.trans hx2)
  clear hx2
  go_wp2_with fail
  refine (new_at none [] 0 0 5 51 w2 rfl (by decide) (by decide) (by decide) (by decide) (.inl rfl) (by decide) 0 1 1 (by decide) (by decide +kernel) (by decide +kernel)).mono ?_
  rintro e w3 ⟨g3, rfl, _, hb3, hx3⟩
  have HB3 := Lib.hid hb3
  have HX3 := Lib.hid (HX2.out.trans hx3)
  clear hb3 hx3
  go_wp2_with fail
  refine (place_at g3 _ _ _ _ w3 (HG.out.ext HX3.out) HB3.out).mono ?_
  rintro e w4 ⟨rfl, hx4⟩
  have HX4 := Lib.hid (HX3.out.trans hx4)
  clear hx4
  go_wp2_with fail
  refine (new_at none [] 0 0 0 50 w4 rfl (by decide) (by decide) (by decide) (by decide) (.inl rfl) (by decide) 0 1 1 (by decide) (by decide +kernel) (by decide +kernel)).mono ?_
  rintro e w5 ⟨g5, rfl, _, hb5, hx5⟩
  have HB5 := Lib.hid hb5
  have HX5 := Lib.hid (HX4.out.trans hx5)
  clear hb5 hx5
  go_wp2_with fail
  refine (in_any _ _ _ w5).mono ?_
  rintro e w' ⟨rfl, rfl⟩
  go_wp2_with fail
  refine (code_any (.inn (.at_ g5 0 1 1 50) ⟨#[112]⟩) w5 (HG.out.ext HX5.out) HB5.out).mono ?_
  rintro e w6 ⟨rfl, hx6⟩
  have HX6 := Lib.hid (HX5.out.trans hx6)
  clear hx6
  rw [show (ErrV.inn (.at_ g5 0 1 1 50) ⟨#[112]⟩).code = 50 from rfl]
  go_wp2_with fail
  refine (code_nil w6).mono ?_
  rintro e w' ⟨rfl, rfl⟩
  go_wp2_with fail
  go_ret
  exact ⟨rfl, HX6.out⟩
set_option maxHeartbeats 8000000 in
set_option maxRecDepth 10000 in
theorem diagPlaces_any (A : Option Addr) (l : Bs) (n c : Nat) (a b : Int) (w : World) (hG : GT w) (hn : n = l.length) (hcap : l.length ≤ c) (ha : (Lit.int .i64 a).wf = true) (hb : (Lit.int .i64 b).wf = true) (h : Cells w A (bcells l)) :
    Calls Tryd.prog 3 #[.slice A n c, .int .i64 a, .int .i64 b] w fun e w' => e = .returned (.bool true) ∧ Ext w w' := by
  subst hn
  have hmin : IntKind.i64.min = -9223372036854775808 := rfl
  have hmax : IntKind.i64.max = 9223372036854775807 := rfl
  simp only [Lit.wf, Bool.and_eq_true, decide_eq_true_eq, hmin, hmax] at ha hb
  obtain ⟨ha1, ha2⟩ := ha
  obtain ⟨hb1, hb2⟩ := hb
  have HG := Lib.hid hG
  have HC := Lib.hid h
  clear hG h hmin hmax
  by_cases h500 : 500 < l.length
  · have d0 : decide ((500 : Int) < (l.length : Int)) = true := decide_eq_true (by omega)
    go_enter Tryd.func3, Tryd.ntmps3
    go_wp2_with fail
    refine (works2_any w HG.out).mono ?_
    rintro e w' ⟨rfl, hx⟩
    go_wp2_with fail
    go_ret
    exact ⟨rfl, hx⟩
  · have d0 : decide ((500 : Int) < (l.length : Int)) = false := decide_eq_false (by omega)
    go_enter Tryd.func3, Tryd.ntmps3
    go_wp2_with fail
    refine (new_any A l l.length c a 50 w rfl (by omega) hcap ha1 ha2 HC.out (by decide)).mono ?_
    rintro e w1 ⟨g1, rfl, _, hb1, hx1⟩
    have HB1 := Lib.hid hb1
    have HX1 := Lib.hid hx1
    clear hb1 hx1
    go_wp2_with fail
    refine (place_at g1 _ _ _ _ w1 (HG.out.ext HX1.out) HB1.out).mono ?_
    rintro e w2 ⟨rfl, hx2⟩
    have HX2 := Lib.hid (HX1.out.trans hx2)
    clear hx2
    go_wp2_with fail
    refine (new_any A l l.length c b 51 w2 rfl (by omega) hcap hb1 hb2 (HC.out.ext HX2.out) (by decide)).mono ?_
    rintro e w3 ⟨g3, rfl, _, hb3, hx3⟩
    have HB3 := Lib.hid hb3
    have HX3 := Lib.hid (HX2.out.trans hx3)
    clear hb3 hx3
    go_wp2_with fail
    refine (place_at g3 _ _ _ _ w3 (HG.out.ext HX3.out) HB3.out).mono ?_
    rintro e w4 ⟨rfl, hx4⟩
    have HX4 := Lib.hid (HX3.out.trans hx4)
    have hpc := place_cases l (atN a l.length) (atN b l.length) (atN_le a _) (atN_le b _)
    have hl1 := line_one l (atN a l.length)
    have hc1 := col_one l (atN a l.length)
    clear hx4 HB1 HB3
    generalize lineN l (atN a l.length) = L at *
    generalize lineN l (atN b l.length) = M at *
    generalize colN l (atN a l.length) = C at *
    generalize colN l (atN b l.length) = D at *
    generalize ((atN a l.length : Nat) : Int) = X at *
    generalize ((atN b l.length : Nat) : Int) = Y at *
    have k1 : decide ((1 : Int) ≤ L) = true := decide_eq_true hl1
    have k2 : decide ((1 : Int) ≤ C) = true := decide_eq_true hc1
    rcases hpc with ⟨p1, p2⟩ | ⟨p1, p2, p3⟩ | ⟨p1, p2, p3⟩ | ⟨p1, p2⟩ | ⟨p1, p2, p3⟩
    · have k3 : decide (X < Y) = true := decide_eq_true (by omega)
      have k4 : decide (L < M) = true := decide_eq_true (by omega)
      have k5 : (X == Y) = false := by rw [beq_eq_false_iff_ne]; omega
      have k6 : (L == M) = false := by rw [beq_eq_false_iff_ne]; omega
      go_wp2_with fail
      refine (works2_any w4 (HG.out.ext HX4.out)).mono ?_
      rintro e w5 ⟨rfl, hx5⟩
      go_wp2_with fail
      go_ret
      exact ⟨rfl, HX4.out.trans hx5⟩
    · have k3 : decide (X < Y) = true := decide_eq_true (by omega)
      have k4 : decide (L < M) = false := decide_eq_false (by omega)
      have k7 : (L == M) = true := by rw [beq_iff_eq]; omega
      have k8 : decide (C < D) = true := decide_eq_true (by omega)
      have k5 : (X == Y) = false := by rw [beq_eq_false_iff_ne]; omega
      have k6 : (C == D) = false := by rw [beq_eq_false_iff_ne]; omega
      go_wp2_with fail
      refine (works2_any w4 (HG.out.ext HX4.out)).mono ?_
      rintro e w5 ⟨rfl, hx5⟩
      go_wp2_with fail
      go_ret
      exact ⟨rfl, HX4.out.trans hx5⟩
    · have k3 : decide (X < Y) = false := decide_eq_false (by omega)
      have k4 : decide (L < M) = false := decide_eq_false (by omega)
      have k7 : (L == M) = true := by rw [beq_iff_eq]; omega
      have k8 : decide (C < D) = false := decide_eq_false (by omega)
      have k5 : (X == Y) = true := by rw [beq_iff_eq]; omega
      have k6 : (C == D) = true := by rw [beq_iff_eq]; omega
      go_wp2_with fail
      refine (works2_any w4 (HG.out.ext HX4.out)).mono ?_
      rintro e w5 ⟨rfl, hx5⟩
      go_wp2_with fail
      go_ret
      exact ⟨rfl, HX4.out.trans hx5⟩
    · have k3 : decide (X < Y) = false := decide_eq_false (by omega)
      have k4 : decide (L < M) = false := decide_eq_false (by omega)
      have k7 : (L == M) = false := by rw [beq_eq_false_iff_ne]; omega
      have k5 : (X == Y) = false := by rw [beq_eq_false_iff_ne]; omega
      go_wp2_with fail
      refine (works2_any w4 (HG.out.ext HX4.out)).mono ?_
      rintro e w5 ⟨rfl, hx5⟩
      go_wp2_with fail
      go_ret
      exact ⟨rfl, HX4.out.trans hx5⟩
    · have k3 : decide (X < Y) = false := decide_eq_false (by omega)
      have k4 : decide (L < M) = false := decide_eq_false (by omega)
      have k7 : (L == M) = true := by rw [beq_iff_eq]; omega
      have k8 : decide (C < D) = false := decide_eq_false (by omega)
      have k5 : (X == Y) = false := by rw [beq_eq_false_iff_ne]; omega
      have k6 : (C == D) = false := by rw [beq_eq_false_iff_ne]; omega
      go_wp2_with fail
      refine (works2_any w4 (HG.out.ext HX4.out)).mono ?_
      rintro e w5 ⟨rfl, hx5⟩
      go_wp2_with fail
      go_ret
      exact ⟨rfl, HX4.out.trans hx5⟩
end Go.Proofs.YtjjeebocebhhaaaDoor
