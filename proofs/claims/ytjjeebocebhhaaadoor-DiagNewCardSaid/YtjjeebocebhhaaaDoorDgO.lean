/- DiagNew, walked: always true. Conditions: errors.errorType and internal/strconv.uint64pow10 read as the program's text lays them. -/
import Derived.Test.YtjjeebocebhhaaaDoorDgN
namespace Go.Proofs.YtjjeebocebhhaaaDoor
open Go Go.RowKit
set_option linter.unusedVariables false
set_option linter.unusedSimpArgs false
set_option maxHeartbeats 1000000 in
theorem new_zero (A : Option Addr) (n c : Nat) (at_ : Int) (w : World) : Calls Tryd.prog 14 #[.slice A n c, .int .i64 at_, .int .i64 0] w fun e w' => e = .returned .nilIface ∧ w = w' := by
  go_enter Tryd.func14, Tryd.ntmps14
  go_wp2_with fail
  go_ret
  exact ⟨rfl, rfl⟩
theorem eqIn_errno (d : Nat) (E : Int) (w : World) : (Op.equalIn (d + 2) 27 (.iface 29 (.int .i64 E)) (.iface 29 (.int .i64 E))).run Tryd.prog w = .ok true w := by
  have hc : (Tryd.prog.info? 29).map (fun i => i.comparable) = some true := by kernel_rfl
  obtain ⟨i, hi, hcomp⟩ := Option.map_eq_some_iff.1 hc
  simp [Op.equalIn, run_underlying Tryd.underlying27, run_underlying Tryd.underlying29, typeInfo, hi, hcomp]
theorem eql_errno (E : Int) (w : World) : (binOp BinOp.eql 27 (.iface 29 (.int .i64 E)) (.iface 29 (.int .i64 E))).run Tryd.prog w = .ok (.bool true) w := by
  simp only [binOp]
  simp [Op.equal, Op.maxDepth, eqIn_errno 9998 E w]
theorem line_le (l : Bs) (k : Nat) : lineN l k ≤ (l.length : Int) + 1 := by
  unfold lineN
  have := List.count_le_length (a := (10 : UInt8)) (l := l.take k)
  rw [List.length_take] at this
  omega
theorem col_le (l : Bs) (k : Nat) : colN l k ≤ (k : Int) + 1 := by have := (lastTo_bd (l.take k) k).1; unfold colN; omega
set_option maxHeartbeats 8000000 in
set_option maxRecDepth 10000 in
theorem diagNew_any (A : Option Addr) (l : Bs) (n c : Nat) (a E : Int) (w : World) (hG : GT w) (hP : PW w) (hn : n = l.length) (hcap : l.length ≤ c) (ha : (Lit.int .i64 a).wf = true) (hE : (Lit.int .i64 E).wf = true) (h : Cells w A (bcells l)) :
    Calls Tryd.prog 10 #[.slice A n c, .int .i64 a, .int .i64 E] w fun e w' => e = .returned (.bool true) ∧ Ext w w' := by
  subst hn
  have hmin : IntKind.i64.min = -9223372036854775808 := rfl
  have hmax : IntKind.i64.max = 9223372036854775807 := rfl
  simp only [Lit.wf, Bool.and_eq_true, decide_eq_true_eq, hmin, hmax] at ha hE
  obtain ⟨ha1, ha2⟩ := ha
  obtain ⟨hE1, hE2⟩ := hE
  have HG := Lib.hid hG
  have HP := Lib.hid hP
  have HC := Lib.hid h
  clear hG h hP hmin hmax
  by_cases h500 : 500 < l.length
  · have d0 : decide ((500 : Int) < (l.length : Int)) = true := decide_eq_true (by omega)
    go_enter Tryd.func10, Tryd.ntmps10
    go_wp2_with fail
    refine (works2_any w HG.out).mono ?_
    rintro e w' ⟨rfl, hx⟩
    go_wp2_with fail
    go_ret
    exact ⟨rfl, hx⟩
  · have d0 : decide ((500 : Int) < (l.length : Int)) = false := decide_eq_false (by omega)
    by_cases hE0 : E = 0
    · subst hE0
      go_enter Tryd.func10, Tryd.ntmps10
      go_wp2_with fail
      refine (new_zero A l.length c a w).mono ?_
      rintro e w' ⟨rfl, rfl⟩
      go_wp2_with fail
      refine (code_nil w).mono ?_
      rintro e w' ⟨rfl, rfl⟩
      go_wp2_with fail
      refine (works2_any w HG.out).mono ?_
      rintro e w' ⟨rfl, hx⟩
      go_wp2_with fail
      go_ret
      exact ⟨rfl, hx⟩
    · have d1 : (E == 0) = false := by rw [beq_eq_false_iff_ne]; exact hE0
      go_enter Tryd.func10, Tryd.ntmps10
      go_wp2_with fail
      refine (new_any A l l.length c a E w rfl (by omega) hcap ha1 ha2 HC.out hE0).mono ?_
      rintro e w1 ⟨g1, rfl, _, hb1, hx1⟩
      have HB1 := Lib.hid hb1
      have HX1 := Lib.hid hx1
      clear hb1 hx1
      go_wp2_with fail
      refine (where_any A l l.length c a w1 rfl (by omega) (HC.out.ext HX1.out)).mono ?_
      rintro e w' ⟨rfl, rfl⟩
      have HAT := Lib.hid (rat_any A l.length c a)
      have hl1 := line_one l (atN a l.length)
      have hc1 := col_one l (atN a l.length)
      have hl2 := line_le l (atN a l.length)
      have hc2 := col_le l (atN a l.length)
      have hql := atN_le a l.length
      generalize lineN l (atN a l.length) = L at *
      generalize colN l (atN a l.length) = C at *
      generalize atN a l.length = q at *
      have hL : -9223372036854775808 ≤ L ∧ L ≤ 9223372036854775807 := ⟨by omega, by omega⟩
      have hC : -9223372036854775808 ≤ C ∧ C ≤ 9223372036854775807 := ⟨by omega, by omega⟩
      have HLC := Lib.hid (And.intro hL hC)
      have zL := itoaS_size L hL.1 hL.2
      have zC := itoaS_size C hC.1 hC.2
      have zE := errS_size E hE1 hE2
      have z1 : ¬ (9223372036854775807 < 5 + (itoaS L).size) := by omega
      have z2 : ¬ (9223372036854775807 < 5 + (itoaS L).size + 9) := by omega
      have z3 : ¬ (9223372036854775807 < 5 + (itoaS L).size + 9 + (itoaS C).size) := by omega
      have z4 : ¬ (9223372036854775807 < 5 + (itoaS L).size + 9 + (itoaS C).size + 2) := by omega
      have z5 : ¬ (9223372036854775807 < 5 + (itoaS L).size + 9 + (itoaS C).size + 2 + (errS E).size) := by omega
      clear hL hC
      go_wp2_with fail
      refine (place_at g1 _ _ _ _ w1 (HG.out.ext HX1.out) HB1.out).mono ?_
      rintro e w2 ⟨rfl, hx2⟩
      have HX2 := Lib.hid (HX1.out.trans hx2)
      have HB2 := Lib.hid (HB1.out.ext hx2)
      clear hx2 HB1
      go_wp2_with fail
      refine (itoaX L HLC.out.1.1 HLC.out.1.2 w2 (HP.out.ext HX2.out)).mono ?_
      rintro e w3 ⟨rfl, hx3⟩
      have HX3 := Lib.hid (HX2.out.trans hx3)
      have HB3 := Lib.hid (HB2.out.ext hx3)
      clear hx3 HB2
      go_wp2_with fail
      refine (itoaX C HLC.out.2.1 HLC.out.2.2 w3 (HP.out.ext HX3.out)).mono ?_
      rintro e w4 ⟨rfl, hx4⟩
      have HX4 := Lib.hid (HX3.out.trans hx4)
      have HB4 := Lib.hid (HB3.out.ext hx4)
      clear hx4 HB3
      go_wp2_with fail
      refine (errno_any E hE1 hE2 w4 (HP.out.ext HX4.out)).mono ?_
      rintro e w5 ⟨rfl, hx5⟩
      have HX5 := Lib.hid (HX4.out.trans hx5)
      have HB5 := Lib.hid (HB4.out.ext hx5)
      clear hx5 HB4
      have mE := rf_mErrE
      go_wp2_with fail
      refine (HAT.out w5).mono ?_
      rintro e w' ⟨rfl, rfl⟩
      go_wp2_with fail
      refine (eerr_any g1 _ L C E w5 HLC.out.1 HLC.out.2 ⟨hE1, hE2⟩ HB5.out (HP.out.ext HX5.out)).mono ?_
      rintro e w6 ⟨rfl, hx6⟩
      have HX6 := Lib.hid (HX5.out.trans hx6)
      have HB6 := Lib.hid (HB5.out.ext hx6)
      clear hx6 HB5
      rw [show textS L C E = (⟨#[108, 105, 110, 101, 32]⟩ : ByteArray) ++ itoaS L ++ ⟨#[44, 32, 99, 111, 108, 117, 109, 110, 32]⟩ ++ itoaS C ++ ⟨#[58, 32]⟩ ++ errS E from rfl]
      have qE := eql_errno E
      go_wp2_with fail
      refine (unwrap_at g1 _ L C E w6 HB6.out).mono ?_
      rintro e w' ⟨rfl, rfl⟩
      go_wp2_with fail
      refine (code_at g1 _ _ _ _ w6 (HG.out.ext HX6.out) HB6.out).mono ?_
      rintro e w7 ⟨rfl, hx7⟩
      have HX7 := Lib.hid (HX6.out.trans hx7)
      clear hx7
      go_wp2_with fail
      refine (works2_any w7 (HG.out.ext HX7.out)).mono ?_
      rintro e w8 ⟨rfl, hx8⟩
      go_wp2_with fail
      go_ret
      exact ⟨rfl, HX7.out.trans hx8⟩
end Go.Proofs.YtjjeebocebhhaaaDoor
