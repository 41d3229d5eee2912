/- LexKnown, walked: true. Condition: errors.errorType reads as the program's text lays it. -/
import Derived.Test.YtjjeebocebhhaaaDoorLxBlanks
import Derived.Test.YtjjeebocebhhaaaDoorLxNames
import Derived.Deep.OwnRows
namespace Go.Proofs.YtjjeebocebhhaaaDoor
open Go Go.RowKit
set_option linter.unusedVariables false
set_option linter.unusedSimpArgs false
theorem lexL_blank : ∀ (n p : Nat), lexL p (List.replicate n 32) = .ok [⟨4, p + n, p + n, [], 0⟩]
  | 0, p => lexL_fin p
  | n + 1, p => by
    rw [List.replicate_succ, lexL_skip (k := 1) (by rfl)]
    show lexL (p + 1) (List.replicate n 32) = _
    rw [lexL_blank n (p + 1), show p + 1 + n = p + (n + 1) from by omega]
theorem made (n : Nat) (m : Int) (hm : m = (n : Int)) (hn : n ≤ 1000000) (w : World) : ∃ cs : Array Value, (Instr.makeSlice 22 (.int .i64 m) (.int .i64 m)).run Tryd.prog w = .ok (.slice (some ⟨w.heap.size, 0, none⟩) n n) (w.alloc (.cells cs 5)) ∧ cs.size = n ∧ ∀ k, k < n → cs[k]? = some (.int .u8 0) := by
  subst hm
  exact ⟨madeCells #[.int .u8 0] n, run_make_row' 22 5 (.int .u8 0) 1 Tryd.underlying22 infoU8 rfl .i64 .i64 n (by omega) (by omega) w, size_madeCells _ _, fun i hi => by simp [madeCells, hi, Nat.mod_one]⟩
theorem row_cells {w : World} {g n : Nat} {cs : Array Value} {b : UInt8} (hB : Blk w g 5 cs) (hs : cs.size = n) (h : ∀ k, k < n → cs[k]? = some (.int .u8 (b.toNat : Int))) : Cells w (some ⟨g, 0, none⟩) (bcells (List.replicate n b)) :=
  .inr ⟨g, 0, rfl, hB.lt, fun k hk => by
    rw [bcells_len, List.length_replicate] at hk
    rw [Nat.zero_add, cell_of_row _ _ k _ _ _ hB, h k hk, bcells_at _ k (by rw [List.length_replicate]; exact hk), List.getElem_replicate]⟩
theorem ext_far {w w' : World} (h : Ext w w') {b : Nat} (hb : w.heap.size ≤ b) (i : Nat) (u : Value) : Ext w (w'.setCell ⟨b, i, none⟩ u) :=
  ⟨h.os, h.tape, h.output, by simp [World.setCell]; exact h.size, fun k hk => (Below.heap_setCell _ _ _ _ (show k ≠ b by omega)).trans (h.block k hk)⟩
theorem lex_zeros {g n : Nat} (h1 : 65536 < n) (h2 : n ≤ 1000000) (w : World) (h : Cells w (some ⟨g, 0, none⟩) (bcells (List.replicate n 0))) :
    Calls Tryd.prog 16 #[.slice (some ⟨g, 0, none⟩) n n] w fun e w' => ∃ g2 L C, e = .returned (.tuple #[.slice none 0 0, .iface 57 (.pointer (some ⟨g2, 0, none⟩))]) ∧ Blk w' g2 61 #[.int .i64 0, .int .i64 L, .int .i64 C, .int .i64 3] ∧ Ext w w' := by
  have hl : (List.replicate n (0 : UInt8)).length = n := List.length_replicate
  refine (lex_any (some ⟨g, 0, none⟩) (List.replicate n 0) n n w hl.symm (by omega) (by omega) (fun h => by cases h) h).mono ?_
  rw [show lexS (List.replicate n 0) = .err 0 3 from by unfold lexS; rw [if_pos (by omega)]]
  rintro e w' ⟨hx, g2, rfl, _, hb⟩
  exact ⟨g2, _, _, rfl, hb, hx⟩
theorem lex_blanks {g n : Nat} (h1 : n ≤ 65536) (w : World) (h : Cells w (some ⟨g, 0, none⟩) (bcells (List.replicate n 32))) :
    Calls Tryd.prog 16 #[.slice (some ⟨g, 0, none⟩) n n] w fun e w' => ∃ A' c', e = .returned (.tuple #[.slice A' 1 c', .nilIface]) ∧ Ext w w' := by
  have hl : (List.replicate n (32 : UInt8)).length = n := List.length_replicate
  refine (lex_any (some ⟨g, 0, none⟩) (List.replicate n 32) n n w hl.symm (by omega) (by omega) (fun h => by cases h) h).mono ?_
  rw [show lexS (List.replicate n 32) = .ok [⟨4, 0 + n, 0 + n, [], 0⟩] from by unfold lexS; rw [if_neg (by omega), lexL_blank]]
  rintro e w' ⟨hx, A', c', rfl, _⟩
  exact ⟨A', c', rfl, hx⟩
def SS : List Bs := [[50, 49, 52, 55, 52, 56, 51, 54, 52, 55], [50, 49, 52, 55, 52, 56, 51, 54, 52, 56], [48, 48, 48, 48, 50, 49, 52, 55, 52, 56, 51, 54, 52, 55], [57, 57, 57, 57, 57, 57, 57, 57, 57, 57, 57, 57, 57, 57, 57, 57, 57, 57, 57, 57, 57, 57, 57, 57, 57, 57], [112, 114, 111, 99, 32, 112, 40, 97, 44, 32, 98, 41, 32, 115, 105, 110, 103, 108, 101, 32, 123, 32, 114, 101, 97, 100, 32, 120, 32, 61, 32, 116, 91, 97, 32, 43, 32, 49, 93, 46, 99, 32, 102, 111, 114, 32, 117, 112, 100, 97, 116, 101, 59, 32, 125], [97, 35], [97, 35, 98, 10, 99], [0], [195, 164], []]
def S13 : Bs := [97, 48, 95, 61, 32, 35, 10, 59, 123, 36, 90, 122, 45]
set_option maxHeartbeats 8000000 in
set_option maxRecDepth 10000 in
theorem lexKnown_any (w : World) (hG : GT w) : Calls Tryd.prog 9 #[] w fun e w' => e = .returned (.bool true) ∧ Ext w w' := by
  have HG := Lib.hid hG
  clear hG
  go_enter Tryd.func9, Tryd.ntmps9
  go_wp2_with fail
  go_loopw [1] (fun m wr => ∃ k : Nat, k ≤ 2197 ∧ m = .int .i64 k ∧ Hid (Ext w wr)) (fun m _ => 2197 - (intOf m).toNat)
  case atStart => exact ⟨0, Nat.zero_le _, rfl, Lib.hid (Ext.refl _)⟩
  case round =>
    obtain ⟨k, hk, rfl, HX⟩ := hrel
    obtain ⟨wa, rfl⟩ : ∃ wa : World, wa = wr := ⟨_, rfl⟩
    by_cases hlt : k < 2197
    · have d1 : decide ((k : Int) < 2197) = true := decide_eq_true (by omega)
      have v1 := lit_conv wa #[.int .u8 97, .int .u8 48, .int .u8 95, .int .u8 61, .int .u8 32, .int .u8 35, .int .u8 10, .int .u8 59, .int .u8 123, .int .u8 36, .int .u8 90, .int .u8 122, .int .u8 45] 13 rfl
      have HC1 := Lib.hid (lit_cells wa #[.int .u8 97, .int .u8 48, .int .u8 95, .int .u8 61, .int .u8 32, .int .u8 35, .int .u8 10, .int .u8 59, .int .u8 123, .int .u8 36, .int .u8 90, .int .u8 122, .int .u8 45] 13 S13 rfl)
      have HX1 := Lib.hid (HX.out.trans (lit_ext wa #[.int .u8 97, .int .u8 48, .int .u8 95, .int .u8 61, .int .u8 32, .int .u8 35, .int .u8 10, .int .u8 59, .int .u8 123, .int .u8 36, .int .u8 90, .int .u8 122, .int .u8 45] 13))
      go_upto_region 5 with fail
      generalize (wa.alloc (.cells #[.int .u8 97, .int .u8 48, .int .u8 95, .int .u8 61, .int .u8 32, .int .u8 35, .int .u8 10, .int .u8 59, .int .u8 123, .int .u8 36, .int .u8 90, .int .u8 122, .int .u8 45] 5)).freeze ⟨wa.heap.size, 13, none⟩ 1 = w4 at *
      generalize wa.heap.size = gs at *
      clear v1
      obtain ⟨b, off, hA, hgl, hc⟩ := HC1.out.at_ (by decide)
      injection hA with hA
      injection hA with hA1 hA2
      subst hA1 hA2
      simp only [Nat.zero_add] at hc
      obtain ⟨i1, hi1⟩ : ∃ i1, k % 13 = i1 := ⟨_, rfl⟩
      obtain ⟨i2, hi2⟩ : ∃ i2, k / 13 % 13 = i2 := ⟨_, rfl⟩
      obtain ⟨i3, hi3⟩ : ∃ i3, k / 169 = i3 := ⟨_, rfl⟩
      have q1 : i1 < 13 := by omega
      have q2 : i2 < 13 := by omega
      have q3 : i3 < 13 := by omega
      have c1 : w4.cell? ⟨gs, i1, none⟩ = some (.int .u8 ((S13[i1]'q1).toNat : Int)) := by rw [hc i1 q1]; exact bcells_at S13 i1 q1
      have c2 : w4.cell? ⟨gs, i2, none⟩ = some (.int .u8 ((S13[i2]'q2).toNat : Int)) := by rw [hc i2 q2]; exact bcells_at S13 i2 q2
      have c3 : w4.cell? ⟨gs, i3, none⟩ = some (.int .u8 ((S13[i3]'q3).toNat : Int)) := by rw [hc i3 q3]; exact bcells_at S13 i3 q3
      generalize (S13[i1]'q1) = x1 at *
      generalize (S13[i2]'q2) = x2 at *
      generalize (S13[i3]'q3) = x3 at *
      have v1 : (k : Int).tmod 13 = (i1 : Int) := by rw [Int.tmod_eq_emod_of_nonneg (by omega)]; omega
      have v2 : ((k : Int) / 13).tmod 13 = (i2 : Int) := by rw [Int.tmod_eq_emod_of_nonneg (by omega)]; omega
      have w13 : IntKind.i64.wrap ((k : Int) / 13) = (k : Int) / 13 := by rw [IntKind.wrap_i64]; omega
      have v3 : IntKind.i64.wrap ((k : Int) / 169) = (i3 : Int) := by rw [show (k : Int) / 169 = (i3 : Int) from by omega, IntKind.wrap_i64]; omega
      have p1 : (i1 : Int) < 13 := by omega
      have p2 : (i2 : Int) < 13 := by omega
      have p3 : (i3 : Int) < 13 := by omega
      clear hc hi1 hi2 hi3 HC1
      apply wp_region_ext_tail 16 (by kernel_rfl) (by kernel_rfl) (by kernel_rfl)
      dsimp only [List.take_succ_cons, List.take_zero, List.drop_succ_cons, List.drop_zero]
      apply step_det (.slice (some ⟨gs, 0, none⟩) 13 13) rfl rfl rfl
      · intro w' hw' hH
        clear hH
        simp [YieldsF, go_sem]
        exact Ext.refl _
      apply step_det (.int .i64 (k : Int)) rfl rfl rfl
      · intro w' hw' hH
        clear hH
        simp [YieldsF, go_sem]
        exact Ext.refl _
      apply step_det (.int .i64 (i1 : Int)) rfl rfl rfl
      · intro w' hw' hH
        clear hH
        simp [YieldsF, go_sem, v1]
        exact Ext.refl _
      apply step_det (.pointer (some ⟨gs, i1, none⟩)) rfl rfl rfl
      · intro w' hw' hH
        clear hH
        simp [YieldsF, go_sem, q1, p1]
        exact Ext.refl _
      apply step_det (.int .u8 (x1.toNat : Int)) rfl rfl rfl
      · intro w' hw' hH
        clear hH
        have z0 := (hw'.cell (p := ⟨gs, i1, none⟩) hgl).trans c1
        simp [YieldsF, go_sem, z0]
        exact Ext.refl _
      apply step_det (.slice (some ⟨gs, 0, none⟩) 13 13) rfl rfl rfl
      · intro w' hw' hH
        clear hH
        simp [YieldsF, go_sem]
        exact Ext.refl _
      apply step_det (.int .i64 (k : Int)) rfl rfl rfl
      · intro w' hw' hH
        clear hH
        simp [YieldsF, go_sem]
        exact Ext.refl _
      apply step_det (.int .i64 ((k : Int) / 13)) rfl rfl rfl
      · intro w' hw' hH
        clear hH
        simp [YieldsF, go_sem, w13]
        exact Ext.refl _
      apply step_det (.int .i64 (i2 : Int)) rfl rfl rfl
      · intro w' hw' hH
        clear hH
        simp [YieldsF, go_sem, v2]
        exact Ext.refl _
      apply step_det (.pointer (some ⟨gs, i2, none⟩)) rfl rfl rfl
      · intro w' hw' hH
        clear hH
        simp [YieldsF, go_sem, q2, p2]
        exact Ext.refl _
      apply step_det (.int .u8 (x2.toNat : Int)) rfl rfl rfl
      · intro w' hw' hH
        clear hH
        have z0 := (hw'.cell (p := ⟨gs, i2, none⟩) hgl).trans c2
        simp [YieldsF, go_sem, z0]
        exact Ext.refl _
      apply step_det (.slice (some ⟨gs, 0, none⟩) 13 13) rfl rfl rfl
      · intro w' hw' hH
        clear hH
        simp [YieldsF, go_sem]
        exact Ext.refl _
      apply step_det (.int .i64 (k : Int)) rfl rfl rfl
      · intro w' hw' hH
        clear hH
        simp [YieldsF, go_sem]
        exact Ext.refl _
      apply step_det (.int .i64 (i3 : Int)) rfl rfl rfl
      · intro w' hw' hH
        clear hH
        simp [YieldsF, go_sem, v3]
        exact Ext.refl _
      apply step_det (.pointer (some ⟨gs, i3, none⟩)) rfl rfl rfl
      · intro w' hw' hH
        clear hH
        simp [YieldsF, go_sem, q3, p3]
        exact Ext.refl _
      apply step_det (.int .u8 (x3.toNat : Int)) rfl rfl rfl
      · intro w' hw' hH
        clear hH
        have z0 := (hw'.cell (p := ⟨gs, i3, none⟩) hgl).trans c3
        simp [YieldsF, go_sem, z0]
        exact Ext.refl _
      apply WalkF_nil
      intro w5 hw5 hH
      clear hH
      have HX5 := Lib.hid (HX1.out.trans hw5)
      try simp only [Act.put, List.setIfInBounds_toArray, List.set_cons_zero, List.set_cons_succ]
      have HC6 : Hid (Cells (w5.alloc (.cells #[.int .u8 (x1.toNat : Int), .int .u8 (x2.toNat : Int), .int .u8 (x3.toNat : Int)] 5)) (some ⟨w5.heap.size, 0, none⟩) (bcells [x1, x2, x3])) := Lib.hid (Cells.newAt rfl)
      have HX6 : Hid (Ext w (w5.alloc (.cells #[.int .u8 (x1.toNat : Int), .int .u8 (x2.toNat : Int), .int .u8 (x3.toNat : Int)] 5))) := Lib.hid (HX5.out.trans (Ext.alloc _ _))
      clear hw5 c1 c2 c3 q1 q2 q3 v1 v2 v3 p1 p2 p3 hgl HX5
      go_upto_region 6 with fail
      generalize w5.alloc (.cells #[.int .u8 (x1.toNat : Int), .int .u8 (x2.toNat : Int), .int .u8 (x3.toNat : Int)] 5) = w6 at *
      generalize w5.heap.size = g6 at *
      have HY1 : Hid (IntKind.u8.wrap (k : Int) = ((UInt8.ofNat k).toNat : Int)) := Lib.hid (by rw [IntKind.wrap_u8]; simp)
      have HY2 : Hid (IntKind.u8.wrap ((k : Int) / 4) = ((UInt8.ofNat (k / 4)).toNat : Int)) := Lib.hid (by rw [IntKind.wrap_u8]; simp)
      generalize UInt8.ofNat k = y1 at *
      generalize UInt8.ofNat (k / 4) = y2 at *
      have w4' : IntKind.i64.wrap ((k : Int) / 4) = (k : Int) / 4 := by rw [IntKind.wrap_i64]; omega
      go_wp2_with fail
      refine (lexAny_any (some ⟨g6, 0, none⟩) [x1, x2, x3] 3 3 w6 (HG.out.ext HX6.out) rfl (Nat.le_refl 3) (fun h => by cases h) HC6.out).mono ?_
      rintro e w7 ⟨rfl, hx7⟩
      have HX7 := Lib.hid (HX6.out.trans hx7)
      have HC7 := Lib.hid (HC6.out.ext hx7)
      clear hx7
      have hcv := run_bytes_str (P := Tryd.prog) (n := 3) (c := 3) Tryd.underlying22 Tryd.underlying5 Tryd.underlying9 rfl HC7.out
      go_wp2_with fail
      refine (lexNames_any [x1, x2, x3] w7 (HG.out.ext HX7.out)).mono ?_
      rintro e w8 ⟨rfl, hx8⟩
      have HX8 := Lib.hid (HX7.out.trans hx8)
      have HC8 := Lib.hid (HC7.out.ext hx8)
      clear hx8 hcv
      by_cases h3 : k % 3 = 0
      · have q4 : ((k : Int).tmod 3 == 0) = true := by rw [Int.tmod_eq_emod_of_nonneg (by omega), beq_iff_eq]; omega
        have q5 : ((k : Int) % 3 == 0) = true := by rw [beq_iff_eq]; omega
        have q6 : (k : Int) % 3 = 0 := by omega
        clear h3
        go_wp2_with fail
        refine (lexRises_any (some ⟨g6, 0, none⟩) [x1, x2, x3] 3 3 w8 (HG.out.ext HX8.out) rfl (Nat.le_refl 3) (fun h => by cases h) HC8.out).mono ?_
        rintro e w9 ⟨rfl, hx9⟩
        have HX9 := Lib.hid (HX8.out.trans hx9)
        have HC9 := Lib.hid (HC8.out.ext hx9)
        clear hx9
        have y1' := HY1.out
        have y2' := HY2.out
        go_wp2_with fail
        refine (lexBlanks_any (some ⟨g6, 0, none⟩) (some ⟨w9.heap.size, 0, none⟩) [x1, x2, x3] [y1, y2] 3 2 3 2 _ (HG.out.ext (HX9.out.trans (Ext.alloc _ _))) rfl rfl (Nat.le_refl 3) (fun h => by cases h) (HC9.out.ext (Ext.alloc _ _)) (Cells.newAt rfl)).mono ?_
        rintro e w10 ⟨rfl, hx10⟩
        have HX10 := Lib.hid ((HX9.out.trans (Ext.alloc _ _)).trans hx10)
        clear hx10
        go_wp2_with fail
        go_roundw
        case rel => exact ⟨k + 1, by omega, by go_num, HX10⟩
        case measure => simp [intOf]; omega
      · have q4 : ((k : Int).tmod 3 == 0) = false := by rw [Int.tmod_eq_emod_of_nonneg (by omega), beq_eq_false_iff_ne]; omega
        have q5 : ((k : Int) % 3 == 0) = false := by rw [beq_eq_false_iff_ne]; omega
        have q6 : ¬ (k : Int) % 3 = 0 := by omega
        clear h3
        go_wp2_with fail
        go_roundw
        case rel => exact ⟨k + 1, by omega, by go_num, HX8⟩
        case measure => simp [intOf]; omega
    · obtain rfl : k = 2197 := by omega
      rw [show ((2197 : Nat) : Int) = 2197 from rfl]
      have HC2 : Hid (Cells (wa.alloc (.cells #[.string ⟨#[50, 49, 52, 55, 52, 56, 51, 54, 52, 55]⟩, .string ⟨#[50, 49, 52, 55, 52, 56, 51, 54, 52, 56]⟩, .string ⟨#[48, 48, 48, 48, 50, 49, 52, 55, 52, 56, 51, 54, 52, 55]⟩, .string ⟨#[57, 57, 57, 57, 57, 57, 57, 57, 57, 57, 57, 57, 57, 57, 57, 57, 57, 57, 57, 57, 57, 57, 57, 57, 57, 57]⟩, .string ⟨#[112, 114, 111, 99, 32, 112, 40, 97, 44, 32, 98, 41, 32, 115, 105, 110, 103, 108, 101, 32, 123, 32, 114, 101, 97, 100, 32, 120, 32, 61, 32, 116, 91, 97, 32, 43, 32, 49, 93, 46, 99, 32, 102, 111, 114, 32, 117, 112, 100, 97, 116, 101, 59, 32, 125]⟩, .string ⟨#[97, 35]⟩, .string ⟨#[97, 35, 98, 10, 99]⟩, .string ⟨#[0]⟩, .string ⟨#[195, 164]⟩, .string ⟨#[]⟩] 9)) (some ⟨wa.heap.size, 0, none⟩) (SS.map fun l => .string (bstr l))) := Lib.hid (Cells.newAt rfl)
      have HX2 : Hid (Ext w (wa.alloc (.cells #[.string ⟨#[50, 49, 52, 55, 52, 56, 51, 54, 52, 55]⟩, .string ⟨#[50, 49, 52, 55, 52, 56, 51, 54, 52, 56]⟩, .string ⟨#[48, 48, 48, 48, 50, 49, 52, 55, 52, 56, 51, 54, 52, 55]⟩, .string ⟨#[57, 57, 57, 57, 57, 57, 57, 57, 57, 57, 57, 57, 57, 57, 57, 57, 57, 57, 57, 57, 57, 57, 57, 57, 57, 57]⟩, .string ⟨#[112, 114, 111, 99, 32, 112, 40, 97, 44, 32, 98, 41, 32, 115, 105, 110, 103, 108, 101, 32, 123, 32, 114, 101, 97, 100, 32, 120, 32, 61, 32, 116, 91, 97, 32, 43, 32, 49, 93, 46, 99, 32, 102, 111, 114, 32, 117, 112, 100, 97, 116, 101, 59, 32, 125]⟩, .string ⟨#[97, 35]⟩, .string ⟨#[97, 35, 98, 10, 99]⟩, .string ⟨#[0]⟩, .string ⟨#[195, 164]⟩, .string ⟨#[]⟩] 9))) := Lib.hid (HX.out.trans (Ext.alloc _ _))
      go_wp2_with fail
      generalize wa.alloc (.cells #[.string ⟨#[50, 49, 52, 55, 52, 56, 51, 54, 52, 55]⟩, .string ⟨#[50, 49, 52, 55, 52, 56, 51, 54, 52, 56]⟩, .string ⟨#[48, 48, 48, 48, 50, 49, 52, 55, 52, 56, 51, 54, 52, 55]⟩, .string ⟨#[57, 57, 57, 57, 57, 57, 57, 57, 57, 57, 57, 57, 57, 57, 57, 57, 57, 57, 57, 57, 57, 57, 57, 57, 57, 57]⟩, .string ⟨#[112, 114, 111, 99, 32, 112, 40, 97, 44, 32, 98, 41, 32, 115, 105, 110, 103, 108, 101, 32, 123, 32, 114, 101, 97, 100, 32, 120, 32, 61, 32, 116, 91, 97, 32, 43, 32, 49, 93, 46, 99, 32, 102, 111, 114, 32, 117, 112, 100, 97, 116, 101, 59, 32, 125]⟩, .string ⟨#[97, 35]⟩, .string ⟨#[97, 35, 98, 10, 99]⟩, .string ⟨#[0]⟩, .string ⟨#[195, 164]⟩, .string ⟨#[]⟩] 9) = w2 at *
      generalize wa.heap.size = g2 at *
      clear HX
      go_loopw [67] (fun i wr => ∃ k : Nat, k ≤ 10 ∧ i = .int .i64 k ∧ Hid (Ext w2 wr)) (fun i _ => 10 - (intOf i).toNat)
      case atStart => exact ⟨0, Nat.zero_le _, rfl, Lib.hid (Ext.refl _)⟩
      case round =>
        obtain ⟨k, hk, rfl, HX⟩ := hrel
        obtain ⟨wa, rfl⟩ : ∃ wa : World, wa = wr := ⟨_, rfl⟩
        by_cases hlt : k < 10
        · have d1 : decide ((k : Int) < 10) = true := decide_eq_true (by omega)
          have q0 : (k : Int) < 10 := by omega
          have hks : k < SS.length := hlt
          obtain ⟨b, off, hA, hgl, hc⟩ := (HC2.out.ext HX.out).at_ (by decide)
          injection hA with hA
          injection hA with hA1 hA2
          subst hA1 hA2
          have c1 : wa.cell? ⟨g2, k, none⟩ = some (.string (bstr SS[k])) := by
            have := hc k (by simpa using hks)
            rw [Nat.zero_add] at this
            rw [this]
            simp [hks]
          generalize SS[k] = l at *
          clear hc hgl hks
          obtain ⟨hcv, hcp⟩ := str_conv wa l
          have HC3 := Lib.hid (str_cells wa l)
          have HX3 := Lib.hid ((HX2.out.trans HX.out).trans (Ext.bytesWorld wa 5 (bstr l)))
          have HX3b := Lib.hid (HX.out.trans (Ext.bytesWorld wa 5 (bstr l)))
          generalize Lib.bytesWorld wa 5 (bstr l) = w3 at *
          generalize grownCap wa l.length 0 5 = cp at *
          generalize wa.heap.size = gs at *
          go_wp2_with fail
          refine (lexAny_any (some ⟨gs, 0, none⟩) l l.length cp w3 (HG.out.ext HX3.out) rfl hcp (fun h => by cases h) HC3.out).mono ?_
          rintro e w4 ⟨rfl, hx4⟩
          have HX4 := Lib.hid (HX3b.out.trans hx4)
          clear hx4 hcv HC3 HX3 HX3b
          obtain ⟨hcv, hcp4⟩ := str_conv w4 l
          have HC5 := Lib.hid (str_cells w4 l)
          have HX5 := Lib.hid (HX4.out.trans (Ext.bytesWorld w4 5 (bstr l)))
          generalize Lib.bytesWorld w4 5 (bstr l) = w5 at *
          generalize grownCap w4 l.length 0 5 = cp4 at *
          generalize w4.heap.size = gs4 at *
          go_wp2_with fail
          refine (lexRises_any (some ⟨gs4, 0, none⟩) l l.length cp4 w5 (HG.out.ext (HX2.out.trans HX5.out)) rfl hcp4 (fun h => by cases h) HC5.out).mono ?_
          rintro e w6 ⟨rfl, hx6⟩
          have HX6 := Lib.hid (HX5.out.trans hx6)
          clear hx6 hcv HC5 HX5
          obtain ⟨hcv, hcp6⟩ := str_conv w6 l
          have HC7 := Lib.hid (str_cells w6 l)
          have HX7 := Lib.hid (HX6.out.trans (Ext.bytesWorld w6 5 (bstr l)))
          generalize Lib.bytesWorld w6 5 (bstr l) = w7 at *
          generalize grownCap w6 l.length 0 5 = cp6 at *
          generalize w6.heap.size = gs6 at *
          go_wp2_with fail
          refine (lexBlanks_any (some ⟨gs6, 0, none⟩) (some ⟨w7.heap.size, 0, none⟩) l [3, 1] l.length 2 cp6 2 _ (HG.out.ext ((HX2.out.trans HX7.out).trans (Ext.alloc _ _))) rfl rfl hcp6 (fun h => by cases h) (HC7.out.ext (Ext.alloc _ _)) (Cells.newAt rfl)).mono ?_
          rintro e w8 ⟨rfl, hx8⟩
          have HX8 := Lib.hid ((HX7.out.trans (Ext.alloc _ _)).trans hx8)
          clear hx8 hcv HC7 HX7
          go_wp2_with fail
          refine (lexNames_any l w8 (HG.out.ext (HX2.out.trans HX8.out))).mono ?_
          rintro e w9 ⟨rfl, hx9⟩
          have HX9 := Lib.hid (HX8.out.trans hx9)
          clear hx9 HX8
          go_wp2_with fail
          go_roundw
          case rel => exact ⟨k + 1, by omega, by go_num, HX9⟩
          case measure => simp [intOf]; omega
        · obtain rfl : k = 10 := by omega
          rw [show ((10 : Nat) : Int) = 10 from rfl]
          have HX2b := Lib.hid (HX2.out.trans HX.out)
          obtain ⟨cs1, hmk, hcs1, hce1⟩ := made 65537 65537 rfl (by decide) wa
          have HC3 := Lib.hid (row_cells (b := 0) (Blk.new wa 5 cs1) hcs1 hce1)
          have HX3 := Lib.hid (HX2b.out.trans (Ext.alloc wa (.cells cs1 5)))
          generalize wa.alloc (.cells cs1 5) = w3 at *
          generalize wa.heap.size = g3 at *
          clear hcs1 hce1 HX HX2 HC2
          go_wp2_with fail
          refine (lex_zeros (by decide) (by decide) w3 HC3.out).mono ?_
          rintro e w4 ⟨g4, L4, C4, rfl, hb4, hx4⟩
          have HB4 := Lib.hid hb4
          have HX4 := Lib.hid (HX3.out.trans hx4)
          clear hx4 hb4 hmk HC3 HX3 HX2b
          obtain ⟨cs2, hmk2, hcs2, hce2⟩ := made 65536 65536 rfl (by decide) w4
          have HR2 : Hid (Blk (w4.alloc (.cells cs2 5)) w4.heap.size 5 cs2) := Lib.hid (Blk.new _ _ _)
          have HX5 : Hid (Ext w4 (w4.alloc (.cells cs2 5))) := Lib.hid (Ext.alloc _ _)
          have HS2 := Lib.hid (show cs2.size = 65536 ∧ ∀ j, j < 65536 → cs2[j]? = some (.int .u8 (if j < 0 then 32 else 0)) from ⟨hcs2, fun j hj => by rw [hce2 j hj]; simp⟩)
          have hg5 : w4.heap.size ≤ w4.heap.size := Nat.le_refl _
          generalize w4.alloc (.cells cs2 5) = w5 at *
          obtain ⟨g5, hg5'⟩ : ∃ g5, w4.heap.size = g5 := ⟨_, rfl⟩
          rw [hg5'] at HR2 hmk2
          have HG5 := Lib.hid (show w4.heap.size ≤ g5 from Nat.le_of_eq hg5')
          clear hg5 hg5' hcs2 hce2
          go_wp2_with fail
          go_loopw [9] (fun i wr => ∃ (k : Nat) (cs : Array Value), k ≤ 65536 ∧ i = .int .i64 k ∧ Hid (Ext w4 wr) ∧ Hid (Blk wr g5 5 cs ∧ cs.size = 65536 ∧ ∀ j, j < 65536 → cs[j]? = some (.int .u8 (if j < k then 32 else 0)))) (fun i _ => 65536 - (intOf i).toNat)
          case atStart => exact ⟨0, cs2, Nat.zero_le _, rfl, HX5, Lib.hid ⟨HR2.out, HS2.out⟩⟩
          case round =>
            obtain ⟨k, cs, hk, rfl, HX, HS⟩ := hrel
            obtain ⟨wa, rfl⟩ : ∃ wa : World, wa = wr := ⟨_, rfl⟩
            by_cases hlt : k < 65536
            · have d1 : decide ((k : Int) < 65536) = true := decide_eq_true (by omega)
              have q0 : (k : Int) < 65536 := by omega
              have c1 : wa.cell? ⟨g5, k, none⟩ = some (.int .u8 0) := by
                rw [cell_of_row _ _ k _ _ _ HS.out.1, HS.out.2.2 k hlt, if_neg (by omega)]
              have f1 := HS.out.1.frozen k
              go_wp2_with fail
              go_roundw
              case rel => exact ⟨k + 1, cs.setIfInBounds k (.int .u8 32), by omega, by go_num, Lib.hid (ext_far HX.out HG5.out k _), Lib.hid ⟨HS.out.1.put k _, by rw [Array.size_setIfInBounds]; exact HS.out.2.1, fun j hj => by
                rw [Array.getElem?_setIfInBounds]
                by_cases hjk : k = j
                · subst hjk
                  rw [if_pos rfl, if_pos (by rw [HS.out.2.1]; exact hlt), if_pos (by omega)]
                · rw [if_neg hjk, HS.out.2.2 j hj]
                  by_cases h : j < k
                  · rw [if_pos h, if_pos (by omega)]
                  · rw [if_neg h, if_neg (by omega)]⟩⟩
              case measure => simp [intOf]; omega
            · obtain rfl : k = 65536 := by omega
              rw [show ((65536 : Nat) : Int) = 65536 from rfl]
              have HC6 := Lib.hid (row_cells (b := 32) HS.out.1 HS.out.2.1 (fun j hj => by rw [HS.out.2.2 j hj, if_pos hj]; rfl))
              have HB6 := Lib.hid (HB4.out.ext HX.out)
              clear HS
              go_wp2_with fail
              refine (lex_blanks (Nat.le_refl _) wa HC6.out).mono ?_
              rintro e w7 ⟨A7, c7, rfl, hx7⟩
              have HX7 := Lib.hid ((HX4.out.trans HX.out).trans hx7)
              have HB7 := Lib.hid (HB6.out.ext hx7)
              clear hx7 HC6
              go_wp2_with fail
              refine (code_at g4 _ _ _ _ w7 (HG.out.ext HX7.out) HB7.out).mono ?_
              rintro e w8 ⟨rfl, hx8⟩
              have HX8 := Lib.hid (HX7.out.trans hx8)
              clear hx8
              go_wp2_with fail
              refine (works3_any w8 (HG.out.ext HX8.out)).mono ?_
              rintro e w9 ⟨rfl, hx9⟩
              go_wp2_with fail
              go_ret
              exact ⟨rfl, HX8.out.trans hx9⟩
end Go.Proofs.YtjjeebocebhhaaaDoor
