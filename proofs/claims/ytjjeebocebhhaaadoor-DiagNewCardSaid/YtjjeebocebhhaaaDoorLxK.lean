/- interlocklaw03.works, walked: always true. Condition: errors.errorType reads as the program's text lays it. -/
import Derived.Test.YtjjeebocebhhaaaDoorLxJ
import Derived.Test.YtjjeebocebhhaaaDoorDgD
namespace Go.Proofs.YtjjeebocebhhaaaDoor
open Go Go.RowKit
set_option linter.unusedVariables false
set_option linter.unusedSimpArgs false
/-- '[]byte("..")' of a constant. -/
theorem lit_conv (W : World) (cs : Array Value) (n : Nat) (hn : cs.size = n) : (convert 22 22 (.slice (some ⟨W.heap.size, 0, none⟩) n n)).run Tryd.prog (W.alloc (.cells cs 5)) = .ok (.slice (some ⟨W.heap.size, 0, none⟩) n n) ((W.alloc (.cells cs 5)).freeze ⟨W.heap.size, n, none⟩ 1) := by
  subst hn
  exact run_convert_mark _ _ _ Tryd.underlying22 Tryd.underlying5 _ _ _ (heap_alloc_new _ _)
theorem lit_ext (W : World) (cs : Array Value) (n : Nat) : Ext W ((W.alloc (.cells cs 5)).freeze ⟨W.heap.size, n, none⟩ 1) :=
  ⟨rfl, rfl, rfl, by simp [World.freeze], fun k hk => (heap_freeze _ _ _ _ (by omega)).trans ((Ext.alloc W _).block k hk)⟩
theorem lit_cells (W : World) (cs : Array Value) (n : Nat) (l : Bs) (hl : cs.toList = bcells l) : Cells ((W.alloc (.cells cs 5)).freeze ⟨W.heap.size, n, none⟩ 1) (some ⟨W.heap.size, 0, none⟩) (bcells l) := by
  obtain ⟨fr, hfr⟩ := heap_freeze_at (W.alloc (.cells cs 5)) W.heap.size n (heap_alloc_new _ _)
  refine .inr ⟨W.heap.size, 0, rfl, (Array.getElem?_eq_some_iff.1 hfr).1, fun k hk => ?_⟩
  rw [Nat.zero_add, cell_of_row _ _ k _ _ fr hfr, ← hl]
  simp
theorem lex_lit_ok (W : World) (cs : Array Value) (n : Nat) (l : Bs) (hl : cs.toList = bcells l) (hn : n = l.length) (hb : l.length ≤ 1000) (ts : List Tok) (hr : lexS l = .ok ts) :
    Calls Tryd.prog 16 #[.slice (some ⟨W.heap.size, 0, none⟩) n n] ((W.alloc (.cells cs 5)).freeze ⟨W.heap.size, n, none⟩ 1) fun e w' => ∃ A' c', e = .returned (.tuple #[.slice A' ts.length c', .nilIface]) ∧ Cells w' A' (kcells ts) ∧ Ext W w' := by
  refine (lex_any (some ⟨W.heap.size, 0, none⟩) l n n _ hn (by omega) (by omega) (fun h => by cases h) (lit_cells W cs n l hl)).mono ?_
  rintro e w' ⟨hx, h⟩
  rw [hr] at h
  obtain ⟨A', c', h1, h2, h3⟩ := h
  exact ⟨A', c', h1, Cells.own h3, (lit_ext W cs n).trans hx⟩
theorem lex_lit_err (W : World) (cs : Array Value) (n : Nat) (l : Bs) (hl : cs.toList = bcells l) (hn : n = l.length) (hb : l.length ≤ 1000) (a : Nat) (er : Int) (hr : lexS l = .err a er) :
    Calls Tryd.prog 16 #[.slice (some ⟨W.heap.size, 0, none⟩) n n] ((W.alloc (.cells cs 5)).freeze ⟨W.heap.size, n, none⟩ 1) fun e w' => ∃ g, e = .returned (.tuple #[.slice none 0 0, .iface 57 (.pointer (some ⟨g, 0, none⟩))]) ∧ Blk w' g 61 #[.int .i64 (a : Int), .int .i64 (lineN l a), .int .i64 (colN l a), .int .i64 er] ∧ Ext W w' := by
  refine (lex_any (some ⟨W.heap.size, 0, none⟩) l n n _ hn (by omega) (by omega) (fun h => by cases h) (lit_cells W cs n l hl)).mono ?_
  rintro e w' ⟨hx, h⟩
  rw [hr] at h
  obtain ⟨g, h1, h2, h3⟩ := h
  exact ⟨g, h1, h3, (lit_ext W cs n).trans hx⟩
theorem code_at (g : Nat) (a l c e' : Int) (w : World) (hG : GT w) (hg : Blk w g 61 #[.int .i64 a, .int .i64 l, .int .i64 c, .int .i64 e']) : Calls Tryd.prog 18 #[.iface 57 (.pointer (some ⟨g, 0, none⟩))] w fun e w' => e = .returned (.int .i64 e') ∧ Ext w w' := code_any (.at_ g a l c e') w hG hg
theorem place_at (g : Nat) (a l c e' : Int) (w : World) (hG : GT w) (hg : Blk w g 61 #[.int .i64 a, .int .i64 l, .int .i64 c, .int .i64 e']) : Calls Tryd.prog 13 #[.iface 57 (.pointer (some ⟨g, 0, none⟩))] w fun e w' => e = .returned (.tuple #[.int .i64 a, .int .i64 l, .int .i64 c, .bool true]) ∧ Ext w w' := place_hit (.at_ g a l c e') w hG hg g rfl a l c e' hg
theorem lexS_w1 : lexS [97, 49, 32, 61, 61, 49, 50, 59, 35, 32, 98] = .ok [⟨1, 0, 2, [97, 49], 0⟩, ⟨3, 3, 5, [61, 61], 0⟩, ⟨2, 5, 7, [49, 50], 12⟩, ⟨3, 7, 8, [59], 0⟩, ⟨4, 11, 11, [], 0⟩] := by decide +kernel
theorem lexS_w2 : lexS [49, 97] = .ok [⟨2, 0, 1, [49], 1⟩, ⟨1, 1, 2, [97], 0⟩, ⟨4, 2, 2, [], 0⟩] := by decide +kernel
theorem lexS_w3 : lexS [50, 49, 52, 55, 52, 56, 51, 54, 52, 56] = .err 0 31 := by decide +kernel
theorem lexS_w4 : lexS [97, 36] = .err 1 30 := by decide +kernel
theorem lexS_w5 : lexS [97, 61, 61, 61, 98] = .ok [⟨1, 0, 1, [97], 0⟩, ⟨3, 1, 3, [61, 61], 0⟩, ⟨3, 3, 4, [61], 0⟩, ⟨1, 4, 5, [98], 0⟩, ⟨4, 5, 5, [], 0⟩] := by decide +kernel
set_option maxHeartbeats 8000000 in
set_option maxRecDepth 100000 in
theorem works3_any (w : World) (hG : GT w) : Calls Tryd.prog 15 #[] w fun e w' => e = .returned (.bool true) ∧ Ext w w' := by
  have HG := Lib.hid hG
  clear hG
  have v1 := fun W => lit_conv W #[.int .u8 97, .int .u8 49, .int .u8 32, .int .u8 61, .int .u8 61, .int .u8 49, .int .u8 50, .int .u8 59, .int .u8 35, .int .u8 32, .int .u8 98] 11 rfl
  have v2 := fun W => lit_conv W #[.int .u8 49, .int .u8 97] 2 rfl
  have v3 := fun W => lit_conv W #[.int .u8 50, .int .u8 49, .int .u8 52, .int .u8 55, .int .u8 52, .int .u8 56, .int .u8 51, .int .u8 54, .int .u8 52, .int .u8 56] 10 rfl
  have v4 := fun W => lit_conv W #[.int .u8 97, .int .u8 36] 2 rfl
  have v5 := fun W => lit_conv W #[.int .u8 97, .int .u8 61, .int .u8 61, .int .u8 61, .int .u8 98] 5 rfl
  go_enter Tryd.func15, Tryd.ntmps15
  go_wp2_with fail
  refine (lex_lit_ok w #[.int .u8 97, .int .u8 49, .int .u8 32, .int .u8 61, .int .u8 61, .int .u8 49, .int .u8 50, .int .u8 59, .int .u8 35, .int .u8 32, .int .u8 98] 11 [97, 49, 32, 61, 61, 49, 50, 59, 35, 32, 98] (by rfl) rfl (by decide) _ lexS_w1).mono ?_
  rintro e w1 ⟨A1, c1', rfl, hc1, hx1⟩
  have HC1 := Lib.hid hc1
  have HX1 := Lib.hid hx1
  clear hc1 hx1 v1
  go_wp2_with fail
  refine (lex_lit_ok w1 #[.int .u8 49, .int .u8 97] 2 [49, 97] (by rfl) rfl (by decide) _ lexS_w2).mono ?_
  rintro e w2 ⟨A2, c2', rfl, hc2, hx2⟩
  have HC2 := Lib.hid hc2
  have HX2 := Lib.hid (HX1.out.trans hx2)
  have HC1 := Lib.hid (HC1.out.ext hx2)
  clear hc2 hx2 v2
  go_wp2_with fail
  refine (lex_lit_err w2 #[.int .u8 50, .int .u8 49, .int .u8 52, .int .u8 55, .int .u8 52, .int .u8 56, .int .u8 51, .int .u8 54, .int .u8 52, .int .u8 56] 10 [50, 49, 52, 55, 52, 56, 51, 54, 52, 56] (by rfl) rfl (by decide) _ _ lexS_w3).mono ?_
  rintro e w3 ⟨g3, rfl, hc3, hx3⟩
  have HC3 := Lib.hid hc3
  have HX3 := Lib.hid (HX2.out.trans hx3)
  have HC1 := Lib.hid (HC1.out.ext hx3)
  have HC2 := Lib.hid (HC2.out.ext hx3)
  clear hc3 hx3 v3
  go_wp2_with fail
  refine (lex_lit_err w3 #[.int .u8 97, .int .u8 36] 2 [97, 36] (by rfl) rfl (by decide) _ _ lexS_w4).mono ?_
  rintro e w4 ⟨g4, rfl, hc4, hx4⟩
  have HC4 := Lib.hid hc4
  have HX4 := Lib.hid (HX3.out.trans hx4)
  have HC1 := Lib.hid (HC1.out.ext hx4)
  have HC2 := Lib.hid (HC2.out.ext hx4)
  have HC3 := Lib.hid (HC3.out.ext hx4)
  clear hc4 hx4 v4
  go_wp2_with fail
  refine (lex_lit_ok w4 #[.int .u8 97, .int .u8 61, .int .u8 61, .int .u8 61, .int .u8 98] 5 [97, 61, 61, 61, 98] (by rfl) rfl (by decide) _ lexS_w5).mono ?_
  rintro e w5 ⟨A5, c5', rfl, hc5, hx5⟩
  have HC5 := Lib.hid hc5
  have HX5 := Lib.hid (HX4.out.trans hx5)
  have HC1 := Lib.hid (HC1.out.ext hx5)
  have HC2 := Lib.hid (HC2.out.ext hx5)
  have HC3 := Lib.hid (HC3.out.ext hx5)
  have HC4 := Lib.hid (HC4.out.ext hx5)
  clear hc5 hx5 v5
  go_wp2_with fail
  refine (place_at g4 _ _ _ _ w5 (HG.out.ext HX5.out) HC4.out).mono ?_
  rintro e w6 ⟨rfl, hx6⟩
  have HX6 := Lib.hid (HX5.out.trans hx6)
  have HC1 := Lib.hid (HC1.out.ext hx6)
  have HC2 := Lib.hid (HC2.out.ext hx6)
  have HC3 := Lib.hid (HC3.out.ext hx6)
  have HC4 := Lib.hid (HC4.out.ext hx6)
  have HC5 := Lib.hid (HC5.out.ext hx6)
  clear hx6
  obtain ⟨b1, o1, hA1, _, hk1⟩ := HC1.out.at_ (by decide)
  subst hA1
  have d1_3 : w6.cell? ⟨b1, o1 + 3, none⟩ = some (.string (bstr [97, 49])) := hk1 3 (by decide)
  have d1_8 : w6.cell? ⟨b1, o1 + 8, none⟩ = some (.string (bstr [61, 61])) := hk1 8 (by decide)
  have d1_14 : w6.cell? ⟨b1, o1 + 14, none⟩ = some (.int .i64 12) := hk1 14 (by decide)
  have d1_18 : w6.cell? ⟨b1, o1 + 18, none⟩ = some (.string (bstr [59])) := hk1 18 (by decide)
  have d1_20 : w6.cell? ⟨b1, o1 + 20, none⟩ = some (.int .u8 4) := hk1 20 (by decide)
  clear hk1
  obtain ⟨b2, o2, hA2, _, hk2⟩ := HC2.out.at_ (by decide)
  subst hA2
  have d2_4 : w6.cell? ⟨b2, o2 + 4, none⟩ = some (.int .i64 1) := hk2 4 (by decide)
  have d2_8 : w6.cell? ⟨b2, o2 + 8, none⟩ = some (.string (bstr [97])) := hk2 8 (by decide)
  clear hk2
  have s1 : (bstr [97, 49]).toList = [97, 49] := bstr_toList _
  have s2 : (bstr [61, 61]).toList = [61, 61] := bstr_toList _
  have s3 : (bstr [59]).toList = [59] := bstr_toList _
  have s4 : (bstr [97]).toList = [97] := bstr_toList _
  have s5 : (bstr [61]).toList = [61] := bstr_toList _
  have z1 : (⟨#[97, 49]⟩ : ByteArray).toList = [97, 49] := bstr_toList [97, 49]
  have z2 : (⟨#[61, 61]⟩ : ByteArray).toList = [61, 61] := bstr_toList [61, 61]
  have z3 : (⟨#[59]⟩ : ByteArray).toList = [59] := bstr_toList [59]
  have z4 : (⟨#[97]⟩ : ByteArray).toList = [97] := bstr_toList [97]
  have z5 : (⟨#[61]⟩ : ByteArray).toList = [61] := bstr_toList [61]
  go_wp2_with fail
  refine (code_at g3 _ _ _ _ w6 (HG.out.ext HX6.out) HC3.out).mono ?_
  rintro e w7 ⟨rfl, hx7⟩
  have HX7 := Lib.hid (HX6.out.trans hx7)
  have HC4 := Lib.hid (HC4.out.ext hx7)
  have HC5 := Lib.hid (HC5.out.ext hx7)
  clear hx7
  go_wp2_with fail
  refine (code_at g4 _ _ _ _ w7 (HG.out.ext HX7.out) HC4.out).mono ?_
  rintro e w8 ⟨rfl, hx8⟩
  have HX8 := Lib.hid (HX7.out.trans hx8)
  have HC5 := Lib.hid (HC5.out.ext hx8)
  clear hx8
  obtain ⟨b5, o5, hA5, _, hk5⟩ := HC5.out.at_ (by decide)
  subst hA5
  have d5_13 : w8.cell? ⟨b5, o5 + 13, none⟩ = some (.string (bstr [61])) := hk5 13 (by decide)
  clear hk5
  go_wp2_with fail
  go_ret
  exact ⟨rfl, HX8.out⟩
end Go.Proofs.YtjjeebocebhhaaaDoor
