/- A tree that Parse answers, read out of memory; sources that are constants. Condition on Code and Place: errors.errorType reads as the program's text lays it. -/
import Derived.Test.YtcccnicldbpieaaGreatDoorPsW
import Derived.Test.YtcccnicldbpieaaGreatDoorDhD
import Derived.Lib.ConvBytes
namespace Go.Proofs.YtcccnicldbpieaaGreatDoor
open Go Go.RowKit
set_option linter.unusedVariables false
set_option linter.unusedSimpArgs false
/-- '[]byte("..")' of a constant. -/
theorem lit_conv (W : World) (cs : Array Value) (n : Nat) (hn : cs.size = n) : (convert 22 22 (.slice (some ⟨W.heap.size, 0, none⟩) n n)).run Tryz.prog (W.alloc (.cells cs 5)) = .ok (.slice (some ⟨W.heap.size, 0, none⟩) n n) ((W.alloc (.cells cs 5)).freeze ⟨W.heap.size, n, none⟩ 1) := by
  subst hn
  exact run_convert_mark _ _ _ Tryz.underlying22 Tryz.underlying5 _ _ _ (heap_alloc_new _ _)
theorem lit_ext (W : World) (cs : Array Value) (n : Nat) : Ext W ((W.alloc (.cells cs 5)).freeze ⟨W.heap.size, n, none⟩ 1) :=
  ⟨rfl, rfl, rfl, by simp [World.freeze], fun k hk => (heap_freeze _ _ _ _ (by omega)).trans ((Ext.alloc W _).block k hk)⟩
theorem lit_cells (W : World) (cs : Array Value) (n : Nat) (l : Bs) (hl : cs.toList = bcells l) : Cells ((W.alloc (.cells cs 5)).freeze ⟨W.heap.size, n, none⟩ 1) (some ⟨W.heap.size, 0, none⟩) (bcells l) := by
  obtain ⟨fr, hfr⟩ := heap_freeze_at (W.alloc (.cells cs 5)) W.heap.size n (heap_alloc_new _ _)
  refine .inr ⟨W.heap.size, 0, rfl, (Array.getElem?_eq_some_iff.1 hfr).1, fun k hk => ?_⟩
  rw [Nat.zero_add, cell_of_row _ _ k _ _ fr hfr, ← hl]
  simp
theorem str_cells (w : World) (l : Bs) : Cells (Lib.bytesWorld w 5 (bstr l)) (some ⟨w.heap.size, 0, none⟩) (bcells l) := by
  have hsz : (bstr l).size = l.length := by simp [bstr, ByteArray.size]
  exact .inr ⟨w.heap.size, 0, rfl, by rw [Lib.bytesWorld_size]; omega, fun k hk => by
    rw [bcells_len] at hk
    rw [Nat.zero_add, Lib.bytesWorld_cell w 5 (bstr l) k (by rw [hsz]; exact hk), bcells_at l k hk]
    simp [bstr, hk]⟩
theorem str_conv (w : World) (l : Bs) : (convert 9 22 (.string (bstr l))).run Tryz.prog w = .ok (.slice (some ⟨w.heap.size, 0, none⟩) l.length (grownCap w l.length 0 5)) (Lib.bytesWorld w 5 (bstr l)) ∧ l.length ≤ grownCap w l.length 0 5 := by
  have hsz : (bstr l).size = l.length := by simp [bstr, ByteArray.size]
  have h := Lib.run_convert_string_bytes (P := Tryz.prog) w 9 22 5 (bstr l) Tryz.underlying9 Tryz.underlying22 Tryz.underlying5
  have hcp := grownCap_ge w (bstr l).size 0 5
  rw [hsz] at h hcp
  exact ⟨h, hcp⟩
theorem str_ext (w : World) (l : Bs) : Ext w (Lib.bytesWorld w 5 (bstr l)) := Ext.bytesWorld w 5 (bstr l)
theorem code_at (g : Nat) (a l c e' : Int) (w : World) (hG : GT w) (hg : Blk w g 74 #[.int .i64 a, .int .i64 l, .int .i64 c, .int .i64 e']) : Calls Tryz.prog 12 #[.iface 70 (.pointer (some ⟨g, 0, none⟩))] w fun e w' => e = .returned (.int .i64 e') ∧ Ext w w' := code_any (.at_ g a l c e') w hG hg
theorem place_at (g : Nat) (a l c e' : Int) (w : World) (hG : GT w) (hg : Blk w g 74 #[.int .i64 a, .int .i64 l, .int .i64 c, .int .i64 e']) : Calls Tryz.prog 11 #[.iface 70 (.pointer (some ⟨g, 0, none⟩))] w fun e w' => e = .returned (.tuple #[.int .i64 a, .int .i64 l, .int .i64 c, .bool true]) ∧ Ext w w' := place_hit (.at_ g a l c e') w hG hg g rfl a l c e' hg
/-- A tree's nodes, as they are read. -/
structure TR (w : World) (A : Option Addr) (nh : List (Nd × Hd2)) : Prop where
  row : Cells w A (ncs nh)
  kids : ∀ x ∈ nh, Cells w x.2.1 (ints x.1.kids)
theorem TR.ext {w w' : World} {A : Option Addr} {nh : List (Nd × Hd2)} (h : TR w A nh) (hx : Ext w w') : TR w' A nh := ⟨h.row.ext hx, fun x hx' => (h.kids x hx').ext hx⟩
theorem NS.tr {w : World} {B : Nat} {tn ti : TypeId} {A : Option Addr} {c : Nat} {nh : List (Nd × Hd2)} (h : NS w B tn ti A c nh) : TR w A nh := ⟨Cells.own h.row, fun x hx => Cells.own (h.kids x hx)⟩
theorem TR.at {w : World} {A : Option Addr} {nh : List (Nd × Hd2)} (h : TR w A nh) (h0 : 0 < nh.length) : ∃ b off, A = some ⟨b, off, none⟩ ∧ b < w.heap.size ∧ ∀ k (hk : k < nh.length) j, j < 5 → w.cell? ⟨b, off + (k * 5 + j), none⟩ = (ncell nh[k])[j]? := by
  obtain ⟨b, off, hA, hb, hc⟩ := h.row.at_ (by rw [ncs_len]; omega)
  exact ⟨b, off, hA, hb, fun k hk j hj => by rw [hc (k * 5 + j) (by rw [ncs_len]; omega), ncs_at nh k hk j hj]⟩
/-- Parse, of a source that is read as l. -/
theorem parse_ok (A : Option Addr) (l : Bs) (n c : Nat) (w : World) (hn : n = l.length) (hbig : l.length ≤ 140737488355328) (hcap : l.length ≤ c) (hnil : A = none → c = 0) (h : Cells w A (bcells l)) (nd : List Nd) (hr : parseS l = .ok nd) :
    Calls Tryz.prog 9 #[.slice A n c] w fun e w' => ∃ A' c' nh, e = .returned (.tuple #[.agg #[.slice A' nh.length c'], .nilIface]) ∧ nd = nh.map Prod.fst ∧ NS w' w.heap.size 50 3 A' c' nh ∧ Ext w w' := by
  refine (parse_any A l n c w hn hbig hcap hnil h).mono ?_
  rintro e w' ⟨hx, h⟩
  rw [hr] at h
  obtain ⟨A', c', nh, h1, h2, h3⟩ := h
  exact ⟨A', c', nh, h1, h2, h3, hx⟩
theorem parse_err (A : Option Addr) (l : Bs) (n c : Nat) (w : World) (hn : n = l.length) (hbig : l.length ≤ 140737488355328) (hcap : l.length ≤ c) (hnil : A = none → c = 0) (h : Cells w A (bcells l)) (a : Nat) (er : Int) (hr : parseS l = .err a er) :
    Calls Tryz.prog 9 #[.slice A n c] w fun e w' => ∃ g, e = .returned (.tuple #[.agg #[.slice none 0 0], .iface 70 (.pointer (some ⟨g, 0, none⟩))]) ∧ w.heap.size ≤ g ∧ Blk w' g 74 #[.int .i64 (a : Int), .int .i64 (lineN l a), .int .i64 (colN l a), .int .i64 er] ∧ Ext w w' := by
  refine (parse_any A l n c w hn hbig hcap hnil h).mono ?_
  rintro e w' ⟨hx, h⟩
  rw [hr] at h
  obtain ⟨g, h1, h2, h3⟩ := h
  exact ⟨g, h1, h2, h3, hx⟩
theorem parse_lit_err (W : World) (cs : Array Value) (n : Nat) (l : Bs) (hl : cs.toList = bcells l) (hn : n = l.length) (hb : l.length ≤ 1000) (a : Nat) (er : Int) (hr : parseS l = .err a er) :
    Calls Tryz.prog 9 #[.slice (some ⟨W.heap.size, 0, none⟩) n n] ((W.alloc (.cells cs 5)).freeze ⟨W.heap.size, n, none⟩ 1) fun e w' => ∃ g, e = .returned (.tuple #[.agg #[.slice none 0 0], .iface 70 (.pointer (some ⟨g, 0, none⟩))]) ∧ Blk w' g 74 #[.int .i64 (a : Int), .int .i64 (lineN l a), .int .i64 (colN l a), .int .i64 er] ∧ Ext W w' := by
  refine (parse_err (some ⟨W.heap.size, 0, none⟩) l n n _ hn (by omega) (by omega) (fun h => by cases h) (lit_cells W cs n l hl) a er hr).mono ?_
  rintro e w' ⟨g, h1, _, h3, h4⟩
  exact ⟨g, h1, h3, (lit_ext W cs n).trans h4⟩
end Go.Proofs.YtcccnicldbpieaaGreatDoor
