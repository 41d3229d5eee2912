/- Rows of bytes; one block changed and new ones made; the library's searches for a byte; reader.while, walked. Condition: the reader's block is known whole, and the source does not lie in it. -/
import Derived.Test.YtcccnicldbpieaaGreatDoorBase
import Derived.Test.YtcccnicldbpieaaGreatDoorLxM
import Derived.Lib.Strings
import Derived.Lib.Slices
import Derived.Lib.Walk
import Derived.Lib.Bytealg
import Derived.Lib.BytesEntry
import Derived.Lib.Hide
import Derived.Deep.QuietTactic
import Derived.Deep.LoopGhost
import Derived.BigQuiet
import Derived.Laws.BytesArg
namespace Go.Proofs.YtcccnicldbpieaaGreatDoor
open Go Go.RowKit
set_option linter.unusedVariables false
set_option linter.unusedSimpArgs false
/-- A quiet callee behind a first region that drew. -/
theorem Calls.quiet_of_same2 {P : Program} {f : FuncId} {args : Array Value} {w : World} {a n : Nat} {v : Value}
    (h : Calls P f args (w.drewN (a + n)) fun e w' => e = .returned v ∧ w' = w.drewN (a + n)) : Calls P f args (w.drewN (a + n)) fun e w'' => e = .returned v ∧ ∃ m, w'' = w.drewN (a + m) :=
  h.mono fun _ _ ⟨he, hm⟩ => ⟨he, n, hm⟩
def bnums (l : Bs) : List Int := l.map fun b => (b.toNat : Int)
def bcells (l : Bs) : List Value := l.map fun b => .int .u8 (b.toNat : Int)
def bstr (l : Bs) : ByteArray := ⟨l.toArray⟩
theorem bcells_len (l : Bs) : (bcells l).length = l.length := by simp [bcells]
theorem bnums_len (l : Bs) : (bnums l).length = l.length := by simp [bnums]
theorem bcells_at (l : Bs) (i : Nat) (h : i < l.length) : (bcells l)[i]? = some (.int .u8 (l[i].toNat : Int)) := by simp [bcells, h]
theorem bnums_at (l : Bs) (i : Nat) (h : i < l.length) : (bnums l).getD i 0 = (l[i].toNat : Int) := by simp [bnums, h]
theorem bytesOf_bnums (l : Bs) : Lib.bytesOf (bnums l) = l := by
  unfold Lib.bytesOf bnums
  rw [List.map_map]
  conv => rhs; rw [← List.map_id l]
  apply List.map_congr_left
  intro b _
  simp
theorem strOfNums_bnums (l : Bs) : strOfNums (bnums l) = bstr l := by
  have h := bytesOf_bnums l
  unfold Lib.bytesOf at h
  unfold strOfNums bstr
  rw [h]
/-- Block g may have changed; new blocks may have come. -/
structure Mod (g : Nat) (w w' : World) : Prop where
  os : w'.os = w.os
  tape : w'.tape = w.tape
  output : w'.output = w.output
  size : w.heap.size ≤ w'.heap.size
  other : ∀ k, k < w.heap.size → k ≠ g → w'.heap[k]? = w.heap[k]?
section
variable {g : Nat} {w w' w'' : World}
theorem Mod.refl (g : Nat) (w : World) : Mod g w w := ⟨rfl, rfl, rfl, Nat.le_refl _, fun _ _ _ => rfl⟩
theorem Mod.trans (h : Mod g w w') (k : Mod g w' w'') : Mod g w w'' :=
  ⟨k.os.trans h.os, k.tape.trans h.tape, k.output.trans h.output, Nat.le_trans h.size k.size, fun i hi hg => (k.other i (Nat.lt_of_lt_of_le hi h.size) hg).trans (h.other i hi hg)⟩
theorem Mod.of_ext (h : Ext w w') (g : Nat) : Mod g w w' := ⟨h.os, h.tape, h.output, h.size, fun k hk _ => h.block k hk⟩
theorem Mod.of_touch (h : Touch g w w') : Mod g w w' := ⟨h.os, h.tape, h.output, Nat.le_of_eq h.size.symm, fun k _ hg => h.other k hg⟩
theorem Mod.drewN (h : Mod g w w') (n : Nat) : Mod g w (w'.drewN n) := ⟨h.os, h.tape, h.output, h.size, h.other⟩
theorem Mod.setCell (h : Mod g w w') (i : Nat) (u : Value) : Mod g w (w'.setCell ⟨g, i, none⟩ u) :=
  h.trans ⟨rfl, rfl, rfl, by simp [World.setCell], fun k _ hg => Below.heap_setCell _ _ _ _ hg⟩
theorem Mod.far (h : Mod g w w') {b : Nat} (hb : w.heap.size ≤ b) (i : Nat) (u : Value) : Mod g w (w'.setCell ⟨b, i, none⟩ u) :=
  ⟨h.os, h.tape, h.output, by simp [World.setCell]; exact h.size, fun k hk hg => (Below.heap_setCell _ _ _ _ (show k ≠ b by omega)).trans (h.other k hk hg)⟩
theorem Mod.alloc (h : Mod g w w') (o : Obj) : Mod g w (w'.alloc o) :=
  ⟨h.os, h.tape, h.output, by have := h.size; simp; omega, fun k hk hg => (Below.heap_alloc _ _ _ (by have := h.size; omega)).trans (h.other k hk hg)⟩
theorem Mod.ext {w0 : World} (h : Mod g w w') (hx : Ext w0 w) (hB : w0.heap.size ≤ g) : Ext w0 w' :=
  Below.trans hx ⟨h.os, h.tape, h.output, h.size, fun k hk => h.other k (by have := hx.size; omega) (by omega)⟩
theorem Mod.blk {k : Nat} {t : TypeId} {cs : Array Value} (h : Mod g w w') (hb : Blk w k t cs) (hk : k ≠ g) : Blk w' k t cs := (h.other k hb.lt hk).trans hb
theorem Mod.cells {A : Option Addr} {cs : List Value} (h : Mod g w w') (hc : Cells w A cs) (hk : ∀ b off, A = some ⟨b, off, none⟩ → b ≠ g) : Cells w' A cs := by
  rcases hc with hc | ⟨b, off, hA, hb, hcc⟩
  · exact .inl hc
  · refine .inr ⟨b, off, hA, Nat.lt_of_lt_of_le hb h.size, fun k hkl => ?_⟩
    rw [World.cell?_of_block (w := w) (h.other b hb (hk b off hA))]
    exact hcc k hkl
theorem Mod.own {base : Nat} {e : TypeId} {size n : Nat} {v : Value} {xs : List Value} (h : Mod g w w') (ho : w.ownsRow base e size v n xs) (hk : v.ownBlock ≠ some g) : w'.ownsRow base e size v n xs := by
  refine ⟨ho.1, ?_⟩
  rcases ho.2 with hn | ⟨g', cap, cur, rfl, hb, hh, r⟩
  · exact .inl hn
  · exact .inr ⟨g', cap, cur, rfl, hb, (h.other g' (Array.getElem?_eq_some_iff.1 hh).1 (fun e => hk (by rw [e]; rfl))).trans hh, r⟩
theorem Blk.drewN {t : TypeId} {cs : Array Value} (h : Blk w g t cs) (n : Nat) : Blk (w.drewN n) g t cs := h
end
set_option maxHeartbeats 1000000 in
set_option maxRecDepth 100000 in
theorem slIndexByte_any (s : ByteArray) (c : Int) (w : World) :
    Calls Tryz.prog 92 #[.string s, .int .u8 c] w fun e w' => e = .returned (.int .i64 (Lib.indexByte s.data.toList c.toNat.toUInt8)) ∧ w' = w := by
  go_enter Tryz.func92, Tryz.ntmps92
  go_wp2
  rw [run_callFunc_extern Tryz.func115 (by kernel_rfl) (by kernel_rfl) (by kernel_rfl) (e := Extern.BytealgIndexByte.indexByte) (by kernel_rfl), Lib.run_indexByteString]
  simp only [Result.andThen]
  rw [Oper.upon_value]
  go_wp2
  go_ret
  exact ⟨rfl, rfl⟩
set_option maxHeartbeats 1000000 in
theorem sIndexByte_any (s : ByteArray) (c : Int) (w : World) :
    Calls Tryz.prog 65 #[.string s, .int .u8 c] w fun e w' => e = .returned (.int .i64 (Lib.indexByte s.data.toList c.toNat.toUInt8)) ∧ w' = w := by
  go_enter Tryz.func65, Tryz.ntmps65
  go_wp2_with (go_at_call 92; refine (slIndexByte_any _ _ _).mono ?_; rintro e w' ⟨rfl, rfl⟩)
  go_ret
  exact ⟨rfl, rfl⟩
/-- A text of bytes, and what is of it. -/
def IsSet (s : ByteArray) (p : UInt8 → Bool) : Prop := ∀ n : Nat, n < 256 → decide (0 ≤ Lib.indexByte s.data.toList n.toUInt8) = p n.toUInt8
theorem sIndexByte_set {s : ByteArray} {p : UInt8 → Bool} (hs : IsSet s p) (c : UInt8) (w : World) :
    Calls Tryz.prog 65 #[.string s, .int .u8 (c.toNat : Int)] w fun e w' => e = .returned (.int .i64 (Lib.indexByte s.data.toList c)) ∧ w' = w := by
  have h := sIndexByte_any s (c.toNat : Int) w
  rw [show ((c.toNat : Int).toNat).toUInt8 = c from by simp] at h
  exact h
theorem IsSet.at_ {s : ByteArray} {p : UInt8 → Bool} (hs : IsSet s p) (c : UInt8) : decide (0 ≤ Lib.indexByte s.data.toList c) = p c := by
  have h := hs c.toNat c.toNat_lt
  simpa using h
set_option maxHeartbeats 1000000 in
set_option maxRecDepth 100000 in
theorem bytesIndexByte_any (b o n c : Nat) (l : Bs) (cv : Int) (w : World) (hx : l.length = n)
    (hc : ∀ i (h : i < l.length), w.cell? ⟨b, o + i, none⟩ = some (.int .u8 (l[i].toNat : Int))) :
    Calls Tryz.prog 63 #[.slice (some ⟨b, o, none⟩) n c, .int .u8 cv] w fun e w' => e = .returned (.int .i64 (Lib.indexByte l cv.toNat.toUInt8)) ∧ w' = w := by
  subst hx
  have hc' : ∀ i, i < l.length → w.cell? ⟨b, o + i, none⟩ = some (.int .u8 ((bnums l).getD i 0)) := fun i hi => by rw [bnums_at l i hi]; exact hc i hi
  clear hc
  have h := Lib.run_indexByteSlice (P := Tryz.prog) w b o l.length c (bnums l) (bnums_len l) hc' cv
  rw [bytesOf_bnums] at h
  clear hc'
  go_enter Tryz.func63, Tryz.ntmps63
  go_wp2
  rw [run_callFunc_extern Tryz.func91 (by kernel_rfl) (by kernel_rfl) (by kernel_rfl) (e := Extern.BytealgIndexByte.indexByte) (by kernel_rfl), h]
  simp only [Result.andThen]
  rw [Oper.upon_value]
  go_wp2
  go_ret
  exact ⟨rfl, rfl⟩
end Go.Proofs.YtcccnicldbpieaaGreatDoor
