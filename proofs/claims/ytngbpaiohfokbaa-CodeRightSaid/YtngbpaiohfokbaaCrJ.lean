/- code.bare, walked. Condition: an instruction's kind is one of sixteen. -/
import Derived.Test.YtngbpaiohfokbaaCrI
namespace Go.Proofs.Ytngbpaiohfokbaa
open Go Go.RowKit
set_option linter.unusedVariables false
set_option linter.unusedSimpArgs false
theorem wpList_setJ {P : Program} {ops : Array Oper} {rest : List Oper} {o : Oper} {a : Act} {w : World} {Q : Exit → Act → World → Prop} (hgd : o.guard = none) (ty : TypeId) (x y : Operand) (ho : o.op = .store ty x y)
    (g i : Nat) (hx : a.eval x = .pointer (some ⟨g, i, none⟩)) (v : Value) (hy : a.eval y = v) (t : TypeId) (cs : Array Value) (hg : Blk w g t cs) (hi : i < cs.size) (h1 : v.oneCell' = true) (hv : v.cells = #[v]) (hsz : ∀ w, (Go.sizeOf ty).run P w = .ok 1 w)
    (h : ∀ w', Touch g w w' → Blk w' g t (cs.setIfInBounds i v) → wpList P ops Q rest (a.put o.dst undef) w') : wpList P ops Q (o :: rest) a w := by
  have hc : w.cell? ⟨g, i, none⟩ = some cs[i] := by rw [hg.cell]; simp [hi]
  have hf := hg.frozen i
  have hrun : (storeVar ty ⟨g, i, none⟩ v).run P w = .ok () (w.setCell ⟨g, i, none⟩ v) := by
    simp [storeVar, hv, hsz, storeCells, Addr.add, Result.andThen]
    rw [run_store P w _ _ _ h1]
    simp [hc, hf]
  refine wpList_plain hgd fun K hK => ?_
  unfold Oper.wp execOp
  simp only [ho, hx, hy, Instr.storeAt, Instr.sureAddr, Sem.run_bind, Sem.run_pure, hrun, Result.andThen_ok]
  refine hK _ _ (h (w.setCell ⟨g, i, none⟩ v) ⟨rfl, rfl, rfl, by simp [World.setCell], fun k hk => Below.heap_setCell _ _ _ _ hk⟩ (hg.put i v))
theorem Blk.newAtJ {w : World} {o : Obj} {t : TypeId} {cs : Array Value} {g : Nat} (hg : (w.alloc o).heap.size = g) : Blk ((w.alloc o).alloc (.cells cs t)) g t cs := by subst hg; exact Blk.new _ _ _
/-- The fields that tell of an instruction's kind. -/
def bareF (x : InstrD) : InstrD :=
  let y := { x with node := 0 }
  if x.op = 1 then { y with mode := 0, table := 0, row := false, key := (none, 0, 0) }
  else if x.op = 2 then { y with table := 0, row := false, key := (none, 0, 0) }
  else if x.op = 3 then { y with table := 0, key := (none, 0, 0), col := 0, var := 0 }
  else if x.op = 4 then { y with table := 0, key := (none, 0, 0), col := 0, vals := (none, 0, 0) }
  else if x.op = 5 then { y with table := 0, key := (none, 0, 0), vals := (none, 0, 0) }
  else if x.op = 6 then { y with table := 0, key := (none, 0, 0) }
  else if x.op = 7 then { y with table := 0, col := 0, var := 0 }
  else if x.op = 8 then { y with var := 0, vals := (none, 0, 0) }
  else if x.op = 9 then { y with vals := (none, 0, 0) }
  else if x.op = 10 then { y with goes := 0 }
  else if x.op = 11 then { y with eq := false, vals := (none, 0, 0), goes := 0 }
  else if x.op = 12 then { y with var := 0, frm := 0, upto := 0, goes := 0 }
  else if x.op = 13 then { y with var := 0, upto := 0, goes := 0 }
  else y
set_option maxRecDepth 100000 in
set_option maxHeartbeats 32000000 in
theorem bare_any (x : InstrD) (h0 : 1 ≤ x.op) (h1 : x.op ≤ 16) (w : World) : Calls Try.prog 50 #[aggI x] w fun e w' => e = .returned (aggI (bareF x)) ∧ Ext w w' := by
  obtain ⟨op, node, mode, table, row, col, var, goes, eq, frm, upto, ⟨ka, kl, kc⟩, ⟨va, vl, vc⟩⟩ := x
  simp only at h0 h1
  have hc := ops16 h0 h1
  clear h0 h1
  have HX1 : Hid (Ext w ((w.alloc (.cells #[.int .u8 op, .int .i64 node, .int .u8 mode, .int .i64 table, .bool row, .int .i64 col, .int .i64 var, .int .i64 goes, .bool eq, .int .i64 frm, .int .i64 upto, .slice ka kl kc, .slice va vl vc] 49)).alloc (.cells #[.int .u8 0, .int .i64 0, .int .u8 0, .int .i64 0, .bool false, .int .i64 0, .int .i64 0, .int .i64 0, .bool false, .int .i64 0, .int .i64 0, .slice none 0 0, .slice none 0 0] 49))) := Lib.hid ((Ext.alloc _ _).trans (Ext.alloc _ _))
  have HB1 : Hid (Blk ((w.alloc (.cells #[.int .u8 op, .int .i64 node, .int .u8 mode, .int .i64 table, .bool row, .int .i64 col, .int .i64 var, .int .i64 goes, .bool eq, .int .i64 frm, .int .i64 upto, .slice ka kl kc, .slice va vl vc] 49)).alloc (.cells #[.int .u8 0, .int .i64 0, .int .u8 0, .int .i64 0, .bool false, .int .i64 0, .int .i64 0, .int .i64 0, .bool false, .int .i64 0, .int .i64 0, .slice none 0 0, .slice none 0 0] 49)) w.heap.size 49 #[.int .u8 op, .int .i64 node, .int .u8 mode, .int .i64 table, .bool row, .int .i64 col, .int .i64 var, .int .i64 goes, .bool eq, .int .i64 frm, .int .i64 upto, .slice ka kl kc, .slice va vl vc]) := Lib.hid ((Blk.new _ _ _).alloc _)
  have HR1 : Hid (Blk ((w.alloc (.cells #[.int .u8 op, .int .i64 node, .int .u8 mode, .int .i64 table, .bool row, .int .i64 col, .int .i64 var, .int .i64 goes, .bool eq, .int .i64 frm, .int .i64 upto, .slice ka kl kc, .slice va vl vc] 49)).alloc (.cells #[.int .u8 0, .int .i64 0, .int .u8 0, .int .i64 0, .bool false, .int .i64 0, .int .i64 0, .int .i64 0, .bool false, .int .i64 0, .int .i64 0, .slice none 0 0, .slice none 0 0] 49)) (w.heap.size + 1) 49 #[.int .u8 0, .int .i64 0, .int .u8 0, .int .i64 0, .bool false, .int .i64 0, .int .i64 0, .int .i64 0, .bool false, .int .i64 0, .int .i64 0, .slice none 0 0, .slice none 0 0]) := Lib.hid (Blk.newAtJ (by simp))
  obtain ⟨V, HV⟩ : ∃ V, Hid (aggI (bareF ⟨op, node, mode, table, row, col, var, goes, eq, frm, upto, (ka, kl, kc), (va, vl, vc)⟩) = V) := ⟨_, Lib.hid rfl⟩
  rw [HV.out]
  unfold aggI
  go_enter Try.func50, Try.ntmps50
  go_upto_region 1 with fail
  try simp only [size_alloc]
  generalize hg : w.heap.size = g at HB1 HR1 ⊢
  have HG := Lib.hid hg
  clear hg
  generalize ((w.alloc (.cells #[.int .u8 op, .int .i64 node, .int .u8 mode, .int .i64 table, .bool row, .int .i64 col, .int .i64 var, .int .i64 goes, .bool eq, .int .i64 frm, .int .i64 upto, .slice ka kl kc, .slice va vl vc] 49)).alloc (.cells #[.int .u8 0, .int .i64 0, .int .u8 0, .int .i64 0, .bool false, .int .i64 0, .int .i64 0, .int .i64 0, .bool false, .int .i64 0, .int .i64 0, .slice none 0 0, .slice none 0 0] 49)) = w1 at *
  rcases hc with rfl | rfl | rfl | rfl | rfl | rfl | rfl | rfl | rfl | rfl | rfl | rfl | rfl | rfl | rfl | rfl
  · -- 1
    go_wp2_with (refine wpList_setJ rfl _ _ _ rfl g 1 (by kernel_rfl) (.int .i64 0) (by kernel_rfl) 49 _ HB1.out (by show 1 < 13; decide) rfl rfl (fun w => by kernel_rfl) ?_)
    intro w2 ht hb
    have HB2 : Hid (Blk w2 g 49 #[.int .u8 1, .int .i64 0, .int .u8 mode, .int .i64 table, .bool row, .int .i64 col, .int .i64 var, .int .i64 goes, .bool eq, .int .i64 frm, .int .i64 upto, .slice ka kl kc, .slice va vl vc]) := Lib.hid hb
    have HR2 := Lib.hid (ht.blk HR1.out (by omega))
    have HX2 := Lib.hid (ht.ext HX1.out (by have := HG.out; omega))
    clear ht hb HB1 HR1 HX1
    have y0 : w2.cell? ⟨g, 0, none⟩ = some (.int .u8 1) := HB2.out.cell 0
    go_wp2_with (refine wpList_setJ rfl _ _ _ rfl g 2 (by kernel_rfl) (.int .u8 0) (by kernel_rfl) 49 _ HB2.out (by show 2 < 13; decide) rfl rfl (fun w => by kernel_rfl) ?_)
    intro w3 ht hb
    have HB3 : Hid (Blk w3 g 49 #[.int .u8 1, .int .i64 0, .int .u8 0, .int .i64 table, .bool row, .int .i64 col, .int .i64 var, .int .i64 goes, .bool eq, .int .i64 frm, .int .i64 upto, .slice ka kl kc, .slice va vl vc]) := Lib.hid hb
    have HR3 := Lib.hid (ht.blk HR2.out (by omega))
    have HX3 := Lib.hid (ht.ext HX2.out (by have := HG.out; omega))
    clear ht hb HB2 HR2 HX2
    go_wp2_with (refine wpList_setJ rfl _ _ _ rfl g 3 (by kernel_rfl) (.int .i64 0) (by kernel_rfl) 49 _ HB3.out (by show 3 < 13; decide) rfl rfl (fun w => by kernel_rfl) ?_)
    intro w4 ht hb
    have HB4 : Hid (Blk w4 g 49 #[.int .u8 1, .int .i64 0, .int .u8 0, .int .i64 0, .bool row, .int .i64 col, .int .i64 var, .int .i64 goes, .bool eq, .int .i64 frm, .int .i64 upto, .slice ka kl kc, .slice va vl vc]) := Lib.hid hb
    have HR4 := Lib.hid (ht.blk HR3.out (by omega))
    have HX4 := Lib.hid (ht.ext HX3.out (by have := HG.out; omega))
    clear ht hb HB3 HR3 HX3
    go_wp2_with (refine wpList_setJ rfl _ _ _ rfl g 4 (by kernel_rfl) (.bool false) (by kernel_rfl) 49 _ HB4.out (by show 4 < 13; decide) rfl rfl (fun w => by kernel_rfl) ?_)
    intro w5 ht hb
    have HB5 : Hid (Blk w5 g 49 #[.int .u8 1, .int .i64 0, .int .u8 0, .int .i64 0, .bool false, .int .i64 col, .int .i64 var, .int .i64 goes, .bool eq, .int .i64 frm, .int .i64 upto, .slice ka kl kc, .slice va vl vc]) := Lib.hid hb
    have HR5 := Lib.hid (ht.blk HR4.out (by omega))
    have HX5 := Lib.hid (ht.ext HX4.out (by have := HG.out; omega))
    clear ht hb HB4 HR4 HX4
    go_wp2_with (refine wpList_setJ rfl _ _ _ rfl g 11 (by kernel_rfl) (.slice none 0 0) (by kernel_rfl) 49 _ HB5.out (by show 11 < 13; decide) rfl rfl (fun w => by kernel_rfl) ?_)
    intro w6 ht hb
    have HB6 : Hid (Blk w6 g 49 #[.int .u8 1, .int .i64 0, .int .u8 0, .int .i64 0, .bool false, .int .i64 col, .int .i64 var, .int .i64 goes, .bool eq, .int .i64 frm, .int .i64 upto, .slice none 0 0, .slice va vl vc]) := Lib.hid hb
    have HR6 := Lib.hid (ht.blk HR5.out (by omega))
    have HX6 := Lib.hid (ht.ext HX5.out (by have := HG.out; omega))
    clear ht hb HB5 HR5 HX5
    have HVJ : Hid (Value.agg #[.int .u8 1, .int .i64 0, .int .u8 0, .int .i64 0, .bool false, .int .i64 col, .int .i64 var, .int .i64 goes, .bool eq, .int .i64 frm, .int .i64 upto, .slice none 0 0, .slice va vl vc] = V) := Lib.hid HV.out
    go_wp2_with (first | refine wpList_get rfl 49 _ rfl g rfl 49 _ _ HB6.out Try.underlying49 rfl (by kernel_rfl) ?_ | refine wpList_put rfl 49 _ _ rfl (g + 1) #[.int .u8 1, .int .i64 0, .int .u8 0, .int .i64 0, .bool false, .int .i64 col, .int .i64 var, .int .i64 goes, .bool eq, .int .i64 frm, .int .i64 upto, .slice none 0 0, .slice va vl vc] rfl rfl 49 _ HR6.out (by kernel_rfl) rfl rfl ?_)
    intro wz ht hb
    have HRZ := Lib.hid hb
    have HXZ := Lib.hid (ht.ext HX6.out (by have := HG.out; omega))
    clear ht hb HB6 HR6 HX6
    go_wp2_with fail
    exact ret_row _ _ _ _ rfl rfl rfl HRZ.out Try.underlying49 rfl (by kernel_rfl) ⟨by rw [HVJ.out], HXZ.out⟩
  · -- 2
    go_wp2_with (refine wpList_setJ rfl _ _ _ rfl g 1 (by kernel_rfl) (.int .i64 0) (by kernel_rfl) 49 _ HB1.out (by show 1 < 13; decide) rfl rfl (fun w => by kernel_rfl) ?_)
    intro w2 ht hb
    have HB2 : Hid (Blk w2 g 49 #[.int .u8 2, .int .i64 0, .int .u8 mode, .int .i64 table, .bool row, .int .i64 col, .int .i64 var, .int .i64 goes, .bool eq, .int .i64 frm, .int .i64 upto, .slice ka kl kc, .slice va vl vc]) := Lib.hid hb
    have HR2 := Lib.hid (ht.blk HR1.out (by omega))
    have HX2 := Lib.hid (ht.ext HX1.out (by have := HG.out; omega))
    clear ht hb HB1 HR1 HX1
    have y0 : w2.cell? ⟨g, 0, none⟩ = some (.int .u8 2) := HB2.out.cell 0
    go_wp2_with (refine wpList_setJ rfl _ _ _ rfl g 3 (by kernel_rfl) (.int .i64 0) (by kernel_rfl) 49 _ HB2.out (by show 3 < 13; decide) rfl rfl (fun w => by kernel_rfl) ?_)
    intro w3 ht hb
    have HB3 : Hid (Blk w3 g 49 #[.int .u8 2, .int .i64 0, .int .u8 mode, .int .i64 0, .bool row, .int .i64 col, .int .i64 var, .int .i64 goes, .bool eq, .int .i64 frm, .int .i64 upto, .slice ka kl kc, .slice va vl vc]) := Lib.hid hb
    have HR3 := Lib.hid (ht.blk HR2.out (by omega))
    have HX3 := Lib.hid (ht.ext HX2.out (by have := HG.out; omega))
    clear ht hb HB2 HR2 HX2
    go_wp2_with (refine wpList_setJ rfl _ _ _ rfl g 4 (by kernel_rfl) (.bool false) (by kernel_rfl) 49 _ HB3.out (by show 4 < 13; decide) rfl rfl (fun w => by kernel_rfl) ?_)
    intro w4 ht hb
    have HB4 : Hid (Blk w4 g 49 #[.int .u8 2, .int .i64 0, .int .u8 mode, .int .i64 0, .bool false, .int .i64 col, .int .i64 var, .int .i64 goes, .bool eq, .int .i64 frm, .int .i64 upto, .slice ka kl kc, .slice va vl vc]) := Lib.hid hb
    have HR4 := Lib.hid (ht.blk HR3.out (by omega))
    have HX4 := Lib.hid (ht.ext HX3.out (by have := HG.out; omega))
    clear ht hb HB3 HR3 HX3
    go_wp2_with (refine wpList_setJ rfl _ _ _ rfl g 11 (by kernel_rfl) (.slice none 0 0) (by kernel_rfl) 49 _ HB4.out (by show 11 < 13; decide) rfl rfl (fun w => by kernel_rfl) ?_)
    intro w5 ht hb
    have HB5 : Hid (Blk w5 g 49 #[.int .u8 2, .int .i64 0, .int .u8 mode, .int .i64 0, .bool false, .int .i64 col, .int .i64 var, .int .i64 goes, .bool eq, .int .i64 frm, .int .i64 upto, .slice none 0 0, .slice va vl vc]) := Lib.hid hb
    have HR5 := Lib.hid (ht.blk HR4.out (by omega))
    have HX5 := Lib.hid (ht.ext HX4.out (by have := HG.out; omega))
    clear ht hb HB4 HR4 HX4
    have HVJ : Hid (Value.agg #[.int .u8 2, .int .i64 0, .int .u8 mode, .int .i64 0, .bool false, .int .i64 col, .int .i64 var, .int .i64 goes, .bool eq, .int .i64 frm, .int .i64 upto, .slice none 0 0, .slice va vl vc] = V) := Lib.hid HV.out
    go_wp2_with (first | refine wpList_get rfl 49 _ rfl g rfl 49 _ _ HB5.out Try.underlying49 rfl (by kernel_rfl) ?_ | refine wpList_put rfl 49 _ _ rfl (g + 1) #[.int .u8 2, .int .i64 0, .int .u8 mode, .int .i64 0, .bool false, .int .i64 col, .int .i64 var, .int .i64 goes, .bool eq, .int .i64 frm, .int .i64 upto, .slice none 0 0, .slice va vl vc] rfl rfl 49 _ HR5.out (by kernel_rfl) rfl rfl ?_)
    intro wz ht hb
    have HRZ := Lib.hid hb
    have HXZ := Lib.hid (ht.ext HX5.out (by have := HG.out; omega))
    clear ht hb HB5 HR5 HX5
    go_wp2_with fail
    exact ret_row _ _ _ _ rfl rfl rfl HRZ.out Try.underlying49 rfl (by kernel_rfl) ⟨by rw [HVJ.out], HXZ.out⟩
  · -- 3
    go_wp2_with (refine wpList_setJ rfl _ _ _ rfl g 1 (by kernel_rfl) (.int .i64 0) (by kernel_rfl) 49 _ HB1.out (by show 1 < 13; decide) rfl rfl (fun w => by kernel_rfl) ?_)
    intro w2 ht hb
    have HB2 : Hid (Blk w2 g 49 #[.int .u8 3, .int .i64 0, .int .u8 mode, .int .i64 table, .bool row, .int .i64 col, .int .i64 var, .int .i64 goes, .bool eq, .int .i64 frm, .int .i64 upto, .slice ka kl kc, .slice va vl vc]) := Lib.hid hb
    have HR2 := Lib.hid (ht.blk HR1.out (by omega))
    have HX2 := Lib.hid (ht.ext HX1.out (by have := HG.out; omega))
    clear ht hb HB1 HR1 HX1
    have y0 : w2.cell? ⟨g, 0, none⟩ = some (.int .u8 3) := HB2.out.cell 0
    go_wp2_with (refine wpList_setJ rfl _ _ _ rfl g 3 (by kernel_rfl) (.int .i64 0) (by kernel_rfl) 49 _ HB2.out (by show 3 < 13; decide) rfl rfl (fun w => by kernel_rfl) ?_)
    intro w3 ht hb
    have HB3 : Hid (Blk w3 g 49 #[.int .u8 3, .int .i64 0, .int .u8 mode, .int .i64 0, .bool row, .int .i64 col, .int .i64 var, .int .i64 goes, .bool eq, .int .i64 frm, .int .i64 upto, .slice ka kl kc, .slice va vl vc]) := Lib.hid hb
    have HR3 := Lib.hid (ht.blk HR2.out (by omega))
    have HX3 := Lib.hid (ht.ext HX2.out (by have := HG.out; omega))
    clear ht hb HB2 HR2 HX2
    go_wp2_with (refine wpList_setJ rfl _ _ _ rfl g 11 (by kernel_rfl) (.slice none 0 0) (by kernel_rfl) 49 _ HB3.out (by show 11 < 13; decide) rfl rfl (fun w => by kernel_rfl) ?_)
    intro w4 ht hb
    have HB4 : Hid (Blk w4 g 49 #[.int .u8 3, .int .i64 0, .int .u8 mode, .int .i64 0, .bool row, .int .i64 col, .int .i64 var, .int .i64 goes, .bool eq, .int .i64 frm, .int .i64 upto, .slice none 0 0, .slice va vl vc]) := Lib.hid hb
    have HR4 := Lib.hid (ht.blk HR3.out (by omega))
    have HX4 := Lib.hid (ht.ext HX3.out (by have := HG.out; omega))
    clear ht hb HB3 HR3 HX3
    go_wp2_with (refine wpList_setJ rfl _ _ _ rfl g 5 (by kernel_rfl) (.int .i64 0) (by kernel_rfl) 49 _ HB4.out (by show 5 < 13; decide) rfl rfl (fun w => by kernel_rfl) ?_)
    intro w5 ht hb
    have HB5 : Hid (Blk w5 g 49 #[.int .u8 3, .int .i64 0, .int .u8 mode, .int .i64 0, .bool row, .int .i64 0, .int .i64 var, .int .i64 goes, .bool eq, .int .i64 frm, .int .i64 upto, .slice none 0 0, .slice va vl vc]) := Lib.hid hb
    have HR5 := Lib.hid (ht.blk HR4.out (by omega))
    have HX5 := Lib.hid (ht.ext HX4.out (by have := HG.out; omega))
    clear ht hb HB4 HR4 HX4
    go_wp2_with (refine wpList_setJ rfl _ _ _ rfl g 6 (by kernel_rfl) (.int .i64 0) (by kernel_rfl) 49 _ HB5.out (by show 6 < 13; decide) rfl rfl (fun w => by kernel_rfl) ?_)
    intro w6 ht hb
    have HB6 : Hid (Blk w6 g 49 #[.int .u8 3, .int .i64 0, .int .u8 mode, .int .i64 0, .bool row, .int .i64 0, .int .i64 0, .int .i64 goes, .bool eq, .int .i64 frm, .int .i64 upto, .slice none 0 0, .slice va vl vc]) := Lib.hid hb
    have HR6 := Lib.hid (ht.blk HR5.out (by omega))
    have HX6 := Lib.hid (ht.ext HX5.out (by have := HG.out; omega))
    clear ht hb HB5 HR5 HX5
    have HVJ : Hid (Value.agg #[.int .u8 3, .int .i64 0, .int .u8 mode, .int .i64 0, .bool row, .int .i64 0, .int .i64 0, .int .i64 goes, .bool eq, .int .i64 frm, .int .i64 upto, .slice none 0 0, .slice va vl vc] = V) := Lib.hid HV.out
    go_wp2_with (first | refine wpList_get rfl 49 _ rfl g rfl 49 _ _ HB6.out Try.underlying49 rfl (by kernel_rfl) ?_ | refine wpList_put rfl 49 _ _ rfl (g + 1) #[.int .u8 3, .int .i64 0, .int .u8 mode, .int .i64 0, .bool row, .int .i64 0, .int .i64 0, .int .i64 goes, .bool eq, .int .i64 frm, .int .i64 upto, .slice none 0 0, .slice va vl vc] rfl rfl 49 _ HR6.out (by kernel_rfl) rfl rfl ?_)
    intro wz ht hb
    have HRZ := Lib.hid hb
    have HXZ := Lib.hid (ht.ext HX6.out (by have := HG.out; omega))
    clear ht hb HB6 HR6 HX6
    go_wp2_with fail
    exact ret_row _ _ _ _ rfl rfl rfl HRZ.out Try.underlying49 rfl (by kernel_rfl) ⟨by rw [HVJ.out], HXZ.out⟩
  · -- 4
    go_wp2_with (refine wpList_setJ rfl _ _ _ rfl g 1 (by kernel_rfl) (.int .i64 0) (by kernel_rfl) 49 _ HB1.out (by show 1 < 13; decide) rfl rfl (fun w => by kernel_rfl) ?_)
    intro w2 ht hb
    have HB2 : Hid (Blk w2 g 49 #[.int .u8 4, .int .i64 0, .int .u8 mode, .int .i64 table, .bool row, .int .i64 col, .int .i64 var, .int .i64 goes, .bool eq, .int .i64 frm, .int .i64 upto, .slice ka kl kc, .slice va vl vc]) := Lib.hid hb
    have HR2 := Lib.hid (ht.blk HR1.out (by omega))
    have HX2 := Lib.hid (ht.ext HX1.out (by have := HG.out; omega))
    clear ht hb HB1 HR1 HX1
    have y0 : w2.cell? ⟨g, 0, none⟩ = some (.int .u8 4) := HB2.out.cell 0
    go_wp2_with (refine wpList_setJ rfl _ _ _ rfl g 3 (by kernel_rfl) (.int .i64 0) (by kernel_rfl) 49 _ HB2.out (by show 3 < 13; decide) rfl rfl (fun w => by kernel_rfl) ?_)
    intro w3 ht hb
    have HB3 : Hid (Blk w3 g 49 #[.int .u8 4, .int .i64 0, .int .u8 mode, .int .i64 0, .bool row, .int .i64 col, .int .i64 var, .int .i64 goes, .bool eq, .int .i64 frm, .int .i64 upto, .slice ka kl kc, .slice va vl vc]) := Lib.hid hb
    have HR3 := Lib.hid (ht.blk HR2.out (by omega))
    have HX3 := Lib.hid (ht.ext HX2.out (by have := HG.out; omega))
    clear ht hb HB2 HR2 HX2
    go_wp2_with (refine wpList_setJ rfl _ _ _ rfl g 11 (by kernel_rfl) (.slice none 0 0) (by kernel_rfl) 49 _ HB3.out (by show 11 < 13; decide) rfl rfl (fun w => by kernel_rfl) ?_)
    intro w4 ht hb
    have HB4 : Hid (Blk w4 g 49 #[.int .u8 4, .int .i64 0, .int .u8 mode, .int .i64 0, .bool row, .int .i64 col, .int .i64 var, .int .i64 goes, .bool eq, .int .i64 frm, .int .i64 upto, .slice none 0 0, .slice va vl vc]) := Lib.hid hb
    have HR4 := Lib.hid (ht.blk HR3.out (by omega))
    have HX4 := Lib.hid (ht.ext HX3.out (by have := HG.out; omega))
    clear ht hb HB3 HR3 HX3
    go_wp2_with (refine wpList_setJ rfl _ _ _ rfl g 5 (by kernel_rfl) (.int .i64 0) (by kernel_rfl) 49 _ HB4.out (by show 5 < 13; decide) rfl rfl (fun w => by kernel_rfl) ?_)
    intro w5 ht hb
    have HB5 : Hid (Blk w5 g 49 #[.int .u8 4, .int .i64 0, .int .u8 mode, .int .i64 0, .bool row, .int .i64 0, .int .i64 var, .int .i64 goes, .bool eq, .int .i64 frm, .int .i64 upto, .slice none 0 0, .slice va vl vc]) := Lib.hid hb
    have HR5 := Lib.hid (ht.blk HR4.out (by omega))
    have HX5 := Lib.hid (ht.ext HX4.out (by have := HG.out; omega))
    clear ht hb HB4 HR4 HX4
    go_wp2_with (refine wpList_setJ rfl _ _ _ rfl g 12 (by kernel_rfl) (.slice none 0 0) (by kernel_rfl) 49 _ HB5.out (by show 12 < 13; decide) rfl rfl (fun w => by kernel_rfl) ?_)
    intro w6 ht hb
    have HB6 : Hid (Blk w6 g 49 #[.int .u8 4, .int .i64 0, .int .u8 mode, .int .i64 0, .bool row, .int .i64 0, .int .i64 var, .int .i64 goes, .bool eq, .int .i64 frm, .int .i64 upto, .slice none 0 0, .slice none 0 0]) := Lib.hid hb
    have HR6 := Lib.hid (ht.blk HR5.out (by omega))
    have HX6 := Lib.hid (ht.ext HX5.out (by have := HG.out; omega))
    clear ht hb HB5 HR5 HX5
    have HVJ : Hid (Value.agg #[.int .u8 4, .int .i64 0, .int .u8 mode, .int .i64 0, .bool row, .int .i64 0, .int .i64 var, .int .i64 goes, .bool eq, .int .i64 frm, .int .i64 upto, .slice none 0 0, .slice none 0 0] = V) := Lib.hid HV.out
    go_wp2_with (first | refine wpList_get rfl 49 _ rfl g rfl 49 _ _ HB6.out Try.underlying49 rfl (by kernel_rfl) ?_ | refine wpList_put rfl 49 _ _ rfl (g + 1) #[.int .u8 4, .int .i64 0, .int .u8 mode, .int .i64 0, .bool row, .int .i64 0, .int .i64 var, .int .i64 goes, .bool eq, .int .i64 frm, .int .i64 upto, .slice none 0 0, .slice none 0 0] rfl rfl 49 _ HR6.out (by kernel_rfl) rfl rfl ?_)
    intro wz ht hb
    have HRZ := Lib.hid hb
    have HXZ := Lib.hid (ht.ext HX6.out (by have := HG.out; omega))
    clear ht hb HB6 HR6 HX6
    go_wp2_with fail
    exact ret_row _ _ _ _ rfl rfl rfl HRZ.out Try.underlying49 rfl (by kernel_rfl) ⟨by rw [HVJ.out], HXZ.out⟩
  · -- 5
    go_wp2_with (refine wpList_setJ rfl _ _ _ rfl g 1 (by kernel_rfl) (.int .i64 0) (by kernel_rfl) 49 _ HB1.out (by show 1 < 13; decide) rfl rfl (fun w => by kernel_rfl) ?_)
    intro w2 ht hb
    have HB2 : Hid (Blk w2 g 49 #[.int .u8 5, .int .i64 0, .int .u8 mode, .int .i64 table, .bool row, .int .i64 col, .int .i64 var, .int .i64 goes, .bool eq, .int .i64 frm, .int .i64 upto, .slice ka kl kc, .slice va vl vc]) := Lib.hid hb
    have HR2 := Lib.hid (ht.blk HR1.out (by omega))
    have HX2 := Lib.hid (ht.ext HX1.out (by have := HG.out; omega))
    clear ht hb HB1 HR1 HX1
    have y0 : w2.cell? ⟨g, 0, none⟩ = some (.int .u8 5) := HB2.out.cell 0
    go_wp2_with (refine wpList_setJ rfl _ _ _ rfl g 3 (by kernel_rfl) (.int .i64 0) (by kernel_rfl) 49 _ HB2.out (by show 3 < 13; decide) rfl rfl (fun w => by kernel_rfl) ?_)
    intro w3 ht hb
    have HB3 : Hid (Blk w3 g 49 #[.int .u8 5, .int .i64 0, .int .u8 mode, .int .i64 0, .bool row, .int .i64 col, .int .i64 var, .int .i64 goes, .bool eq, .int .i64 frm, .int .i64 upto, .slice ka kl kc, .slice va vl vc]) := Lib.hid hb
    have HR3 := Lib.hid (ht.blk HR2.out (by omega))
    have HX3 := Lib.hid (ht.ext HX2.out (by have := HG.out; omega))
    clear ht hb HB2 HR2 HX2
    go_wp2_with (refine wpList_setJ rfl _ _ _ rfl g 11 (by kernel_rfl) (.slice none 0 0) (by kernel_rfl) 49 _ HB3.out (by show 11 < 13; decide) rfl rfl (fun w => by kernel_rfl) ?_)
    intro w4 ht hb
    have HB4 : Hid (Blk w4 g 49 #[.int .u8 5, .int .i64 0, .int .u8 mode, .int .i64 0, .bool row, .int .i64 col, .int .i64 var, .int .i64 goes, .bool eq, .int .i64 frm, .int .i64 upto, .slice none 0 0, .slice va vl vc]) := Lib.hid hb
    have HR4 := Lib.hid (ht.blk HR3.out (by omega))
    have HX4 := Lib.hid (ht.ext HX3.out (by have := HG.out; omega))
    clear ht hb HB3 HR3 HX3
    go_wp2_with (refine wpList_setJ rfl _ _ _ rfl g 12 (by kernel_rfl) (.slice none 0 0) (by kernel_rfl) 49 _ HB4.out (by show 12 < 13; decide) rfl rfl (fun w => by kernel_rfl) ?_)
    intro w5 ht hb
    have HB5 : Hid (Blk w5 g 49 #[.int .u8 5, .int .i64 0, .int .u8 mode, .int .i64 0, .bool row, .int .i64 col, .int .i64 var, .int .i64 goes, .bool eq, .int .i64 frm, .int .i64 upto, .slice none 0 0, .slice none 0 0]) := Lib.hid hb
    have HR5 := Lib.hid (ht.blk HR4.out (by omega))
    have HX5 := Lib.hid (ht.ext HX4.out (by have := HG.out; omega))
    clear ht hb HB4 HR4 HX4
    have HVJ : Hid (Value.agg #[.int .u8 5, .int .i64 0, .int .u8 mode, .int .i64 0, .bool row, .int .i64 col, .int .i64 var, .int .i64 goes, .bool eq, .int .i64 frm, .int .i64 upto, .slice none 0 0, .slice none 0 0] = V) := Lib.hid HV.out
    go_wp2_with (first | refine wpList_get rfl 49 _ rfl g rfl 49 _ _ HB5.out Try.underlying49 rfl (by kernel_rfl) ?_ | refine wpList_put rfl 49 _ _ rfl (g + 1) #[.int .u8 5, .int .i64 0, .int .u8 mode, .int .i64 0, .bool row, .int .i64 col, .int .i64 var, .int .i64 goes, .bool eq, .int .i64 frm, .int .i64 upto, .slice none 0 0, .slice none 0 0] rfl rfl 49 _ HR5.out (by kernel_rfl) rfl rfl ?_)
    intro wz ht hb
    have HRZ := Lib.hid hb
    have HXZ := Lib.hid (ht.ext HX5.out (by have := HG.out; omega))
    clear ht hb HB5 HR5 HX5
    go_wp2_with fail
    exact ret_row _ _ _ _ rfl rfl rfl HRZ.out Try.underlying49 rfl (by kernel_rfl) ⟨by rw [HVJ.out], HXZ.out⟩
  · -- 6
    go_wp2_with (refine wpList_setJ rfl _ _ _ rfl g 1 (by kernel_rfl) (.int .i64 0) (by kernel_rfl) 49 _ HB1.out (by show 1 < 13; decide) rfl rfl (fun w => by kernel_rfl) ?_)
    intro w2 ht hb
    have HB2 : Hid (Blk w2 g 49 #[.int .u8 6, .int .i64 0, .int .u8 mode, .int .i64 table, .bool row, .int .i64 col, .int .i64 var, .int .i64 goes, .bool eq, .int .i64 frm, .int .i64 upto, .slice ka kl kc, .slice va vl vc]) := Lib.hid hb
    have HR2 := Lib.hid (ht.blk HR1.out (by omega))
    have HX2 := Lib.hid (ht.ext HX1.out (by have := HG.out; omega))
    clear ht hb HB1 HR1 HX1
    have y0 : w2.cell? ⟨g, 0, none⟩ = some (.int .u8 6) := HB2.out.cell 0
    go_wp2_with (refine wpList_setJ rfl _ _ _ rfl g 3 (by kernel_rfl) (.int .i64 0) (by kernel_rfl) 49 _ HB2.out (by show 3 < 13; decide) rfl rfl (fun w => by kernel_rfl) ?_)
    intro w3 ht hb
    have HB3 : Hid (Blk w3 g 49 #[.int .u8 6, .int .i64 0, .int .u8 mode, .int .i64 0, .bool row, .int .i64 col, .int .i64 var, .int .i64 goes, .bool eq, .int .i64 frm, .int .i64 upto, .slice ka kl kc, .slice va vl vc]) := Lib.hid hb
    have HR3 := Lib.hid (ht.blk HR2.out (by omega))
    have HX3 := Lib.hid (ht.ext HX2.out (by have := HG.out; omega))
    clear ht hb HB2 HR2 HX2
    go_wp2_with (refine wpList_setJ rfl _ _ _ rfl g 11 (by kernel_rfl) (.slice none 0 0) (by kernel_rfl) 49 _ HB3.out (by show 11 < 13; decide) rfl rfl (fun w => by kernel_rfl) ?_)
    intro w4 ht hb
    have HB4 : Hid (Blk w4 g 49 #[.int .u8 6, .int .i64 0, .int .u8 mode, .int .i64 0, .bool row, .int .i64 col, .int .i64 var, .int .i64 goes, .bool eq, .int .i64 frm, .int .i64 upto, .slice none 0 0, .slice va vl vc]) := Lib.hid hb
    have HR4 := Lib.hid (ht.blk HR3.out (by omega))
    have HX4 := Lib.hid (ht.ext HX3.out (by have := HG.out; omega))
    clear ht hb HB3 HR3 HX3
    have HVJ : Hid (Value.agg #[.int .u8 6, .int .i64 0, .int .u8 mode, .int .i64 0, .bool row, .int .i64 col, .int .i64 var, .int .i64 goes, .bool eq, .int .i64 frm, .int .i64 upto, .slice none 0 0, .slice va vl vc] = V) := Lib.hid HV.out
    go_wp2_with (first | refine wpList_get rfl 49 _ rfl g rfl 49 _ _ HB4.out Try.underlying49 rfl (by kernel_rfl) ?_ | refine wpList_put rfl 49 _ _ rfl (g + 1) #[.int .u8 6, .int .i64 0, .int .u8 mode, .int .i64 0, .bool row, .int .i64 col, .int .i64 var, .int .i64 goes, .bool eq, .int .i64 frm, .int .i64 upto, .slice none 0 0, .slice va vl vc] rfl rfl 49 _ HR4.out (by kernel_rfl) rfl rfl ?_)
    intro wz ht hb
    have HRZ := Lib.hid hb
    have HXZ := Lib.hid (ht.ext HX4.out (by have := HG.out; omega))
    clear ht hb HB4 HR4 HX4
    go_wp2_with fail
    exact ret_row _ _ _ _ rfl rfl rfl HRZ.out Try.underlying49 rfl (by kernel_rfl) ⟨by rw [HVJ.out], HXZ.out⟩
  · -- 7
    go_wp2_with (refine wpList_setJ rfl _ _ _ rfl g 1 (by kernel_rfl) (.int .i64 0) (by kernel_rfl) 49 _ HB1.out (by show 1 < 13; decide) rfl rfl (fun w => by kernel_rfl) ?_)
    intro w2 ht hb
    have HB2 : Hid (Blk w2 g 49 #[.int .u8 7, .int .i64 0, .int .u8 mode, .int .i64 table, .bool row, .int .i64 col, .int .i64 var, .int .i64 goes, .bool eq, .int .i64 frm, .int .i64 upto, .slice ka kl kc, .slice va vl vc]) := Lib.hid hb
    have HR2 := Lib.hid (ht.blk HR1.out (by omega))
    have HX2 := Lib.hid (ht.ext HX1.out (by have := HG.out; omega))
    clear ht hb HB1 HR1 HX1
    have y0 : w2.cell? ⟨g, 0, none⟩ = some (.int .u8 7) := HB2.out.cell 0
    go_wp2_with (refine wpList_setJ rfl _ _ _ rfl g 3 (by kernel_rfl) (.int .i64 0) (by kernel_rfl) 49 _ HB2.out (by show 3 < 13; decide) rfl rfl (fun w => by kernel_rfl) ?_)
    intro w3 ht hb
    have HB3 : Hid (Blk w3 g 49 #[.int .u8 7, .int .i64 0, .int .u8 mode, .int .i64 0, .bool row, .int .i64 col, .int .i64 var, .int .i64 goes, .bool eq, .int .i64 frm, .int .i64 upto, .slice ka kl kc, .slice va vl vc]) := Lib.hid hb
    have HR3 := Lib.hid (ht.blk HR2.out (by omega))
    have HX3 := Lib.hid (ht.ext HX2.out (by have := HG.out; omega))
    clear ht hb HB2 HR2 HX2
    go_wp2_with (refine wpList_setJ rfl _ _ _ rfl g 5 (by kernel_rfl) (.int .i64 0) (by kernel_rfl) 49 _ HB3.out (by show 5 < 13; decide) rfl rfl (fun w => by kernel_rfl) ?_)
    intro w4 ht hb
    have HB4 : Hid (Blk w4 g 49 #[.int .u8 7, .int .i64 0, .int .u8 mode, .int .i64 0, .bool row, .int .i64 0, .int .i64 var, .int .i64 goes, .bool eq, .int .i64 frm, .int .i64 upto, .slice ka kl kc, .slice va vl vc]) := Lib.hid hb
    have HR4 := Lib.hid (ht.blk HR3.out (by omega))
    have HX4 := Lib.hid (ht.ext HX3.out (by have := HG.out; omega))
    clear ht hb HB3 HR3 HX3
    go_wp2_with (refine wpList_setJ rfl _ _ _ rfl g 6 (by kernel_rfl) (.int .i64 0) (by kernel_rfl) 49 _ HB4.out (by show 6 < 13; decide) rfl rfl (fun w => by kernel_rfl) ?_)
    intro w5 ht hb
    have HB5 : Hid (Blk w5 g 49 #[.int .u8 7, .int .i64 0, .int .u8 mode, .int .i64 0, .bool row, .int .i64 0, .int .i64 0, .int .i64 goes, .bool eq, .int .i64 frm, .int .i64 upto, .slice ka kl kc, .slice va vl vc]) := Lib.hid hb
    have HR5 := Lib.hid (ht.blk HR4.out (by omega))
    have HX5 := Lib.hid (ht.ext HX4.out (by have := HG.out; omega))
    clear ht hb HB4 HR4 HX4
    have HVJ : Hid (Value.agg #[.int .u8 7, .int .i64 0, .int .u8 mode, .int .i64 0, .bool row, .int .i64 0, .int .i64 0, .int .i64 goes, .bool eq, .int .i64 frm, .int .i64 upto, .slice ka kl kc, .slice va vl vc] = V) := Lib.hid HV.out
    go_wp2_with (first | refine wpList_get rfl 49 _ rfl g rfl 49 _ _ HB5.out Try.underlying49 rfl (by kernel_rfl) ?_ | refine wpList_put rfl 49 _ _ rfl (g + 1) #[.int .u8 7, .int .i64 0, .int .u8 mode, .int .i64 0, .bool row, .int .i64 0, .int .i64 0, .int .i64 goes, .bool eq, .int .i64 frm, .int .i64 upto, .slice ka kl kc, .slice va vl vc] rfl rfl 49 _ HR5.out (by kernel_rfl) rfl rfl ?_)
    intro wz ht hb
    have HRZ := Lib.hid hb
    have HXZ := Lib.hid (ht.ext HX5.out (by have := HG.out; omega))
    clear ht hb HB5 HR5 HX5
    go_wp2_with fail
    exact ret_row _ _ _ _ rfl rfl rfl HRZ.out Try.underlying49 rfl (by kernel_rfl) ⟨by rw [HVJ.out], HXZ.out⟩
  · -- 8
    go_wp2_with (refine wpList_setJ rfl _ _ _ rfl g 1 (by kernel_rfl) (.int .i64 0) (by kernel_rfl) 49 _ HB1.out (by show 1 < 13; decide) rfl rfl (fun w => by kernel_rfl) ?_)
    intro w2 ht hb
    have HB2 : Hid (Blk w2 g 49 #[.int .u8 8, .int .i64 0, .int .u8 mode, .int .i64 table, .bool row, .int .i64 col, .int .i64 var, .int .i64 goes, .bool eq, .int .i64 frm, .int .i64 upto, .slice ka kl kc, .slice va vl vc]) := Lib.hid hb
    have HR2 := Lib.hid (ht.blk HR1.out (by omega))
    have HX2 := Lib.hid (ht.ext HX1.out (by have := HG.out; omega))
    clear ht hb HB1 HR1 HX1
    have y0 : w2.cell? ⟨g, 0, none⟩ = some (.int .u8 8) := HB2.out.cell 0
    go_wp2_with (refine wpList_setJ rfl _ _ _ rfl g 6 (by kernel_rfl) (.int .i64 0) (by kernel_rfl) 49 _ HB2.out (by show 6 < 13; decide) rfl rfl (fun w => by kernel_rfl) ?_)
    intro w3 ht hb
    have HB3 : Hid (Blk w3 g 49 #[.int .u8 8, .int .i64 0, .int .u8 mode, .int .i64 table, .bool row, .int .i64 col, .int .i64 0, .int .i64 goes, .bool eq, .int .i64 frm, .int .i64 upto, .slice ka kl kc, .slice va vl vc]) := Lib.hid hb
    have HR3 := Lib.hid (ht.blk HR2.out (by omega))
    have HX3 := Lib.hid (ht.ext HX2.out (by have := HG.out; omega))
    clear ht hb HB2 HR2 HX2
    go_wp2_with (refine wpList_setJ rfl _ _ _ rfl g 12 (by kernel_rfl) (.slice none 0 0) (by kernel_rfl) 49 _ HB3.out (by show 12 < 13; decide) rfl rfl (fun w => by kernel_rfl) ?_)
    intro w4 ht hb
    have HB4 : Hid (Blk w4 g 49 #[.int .u8 8, .int .i64 0, .int .u8 mode, .int .i64 table, .bool row, .int .i64 col, .int .i64 0, .int .i64 goes, .bool eq, .int .i64 frm, .int .i64 upto, .slice ka kl kc, .slice none 0 0]) := Lib.hid hb
    have HR4 := Lib.hid (ht.blk HR3.out (by omega))
    have HX4 := Lib.hid (ht.ext HX3.out (by have := HG.out; omega))
    clear ht hb HB3 HR3 HX3
    have HVJ : Hid (Value.agg #[.int .u8 8, .int .i64 0, .int .u8 mode, .int .i64 table, .bool row, .int .i64 col, .int .i64 0, .int .i64 goes, .bool eq, .int .i64 frm, .int .i64 upto, .slice ka kl kc, .slice none 0 0] = V) := Lib.hid HV.out
    go_wp2_with (first | refine wpList_get rfl 49 _ rfl g rfl 49 _ _ HB4.out Try.underlying49 rfl (by kernel_rfl) ?_ | refine wpList_put rfl 49 _ _ rfl (g + 1) #[.int .u8 8, .int .i64 0, .int .u8 mode, .int .i64 table, .bool row, .int .i64 col, .int .i64 0, .int .i64 goes, .bool eq, .int .i64 frm, .int .i64 upto, .slice ka kl kc, .slice none 0 0] rfl rfl 49 _ HR4.out (by kernel_rfl) rfl rfl ?_)
    intro wz ht hb
    have HRZ := Lib.hid hb
    have HXZ := Lib.hid (ht.ext HX4.out (by have := HG.out; omega))
    clear ht hb HB4 HR4 HX4
    go_wp2_with fail
    exact ret_row _ _ _ _ rfl rfl rfl HRZ.out Try.underlying49 rfl (by kernel_rfl) ⟨by rw [HVJ.out], HXZ.out⟩
  · -- 9
    go_wp2_with (refine wpList_setJ rfl _ _ _ rfl g 1 (by kernel_rfl) (.int .i64 0) (by kernel_rfl) 49 _ HB1.out (by show 1 < 13; decide) rfl rfl (fun w => by kernel_rfl) ?_)
    intro w2 ht hb
    have HB2 : Hid (Blk w2 g 49 #[.int .u8 9, .int .i64 0, .int .u8 mode, .int .i64 table, .bool row, .int .i64 col, .int .i64 var, .int .i64 goes, .bool eq, .int .i64 frm, .int .i64 upto, .slice ka kl kc, .slice va vl vc]) := Lib.hid hb
    have HR2 := Lib.hid (ht.blk HR1.out (by omega))
    have HX2 := Lib.hid (ht.ext HX1.out (by have := HG.out; omega))
    clear ht hb HB1 HR1 HX1
    have y0 : w2.cell? ⟨g, 0, none⟩ = some (.int .u8 9) := HB2.out.cell 0
    go_wp2_with (refine wpList_setJ rfl _ _ _ rfl g 12 (by kernel_rfl) (.slice none 0 0) (by kernel_rfl) 49 _ HB2.out (by show 12 < 13; decide) rfl rfl (fun w => by kernel_rfl) ?_)
    intro w3 ht hb
    have HB3 : Hid (Blk w3 g 49 #[.int .u8 9, .int .i64 0, .int .u8 mode, .int .i64 table, .bool row, .int .i64 col, .int .i64 var, .int .i64 goes, .bool eq, .int .i64 frm, .int .i64 upto, .slice ka kl kc, .slice none 0 0]) := Lib.hid hb
    have HR3 := Lib.hid (ht.blk HR2.out (by omega))
    have HX3 := Lib.hid (ht.ext HX2.out (by have := HG.out; omega))
    clear ht hb HB2 HR2 HX2
    have HVJ : Hid (Value.agg #[.int .u8 9, .int .i64 0, .int .u8 mode, .int .i64 table, .bool row, .int .i64 col, .int .i64 var, .int .i64 goes, .bool eq, .int .i64 frm, .int .i64 upto, .slice ka kl kc, .slice none 0 0] = V) := Lib.hid HV.out
    go_wp2_with (first | refine wpList_get rfl 49 _ rfl g rfl 49 _ _ HB3.out Try.underlying49 rfl (by kernel_rfl) ?_ | refine wpList_put rfl 49 _ _ rfl (g + 1) #[.int .u8 9, .int .i64 0, .int .u8 mode, .int .i64 table, .bool row, .int .i64 col, .int .i64 var, .int .i64 goes, .bool eq, .int .i64 frm, .int .i64 upto, .slice ka kl kc, .slice none 0 0] rfl rfl 49 _ HR3.out (by kernel_rfl) rfl rfl ?_)
    intro wz ht hb
    have HRZ := Lib.hid hb
    have HXZ := Lib.hid (ht.ext HX3.out (by have := HG.out; omega))
    clear ht hb HB3 HR3 HX3
    go_wp2_with fail
    exact ret_row _ _ _ _ rfl rfl rfl HRZ.out Try.underlying49 rfl (by kernel_rfl) ⟨by rw [HVJ.out], HXZ.out⟩
  · -- 10
    go_wp2_with (refine wpList_setJ rfl _ _ _ rfl g 1 (by kernel_rfl) (.int .i64 0) (by kernel_rfl) 49 _ HB1.out (by show 1 < 13; decide) rfl rfl (fun w => by kernel_rfl) ?_)
    intro w2 ht hb
    have HB2 : Hid (Blk w2 g 49 #[.int .u8 10, .int .i64 0, .int .u8 mode, .int .i64 table, .bool row, .int .i64 col, .int .i64 var, .int .i64 goes, .bool eq, .int .i64 frm, .int .i64 upto, .slice ka kl kc, .slice va vl vc]) := Lib.hid hb
    have HR2 := Lib.hid (ht.blk HR1.out (by omega))
    have HX2 := Lib.hid (ht.ext HX1.out (by have := HG.out; omega))
    clear ht hb HB1 HR1 HX1
    have y0 : w2.cell? ⟨g, 0, none⟩ = some (.int .u8 10) := HB2.out.cell 0
    go_wp2_with (refine wpList_setJ rfl _ _ _ rfl g 7 (by kernel_rfl) (.int .i64 0) (by kernel_rfl) 49 _ HB2.out (by show 7 < 13; decide) rfl rfl (fun w => by kernel_rfl) ?_)
    intro w3 ht hb
    have HB3 : Hid (Blk w3 g 49 #[.int .u8 10, .int .i64 0, .int .u8 mode, .int .i64 table, .bool row, .int .i64 col, .int .i64 var, .int .i64 0, .bool eq, .int .i64 frm, .int .i64 upto, .slice ka kl kc, .slice va vl vc]) := Lib.hid hb
    have HR3 := Lib.hid (ht.blk HR2.out (by omega))
    have HX3 := Lib.hid (ht.ext HX2.out (by have := HG.out; omega))
    clear ht hb HB2 HR2 HX2
    have HVJ : Hid (Value.agg #[.int .u8 10, .int .i64 0, .int .u8 mode, .int .i64 table, .bool row, .int .i64 col, .int .i64 var, .int .i64 0, .bool eq, .int .i64 frm, .int .i64 upto, .slice ka kl kc, .slice va vl vc] = V) := Lib.hid HV.out
    go_wp2_with (first | refine wpList_get rfl 49 _ rfl g rfl 49 _ _ HB3.out Try.underlying49 rfl (by kernel_rfl) ?_ | refine wpList_put rfl 49 _ _ rfl (g + 1) #[.int .u8 10, .int .i64 0, .int .u8 mode, .int .i64 table, .bool row, .int .i64 col, .int .i64 var, .int .i64 0, .bool eq, .int .i64 frm, .int .i64 upto, .slice ka kl kc, .slice va vl vc] rfl rfl 49 _ HR3.out (by kernel_rfl) rfl rfl ?_)
    intro wz ht hb
    have HRZ := Lib.hid hb
    have HXZ := Lib.hid (ht.ext HX3.out (by have := HG.out; omega))
    clear ht hb HB3 HR3 HX3
    go_wp2_with fail
    exact ret_row _ _ _ _ rfl rfl rfl HRZ.out Try.underlying49 rfl (by kernel_rfl) ⟨by rw [HVJ.out], HXZ.out⟩
  · -- 11
    go_wp2_with (refine wpList_setJ rfl _ _ _ rfl g 1 (by kernel_rfl) (.int .i64 0) (by kernel_rfl) 49 _ HB1.out (by show 1 < 13; decide) rfl rfl (fun w => by kernel_rfl) ?_)
    intro w2 ht hb
    have HB2 : Hid (Blk w2 g 49 #[.int .u8 11, .int .i64 0, .int .u8 mode, .int .i64 table, .bool row, .int .i64 col, .int .i64 var, .int .i64 goes, .bool eq, .int .i64 frm, .int .i64 upto, .slice ka kl kc, .slice va vl vc]) := Lib.hid hb
    have HR2 := Lib.hid (ht.blk HR1.out (by omega))
    have HX2 := Lib.hid (ht.ext HX1.out (by have := HG.out; omega))
    clear ht hb HB1 HR1 HX1
    have y0 : w2.cell? ⟨g, 0, none⟩ = some (.int .u8 11) := HB2.out.cell 0
    go_wp2_with (refine wpList_setJ rfl _ _ _ rfl g 8 (by kernel_rfl) (.bool false) (by kernel_rfl) 49 _ HB2.out (by show 8 < 13; decide) rfl rfl (fun w => by kernel_rfl) ?_)
    intro w3 ht hb
    have HB3 : Hid (Blk w3 g 49 #[.int .u8 11, .int .i64 0, .int .u8 mode, .int .i64 table, .bool row, .int .i64 col, .int .i64 var, .int .i64 goes, .bool false, .int .i64 frm, .int .i64 upto, .slice ka kl kc, .slice va vl vc]) := Lib.hid hb
    have HR3 := Lib.hid (ht.blk HR2.out (by omega))
    have HX3 := Lib.hid (ht.ext HX2.out (by have := HG.out; omega))
    clear ht hb HB2 HR2 HX2
    go_wp2_with (refine wpList_setJ rfl _ _ _ rfl g 12 (by kernel_rfl) (.slice none 0 0) (by kernel_rfl) 49 _ HB3.out (by show 12 < 13; decide) rfl rfl (fun w => by kernel_rfl) ?_)
    intro w4 ht hb
    have HB4 : Hid (Blk w4 g 49 #[.int .u8 11, .int .i64 0, .int .u8 mode, .int .i64 table, .bool row, .int .i64 col, .int .i64 var, .int .i64 goes, .bool false, .int .i64 frm, .int .i64 upto, .slice ka kl kc, .slice none 0 0]) := Lib.hid hb
    have HR4 := Lib.hid (ht.blk HR3.out (by omega))
    have HX4 := Lib.hid (ht.ext HX3.out (by have := HG.out; omega))
    clear ht hb HB3 HR3 HX3
    go_wp2_with (refine wpList_setJ rfl _ _ _ rfl g 7 (by kernel_rfl) (.int .i64 0) (by kernel_rfl) 49 _ HB4.out (by show 7 < 13; decide) rfl rfl (fun w => by kernel_rfl) ?_)
    intro w5 ht hb
    have HB5 : Hid (Blk w5 g 49 #[.int .u8 11, .int .i64 0, .int .u8 mode, .int .i64 table, .bool row, .int .i64 col, .int .i64 var, .int .i64 0, .bool false, .int .i64 frm, .int .i64 upto, .slice ka kl kc, .slice none 0 0]) := Lib.hid hb
    have HR5 := Lib.hid (ht.blk HR4.out (by omega))
    have HX5 := Lib.hid (ht.ext HX4.out (by have := HG.out; omega))
    clear ht hb HB4 HR4 HX4
    have HVJ : Hid (Value.agg #[.int .u8 11, .int .i64 0, .int .u8 mode, .int .i64 table, .bool row, .int .i64 col, .int .i64 var, .int .i64 0, .bool false, .int .i64 frm, .int .i64 upto, .slice ka kl kc, .slice none 0 0] = V) := Lib.hid HV.out
    go_wp2_with (first | refine wpList_get rfl 49 _ rfl g rfl 49 _ _ HB5.out Try.underlying49 rfl (by kernel_rfl) ?_ | refine wpList_put rfl 49 _ _ rfl (g + 1) #[.int .u8 11, .int .i64 0, .int .u8 mode, .int .i64 table, .bool row, .int .i64 col, .int .i64 var, .int .i64 0, .bool false, .int .i64 frm, .int .i64 upto, .slice ka kl kc, .slice none 0 0] rfl rfl 49 _ HR5.out (by kernel_rfl) rfl rfl ?_)
    intro wz ht hb
    have HRZ := Lib.hid hb
    have HXZ := Lib.hid (ht.ext HX5.out (by have := HG.out; omega))
    clear ht hb HB5 HR5 HX5
    go_wp2_with fail
    exact ret_row _ _ _ _ rfl rfl rfl HRZ.out Try.underlying49 rfl (by kernel_rfl) ⟨by rw [HVJ.out], HXZ.out⟩
  · -- 12
    go_wp2_with (refine wpList_setJ rfl _ _ _ rfl g 1 (by kernel_rfl) (.int .i64 0) (by kernel_rfl) 49 _ HB1.out (by show 1 < 13; decide) rfl rfl (fun w => by kernel_rfl) ?_)
    intro w2 ht hb
    have HB2 : Hid (Blk w2 g 49 #[.int .u8 12, .int .i64 0, .int .u8 mode, .int .i64 table, .bool row, .int .i64 col, .int .i64 var, .int .i64 goes, .bool eq, .int .i64 frm, .int .i64 upto, .slice ka kl kc, .slice va vl vc]) := Lib.hid hb
    have HR2 := Lib.hid (ht.blk HR1.out (by omega))
    have HX2 := Lib.hid (ht.ext HX1.out (by have := HG.out; omega))
    clear ht hb HB1 HR1 HX1
    have y0 : w2.cell? ⟨g, 0, none⟩ = some (.int .u8 12) := HB2.out.cell 0
    go_wp2_with (refine wpList_setJ rfl _ _ _ rfl g 6 (by kernel_rfl) (.int .i64 0) (by kernel_rfl) 49 _ HB2.out (by show 6 < 13; decide) rfl rfl (fun w => by kernel_rfl) ?_)
    intro w3 ht hb
    have HB3 : Hid (Blk w3 g 49 #[.int .u8 12, .int .i64 0, .int .u8 mode, .int .i64 table, .bool row, .int .i64 col, .int .i64 0, .int .i64 goes, .bool eq, .int .i64 frm, .int .i64 upto, .slice ka kl kc, .slice va vl vc]) := Lib.hid hb
    have HR3 := Lib.hid (ht.blk HR2.out (by omega))
    have HX3 := Lib.hid (ht.ext HX2.out (by have := HG.out; omega))
    clear ht hb HB2 HR2 HX2
    go_wp2_with (refine wpList_setJ rfl _ _ _ rfl g 9 (by kernel_rfl) (.int .i64 0) (by kernel_rfl) 49 _ HB3.out (by show 9 < 13; decide) rfl rfl (fun w => by kernel_rfl) ?_)
    intro w4 ht hb
    have HB4 : Hid (Blk w4 g 49 #[.int .u8 12, .int .i64 0, .int .u8 mode, .int .i64 table, .bool row, .int .i64 col, .int .i64 0, .int .i64 goes, .bool eq, .int .i64 0, .int .i64 upto, .slice ka kl kc, .slice va vl vc]) := Lib.hid hb
    have HR4 := Lib.hid (ht.blk HR3.out (by omega))
    have HX4 := Lib.hid (ht.ext HX3.out (by have := HG.out; omega))
    clear ht hb HB3 HR3 HX3
    go_wp2_with (refine wpList_setJ rfl _ _ _ rfl g 10 (by kernel_rfl) (.int .i64 0) (by kernel_rfl) 49 _ HB4.out (by show 10 < 13; decide) rfl rfl (fun w => by kernel_rfl) ?_)
    intro w5 ht hb
    have HB5 : Hid (Blk w5 g 49 #[.int .u8 12, .int .i64 0, .int .u8 mode, .int .i64 table, .bool row, .int .i64 col, .int .i64 0, .int .i64 goes, .bool eq, .int .i64 0, .int .i64 0, .slice ka kl kc, .slice va vl vc]) := Lib.hid hb
    have HR5 := Lib.hid (ht.blk HR4.out (by omega))
    have HX5 := Lib.hid (ht.ext HX4.out (by have := HG.out; omega))
    clear ht hb HB4 HR4 HX4
    go_wp2_with (refine wpList_setJ rfl _ _ _ rfl g 7 (by kernel_rfl) (.int .i64 0) (by kernel_rfl) 49 _ HB5.out (by show 7 < 13; decide) rfl rfl (fun w => by kernel_rfl) ?_)
    intro w6 ht hb
    have HB6 : Hid (Blk w6 g 49 #[.int .u8 12, .int .i64 0, .int .u8 mode, .int .i64 table, .bool row, .int .i64 col, .int .i64 0, .int .i64 0, .bool eq, .int .i64 0, .int .i64 0, .slice ka kl kc, .slice va vl vc]) := Lib.hid hb
    have HR6 := Lib.hid (ht.blk HR5.out (by omega))
    have HX6 := Lib.hid (ht.ext HX5.out (by have := HG.out; omega))
    clear ht hb HB5 HR5 HX5
    have HVJ : Hid (Value.agg #[.int .u8 12, .int .i64 0, .int .u8 mode, .int .i64 table, .bool row, .int .i64 col, .int .i64 0, .int .i64 0, .bool eq, .int .i64 0, .int .i64 0, .slice ka kl kc, .slice va vl vc] = V) := Lib.hid HV.out
    go_wp2_with (first | refine wpList_get rfl 49 _ rfl g rfl 49 _ _ HB6.out Try.underlying49 rfl (by kernel_rfl) ?_ | refine wpList_put rfl 49 _ _ rfl (g + 1) #[.int .u8 12, .int .i64 0, .int .u8 mode, .int .i64 table, .bool row, .int .i64 col, .int .i64 0, .int .i64 0, .bool eq, .int .i64 0, .int .i64 0, .slice ka kl kc, .slice va vl vc] rfl rfl 49 _ HR6.out (by kernel_rfl) rfl rfl ?_)
    intro wz ht hb
    have HRZ := Lib.hid hb
    have HXZ := Lib.hid (ht.ext HX6.out (by have := HG.out; omega))
    clear ht hb HB6 HR6 HX6
    go_wp2_with fail
    exact ret_row _ _ _ _ rfl rfl rfl HRZ.out Try.underlying49 rfl (by kernel_rfl) ⟨by rw [HVJ.out], HXZ.out⟩
  · -- 13
    go_wp2_with (refine wpList_setJ rfl _ _ _ rfl g 1 (by kernel_rfl) (.int .i64 0) (by kernel_rfl) 49 _ HB1.out (by show 1 < 13; decide) rfl rfl (fun w => by kernel_rfl) ?_)
    intro w2 ht hb
    have HB2 : Hid (Blk w2 g 49 #[.int .u8 13, .int .i64 0, .int .u8 mode, .int .i64 table, .bool row, .int .i64 col, .int .i64 var, .int .i64 goes, .bool eq, .int .i64 frm, .int .i64 upto, .slice ka kl kc, .slice va vl vc]) := Lib.hid hb
    have HR2 := Lib.hid (ht.blk HR1.out (by omega))
    have HX2 := Lib.hid (ht.ext HX1.out (by have := HG.out; omega))
    clear ht hb HB1 HR1 HX1
    have y0 : w2.cell? ⟨g, 0, none⟩ = some (.int .u8 13) := HB2.out.cell 0
    go_wp2_with (refine wpList_setJ rfl _ _ _ rfl g 6 (by kernel_rfl) (.int .i64 0) (by kernel_rfl) 49 _ HB2.out (by show 6 < 13; decide) rfl rfl (fun w => by kernel_rfl) ?_)
    intro w3 ht hb
    have HB3 : Hid (Blk w3 g 49 #[.int .u8 13, .int .i64 0, .int .u8 mode, .int .i64 table, .bool row, .int .i64 col, .int .i64 0, .int .i64 goes, .bool eq, .int .i64 frm, .int .i64 upto, .slice ka kl kc, .slice va vl vc]) := Lib.hid hb
    have HR3 := Lib.hid (ht.blk HR2.out (by omega))
    have HX3 := Lib.hid (ht.ext HX2.out (by have := HG.out; omega))
    clear ht hb HB2 HR2 HX2
    go_wp2_with (refine wpList_setJ rfl _ _ _ rfl g 10 (by kernel_rfl) (.int .i64 0) (by kernel_rfl) 49 _ HB3.out (by show 10 < 13; decide) rfl rfl (fun w => by kernel_rfl) ?_)
    intro w4 ht hb
    have HB4 : Hid (Blk w4 g 49 #[.int .u8 13, .int .i64 0, .int .u8 mode, .int .i64 table, .bool row, .int .i64 col, .int .i64 0, .int .i64 goes, .bool eq, .int .i64 frm, .int .i64 0, .slice ka kl kc, .slice va vl vc]) := Lib.hid hb
    have HR4 := Lib.hid (ht.blk HR3.out (by omega))
    have HX4 := Lib.hid (ht.ext HX3.out (by have := HG.out; omega))
    clear ht hb HB3 HR3 HX3
    go_wp2_with (refine wpList_setJ rfl _ _ _ rfl g 7 (by kernel_rfl) (.int .i64 0) (by kernel_rfl) 49 _ HB4.out (by show 7 < 13; decide) rfl rfl (fun w => by kernel_rfl) ?_)
    intro w5 ht hb
    have HB5 : Hid (Blk w5 g 49 #[.int .u8 13, .int .i64 0, .int .u8 mode, .int .i64 table, .bool row, .int .i64 col, .int .i64 0, .int .i64 0, .bool eq, .int .i64 frm, .int .i64 0, .slice ka kl kc, .slice va vl vc]) := Lib.hid hb
    have HR5 := Lib.hid (ht.blk HR4.out (by omega))
    have HX5 := Lib.hid (ht.ext HX4.out (by have := HG.out; omega))
    clear ht hb HB4 HR4 HX4
    have HVJ : Hid (Value.agg #[.int .u8 13, .int .i64 0, .int .u8 mode, .int .i64 table, .bool row, .int .i64 col, .int .i64 0, .int .i64 0, .bool eq, .int .i64 frm, .int .i64 0, .slice ka kl kc, .slice va vl vc] = V) := Lib.hid HV.out
    go_wp2_with (first | refine wpList_get rfl 49 _ rfl g rfl 49 _ _ HB5.out Try.underlying49 rfl (by kernel_rfl) ?_ | refine wpList_put rfl 49 _ _ rfl (g + 1) #[.int .u8 13, .int .i64 0, .int .u8 mode, .int .i64 table, .bool row, .int .i64 col, .int .i64 0, .int .i64 0, .bool eq, .int .i64 frm, .int .i64 0, .slice ka kl kc, .slice va vl vc] rfl rfl 49 _ HR5.out (by kernel_rfl) rfl rfl ?_)
    intro wz ht hb
    have HRZ := Lib.hid hb
    have HXZ := Lib.hid (ht.ext HX5.out (by have := HG.out; omega))
    clear ht hb HB5 HR5 HX5
    go_wp2_with fail
    exact ret_row _ _ _ _ rfl rfl rfl HRZ.out Try.underlying49 rfl (by kernel_rfl) ⟨by rw [HVJ.out], HXZ.out⟩
  · -- 14
    go_wp2_with (refine wpList_setJ rfl _ _ _ rfl g 1 (by kernel_rfl) (.int .i64 0) (by kernel_rfl) 49 _ HB1.out (by show 1 < 13; decide) rfl rfl (fun w => by kernel_rfl) ?_)
    intro w2 ht hb
    have HB2 : Hid (Blk w2 g 49 #[.int .u8 14, .int .i64 0, .int .u8 mode, .int .i64 table, .bool row, .int .i64 col, .int .i64 var, .int .i64 goes, .bool eq, .int .i64 frm, .int .i64 upto, .slice ka kl kc, .slice va vl vc]) := Lib.hid hb
    have HR2 := Lib.hid (ht.blk HR1.out (by omega))
    have HX2 := Lib.hid (ht.ext HX1.out (by have := HG.out; omega))
    clear ht hb HB1 HR1 HX1
    have y0 : w2.cell? ⟨g, 0, none⟩ = some (.int .u8 14) := HB2.out.cell 0
    have HVJ : Hid (Value.agg #[.int .u8 14, .int .i64 0, .int .u8 mode, .int .i64 table, .bool row, .int .i64 col, .int .i64 var, .int .i64 goes, .bool eq, .int .i64 frm, .int .i64 upto, .slice ka kl kc, .slice va vl vc] = V) := Lib.hid HV.out
    go_wp2_with (first | refine wpList_get rfl 49 _ rfl g rfl 49 _ _ HB2.out Try.underlying49 rfl (by kernel_rfl) ?_ | refine wpList_put rfl 49 _ _ rfl (g + 1) #[.int .u8 14, .int .i64 0, .int .u8 mode, .int .i64 table, .bool row, .int .i64 col, .int .i64 var, .int .i64 goes, .bool eq, .int .i64 frm, .int .i64 upto, .slice ka kl kc, .slice va vl vc] rfl rfl 49 _ HR2.out (by kernel_rfl) rfl rfl ?_)
    intro wz ht hb
    have HRZ := Lib.hid hb
    have HXZ := Lib.hid (ht.ext HX2.out (by have := HG.out; omega))
    clear ht hb HB2 HR2 HX2
    go_wp2_with fail
    exact ret_row _ _ _ _ rfl rfl rfl HRZ.out Try.underlying49 rfl (by kernel_rfl) ⟨by rw [HVJ.out], HXZ.out⟩
  · -- 15
    go_wp2_with (refine wpList_setJ rfl _ _ _ rfl g 1 (by kernel_rfl) (.int .i64 0) (by kernel_rfl) 49 _ HB1.out (by show 1 < 13; decide) rfl rfl (fun w => by kernel_rfl) ?_)
    intro w2 ht hb
    have HB2 : Hid (Blk w2 g 49 #[.int .u8 15, .int .i64 0, .int .u8 mode, .int .i64 table, .bool row, .int .i64 col, .int .i64 var, .int .i64 goes, .bool eq, .int .i64 frm, .int .i64 upto, .slice ka kl kc, .slice va vl vc]) := Lib.hid hb
    have HR2 := Lib.hid (ht.blk HR1.out (by omega))
    have HX2 := Lib.hid (ht.ext HX1.out (by have := HG.out; omega))
    clear ht hb HB1 HR1 HX1
    have y0 : w2.cell? ⟨g, 0, none⟩ = some (.int .u8 15) := HB2.out.cell 0
    have HVJ : Hid (Value.agg #[.int .u8 15, .int .i64 0, .int .u8 mode, .int .i64 table, .bool row, .int .i64 col, .int .i64 var, .int .i64 goes, .bool eq, .int .i64 frm, .int .i64 upto, .slice ka kl kc, .slice va vl vc] = V) := Lib.hid HV.out
    go_wp2_with (first | refine wpList_get rfl 49 _ rfl g rfl 49 _ _ HB2.out Try.underlying49 rfl (by kernel_rfl) ?_ | refine wpList_put rfl 49 _ _ rfl (g + 1) #[.int .u8 15, .int .i64 0, .int .u8 mode, .int .i64 table, .bool row, .int .i64 col, .int .i64 var, .int .i64 goes, .bool eq, .int .i64 frm, .int .i64 upto, .slice ka kl kc, .slice va vl vc] rfl rfl 49 _ HR2.out (by kernel_rfl) rfl rfl ?_)
    intro wz ht hb
    have HRZ := Lib.hid hb
    have HXZ := Lib.hid (ht.ext HX2.out (by have := HG.out; omega))
    clear ht hb HB2 HR2 HX2
    go_wp2_with fail
    exact ret_row _ _ _ _ rfl rfl rfl HRZ.out Try.underlying49 rfl (by kernel_rfl) ⟨by rw [HVJ.out], HXZ.out⟩
  · -- 16
    go_wp2_with (refine wpList_setJ rfl _ _ _ rfl g 1 (by kernel_rfl) (.int .i64 0) (by kernel_rfl) 49 _ HB1.out (by show 1 < 13; decide) rfl rfl (fun w => by kernel_rfl) ?_)
    intro w2 ht hb
    have HB2 : Hid (Blk w2 g 49 #[.int .u8 16, .int .i64 0, .int .u8 mode, .int .i64 table, .bool row, .int .i64 col, .int .i64 var, .int .i64 goes, .bool eq, .int .i64 frm, .int .i64 upto, .slice ka kl kc, .slice va vl vc]) := Lib.hid hb
    have HR2 := Lib.hid (ht.blk HR1.out (by omega))
    have HX2 := Lib.hid (ht.ext HX1.out (by have := HG.out; omega))
    clear ht hb HB1 HR1 HX1
    have y0 : w2.cell? ⟨g, 0, none⟩ = some (.int .u8 16) := HB2.out.cell 0
    have HVJ : Hid (Value.agg #[.int .u8 16, .int .i64 0, .int .u8 mode, .int .i64 table, .bool row, .int .i64 col, .int .i64 var, .int .i64 goes, .bool eq, .int .i64 frm, .int .i64 upto, .slice ka kl kc, .slice va vl vc] = V) := Lib.hid HV.out
    go_wp2_with (first | refine wpList_get rfl 49 _ rfl g rfl 49 _ _ HB2.out Try.underlying49 rfl (by kernel_rfl) ?_ | refine wpList_put rfl 49 _ _ rfl (g + 1) #[.int .u8 16, .int .i64 0, .int .u8 mode, .int .i64 table, .bool row, .int .i64 col, .int .i64 var, .int .i64 goes, .bool eq, .int .i64 frm, .int .i64 upto, .slice ka kl kc, .slice va vl vc] rfl rfl 49 _ HR2.out (by kernel_rfl) rfl rfl ?_)
    intro wz ht hb
    have HRZ := Lib.hid hb
    have HXZ := Lib.hid (ht.ext HX2.out (by have := HG.out; omega))
    clear ht hb HB2 HR2 HX2
    go_wp2_with fail
    exact ret_row _ _ _ _ rfl rfl rfl HRZ.out Try.underlying49 rfl (by kernel_rfl) ⟨by rw [HVJ.out], HXZ.out⟩
end Go.Proofs.Ytngbpaiohfokbaa
