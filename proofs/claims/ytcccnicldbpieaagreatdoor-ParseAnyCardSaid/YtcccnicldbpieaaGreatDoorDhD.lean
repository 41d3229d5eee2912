/- diag.Code, diag.Place, walked, of any error that diag makes, and of nil. Condition: errors.errorType reads as the program's text lays it. -/
import Derived.Test.YtcccnicldbpieaaGreatDoorDhC
namespace Go.Proofs.YtcccnicldbpieaaGreatDoor
open Go Go.RowKit
set_option linter.unusedVariables false
set_option linter.unusedSimpArgs false
theorem as_nil (t : Value) (w : World) :
    Calls Tryz.prog 30 #[.nilIface, t] w fun e w' => e = .returned (.bool false) ∧ w = w' := by
  go_enter Tryz.func30, Tryz.ntmps30
  go_wp2_with fail
  go_ret
  exact ⟨rfl, rfl⟩
set_option maxHeartbeats 2000000 in
theorem code_nil (w : World) : Calls Tryz.prog 12 #[.nilIface] w fun e w' => e = .returned (.int .i64 0) ∧ w = w' := by
  go_enter Tryz.func12, Tryz.ntmps12
  go_wp2_with fail
  go_ret
  exact ⟨rfl, rfl⟩
set_option maxHeartbeats 2000000 in
theorem code_any (v : ErrV) (w : World) (hG : GT w) (hv : v.ok w) : Calls Tryz.prog 12 #[.iface v.ty v.dat] w fun e w' => e = .returned (.int .i64 v.code) ∧ Ext w w' := by
  have hb : Blk (w.alloc (.cells #[.int .i64 0] 32)) w.heap.size 32 #[.int .i64 0] := Blk.new _ _ _
  have HC := Lib.hid (AsN_any v (w.alloc (.cells #[.int .i64 0] 32)) (hG.ext (Ext.alloc _ _)) (ErrV.ok_ext (Ext.alloc _ _) hv) 0 w.heap.size hb)
  obtain ⟨vt, hvt⟩ : ∃ vt, v.ty = vt := ⟨_, rfl⟩
  obtain ⟨vd, hvd⟩ : ∃ vd, v.dat = vd := ⟨_, rfl⟩
  obtain ⟨vc, hvc⟩ : ∃ vc, v.code = vc := ⟨_, rfl⟩
  rw [hvt, hvd, hvc] at HC
  rw [hvt, hvd, hvc]
  clear hvt hvd hvc hb hv hG
  go_enter Tryz.func12, Tryz.ntmps12
  go_wp2_with fail
  refine HC.out.mono ?_
  rintro e w' ⟨rfl, hm, hb⟩
  have c0 := hb.cell 0
  have HX := Lib.hid (hm.ext (Ext.alloc w (.cells #[.int .i64 0] 32)) (Nat.le_refl _))
  clear hm hb HC
  go_wp2_with fail
  go_ret
  exact ⟨rfl, HX.out⟩
def noPlace : Value := .tuple #[.int .i64 0, .int .i64 0, .int .i64 0, .bool false]
set_option maxHeartbeats 2000000 in
theorem place_nil (w : World) : Calls Tryz.prog 11 #[.nilIface] w fun e w' => e = .returned noPlace ∧ Ext w w' := by
  have HC := Lib.hid (fun t W => as_nil t W)
  have HX : Hid (Ext w (w.alloc (.cells #[.pointer none] 70))) := Lib.hid (Ext.alloc _ _)
  go_enter Tryz.func11, Tryz.ntmps11
  go_wp2_with fail
  refine (HC.out _ _).mono ?_
  rintro e w' ⟨rfl, rfl⟩
  go_wp2_with fail
  refine bodyPost_ret (v := noPlace) (by simp [results, Tryz.results11, go_sem, noPlace]) rfl ?_
  exact ⟨rfl, HX.out⟩
set_option maxHeartbeats 2000000 in
theorem place_miss (v : ErrV) (w : World) (hG : GT w) (hv : v.ok w) (hsp : v.spot = none) : Calls Tryz.prog 11 #[.iface v.ty v.dat] w fun e w' => e = .returned noPlace ∧ Ext w w' := by
  have hb : Blk (w.alloc (.cells #[.pointer none] 70)) w.heap.size 70 #[.pointer none] := Blk.new _ _ _
  have HC := Lib.hid (AsP_miss v (w.alloc (.cells #[.pointer none] 70)) (hG.ext (Ext.alloc _ _)) (ErrV.ok_ext (Ext.alloc _ _) hv) hsp w.heap.size hb)
  have HX : Hid (Ext w (w.alloc (.cells #[.pointer none] 70))) := Lib.hid (Ext.alloc _ _)
  obtain ⟨vt, hvt⟩ : ∃ vt, v.ty = vt := ⟨_, rfl⟩
  obtain ⟨vd, hvd⟩ : ∃ vd, v.dat = vd := ⟨_, rfl⟩
  rw [hvt, hvd] at HC
  rw [hvt, hvd]
  clear hvt hvd hb hv hG hsp
  go_enter Tryz.func11, Tryz.ntmps11
  go_wp2_with fail
  refine HC.out.mono ?_
  rintro e w' ⟨rfl, hx⟩
  go_wp2_with fail
  refine bodyPost_ret (v := noPlace) (by simp [results, Tryz.results11, go_sem, noPlace]) rfl ?_
  exact ⟨rfl, HX.out.trans hx⟩
set_option maxHeartbeats 2000000 in
set_option maxRecDepth 10000 in
theorem place_hit (v : ErrV) (w : World) (hG : GT w) (hv : v.ok w) (g : Nat) (hsp : v.spot = some g) (a l c e' : Int) (hg : Blk w g 74 #[.int .i64 a, .int .i64 l, .int .i64 c, .int .i64 e']) :
    Calls Tryz.prog 11 #[.iface v.ty v.dat] w fun e w' => e = .returned (.tuple #[.int .i64 a, .int .i64 l, .int .i64 c, .bool true]) ∧ Ext w w' := by
  have hb : Blk (w.alloc (.cells #[.pointer none] 70)) w.heap.size 70 #[.pointer none] := Blk.new _ _ _
  have HC := Lib.hid (AsP_hit v (w.alloc (.cells #[.pointer none] 70)) (hG.ext (Ext.alloc _ _)) (ErrV.ok_ext (Ext.alloc _ _) hv) g hsp w.heap.size hb)
  have HBG := Lib.hid (hg.alloc (.cells #[.pointer none] 70))
  have hgl := hg.lt
  obtain ⟨vt, hvt⟩ : ∃ vt, v.ty = vt := ⟨_, rfl⟩
  obtain ⟨vd, hvd⟩ : ∃ vd, v.dat = vd := ⟨_, rfl⟩
  rw [hvt, hvd] at HC
  rw [hvt, hvd]
  clear hvt hvd hb hv hG hsp hg
  go_enter Tryz.func11, Tryz.ntmps11
  go_wp2_with fail
  refine HC.out.mono ?_
  rintro e w' ⟨rfl, hm, hb⟩
  have c0 := hb.cell 0
  have hbg := hm.blk HBG.out (by omega)
  have g0 := hbg.cell 0
  have g1 := hbg.cell 1
  have g2 := hbg.cell 2
  have HX := Lib.hid (hm.ext (Ext.alloc w (.cells #[.pointer none] 70)) (Nat.le_refl _))
  clear hm hb HC hbg HBG
  go_wp2_with fail
  go_quiet (fail)
  go_wp2_with fail
  refine bodyPost_ret (v := .tuple #[.int .i64 a, .int .i64 l, .int .i64 c, .bool true]) (by simp [results, Tryz.results11, go_sem]) rfl ?_
  exact ⟨rfl, Below.trans HX.out ⟨rfl, rfl, rfl, Nat.le_refl _, fun _ _ => rfl⟩⟩
end Go.Proofs.YtcccnicldbpieaaGreatDoor
