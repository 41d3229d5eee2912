/- errors.As at the two targets that diag uses, walked, of any error that diag makes. Condition: errors.errorType reads as the program's text lays it. -/
import Derived.Test.YtcccnicldbpieaaGreatDoorDhB
namespace Go.Proofs.YtcccnicldbpieaaGreatDoor
open Go Go.RowKit Go.Extern.Stop Go.Stop Go.Extern
set_option linter.unusedVariables false
set_option linter.unusedSimpArgs false
/-- An error: a number; one at a place; one within something. -/
inductive ErrV where
  | num (n : Int)
  | at_ (g : Nat) (a l c e : Int)
def ErrV.ty : ErrV → Nat
  | .num _ => 32
  | .at_ .. => 70
def ErrV.dat : ErrV → Value
  | .num n => .int .i64 n
  | .at_ g .. => .pointer (some ⟨g, 0, none⟩)
theorem ErrV.ty_num (n : Int) : (ErrV.num n).ty = 32 := rfl
theorem ErrV.ty_at (g : Nat) (a l c e : Int) : (ErrV.at_ g a l c e).ty = 70 := rfl
theorem ErrV.dat_num (n : Int) : (ErrV.num n).dat = .int .i64 n := rfl
theorem ErrV.dat_at (g : Nat) (a l c e : Int) : (ErrV.at_ g a l c e).dat = .pointer (some ⟨g, 0, none⟩) := rfl
def ErrV.val (x : ErrV) : Value := .iface x.ty x.dat
def ErrV.ok (w : World) : ErrV → Prop
  | .num _ => True
  | .at_ g a l c e => Blk w g 74 #[.int .i64 a, .int .i64 l, .int .i64 c, .int .i64 e]
def ErrV.code : ErrV → Int
  | .num n => n
  | .at_ _ _ _ _ e => e
def ErrV.spot : ErrV → Option Nat
  | .num _ => none
  | .at_ g .. => some g
def ErrV.deep : ErrV → Nat
  | .num _ => 0
  | .at_ .. => 1
theorem ErrV.ok_mod {g : Nat} {t : TypeId} {cs : Array Value} {w w' : World} (hg : Blk w g t cs) (ht : t ≠ 74) (h : Mod g w w') : ∀ {x : ErrV}, x.ok w → x.ok w'
  | .num _, _ => trivial
  | .at_ g' .., hx => h.blk hx (fun e => by
      subst e
      simp only [ErrV.ok, Blk] at hx
      unfold Blk at hg
      rw [hg] at hx
      injection hx with hx
      injection hx with _ hx
      exact ht hx)
theorem ErrV.ok_ext {w w' : World} (h : Ext w w') : ∀ {x : ErrV}, x.ok w → x.ok w'
  | .num _, _ => trivial
  | .at_ .., hx => Blk.ext hx h
/-- errors.errorType, as the program's text lays it. -/
def GT (w : World) : Prop := w.cell? ⟨0, 0, none⟩ = some (.iface 123 (.agg #[.pointer (some ⟨2, 28, none⟩)]))
theorem GT.lt {w : World} (h : GT w) : 0 < w.heap.size := by
  rcases Nat.eq_zero_or_pos w.heap.size with h0 | h1
  · unfold GT at h; simp [World.cell?, h0] at h
  · exact h1
theorem GT.ext {w w' : World} (h : GT w) (hx : Ext w w') : GT w' := (hx.cell (p := ⟨0, 0, none⟩) h.lt).trans h
set_option maxHeartbeats 1000000 in
theorem eunwrap_any (g : Nat) (a l c e : Int) (w : World) (h : Blk w g 74 #[.int .i64 a, .int .i64 l, .int .i64 c, .int .i64 e]) :
    Calls Tryz.prog 171 #[.pointer (some ⟨g, 0, none⟩)] w fun ev w' => ev = .returned (.iface 32 (.int .i64 e)) ∧ w = w' := by
  have c3 := h.cell 3
  clear h
  go_enter Tryz.func171, Tryz.ntmps171
  go_wp2_with fail
  go_ret
  exact ⟨rfl, rfl⟩
set_option maxHeartbeats 8000000 in
set_option maxRecDepth 100000 in
theorem asN_any (v : ErrV) (w : World) (hv : v.ok w) (t a : Nat) (old : Int) (ha : a < w.heap.size) (hta : t ≠ a) (hac : w.cell? ⟨a, 0, none⟩ = some (.pointer (some ⟨t, 0, none⟩))) (ht : Blk w t 32 #[.int .i64 old]) :
    Calls Tryz.prog 61 #[.iface v.ty v.dat, .iface 75 (.pointer (some ⟨t, 0, none⟩)), .agg #[.pointer (some ⟨2, 75, none⟩), .pointer (some ⟨a, 0, none⟩), .int .u64 150], .iface 123 (.agg #[.pointer (some ⟨2, 32, none⟩)])] w
      fun e w' => e = .returned (.bool true) ∧ Mod t w w' ∧ Blk w' t 32 #[.int .i64 v.code] := by
  have h47 := @run_callFunc_extern Tryz.prog 58 _ (fun args => ReflectliteValue.unpack (args.getD 0 (.tuple #[]))) Tryz.func58 (by kernel_rfl) (by kernel_rfl) (by kernel_rfl) (by kernel_rfl)
  have h45 := @run_callFunc_extern Tryz.prog 88 _ ReflectliteType.typeOf Tryz.func88 (by kernel_rfl) (by kernel_rfl) (by kernel_rfl) (by kernel_rfl)
  have h107 := @run_callFunc_extern Tryz.prog 176 _ (ReflectliteType.relation "AssignableTo" ReflectliteType.assignableTo) Tryz.func176 (by kernel_rfl) (by kernel_rfl) (by kernel_rfl) (by kernel_rfl)
  have h61 := @run_callFunc_extern Tryz.prog 89 _ (ReflectliteValue.method (ReflectliteValue.valueError "reflectlite.Value.Elem" 0) ReflectliteValue.elem) Tryz.func89 (by kernel_rfl) (by kernel_rfl) (by kernel_rfl) (by kernel_rfl)
  have h62 := @run_callFunc_extern Tryz.prog 90 _ ReflectliteValue.set Tryz.func90 (by kernel_rfl) (by kernel_rfl) (by kernel_rfl) (by kernel_rfl)
  have mA := rf_mAssign
  have HV := Lib.hid hv
  have HT := Lib.hid ht
  have HAC := Lib.hid hac
  have htl := ht.lt
  have HX0 : Hid (Ext w (w.alloc (.cells #[.pointer (some ⟨2, 75, none⟩), .pointer (some ⟨a, 0, none⟩), .int .u64 150] 99))) := Lib.hid (Ext.alloc _ _)
  have HB0 : Hid (Blk (w.alloc (.cells #[.pointer (some ⟨2, 75, none⟩), .pointer (some ⟨a, 0, none⟩), .int .u64 150] 99)) w.heap.size 99 #[.pointer (some ⟨2, 75, none⟩), .pointer (some ⟨a, 0, none⟩), .int .u64 150]) := Lib.hid (Blk.new _ _ _)
  clear hv ht hac
  go_enter Tryz.func61, Tryz.ntmps61
  go_wp2_with fail
  generalize (w.alloc (.cells #[.pointer (some ⟨2, 75, none⟩), .pointer (some ⟨a, 0, none⟩), .int .u64 150] 99)) = w0 at *
  generalize hq : w.heap.size = q at *
  have HQ := Lib.hid hq
  clear hq
  go_loopg [0] (v.deep) (fun gk u wr => ∃ x : ErrV, x.deep = gk ∧ u = .iface x.ty x.dat ∧ Hid (x.ok wr ∧ x.code = v.code ∧ Ext w0 wr))
  case atStart => exact ⟨v, rfl, rfl, Lib.hid ⟨ErrV.ok_ext HX0.out HV.out, rfl, Ext.refl _⟩⟩
  case round =>
    obtain ⟨x, rfl, rfl, HW⟩ := hrel
    obtain ⟨wa, rfl⟩ : ∃ wa : World, wa = wr := ⟨_, rfl⟩
    have HB := Lib.hid (HB0.out.ext HW.out.2.2)
    have HTA := Lib.hid ((HT.out.ext HX0.out).ext HW.out.2.2)
    have hac1 : wa.cell? ⟨a, 0, none⟩ = some (.pointer (some ⟨t, 0, none⟩)) := ((HX0.out.trans HW.out.2.2).cell (p := ⟨a, 0, none⟩) (by rw [HQ.out]; exact ha)).trans HAC.out
    have hwz : w.heap.size ≤ wa.heap.size := (HX0.out.trans HW.out.2.2).size
    have b0 := HB.out.cell 0
    have b1 := HB.out.cell 1
    have b2 := HB.out.cell 2
    have t0 := HTA.out.cell 0
    have f0 := HTA.out.frozen 0
    cases x with
    | num n =>
      rw [ErrV.ty_num, ErrV.dat_num]
      have tO := rf_typeOfN
      have aN := rf_asNN
      have vO := rf_valueOfN
      have el := rf_elemVPN ⟨a, 0, none⟩ ⟨t, 0, none⟩ wa hac1
      have st := rf_setN ⟨t, 0, none⟩ ⟨wa.heap.size, 0, none⟩ n (.int .i64 old) (wa.alloc (.cells #[.int .i64 n] 32)) (by simp) (((HTA.out.alloc _).cell 0)) ((HTA.out.alloc _).frozen 0)
      have HC : Hid (n = v.code) := Lib.hid HW.out.2.1
      have HM : Hid (Mod t w ((wa.alloc (.cells #[.int .i64 n] 32)).setCell ⟨t, 0, none⟩ (.int .i64 n))) := Lib.hid ((((Mod.of_ext (HX0.out.trans HW.out.2.2) t)).alloc _).setCell 0 _)
      have HBT : Hid (Blk ((wa.alloc (.cells #[.int .i64 n] 32)).setCell ⟨t, 0, none⟩ (.int .i64 n)) t 32 #[.int .i64 n]) := Lib.hid ((HTA.out.alloc _).put 0 _)
      go_wp2
      go_ret
      rw [← HC.out]
      exact ⟨rfl, HM.out, HBT.out⟩
    | at_ g pa pl pc pe =>
      rw [ErrV.ty_at, ErrV.dat_at]
      have tO := rf_typeOfP
      have aN := rf_asPN
      have nA := rf_noAsE
      have uE := rf_unwE
      have mU := rf_mUnwE
      have HE := Lib.hid (eunwrap_any g pa pl pc pe wa HW.out.1)
      go_wp2_with (go_at_call 171; refine HE.out.mono ?_; rintro e' w' ⟨rfl, rfl⟩)
      go_roundg 0
      case measure => exact Nat.zero_lt_one
      case rel => exact ⟨.num pe, rfl, rfl, Lib.hid ⟨trivial, HW.out.2.1, HW.out.2.2⟩⟩

set_option maxHeartbeats 8000000 in
set_option maxRecDepth 100000 in
theorem asP_hit (v : ErrV) (w : World) (hv : v.ok w) (g : Nat) (hsp : v.spot = some g) (t a : Nat) (ha : a < w.heap.size) (hta : t ≠ a) (hac : w.cell? ⟨a, 0, none⟩ = some (.pointer (some ⟨t, 0, none⟩))) (ht : Blk w t 70 #[.pointer none]) :
    Calls Tryz.prog 61 #[.iface v.ty v.dat, .iface 72 (.pointer (some ⟨t, 0, none⟩)), .agg #[.pointer (some ⟨2, 72, none⟩), .pointer (some ⟨a, 0, none⟩), .int .u64 150], .iface 123 (.agg #[.pointer (some ⟨2, 70, none⟩)])] w
      fun e w' => e = .returned (.bool true) ∧ Mod t w w' ∧ Blk w' t 70 #[.pointer (some ⟨g, 0, none⟩)] := by
  have h47 := @run_callFunc_extern Tryz.prog 58 _ (fun args => ReflectliteValue.unpack (args.getD 0 (.tuple #[]))) Tryz.func58 (by kernel_rfl) (by kernel_rfl) (by kernel_rfl) (by kernel_rfl)
  have h45 := @run_callFunc_extern Tryz.prog 88 _ ReflectliteType.typeOf Tryz.func88 (by kernel_rfl) (by kernel_rfl) (by kernel_rfl) (by kernel_rfl)
  have h107 := @run_callFunc_extern Tryz.prog 176 _ (ReflectliteType.relation "AssignableTo" ReflectliteType.assignableTo) Tryz.func176 (by kernel_rfl) (by kernel_rfl) (by kernel_rfl) (by kernel_rfl)
  have h61 := @run_callFunc_extern Tryz.prog 89 _ (ReflectliteValue.method (ReflectliteValue.valueError "reflectlite.Value.Elem" 0) ReflectliteValue.elem) Tryz.func89 (by kernel_rfl) (by kernel_rfl) (by kernel_rfl) (by kernel_rfl)
  have h62 := @run_callFunc_extern Tryz.prog 90 _ ReflectliteValue.set Tryz.func90 (by kernel_rfl) (by kernel_rfl) (by kernel_rfl) (by kernel_rfl)
  have mA := rf_mAssign
  have HV := Lib.hid hv
  have HT := Lib.hid ht
  have HAC := Lib.hid hac
  have HSP := Lib.hid hsp
  have htl := ht.lt
  have HX0 : Hid (Ext w (w.alloc (.cells #[.pointer (some ⟨2, 72, none⟩), .pointer (some ⟨a, 0, none⟩), .int .u64 150] 99))) := Lib.hid (Ext.alloc _ _)
  have HB0 : Hid (Blk (w.alloc (.cells #[.pointer (some ⟨2, 72, none⟩), .pointer (some ⟨a, 0, none⟩), .int .u64 150] 99)) w.heap.size 99 #[.pointer (some ⟨2, 72, none⟩), .pointer (some ⟨a, 0, none⟩), .int .u64 150]) := Lib.hid (Blk.new _ _ _)
  clear hv ht hac hsp
  go_enter Tryz.func61, Tryz.ntmps61
  go_wp2_with fail
  generalize (w.alloc (.cells #[.pointer (some ⟨2, 72, none⟩), .pointer (some ⟨a, 0, none⟩), .int .u64 150] 99)) = w0 at *
  generalize hq : w.heap.size = q at *
  have HQ := Lib.hid hq
  clear hq
  go_loopg [0] (v.deep) (fun gk u wr => ∃ x : ErrV, x.deep = gk ∧ u = .iface x.ty x.dat ∧ Hid (x.ok wr ∧ x.spot = v.spot ∧ Ext w0 wr))
  case atStart => exact ⟨v, rfl, rfl, Lib.hid ⟨ErrV.ok_ext HX0.out HV.out, rfl, Ext.refl _⟩⟩
  case round =>
    obtain ⟨x, rfl, rfl, HW⟩ := hrel
    obtain ⟨wa, rfl⟩ : ∃ wa : World, wa = wr := ⟨_, rfl⟩
    have HB := Lib.hid (HB0.out.ext HW.out.2.2)
    have HTA := Lib.hid ((HT.out.ext HX0.out).ext HW.out.2.2)
    have hac1 : wa.cell? ⟨a, 0, none⟩ = some (.pointer (some ⟨t, 0, none⟩)) := ((HX0.out.trans HW.out.2.2).cell (p := ⟨a, 0, none⟩) (by rw [HQ.out]; exact ha)).trans HAC.out
    have hwz : w.heap.size ≤ wa.heap.size := (HX0.out.trans HW.out.2.2).size
    have b0 := HB.out.cell 0
    have b1 := HB.out.cell 1
    have b2 := HB.out.cell 2
    have t0 := HTA.out.cell 0
    have f0 := HTA.out.frozen 0
    cases x with
    | num n => exact absurd (HW.out.2.1.trans HSP.out) (by simp [ErrV.spot])
    | at_ g' pa pl pc pe =>
      have hgg : g' = g := by have h := HW.out.2.1.trans HSP.out; unfold ErrV.spot at h; injection h
      subst hgg
      rw [ErrV.ty_at, ErrV.dat_at]
      have tO := rf_typeOfP
      have aN := rf_asPP
      have vO := rf_valueOfP
      have el := rf_elemVPP ⟨a, 0, none⟩ ⟨t, 0, none⟩ wa hac1
      have st := rf_setP ⟨t, 0, none⟩ ⟨wa.heap.size, 0, none⟩ ⟨g', 0, none⟩ (.pointer none) (wa.alloc (.cells #[.pointer (some ⟨g', 0, none⟩)] 70)) (by simp) (((HTA.out.alloc _).cell 0)) ((HTA.out.alloc _).frozen 0)
      have HM : Hid (Mod t w ((wa.alloc (.cells #[.pointer (some ⟨g', 0, none⟩)] 70)).setCell ⟨t, 0, none⟩ (.pointer (some ⟨g', 0, none⟩)))) := Lib.hid ((((Mod.of_ext (HX0.out.trans HW.out.2.2) t)).alloc _).setCell 0 _)
      have HBT : Hid (Blk ((wa.alloc (.cells #[.pointer (some ⟨g', 0, none⟩)] 70)).setCell ⟨t, 0, none⟩ (.pointer (some ⟨g', 0, none⟩))) t 70 #[.pointer (some ⟨g', 0, none⟩)]) := Lib.hid ((HTA.out.alloc _).put 0 _)
      go_wp2
      go_ret
      exact ⟨rfl, HM.out, HBT.out⟩

set_option maxHeartbeats 8000000 in
set_option maxRecDepth 100000 in
theorem asP_miss (v : ErrV) (w : World) (hv : v.ok w) (hsp : v.spot = none) (t a : Nat) (ha : a < w.heap.size) (hta : t ≠ a) (hac : w.cell? ⟨a, 0, none⟩ = some (.pointer (some ⟨t, 0, none⟩))) (ht : Blk w t 70 #[.pointer none]) :
    Calls Tryz.prog 61 #[.iface v.ty v.dat, .iface 72 (.pointer (some ⟨t, 0, none⟩)), .agg #[.pointer (some ⟨2, 72, none⟩), .pointer (some ⟨a, 0, none⟩), .int .u64 150], .iface 123 (.agg #[.pointer (some ⟨2, 70, none⟩)])] w
      fun e w' => e = .returned (.bool false) ∧ Ext w w' := by
  have h47 := @run_callFunc_extern Tryz.prog 58 _ (fun args => ReflectliteValue.unpack (args.getD 0 (.tuple #[]))) Tryz.func58 (by kernel_rfl) (by kernel_rfl) (by kernel_rfl) (by kernel_rfl)
  have h45 := @run_callFunc_extern Tryz.prog 88 _ ReflectliteType.typeOf Tryz.func88 (by kernel_rfl) (by kernel_rfl) (by kernel_rfl) (by kernel_rfl)
  have h107 := @run_callFunc_extern Tryz.prog 176 _ (ReflectliteType.relation "AssignableTo" ReflectliteType.assignableTo) Tryz.func176 (by kernel_rfl) (by kernel_rfl) (by kernel_rfl) (by kernel_rfl)
  have h61 := @run_callFunc_extern Tryz.prog 89 _ (ReflectliteValue.method (ReflectliteValue.valueError "reflectlite.Value.Elem" 0) ReflectliteValue.elem) Tryz.func89 (by kernel_rfl) (by kernel_rfl) (by kernel_rfl) (by kernel_rfl)
  have h62 := @run_callFunc_extern Tryz.prog 90 _ ReflectliteValue.set Tryz.func90 (by kernel_rfl) (by kernel_rfl) (by kernel_rfl) (by kernel_rfl)
  have mA := rf_mAssign
  have HV := Lib.hid hv
  have HT := Lib.hid ht
  have HAC := Lib.hid hac
  have HSP := Lib.hid hsp
  have htl := ht.lt
  have HX0 : Hid (Ext w (w.alloc (.cells #[.pointer (some ⟨2, 72, none⟩), .pointer (some ⟨a, 0, none⟩), .int .u64 150] 99))) := Lib.hid (Ext.alloc _ _)
  have HB0 : Hid (Blk (w.alloc (.cells #[.pointer (some ⟨2, 72, none⟩), .pointer (some ⟨a, 0, none⟩), .int .u64 150] 99)) w.heap.size 99 #[.pointer (some ⟨2, 72, none⟩), .pointer (some ⟨a, 0, none⟩), .int .u64 150]) := Lib.hid (Blk.new _ _ _)
  clear hv ht hac hsp
  go_enter Tryz.func61, Tryz.ntmps61
  go_wp2_with fail
  generalize (w.alloc (.cells #[.pointer (some ⟨2, 72, none⟩), .pointer (some ⟨a, 0, none⟩), .int .u64 150] 99)) = w0 at *
  generalize hq : w.heap.size = q at *
  have HQ := Lib.hid hq
  clear hq
  go_loopg [0] (v.deep) (fun gk u wr => ∃ x : ErrV, x.deep = gk ∧ u = .iface x.ty x.dat ∧ Hid (x.ok wr ∧ x.spot = v.spot ∧ Ext w0 wr))
  case atStart => exact ⟨v, rfl, rfl, Lib.hid ⟨ErrV.ok_ext HX0.out HV.out, rfl, Ext.refl _⟩⟩
  case round =>
    obtain ⟨x, rfl, rfl, HW⟩ := hrel
    obtain ⟨wa, rfl⟩ : ∃ wa : World, wa = wr := ⟨_, rfl⟩
    have HB := Lib.hid (HB0.out.ext HW.out.2.2)
    have HTA := Lib.hid ((HT.out.ext HX0.out).ext HW.out.2.2)
    have hac1 : wa.cell? ⟨a, 0, none⟩ = some (.pointer (some ⟨t, 0, none⟩)) := ((HX0.out.trans HW.out.2.2).cell (p := ⟨a, 0, none⟩) (by rw [HQ.out]; exact ha)).trans HAC.out
    have hwz : w.heap.size ≤ wa.heap.size := (HX0.out.trans HW.out.2.2).size
    have b0 := HB.out.cell 0
    have b1 := HB.out.cell 1
    have b2 := HB.out.cell 2
    have t0 := HTA.out.cell 0
    have f0 := HTA.out.frozen 0
    cases x with
    | num n =>
      rw [ErrV.ty_num, ErrV.dat_num]
      have tO := rf_typeOfN
      have aN := rf_asNP
      have nA := rf_noAsN
      have nU := rf_noUnwN
      have nUs := rf_noUnwsN
      have HX := Lib.hid (HX0.out.trans HW.out.2.2)
      go_wp2_with fail
      go_ret
      exact ⟨rfl, HX.out⟩
    | at_ g' pa pl pc pe => exact absurd (HW.out.2.1.trans HSP.out) (by simp [ErrV.spot])

set_option maxHeartbeats 8000000 in
set_option maxRecDepth 100000 in
theorem AsN_any (v : ErrV) (w : World) (hG : GT w) (hv : v.ok w) (old : Int) (t : Nat) (ht : Blk w t 32 #[.int .i64 old]) :
    Calls Tryz.prog 30 #[.iface v.ty v.dat, .iface 75 (.pointer (some ⟨t, 0, none⟩))] w fun e w' => e = .returned (.bool true) ∧ Mod t w w' ∧ Blk w' t 32 #[.int .i64 v.code] := by
  have h47 := @run_callFunc_extern Tryz.prog 58 _ (fun args => ReflectliteValue.unpack (args.getD 0 (.tuple #[]))) Tryz.func58 (by kernel_rfl) (by kernel_rfl) (by kernel_rfl) (by kernel_rfl)
  have h48 := @run_callFunc_extern Tryz.prog 59 _ (ReflectliteValue.methodAny (ReflectliteValue.valueError "reflectlite.Value.Type" 0) (fun t _ _ _ => ReflectliteType.toType t)) Tryz.func59 (by kernel_rfl) (by kernel_rfl) (by kernel_rfl) (by kernel_rfl)
  have h49 := @run_callFunc_extern Tryz.prog 60 _ (ReflectliteValue.method (ReflectliteValue.valueError "reflectlite.Value.IsNil" 0) ReflectliteValue.isNil) Tryz.func60 (by kernel_rfl) (by kernel_rfl) (by kernel_rfl) (by kernel_rfl)
  have h96 := @run_callFunc_extern Tryz.prog 166 _ (ReflectliteType.abiMethod fun t => do pure (.int .u8 (← Rtype.kind t))) Tryz.func166 (by kernel_rfl) (by kernel_rfl) (by kernel_rfl) (by kernel_rfl)
  have h109 := @run_callFunc_extern Tryz.prog 178 _ (ReflectliteType.method ReflectliteType.elem) Tryz.func178 (by kernel_rfl) (by kernel_rfl) (by kernel_rfl) (by kernel_rfl)
  have h110 := @run_callFunc_extern Tryz.prog 179 _ (ReflectliteType.relation "Implements" ReflectliteType.implements_) Tryz.func179 (by kernel_rfl) (by kernel_rfl) (by kernel_rfl) (by kernel_rfl)
  have mK := rf_mKind
  have mE := rf_mElem
  have mI := rf_mImpl
  have f6 := rf_valueOfPN
  have f7 := rf_typePN
  have k27 := rf_kindPN
  have k25 := rf_kindN
  have e27 := rf_elemPN
  have i25 := rf_implN
  have htl := ht.lt
  have hx2 : Ext w ((w.alloc (.cells #[.pointer (some ⟨t, 0, none⟩)] 75)).alloc (.cells #[.pointer (some ⟨2, 75, none⟩), .pointer (some ⟨w.heap.size, 0, none⟩), .int .u64 150] 99)) := (Ext.alloc _ _).trans (Ext.alloc _ _)
  have hac2 : ((w.alloc (.cells #[.pointer (some ⟨t, 0, none⟩)] 75)).alloc (.cells #[.pointer (some ⟨2, 75, none⟩), .pointer (some ⟨w.heap.size, 0, none⟩), .int .u64 150] 99)).cell? ⟨w.heap.size, 0, none⟩ = some (.pointer (some ⟨t, 0, none⟩)) := by
    have h := ((Blk.new w 75 #[.pointer (some ⟨t, 0, none⟩)]).alloc (.cells #[.pointer (some ⟨2, 75, none⟩), .pointer (some ⟨w.heap.size, 0, none⟩), .int .u64 150] 99)).cell 0
    exact h
  have HX2 := Lib.hid hx2
  have HC := Lib.hid (asN_any v ((w.alloc (.cells #[.pointer (some ⟨t, 0, none⟩)] 75)).alloc (.cells #[.pointer (some ⟨2, 75, none⟩), .pointer (some ⟨w.heap.size, 0, none⟩), .int .u64 150] 99)) (ErrV.ok_ext hx2 hv) t w.heap.size old (by simp; omega) (by omega) hac2 (ht.ext hx2))
  have hg2 : ((w.alloc (.cells #[.pointer (some ⟨t, 0, none⟩)] 75)).alloc (.cells #[.pointer (some ⟨2, 75, none⟩), .pointer (some ⟨w.heap.size, 0, none⟩), .int .u64 150] 99)).cell? ⟨0, 0, none⟩ = some (.iface 123 (.agg #[.pointer (some ⟨2, 28, none⟩)])) := hG.ext hx2
  have n8 := rf_isNilPN ⟨w.heap.size, 0, none⟩ ⟨t, 0, none⟩ ((w.alloc (.cells #[.pointer (some ⟨t, 0, none⟩)] 75)).alloc (.cells #[.pointer (some ⟨2, 75, none⟩), .pointer (some ⟨w.heap.size, 0, none⟩), .int .u64 150] 99)) hac2
  have hg0 := hG
  unfold GT at hg0
  obtain ⟨vt, hvt⟩ : ∃ vt, v.ty = vt := ⟨_, rfl⟩
  obtain ⟨vd, hvd⟩ : ∃ vd, v.dat = vd := ⟨_, rfl⟩
  rw [hvt, hvd] at HC ⊢
  clear hvt hvd hx2 hac2 hG hv ht
  go_enter Tryz.func30, Tryz.ntmps30
  go_wp2_with (go_at_call 61; refine HC.out.mono ?_; rintro e w' ⟨rfl, hm, hb⟩)
  go_ret
  exact ⟨rfl, (Mod.of_ext HX2.out t).trans hm, hb⟩

set_option maxHeartbeats 8000000 in
set_option maxRecDepth 100000 in
theorem AsP_hit (v : ErrV) (w : World) (hG : GT w) (hv : v.ok w) (g : Nat) (hsp : v.spot = some g) (t : Nat) (ht : Blk w t 70 #[.pointer none]) :
    Calls Tryz.prog 30 #[.iface v.ty v.dat, .iface 72 (.pointer (some ⟨t, 0, none⟩))] w fun e w' => e = .returned (.bool true) ∧ Mod t w w' ∧ Blk w' t 70 #[.pointer (some ⟨g, 0, none⟩)] := by
  have h47 := @run_callFunc_extern Tryz.prog 58 _ (fun args => ReflectliteValue.unpack (args.getD 0 (.tuple #[]))) Tryz.func58 (by kernel_rfl) (by kernel_rfl) (by kernel_rfl) (by kernel_rfl)
  have h48 := @run_callFunc_extern Tryz.prog 59 _ (ReflectliteValue.methodAny (ReflectliteValue.valueError "reflectlite.Value.Type" 0) (fun t _ _ _ => ReflectliteType.toType t)) Tryz.func59 (by kernel_rfl) (by kernel_rfl) (by kernel_rfl) (by kernel_rfl)
  have h49 := @run_callFunc_extern Tryz.prog 60 _ (ReflectliteValue.method (ReflectliteValue.valueError "reflectlite.Value.IsNil" 0) ReflectliteValue.isNil) Tryz.func60 (by kernel_rfl) (by kernel_rfl) (by kernel_rfl) (by kernel_rfl)
  have h96 := @run_callFunc_extern Tryz.prog 166 _ (ReflectliteType.abiMethod fun t => do pure (.int .u8 (← Rtype.kind t))) Tryz.func166 (by kernel_rfl) (by kernel_rfl) (by kernel_rfl) (by kernel_rfl)
  have h109 := @run_callFunc_extern Tryz.prog 178 _ (ReflectliteType.method ReflectliteType.elem) Tryz.func178 (by kernel_rfl) (by kernel_rfl) (by kernel_rfl) (by kernel_rfl)
  have h110 := @run_callFunc_extern Tryz.prog 179 _ (ReflectliteType.relation "Implements" ReflectliteType.implements_) Tryz.func179 (by kernel_rfl) (by kernel_rfl) (by kernel_rfl) (by kernel_rfl)
  have mK := rf_mKind
  have mE := rf_mElem
  have mI := rf_mImpl
  have f6 := rf_valueOfPP
  have f7 := rf_typePP
  have k27 := rf_kindPP
  have k25 := rf_kindP
  have e27 := rf_elemPP
  have i25 := rf_implP
  have htl := ht.lt
  have hx2 : Ext w ((w.alloc (.cells #[.pointer (some ⟨t, 0, none⟩)] 72)).alloc (.cells #[.pointer (some ⟨2, 72, none⟩), .pointer (some ⟨w.heap.size, 0, none⟩), .int .u64 150] 99)) := (Ext.alloc _ _).trans (Ext.alloc _ _)
  have hac2 : ((w.alloc (.cells #[.pointer (some ⟨t, 0, none⟩)] 72)).alloc (.cells #[.pointer (some ⟨2, 72, none⟩), .pointer (some ⟨w.heap.size, 0, none⟩), .int .u64 150] 99)).cell? ⟨w.heap.size, 0, none⟩ = some (.pointer (some ⟨t, 0, none⟩)) := by
    have h := ((Blk.new w 72 #[.pointer (some ⟨t, 0, none⟩)]).alloc (.cells #[.pointer (some ⟨2, 72, none⟩), .pointer (some ⟨w.heap.size, 0, none⟩), .int .u64 150] 99)).cell 0
    exact h
  have HX2 := Lib.hid hx2
  have HC := Lib.hid (asP_hit v ((w.alloc (.cells #[.pointer (some ⟨t, 0, none⟩)] 72)).alloc (.cells #[.pointer (some ⟨2, 72, none⟩), .pointer (some ⟨w.heap.size, 0, none⟩), .int .u64 150] 99)) (ErrV.ok_ext hx2 hv) g hsp t w.heap.size (by simp; omega) (by omega) hac2 (ht.ext hx2))
  have hg2 : ((w.alloc (.cells #[.pointer (some ⟨t, 0, none⟩)] 72)).alloc (.cells #[.pointer (some ⟨2, 72, none⟩), .pointer (some ⟨w.heap.size, 0, none⟩), .int .u64 150] 99)).cell? ⟨0, 0, none⟩ = some (.iface 123 (.agg #[.pointer (some ⟨2, 28, none⟩)])) := hG.ext hx2
  have n8 := rf_isNilPP ⟨w.heap.size, 0, none⟩ ⟨t, 0, none⟩ ((w.alloc (.cells #[.pointer (some ⟨t, 0, none⟩)] 72)).alloc (.cells #[.pointer (some ⟨2, 72, none⟩), .pointer (some ⟨w.heap.size, 0, none⟩), .int .u64 150] 99)) hac2
  have hg0 := hG
  unfold GT at hg0
  obtain ⟨vt, hvt⟩ : ∃ vt, v.ty = vt := ⟨_, rfl⟩
  obtain ⟨vd, hvd⟩ : ∃ vd, v.dat = vd := ⟨_, rfl⟩
  rw [hvt, hvd] at HC ⊢
  clear hvt hvd hx2 hac2 hG hv ht
  go_enter Tryz.func30, Tryz.ntmps30
  go_wp2_with (go_at_call 61; refine HC.out.mono ?_; rintro e w' ⟨rfl, hm, hb⟩)
  go_ret
  exact ⟨rfl, (Mod.of_ext HX2.out t).trans hm, hb⟩

set_option maxHeartbeats 8000000 in
set_option maxRecDepth 100000 in
theorem AsP_miss (v : ErrV) (w : World) (hG : GT w) (hv : v.ok w) (hsp : v.spot = none) (t : Nat) (ht : Blk w t 70 #[.pointer none]) :
    Calls Tryz.prog 30 #[.iface v.ty v.dat, .iface 72 (.pointer (some ⟨t, 0, none⟩))] w fun e w' => e = .returned (.bool false) ∧ Ext w w' := by
  have h47 := @run_callFunc_extern Tryz.prog 58 _ (fun args => ReflectliteValue.unpack (args.getD 0 (.tuple #[]))) Tryz.func58 (by kernel_rfl) (by kernel_rfl) (by kernel_rfl) (by kernel_rfl)
  have h48 := @run_callFunc_extern Tryz.prog 59 _ (ReflectliteValue.methodAny (ReflectliteValue.valueError "reflectlite.Value.Type" 0) (fun t _ _ _ => ReflectliteType.toType t)) Tryz.func59 (by kernel_rfl) (by kernel_rfl) (by kernel_rfl) (by kernel_rfl)
  have h49 := @run_callFunc_extern Tryz.prog 60 _ (ReflectliteValue.method (ReflectliteValue.valueError "reflectlite.Value.IsNil" 0) ReflectliteValue.isNil) Tryz.func60 (by kernel_rfl) (by kernel_rfl) (by kernel_rfl) (by kernel_rfl)
  have h96 := @run_callFunc_extern Tryz.prog 166 _ (ReflectliteType.abiMethod fun t => do pure (.int .u8 (← Rtype.kind t))) Tryz.func166 (by kernel_rfl) (by kernel_rfl) (by kernel_rfl) (by kernel_rfl)
  have h109 := @run_callFunc_extern Tryz.prog 178 _ (ReflectliteType.method ReflectliteType.elem) Tryz.func178 (by kernel_rfl) (by kernel_rfl) (by kernel_rfl) (by kernel_rfl)
  have h110 := @run_callFunc_extern Tryz.prog 179 _ (ReflectliteType.relation "Implements" ReflectliteType.implements_) Tryz.func179 (by kernel_rfl) (by kernel_rfl) (by kernel_rfl) (by kernel_rfl)
  have mK := rf_mKind
  have mE := rf_mElem
  have mI := rf_mImpl
  have f6 := rf_valueOfPP
  have f7 := rf_typePP
  have k27 := rf_kindPP
  have k25 := rf_kindP
  have e27 := rf_elemPP
  have i25 := rf_implP
  have htl := ht.lt
  have hx2 : Ext w ((w.alloc (.cells #[.pointer (some ⟨t, 0, none⟩)] 72)).alloc (.cells #[.pointer (some ⟨2, 72, none⟩), .pointer (some ⟨w.heap.size, 0, none⟩), .int .u64 150] 99)) := (Ext.alloc _ _).trans (Ext.alloc _ _)
  have hac2 : ((w.alloc (.cells #[.pointer (some ⟨t, 0, none⟩)] 72)).alloc (.cells #[.pointer (some ⟨2, 72, none⟩), .pointer (some ⟨w.heap.size, 0, none⟩), .int .u64 150] 99)).cell? ⟨w.heap.size, 0, none⟩ = some (.pointer (some ⟨t, 0, none⟩)) := by
    have h := ((Blk.new w 72 #[.pointer (some ⟨t, 0, none⟩)]).alloc (.cells #[.pointer (some ⟨2, 72, none⟩), .pointer (some ⟨w.heap.size, 0, none⟩), .int .u64 150] 99)).cell 0
    exact h
  have HX2 := Lib.hid hx2
  have HC := Lib.hid (asP_miss v ((w.alloc (.cells #[.pointer (some ⟨t, 0, none⟩)] 72)).alloc (.cells #[.pointer (some ⟨2, 72, none⟩), .pointer (some ⟨w.heap.size, 0, none⟩), .int .u64 150] 99)) (ErrV.ok_ext hx2 hv) hsp t w.heap.size (by simp; omega) (by omega) hac2 (ht.ext hx2))
  have hg2 : ((w.alloc (.cells #[.pointer (some ⟨t, 0, none⟩)] 72)).alloc (.cells #[.pointer (some ⟨2, 72, none⟩), .pointer (some ⟨w.heap.size, 0, none⟩), .int .u64 150] 99)).cell? ⟨0, 0, none⟩ = some (.iface 123 (.agg #[.pointer (some ⟨2, 28, none⟩)])) := hG.ext hx2
  have n8 := rf_isNilPP ⟨w.heap.size, 0, none⟩ ⟨t, 0, none⟩ ((w.alloc (.cells #[.pointer (some ⟨t, 0, none⟩)] 72)).alloc (.cells #[.pointer (some ⟨2, 72, none⟩), .pointer (some ⟨w.heap.size, 0, none⟩), .int .u64 150] 99)) hac2
  have hg0 := hG
  unfold GT at hg0
  obtain ⟨vt, hvt⟩ : ∃ vt, v.ty = vt := ⟨_, rfl⟩
  obtain ⟨vd, hvd⟩ : ∃ vd, v.dat = vd := ⟨_, rfl⟩
  rw [hvt, hvd] at HC ⊢
  clear hvt hvd hx2 hac2 hG hv ht
  go_enter Tryz.func30, Tryz.ntmps30
  go_wp2_with (go_at_call 61; refine HC.out.mono ?_; rintro e w' ⟨rfl, hm⟩)
  go_ret
  exact ⟨rfl, HX2.out.trans hm⟩

end Go.Proofs.YtcccnicldbpieaaGreatDoor
