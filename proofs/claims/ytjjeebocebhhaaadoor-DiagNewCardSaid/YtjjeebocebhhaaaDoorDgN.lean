/- The errors' texts, the document's places, errors.Unwrap at a place: walked. Condition: internal/strconv.uint64pow10 reads as the program's text lays it. -/
import Derived.Test.YtjjeebocebhhaaaDoorItoa
import Derived.Lib.ItoaLen
namespace Go.Proofs.YtjjeebocebhhaaaDoor
open Go Go.RowKit Go.Stop
set_option linter.unusedVariables false
set_option linter.unusedSimpArgs false
def PW (w : World) : Prop := Lib.TabIs Tryd.prog w "internal/strconv.uint64pow10" .u64 Lib.pow10Tab
theorem PW.ext {w w' : World} (h : PW w) (hx : Ext w w') : PW w' := by
  have hgn : Tryd.prog.globalNamed "internal/strconv.uint64pow10" = some 2 := by kernel_rfl
  unfold PW Lib.TabIs World.var? at h ⊢
  rw [hgn] at h ⊢
  simp only [Option.bind_some] at h ⊢
  have hlt : 2 < w.heap.size := by
    rcases Nat.lt_or_ge 2 w.heap.size with h' | h'
    · exact h'
    · rw [Array.getElem?_eq_none h'] at h; cases h
  rw [hx.block 2 hlt]
  exact h
def itoaS (n : Int) : ByteArray := ⟨(Lib.itoa n).toArray⟩
theorem ext_sgrow (w : World) (k : Nat) (os : Array Obj) : Ext w (Sort.grow (w.drewN k) os) := ⟨rfl, rfl, rfl, by rw [Sort.size_grow]; exact Nat.le_add_right _ _, fun b hb => Sort.heap_grow_old _ _ hb⟩
theorem itoaX (n : Int) (h0 : -9223372036854775808 ≤ n) (h1 : n ≤ 9223372036854775807) (w : World) (h : PW w) : Calls Tryd.prog 26 #[.int .i64 n] w fun e w' => e = .returned (.string (itoaS n)) ∧ Ext w w' := by
  refine (itoa_any n h0 h1 w h).mono ?_
  rintro e w' ⟨rfl, k, os, rfl⟩
  exact ⟨rfl, ext_sgrow w k os⟩
theorem itoaS_size (n : Int) (h0 : -9223372036854775808 ≤ n) (h1 : n ≤ 9223372036854775807) : (itoaS n).size ≤ 21 := by
  have := Lib.itoa_length_le n h0 h1
  show (Lib.itoa n).toArray.size ≤ 21
  rwa [List.size_toArray]
def errnoS : ByteArray := ⟨#[105, 110, 116, 101, 114, 108, 111, 99, 107, 58, 32, 101, 114, 114, 111, 114, 32]⟩
def lineS : ByteArray := ⟨#[108, 105, 110, 101, 32]⟩
def colS : ByteArray := ⟨#[44, 32, 99, 111, 108, 117, 109, 110, 32]⟩
def dotS : ByteArray := ⟨#[58, 32]⟩
def errS (n : Int) : ByteArray := errnoS ++ itoaS n
theorem errS_size (n : Int) (h0 : -9223372036854775808 ≤ n) (h1 : n ≤ 9223372036854775807) : (errS n).size ≤ 38 := by
  have := itoaS_size n h0 h1
  unfold errS
  rw [ByteArray.size_append]
  have : errnoS.size = 17 := rfl
  omega
def textS (L C E : Int) : ByteArray := lineS ++ itoaS L ++ colS ++ itoaS C ++ dotS ++ errS E
set_option maxHeartbeats 1000000 in
theorem errno_any (n : Int) (h0 : -9223372036854775808 ≤ n) (h1 : n ≤ 9223372036854775807) (w : World) (h : PW w) : Calls Tryd.prog 27 #[.int .i64 n] w fun e w' => e = .returned (.string (errS n)) ∧ Ext w w' := by
  have z0 := itoaS_size n h0 h1
  have z1 : ¬ (9223372036854775807 < 17 + (itoaS n).size) := by omega
  go_enter Tryd.func27, Tryd.ntmps27
  go_wp2_with fail
  refine (itoaX n h0 h1 w h).mono ?_
  rintro e w' ⟨rfl, hx⟩
  go_wp2_with fail
  go_ret
  exact ⟨rfl, hx⟩
set_option maxHeartbeats 2000000 in
theorem rat_any (A : Option Addr) (n c : Nat) (a : Int) (w : World) : Calls Tryd.prog 28 #[.slice A n c, .int .i64 a] w fun e w' => e = .returned (.int .i64 ((atN a n : Nat) : Int)) ∧ w = w' := by
  have hq : max 0 (min a (n : Int)) = ((atN a n : Nat) : Int) := by unfold atN; omega
  go_enter Tryd.func28, Tryd.ntmps28
  go_wp2_with fail
  go_ret
  exact ⟨rfl, rfl⟩
set_option maxHeartbeats 4000000 in
set_option maxRecDepth 10000 in
theorem where_any (A : Option Addr) (l : Bs) (n c : Nat) (a : Int) (w : World) (hn : n = l.length) (hlen : l.length ≤ 1000000) (hA : Cells w A (bcells l)) : Calls Tryd.prog 25 #[.slice A n c, .int .i64 a] w fun e w' => e = .returned (.tuple #[.int .i64 (lineN l (atN a l.length)), .int .i64 (colN l (atN a l.length))]) ∧ w = w' := by
  subst hn
  have HC := Lib.hid hA
  clear hA
  have hql := atN_le a l.length
  have HQ := Lib.hid (rat_any A l.length c a w)
  rw [col_eq]
  generalize atN a l.length = q at *
  go_enter Tryd.func25, Tryd.ntmps25
  go_wp2_with fail
  go_loop [6, 7, 8] (fun li co i => ∃ k : Nat, k ≤ q ∧ i = .int .i64 k ∧ li = .int .i64 (lineN l k) ∧ co = .int .i64 ((k : Int) - lastTo l k)) (fun _ _ i => q - (intOf i).toNat)
  case atStart => exact ⟨0, Nat.zero_le _, rfl, rfl, rfl⟩
  case round =>
    obtain ⟨k, hk, rfl, rfl, rfl⟩ := hrel
    have hb1 : 1 ≤ lineN l k ∧ lineN l k ≤ 1000001 := ⟨line_one l k, by unfold lineN; have := List.count_le_length (a := (10 : UInt8)) (l := l.take k); rw [List.length_take] at this; omega⟩
    have hb2 := lastTo_bd l k
    go_wp2_with fail
    refine HQ.out.mono ?_
    rintro e w' ⟨rfl, rfl⟩
    by_cases hlt : k < q
    · have d0 : decide ((k : Int) < (q : Int)) = true := decide_eq_true (by omega)
      have hkl : k < l.length := by omega
      obtain ⟨b, off, hA, hb, hcc⟩ := HC.out.at_ (by rw [bcells_len]; omega)
      subst hA
      have e0 : w.cell? ⟨b, off + k, none⟩ = some (.int .u8 (l[k].toNat : Int)) := by rw [hcc k (by rw [bcells_len]; omega), bcells_at l k hkl]
      have hs1 := line_step l k hkl
      have hs2 := last_step l k hkl
      have q0 : (k : Int) < (l.length : Int) := by omega
      clear hcc
      by_cases hx : l[k] = 10
      · rw [if_pos hx] at hs1 hs2
        rw [hx] at e0
        have e0' : w.cell? ⟨b, off + k, none⟩ = some (.int .u8 10) := e0
        have HS := Lib.hid (And.intro hs1 hs2)
        clear e0 hs1 hs2
        obtain ⟨L, hL⟩ : ∃ L, lineN l k = L := ⟨_, rfl⟩
        obtain ⟨T, hT⟩ : ∃ T, lastTo l k = T := ⟨_, rfl⟩
        rw [hL] at hb1 HS ⊢
        rw [hT] at hb2 ⊢
        clear hL hT
        obtain ⟨hb11, hb12⟩ := hb1
        go_wp2_with fail
        go_round
        case rel => exact ⟨k + 1, by omega, by go_num, by rw [HS.out.1], by rw [HS.out.2]; congr 1; omega⟩
        case measure => simp [intOf]; omega
      · rw [if_neg hx] at hs1 hs2
        have d1 : ((l[k].toNat : Int) == 10) = false := toNat_ne (y := 10) hx
        generalize l[k] = x at *
        have HS := Lib.hid (And.intro hs1 hs2)
        clear hs1 hs2
        obtain ⟨L, hL⟩ : ∃ L, lineN l k = L := ⟨_, rfl⟩
        obtain ⟨T, hT⟩ : ∃ T, lastTo l k = T := ⟨_, rfl⟩
        rw [hL] at hb1 HS ⊢
        rw [hT] at hb2 HS ⊢
        clear hL hT
        obtain ⟨hb21, hb22⟩ := hb2
        go_wp2_with fail
        go_round
        case rel => exact ⟨k + 1, by omega, by go_num, by rw [HS.out.1, Int.add_zero], by rw [HS.out.2]; congr 1; omega⟩
        case measure => simp [intOf]; omega
    · obtain rfl : k = q := by omega
      have d0 : decide ((k : Int) < (k : Int)) = false := by simp
      go_wp2_with fail
      go_ret2
      exact ⟨rfl, rfl⟩
set_option maxHeartbeats 1000000 in
theorem unwrap_at (g : Nat) (a l c e' : Int) (w : World) (hg : Blk w g 61 #[.int .i64 a, .int .i64 l, .int .i64 c, .int .i64 e']) : Calls Tryd.prog 29 #[.iface 57 (.pointer (some ⟨g, 0, none⟩))] w fun e w' => e = .returned (.iface 29 (.int .i64 e')) ∧ w = w' := by
  have uE := rf_unwE
  have mU := rf_mUnwE
  have HE := Lib.hid (eunwrap_any g a l c e' w hg)
  clear hg
  go_enter Tryd.func29, Tryd.ntmps29
  go_wp2_with (go_at_call 100; refine HE.out.mono ?_; rintro e' w' ⟨rfl, rfl⟩)
  go_ret
  exact ⟨rfl, rfl⟩
theorem rf_mErrE (p : Value) (w : World) : (Go.method 263 57 p "Error").run Tryd.prog w = .ok (99, p) w := by kernel_rfl
set_option maxHeartbeats 8000000 in
set_option maxRecDepth 10000 in
theorem eerr_any (g : Nat) (a L C E : Int) (w : World) (hL : -9223372036854775808 ≤ L ∧ L ≤ 9223372036854775807) (hC : -9223372036854775808 ≤ C ∧ C ≤ 9223372036854775807) (hE : -9223372036854775808 ≤ E ∧ E ≤ 9223372036854775807) (hg : Blk w g 61 #[.int .i64 a, .int .i64 L, .int .i64 C, .int .i64 E]) (hp : PW w) :
    Calls Tryd.prog 99 #[.pointer (some ⟨g, 0, none⟩)] w fun e w' => e = .returned (.string (textS L C E)) ∧ Ext w w' := by
  have hgl := hg.lt
  have c1 := hg.cell 1
  have c2 := hg.cell 2
  have c3 := hg.cell 3
  have HP := Lib.hid hp
  clear hg hp
  have zL := itoaS_size L hL.1 hL.2
  have zC := itoaS_size C hC.1 hC.2
  have zE := errS_size E hE.1 hE.2
  have zl : lineS.size = 5 := rfl
  have zc : colS.size = 9 := rfl
  have zd : dotS.size = 2 := rfl
  have z1 : ¬ (9223372036854775807 < 5 + (itoaS L).size) := by omega
  have z2 : ¬ (9223372036854775807 < lineS.size + (itoaS L).size + 9) := by omega
  have z3 : ¬ (9223372036854775807 < lineS.size + (itoaS L).size + colS.size + (itoaS C).size) := by omega
  have z4 : ¬ (9223372036854775807 < lineS.size + (itoaS L).size + colS.size + (itoaS C).size + 2) := by omega
  have z5 : ¬ (9223372036854775807 < lineS.size + (itoaS L).size + colS.size + (itoaS C).size + dotS.size + (errS E).size) := by omega
  go_enter Tryd.func99, Tryd.ntmps99
  go_upto_region 3 with fail
  apply wp_region_ext (by kernel_rfl) (by kernel_rfl) (by kernel_rfl)
  apply step_det (.pointer (some ⟨g, 0, none⟩)) rfl rfl rfl
  · intro w' hw' hH
    clear hH
    simp [YieldsF, go_sem]
    first | exact Ext.refl _ | exact ⟨rfl, Ext.refl _⟩
  apply step_det (.pointer (some ⟨g, 0, none⟩)) rfl rfl rfl
  · intro w' hw' hH
    clear hH
    simp [YieldsF, go_sem]
    first | exact Ext.refl _ | exact ⟨rfl, Ext.refl _⟩
  apply step_det (.pointer (some ⟨g, 1, none⟩)) rfl rfl rfl
  · intro w' hw' hH
    clear hH
    simp [YieldsF, go_sem]
    first | exact Ext.refl _ | exact ⟨rfl, Ext.refl _⟩
  apply step_det (.int .i64 L) rfl rfl rfl
  · intro w' hw' hH
    clear hH
    have z0 := (hw'.cell (p := ⟨g, 1, none⟩) hgl).trans c1
    simp [YieldsF, go_sem, z0]
    first | exact Ext.refl _ | exact ⟨rfl, Ext.refl _⟩
  apply step_det (.string (itoaS L)) rfl rfl rfl
  · intro w' hw' hH
    clear hH
    refine yields_call (f := 26) (args := #[.int .i64 L]) (fun w => by simp [go_sem]) ?_
    refine (itoaX L hL.1 hL.2 w' (HP.out.ext hw')).mono ?_
    rintro e w'' ⟨rfl, hx⟩
    exact ⟨_, rfl, rfl, hx⟩
  apply step_det (.string (lineS ++ itoaS L)) rfl rfl rfl
  · intro w' hw' hH
    clear hH
    simp [YieldsF, go_sem, z1]
    first | exact Ext.refl _ | exact ⟨rfl, Ext.refl _⟩
  apply step_det (.string (lineS ++ itoaS L ++ colS)) rfl rfl rfl
  · intro w' hw' hH
    clear hH
    simp [YieldsF, go_sem, z2]
    first | exact Ext.refl _ | exact ⟨rfl, Ext.refl _⟩
  apply step_det (.pointer (some ⟨g, 0, none⟩)) rfl rfl rfl
  · intro w' hw' hH
    clear hH
    simp [YieldsF, go_sem]
    first | exact Ext.refl _ | exact ⟨rfl, Ext.refl _⟩
  apply step_det (.pointer (some ⟨g, 0, none⟩)) rfl rfl rfl
  · intro w' hw' hH
    clear hH
    simp [YieldsF, go_sem]
    first | exact Ext.refl _ | exact ⟨rfl, Ext.refl _⟩
  apply step_det (.pointer (some ⟨g, 2, none⟩)) rfl rfl rfl
  · intro w' hw' hH
    clear hH
    simp [YieldsF, go_sem]
    first | exact Ext.refl _ | exact ⟨rfl, Ext.refl _⟩
  apply step_det (.int .i64 C) rfl rfl rfl
  · intro w' hw' hH
    clear hH
    have z0 := (hw'.cell (p := ⟨g, 2, none⟩) hgl).trans c2
    simp [YieldsF, go_sem, z0]
    first | exact Ext.refl _ | exact ⟨rfl, Ext.refl _⟩
  apply step_det (.string (itoaS C)) rfl rfl rfl
  · intro w' hw' hH
    clear hH
    refine yields_call (f := 26) (args := #[.int .i64 C]) (fun w => by simp [go_sem]) ?_
    refine (itoaX C hC.1 hC.2 w' (HP.out.ext hw')).mono ?_
    rintro e w'' ⟨rfl, hx⟩
    exact ⟨_, rfl, rfl, hx⟩
  apply step_det (.string (lineS ++ itoaS L ++ colS ++ itoaS C)) rfl rfl rfl
  · intro w' hw' hH
    clear hH
    simp [YieldsF, go_sem, z3]
    first | exact Ext.refl _ | exact ⟨rfl, Ext.refl _⟩
  apply step_det (.string (lineS ++ itoaS L ++ colS ++ itoaS C ++ dotS)) rfl rfl rfl
  · intro w' hw' hH
    clear hH
    simp [YieldsF, go_sem, z4]
    first | exact Ext.refl _ | exact ⟨rfl, Ext.refl _⟩
  apply step_det (.pointer (some ⟨g, 0, none⟩)) rfl rfl rfl
  · intro w' hw' hH
    clear hH
    simp [YieldsF, go_sem]
    first | exact Ext.refl _ | exact ⟨rfl, Ext.refl _⟩
  apply step_det (.pointer (some ⟨g, 0, none⟩)) rfl rfl rfl
  · intro w' hw' hH
    clear hH
    simp [YieldsF, go_sem]
    first | exact Ext.refl _ | exact ⟨rfl, Ext.refl _⟩
  apply step_det (.pointer (some ⟨g, 3, none⟩)) rfl rfl rfl
  · intro w' hw' hH
    clear hH
    simp [YieldsF, go_sem]
    first | exact Ext.refl _ | exact ⟨rfl, Ext.refl _⟩
  apply step_det (.int .i64 E) rfl rfl rfl
  · intro w' hw' hH
    clear hH
    have z0 := (hw'.cell (p := ⟨g, 3, none⟩) hgl).trans c3
    simp [YieldsF, go_sem, z0]
    first | exact Ext.refl _ | exact ⟨rfl, Ext.refl _⟩
  apply step_det (.string (errS E)) rfl rfl rfl
  · intro w' hw' hH
    clear hH
    refine yields_call (f := 27) (args := #[.int .i64 E]) (fun w => by simp [go_sem]) ?_
    refine (errno_any E hE.1 hE.2 w' (HP.out.ext hw')).mono ?_
    rintro e w'' ⟨rfl, hx⟩
    exact ⟨_, rfl, rfl, hx⟩
  apply step_det (.string (textS L C E)) rfl rfl rfl
  · intro w' hw' hH
    clear hH
    simp [YieldsF, go_sem, z5]
    first | exact Ext.refl _ | exact ⟨rfl, Ext.refl _⟩
  apply step_det (.string (textS L C E)) rfl rfl rfl
  · intro w' hw' hH
    clear hH
    simp [YieldsF, go_sem]
    first | exact Ext.refl _ | exact ⟨rfl, Ext.refl _⟩
  apply WalkF_nil
  intro w2 hw2 hH
  clear hH
  try simp only [Act.put, List.setIfInBounds_toArray, List.set_cons_zero, List.set_cons_succ]
  go_wp2_with fail
  go_ret
  exact ⟨rfl, hw2⟩
end Go.Proofs.YtjjeebocebhhaaaDoor
