/- interlockref08.Eval, walked: it tells what code.Eval tells. Condition: few terms and variables, which lie in memory. -/
import Derived.Test.YtngbpaiohfokbaaEvalB
import Derived.Test.YtngbpaiohfokbaaFacts
import Derived.Test.YtngbpaiohfokbaaRow
import Derived.Deep.Cut
namespace Go.Proofs.Ytngbpaiohfokbaa
open Go Go.RowKit
set_option linter.unusedVariables false
set_option linter.unusedSimpArgs false
theorem blk_cellsR {w : World} {g : Nat} {t : TypeId} {cs : Array Value} (h : Blk w g t cs) : Cells w (some ⟨g, 0, none⟩) cs.toList := by
  refine .inr ⟨g, 0, rfl, h.lt, fun k hk => ?_⟩
  rw [Nat.zero_add, h.cell k]
  simp
theorem wrapR (z : Int) : IntKind.wrap .i64 z = wrap64 z := by rw [IntKind.wrap_i64]; unfold wrap64; omega
theorem size_i64d : ∀ w, (Go.sizeOf 2).run Try.prog w = .ok 1 w := fun w => by kernel_rfl
theorem cut_nums (W : World) (A : Option Addr) (n c m : Nat) (h : m ≤ n) (hc : n ≤ c) : (Instr.slice 67 (.slice A n c) none (some (.int .i64 (m : Int))) none).run Try.prog W = .ok (.slice A m c) W := by
  have ht : Try.prog.underlying 67 = some (.slice (Try.prog.elem 67)) := by simp [Program.elem, Try.underlying67]
  have he : Try.prog.elem 67 = 2 := by simp [Program.elem, Try.underlying67]
  rw [run_slice_h W 67 _ _ _ ht .i64 _ (by omega) (by omega), he, size_i64d]
  simp [Result.andThen, sliced]
  intro _
  cases A <;> simp [Addr.add]
/-- A pile of the call's own, as it stands in a slice: the last one uppermost. -/
def RPile (B : Nat) (A : Option Addr) (c : Nat) (st : List Int) (w : World) : Prop := w.ownsRow B 2 1 (.slice A st.length c) st.length (st.map (Value.int .i64)).reverse
theorem rpile_nil (B : Nat) (w : World) : RPile B none 0 [] w := World.ownsRow_nil _ _ _ _
theorem rpile_top {B c y : Nat} {A : Option Addr} {r : List Int} {z : Int} {w : World} (h : RPile B A c (z :: r) w) : ∃ b, A = some ⟨b, 0, none⟩ ∧ b < w.heap.size ∧ r.length + 1 ≤ c ∧ w.cell? ⟨b, r.length, none⟩ = some (.int .i64 z) ∧ RPile B A c r w := by
  unfold RPile at h
  rw [List.map_cons, List.reverse_cons, List.length_cons] at h
  exact own_less h
theorem rpile_push {B c : Nat} {A : Option Addr} {st : List Int} {z : Int} {w : World} (h : w.ownsRow B 2 1 (.slice A (st.length + 1) c) (st.length + 1) ((st.map (Value.int .i64)).reverse ++ [.int .i64 z])) : RPile B A c (z :: st) w := by
  unfold RPile
  rw [List.map_cons, List.reverse_cons, List.length_cons]
  exact h
theorem own_setR {w : World} {base g n m c k sz : Nat} {e : TypeId} {xs : List Value} (h : w.ownsRow base e sz (.slice (some ⟨g, 0, none⟩) m c) n xs) (hk : k < n * sz) (u : Value) : (w.setCell ⟨g, k, none⟩ u).ownsRow base e sz (.slice (some ⟨g, 0, none⟩) m c) n (xs.set k u) := by
  refine ⟨by rw [List.length_set]; exact h.1, ?_⟩
  rcases h.2 with ⟨hv, _⟩ | ⟨g', cap, cur, hv, hb, hh, h1, h2, h3, h4⟩
  · cases hv
  · injection hv with e1 e2 e3
    injection e1 with e1
    injection e1 with e1
    subst e1 e3
    refine .inr ⟨g, c, cur.setIfInBounds k u, by rw [e2], hb, ?_, h1, h2, by simpa using h3, ?_⟩
    · simp [World.setCell, Array.getElem?_modify, hh]
    · rw [Array.toList_setIfInBounds, List.take_set, h4]
theorem rpile_set {B c b : Nat} {r : List Int} {y z : Int} {w : World} (h : RPile B (some ⟨b, 0, none⟩) c (y :: r) w) : RPile B (some ⟨b, 0, none⟩) c (z :: r) (w.setCell ⟨b, r.length, none⟩ (.int .i64 z)) := by
  have h1 := own_setR (k := r.length) h (by simp) (.int .i64 z)
  unfold RPile
  rw [List.map_cons, List.reverse_cons] at h1 ⊢
  rw [List.set_append_right _ _ (by simp)] at h1
  simpa using h1
theorem ext_grownR {w w1 w2 : World} {A : Option Addr} {n c B : Nat} {m : Nat} {xs : List Value} {e : TypeId} (h : Ext w w1) (hg : w1.grownBy w2 (Value.slice A n c).ownBlock) (ho : w1.ownsRow B e 1 (.slice A n c) m xs) (hB : w.heap.size ≤ B) : Ext w w2 :=
  Below.grown h hg h.size fun q hq => Nat.le_trans hB (ho.lt q hq).1
theorem ext_setR {w w1 : World} {b k : Nat} (h : Ext w w1) (hb : w.heap.size ≤ b) (u : Value) : Ext w (w1.setCell ⟨b, k, none⟩ u) := Below.setCell (p := ⟨b, k, none⟩) h hb u
set_option maxRecDepth 100000 in
set_option maxHeartbeats 16000000 in
theorem reval_any (A V : Option Addr) (l : List TermD) (vars : List Int) (n m c d : Nat) (w : World) (hn : n = l.length) (hm : m = vars.length) (hl : l.length ≤ 900) (hv : vars.length ≤ 900) (hA : Cells w A (tcells l)) (hV : Cells w V (ncells vars)) :
    Calls Try.prog 60 #[.slice A n c, .slice V m d] w fun e w' => e = .returned (.tuple #[.int .i64 (evalR vars l).1, .bool (evalR vars l).2]) ∧ Ext w w' := by
  subst hn hm
  obtain ⟨i0, hi, hz0, hz1, hz2⟩ := info_parts infoI64
  have HA := Lib.hid hA
  have HV := Lib.hid hV
  clear hA hV
  obtain ⟨B, HB⟩ : ∃ B, Hid (w.heap.size = B) := ⟨_, Lib.hid rfl⟩
  go_enter Try.func60, Try.ntmps60
  go_wp2_with fail
  go_loopw [6, 7] (fun pv i wr => ∃ (k c' : Nat) (A' : Option Addr) (st : List Int), k ≤ l.length ∧ i = .int .i64 k ∧ pv = .slice A' st.length c' ∧ st.length ≤ k ∧ Hid (evalN vars (l.take k) [] = some st) ∧ Hid (RPile B A' c' st wr) ∧ Hid (Ext w wr)) (fun _ i _ => l.length - (intOf i).toNat)
  case atStart => exact ⟨0, 0, none, [], Nat.zero_le _, rfl, rfl, Nat.le_refl _, Lib.hid rfl, Lib.hid (rpile_nil _ _), Lib.hid (Ext.refl _)⟩
  case round =>
    obtain ⟨k, c', A', st, hk, rfl, rfl, hst, HE, HP, HX⟩ := hrel
    obtain ⟨wa, rfl⟩ : ∃ wa : World, wa = wr := ⟨_, rfl⟩
    by_cases hkl : k < l.length
    rotate_left
    · obtain rfl : k = l.length := by omega
      have d0 : decide ((l.length : Int) < (l.length : Int)) = false := by simp
      have d1 : decide (l.length < l.length) = false := by simp
      have hev : evalN vars l [] = some st := by have := HE.out; rwa [List.take_length] at this
      rcases st with _ | ⟨x, _ | ⟨y, r⟩⟩
      · have HR : Hid (evalR vars l = (0, false)) := Lib.hid (by unfold evalR; rw [hev])
        clear hev
        go_wp2_with fail
        go_ret2
        exact ⟨ret_pair HR.out, HX.out⟩
      · have HR : Hid (evalR vars l = (x, true)) := Lib.hid (by unfold evalR; rw [hev])
        obtain ⟨b, rfl, hb, hc1, hx, _⟩ := rpile_top (y := 0) HP.out
        have hx : wa.cell? ⟨b, 0, none⟩ = some (.int .i64 x) := hx
        clear hev
        go_wp2_with fail
        go_ret2
        exact ⟨ret_pair HR.out, HX.out⟩
      · have HR : Hid (evalR vars l = (0, false)) := Lib.hid (by unfold evalR; rw [hev])
        have d2 : ((((x :: y :: r).length : Nat) : Int) != 1) = true := bne_iff_ne.2 (by simp; omega)
        have d3 : ((((x :: y :: r).length : Nat) : Int) == 1) = false := beq_eq_false_iff_ne.2 (by simp; omega)
        clear hev
        generalize (x :: y :: r).length = nn at *
        go_wp2_with fail
        go_ret2
        exact ⟨ret_pair HR.out, HX.out⟩
    have d0 : decide ((k : Int) < (l.length : Int)) = true := decide_eq_true (by omega)
    have q0 : (k : Int) < (l.length : Int) := by omega
    obtain ⟨b0, off, rfl, hb, hc⟩ := (HA.out.ext HX.out).at_ (by rw [tcells_len]; omega)
    obtain ⟨t1, t2, t3⟩ := tcells_at l k hkl
    have c1 : wa.cell? ⟨b0, off + k * 3, none⟩ = some (.int .u8 (l[k]).1) := (hc _ (by rw [tcells_len]; omega)).trans t1
    have c2 : wa.cell? ⟨b0, off + k * 3 + 1, none⟩ = some (.int .i64 (l[k]).2.1) := (by rw [Nat.add_assoc]; exact hc _ (by rw [tcells_len]; omega) : _ = _).trans t2
    have c3 : wa.cell? ⟨b0, off + k * 3 + 2, none⟩ = some (.int .i64 (l[k]).2.2) := (by rw [Nat.add_assoc]; exact hc _ (by rw [tcells_len]; omega) : _ = _).trans t3
    have HN := Lib.hid (evalN_take vars l k hkl st HE.out)
    have HF := Lib.hid (evalN_fail vars l k hkl st HE.out)
    clear hc t1 t2 t3 HE
    generalize l[k] = t at *
    obtain ⟨kd, nn, vv⟩ := t
    simp only at c1 c2 c3
    have HB1 : Hid (Blk (wa.alloc (.cells #[.int .u8 kd, .int .i64 nn, .int .i64 vv] 82)) wa.heap.size 82 #[.int .u8 kd, .int .i64 nn, .int .i64 vv]) := Lib.hid (Blk.new _ _ _)
    have HX1 := Lib.hid (HX.out.trans (Ext.alloc wa (.cells #[.int .u8 kd, .int .i64 nn, .int .i64 vv] 82)))
    have HP1 : Hid (RPile B A' c' st (wa.alloc (.cells #[.int .u8 kd, .int .i64 nn, .int .i64 vv] 82))) := Lib.hid (HP.out.alloc _)
    have HBW : Hid (B ≤ wa.heap.size) := Lib.hid (by rw [← HB.out]; exact HX.out.size)
    go_upto_region 6 with fail
    clear c1 c2 c3 hb HP
    generalize wa.heap.size = g at *
    generalize wa.alloc (.cells #[.int .u8 kd, .int .i64 nn, .int .i64 vv] 82) = W at *
    have HBX : Hid (B ≤ W.heap.size) := Lib.hid (Nat.le_trans HBW.out (Nat.le_of_lt HB1.out.lt))
    have y0 : W.cell? ⟨g, 0, none⟩ = some (.int .u8 kd) := HB1.out.cell 0
    have y1 : W.cell? ⟨g, 1, none⟩ = some (.int .i64 nn) := HB1.out.cell 1
    have y2 : W.cell? ⟨g, 2, none⟩ = some (.int .i64 vv) := HB1.out.cell 2
    have gl := HB1.out.lt
    by_cases h1 : kd = 1
    · subst h1
      have HST : Hid (stepN vars (1, nn, vv) st = some (nn :: st)) := Lib.hid rfl
      go_wp2_with (at_builtin; refine wpList_grow rfl _ _ 67 rfl B 2 i0 (.int .i64 0) 1 8 Try.underlying67 hi hz0 hz1 hz2 rfl (by decide) _ _ _ rfl (HP1.out.alloc _) _ 1 1 [.int .i64 nn] rfl (by simp) rfl ?c1 ?c2 ?c3 ?c4 ?c5 ?_)
      case c1 => exact Cells.new W 2 #[.int .i64 nn]
      case c2 => intro u hu; simp at hu; subst hu; rfl
      case c3 => unfold maxLen; omega
      case c4 => omega
      case c5 => simp; have := HBX.out; omega
      intro A2 c2 w2 _ hown hgrow
      have HP2 : Hid (RPile B A2 c2 (nn :: st) w2) := Lib.hid (rpile_push hown)
      have HX2 : Hid (Ext w w2) := Lib.hid (ext_grownR (HX1.out.trans (Ext.alloc W (.cells #[.int .i64 nn] 2))) hgrow (HP1.out.alloc _) (by rw [HB.out]; exact Nat.le_refl _))
      have HE2 : Hid (evalN vars (l.take (k + 1)) [] = some (nn :: st)) := Lib.hid (HN.out.trans HST.out)
      clear hown hgrow HN HF HST HP1 HX1 HB1 y0 y1 y2 gl
      go_wp2_with fail
      go_roundw
      case rel => exact ⟨k + 1, c2, A2, nn :: st, by omega, by go_num, rfl, by simp; omega, HE2, HP2, HX2⟩
      case measure => simp [intOf]; omega
    have e1 : (kd == 1) = false := beq_eq_false_iff_ne.2 h1
    by_cases h2 : kd = 2
    · subst h2
      by_cases hvv : 0 ≤ vv ∧ vv < vars.length
      · have HST : Hid (stepN vars (2, nn, vv) st = some (vars.getD vv.toNat 0 :: st)) := Lib.hid (by rw [stepN_two, if_pos hvv])
        obtain ⟨v0, hv0⟩ : ∃ v0 : Nat, vv = (v0 : Int) := ⟨vv.toNat, by omega⟩
        subst hv0
        have hvl : v0 < vars.length := by omega
        have g1 : decide ((v0 : Int) ≥ 0) = true := decide_eq_true (by omega)
        have g2 : decide ((v0 : Int) < (vars.length : Int)) = true := decide_eq_true (by omega)
        have g3 : (v0 : Int) < (vars.length : Int) := by omega
        have g4 : decide (v0 < vars.length) = true := decide_eq_true hvl
        obtain ⟨vb, vo, rfl, hvb, hvc⟩ := (HV.out.ext HX1.out).at_ (by simp [ncells]; omega)
        have z0 : W.cell? ⟨vb, vo + v0, none⟩ = some (.int .i64 vars[v0]) := by rw [hvc v0 (by simp [ncells]; exact hvl)]; simp [ncells, hvl]
        have HGV : Hid (vars.getD ((v0 : Int).toNat) 0 = vars[v0]) := Lib.hid (by rw [Int.toNat_natCast, List.getD_eq_getElem?_getD, List.getElem?_eq_getElem hvl]; rfl)
        rw [HGV.out] at HST
        clear hvv hvc hvb
        generalize vars[v0] = vz at *

        go_wp2_with (at_builtin; refine wpList_grow rfl _ _ 67 rfl B 2 i0 (.int .i64 0) 1 8 Try.underlying67 hi hz0 hz1 hz2 rfl (by decide) _ _ _ rfl (HP1.out.alloc _) _ 1 1 [.int .i64 vz] rfl (by simp) rfl ?c1 ?c2 ?c3 ?c4 ?c5 ?_)
        case c1 => exact Cells.new W 2 #[.int .i64 vz]
        case c2 => intro u hu; simp at hu; subst hu; rfl
        case c3 => unfold maxLen; omega
        case c4 => omega
        case c5 => simp; have := HBX.out; omega
        intro A2 c2 w2 _ hown hgrow
        have HP2 : Hid (RPile B A2 c2 (vz :: st) w2) := Lib.hid (rpile_push hown)
        have HX2 : Hid (Ext w w2) := Lib.hid (ext_grownR (HX1.out.trans (Ext.alloc W (.cells #[.int .i64 vz] 2))) hgrow (HP1.out.alloc _) (by rw [HB.out]; exact Nat.le_refl _))
        have HE2 : Hid (evalN vars (l.take (k + 1)) [] = some (vz :: st)) := Lib.hid (HN.out.trans HST.out)
        clear hown hgrow HN HF HST HP1 HX1 HB1 y0 y1 y2 gl
        go_wp2_with fail
        go_roundw
        case rel => exact ⟨k + 1, c2, A2, vz :: st, by omega, by go_num, rfl, by simp; omega, HE2, HP2, HX2⟩
        case measure => simp [intOf]; omega
      · have HST : Hid (stepN vars (2, nn, vv) st = none) := Lib.hid (by rw [stepN_two, if_neg hvv])
        by_cases hp : 0 ≤ vv
        · have g1 : decide (vv ≥ 0) = true := decide_eq_true hp
          have g2 : decide (vv < (vars.length : Int)) = false := decide_eq_false (by omega)
          clear hvv hp
          have HR := Lib.hid (HF.out HST.out)
          clear HF HN HST HP1 HB1
          go_wp2_with fail
          go_ret2
          exact ⟨ret_pair HR.out, HX1.out⟩
        · have g1 : decide (vv ≥ 0) = false := decide_eq_false hp
          have g1' : decide (0 ≤ vv) = false := g1
          clear hvv hp
          have HR := Lib.hid (HF.out HST.out)
          clear HF HN HST HP1 HB1
          go_wp2_with fail
          go_ret2
          exact ⟨ret_pair HR.out, HX1.out⟩
    have e2 : (kd == 2) = false := beq_eq_false_iff_ne.2 h2
    by_cases h6 : kd = 6
    · subst h6
      rcases st with _ | ⟨y, r⟩
      · have HST : Hid (stepN vars (6, nn, vv) [] = none) := Lib.hid rfl
        have HR := Lib.hid (HF.out HST.out)
        clear HF HN HST HP1 HB1
        go_wp2_with fail
        go_ret2
        exact ⟨ret_pair HR.out, HX1.out⟩
      · have HST : Hid (stepN vars (6, nn, vv) (y :: r) = some (wrap64 (-y) :: r)) := Lib.hid rfl
        obtain ⟨b, rfl, hb, hc1, hx, _⟩ := rpile_top (y := 0) HP1.out
        have hlow : B ≤ b := (HP1.out.lt b rfl).1
        have HP2 : Hid (RPile B (some ⟨b, 0, none⟩) c' (wrap64 (-y) :: r) (W.setCell ⟨b, r.length, none⟩ (.int .i64 (wrap64 (-y))))) := Lib.hid (rpile_set HP1.out)
        have HX2 := Lib.hid (ext_setR (k := r.length) HX1.out (by rw [HB.out]; exact hlow) (.int .i64 (wrap64 (-y))))
        have HE2 : Hid (evalN vars (l.take (k + 1)) [] = some (wrap64 (-y) :: r)) := Lib.hid (HN.out.trans HST.out)
        have hst2 : r.length + 1 ≤ k := by simpa using hst
        have g1 : decide (((r.length + 1 : Nat) : Int) ≥ 1) = true := decide_eq_true (by omega)
        have hk1 : k + 1 ≤ l.length := by omega
        have hk9 : k < 900 := by omega
        have hs1 : (wrap64 (-y) :: r).length ≤ k + 1 := by show r.length + 1 ≤ k + 1; omega
        have hme : l.length - (k + 1) < l.length - k := by omega
        have g4 : wrap64 (r.length : Int) = (r.length : Int) := by unfold wrap64; omega
        have fz : W.frozen? ⟨b, r.length, none⟩ = false := by
          have h := HP1.out
          rcases h.2 with ⟨hv, _⟩ | ⟨g', cap, cur, hv, _, hh, _⟩
          · cases hv
          · injection hv with e
            injection e with e
            injection e with e
            subst e
            simp [World.frozen?, hh]
        clear HN HF HST HP1 hl hv hk q0 hst hst2 hlow hc1
        go_wp2_with fail
        clear g1 g4 fz hx hb
        go_roundw
        case rel => exact ⟨k + 1, c', some ⟨b, 0, none⟩, wrap64 (-y) :: r, hk1, by go_num, rfl, hs1, HE2, HP2, HX2⟩
        case measure => simp [intOf]; omega
    have e6 : (kd == 6) = false := beq_eq_false_iff_ne.2 h6
    by_cases h3 : kd = 3
    · subst h3
      rcases st with _ | ⟨y, _ | ⟨x, r⟩⟩
      · have HST : Hid (stepN vars (3, nn, vv) [] = none) := Lib.hid rfl
        have HR := Lib.hid (HF.out HST.out)
        clear HF HN HST HP1 HB1
        go_wp2_with fail
        go_ret2
        exact ⟨ret_pair HR.out, HX1.out⟩
      · have HST : Hid (stepN vars (3, nn, vv) [y] = none) := Lib.hid rfl
        have HR := Lib.hid (HF.out HST.out)
        clear HF HN HST HP1 HB1
        go_wp2_with fail
        go_ret2
        exact ⟨ret_pair HR.out, HX1.out⟩
      · have HST : Hid (stepN vars (3, nn, vv) (y :: x :: r) = some (wrap64 (x + y) :: r)) := Lib.hid rfl
        obtain ⟨b, rfl, hb, hc1, hy, HP3⟩ := rpile_top (y := 0) HP1.out
        obtain ⟨b', eb, _, hc2, hx, HP4⟩ := rpile_top (y := 0) HP3
        injection eb with eb
        injection eb with eb
        subst eb
        have hlow : B ≤ b := (HP1.out.lt b rfl).1
        have HE2 : Hid (evalN vars (l.take (k + 1)) [] = some (wrap64 (x + y) :: r)) := Lib.hid (HN.out.trans HST.out)
        have hst2 : r.length + 2 ≤ k := by simpa using hst
        have hy : W.cell? ⟨b, r.length + 1, none⟩ = some (.int .i64 y) := by simpa using hy
        have hcc : r.length + 2 ≤ c' := by simpa using hc1
        have HPR := Lib.hid HP4
        have g1 : decide (((r.length + 2 : Nat) : Int) ≥ 2) = true := decide_eq_true (by omega)
        have g2 : IntKind.wrap .i64 (((r.length + 2 : Nat) : Int) - 2) = (r.length : Int) := by rw [IntKind.wrap_i64]; omega
        have g3 : IntKind.wrap .i64 (((r.length + 2 : Nat) : Int) - 1) = ((r.length + 1 : Nat) : Int) := by rw [IntKind.wrap_i64]; omega
        have g4 : (r.length : Int) < (r.length : Int) + 2 := by omega
        have g5 : (0 : Int) ≤ (r.length : Int) + 1 := by omega
        have g6 : IntKind.wrap .i64 (r.length : Int) = (r.length : Int) := by rw [IntKind.wrap_i64]; omega
        have g7 : IntKind.wrap .i64 ((r.length : Int) + 2 - 1) = (r.length : Int) + 1 := by rw [IntKind.wrap_i64]; omega
        have g8 : (2 : Int) ≤ (r.length : Int) + 2 := by omega
        have HSL : Hid (∀ W, (Instr.slice 67 (.slice (some ⟨b, 0, none⟩) (r.length + 2) c') none (some (.int .i64 (r.length : Int))) none).run Try.prog W = .ok (.slice (some ⟨b, 0, none⟩) r.length c') W) := Lib.hid fun W => cut_nums W _ _ _ _ (by omega) hcc
        clear HN HF HST HP1 HP3 HP4 hc1 hc2
        rw [show (y :: x :: r).length = r.length + 2 from rfl] at *
        go_upto_region 15 with fail
        have hsl := HSL.out
        apply wp_region_ext_tail 16 (by kernel_rfl) (by kernel_rfl) (by kernel_rfl)
        dsimp only [List.take_succ_cons, List.take_zero, List.drop_succ_cons, List.drop_zero]
        apply step_det (.slice (some ⟨b, 0, none⟩) (r.length + 2) c') rfl rfl rfl
        · intro w' hw' hH
          clear hH
          simp [YieldsF, go_sem]
          exact Ext.refl _
        apply step_det (.int .i64 ((r.length + 2 : Nat) : Int)) rfl rfl rfl
        · intro w' hw' hH
          clear hH
          simp [YieldsF, go_sem]
          exact Ext.refl _
        apply step_det (.int .i64 (r.length : Int)) rfl rfl rfl
        · intro w' hw' hH
          clear hH
          simp [YieldsF, go_sem, g6]
          exact Ext.refl _
        apply step_det (.slice (some ⟨b, 0, none⟩) r.length c') rfl rfl rfl
        · intro w' hw' hH
          clear hH
          simp [YieldsF, go_sem, hsl]
          exact Ext.refl _
        apply step_det (.slice (some ⟨b, 0, none⟩) (r.length + 2) c') rfl rfl rfl
        · intro w' hw' hH
          clear hH
          simp [YieldsF, go_sem]
          exact Ext.refl _
        apply step_det (.int .i64 ((r.length + 2 : Nat) : Int)) rfl rfl rfl
        · intro w' hw' hH
          clear hH
          simp [YieldsF, go_sem]
          exact Ext.refl _
        apply step_det (.int .i64 (r.length : Int)) rfl rfl rfl
        · intro w' hw' hH
          clear hH
          simp [YieldsF, go_sem, g6]
          exact Ext.refl _
        apply step_det (.pointer (some ⟨b, r.length, none⟩)) rfl rfl rfl
        · intro w' hw' hH
          clear hH
          simp [YieldsF, go_sem, g4]
          exact Ext.refl _
        apply step_det (.int .i64 x) rfl rfl rfl
        · intro w' hw' hH
          clear hH
          have cc := (hw'.cell (p := ⟨b, r.length, none⟩) hb).trans hx
          simp [YieldsF, go_sem, cc]
          exact Ext.refl _
        apply step_det (.slice (some ⟨b, 0, none⟩) (r.length + 2) c') rfl rfl rfl
        · intro w' hw' hH
          clear hH
          simp [YieldsF, go_sem]
          exact Ext.refl _
        apply step_det (.int .i64 ((r.length + 2 : Nat) : Int)) rfl rfl rfl
        · intro w' hw' hH
          clear hH
          simp [YieldsF, go_sem]
          exact Ext.refl _
        apply step_det (.int .i64 ((r.length + 1 : Nat) : Int)) rfl rfl rfl
        · intro w' hw' hH
          clear hH
          simp [YieldsF, go_sem, g7]
          exact Ext.refl _
        apply step_det (.pointer (some ⟨b, r.length + 1, none⟩)) rfl rfl rfl
        · intro w' hw' hH
          clear hH
          simp [YieldsF, go_sem, g5]
          exact Ext.refl _
        apply step_det (.int .i64 y) rfl rfl rfl
        · intro w' hw' hH
          clear hH
          have cc := (hw'.cell (p := ⟨b, r.length + 1, none⟩) hb).trans hy
          simp [YieldsF, go_sem, cc]
          exact Ext.refl _
        apply step_det (.int .i64 (wrap64 (x + y))) rfl rfl rfl
        · intro w' hw' hH
          clear hH
          simp [YieldsF, go_sem]
          first | exact Ext.refl _ | exact ⟨wrapR _, Ext.refl _⟩
        apply step_fact (LitF 2 1 #[.int .i64 (wrap64 (x + y))]) (fun v w w' h hx => by obtain ⟨g, a, b⟩ := h; exact ⟨g, a, b.ext hx⟩) rfl rfl rfl
        · intro w' hw' hH
          clear hH
          simp [YieldsF, go_sem]
          exact ⟨⟨_, rfl, Blk.new w' _ _⟩, Ext.alloc _ _⟩
        intro vd
        apply WalkF_nil
        intro w1 hw1 hH
        obtain ⟨gd, rfl, hbd⟩ := hH _ (List.mem_cons_self ..)
        clear hH
        have HPS : Hid (RPile B (some ⟨b, 0, none⟩) c' r w1) := Lib.hid (own_ext HPR.out hw1)
        have HXS := Lib.hid (HX1.out.trans hw1)
        have HBS : Hid (B ≤ w1.heap.size) := Lib.hid (Nat.le_trans HBX.out hw1.size)
        have HCD := Lib.hid (blk_cellsR hbd)
        clear hbd hw1 hsl hx hy hb g1 g2 g3 g4 g5 g6 g7 g8
        try simp only [Act.put, List.setIfInBounds_toArray, List.set_cons_zero, List.set_cons_succ]
        refine wpList_grow rfl (.tmp 84) (.tmp 96) 67 rfl B 2 i0 (.int .i64 0) 1 8 Try.underlying67 hi hz0 hz1 hz2 rfl (by decide) _ _ _ rfl HPS.out _ 1 1 [.int .i64 (wrap64 (x + y))] rfl (by simp) rfl HCD.out ?c2 ?c3 ?c4 HBS.out ?_
        case c2 => intro u hu; simp at hu; subst hu; rfl
        case c3 => unfold maxLen; omega
        case c4 => omega
        intro A2 c2 w2 _ hown hgrow
        have HP2 : Hid (RPile B A2 c2 (wrap64 (x + y) :: r) w2) := Lib.hid (rpile_push hown)
        have HX2 : Hid (Ext w w2) := Lib.hid (ext_grownR HXS.out hgrow HPS.out (by rw [HB.out]; exact Nat.le_refl _))
        clear hown hgrow HPS HXS HX1 HB1 y0 y1 y2 gl
        go_wp2_with fail
        go_roundw
        case rel => exact ⟨k + 1, c2, A2, wrap64 (x + y) :: r, by omega, by go_num, rfl, by simp; omega, HE2, HP2, HX2⟩
        case measure => simp [intOf]; omega
    have e3 : (kd == 3) = false := beq_eq_false_iff_ne.2 h3
    by_cases h4 : kd = 4
    · subst h4
      rcases st with _ | ⟨y, _ | ⟨x, r⟩⟩
      · have HST : Hid (stepN vars (4, nn, vv) [] = none) := Lib.hid rfl
        have HR := Lib.hid (HF.out HST.out)
        clear HF HN HST HP1 HB1
        go_wp2_with fail
        go_ret2
        exact ⟨ret_pair HR.out, HX1.out⟩
      · have HST : Hid (stepN vars (4, nn, vv) [y] = none) := Lib.hid rfl
        have HR := Lib.hid (HF.out HST.out)
        clear HF HN HST HP1 HB1
        go_wp2_with fail
        go_ret2
        exact ⟨ret_pair HR.out, HX1.out⟩
      · have HST : Hid (stepN vars (4, nn, vv) (y :: x :: r) = some (wrap64 (x - y) :: r)) := Lib.hid rfl
        obtain ⟨b, rfl, hb, hc1, hy, HP3⟩ := rpile_top (y := 0) HP1.out
        obtain ⟨b', eb, _, hc2, hx, HP4⟩ := rpile_top (y := 0) HP3
        injection eb with eb
        injection eb with eb
        subst eb
        have hlow : B ≤ b := (HP1.out.lt b rfl).1
        have HE2 : Hid (evalN vars (l.take (k + 1)) [] = some (wrap64 (x - y) :: r)) := Lib.hid (HN.out.trans HST.out)
        have hst2 : r.length + 2 ≤ k := by simpa using hst
        have hy : W.cell? ⟨b, r.length + 1, none⟩ = some (.int .i64 y) := by simpa using hy
        have hcc : r.length + 2 ≤ c' := by simpa using hc1
        have HPR := Lib.hid HP4
        have g1 : decide (((r.length + 2 : Nat) : Int) ≥ 2) = true := decide_eq_true (by omega)
        have g2 : IntKind.wrap .i64 (((r.length + 2 : Nat) : Int) - 2) = (r.length : Int) := by rw [IntKind.wrap_i64]; omega
        have g3 : IntKind.wrap .i64 (((r.length + 2 : Nat) : Int) - 1) = ((r.length + 1 : Nat) : Int) := by rw [IntKind.wrap_i64]; omega
        have g4 : (r.length : Int) < (r.length : Int) + 2 := by omega
        have g5 : (0 : Int) ≤ (r.length : Int) + 1 := by omega
        have g6 : IntKind.wrap .i64 (r.length : Int) = (r.length : Int) := by rw [IntKind.wrap_i64]; omega
        have g7 : IntKind.wrap .i64 ((r.length : Int) + 2 - 1) = (r.length : Int) + 1 := by rw [IntKind.wrap_i64]; omega
        have g8 : (2 : Int) ≤ (r.length : Int) + 2 := by omega
        have HSL : Hid (∀ W, (Instr.slice 67 (.slice (some ⟨b, 0, none⟩) (r.length + 2) c') none (some (.int .i64 (r.length : Int))) none).run Try.prog W = .ok (.slice (some ⟨b, 0, none⟩) r.length c') W) := Lib.hid fun W => cut_nums W _ _ _ _ (by omega) hcc
        clear HN HF HST HP1 HP3 HP4 hc1 hc2
        rw [show (y :: x :: r).length = r.length + 2 from rfl] at *
        go_upto_region 17 with fail
        have hsl := HSL.out
        apply wp_region_ext_tail 16 (by kernel_rfl) (by kernel_rfl) (by kernel_rfl)
        dsimp only [List.take_succ_cons, List.take_zero, List.drop_succ_cons, List.drop_zero]
        apply step_det (.slice (some ⟨b, 0, none⟩) (r.length + 2) c') rfl rfl rfl
        · intro w' hw' hH
          clear hH
          simp [YieldsF, go_sem]
          exact Ext.refl _
        apply step_det (.int .i64 ((r.length + 2 : Nat) : Int)) rfl rfl rfl
        · intro w' hw' hH
          clear hH
          simp [YieldsF, go_sem]
          exact Ext.refl _
        apply step_det (.int .i64 (r.length : Int)) rfl rfl rfl
        · intro w' hw' hH
          clear hH
          simp [YieldsF, go_sem, g6]
          exact Ext.refl _
        apply step_det (.slice (some ⟨b, 0, none⟩) r.length c') rfl rfl rfl
        · intro w' hw' hH
          clear hH
          simp [YieldsF, go_sem, hsl]
          exact Ext.refl _
        apply step_det (.slice (some ⟨b, 0, none⟩) (r.length + 2) c') rfl rfl rfl
        · intro w' hw' hH
          clear hH
          simp [YieldsF, go_sem]
          exact Ext.refl _
        apply step_det (.int .i64 ((r.length + 2 : Nat) : Int)) rfl rfl rfl
        · intro w' hw' hH
          clear hH
          simp [YieldsF, go_sem]
          exact Ext.refl _
        apply step_det (.int .i64 (r.length : Int)) rfl rfl rfl
        · intro w' hw' hH
          clear hH
          simp [YieldsF, go_sem, g6]
          exact Ext.refl _
        apply step_det (.pointer (some ⟨b, r.length, none⟩)) rfl rfl rfl
        · intro w' hw' hH
          clear hH
          simp [YieldsF, go_sem, g4]
          exact Ext.refl _
        apply step_det (.int .i64 x) rfl rfl rfl
        · intro w' hw' hH
          clear hH
          have cc := (hw'.cell (p := ⟨b, r.length, none⟩) hb).trans hx
          simp [YieldsF, go_sem, cc]
          exact Ext.refl _
        apply step_det (.slice (some ⟨b, 0, none⟩) (r.length + 2) c') rfl rfl rfl
        · intro w' hw' hH
          clear hH
          simp [YieldsF, go_sem]
          exact Ext.refl _
        apply step_det (.int .i64 ((r.length + 2 : Nat) : Int)) rfl rfl rfl
        · intro w' hw' hH
          clear hH
          simp [YieldsF, go_sem]
          exact Ext.refl _
        apply step_det (.int .i64 ((r.length + 1 : Nat) : Int)) rfl rfl rfl
        · intro w' hw' hH
          clear hH
          simp [YieldsF, go_sem, g7]
          exact Ext.refl _
        apply step_det (.pointer (some ⟨b, r.length + 1, none⟩)) rfl rfl rfl
        · intro w' hw' hH
          clear hH
          simp [YieldsF, go_sem, g5]
          exact Ext.refl _
        apply step_det (.int .i64 y) rfl rfl rfl
        · intro w' hw' hH
          clear hH
          have cc := (hw'.cell (p := ⟨b, r.length + 1, none⟩) hb).trans hy
          simp [YieldsF, go_sem, cc]
          exact Ext.refl _
        apply step_det (.int .i64 (wrap64 (x - y))) rfl rfl rfl
        · intro w' hw' hH
          clear hH
          simp [YieldsF, go_sem]
          first | exact Ext.refl _ | exact ⟨wrapR _, Ext.refl _⟩
        apply step_fact (LitF 2 1 #[.int .i64 (wrap64 (x - y))]) (fun v w w' h hx => by obtain ⟨g, a, b⟩ := h; exact ⟨g, a, b.ext hx⟩) rfl rfl rfl
        · intro w' hw' hH
          clear hH
          simp [YieldsF, go_sem]
          exact ⟨⟨_, rfl, Blk.new w' _ _⟩, Ext.alloc _ _⟩
        intro vd
        apply WalkF_nil
        intro w1 hw1 hH
        obtain ⟨gd, rfl, hbd⟩ := hH _ (List.mem_cons_self ..)
        clear hH
        have HPS : Hid (RPile B (some ⟨b, 0, none⟩) c' r w1) := Lib.hid (own_ext HPR.out hw1)
        have HXS := Lib.hid (HX1.out.trans hw1)
        have HBS : Hid (B ≤ w1.heap.size) := Lib.hid (Nat.le_trans HBX.out hw1.size)
        have HCD := Lib.hid (blk_cellsR hbd)
        clear hbd hw1 hsl hx hy hb g1 g2 g3 g4 g5 g6 g7 g8
        try simp only [Act.put, List.setIfInBounds_toArray, List.set_cons_zero, List.set_cons_succ]
        refine wpList_grow rfl (.tmp 109) (.tmp 121) 67 rfl B 2 i0 (.int .i64 0) 1 8 Try.underlying67 hi hz0 hz1 hz2 rfl (by decide) _ _ _ rfl HPS.out _ 1 1 [.int .i64 (wrap64 (x - y))] rfl (by simp) rfl HCD.out ?c2 ?c3 ?c4 HBS.out ?_
        case c2 => intro u hu; simp at hu; subst hu; rfl
        case c3 => unfold maxLen; omega
        case c4 => omega
        intro A2 c2 w2 _ hown hgrow
        have HP2 : Hid (RPile B A2 c2 (wrap64 (x - y) :: r) w2) := Lib.hid (rpile_push hown)
        have HX2 : Hid (Ext w w2) := Lib.hid (ext_grownR HXS.out hgrow HPS.out (by rw [HB.out]; exact Nat.le_refl _))
        clear hown hgrow HPS HXS HX1 HB1 y0 y1 y2 gl
        go_wp2_with fail
        go_roundw
        case rel => exact ⟨k + 1, c2, A2, wrap64 (x - y) :: r, by omega, by go_num, rfl, by simp; omega, HE2, HP2, HX2⟩
        case measure => simp [intOf]; omega
    have e4 : (kd == 4) = false := beq_eq_false_iff_ne.2 h4
    by_cases h5 : kd = 5
    · subst h5
      rcases st with _ | ⟨y, _ | ⟨x, r⟩⟩
      · have HST : Hid (stepN vars (5, nn, vv) [] = none) := Lib.hid rfl
        have HR := Lib.hid (HF.out HST.out)
        clear HF HN HST HP1 HB1
        go_wp2_with fail
        go_ret2
        exact ⟨ret_pair HR.out, HX1.out⟩
      · have HST : Hid (stepN vars (5, nn, vv) [y] = none) := Lib.hid rfl
        have HR := Lib.hid (HF.out HST.out)
        clear HF HN HST HP1 HB1
        go_wp2_with fail
        go_ret2
        exact ⟨ret_pair HR.out, HX1.out⟩
      · have HST : Hid (stepN vars (5, nn, vv) (y :: x :: r) = some (wrap64 (x * y) :: r)) := Lib.hid rfl
        obtain ⟨b, rfl, hb, hc1, hy, HP3⟩ := rpile_top (y := 0) HP1.out
        obtain ⟨b', eb, _, hc2, hx, HP4⟩ := rpile_top (y := 0) HP3
        injection eb with eb
        injection eb with eb
        subst eb
        have hlow : B ≤ b := (HP1.out.lt b rfl).1
        have HE2 : Hid (evalN vars (l.take (k + 1)) [] = some (wrap64 (x * y) :: r)) := Lib.hid (HN.out.trans HST.out)
        have hst2 : r.length + 2 ≤ k := by simpa using hst
        have hy : W.cell? ⟨b, r.length + 1, none⟩ = some (.int .i64 y) := by simpa using hy
        have hcc : r.length + 2 ≤ c' := by simpa using hc1
        have HPR := Lib.hid HP4
        have g1 : decide (((r.length + 2 : Nat) : Int) ≥ 2) = true := decide_eq_true (by omega)
        have g2 : IntKind.wrap .i64 (((r.length + 2 : Nat) : Int) - 2) = (r.length : Int) := by rw [IntKind.wrap_i64]; omega
        have g3 : IntKind.wrap .i64 (((r.length + 2 : Nat) : Int) - 1) = ((r.length + 1 : Nat) : Int) := by rw [IntKind.wrap_i64]; omega
        have g4 : (r.length : Int) < (r.length : Int) + 2 := by omega
        have g5 : (0 : Int) ≤ (r.length : Int) + 1 := by omega
        have g6 : IntKind.wrap .i64 (r.length : Int) = (r.length : Int) := by rw [IntKind.wrap_i64]; omega
        have g7 : IntKind.wrap .i64 ((r.length : Int) + 2 - 1) = (r.length : Int) + 1 := by rw [IntKind.wrap_i64]; omega
        have g8 : (2 : Int) ≤ (r.length : Int) + 2 := by omega
        have HSL : Hid (∀ W, (Instr.slice 67 (.slice (some ⟨b, 0, none⟩) (r.length + 2) c') none (some (.int .i64 (r.length : Int))) none).run Try.prog W = .ok (.slice (some ⟨b, 0, none⟩) r.length c') W) := Lib.hid fun W => cut_nums W _ _ _ _ (by omega) hcc
        clear HN HF HST HP1 HP3 HP4 hc1 hc2
        rw [show (y :: x :: r).length = r.length + 2 from rfl] at *
        go_upto_region 19 with fail
        have hsl := HSL.out
        apply wp_region_ext_tail 16 (by kernel_rfl) (by kernel_rfl) (by kernel_rfl)
        dsimp only [List.take_succ_cons, List.take_zero, List.drop_succ_cons, List.drop_zero]
        apply step_det (.slice (some ⟨b, 0, none⟩) (r.length + 2) c') rfl rfl rfl
        · intro w' hw' hH
          clear hH
          simp [YieldsF, go_sem]
          exact Ext.refl _
        apply step_det (.int .i64 ((r.length + 2 : Nat) : Int)) rfl rfl rfl
        · intro w' hw' hH
          clear hH
          simp [YieldsF, go_sem]
          exact Ext.refl _
        apply step_det (.int .i64 (r.length : Int)) rfl rfl rfl
        · intro w' hw' hH
          clear hH
          simp [YieldsF, go_sem, g6]
          exact Ext.refl _
        apply step_det (.slice (some ⟨b, 0, none⟩) r.length c') rfl rfl rfl
        · intro w' hw' hH
          clear hH
          simp [YieldsF, go_sem, hsl]
          exact Ext.refl _
        apply step_det (.slice (some ⟨b, 0, none⟩) (r.length + 2) c') rfl rfl rfl
        · intro w' hw' hH
          clear hH
          simp [YieldsF, go_sem]
          exact Ext.refl _
        apply step_det (.int .i64 ((r.length + 2 : Nat) : Int)) rfl rfl rfl
        · intro w' hw' hH
          clear hH
          simp [YieldsF, go_sem]
          exact Ext.refl _
        apply step_det (.int .i64 (r.length : Int)) rfl rfl rfl
        · intro w' hw' hH
          clear hH
          simp [YieldsF, go_sem, g6]
          exact Ext.refl _
        apply step_det (.pointer (some ⟨b, r.length, none⟩)) rfl rfl rfl
        · intro w' hw' hH
          clear hH
          simp [YieldsF, go_sem, g4]
          exact Ext.refl _
        apply step_det (.int .i64 x) rfl rfl rfl
        · intro w' hw' hH
          clear hH
          have cc := (hw'.cell (p := ⟨b, r.length, none⟩) hb).trans hx
          simp [YieldsF, go_sem, cc]
          exact Ext.refl _
        apply step_det (.slice (some ⟨b, 0, none⟩) (r.length + 2) c') rfl rfl rfl
        · intro w' hw' hH
          clear hH
          simp [YieldsF, go_sem]
          exact Ext.refl _
        apply step_det (.int .i64 ((r.length + 2 : Nat) : Int)) rfl rfl rfl
        · intro w' hw' hH
          clear hH
          simp [YieldsF, go_sem]
          exact Ext.refl _
        apply step_det (.int .i64 ((r.length + 1 : Nat) : Int)) rfl rfl rfl
        · intro w' hw' hH
          clear hH
          simp [YieldsF, go_sem, g7]
          exact Ext.refl _
        apply step_det (.pointer (some ⟨b, r.length + 1, none⟩)) rfl rfl rfl
        · intro w' hw' hH
          clear hH
          simp [YieldsF, go_sem, g5]
          exact Ext.refl _
        apply step_det (.int .i64 y) rfl rfl rfl
        · intro w' hw' hH
          clear hH
          have cc := (hw'.cell (p := ⟨b, r.length + 1, none⟩) hb).trans hy
          simp [YieldsF, go_sem, cc]
          exact Ext.refl _
        apply step_det (.int .i64 (wrap64 (x * y))) rfl rfl rfl
        · intro w' hw' hH
          clear hH
          simp [YieldsF, go_sem]
          first | exact Ext.refl _ | exact ⟨wrapR _, Ext.refl _⟩
        apply step_fact (LitF 2 1 #[.int .i64 (wrap64 (x * y))]) (fun v w w' h hx => by obtain ⟨g, a, b⟩ := h; exact ⟨g, a, b.ext hx⟩) rfl rfl rfl
        · intro w' hw' hH
          clear hH
          simp [YieldsF, go_sem]
          exact ⟨⟨_, rfl, Blk.new w' _ _⟩, Ext.alloc _ _⟩
        intro vd
        apply WalkF_nil
        intro w1 hw1 hH
        obtain ⟨gd, rfl, hbd⟩ := hH _ (List.mem_cons_self ..)
        clear hH
        have HPS : Hid (RPile B (some ⟨b, 0, none⟩) c' r w1) := Lib.hid (own_ext HPR.out hw1)
        have HXS := Lib.hid (HX1.out.trans hw1)
        have HBS : Hid (B ≤ w1.heap.size) := Lib.hid (Nat.le_trans HBX.out hw1.size)
        have HCD := Lib.hid (blk_cellsR hbd)
        clear hbd hw1 hsl hx hy hb g1 g2 g3 g4 g5 g6 g7 g8
        try simp only [Act.put, List.setIfInBounds_toArray, List.set_cons_zero, List.set_cons_succ]
        refine wpList_grow rfl (.tmp 134) (.tmp 146) 67 rfl B 2 i0 (.int .i64 0) 1 8 Try.underlying67 hi hz0 hz1 hz2 rfl (by decide) _ _ _ rfl HPS.out _ 1 1 [.int .i64 (wrap64 (x * y))] rfl (by simp) rfl HCD.out ?c2 ?c3 ?c4 HBS.out ?_
        case c2 => intro u hu; simp at hu; subst hu; rfl
        case c3 => unfold maxLen; omega
        case c4 => omega
        intro A2 c2 w2 _ hown hgrow
        have HP2 : Hid (RPile B A2 c2 (wrap64 (x * y) :: r) w2) := Lib.hid (rpile_push hown)
        have HX2 : Hid (Ext w w2) := Lib.hid (ext_grownR HXS.out hgrow HPS.out (by rw [HB.out]; exact Nat.le_refl _))
        clear hown hgrow HPS HXS HX1 HB1 y0 y1 y2 gl
        go_wp2_with fail
        go_roundw
        case rel => exact ⟨k + 1, c2, A2, wrap64 (x * y) :: r, by omega, by go_num, rfl, by simp; omega, HE2, HP2, HX2⟩
        case measure => simp [intOf]; omega
    have e5 : (kd == 5) = false := beq_eq_false_iff_ne.2 h5
    have HST : Hid (stepN vars (kd, nn, vv) st = none) := Lib.hid (stepN_no vars kd nn vv st h1 h2 (by omega) h6)
    have HR := Lib.hid (HF.out HST.out)
    clear HF HN HST HP1 HB1
    go_wp2_with fail
    go_ret2
    exact ⟨ret_pair HR.out, HX1.out⟩
end Go.Proofs.Ytngbpaiohfokbaa
