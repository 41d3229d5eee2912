/- interlockref08.Good, vals, walked. Condition: few terms and variables. -/
import Derived.Test.YtngbpaiohfokbaaCrB
import Derived.Test.YtngbpaiohfokbaaFull
namespace Go.Proofs.Ytngbpaiohfokbaa
open Go Go.RowKit
set_option linter.unusedVariables false
set_option linter.unusedSimpArgs false
/-- Is a reckoning right for so many variables? -/
def goodR (v : Nat) (ts : List TermD) : Bool := (evalR (List.replicate v 0) ts).2
theorem ncells_made (n : Nat) : madeCells #[.int .i64 0] n = (ncells (List.replicate n 0)).toArray := by
  apply Array.toList_inj.1
  rw [toList_madeCells_one]
  simp [ncells]
theorem made_cells (w : World) (n : Nat) : Cells (w.alloc (.cells (madeCells #[.int .i64 0] n) 2)) (some ⟨w.heap.size, 0, none⟩) (ncells (List.replicate n 0)) := by
  have h := blk_cellsR (Blk.new w 2 (madeCells #[.int .i64 0] n))
  rw [ncells_made] at h ⊢
  simpa using h
theorem infoI64r : (Try.prog.info? 2).map (fun i => (i.zero, i.size, i.bytes)) = some (some (.int .i64 0), 1, 8) := by kernel_rfl
set_option maxRecDepth 100000 in
set_option maxHeartbeats 8000000 in
theorem rgood_any (A : Option Addr) (ts : List TermD) (n c v : Nat) (w : World) (hn : n = ts.length) (hl : ts.length ≤ 900) (hv : v ≤ 900) (hA : Cells w A (tcells ts)) (b : Bool) (hb : Hid (goodR v ts = b)) :
    Calls Try.prog 55 #[.slice A n c, .int .i64 (v : Int)] w fun e w' => e = .returned (.bool b) ∧ Ext w w' := by
  subst hn
  have HA := Lib.hid hA
  clear hA
  have hmk := run_make_row' (P := Try.prog) 67 2 (.int .i64 0) 8 Try.underlying67 infoI64r rfl .i64 .i64 v (by omega) (by omega)
  have HX : Hid (Ext w (w.alloc (.cells (madeCells #[.int .i64 0] v) 2))) := Lib.hid (Ext.alloc _ _)
  have HC : Hid (Cells (w.alloc (.cells (madeCells #[.int .i64 0] v) 2)) (some ⟨w.heap.size, 0, none⟩) (ncells (List.replicate v 0))) := Lib.hid (made_cells w v)
  go_enter Try.func55, Try.ntmps55
  go_wp2_with fail
  refine (reval_any A _ ts (List.replicate v 0) ts.length v c v _ rfl (by simp) hl (by simpa using hv) (HA.out.ext HX.out) HC.out).mono ?_
  rintro e w2 ⟨rfl, hx2⟩
  have HX2 := Lib.hid (HX.out.trans hx2)
  have HG : Hid ((evalR (List.replicate v 0) ts).2 = b) := hb
  rw [HG.out]
  generalize (evalR (List.replicate v 0) ts).1 = z at *
  clear hx2 hmk
  go_wp2_with fail
  go_ret
  exact ⟨rfl, HX2.out⟩
def aggI (x : InstrD) : Value := .agg #[.int .u8 x.op, .int .i64 x.node, .int .u8 x.mode, .int .i64 x.table, .bool x.row, .int .i64 x.col, .int .i64 x.var, .int .i64 x.goes, .bool x.eq, .int .i64 x.frm, .int .i64 x.upto, .slice x.key.1 x.key.2.1 x.key.2.2, .slice x.vals.1 x.vals.2.1 x.vals.2.2]
/-- Few terms, few values. -/
def FullI.few (f : FullI) : Prop := f.kt.length ≤ 900 ∧ f.vp.length ≤ 900 ∧ ∀ p ∈ f.vp, p.2.length ≤ 900
def allGood (v : Nat) (vp : List (HeadD × List TermD)) : Bool := vp.all fun p => goodR v p.2
def valsB (want : Int) (v : Nat) (vp : List (HeadD × List TermD)) : Bool := ((vp.length : Int) == want) && allGood v vp
theorem all_no {α : Type} (p : α → Bool) (l : List α) (k : Nat) (hk : k < l.length) (h : p l[k] = false) : l.all p = false := by
  rw [List.all_eq_false]
  exact ⟨l[k], List.getElem_mem hk, by rw [h]; decide⟩
theorem all_yes {α : Type} (p : α → Bool) (l : List α) (h : ∀ k (hk : k < l.length), p l[k] = true) : l.all p = true := by
  rw [List.all_eq_true]
  intro x hx
  obtain ⟨k, hk, rfl⟩ := List.getElem_of_mem hx
  exact h k hk
set_option maxRecDepth 100000 in
set_option maxHeartbeats 8000000 in
theorem rvals_any (f : FullI) (want : Int) (v : Nat) (w : World) (hf : f.few) (hv : v ≤ 900) (hat : f.At w) (b : Bool) (hb : Hid (valsB want v f.vp = b)) :
    Calls Try.prog 56 #[aggI f.x, .int .i64 want, .int .i64 (v : Int)] w fun e w' => e = .returned (.bool b) ∧ Ext w w' := by
  obtain ⟨⟨op, node, mode, table, row, col, var, goes, eq, frm, upto, ⟨ka, kl, kc⟩, ⟨va, vl, vc⟩⟩, kt, vp⟩ := f
  obtain ⟨_, hvn, hvz, hvals, heach⟩ := hat
  obtain ⟨_, hf2, hf3⟩ := hf
  simp only at hvn hvals heach hf2 hf3 hb
  subst hvn
  have HV := Lib.hid hvals
  have HE := Lib.hid heach
  have HF := Lib.hid hf3
  have HL := Lib.hid hf2
  clear hvals heach hf3 hvz
  have HX1 : Hid (Ext w (w.alloc (.cells #[.int .u8 op, .int .i64 node, .int .u8 mode, .int .i64 table, .bool row, .int .i64 col, .int .i64 var, .int .i64 goes, .bool eq, .int .i64 frm, .int .i64 upto, .slice ka kl kc, .slice va vp.length vc] 54))) := Lib.hid (Ext.alloc _ _)
  have HB1 : Hid (Blk (w.alloc (.cells #[.int .u8 op, .int .i64 node, .int .u8 mode, .int .i64 table, .bool row, .int .i64 col, .int .i64 var, .int .i64 goes, .bool eq, .int .i64 frm, .int .i64 upto, .slice ka kl kc, .slice va vp.length vc] 54)) w.heap.size 54 #[.int .u8 op, .int .i64 node, .int .u8 mode, .int .i64 table, .bool row, .int .i64 col, .int .i64 var, .int .i64 goes, .bool eq, .int .i64 frm, .int .i64 upto, .slice ka kl kc, .slice va vp.length vc]) := Lib.hid (Blk.new _ _ _)
  unfold aggI
  go_enter Try.func56, Try.ntmps56
  go_upto_region 1 with fail
  generalize w.heap.size = g at *
  generalize w.alloc (.cells #[.int .u8 op, .int .i64 node, .int .u8 mode, .int .i64 table, .bool row, .int .i64 col, .int .i64 var, .int .i64 goes, .bool eq, .int .i64 frm, .int .i64 upto, .slice ka kl kc, .slice va vp.length vc] 54) = w1 at *
  have y12 : w1.cell? ⟨g, 12, none⟩ = some (.slice va vp.length vc) := HB1.out.cell 12
  by_cases hw : (vp.length : Int) = want
  rotate_left
  · have d0 : ((vp.length : Int) != want) = true := bne_iff_ne.2 hw
    have d1 : ((vp.length : Int) == want) = false := beq_eq_false_iff_ne.2 hw
    have HR : Hid (b = false) := Lib.hid (by rw [← hb.out]; unfold valsB; rw [d1]; rfl)
    go_wp2_with fail
    go_ret
    rw [HR.out]
    exact ⟨rfl, HX1.out⟩
  subst hw
  have HR : Hid (allGood v vp = b) := Lib.hid (by rw [← hb.out]; unfold valsB; simp)
  clear hb
  go_wp2_with fail
  go_loopw [7] (fun i wr => ∃ k : Nat, k ≤ vp.length ∧ i = .int .i64 k ∧ Hid (Ext w1 wr) ∧ Hid (∀ j (hj : j < vp.length), j < k → goodR v vp[j].2 = true)) (fun i _ => vp.length - (intOf i).toNat)
  case atStart => exact ⟨0, Nat.zero_le _, rfl, Lib.hid (Ext.refl _), Lib.hid fun j hj h => by omega⟩
  case round =>
    clear y12
    obtain ⟨k, hk, rfl, HX, HJ⟩ := hrel
    obtain ⟨wa, rfl⟩ : ∃ wa : World, wa = wr := ⟨_, rfl⟩
    have y12 : wa.cell? ⟨g, 12, none⟩ = some (.slice va vp.length vc) := (HB1.out.ext HX.out).cell 12
    by_cases hlt : k < vp.length
    · have d0 : decide ((k : Int) < (vp.length : Int)) = true := decide_eq_true (by omega)
      have d2 : decide (k < vp.length) = true := decide_eq_true hlt
      have q0 : (k : Int) < (vp.length : Int) := by omega
      have HXW := Lib.hid (HX1.out.trans HX.out)
      obtain ⟨b3, off3, rfl, hb3, hc3⟩ := (HV.out.ext HXW.out).at_ (by rw [pcells_len]; omega)
      have v0 := (hc3 k (by rw [pcells_len]; omega)).trans (pcells_at vp k hlt)
      have hsh := HE.out _ (List.getElem_mem hlt)
      have hbg := HF.out _ (List.getElem_mem hlt)
      obtain ⟨t, ht⟩ : ∃ t, goodR v vp[k].2 = t := ⟨_, rfl⟩
      have HT := Lib.hid ht
      have HNO : Hid (t = false → b = false) := Lib.hid fun h => by rw [← HR.out]; exact all_no _ vp k hlt (by rw [ht]; exact h)
      have HYS : Hid (t = true → ∀ j (hj : j < vp.length), j < k + 1 → goodR v vp[j].2 = true) := Lib.hid fun h j hj h1 => by
        by_cases e : j = k
        · subst e; rw [ht]; exact h
        · exact HJ.out j hj (by omega)
      clear hc3 ht
      generalize vp[k] = pv at *
      obtain ⟨⟨pa, pn, pc⟩, ts⟩ := pv
      obtain ⟨r1, r2, r3⟩ := hsh
      simp only [hd] at r1 r3 v0 hbg
      have HT : Hid (goodR v ts = t) := HT
      subst r1
      have HR3 := Lib.hid r3
      clear r2 r3
      go_wp2_with fail
      refine (rgood_any pa ts ts.length pc v wa rfl hbg hv (HR3.out.ext HXW.out) t HT).mono ?_
      rintro e w3 ⟨rfl, hx3⟩
      have HX3 := Lib.hid (HX.out.trans hx3)
      clear hx3 v0 y12
      cases t with
      | false =>
        have HBF := Lib.hid (HNO.out rfl)
        go_wp2_with fail
        go_ret
        rw [HBF.out]
        exact ⟨rfl, HX1.out.trans HX3.out⟩
      | true =>
        have HJ2 := Lib.hid (HYS.out rfl)
        go_wp2_with fail
        go_roundw
        case rel => exact ⟨k + 1, by omega, by go_num, HX3, HJ2⟩
        case measure => simp [intOf]; omega
    · obtain rfl : k = vp.length := by omega
      have d0 : decide ((vp.length : Int) < (vp.length : Int)) = false := by simp
      have d1 : decide (vp.length < vp.length) = false := by simp
      have HBT : Hid (b = true) := Lib.hid (by rw [← HR.out]; exact all_yes _ vp fun j hj => HJ.out j hj hj)
      go_wp2_with fail
      go_ret
      rw [HBT.out]
      exact ⟨rfl, HX1.out.trans HX.out⟩
end Go.Proofs.Ytngbpaiohfokbaa
