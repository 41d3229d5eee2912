/- code.good, walked: whether reckonings are right for so many variables. Condition: few terms and variables. -/
import Derived.Test.YtngbpaiohfokbaaCrC
namespace Go.Proofs.Ytngbpaiohfokbaa
open Go Go.RowKit
set_option linter.unusedVariables false
set_option linter.unusedSimpArgs false
def idxQ : Option Nat → Int
  | none => -1
  | some k => (k : Int)
theorem findQ_take {α : Type} (p : α → Bool) (l : List α) (k : Nat) (hk : k < l.length) (h : ∀ j (hj : j < l.length), j < k → p l[j] = false) (hp : p l[k] = true) : l.findIdx? p = some k := by
  rw [List.findIdx?_eq_some_iff_getElem]
  exact ⟨hk, hp, fun j hj => by rw [h j (by omega) hj]; decide⟩
theorem findQ_all {α : Type} (p : α → Bool) (l : List α) (h : ∀ j (hj : j < l.length), p l[j] = false) : l.findIdx? p = none := by
  rw [List.findIdx?_eq_none_iff]
  intro x hx
  obtain ⟨j, hj, rfl⟩ := List.getElem_of_mem hx
  exact h j hj
set_option maxRecDepth 100000 in
set_option maxHeartbeats 4000000 in
theorem goodC_any (A : Option Addr) (ts : List TermD) (n c v g zb : Nat) (w : World) (hn : n = ts.length) (hl : ts.length ≤ 900) (hv : v ≤ 900) (hok : ∀ t ∈ ts, t.ok) (hA : Cells w A (tcells ts)) (hg : Blk w g 67 #[.slice (some ⟨zb, 0, none⟩) v v]) (hz : Cells w (some ⟨zb, 0, none⟩) (ncells (List.replicate v 0))) (b : Bool) (hb : Hid ((!goodR v ts) = b)) :
    Calls Try.prog 59 #[.slice A n c, .pointer (some ⟨g, 0, none⟩)] w fun e w' => e = .returned (.bool b) ∧ Ext w w' := by
  subst hn
  have y0 : w.cell? ⟨g, 0, none⟩ = some (.slice (some ⟨zb, 0, none⟩) v v) := hg.cell 0
  have hlen : (List.replicate v (0 : Int)).length = v := by simp
  have HE := Lib.hid (eval_any A (some ⟨zb, 0, none⟩) ts (List.replicate v 0) c v w hl (by rw [hlen]; exact hv) hA hz hok (fun x hx => by have := (List.mem_replicate.1 hx).2; subst this; exact ⟨by decide, by decide⟩))
  rw [hlen] at HE
  have HG : Hid ((!(evalR (List.replicate v 0) ts).2) = b) := hb
  clear hlen hA hz hg hb hok
  go_enter Try.func59, Try.ntmps59
  go_wp2_with fail
  refine HE.out.mono ?_
  rintro e w2 ⟨rfl, hx2⟩
  have HX2 := Lib.hid hx2
  generalize (evalR (List.replicate v 0) ts).1 = z at *
  generalize (evalR (List.replicate v 0) ts).2 = t at *
  clear hx2 y0 HE
  go_wp2_with fail
  go_ret
  exact ⟨by rw [← HG.out]; rfl, HX2.out⟩
set_option maxRecDepth 100000 in
set_option maxHeartbeats 8000000 in
theorem goodI_any (w : World) (g zb v : Nat) (A : Option Addr) (vp : List (HeadD × List TermD)) (c : Nat) (hlen : vp.length ≤ 900) (hv : v ≤ 900) (hc : Cells w A (pcells vp)) (he : ∀ p ∈ vp, Shows w p.1 p.2) (hf : ∀ p ∈ vp, p.2.length ≤ 900) (hok : ∀ p ∈ vp, ∀ t ∈ p.2, t.ok) (hg : Blk w g 67 #[.slice (some ⟨zb, 0, none⟩) v v]) (hz : Cells w (some ⟨zb, 0, none⟩) (ncells (List.replicate v 0))) :
    Calls Try.prog 61 #[.slice A vp.length c, .func (.func 59) #[] #[.pointer (some ⟨g, 0, none⟩)]] w fun e w' => e = .returned (.int .i64 (idxQ (vp.findIdx? fun p => !goodR v p.2))) ∧ Ext w w' := by
  have HC := Lib.hid hc
  have HG := Lib.hid hg
  have HZ := Lib.hid hz
  have HS := Lib.hid he
  have HF := Lib.hid hf
  have HOK := Lib.hid hok
  have HE : Hid (∀ args w, (callFunc 59 args).run Try.prog w = .ok (.enter 59 args) w) := Lib.hid (enters_of Try.func59 (by kernel_rfl) rfl)
  clear hc hg hz he hf hok
  go_enter Try.func61, Try.ntmps61
  go_wp2_with fail
  go_loopw [8] (fun i wr => ∃ k : Nat, k ≤ vp.length ∧ i = .int .i64 k ∧ Hid (Ext w wr) ∧ Hid (∀ j (hj : j < vp.length), j < k → (!goodR v vp[j].2) = false)) (fun i _ => vp.length - (intOf i).toNat)
  case atStart => exact ⟨0, Nat.zero_le _, rfl, Lib.hid (Ext.refl _), Lib.hid fun j hj h => by omega⟩
  case round =>
    obtain ⟨k, hk, rfl, HX, HQ⟩ := hrel
    obtain ⟨wa, rfl⟩ : ∃ wa : World, wa = wr := ⟨_, rfl⟩
    by_cases hlt : k < vp.length
    · have d0 : decide ((k : Int) < (vp.length : Int)) = true := decide_eq_true (by omega)
      have q1 : (k : Int) < (vp.length : Int) := by omega
      obtain ⟨b, off, rfl, hb, hcc⟩ := (HC.out.ext HX.out).at_ (by rw [pcells_len]; omega)
      have v0 := (hcc k (by rw [pcells_len]; omega)).trans (pcells_at vp k hlt)
      have hsh := HS.out _ (List.getElem_mem hlt)
      have hfl := HF.out _ (List.getElem_mem hlt)
      have hok := HOK.out _ (List.getElem_mem hlt)
      obtain ⟨t, ht⟩ : ∃ t, (!goodR v vp[k].2) = t := ⟨_, rfl⟩
      have HTT := Lib.hid ht
      have HFY : Hid (t = true → vp.findIdx? (fun p => !goodR v p.2) = some k) := Lib.hid fun h => findQ_take _ vp k hlt HQ.out (by rw [ht]; exact h)
      have HFN : Hid (t = false → ∀ j (hj : j < vp.length), j < k + 1 → (!goodR v vp[j].2) = false) := Lib.hid fun h j hj hjk => by
        by_cases e : j = k
        · subst e; rw [ht]; exact h
        · exact HQ.out j hj (by omega)
      clear hcc ht
      generalize vp[k] = pv at *
      obtain ⟨⟨pa, pn, pc⟩, ts⟩ := pv
      obtain ⟨r1, r2, r3⟩ := hsh
      simp only [hd] at r1 r3 v0 hfl hok
      have HTT : Hid ((!goodR v ts) = t) := HTT
      subst r1
      have HR3 := Lib.hid r3
      have HKK := Lib.hid hok
      have HFL := Lib.hid hfl
      clear r2 r3 hok hfl
      have he := HE.out
      go_wp2_with fail
      refine (goodC_any pa ts ts.length pc v g zb wa rfl HFL.out hv HKK.out (HR3.out.ext HX.out) (HG.out.ext HX.out) (HZ.out.ext HX.out) t HTT).mono ?_
      rintro e w2 ⟨rfl, hx2⟩
      have HX2 := Lib.hid (HX.out.trans hx2)
      clear hx2 v0 he
      cases t with
      | true =>
        go_wp2_with fail
        go_ret
        rw [HFY.out (by first | rfl | trivial)]
        exact ⟨rfl, HX2.out⟩
      | false =>
        have HQ2 := Lib.hid (HFN.out (by first | rfl | trivial))
        go_wp2_with fail
        go_roundw
        case rel => exact ⟨k + 1, by omega, by go_num, HX2, HQ2⟩
        case measure => simp [intOf]; omega
    · obtain rfl : k = vp.length := by omega
      have d0 : decide ((vp.length : Int) < (vp.length : Int)) = false := by simp
      have d1 : decide (vp.length < vp.length) = false := by simp
      have HN : Hid (vp.findIdx? (fun p => !goodR v p.2) = none) := Lib.hid (findQ_all _ vp fun j hj => HQ.out j hj hj)
      go_wp2_with fail
      go_ret
      rw [HN.out]
      exact ⟨rfl, HX.out⟩
theorem idx_any {α : Type} (p : α → Bool) (l : List α) : decide (0 ≤ idxQ (l.findIdx? fun x => !p x)) = !(l.all p) := by
  cases h : l.findIdx? fun x => !p x with
  | none =>
    rw [List.findIdx?_eq_none_iff] at h
    have : l.all p = true := List.all_eq_true.2 fun x hx => by simpa using h x hx
    rw [this]; rfl
  | some k =>
    rw [List.findIdx?_eq_some_iff_getElem] at h
    obtain ⟨hk, hp, _⟩ := h
    have : l.all p = false := all_no p l k hk (by simpa using hp)
    rw [this, decide_eq_true (by show (0 : Int) ≤ (k : Int); omega)]; rfl
set_option maxRecDepth 100000 in
set_option maxHeartbeats 8000000 in
theorem good_any (w : World) (v : Nat) (A : Option Addr) (vp : List (HeadD × List TermD)) (n c : Nat) (hn : n = vp.length) (hlen : vp.length ≤ 900) (hv : v ≤ 900) (hc : Cells w A (pcells vp)) (he : ∀ p ∈ vp, Shows w p.1 p.2) (hf : ∀ p ∈ vp, p.2.length ≤ 900) (hok : ∀ p ∈ vp, ∀ t ∈ p.2, t.ok) (b : Bool) (hb : Hid (allGood v vp = b)) :
    Calls Try.prog 52 #[.int .i64 (v : Int), .slice A n c] w fun e w' => e = .returned (.bool b) ∧ Ext w w' := by
  subst hn
  have hmk := run_make_row' (P := Try.prog) 67 2 (.int .i64 0) 8 Try.underlying67 infoI64r rfl .i64 .i64 v (by omega) (by omega)
  obtain ⟨W2, HW2⟩ : ∃ W2, Hid ((w.alloc (.cells (madeCells #[.int .i64 0] v) 2)).alloc (.cells #[.slice (some ⟨w.heap.size, 0, none⟩) v v] 67) = W2) := ⟨_, Lib.hid rfl⟩
  have HX : Hid (Ext w W2) := Lib.hid (by rw [← HW2.out]; exact (Ext.alloc _ _).trans (Ext.alloc _ _))
  have HG : Hid (Blk W2 (w.heap.size + 1) 67 #[.slice (some ⟨w.heap.size, 0, none⟩) v v]) := Lib.hid (by
    rw [← HW2.out]
    have := Blk.new (w.alloc (.cells (madeCells #[.int .i64 0] v) 2)) 67 #[.slice (some ⟨w.heap.size, 0, none⟩) v v]
    rwa [World.size_alloc] at this)
  have HZ : Hid (Cells W2 (some ⟨w.heap.size, 0, none⟩) (ncells (List.replicate v 0))) := Lib.hid (by rw [← HW2.out]; exact (made_cells w v).ext (Ext.alloc _ _))
  have HI := Lib.hid (goodI_any W2 (w.heap.size + 1) w.heap.size v A vp c hlen hv (hc.ext HX.out) (fun p hp => (he p hp).ext HX.out) hf hok HG.out HZ.out)
  have HV : Hid (decide (0 ≤ idxQ (vp.findIdx? fun p => !goodR v p.2)) = !b) := Lib.hid (by rw [idx_any (fun p : HeadD × List TermD => goodR v p.2)]; rw [← hb.out]; rfl)
  clear hc he hf hok hb
  go_enter Try.func52, Try.ntmps52
  go_upto_region 2 with fail
  rw [HW2.out]
  clear hmk
  go_wp2_with fail
  refine Calls.mono (P := Try.prog) (R := fun e w' => e = .returned (.bool (!b)) ∧ Ext W2 w') ?_ ?_
  · go_enter Try.func58, Try.ntmps58
    go_wp2_with fail
    refine HI.out.mono ?_
    rintro e w3 ⟨rfl, hx3⟩
    have HX3 := Lib.hid hx3
    have hv := HV.out
    clear hx3
    generalize idxQ _ = z at *
    have hv' : decide (z ≥ 0) = !b := hv
    go_wp2_with fail
    go_ret
    exact ⟨by first | rfl | rw [hv] | rw [← hv], HX3.out⟩
  · rintro e w3 ⟨rfl, hx3⟩
    have HX3 := Lib.hid (HX.out.trans hx3)
    clear hx3
    go_wp2_with fail
    go_ret
    exact ⟨by simp, HX3.out⟩
end Go.Proofs.Ytngbpaiohfokbaa
