/- slices.ContainsFunc over nodes, with tree.Right's closure, walked. -/
import Derived.Test.YthofccoefiogiaaTFits4
namespace Go.Proofs.Ythofccoefiogiaa
open Go Go.RowKit
set_option linter.unusedVariables false
set_option linter.unusedSimpArgs false
/-- Bounds that the statements ask. -/
structure NodeFit (l : List NodeM) (x : NodeM) : Prop where
  text : x.text.size ≤ 1000
  kids : x.kids.length ≤ 1000
  range : InRange l x.kids
theorem tfits_v (l : List NodeM) (A : Option Addr) (n c : Nat) (x : NodeM) (w : World) (hn : n = l.length) (ht : TreeM w A l) (hlen : l.length ≤ 1000) (hf : NodeFit l x) (hxo : NodeOk w x) (b : Bool) (hb : fitsM l x = b) :
    Calls Try.prog 67 #[.agg #[.slice A n c], .agg (Array.mk x.cells)] w fun e w' => e = .returned (.bool b) ∧ Ext w w' := by
  subst hb
  exact tfits_any l A n c x w hn ht hlen hf.text hf.kids hxo hf.range
set_option maxRecDepth 100000 in
set_option maxHeartbeats 8000000 in
theorem right1_any (l : List NodeM) (A : Option Addr) (n c gt : Nat) (x : NodeM) (w : World) (hn : n = l.length) (ht : TreeM w A l) (hlen : l.length ≤ 1000) (hf : NodeFit l x) (hxo : NodeOk w x) (hg : Blk w gt 62 #[.slice A n c]) (b : Bool) (hb : (!fitsM l x) = b) :
    Calls Try.prog 66 #[.agg (Array.mk x.cells), .pointer (some ⟨gt, 0, none⟩)] w fun e w' => e = .returned (.bool b) ∧ Ext w w' := by
  subst hn
  obtain ⟨d, hd⟩ : ∃ d, fitsM l x = d := ⟨_, rfl⟩
  have HD := Lib.hid hd
  rw [hd] at hb
  have HB := Lib.hid hb
  have HT := Lib.hid ht
  have HXO := Lib.hid hxo
  have HF := Lib.hid hf
  have HG := Lib.hid hg
  clear hb hd ht hxo hf hg
  obtain ⟨kind, pos, text, num, kA, kc, kids⟩ := x
  have HXA : Hid (Ext w (w.alloc (.cells #[.int .u8 kind, .int .i64 pos, .string text, .int .i64 num, .slice kA kids.length kc] 73))) := Lib.hid (Ext.alloc _ _)
  have y0 := (HG.out.ext HXA.out).cell 0
  show Calls Try.prog 66 #[.agg #[.int .u8 kind, .int .i64 pos, .string text, .int .i64 num, .slice kA kids.length kc], .pointer (some ⟨gt, 0, none⟩)] w fun e w' => e = .returned (.bool b) ∧ Ext w w'
  go_enter Try.func66, Try.ntmps66
  go_wp2_with fail
  refine (tfits_v l A l.length c ⟨kind, pos, text, num, kA, kc, kids⟩ _ rfl (HT.out.ext HXA.out) hlen HF.out (HXO.out.ext HXA.out) d HD.out).mono ?_
  rintro e w2 ⟨rfl, hx2⟩
  have HX2 : Hid (Ext w w2) := Lib.hid (HXA.out.trans hx2)
  clear hx2 y0
  go_wp2_with fail
  go_ret
  exact ⟨ret_b HB.out, HX2.out⟩
def dfltNode : NodeM := ⟨0, 0, ⟨#[]⟩, 0, none, 0, []⟩
set_option maxRecDepth 100000 in
set_option maxHeartbeats 8000000 in
theorem idxNode_any (l : List NodeM) (A : Option Addr) (n c gt : Nat) (w : World) (hn : n = l.length) (ht : TreeM w A l) (hlen : l.length ≤ 1000) (hf : ∀ x ∈ l, NodeFit l x) (hg : Blk w gt 62 #[.slice A n c]) :
    Calls Try.prog 97 #[.slice A n c, .func (.func 66) #[] #[.pointer (some ⟨gt, 0, none⟩)]] w fun e w' => ∃ r : Int, e = .returned (.int .i64 r) ∧ decide (0 ≤ r) = (List.range l.length).any (fun i => !fitsM l (l.getD i dfltNode)) ∧ Ext w w' := by
  subst hn
  have HT := Lib.hid ht
  have HG := Lib.hid hg
  have HF := Lib.hid hf
  clear ht hg hf
  obtain ⟨q, HQ⟩ : ∃ q : Nat → Bool, Hid ((fun i => !fitsM l (l.getD i dfltNode)) = q) := ⟨_, Lib.hid rfl⟩
  rw [HQ.out]
  go_enter Try.func97, Try.ntmps97
  go_wp2_with fail
  go_loopw [8] (fun i wr => ∃ k : Nat, k ≤ l.length ∧ i = .int .i64 k ∧ Hid (Ext w wr) ∧ Hid (∀ j, j < k → q j = false)) (fun i _ => l.length - (intOf i).toNat)
  case atStart => exact ⟨0, Nat.zero_le _, rfl, Lib.hid (Ext.refl _), Lib.hid fun j hj => by omega⟩
  case round =>
    obtain ⟨k, hk, rfl, HX, HR⟩ := hrel
    obtain ⟨wa, rfl⟩ : ∃ wa : World, wa = wr := ⟨_, rfl⟩
    by_cases hlt : k < l.length
    · have d0 : decide ((k : Int) < (l.length : Int)) = true := decide_eq_true (by omega)
      obtain ⟨b, hb⟩ : ∃ b, q k = b := ⟨_, rfl⟩
      have HB := Lib.hid hb
      have hfe : l.getD k dfltNode = l[k] := by simp [List.getD_eq_getElem?_getD, hlt]
      have HFT : Hid ((!fitsM l l[k]) = b) := Lib.hid (by rw [← hb, ← HQ.out, ← hfe])
      have HT1 := Lib.hid (HT.out.ext HX.out)
      have HG1 := Lib.hid (HG.out.ext HX.out)
      have HNO : Hid (NodeOk wa l[k]) := Lib.hid (HT1.out.ok _ (List.getElem_mem hlt))
      have HNF : Hid (NodeFit l l[k]) := Lib.hid (HF.out _ (List.getElem_mem hlt))
      obtain ⟨g, off, rfl, hgb, hcell⟩ := HT1.out.at_ k hlt
      clear hb hfe
      generalize l[k] = x at *
      obtain ⟨kind, pos, text, num, kA, kc, kids⟩ := x
      have c0 : wa.cell? ⟨g, off + k * 5, none⟩ = some (.int .u8 kind) := hcell 0 (by omega)
      have c1 : wa.cell? ⟨g, off + k * 5 + 1, none⟩ = some (.int .i64 pos) := hcell 1 (by omega)
      have c2 : wa.cell? ⟨g, off + k * 5 + 2, none⟩ = some (.string text) := hcell 2 (by omega)
      have c3 : wa.cell? ⟨g, off + k * 5 + 3, none⟩ = some (.int .i64 num) := hcell 3 (by omega)
      have c4 : wa.cell? ⟨g, off + k * 5 + 4, none⟩ = some (.slice kA kids.length kc) := hcell 4 (by omega)
      clear hcell
      cases b with
      | true =>
        go_wp2_with (refine (right1_any l _ l.length c gt ⟨kind, pos, text, num, kA, kc, kids⟩ _ rfl HT1.out hlen HNF.out HNO.out HG1.out true HFT.out).mono ?_; rintro e w2 ⟨rfl, hx2⟩; have HX2 : Hid (Ext w w2) := Lib.hid (HX.out.trans hx2); clear hx2)
        go_ret
        exact ⟨_, rfl, by rw [decide_eq_true (by omega)]; exact (any_some k hlt HB.out).symm, HX2.out⟩
      | false =>
        go_wp2_with (refine (right1_any l _ l.length c gt ⟨kind, pos, text, num, kA, kc, kids⟩ _ rfl HT1.out hlen HNF.out HNO.out HG1.out false HFT.out).mono ?_; rintro e w2 ⟨rfl, hx2⟩; have HX2 : Hid (Ext w w2) := Lib.hid (HX.out.trans hx2); clear hx2)
        go_roundw
        case rel => exact ⟨k + 1, by omega, by go_num, HX2, Lib.hid fun j hj => by
          by_cases hjk : j = k
          · subst hjk; exact HB.out
          · exact HR.out j (by omega)⟩
        case measure => simp [intOf]; omega
    · obtain rfl : k = l.length := by omega
      have d0 : decide ((l.length : Int) < (l.length : Int)) = false := by simp
      go_wp2_with fail
      go_ret
      exact ⟨_, rfl, by rw [any_none HR.out]; rfl, HX.out⟩
theorem not_any (l : List NodeM) (p : NodeM → Bool) : (!(l.any fun x => !p x)) = l.all p := by
  induction l with
  | nil => rfl
  | cons x l ih => rw [List.any_cons, List.all_cons, ← ih]; cases p x <;> simp
set_option maxRecDepth 100000 in
set_option maxHeartbeats 4000000 in
theorem contNode_any (l : List NodeM) (A : Option Addr) (n c gt : Nat) (w : World) (hn : n = l.length) (ht : TreeM w A l) (hlen : l.length ≤ 1000) (hf : ∀ x ∈ l, NodeFit l x) (hg : Blk w gt 62 #[.slice A n c]) (b : Bool) (hb : Hid ((!l.all (fitsM l)) = b)) :
    Calls Try.prog 65 #[.slice A n c, .func (.func 66) #[] #[.pointer (some ⟨gt, 0, none⟩)]] w fun e w' => e = .returned (.bool b) ∧ Ext w w' := by
  subst hn
  have HRA : Hid ((List.range l.length).any (fun i => !fitsM l (l.getD i dfltNode)) = b) := Lib.hid (by rw [← hb.out, ← not_any, Bool.not_not]; exact range_any l (fun x => !fitsM l x) dfltNode)
  go_enter Try.func65, Try.ntmps65
  go_wp2_with fail
  refine (idxNode_any l A l.length c gt w rfl ht hlen hf hg).mono ?_
  rintro e w2 ⟨r, rfl, hr, hx2⟩
  have HRR := Lib.hid hr
  have HX2 := Lib.hid hx2
  clear hr hx2
  go_wp2_with fail
  go_ret
  exact ⟨ret_b (by rw [HRR.out, HRA.out]), HX2.out⟩
end Go.Proofs.Ythofccoefiogiaa
