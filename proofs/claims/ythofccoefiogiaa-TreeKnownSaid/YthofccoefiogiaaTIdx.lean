/- slices.ContainsFunc over forms, walked. -/
import Derived.Test.YthofccoefiogiaaTFits3
namespace Go.Proofs.Ythofccoefiogiaa
open Go Go.RowKit
set_option linter.unusedVariables false
set_option linter.unusedSimpArgs false
theorem flatten4 (css : List (List Value)) (h : ∀ cs ∈ css, cs.length = 4) : ∀ (i j : Nat) (hi : i < css.length), j < 4 → css.flatten[i * 4 + j]? = (css[i])[j]? := by
  induction css with
  | nil => intro i j hi; simp at hi
  | cons a l ih =>
    intro i j hi hj
    have ha := h a (by simp)
    rw [List.flatten_cons]
    match i, hi with
    | 0, _ => rw [Nat.zero_mul, Nat.zero_add, List.getElem?_append_left (by omega)]; rfl
    | i + 1, hi =>
      rw [List.getElem?_append_right (by omega), ha, show (i + 1) * 4 + j - 4 = i * 4 + j from by omega]
      exact ih (fun cs hc => h cs (by simp [hc])) i j (by simpa using hi) hj
theorem All2.mem {α β : Type} {R : α → β → Prop} : ∀ {l : List α} {m : List β} (h : All2 R l m), ∀ b ∈ m, ∃ a, R a b
  | [], [], _ => fun b hb => by cases hb
  | a :: l, c :: m, ⟨h1, h2⟩ => fun b hb => by
    rcases List.mem_cons.1 hb with rfl | hb
    · exact ⟨a, h1⟩
    · exact h2.mem b hb
  | [], _ :: _, h => h.elim
  | _ :: _, [], h => h.elim
theorem FormsV.open_ {w : World} {fs : List FormD} {v : Value} (h : FormsV w fs v) : ∃ A c, v = .slice A fs.length c ∧ ∀ i (hi : i < fs.length), ∃ g cs, A = some ⟨g, 0, none⟩ ∧ g < w.heap.size ∧ (∀ j, j < 4 → w.cell? ⟨g, i * 4 + j, none⟩ = cs[j]?) ∧ FormV w fs[i] cs := by
  rcases h with ⟨h1, h2⟩ | ⟨g, css, h1, h2, h3⟩
  · subst h1; exact ⟨none, 0, h2, fun i hi => by simp at hi⟩
  · refine ⟨_, _, h1, fun i hi => ?_⟩
    obtain ⟨cs, hc, hk⟩ := h3.get i hi
    have hic : i < css.length := by rw [← h3.len]; exact hi
    refine ⟨g, cs, rfl, h2.lt, fun j hj => ?_, hk⟩
    rw [h2.cell]
    have := flatten4 css (fun cs hcs => by obtain ⟨a, ha⟩ := h3.mem cs hcs; exact ha.len) i j hic hj
    rw [List.getElem?_eq_getElem hic] at hc
    injection hc with hc
    rw [hc] at this
    simpa using this
theorem any_none {n : Nat} {q : Nat → Bool} (h : ∀ j, j < n → q j = false) : (List.range n).any q = false := by
  rw [List.any_eq_false]
  intro j hj
  rw [h j (List.mem_range.1 hj)]
  exact Bool.false_ne_true
theorem any_some {n : Nat} {q : Nat → Bool} (j : Nat) (hj : j < n) (h : q j = true) : (List.range n).any q = true := List.any_eq_true.2 ⟨j, List.mem_range.2 hj, h⟩
theorem range_any {α : Type} (l : List α) (f : α → Bool) (d : α) : ((List.range l.length).any fun i => f (l.getD i d)) = l.any f := by
  induction l with
  | nil => rfl
  | cons x l ih =>
    rw [List.length_cons, List.range_succ_eq_map, List.any_cons, List.any_map, List.any_cons]
    congr 1
def dfltForm : FormD := ⟨[], none, false, 0⟩
theorem fits1_v (b : Bool) (f : FormD) (cs : List Value) (L : Option Addr) (ls : List Int) (lc gk gn : Nat) (x : NodeM) (w : World) (hf : FormV w f cs) (hl : Cells w L (bcells ls)) (hlen : ls.length ≤ 1000) (hx : x.text.size ≤ 1000)
    (hgk : Blk w gk 80 #[.slice L ls.length lc]) (hgn : Blk w gn 73 (Array.mk x.cells)) (hb : formOk f x.num x.text.data.toList ls = b) :
    Calls Try.prog 100 #[.agg (Array.mk cs), .pointer (some ⟨gk, 0, none⟩), .pointer (some ⟨gn, 0, none⟩)] w fun e w' => e = .returned (.bool b) ∧ Ext w w' := by
  subst hb
  exact fits1_any f cs L ls _ lc gk gn x w rfl hf hl hlen hx hgk hgn
set_option maxRecDepth 100000 in
set_option maxHeartbeats 8000000 in
theorem idxForm_any (fs : List FormD) (A : Option Addr) (n c : Nat) (L : Option Addr) (ls : List Int) (lc gk gn : Nat) (x : NodeM) (w : World) (hfs : FormsV w fs (.slice A n c)) (hfl : fs.length ≤ 10) (hl : Cells w L (bcells ls)) (hlen : ls.length ≤ 1000) (hx : x.text.size ≤ 1000)
    (hgk : Blk w gk 80 #[.slice L ls.length lc]) (hgn : Blk w gn 73 (Array.mk x.cells)) :
    Calls Try.prog 117 #[.slice A n c, .func (.func 100) #[] #[.pointer (some ⟨gk, 0, none⟩), .pointer (some ⟨gn, 0, none⟩)]] w fun e w' => ∃ r : Int, e = .returned (.int .i64 r) ∧ decide (0 ≤ r) = (List.range fs.length).any (fun i => formOk (fs.getD i dfltForm) x.num x.text.data.toList ls) ∧ Ext w w' := by
  obtain ⟨A', c', hv, hop⟩ := hfs.open_
  injection hv with h1 h2 h3
  subst h1 h2 h3
  have HOP := Lib.hid hop
  have HL := Lib.hid hl
  have HGK := Lib.hid hgk
  have HGN := Lib.hid hgn
  clear hop hl hgk hgn hfs
  obtain ⟨q, HQ⟩ : ∃ q : Nat → Bool, Hid ((fun i => formOk (fs.getD i dfltForm) x.num x.text.data.toList ls) = q) := ⟨_, Lib.hid rfl⟩
  rw [HQ.out]
  go_enter Try.func117, Try.ntmps117
  go_wp2_with fail
  go_loopw [8] (fun i wr => ∃ k : Nat, k ≤ fs.length ∧ i = .int .i64 k ∧ Hid (Ext w wr) ∧ Hid (∀ j, j < k → q j = false)) (fun i _ => fs.length - (intOf i).toNat)
  case atStart => exact ⟨0, Nat.zero_le _, rfl, Lib.hid (Ext.refl _), Lib.hid fun j hj => by omega⟩
  case round =>
    obtain ⟨k, hk, rfl, HX, HR⟩ := hrel
    obtain ⟨wa, rfl⟩ : ∃ wa : World, wa = wr := ⟨_, rfl⟩
    by_cases hlt : k < fs.length
    · have d0 : decide ((k : Int) < (fs.length : Int)) = true := decide_eq_true (by omega)
      obtain ⟨g, cs, rfl, hg, hcell, hform⟩ := HOP.out k hlt
      obtain ⟨b, hb⟩ : ∃ b, q k = b := ⟨_, rfl⟩
      have HB := Lib.hid hb
      have hfe : fs.getD k dfltForm = fs[k] := by simp [List.getD_eq_getElem?_getD, hlt]
      have HOK : Hid (formOk fs[k] x.num x.text.data.toList ls = b) := Lib.hid (by rw [← hb, ← HQ.out, ← hfe])
      have HFORM := Lib.hid (hform.kept (Kept.of_ext HX.out))
      obtain ⟨ks, mv, rfl, hks, hmv⟩ := hform
      obtain ⟨KA, kcc, rfl, -⟩ := hks.open_
      have hmf : mv = .nilFunc ∨ ∃ fm lm, mv = .func (.func fm) #[] lm := by
        cases hm : fs[k].more with
        | none => rw [hm] at hmv; exact .inl hmv
        | some q => rw [hm] at hmv; obtain ⟨fm, lm, h3, _⟩ := KidV.form hmv; exact .inr ⟨fm, lm, h3⟩
      clear hks hmv hb hfe
      generalize fs[k] = f at *
      have HC : Hid (∀ j, j < 4 → wa.cell? ⟨g, k * 4 + j, none⟩ = ([Value.slice KA f.kids.length kcc, mv, .bool f.named, .int .i64 f.most])[j]?) := Lib.hid (fun j hj => (HX.out.cell (p := ⟨g, k * 4 + j, none⟩) hg).trans (hcell j hj))
      clear hcell
      have HL1 := Lib.hid (HL.out.ext HX.out)
      have HGK1 := Lib.hid (HGK.out.ext HX.out)
      have HGN1 := Lib.hid (HGN.out.ext HX.out)
      rcases hmf with rfl | ⟨fm, lm, rfl⟩
      all_goals
        have c0 : wa.cell? ⟨g, k * 4, none⟩ = some (.slice KA f.kids.length kcc) := HC.out 0 (by omega)
        have c1 := HC.out 1 (by omega)
        have c2 := HC.out 2 (by omega)
        have c3 := HC.out 3 (by omega)
        cases b with
        | true =>
          go_wp2_with (refine (fits1_v true f _ L ls lc gk gn x _ HFORM.out HL1.out hlen hx HGK1.out HGN1.out HOK.out).mono ?_; rintro e w2 ⟨rfl, hx2⟩; have HX2 : Hid (Ext w w2) := Lib.hid (HX.out.trans hx2); clear hx2)
          go_ret
          exact ⟨_, rfl, by rw [decide_eq_true (by omega)]; exact (any_some k hlt HB.out).symm, HX2.out⟩
        | false =>
          go_wp2_with (refine (fits1_v false f _ L ls lc gk gn x _ HFORM.out HL1.out hlen hx HGK1.out HGN1.out HOK.out).mono ?_; rintro e w2 ⟨rfl, hx2⟩; have HX2 : Hid (Ext w w2) := Lib.hid (HX.out.trans hx2); clear hx2)
          go_roundw
          case rel => exact ⟨k + 1, by omega, by go_num, HX2, Lib.hid fun j hj => by
            by_cases hjk : j = k
            · subst hjk; exact HB.out
            · exact HR.out j (by omega)⟩
          case measure => simp [intOf]; omega
    · obtain rfl : k = fs.length := by omega
      have d0 : decide ((fs.length : Int) < (fs.length : Int)) = false := by simp
      go_wp2_with fail
      go_ret
      exact ⟨_, rfl, by rw [any_none HR.out]; rfl, HX.out⟩
set_option maxHeartbeats 4000000 in
theorem contForm_any (fs : List FormD) (v : Value) (L : Option Addr) (ls : List Int) (lc gk gn : Nat) (x : NodeM) (w : World) (hfs : FormsV w fs v) (hfl : fs.length ≤ 10) (hl : Cells w L (bcells ls)) (hlen : ls.length ≤ 1000) (hx : x.text.size ≤ 1000)
    (hgk : Blk w gk 80 #[.slice L ls.length lc]) (hgn : Blk w gn 73 (Array.mk x.cells)) :
    Calls Try.prog 98 #[v, .func (.func 100) #[] #[.pointer (some ⟨gk, 0, none⟩), .pointer (some ⟨gn, 0, none⟩)]] w fun e w' => e = .returned (.bool (fs.any fun f => formOk f x.num x.text.data.toList ls)) ∧ Ext w w' := by
  have HRA : Hid ((List.range fs.length).any (fun i => formOk (fs.getD i dfltForm) x.num x.text.data.toList ls) = fs.any fun f => formOk f x.num x.text.data.toList ls) := Lib.hid (range_any fs (fun f => formOk f x.num x.text.data.toList ls) dfltForm)
  obtain ⟨A, c, rfl, -⟩ := hfs.open_
  go_enter Try.func98, Try.ntmps98
  go_wp2_with fail
  refine (idxForm_any fs A _ c L ls lc gk gn x w hfs hfl hl hlen hx hgk hgn).mono ?_
  rintro e w2 ⟨r, rfl, hr, hx2⟩
  have HRR := Lib.hid hr
  have HX2 := Lib.hid hx2
  clear hr hx2
  go_wp2_with fail
  go_ret
  exact ⟨ret_b (by rw [HRR.out, HRA.out]), HX2.out⟩
end Go.Proofs.Ythofccoefiogiaa
