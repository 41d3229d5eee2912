/- code.one, walked: whether an instruction is right, as one of so many. Condition: few terms, values, variables. -/
import Derived.Test.YtngbpaiohfokbaaCrO
import Derived.Deep.CutRange
import Derived.BigQuiet
namespace Go.Proofs.Ytngbpaiohfokbaa
open Go Go.RowKit
set_option linter.unusedVariables false
set_option linter.unusedSimpArgs false
def bareU (f : FullI) : FullI := ⟨bareF f.x, if f.x.op ≤ 6 then [] else f.kt, if f.x.op = 4 ∨ f.x.op = 5 ∨ f.x.op = 8 ∨ f.x.op = 9 ∨ f.x.op = 11 then [] else f.vp⟩
def opU (op : Int) : FullI := ⟨⟨op, 0, 0, 0, false, 0, 0, 0, false, 0, 0, (none, 0, 0), (none, 0, 0)⟩, [], []⟩
theorem shows_nil (w : World) : Shows w (none, 0, 0) [] := ⟨rfl, fun _ => rfl, .inl rfl⟩
theorem opU_at (op : Int) (w : World) : (opU op).At w := ⟨shows_nil w, rfl, fun _ => rfl, .inl rfl, fun p hp => by cases hp⟩
theorem bareU_at (f : FullI) (h0 : 1 ≤ f.x.op) (h1 : f.x.op ≤ 16) (w : World) (h : f.At w) : (bareU f).At w := by
  obtain ⟨⟨op, node, mode, table, row, col, var, goes, eq, frm, upto, key, vals⟩, kt, vp⟩ := f
  have hc := ops16 h0 h1
  obtain ⟨a, b, c, d, e⟩ := h
  simp only at a b c d e hc
  rcases hc with rfl | rfl | rfl | rfl | rfl | rfl | rfl | rfl | rfl | rfl | rfl | rfl | rfl | rfl | rfl | rfl <;>
    exact ⟨by first | exact a | exact shows_nil w, by first | exact b | rfl, by first | exact c | exact fun _ => rfl, by first | exact d | exact .inl rfl, by first | exact e | exact fun p hp => by cases hp⟩
theorem few8_of (f : FullI) (h : f.few) : f.few8 := by
  obtain ⟨a, b, c⟩ := h
  exact ⟨⟨by omega, by omega, fun p hp => by have := c p hp; omega⟩, b, c⟩
theorem few_bare (f : FullI) (h : f.few) : (bareU f).few := by
  obtain ⟨a, b, c⟩ := h
  unfold bareU
  refine ⟨?_, ?_, ?_⟩
  · dsimp only; split
    · exact Nat.zero_le _
    · exact a
  · dsimp only; split
    · exact Nat.zero_le _
    · exact b
  · dsimp only; split
    · intro p hp; cases hp
    · exact c
def colP (x : InstrD) (tables : List Int) : Bool := (decide (x.op ≤ 7) && !inP x.table tables.length) || ((x.op == 3 || (x.op == 4 || x.op == 7)) && !inP x.col (tabAt tables x.table))
def varP (x : InstrD) (v size : Nat) : Bool := ((x.op == 3 || (x.op == 7 || (x.op == 8 || (x.op == 12 || x.op == 13)))) && !inP x.var v) || ((decide (10 ≤ x.op) && decide (x.op ≤ 13)) && !inP x.goes size)
def modeP (x : InstrD) : Bool := (x.op == 1) && (x.mode != 3 && (x.mode != 5 && (x.row || (x.mode != 1 && x.mode != 2))))
def keyQ (f : FullI) (v : Nat) : Bool := (!keyedP f.x.op f.x.row && decide (0 < (f.kt.length : Int))) || (keyedP f.x.op f.x.row && !goodR v f.kt)
def sameB (f : FullI) : Bool := all2 sameP [bareU f] [opU f.x.op]
def oneP (f : FullI) (tables : List Int) (v size : Nat) : Bool :=
  if f.x.op < 1 ∨ 16 < f.x.op then false
  else if (!sameB f) = true then false
  else if colP f.x tables = true then false
  else if varP f.x v size = true then false
  else if modeP f.x = true then false
  else if keyQ f v = true then false
  else ((f.vp.length : Int) == valuesP f.x.op tables f.x.table) && allGood v f.vp
def LitQ (e : TypeId) (cs : Array Value) (v : Value) (w : World) : Prop := ∃ g, v = .slice (some ⟨g, 0, none⟩) 1 1 ∧ Blk w g e cs
theorem LitQ.ext {e : TypeId} {cs : Array Value} (v : Value) (w w' : World) (h : LitQ e cs v w) (hx : Ext w w') : LitQ e cs v w' := let ⟨g, a, b⟩ := h; ⟨g, a, b.ext hx⟩
theorem row_one {w : World} {g : Nat} {e : TypeId} {f : FullI} {cs : Array Value} (hc : cs.toList = f.x.cells) (h : Blk w g e cs) (hat : f.At w) : Row w (some ⟨g, 0, none⟩) [f] := by
  refine ⟨?_, fun f' hf => by rw [List.mem_singleton] at hf; subst hf; exact hat⟩
  have := blk_cellsR h
  rw [hc] at this
  simpa [fcells, icells] using this
/-- One operation whose guard is decided: it runs; this is known of its value. -/
theorem step_fact_onQ {P : Program} {ops : Array Oper} {R : World → World → Prop} {w0 : World} {Q : Act → World → Prop} {o : Oper} {l : List Oper} {ks : List Take} {a : Act} {H : List (Option Tmp × (World → Prop))} {d : Option Tmp} {L : List Tmp} (F : Value → World → Prop) (hs : ∀ v w w', F v w → R w w' → F v w') (hw : Region.wanted o (yielded ops a.tmps) = true) (hd : o.dst = d) (hL : looksOf o = L)
    (h : ∀ w, R w0 w → (∀ p ∈ H, (∃ t, p.1 = some t ∧ t ∈ L) → p.2 w) → YieldsF P a.eval o w (fun v w' => F v w' ∧ R w w')) (hk : ∀ v, WalkF P ops R w0 Q l ks (a.put d v) ((d, F v) :: H)) : WalkF P ops R w0 Q (o :: l) (.fact F :: ks) a H := by
  subst hd hL
  refine WalkF_fact F hs (fun w hw' hH => ?_) hk
  rw [if_pos hw]
  exact h w hw' fun p hp ⟨t, ht, hm⟩ => hH p hp ⟨t, ht, List.mem_append_left _ hm⟩
theorem in_yes {i n : Int} (h : inP i n = true) : 0 ≤ i ∧ i < n := by
  unfold inP at h
  rw [Bool.and_eq_true, decide_eq_true_eq, decide_eq_true_eq] at h
  exact h
set_option maxRecDepth 100000 in
set_option maxHeartbeats 32000000 in
theorem pone_any (f : FullI) (tA : Option Addr) (tables : List Int) (tn tc : Nat) (v size : Nat) (w : World) (htn : tn = tables.length) (htl : tables.length ≤ 1000) (hop : 0 ≤ f.x.op ∧ f.x.op < 256) (hf : f.few) (hv : v ≤ 900) (hsz : size ≤ 1000) (hat : f.At w) (hT : Cells w tA (ncells tables)) (hok : ∀ t ∈ f.kt, t.ok) (hokv : ∀ q ∈ f.vp, ∀ t ∈ q.2, t.ok) :
    Calls Try.prog 30 #[aggI f.x, .slice tA tn tc, .int .i64 (v : Int), .int .i64 (size : Int)] w fun e w' => e = .returned (.bool (oneP f tables v size)) ∧ Ext w w' := by
  subst htn
  obtain ⟨bb, HO⟩ : ∃ bb, Hid (oneP f tables v size = bb) := ⟨_, Lib.hid rfl⟩
  rw [HO.out]
  have HT := Lib.hid hT
  have HBR : Hid (1 ≤ f.x.op → f.x.op ≤ 16 → ∀ w', Calls Try.prog 50 #[aggI f.x] w' fun e w'' => e = .returned (aggI (bareF f.x)) ∧ Ext w' w'') := Lib.hid fun h0 h1 w' => bare_any f.x h0 h1 w'
  have HSM : Hid (1 ≤ f.x.op → f.x.op ≤ 16 → ∀ w' g1 g2 e, Ext w w' → Blk w' g1 e (bareF f.x).cells.toArray → Blk w' g2 e (opU f.x.op).x.cells.toArray → Calls Try.prog 19 #[.slice (some ⟨g1, 0, none⟩) 1 1, .slice (some ⟨g2, 0, none⟩) 1 1] w' fun e w'' => e = .returned (.bool (sameB f)) ∧ Ext w' w'') := Lib.hid fun h0 h1 w' g1 g2 e hx k1 k2 => by
    have := sameI_any w' (some ⟨g1, 0, none⟩) (some ⟨g2, 0, none⟩) [bareU f] [opU f.x.op] 1 1 (by simp) (row_one rfl k1 (bareU_at f h0 h1 w' (hat.ext hx))) (row_one rfl k2 (opU_at _ _)) (fun q hq => by rw [List.mem_singleton] at hq; subst hq; exact few8_of _ (few_bare f hf)) _ (Lib.hid rfl)
    exact this
  have HKY : Hid (1 ≤ f.x.op → f.x.op ≤ 16 → ∀ w', Calls Try.prog 51 #[aggI f.x] w' fun e w'' => e = .returned (.bool (keyedP f.x.op f.x.row)) ∧ Ext w' w'') := Lib.hid fun h0 h1 w' => keyed_any f.x h0 h1 w'
  have HVL : Hid (1 ≤ f.x.op → f.x.op ≤ 16 → (f.x.op = 5 → 0 ≤ f.x.table ∧ f.x.table < (tables.length : Int)) → ∀ w', Ext w w' → Calls Try.prog 53 #[aggI f.x, .slice tA tables.length tc] w' fun e w'' => e = .returned (.int .i64 (valuesP f.x.op tables f.x.table)) ∧ Ext w' w'') := Lib.hid fun h0 h1 h2 w' hx => values_any f.x tA tables _ tc h0 h1 w' rfl htl h2 (hT.ext hx)
  have HGK : Hid (∀ w' g e, Ext w w' → Blk w' g e #[.slice f.x.key.1 f.x.key.2.1 f.x.key.2.2] → Calls Try.prog 52 #[.int .i64 (v : Int), .slice (some ⟨g, 0, none⟩) 1 1] w' fun e w'' => e = .returned (.bool (goodR v f.kt)) ∧ Ext w' w'') := Lib.hid fun w' g e hx k => by
    have hs := hat.key.ext hx
    have := good_any w' v (some ⟨g, 0, none⟩) [(f.x.key, f.kt)] 1 1 rfl (by simp) hv (by simpa [pcells, hd] using blk_cellsR k) (fun q hq => by rw [List.mem_singleton] at hq; subst hq; exact hs) (fun q hq => by rw [List.mem_singleton] at hq; subst hq; exact hf.1) (fun q hq => by rw [List.mem_singleton] at hq; subst hq; exact hok) _ (Lib.hid rfl)
    simpa [allGood] using this
  have HGV : Hid (∀ w', Ext w w' → Calls Try.prog 52 #[.int .i64 (v : Int), .slice f.x.vals.1 f.vp.length f.x.vals.2.2] w' fun e w'' => e = .returned (.bool (allGood v f.vp)) ∧ Ext w' w'') := Lib.hid fun w' hx => good_any w' v f.x.vals.1 f.vp f.vp.length f.x.vals.2.2 rfl hf.2.1 hv (hat.vals.ext hx) (fun q hq => (hat.each q hq).ext hx) hf.2.2 hokv _ (Lib.hid rfl)
  have hkl : f.x.key.2.1 = f.kt.length := hat.key.1
  have hvl : f.x.vals.2.1 = f.vp.length := hat.vn
  have HK9 : Hid (f.kt.length ≤ 900) := Lib.hid hf.1
  clear hat hf hT hok hokv
  obtain ⟨y, HY⟩ : ∃ y, Hid (bareF f.x = y) := ⟨_, Lib.hid rfl⟩
  obtain ⟨sb, HSB⟩ : ∃ s, Hid (sameB f = s) := ⟨_, Lib.hid rfl⟩
  unfold oneP colP varP modeP keyQ at HO
  rw [HSB.out] at HO HSM
  rw [HY.out] at HBR HSM
  clear HSB HY
  obtain ⟨gk, HGG⟩ : ∃ b, Hid (goodR v f.kt = b) := ⟨_, Lib.hid rfl⟩
  obtain ⟨gv, HGW⟩ : ∃ b, Hid (allGood v f.vp = b) := ⟨_, Lib.hid rfl⟩
  rw [HGG.out] at HO HGK
  rw [HGW.out] at HO HGV
  clear HGG HGW
  obtain ⟨⟨op, node, mode, table, row, col, var, goes, eq, frm, upto, ⟨ka, kl, kc⟩, ⟨va, vl, vc⟩⟩, kt, vp⟩ := f
  simp only at hkl hvl hop
  subst hkl hvl
  unfold aggI at *
  dsimp only at HO HBR HSM HKY HVL HGK HGV
  obtain ⟨ky, HKQ⟩ : ∃ b, Hid (keyedP op row = b) := ⟨_, Lib.hid rfl⟩
  rw [HKQ.out] at HO HKY
  clear HKQ
  obtain ⟨vv, HVV⟩ : ∃ b, Hid (valuesP op tables table = b) := ⟨_, Lib.hid rfl⟩
  rw [HVV.out] at HO HVL
  clear HVV
  have HX1 : Hid (Ext w (w.alloc (.cells #[.int .u8 op, .int .i64 node, .int .u8 mode, .int .i64 table, .bool row, .int .i64 col, .int .i64 var, .int .i64 goes, .bool eq, .int .i64 frm, .int .i64 upto, .slice ka kt.length kc, .slice va vp.length vc] 49))) := Lib.hid (Ext.alloc _ _)
  have HB1 : Hid (Blk (w.alloc (.cells #[.int .u8 op, .int .i64 node, .int .u8 mode, .int .i64 table, .bool row, .int .i64 col, .int .i64 var, .int .i64 goes, .bool eq, .int .i64 frm, .int .i64 upto, .slice ka kt.length kc, .slice va vp.length vc] 49)) w.heap.size 49 #[.int .u8 op, .int .i64 node, .int .u8 mode, .int .i64 table, .bool row, .int .i64 col, .int .i64 var, .int .i64 goes, .bool eq, .int .i64 frm, .int .i64 upto, .slice ka kt.length kc, .slice va vp.length vc]) := Lib.hid (Blk.new _ _ _)
  go_enter Try.func30, Try.ntmps30
  go_upto_region 2 with fail
  generalize w.heap.size = g at *
  generalize w.alloc (.cells #[.int .u8 op, .int .i64 node, .int .u8 mode, .int .i64 table, .bool row, .int .i64 col, .int .i64 var, .int .i64 goes, .bool eq, .int .i64 frm, .int .i64 upto, .slice ka kt.length kc, .slice va vp.length vc] 49) = w1 at *
  have y0 : w1.cell? ⟨g, 0, none⟩ = some (.int .u8 op) := HB1.out.cell 0
  have y1 : w1.cell? ⟨g, 1, none⟩ = some (.int .i64 node) := HB1.out.cell 1
  have y2 : w1.cell? ⟨g, 2, none⟩ = some (.int .u8 mode) := HB1.out.cell 2
  have y3 : w1.cell? ⟨g, 3, none⟩ = some (.int .i64 table) := HB1.out.cell 3
  have y4 : w1.cell? ⟨g, 4, none⟩ = some (.bool row) := HB1.out.cell 4
  have y5 : w1.cell? ⟨g, 5, none⟩ = some (.int .i64 col) := HB1.out.cell 5
  have y6 : w1.cell? ⟨g, 6, none⟩ = some (.int .i64 var) := HB1.out.cell 6
  have y7 : w1.cell? ⟨g, 7, none⟩ = some (.int .i64 goes) := HB1.out.cell 7
  have y8 : w1.cell? ⟨g, 8, none⟩ = some (.bool eq) := HB1.out.cell 8
  have y9 : w1.cell? ⟨g, 9, none⟩ = some (.int .i64 frm) := HB1.out.cell 9
  have y10 : w1.cell? ⟨g, 10, none⟩ = some (.int .i64 upto) := HB1.out.cell 10
  have y11 : w1.cell? ⟨g, 11, none⟩ = some (.slice ka kt.length kc) := HB1.out.cell 11
  have y12 : w1.cell? ⟨g, 12, none⟩ = some (.slice va vp.length vc) := HB1.out.cell 12
  have HBL := Lib.hid HB1.out.lt
  by_cases hlo : op < 1
  · have HF : Hid (bb = false) := Lib.hid (by rw [← HO.out, if_pos (.inl hlo)])
    have d0 : decide (op < 1) = true := decide_eq_true hlo
    clear hlo
    apply wp_region_ext (by kernel_rfl) (by kernel_rfl) (by kernel_rfl)
    apply step_det (.pointer (some ⟨g, 0, none⟩)) rfl rfl rfl
    · intro w' hw' hH
      clear hH
      simp [YieldsF, go_sem]
      exact Ext.refl _
    apply step_det (.int .u8 op) rfl rfl rfl
    · intro w' hw' hH
      clear hH
      have z0 := (hw'.cell (p := ⟨g, 0, none⟩) HBL.out).trans y0
      simp [YieldsF, go_sem, z0]
      exact Ext.refl _
    apply step_det (.bool true) rfl rfl rfl
    · intro w' hw' hH
      clear hH
      simp [YieldsF, go_sem, d0]
      exact Ext.refl _
    apply step_det (.bool true) rfl rfl rfl
    · intro w' hw' hH
      clear hH
      simp [YieldsF, go_sem]
      exact Ext.refl _
    apply step_off (by kernel_rfl) rfl
    apply step_off (by kernel_rfl) rfl
    apply step_off (by kernel_rfl) rfl
    apply step_det (.bool true) rfl rfl rfl
    · intro w' hw' hH
      clear hH
      simp [YieldsF, go_sem]
      exact Ext.refl _
    apply step_det (.bool true) rfl rfl rfl
    · intro w' hw' hH
      clear hH
      simp [YieldsF, go_sem]
      exact Ext.refl _
    apply step_off (by kernel_rfl) rfl
    apply step_off (by kernel_rfl) rfl
    apply step_off (by kernel_rfl) rfl
    apply step_off (by kernel_rfl) rfl
    apply step_off (by kernel_rfl) rfl
    apply step_off (by kernel_rfl) rfl
    apply step_off (by kernel_rfl) rfl
    apply step_off (by kernel_rfl) rfl
    apply step_off (by kernel_rfl) rfl
    apply step_det (.bool true) rfl rfl rfl
    · intro w' hw' hH
      clear hH
      simp [YieldsF, go_sem]
      exact Ext.refl _
    apply WalkF_nil
    intro w2 hx2 hH
    clear hH
    try simp only [Act.put, List.setIfInBounds_toArray, List.set_cons_zero, List.set_cons_succ]
    have HX2 := Lib.hid (HX1.out.trans hx2)
    clear hx2 y0 y1 y2 y3 y4 y5 y6 y7 y8 y9 y10 y11 y12
    go_wp2_with fail
    go_ret
    rw [HF.out]
    exact ⟨rfl, HX2.out⟩
  have d0 : decide (op < 1) = false := decide_eq_false hlo
  by_cases hhi : 16 < op
  · have HF : Hid (bb = false) := Lib.hid (by rw [← HO.out, if_pos (.inr hhi)])
    have d1 : decide (16 < op) = true := decide_eq_true hhi
    clear hhi hlo
    apply wp_region_ext (by kernel_rfl) (by kernel_rfl) (by kernel_rfl)
    apply step_det (.pointer (some ⟨g, 0, none⟩)) rfl rfl rfl
    · intro w' hw' hH
      clear hH
      simp [YieldsF, go_sem]
      exact Ext.refl _
    apply step_det (.int .u8 op) rfl rfl rfl
    · intro w' hw' hH
      clear hH
      have z0 := (hw'.cell (p := ⟨g, 0, none⟩) HBL.out).trans y0
      simp [YieldsF, go_sem, z0]
      exact Ext.refl _
    apply step_det (.bool false) rfl rfl rfl
    · intro w' hw' hH
      clear hH
      simp [YieldsF, go_sem, d0]
      exact Ext.refl _
    apply step_det (.bool false) rfl rfl rfl
    · intro w' hw' hH
      clear hH
      simp [YieldsF, go_sem]
      exact Ext.refl _
    apply step_on (.pointer (some ⟨g, 0, none⟩)) (by kernel_rfl) rfl rfl
    · intro w' hw' hH
      clear hH
      simp [YieldsF, go_sem]
      exact Ext.refl _
    apply step_on (.int .u8 op) (by kernel_rfl) rfl rfl
    · intro w' hw' hH
      clear hH
      have z0 := (hw'.cell (p := ⟨g, 0, none⟩) HBL.out).trans y0
      simp [YieldsF, go_sem, z0]
      exact Ext.refl _
    apply step_on (.bool true) (by kernel_rfl) rfl rfl
    · intro w' hw' hH
      clear hH
      simp [YieldsF, go_sem, d1]
      exact Ext.refl _
    apply step_det (.bool true) rfl rfl rfl
    · intro w' hw' hH
      clear hH
      simp [YieldsF, go_sem]
      exact Ext.refl _
    apply step_det (.bool true) rfl rfl rfl
    · intro w' hw' hH
      clear hH
      simp [YieldsF, go_sem]
      exact Ext.refl _
    apply step_off (by kernel_rfl) rfl
    apply step_off (by kernel_rfl) rfl
    apply step_off (by kernel_rfl) rfl
    apply step_off (by kernel_rfl) rfl
    apply step_off (by kernel_rfl) rfl
    apply step_off (by kernel_rfl) rfl
    apply step_off (by kernel_rfl) rfl
    apply step_off (by kernel_rfl) rfl
    apply step_off (by kernel_rfl) rfl
    apply step_det (.bool true) rfl rfl rfl
    · intro w' hw' hH
      clear hH
      simp [YieldsF, go_sem]
      exact Ext.refl _
    apply WalkF_nil
    intro w2 hx2 hH
    clear hH
    try simp only [Act.put, List.setIfInBounds_toArray, List.set_cons_zero, List.set_cons_succ]
    have HX2 := Lib.hid (HX1.out.trans hx2)
    clear hx2 y0 y1 y2 y3 y4 y5 y6 y7 y8 y9 y10 y11 y12
    go_wp2_with fail
    go_ret
    rw [HF.out]
    exact ⟨rfl, HX2.out⟩
  have d1 : decide (16 < op) = false := decide_eq_false hhi
  have hc := ops16 (op := op) (by omega) (by omega)
  have HBR := Lib.hid (HBR.out (by omega) (by omega))
  have HSM := Lib.hid (HSM.out (by omega) (by omega))
  have HKY := Lib.hid (HKY.out (by omega) (by omega))
  have HVL := Lib.hid (HVL.out (by omega) (by omega))
  have HOPS := Lib.hid hc
  replace HO := Lib.hid ((if_neg (by omega)).symm.trans HO.out)
  clear hc hlo hhi hop
  apply wp_region_ext (by kernel_rfl) (by kernel_rfl) (by kernel_rfl)
  apply step_det (.pointer (some ⟨g, 0, none⟩)) rfl rfl rfl
  · intro w' hw' hH
    clear hH
    simp [YieldsF, go_sem]
    exact Ext.refl _
  apply step_det (.int .u8 op) rfl rfl rfl
  · intro w' hw' hH
    clear hH
    have z0 := (hw'.cell (p := ⟨g, 0, none⟩) HBL.out).trans y0
    simp [YieldsF, go_sem, z0]
    exact Ext.refl _
  apply step_det (.bool false) rfl rfl rfl
  · intro w' hw' hH
    clear hH
    simp [YieldsF, go_sem, d0]
    exact Ext.refl _
  apply step_det (.bool false) rfl rfl rfl
  · intro w' hw' hH
    clear hH
    simp [YieldsF, go_sem]
    exact Ext.refl _
  apply step_on (.pointer (some ⟨g, 0, none⟩)) (by kernel_rfl) rfl rfl
  · intro w' hw' hH
    clear hH
    simp [YieldsF, go_sem]
    exact Ext.refl _
  apply step_on (.int .u8 op) (by kernel_rfl) rfl rfl
  · intro w' hw' hH
    clear hH
    have z0 := (hw'.cell (p := ⟨g, 0, none⟩) HBL.out).trans y0
    simp [YieldsF, go_sem, z0]
    exact Ext.refl _
  apply step_on (.bool false) (by kernel_rfl) rfl rfl
  · intro w' hw' hH
    clear hH
    simp [YieldsF, go_sem, d1]
    exact Ext.refl _
  apply step_det (.bool false) rfl rfl rfl
  · intro w' hw' hH
    clear hH
    simp [YieldsF, go_sem]
    exact Ext.refl _
  apply step_det (.bool false) rfl rfl rfl
  · intro w' hw' hH
    clear hH
    simp [YieldsF, go_sem]
    exact Ext.refl _
  apply step_on (.agg #[.int .u8 op, .int .i64 node, .int .u8 mode, .int .i64 table, .bool row, .int .i64 col, .int .i64 var, .int .i64 goes, .bool eq, .int .i64 frm, .int .i64 upto, .slice ka kt.length kc, .slice va vp.length vc]) (by kernel_rfl) rfl rfl
  · intro w' hw' hH
    clear hH
    have z0 := (hw'.cell (p := ⟨g, 0, none⟩) HBL.out).trans y0
    have z1 := (hw'.cell (p := ⟨g, 1, none⟩) HBL.out).trans y1
    have z2 := (hw'.cell (p := ⟨g, 2, none⟩) HBL.out).trans y2
    have z3 := (hw'.cell (p := ⟨g, 3, none⟩) HBL.out).trans y3
    have z4 := (hw'.cell (p := ⟨g, 4, none⟩) HBL.out).trans y4
    have z5 := (hw'.cell (p := ⟨g, 5, none⟩) HBL.out).trans y5
    have z6 := (hw'.cell (p := ⟨g, 6, none⟩) HBL.out).trans y6
    have z7 := (hw'.cell (p := ⟨g, 7, none⟩) HBL.out).trans y7
    have z8 := (hw'.cell (p := ⟨g, 8, none⟩) HBL.out).trans y8
    have z9 := (hw'.cell (p := ⟨g, 9, none⟩) HBL.out).trans y9
    have z10 := (hw'.cell (p := ⟨g, 10, none⟩) HBL.out).trans y10
    have z11 := (hw'.cell (p := ⟨g, 11, none⟩) HBL.out).trans y11
    have z12 := (hw'.cell (p := ⟨g, 12, none⟩) HBL.out).trans y12
    simp [YieldsF, go_sem, z0, z1, z2, z3, z4, z5, z6, z7, z8, z9, z10, z11, z12]
    exact Ext.refl _
  apply step_on (.agg #[.int .u8 y.op, .int .i64 y.node, .int .u8 y.mode, .int .i64 y.table, .bool y.row, .int .i64 y.col, .int .i64 y.var, .int .i64 y.goes, .bool y.eq, .int .i64 y.frm, .int .i64 y.upto, .slice y.key.1 y.key.2.1 y.key.2.2, .slice y.vals.1 y.vals.2.1 y.vals.2.2]) (by kernel_rfl) rfl rfl
  · intro w' hw' hH
    clear hH
    simp [YieldsF, go_sem]
    refine (HBR.out w').mono ?_
    rintro e w2 ⟨rfl, hx2⟩
    exact ⟨_, rfl, rfl, hx2⟩
  apply step_fact_onQ (LitQ 49 #[.int .u8 y.op, .int .i64 y.node, .int .u8 y.mode, .int .i64 y.table, .bool y.row, .int .i64 y.col, .int .i64 y.var, .int .i64 y.goes, .bool y.eq, .int .i64 y.frm, .int .i64 y.upto, .slice y.key.1 y.key.2.1 y.key.2.2, .slice y.vals.1 y.vals.2.1 y.vals.2.2]) (fun v a b h k => LitQ.ext v a b h k) (by kernel_rfl) rfl rfl
  · intro w' hw' hH
    clear hH
    simp [YieldsF, go_sem]
    exact ⟨⟨_, rfl, Blk.new w' _ _⟩, Ext.alloc _ _⟩
  intro u21
  apply step_on (.pointer (some ⟨g, 0, none⟩)) (by kernel_rfl) rfl rfl
  · intro w' hw' hH
    clear hH
    simp [YieldsF, go_sem]
    exact Ext.refl _
  apply step_on (.int .u8 op) (by kernel_rfl) rfl rfl
  · intro w' hw' hH
    clear hH
    have z0 := (hw'.cell (p := ⟨g, 0, none⟩) HBL.out).trans y0
    simp [YieldsF, go_sem, z0]
    exact Ext.refl _
  apply step_on (.agg #[.int .u8 op, .int .i64 0, .int .u8 0, .int .i64 0, .bool false, .int .i64 0, .int .i64 0, .int .i64 0, .bool false, .int .i64 0, .int .i64 0, .slice none 0 0, .slice none 0 0]) (by kernel_rfl) rfl rfl
  · intro w' hw' hH
    clear hH
    simp [YieldsF, go_sem]
    exact Ext.refl _
  apply step_fact_onQ (LitQ 49 #[.int .u8 op, .int .i64 0, .int .u8 0, .int .i64 0, .bool false, .int .i64 0, .int .i64 0, .int .i64 0, .bool false, .int .i64 0, .int .i64 0, .slice none 0 0, .slice none 0 0]) (fun v a b h k => LitQ.ext v a b h k) (by kernel_rfl) rfl rfl
  · intro w' hw' hH
    clear hH
    simp [YieldsF, go_sem]
    exact ⟨⟨_, rfl, Blk.new w' _ _⟩, Ext.alloc _ _⟩
  intro u25
  apply step_on (.bool sb) (by kernel_rfl) rfl rfl
  · intro w' hw' hH
    obtain ⟨g1, rfl, k1⟩ := hH _ (List.mem_cons_of_mem _ (List.mem_cons_self ..)) ⟨21, rfl, by decide⟩
    obtain ⟨g2, rfl, k2⟩ := hH _ (List.mem_cons_self ..) ⟨25, rfl, by decide⟩
    clear hH
    simp [YieldsF, go_sem]
    refine (HSM.out w' g1 g2 _ (HX1.out.trans hw') k1 k2).mono ?_
    rintro e w2 ⟨rfl, hx2⟩
    exact ⟨_, rfl, rfl, hx2⟩
  apply step_on (.bool (!sb)) (by kernel_rfl) rfl rfl
  · intro w' hw' hH
    clear hH
    simp [YieldsF, go_sem]
    exact Ext.refl _
  apply step_det (.bool (!sb)) rfl rfl rfl
  · intro w' hw' hH
    clear hH
    simp [YieldsF, go_sem]
    exact Ext.refl _
  apply WalkF_nil
  intro w2 hx2 hH
  clear hH
  try simp only [Act.put, List.setIfInBounds_toArray, List.set_cons_zero, List.set_cons_succ]
  have HX2 := Lib.hid (HX1.out.trans hx2)
  have HB2 := Lib.hid (HB1.out.ext hx2)
  clear hx2 HX1 HB1 HBL HBR HSM d0 d1 y0 y1 y2 y3 y4 y5 y6 y7 y8 y9 y10 y11 y12
  cases sb with
  | false =>
    have HF : Hid (bb = false) := Lib.hid (by rw [← HO.out]; rfl)
    go_wp2_with fail
    go_ret
    rw [HF.out]
    exact ⟨rfl, HX2.out⟩
  | true =>
  replace HO := Lib.hid ((if_neg Bool.false_ne_true).symm.trans HO.out)
  have y0 : w2.cell? ⟨g, 0, none⟩ = some (.int .u8 op) := HB2.out.cell 0
  have y3 : w2.cell? ⟨g, 3, none⟩ = some (.int .i64 table) := HB2.out.cell 3
  have y5 : w2.cell? ⟨g, 5, none⟩ = some (.int .i64 col) := HB2.out.cell 5
  go_upto_region 4 with fail
  obtain ⟨A, HA⟩ : ∃ b : Bool, Hid (((decide (op ≤ 7) && !inP table (tables.length : Int)) || ((op == 3 || (op == 4 || op == 7)) && !inP col (tabAt tables table))) = b) := ⟨_, Lib.hid rfl⟩
  rw [HA.out] at HO
  go_cut [67] from 29 to 66 (fun s wx => s = .bool A ∧ Hid (Ext w2 wx))
  case first =>
    clear HO
    obtain ⟨tb, HTB⟩ : ∃ b : Bool, Hid (inP table (tables.length : Int) = b) := ⟨_, Lib.hid rfl⟩
    have e0 := HTB.out
    by_cases h7 : op ≤ 7
    rotate_left
    · have e1 : decide (op ≤ 7) = false := decide_eq_false h7
      have e2 : (op == 3) = false := beq_eq_false_iff_ne.2 (by omega)
      have e3 : (op == 4) = false := beq_eq_false_iff_ne.2 (by omega)
      have e4 : (op == 7) = false := beq_eq_false_iff_ne.2 (by omega)
      clear h7 e0
      go_quiet ((go_at_call 49; exact Calls.quiet_of_same ((oneC_any _ _ _).mono fun e w' h => ⟨h.1, h.2.symm⟩)))
      rename_i nq
      go_wp2_with fail
      go_meet
      exact ⟨by rw [← HA.out]; simp [e1, e2, e3, e4], Lib.hid (ext_dnR _ _)⟩
    have e1 : decide (op ≤ 7) = true := decide_eq_true h7
    cases tb with
    | false =>
      clear h7
      go_quiet ((go_at_call 49; exact Calls.quiet_of_same ((oneC_any _ _ _).mono fun e w' h => ⟨h.1, h.2.symm⟩)))
      rename_i nq
      go_wp2_with fail
      go_meet
      exact ⟨by rw [← HA.out]; simp [e0, e1], Lib.hid (ext_dnR _ _)⟩
    | true =>
      by_cases h3 : op = 3 ∨ op = 4 ∨ op = 7
      rotate_left
      · have e2 : (op == 3) = false := beq_eq_false_iff_ne.2 (by omega)
        have e3 : (op == 4) = false := beq_eq_false_iff_ne.2 (by omega)
        have e4 : (op == 7) = false := beq_eq_false_iff_ne.2 (by omega)
        clear h7 h3
        go_quiet ((go_at_call 49; exact Calls.quiet_of_same ((oneC_any _ _ _).mono fun e w' h => ⟨h.1, h.2.symm⟩)))
        rename_i nq
        go_wp2_with fail
        go_meet
        exact ⟨by rw [← HA.out]; simp [e0, e1, e2, e3, e4], Lib.hid (ext_dnR _ _)⟩
      have hin := in_yes e0
      obtain ⟨tk, htk⟩ : ∃ tk : Nat, table = (tk : Int) := ⟨table.toNat, by omega⟩
      subst htk
      have htl2 : tk < tables.length := by omega
      have q0 : (tk : Int) < (tables.length : Int) := by omega
      obtain ⟨tb, tof, rfl, htb, hcc⟩ := (HT.out.ext HX2.out).at_ (by simp [ncells]; omega)
      have z0 : w2.cell? ⟨tb, tof + tk, none⟩ = some (.int .i64 tables[tk]) := by rw [hcc tk (by simp [ncells]; exact htl2)]; simp [ncells, htl2]
      have HTV : Hid (tabAt tables (tk : Int) = tables[tk]) := Lib.hid (by unfold tabAt; rw [Int.toNat_natCast, List.getD_eq_getElem?_getD, List.getElem?_eq_getElem htl2]; rfl)
      rw [HTV.out] at HA
      clear hcc hin
      generalize tables[tk] = tv at *
      obtain ⟨cb, HCB⟩ : ∃ b : Bool, Hid (inP col tv = b) := ⟨_, Lib.hid rfl⟩
      have e5 := HCB.out
      rcases h3 with rfl | rfl | rfl <;> cases cb
      · clear h7
        go_quiet ((go_at_call 49; exact Calls.quiet_of_same ((oneC_any _ _ _).mono fun e w' h => ⟨h.1, h.2.symm⟩)))
        rename_i nq
        go_wp2_with fail
        go_meet
        exact ⟨by rw [← HA.out]; simp [e0, e5], Lib.hid (ext_dnR _ _)⟩
      · clear h7
        go_quiet ((go_at_call 49; exact Calls.quiet_of_same ((oneC_any _ _ _).mono fun e w' h => ⟨h.1, h.2.symm⟩)))
        rename_i nq
        go_wp2_with fail
        go_meet
        exact ⟨by rw [← HA.out]; simp [e0, e5], Lib.hid (ext_dnR _ _)⟩
      · clear h7
        go_quiet ((go_at_call 49; exact Calls.quiet_of_same ((oneC_any _ _ _).mono fun e w' h => ⟨h.1, h.2.symm⟩)))
        rename_i nq
        go_wp2_with fail
        go_meet
        exact ⟨by rw [← HA.out]; simp [e0, e5], Lib.hid (ext_dnR _ _)⟩
      · clear h7
        go_quiet ((go_at_call 49; exact Calls.quiet_of_same ((oneC_any _ _ _).mono fun e w' h => ⟨h.1, h.2.symm⟩)))
        rename_i nq
        go_wp2_with fail
        go_meet
        exact ⟨by rw [← HA.out]; simp [e0, e5], Lib.hid (ext_dnR _ _)⟩
      · clear h7
        go_quiet ((go_at_call 49; exact Calls.quiet_of_same ((oneC_any _ _ _).mono fun e w' h => ⟨h.1, h.2.symm⟩)))
        rename_i nq
        go_wp2_with fail
        go_meet
        exact ⟨by rw [← HA.out]; simp [e0, e5], Lib.hid (ext_dnR _ _)⟩
      · clear h7
        go_quiet ((go_at_call 49; exact Calls.quiet_of_same ((oneC_any _ _ _).mono fun e w' h => ⟨h.1, h.2.symm⟩)))
        rename_i nq
        go_wp2_with fail
        go_meet
        exact ⟨by rw [← HA.out]; simp [e0, e5], Lib.hid (ext_dnR _ _)⟩
  case rest =>
  obtain ⟨rfl, hx⟩ := hcut
  have HX3 := Lib.hid (HX2.out.trans hx.out)
  have HB3 := Lib.hid (HB2.out.ext hx.out)
  clear hx y0 y3 y5 HX2 HB2
  generalize wc = w3 at *
  have HTR : Hid (A = false → op = 5 → 0 ≤ table ∧ table < (tables.length : Int)) := Lib.hid fun h1 h2 => by
    subst h2
    rw [← HA.out] at h1
    cases ht : inP table (tables.length : Int) with
    | true => exact in_yes ht
    | false => rw [ht] at h1; cases h1
  clear HA
  cases A with
  | true =>
    have HF : Hid (bb = false) := Lib.hid (by rw [← HO.out]; rfl)
    go_wp2_with fail
    go_ret
    rw [HF.out]
    exact ⟨rfl, HX3.out⟩
  | false =>
  replace HO := Lib.hid ((if_neg Bool.false_ne_true).symm.trans HO.out)
  replace HTR := Lib.hid (HTR.out rfl)
  have y0 : w3.cell? ⟨g, 0, none⟩ = some (.int .u8 op) := HB3.out.cell 0
  have y6 : w3.cell? ⟨g, 6, none⟩ = some (.int .i64 var) := HB3.out.cell 6
  have y7 : w3.cell? ⟨g, 7, none⟩ = some (.int .i64 goes) := HB3.out.cell 7
  go_upto_region 6 with fail
  obtain ⟨B, HB⟩ : ∃ b : Bool, Hid ((((op == 3 || (op == 7 || (op == 8 || (op == 12 || op == 13)))) && !inP var (v : Int)) || ((decide (10 ≤ op) && decide (op ≤ 13)) && !inP goes (size : Int))) = b) := ⟨_, Lib.hid rfl⟩
  rw [HB.out] at HO
  go_cut [116] from 68 to 115 (fun s wx => s = .bool B ∧ Hid (Ext w3 wx))
  case first =>
    clear HO
    obtain ⟨vb, HVB⟩ : ∃ b : Bool, Hid (inP var (v : Int) = b) := ⟨_, Lib.hid rfl⟩
    obtain ⟨sz, HSZ⟩ : ∃ b : Bool, Hid (inP goes (size : Int) = b) := ⟨_, Lib.hid rfl⟩
    rw [HVB.out, HSZ.out] at HB
    by_cases h3 : op = 3
    · subst h3
      skip
      cases vb with
      | false =>
        go_wp2_with fail
        refine (oneC_any _ _ w3).mono ?_
        rintro e _ ⟨rfl, rfl⟩
        rw [HVB.out]
        go_wp2_with fail
        go_meet
        exact ⟨by rw [← HB.out]; simp [], Lib.hid (Ext.refl _)⟩
      | true =>
        go_wp2_with fail
        refine (oneC_any _ _ w3).mono ?_
        rintro e _ ⟨rfl, rfl⟩
        rw [HVB.out]
        go_wp2_with fail
        go_meet
        exact ⟨by rw [← HB.out]; simp [], Lib.hid (Ext.refl _)⟩
    by_cases h7 : op = 7
    · subst h7
      clear h3
      cases vb with
      | false =>
        go_wp2_with fail
        refine (oneC_any _ _ w3).mono ?_
        rintro e _ ⟨rfl, rfl⟩
        rw [HVB.out]
        go_wp2_with fail
        go_meet
        exact ⟨by rw [← HB.out]; simp [], Lib.hid (Ext.refl _)⟩
      | true =>
        go_wp2_with fail
        refine (oneC_any _ _ w3).mono ?_
        rintro e _ ⟨rfl, rfl⟩
        rw [HVB.out]
        go_wp2_with fail
        go_meet
        exact ⟨by rw [← HB.out]; simp [], Lib.hid (Ext.refl _)⟩
    by_cases h8 : op = 8
    · subst h8
      clear h3 h7
      cases vb with
      | false =>
        go_wp2_with fail
        refine (oneC_any _ _ w3).mono ?_
        rintro e _ ⟨rfl, rfl⟩
        rw [HVB.out]
        go_wp2_with fail
        go_meet
        exact ⟨by rw [← HB.out]; simp [], Lib.hid (Ext.refl _)⟩
      | true =>
        go_wp2_with fail
        refine (oneC_any _ _ w3).mono ?_
        rintro e _ ⟨rfl, rfl⟩
        rw [HVB.out]
        go_wp2_with fail
        go_meet
        exact ⟨by rw [← HB.out]; simp [], Lib.hid (Ext.refl _)⟩
    by_cases h12 : op = 12
    · subst h12
      clear h3 h7 h8
      cases vb with
      | false =>
        go_wp2_with fail
        refine (oneC_any _ _ w3).mono ?_
        rintro e _ ⟨rfl, rfl⟩
        rw [HVB.out]
        go_wp2_with fail
        go_meet
        exact ⟨by rw [← HB.out]; simp [], Lib.hid (Ext.refl _)⟩
      | true =>
        go_wp2_with fail
        refine (oneC_any _ _ w3).mono ?_
        rintro e _ ⟨rfl, rfl⟩
        rw [HVB.out]
        cases sz with
        | false =>
          go_wp2_with fail
          refine (oneC_any _ _ w3).mono ?_
          rintro e _ ⟨rfl, rfl⟩
          rw [HSZ.out]
          go_wp2_with fail
          go_meet
          exact ⟨by rw [← HB.out]; simp [], Lib.hid (Ext.refl _)⟩
        | true =>
          go_wp2_with fail
          refine (oneC_any _ _ w3).mono ?_
          rintro e _ ⟨rfl, rfl⟩
          rw [HSZ.out]
          go_wp2_with fail
          go_meet
          exact ⟨by rw [← HB.out]; simp [], Lib.hid (Ext.refl _)⟩
    by_cases h13 : op = 13
    · subst h13
      clear h3 h7 h8 h12
      cases vb with
      | false =>
        go_wp2_with fail
        refine (oneC_any _ _ w3).mono ?_
        rintro e _ ⟨rfl, rfl⟩
        rw [HVB.out]
        go_wp2_with fail
        go_meet
        exact ⟨by rw [← HB.out]; simp [], Lib.hid (Ext.refl _)⟩
      | true =>
        go_wp2_with fail
        refine (oneC_any _ _ w3).mono ?_
        rintro e _ ⟨rfl, rfl⟩
        rw [HVB.out]
        cases sz with
        | false =>
          go_wp2_with fail
          refine (oneC_any _ _ w3).mono ?_
          rintro e _ ⟨rfl, rfl⟩
          rw [HSZ.out]
          go_wp2_with fail
          go_meet
          exact ⟨by rw [← HB.out]; simp [], Lib.hid (Ext.refl _)⟩
        | true =>
          go_wp2_with fail
          refine (oneC_any _ _ w3).mono ?_
          rintro e _ ⟨rfl, rfl⟩
          rw [HSZ.out]
          go_wp2_with fail
          go_meet
          exact ⟨by rw [← HB.out]; simp [], Lib.hid (Ext.refl _)⟩
    have e3 : (op == 3) = false := beq_eq_false_iff_ne.2 h3
    have e7 : (op == 7) = false := beq_eq_false_iff_ne.2 h7
    have e8 : (op == 8) = false := beq_eq_false_iff_ne.2 h8
    have e12 : (op == 12) = false := beq_eq_false_iff_ne.2 h12
    have e13 : (op == 13) = false := beq_eq_false_iff_ne.2 h13
    by_cases h10 : 10 ≤ op
    rotate_left
    · have f0 : decide (10 ≤ op) = false := decide_eq_false h10
      have f1 : decide (op ≥ 10) = false := f0
      clear h3 h7 h8 h10 h12 h13
      go_wp2_with fail
      go_meet
      exact ⟨by rw [← HB.out]; simp [f0, e3, e7, e8, e12, e13], Lib.hid (Ext.refl _)⟩
    have f0 : decide (10 ≤ op) = true := decide_eq_true h10
    have f1 : decide (op ≥ 10) = true := f0
    by_cases h14 : op ≤ 13
    rotate_left
    · have f2 : decide (op ≤ 13) = false := decide_eq_false h14
      clear h3 h7 h8 h10 h12 h13 h14
      go_wp2_with fail
      go_meet
      exact ⟨by rw [← HB.out]; simp [f0, f2, e3, e7, e8, e12, e13], Lib.hid (Ext.refl _)⟩
    have f2 : decide (op ≤ 13) = true := decide_eq_true h14
    clear h3 h7 h8 h10 h12 h13 h14
    cases sz with
    | false =>
      go_wp2_with fail
      refine (oneC_any _ _ w3).mono ?_
      rintro e _ ⟨rfl, rfl⟩
      rw [HSZ.out]
      go_wp2_with fail
      go_meet
      exact ⟨by rw [← HB.out]; simp [f0, f2, e3, e7, e8, e12, e13], Lib.hid (Ext.refl _)⟩
    | true =>
      go_wp2_with fail
      refine (oneC_any _ _ w3).mono ?_
      rintro e _ ⟨rfl, rfl⟩
      rw [HSZ.out]
      go_wp2_with fail
      go_meet
      exact ⟨by rw [← HB.out]; simp [f0, f2, e3, e7, e8, e12, e13], Lib.hid (Ext.refl _)⟩
  case rest =>
  obtain ⟨rfl, hx⟩ := hcut
  have HX4 := Lib.hid (HX3.out.trans hx.out)
  have HB4 := Lib.hid (HB3.out.ext hx.out)
  clear hx y0 y6 y7 HX3 HB3
  generalize wc = w4 at *
  clear HB
  cases B with
  | true =>
    have HF : Hid (bb = false) := Lib.hid (by rw [← HO.out]; rfl)
    go_wp2_with fail
    go_ret
    rw [HF.out]
    exact ⟨rfl, HX4.out⟩
  | false =>
  replace HO := Lib.hid ((if_neg Bool.false_ne_true).symm.trans HO.out)
  have y0 : w4.cell? ⟨g, 0, none⟩ = some (.int .u8 op) := HB4.out.cell 0
  have y2 : w4.cell? ⟨g, 2, none⟩ = some (.int .u8 mode) := HB4.out.cell 2
  have y4 : w4.cell? ⟨g, 4, none⟩ = some (.bool row) := HB4.out.cell 4
  go_upto_region 8 with fail
  obtain ⟨C, HC⟩ : ∃ b : Bool, Hid (((op == 1) && (mode != 3 && (mode != 5 && (row || (mode != 1 && mode != 2))))) = b) := ⟨_, Lib.hid rfl⟩
  rw [HC.out] at HO
  go_cut [143] from 117 to 142 (fun s wx => s = .bool C ∧ Hid (Ext w4 wx))
  case first =>
    clear HO
    by_cases h1 : op = 1
    rotate_left
    · have e1 : (op == 1) = false := beq_eq_false_iff_ne.2 h1
      clear h1
      go_wp2_with fail
      go_meet
      exact ⟨by rw [← HC.out]; simp [e1], Lib.hid (Ext.refl _)⟩
    subst h1
    by_cases m3 : mode = 3
    · subst m3
      go_wp2_with fail
      go_meet
      exact ⟨by rw [← HC.out]; simp [], Lib.hid (Ext.refl _)⟩
    have e3 : (mode != 3) = true := bne_iff_ne.2 m3
    have f3 : (mode == 3) = false := beq_eq_false_iff_ne.2 m3
    by_cases m5 : mode = 5
    · subst m5
      go_wp2_with fail
      go_meet
      exact ⟨by rw [← HC.out]; simp [], Lib.hid (Ext.refl _)⟩
    have e5 : (mode != 5) = true := bne_iff_ne.2 m5
    have f5 : (mode == 5) = false := beq_eq_false_iff_ne.2 m5
    cases row with
    | true =>
      clear m3 m5
      go_wp2_with fail
      go_meet
      exact ⟨by rw [← HC.out]; simp [e3, e5], Lib.hid (Ext.refl _)⟩
    | false =>
      by_cases m1 : mode = 1
      · subst m1
        clear m3 m5
        go_wp2_with fail
        go_meet
        exact ⟨by rw [← HC.out]; simp [e3, e5], Lib.hid (Ext.refl _)⟩
      have e1 : (mode != 1) = true := bne_iff_ne.2 m1
      have f1 : (mode == 1) = false := beq_eq_false_iff_ne.2 m1
      by_cases m2 : mode = 2
      · subst m2
        clear m3 m5
        go_wp2_with fail
        go_meet
        exact ⟨by rw [← HC.out]; simp [e3, e5], Lib.hid (Ext.refl _)⟩
      have e2 : (mode != 2) = true := bne_iff_ne.2 m2
      have f2 : (mode == 2) = false := beq_eq_false_iff_ne.2 m2
      clear m1 m2 m3 m5
      go_wp2_with fail
      go_meet
      exact ⟨by rw [← HC.out]; simp [e1, e2, e3, e5], Lib.hid (Ext.refl _)⟩
  case rest =>
  obtain ⟨rfl, hx⟩ := hcut
  have HX5 := Lib.hid (HX4.out.trans hx.out)
  have HB5 := Lib.hid (HB4.out.ext hx.out)
  clear hx y0 y2 y4 HX4 HB4
  generalize wc = w5 at *
  clear HC
  cases C with
  | true =>
    have HF : Hid (bb = false) := Lib.hid (by rw [← HO.out]; rfl)
    go_wp2_with fail
    go_ret
    rw [HF.out]
    exact ⟨rfl, HX5.out⟩
  | false =>
  replace HO := Lib.hid ((if_neg Bool.false_ne_true).symm.trans HO.out)
  have y0 : w5.cell? ⟨g, 0, none⟩ = some (.int .u8 op) := HB5.out.cell 0
  have y11 : w5.cell? ⟨g, 11, none⟩ = some (.slice ka kt.length kc) := HB5.out.cell 11
  go_upto_region 10 with fail
  obtain ⟨D, HD⟩ : ∃ b : Bool, Hid (((!ky && decide (0 < (kt.length : Int))) || (ky && !gk)) = b) := ⟨_, Lib.hid rfl⟩
  rw [HD.out] at HO
  go_cut [164] from 144 to 163 (fun s wx => s = .bool D ∧ Hid (Ext w5 wx))
  case first =>
    clear HO
    have y1 : w5.cell? ⟨g, 1, none⟩ = some (.int .i64 node) := HB5.out.cell 1
    have y2 : w5.cell? ⟨g, 2, none⟩ = some (.int .u8 mode) := HB5.out.cell 2
    have y3 : w5.cell? ⟨g, 3, none⟩ = some (.int .i64 table) := HB5.out.cell 3
    have y4 : w5.cell? ⟨g, 4, none⟩ = some (.bool row) := HB5.out.cell 4
    have y5 : w5.cell? ⟨g, 5, none⟩ = some (.int .i64 col) := HB5.out.cell 5
    have y6 : w5.cell? ⟨g, 6, none⟩ = some (.int .i64 var) := HB5.out.cell 6
    have y7 : w5.cell? ⟨g, 7, none⟩ = some (.int .i64 goes) := HB5.out.cell 7
    have y8 : w5.cell? ⟨g, 8, none⟩ = some (.bool eq) := HB5.out.cell 8
    have y9 : w5.cell? ⟨g, 9, none⟩ = some (.int .i64 frm) := HB5.out.cell 9
    have y10 : w5.cell? ⟨g, 10, none⟩ = some (.int .i64 upto) := HB5.out.cell 10
    have y12 : w5.cell? ⟨g, 12, none⟩ = some (.slice va vp.length vc) := HB5.out.cell 12
    cases ky with
    | true =>
      go_wp2_with fail
      refine (HKY.out w5).mono ?_
      rintro e wa1 ⟨rfl, hxa1⟩
      have HXaa1 := Lib.hid (hxa1)
      have HBaa1 := Lib.hid (HB5.out.ext HXaa1.out)
      clear hxa1 y0 y1 y2 y3 y4 y5 y6 y7 y8 y9 y10 y11 y12
      have y0 : wa1.cell? ⟨g, 0, none⟩ = some (.int .u8 op) := HBaa1.out.cell 0
      have y1 : wa1.cell? ⟨g, 1, none⟩ = some (.int .i64 node) := HBaa1.out.cell 1
      have y2 : wa1.cell? ⟨g, 2, none⟩ = some (.int .u8 mode) := HBaa1.out.cell 2
      have y3 : wa1.cell? ⟨g, 3, none⟩ = some (.int .i64 table) := HBaa1.out.cell 3
      have y4 : wa1.cell? ⟨g, 4, none⟩ = some (.bool row) := HBaa1.out.cell 4
      have y5 : wa1.cell? ⟨g, 5, none⟩ = some (.int .i64 col) := HBaa1.out.cell 5
      have y6 : wa1.cell? ⟨g, 6, none⟩ = some (.int .i64 var) := HBaa1.out.cell 6
      have y7 : wa1.cell? ⟨g, 7, none⟩ = some (.int .i64 goes) := HBaa1.out.cell 7
      have y8 : wa1.cell? ⟨g, 8, none⟩ = some (.bool eq) := HBaa1.out.cell 8
      have y9 : wa1.cell? ⟨g, 9, none⟩ = some (.int .i64 frm) := HBaa1.out.cell 9
      have y10 : wa1.cell? ⟨g, 10, none⟩ = some (.int .i64 upto) := HBaa1.out.cell 10
      have y11 : wa1.cell? ⟨g, 11, none⟩ = some (.slice ka kt.length kc) := HBaa1.out.cell 11
      have y12 : wa1.cell? ⟨g, 12, none⟩ = some (.slice va vp.length vc) := HBaa1.out.cell 12
      go_wp2_with fail
      refine (HKY.out wa1).mono ?_
      rintro e wa2 ⟨rfl, hxa2⟩
      have HXaa2 := Lib.hid (HXaa1.out.trans hxa2)
      have HBaa2 := Lib.hid (HB5.out.ext HXaa2.out)
      clear hxa2 y0 y1 y2 y3 y4 y5 y6 y7 y8 y9 y10 y11 y12
      have y11 : wa2.cell? ⟨g, 11, none⟩ = some (.slice ka kt.length kc) := HBaa2.out.cell 11
      have HGC := Lib.hid (HGK.out (wa2.alloc (.cells #[.slice ka kt.length kc] 46)) wa2.heap.size 46 ((HX5.out.trans HXaa2.out).trans (Ext.alloc _ _)) (Blk.new _ _ _))
      go_wp2_with fail
      refine HGC.out.mono ?_
      rintro e wa3 ⟨rfl, hx3⟩
      have HX3 := Lib.hid ((HXaa2.out.trans (Ext.alloc _ _)).trans hx3)
      clear hx3 HGC y11
      cases gk
      · go_wp2_with fail
        go_meet
        exact ⟨by rw [← HD.out]; simp, HX3⟩
      · go_wp2_with fail
        go_meet
        exact ⟨by rw [← HD.out]; simp, HX3⟩
    | false =>
      go_wp2_with fail
      refine (HKY.out w5).mono ?_
      rintro e wa1 ⟨rfl, hxa1⟩
      have HXaa1 := Lib.hid (hxa1)
      have HBaa1 := Lib.hid (HB5.out.ext HXaa1.out)
      clear hxa1 y0 y1 y2 y3 y4 y5 y6 y7 y8 y9 y10 y11 y12
      have y0 : wa1.cell? ⟨g, 0, none⟩ = some (.int .u8 op) := HBaa1.out.cell 0
      have y1 : wa1.cell? ⟨g, 1, none⟩ = some (.int .i64 node) := HBaa1.out.cell 1
      have y2 : wa1.cell? ⟨g, 2, none⟩ = some (.int .u8 mode) := HBaa1.out.cell 2
      have y3 : wa1.cell? ⟨g, 3, none⟩ = some (.int .i64 table) := HBaa1.out.cell 3
      have y4 : wa1.cell? ⟨g, 4, none⟩ = some (.bool row) := HBaa1.out.cell 4
      have y5 : wa1.cell? ⟨g, 5, none⟩ = some (.int .i64 col) := HBaa1.out.cell 5
      have y6 : wa1.cell? ⟨g, 6, none⟩ = some (.int .i64 var) := HBaa1.out.cell 6
      have y7 : wa1.cell? ⟨g, 7, none⟩ = some (.int .i64 goes) := HBaa1.out.cell 7
      have y8 : wa1.cell? ⟨g, 8, none⟩ = some (.bool eq) := HBaa1.out.cell 8
      have y9 : wa1.cell? ⟨g, 9, none⟩ = some (.int .i64 frm) := HBaa1.out.cell 9
      have y10 : wa1.cell? ⟨g, 10, none⟩ = some (.int .i64 upto) := HBaa1.out.cell 10
      have y11 : wa1.cell? ⟨g, 11, none⟩ = some (.slice ka kt.length kc) := HBaa1.out.cell 11
      have y12 : wa1.cell? ⟨g, 12, none⟩ = some (.slice va vp.length vc) := HBaa1.out.cell 12
      by_cases hz : 0 < (kt.length : Int)
      · have e0 : decide ((kt.length : Int) > 0) = true := decide_eq_true hz
        have e1 : decide (0 < (kt.length : Int)) = true := decide_eq_true hz
        have e2 : decide (0 < kt.length) = true := decide_eq_true (by omega)
        clear hz
        go_wp2_with fail
        go_meet
        exact ⟨by rw [← HD.out]; simp [e1, e2], HXaa1⟩
      have e0 : decide ((kt.length : Int) > 0) = false := decide_eq_false hz
      have e1 : decide (0 < (kt.length : Int)) = false := decide_eq_false hz
      have e2 : decide (0 < kt.length) = false := decide_eq_false (by omega)
      clear hz
      go_wp2_with fail
      refine (HKY.out wa1).mono ?_
      rintro e wa2 ⟨rfl, hxa2⟩
      have HXaa2 := Lib.hid (HXaa1.out.trans hxa2)
      have HBaa2 := Lib.hid (HB5.out.ext HXaa2.out)
      clear hxa2 y0 y1 y2 y3 y4 y5 y6 y7 y8 y9 y10 y11 y12
      go_wp2_with fail
      go_meet
      exact ⟨by rw [← HD.out]; simp [e1, e2], HXaa2⟩
  case rest =>
  obtain ⟨rfl, hx⟩ := hcut
  have HX6 := Lib.hid (HX5.out.trans hx.out)
  have HB6 := Lib.hid (HB5.out.ext hx.out)
  clear hx y0 y11 HX5 HB5
  generalize wc = w6 at *
  clear HD
  cases D with
  | true =>
    have HF : Hid (bb = false) := Lib.hid (by rw [← HO.out]; rfl)
    go_wp2_with fail
    go_ret
    rw [HF.out]
    exact ⟨rfl, HX6.out⟩
  | false =>
  replace HO := Lib.hid ((if_neg Bool.false_ne_true).symm.trans HO.out)
  have y0 : w6.cell? ⟨g, 0, none⟩ = some (.int .u8 op) := HB6.out.cell 0
  have y1 : w6.cell? ⟨g, 1, none⟩ = some (.int .i64 node) := HB6.out.cell 1
  have y2 : w6.cell? ⟨g, 2, none⟩ = some (.int .u8 mode) := HB6.out.cell 2
  have y3 : w6.cell? ⟨g, 3, none⟩ = some (.int .i64 table) := HB6.out.cell 3
  have y4 : w6.cell? ⟨g, 4, none⟩ = some (.bool row) := HB6.out.cell 4
  have y5 : w6.cell? ⟨g, 5, none⟩ = some (.int .i64 col) := HB6.out.cell 5
  have y6 : w6.cell? ⟨g, 6, none⟩ = some (.int .i64 var) := HB6.out.cell 6
  have y7 : w6.cell? ⟨g, 7, none⟩ = some (.int .i64 goes) := HB6.out.cell 7
  have y8 : w6.cell? ⟨g, 8, none⟩ = some (.bool eq) := HB6.out.cell 8
  have y9 : w6.cell? ⟨g, 9, none⟩ = some (.int .i64 frm) := HB6.out.cell 9
  have y10 : w6.cell? ⟨g, 10, none⟩ = some (.int .i64 upto) := HB6.out.cell 10
  have y11 : w6.cell? ⟨g, 11, none⟩ = some (.slice ka kt.length kc) := HB6.out.cell 11
  have y12 : w6.cell? ⟨g, 12, none⟩ = some (.slice va vp.length vc) := HB6.out.cell 12
  have HBL := Lib.hid HB6.out.lt
  go_upto_region 12 with fail
  have hbb := HO.out
  obtain ⟨vq, HVQ⟩ : ∃ b : Bool, Hid (((vp.length : Int) == vv) = b) := ⟨_, Lib.hid rfl⟩
  rw [HVQ.out] at hbb
  have dq := HVQ.out
  subst hbb
  clear HO
  cases vq with
  | true =>
    apply wp_region_ext (by kernel_rfl) (by kernel_rfl) (by kernel_rfl)
    apply step_det (.pointer (some ⟨g, 12, none⟩)) rfl rfl rfl
    · intro w' hw' hH
      clear hH
      simp [YieldsF, go_sem]
      exact Ext.refl _
    apply step_det (.slice va vp.length vc) rfl rfl rfl
    · intro w' hw' hH
      clear hH
      have z12 := (hw'.cell (p := ⟨g, 12, none⟩) HBL.out).trans y12
      simp [YieldsF, go_sem, z12]
      exact Ext.refl _
    apply step_det (.int .i64 (vp.length : Int)) rfl rfl rfl
    · intro w' hw' hH
      clear hH
      simp [YieldsF, go_sem]
      exact Ext.refl _
    apply step_det (.agg #[.int .u8 op, .int .i64 node, .int .u8 mode, .int .i64 table, .bool row, .int .i64 col, .int .i64 var, .int .i64 goes, .bool eq, .int .i64 frm, .int .i64 upto, .slice ka kt.length kc, .slice va vp.length vc]) rfl rfl rfl
    · intro w' hw' hH
      clear hH
      have z0 := (hw'.cell (p := ⟨g, 0, none⟩) HBL.out).trans y0
      have z1 := (hw'.cell (p := ⟨g, 1, none⟩) HBL.out).trans y1
      have z2 := (hw'.cell (p := ⟨g, 2, none⟩) HBL.out).trans y2
      have z3 := (hw'.cell (p := ⟨g, 3, none⟩) HBL.out).trans y3
      have z4 := (hw'.cell (p := ⟨g, 4, none⟩) HBL.out).trans y4
      have z5 := (hw'.cell (p := ⟨g, 5, none⟩) HBL.out).trans y5
      have z6 := (hw'.cell (p := ⟨g, 6, none⟩) HBL.out).trans y6
      have z7 := (hw'.cell (p := ⟨g, 7, none⟩) HBL.out).trans y7
      have z8 := (hw'.cell (p := ⟨g, 8, none⟩) HBL.out).trans y8
      have z9 := (hw'.cell (p := ⟨g, 9, none⟩) HBL.out).trans y9
      have z10 := (hw'.cell (p := ⟨g, 10, none⟩) HBL.out).trans y10
      have z11 := (hw'.cell (p := ⟨g, 11, none⟩) HBL.out).trans y11
      have z12 := (hw'.cell (p := ⟨g, 12, none⟩) HBL.out).trans y12
      simp [YieldsF, go_sem, z0, z1, z2, z3, z4, z5, z6, z7, z8, z9, z10, z11, z12]
      exact Ext.refl _
    apply step_det (.slice tA tables.length tc) rfl rfl rfl
    · intro w' hw' hH
      clear hH
      simp [YieldsF, go_sem]
      exact Ext.refl _
    apply step_det (.int .i64 vv) rfl rfl rfl
    · intro w' hw' hH
      clear hH
      simp [YieldsF, go_sem]
      refine (HVL.out HTR.out w' (HX6.out.trans hw')).mono ?_
      rintro e w2 ⟨rfl, hx2⟩
      exact ⟨_, rfl, rfl, hx2⟩
    apply step_det (.bool true) rfl rfl rfl
    · intro w' hw' hH
      clear hH
      simp [YieldsF, go_sem, dq]
      exact Ext.refl _
    apply step_det (.bool true) rfl rfl rfl
    · intro w' hw' hH
      clear hH
      simp [YieldsF, go_sem]
      exact Ext.refl _
    apply step_on (.int .i64 (v : Int)) (by kernel_rfl) rfl rfl
    · intro w' hw' hH
      clear hH
      simp [YieldsF, go_sem]
      exact Ext.refl _
    apply step_on (.pointer (some ⟨g, 12, none⟩)) (by kernel_rfl) rfl rfl
    · intro w' hw' hH
      clear hH
      simp [YieldsF, go_sem]
      exact Ext.refl _
    apply step_on (.slice va vp.length vc) (by kernel_rfl) rfl rfl
    · intro w' hw' hH
      clear hH
      have z12 := (hw'.cell (p := ⟨g, 12, none⟩) HBL.out).trans y12
      simp [YieldsF, go_sem, z12]
      exact Ext.refl _
    apply step_on (.bool gv) (by kernel_rfl) rfl rfl
    · intro w' hw' hH
      clear hH
      simp [YieldsF, go_sem]
      refine (HGV.out w' (HX6.out.trans hw')).mono ?_
      rintro e w2 ⟨rfl, hx2⟩
      exact ⟨_, rfl, rfl, hx2⟩
    apply step_det (.bool gv) rfl rfl rfl
    · intro w' hw' hH
      clear hH
      simp [YieldsF, go_sem]
      exact Ext.refl _
    apply step_det (.bool gv) rfl rfl rfl
    · intro w' hw' hH
      clear hH
      simp [YieldsF, go_sem]
      exact Ext.refl _
    apply WalkF_nil
    intro wz hxz hH
    clear hH
    try simp only [Act.put, List.setIfInBounds_toArray, List.set_cons_zero, List.set_cons_succ]
    have HXZ := Lib.hid (HX6.out.trans hxz)
    clear hxz y0 y1 y2 y3 y4 y5 y6 y7 y8 y9 y10 y11 y12
    go_wp2_with fail
    go_ret
    exact ⟨by simp, HXZ.out⟩
  | false =>
    apply wp_region_ext (by kernel_rfl) (by kernel_rfl) (by kernel_rfl)
    apply step_det (.pointer (some ⟨g, 12, none⟩)) rfl rfl rfl
    · intro w' hw' hH
      clear hH
      simp [YieldsF, go_sem]
      exact Ext.refl _
    apply step_det (.slice va vp.length vc) rfl rfl rfl
    · intro w' hw' hH
      clear hH
      have z12 := (hw'.cell (p := ⟨g, 12, none⟩) HBL.out).trans y12
      simp [YieldsF, go_sem, z12]
      exact Ext.refl _
    apply step_det (.int .i64 (vp.length : Int)) rfl rfl rfl
    · intro w' hw' hH
      clear hH
      simp [YieldsF, go_sem]
      exact Ext.refl _
    apply step_det (.agg #[.int .u8 op, .int .i64 node, .int .u8 mode, .int .i64 table, .bool row, .int .i64 col, .int .i64 var, .int .i64 goes, .bool eq, .int .i64 frm, .int .i64 upto, .slice ka kt.length kc, .slice va vp.length vc]) rfl rfl rfl
    · intro w' hw' hH
      clear hH
      have z0 := (hw'.cell (p := ⟨g, 0, none⟩) HBL.out).trans y0
      have z1 := (hw'.cell (p := ⟨g, 1, none⟩) HBL.out).trans y1
      have z2 := (hw'.cell (p := ⟨g, 2, none⟩) HBL.out).trans y2
      have z3 := (hw'.cell (p := ⟨g, 3, none⟩) HBL.out).trans y3
      have z4 := (hw'.cell (p := ⟨g, 4, none⟩) HBL.out).trans y4
      have z5 := (hw'.cell (p := ⟨g, 5, none⟩) HBL.out).trans y5
      have z6 := (hw'.cell (p := ⟨g, 6, none⟩) HBL.out).trans y6
      have z7 := (hw'.cell (p := ⟨g, 7, none⟩) HBL.out).trans y7
      have z8 := (hw'.cell (p := ⟨g, 8, none⟩) HBL.out).trans y8
      have z9 := (hw'.cell (p := ⟨g, 9, none⟩) HBL.out).trans y9
      have z10 := (hw'.cell (p := ⟨g, 10, none⟩) HBL.out).trans y10
      have z11 := (hw'.cell (p := ⟨g, 11, none⟩) HBL.out).trans y11
      have z12 := (hw'.cell (p := ⟨g, 12, none⟩) HBL.out).trans y12
      simp [YieldsF, go_sem, z0, z1, z2, z3, z4, z5, z6, z7, z8, z9, z10, z11, z12]
      exact Ext.refl _
    apply step_det (.slice tA tables.length tc) rfl rfl rfl
    · intro w' hw' hH
      clear hH
      simp [YieldsF, go_sem]
      exact Ext.refl _
    apply step_det (.int .i64 vv) rfl rfl rfl
    · intro w' hw' hH
      clear hH
      simp [YieldsF, go_sem]
      refine (HVL.out HTR.out w' (HX6.out.trans hw')).mono ?_
      rintro e w2 ⟨rfl, hx2⟩
      exact ⟨_, rfl, rfl, hx2⟩
    apply step_det (.bool false) rfl rfl rfl
    · intro w' hw' hH
      clear hH
      simp [YieldsF, go_sem, dq]
      exact Ext.refl _
    apply step_det (.bool false) rfl rfl rfl
    · intro w' hw' hH
      clear hH
      simp [YieldsF, go_sem]
      exact Ext.refl _
    apply step_off (by kernel_rfl) rfl
    apply step_off (by kernel_rfl) rfl
    apply step_off (by kernel_rfl) rfl
    apply step_off (by kernel_rfl) rfl
    apply step_det (.bool false) rfl rfl rfl
    · intro w' hw' hH
      clear hH
      simp [YieldsF, go_sem]
      exact Ext.refl _
    apply step_det (.bool false) rfl rfl rfl
    · intro w' hw' hH
      clear hH
      simp [YieldsF, go_sem]
      exact Ext.refl _
    apply WalkF_nil
    intro wz hxz hH
    clear hH
    try simp only [Act.put, List.setIfInBounds_toArray, List.set_cons_zero, List.set_cons_succ]
    have HXZ := Lib.hid (HX6.out.trans hxz)
    clear hxz y0 y1 y2 y3 y4 y5 y6 y7 y8 y9 y10 y11 y12
    go_wp2_with fail
    go_ret
    exact ⟨by simp, HXZ.out⟩
end Go.Proofs.Ytngbpaiohfokbaa
