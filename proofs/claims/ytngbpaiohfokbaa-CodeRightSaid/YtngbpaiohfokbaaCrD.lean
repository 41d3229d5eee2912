/- interlockref08.one, walked: whether an instruction is as the table says. Condition: few terms, values, variables. -/
import Derived.Test.YtngbpaiohfokbaaCrA
import Derived.Test.YtngbpaiohfokbaaCrC
import Derived.Deep.CutRange
import Derived.BigQuiet
namespace Go.Proofs.Ytngbpaiohfokbaa
open Go Go.RowKit
set_option linter.unusedVariables false
set_option linter.unusedSimpArgs false
def hasP (op c : Int) : Bool := hasB (partS op) c
theorem has_ct (op : Int) (h0 : 1 ≤ op) (h1 : op ≤ 16) : (hasP op 99 = true → hasP op 116 = true) ∧ (hasP op 110 = true → hasP op 116 = true) := by
  have hc : op = 1 ∨ op = 2 ∨ op = 3 ∨ op = 4 ∨ op = 5 ∨ op = 6 ∨ op = 7 ∨ op = 8 ∨ op = 9 ∨ op = 10 ∨ op = 11 ∨ op = 12 ∨ op = 13 ∨ op = 14 ∨ op = 15 ∨ op = 16 := by omega
  rcases hc with rfl | rfl | rfl | rfl | rfl | rfl | rfl | rfl | rfl | rfl | rfl | rfl | rfl | rfl | rfl | rfl <;> decide
def tabAt (tables : List Int) (i : Int) : Int := tables.getD i.toNat 0
def wantR (op : Int) (tables : List Int) (table : Int) : Int := if hasP op 110 = true then tabAt tables table else if hasP op 50 = true then 2 else if hasP op 49 = true then 1 else 0
def keyR (op : Int) (row : Bool) : Bool := hasP op 114 || (hasP op 107 && row)
def oneR (f : FullI) (tables : List Int) (v size : Nat) : Bool :=
  if f.x.op < 1 ∨ 16 < f.x.op then false
  else if (hasP f.x.op 116 && (decide (f.x.table < 0) || decide ((tables.length : Int) ≤ f.x.table))) = true then false
  else if (!hasP f.x.op 116 && f.x.table != 0) = true then false
  else if (f.x.row && !hasP f.x.op 107) = true then false
  else if (keyR f.x.op f.x.row && !goodR v f.kt) = true then false
  else if (!keyR f.x.op f.x.row && decide (0 < (f.kt.length : Int))) = true then false
  else if (hasP f.x.op 109 && (f.x.mode != 3 && (f.x.mode != 5 && (f.x.row || (f.x.mode != 1 && f.x.mode != 2))))) = true then false
  else if (!hasP f.x.op 109 && f.x.mode != 0) = true then false
  else if (hasP f.x.op 99 && (decide (f.x.col < 0) || decide (tabAt tables f.x.table ≤ f.x.col))) = true then false
  else if (!hasP f.x.op 99 && f.x.col != 0) = true then false
  else if (hasP f.x.op 118 && (decide (f.x.var < 0) || decide ((v : Int) ≤ f.x.var))) = true then false
  else if (!hasP f.x.op 118 && f.x.var != 0) = true then false
  else if (hasP f.x.op 111 && (decide (f.x.goes < 0) || decide ((size : Int) ≤ f.x.goes))) = true then false
  else if (!hasP f.x.op 111 && f.x.goes != 0) = true then false
  else if (!hasP f.x.op 101 && f.x.eq) = true then false
  else if (!hasP f.x.op 102 && f.x.frm != 0) = true then false
  else if (!hasP f.x.op 117 && f.x.upto != 0) = true then false
  else valsB (wantR f.x.op tables f.x.table) v f.vp
theorem ext_dnR (w : World) (n : Nat) : Ext w (w.drewN n) := ⟨rfl, rfl, rfl, Nat.le_refl _, fun _ _ => rfl⟩
set_option maxRecDepth 100000 in
set_option maxHeartbeats 32000000 in
theorem rone_any (f : FullI) (tA : Option Addr) (tables : List Int) (tn tc : Nat) (v size : Nat) (w : World) (htn : tn = tables.length) (htl : tables.length ≤ 1000) (hop : 0 ≤ f.x.op ∧ f.x.op < 256) (hf : f.few) (hv : v ≤ 900) (hsz : size ≤ 1000) (hat : f.At w) (hT : Cells w tA (ncells tables)) :
    Calls Try.prog 33 #[aggI f.x, .slice tA tn tc, .int .i64 (v : Int), .int .i64 (size : Int)] w fun e w' => e = .returned (.bool (oneR f tables v size)) ∧ Ext w w' := by
  subst htn
  obtain ⟨bb, HO⟩ : ∃ bb, Hid (oneR f tables v size = bb) := ⟨_, Lib.hid rfl⟩
  rw [HO.out]
  have HAT := Lib.hid hat
  have HFE := Lib.hid hf
  have HT := Lib.hid hT
  have HVA : Hid (∀ (w' : World) (want : Int), Ext w w' → Calls Try.prog 56 #[aggI f.x, .int .i64 want, .int .i64 (v : Int)] w' fun e w'' => e = .returned (.bool (valsB want v f.vp)) ∧ Ext w' w'') := Lib.hid fun w' want hx => rvals_any f want v w' hf hv (hat.ext hx) _ (Lib.hid rfl)
  have HGD : Hid (∀ w', Ext w w' → Calls Try.prog 55 #[.slice f.x.key.1 f.kt.length f.x.key.2.2, .int .i64 (v : Int)] w' fun e w'' => e = .returned (.bool (goodR v f.kt)) ∧ Ext w' w'') := Lib.hid fun w' hx => rgood_any _ _ _ _ v w' rfl hf.1 hv ((hat.key.2.2).ext hx) _ (Lib.hid rfl)
  have hkl : f.x.key.2.1 = f.kt.length := hat.key.1
  have HK9 : Hid (f.kt.length ≤ 900) := Lib.hid hf.1
  clear hat hf hT HAT HFE
  unfold oneR at HO
  obtain ⟨⟨op, node, mode, table, row, col, var, goes, eq, frm, upto, ⟨ka, kl, kc⟩, ⟨va, vl, vc⟩⟩, kt, vp⟩ := f
  simp only at hkl hop
  subst hkl
  unfold aggI at *
  dsimp only at HO HVA HGD
  have HX1 : Hid (Ext w (w.alloc (.cells #[.int .u8 op, .int .i64 node, .int .u8 mode, .int .i64 table, .bool row, .int .i64 col, .int .i64 var, .int .i64 goes, .bool eq, .int .i64 frm, .int .i64 upto, .slice ka kt.length kc, .slice va vl vc] 54))) := Lib.hid (Ext.alloc _ _)
  have HB1 : Hid (Blk (w.alloc (.cells #[.int .u8 op, .int .i64 node, .int .u8 mode, .int .i64 table, .bool row, .int .i64 col, .int .i64 var, .int .i64 goes, .bool eq, .int .i64 frm, .int .i64 upto, .slice ka kt.length kc, .slice va vl vc] 54)) w.heap.size 54 #[.int .u8 op, .int .i64 node, .int .u8 mode, .int .i64 table, .bool row, .int .i64 col, .int .i64 var, .int .i64 goes, .bool eq, .int .i64 frm, .int .i64 upto, .slice ka kt.length kc, .slice va vl vc]) := Lib.hid (Blk.new _ _ _)
  go_enter Try.func33, Try.ntmps33
  go_upto_region 1 with fail
  generalize w.heap.size = g at *
  generalize w.alloc (.cells #[.int .u8 op, .int .i64 node, .int .u8 mode, .int .i64 table, .bool row, .int .i64 col, .int .i64 var, .int .i64 goes, .bool eq, .int .i64 frm, .int .i64 upto, .slice ka kt.length kc, .slice va vl vc] 54) = w1 at *
  have y0 : w1.cell? ⟨g, 0, none⟩ = some (.int .u8 op) := HB1.out.cell 0
  by_cases hlo : op < 1
  · have HF : Hid (bb = false) := Lib.hid (by rw [← HO.out, if_pos (.inl hlo)])
    have d0 : decide (op < 1) = true := decide_eq_true hlo
    clear hlo
    go_wp2_with fail
    go_ret
    rw [HF.out]
    exact ⟨rfl, HX1.out⟩
  have d0 : decide (op < 1) = false := decide_eq_false hlo
  by_cases hhi : 16 < op
  · have HF : Hid (bb = false) := Lib.hid (by rw [← HO.out, if_pos (.inr hhi)])
    have d1 : decide (op > 16) = true := decide_eq_true hhi
    have d1' : decide (16 < op) = true := decide_eq_true hhi
    clear hhi hlo
    go_wp2_with fail
    go_ret
    rw [HF.out]
    exact ⟨rfl, HX1.out⟩
  have d1 : decide (op > 16) = false := decide_eq_false hhi
  have d1' : decide (16 < op) = false := decide_eq_false hhi
  have HCT := Lib.hid (has_ct op (by omega) (by omega))
  replace HO := Lib.hid ((if_neg (by omega)).symm.trans HO.out)
  go_wp2_with fail
  refine (rpart_any op hop.1 (by omega) w1).mono ?_
  rintro e w2 ⟨rfl, hx2⟩
  have HX2 := Lib.hid (HX1.out.trans hx2)
  have HB2 := Lib.hid (HB1.out.ext hx2)
  clear hx2 y0 d0 d1 d1' hlo hhi hop HX1 HB1
  obtain ⟨ht, H_t⟩ : ∃ b : Bool, Hid (hasP op 116 = b) := ⟨_, Lib.hid rfl⟩
  obtain ⟨hk, H_k⟩ : ∃ b : Bool, Hid (hasP op 107 = b) := ⟨_, Lib.hid rfl⟩
  obtain ⟨hr, H_r⟩ : ∃ b : Bool, Hid (hasP op 114 = b) := ⟨_, Lib.hid rfl⟩
  obtain ⟨hm, H_m⟩ : ∃ b : Bool, Hid (hasP op 109 = b) := ⟨_, Lib.hid rfl⟩
  obtain ⟨hc, H_c⟩ : ∃ b : Bool, Hid (hasP op 99 = b) := ⟨_, Lib.hid rfl⟩
  obtain ⟨hv, H_v⟩ : ∃ b : Bool, Hid (hasP op 118 = b) := ⟨_, Lib.hid rfl⟩
  obtain ⟨ho, H_o⟩ : ∃ b : Bool, Hid (hasP op 111 = b) := ⟨_, Lib.hid rfl⟩
  obtain ⟨he, H_e⟩ : ∃ b : Bool, Hid (hasP op 101 = b) := ⟨_, Lib.hid rfl⟩
  obtain ⟨hf, H_f⟩ : ∃ b : Bool, Hid (hasP op 102 = b) := ⟨_, Lib.hid rfl⟩
  obtain ⟨hu, H_u⟩ : ∃ b : Bool, Hid (hasP op 117 = b) := ⟨_, Lib.hid rfl⟩
  obtain ⟨h1, H_1⟩ : ∃ b : Bool, Hid (hasP op 49 = b) := ⟨_, Lib.hid rfl⟩
  obtain ⟨h2, H_2⟩ : ∃ b : Bool, Hid (hasP op 50 = b) := ⟨_, Lib.hid rfl⟩
  obtain ⟨hn, H_n⟩ : ∃ b : Bool, Hid (hasP op 110 = b) := ⟨_, Lib.hid rfl⟩
  have HS : Hid ((partS op).size ≤ 100) := Lib.hid (partS_len op)
  have HC_t : Hid (∀ w, Calls Try.prog 34 #[.string (partS op), .int .u8 116] w fun e w' => e = .returned (.bool ht) ∧ w = w') := Lib.hid fun w => rhas_any _ _ HS.out w _ H_t
  have HC_k : Hid (∀ w, Calls Try.prog 34 #[.string (partS op), .int .u8 107] w fun e w' => e = .returned (.bool hk) ∧ w = w') := Lib.hid fun w => rhas_any _ _ HS.out w _ H_k
  have HC_r : Hid (∀ w, Calls Try.prog 34 #[.string (partS op), .int .u8 114] w fun e w' => e = .returned (.bool hr) ∧ w = w') := Lib.hid fun w => rhas_any _ _ HS.out w _ H_r
  have HC_m : Hid (∀ w, Calls Try.prog 34 #[.string (partS op), .int .u8 109] w fun e w' => e = .returned (.bool hm) ∧ w = w') := Lib.hid fun w => rhas_any _ _ HS.out w _ H_m
  have HC_c : Hid (∀ w, Calls Try.prog 34 #[.string (partS op), .int .u8 99] w fun e w' => e = .returned (.bool hc) ∧ w = w') := Lib.hid fun w => rhas_any _ _ HS.out w _ H_c
  have HC_v : Hid (∀ w, Calls Try.prog 34 #[.string (partS op), .int .u8 118] w fun e w' => e = .returned (.bool hv) ∧ w = w') := Lib.hid fun w => rhas_any _ _ HS.out w _ H_v
  have HC_o : Hid (∀ w, Calls Try.prog 34 #[.string (partS op), .int .u8 111] w fun e w' => e = .returned (.bool ho) ∧ w = w') := Lib.hid fun w => rhas_any _ _ HS.out w _ H_o
  have HC_e : Hid (∀ w, Calls Try.prog 34 #[.string (partS op), .int .u8 101] w fun e w' => e = .returned (.bool he) ∧ w = w') := Lib.hid fun w => rhas_any _ _ HS.out w _ H_e
  have HC_f : Hid (∀ w, Calls Try.prog 34 #[.string (partS op), .int .u8 102] w fun e w' => e = .returned (.bool hf) ∧ w = w') := Lib.hid fun w => rhas_any _ _ HS.out w _ H_f
  have HC_u : Hid (∀ w, Calls Try.prog 34 #[.string (partS op), .int .u8 117] w fun e w' => e = .returned (.bool hu) ∧ w = w') := Lib.hid fun w => rhas_any _ _ HS.out w _ H_u
  have HC_1 : Hid (∀ w, Calls Try.prog 34 #[.string (partS op), .int .u8 49] w fun e w' => e = .returned (.bool h1) ∧ w = w') := Lib.hid fun w => rhas_any _ _ HS.out w _ H_1
  have HC_2 : Hid (∀ w, Calls Try.prog 34 #[.string (partS op), .int .u8 50] w fun e w' => e = .returned (.bool h2) ∧ w = w') := Lib.hid fun w => rhas_any _ _ HS.out w _ H_2
  have HC_n : Hid (∀ w, Calls Try.prog 34 #[.string (partS op), .int .u8 110] w fun e w' => e = .returned (.bool hn) ∧ w = w') := Lib.hid fun w => rhas_any _ _ HS.out w _ H_n
  obtain ⟨ky, HKY⟩ : ∃ b : Bool, Hid (keyR op row = b) := ⟨_, Lib.hid rfl⟩
  have HKE : Hid ((hr || (hk && row)) = ky) := Lib.hid (by rw [← HKY.out]; unfold keyR; rw [H_r.out, H_k.out])
  have HW : Hid (∀ x, x = wantR op tables table → x = if hn = true then tabAt tables table else if h2 = true then 2 else if h1 = true then 1 else 0) := Lib.hid fun x hx => by rw [hx]; unfold wantR; rw [H_n.out, H_2.out, H_1.out]
  replace HCT := Lib.hid (show (hc = true → ht = true) ∧ (hn = true → ht = true) by rw [← H_c.out, ← H_t.out, ← H_n.out]; exact HCT.out)
  obtain ⟨gd, HG⟩ : ∃ b : Bool, Hid (goodR v kt = b) := ⟨_, Lib.hid rfl⟩
  rw [H_t.out, H_k.out, H_m.out, H_c.out, H_v.out, H_o.out, H_e.out, H_f.out, H_u.out, HKY.out, HG.out] at HO
  rw [HG.out] at HGD
  generalize partS op = ps at *
  generalize wantR op tables table = wr at *
  clear H_t H_k H_r H_m H_c H_v H_o H_e H_f H_u H_1 H_2 H_n HS HKY HG
  have y4 : w2.cell? ⟨g, 4, none⟩ = some (.bool row) := HB2.out.cell 4
  go_upto_region 4 with fail
  go_cut [10] from 23 to 32 (fun s wx => s = .bool ky ∧ Hid (Ext w2 wx))
  case first =>
    clear HO
    cases hr with
    | true =>
      go_wp2_with fail
      refine (HC_r.out w2).mono ?_
      rintro e _ ⟨rfl, rfl⟩
      go_wp2_with fail
      go_meet
      exact ⟨by rw [← HKE.out]; simp [], Lib.hid (Ext.refl _)⟩
    | false =>
      go_wp2_with fail
      refine (HC_r.out w2).mono ?_
      rintro e _ ⟨rfl, rfl⟩
      cases hk with
      | false =>
        go_wp2_with fail
        refine (HC_k.out w2).mono ?_
        rintro e _ ⟨rfl, rfl⟩
        go_wp2_with fail
        go_meet
        exact ⟨by rw [← HKE.out]; simp [], Lib.hid (Ext.refl _)⟩
      | true =>
        go_wp2_with fail
        refine (HC_k.out w2).mono ?_
        rintro e _ ⟨rfl, rfl⟩
        cases row with
        | true =>
          go_wp2_with fail
          go_meet
          exact ⟨by rw [← HKE.out]; simp [], Lib.hid (Ext.refl _)⟩
        | false =>
          go_wp2_with fail
          go_meet
          exact ⟨by rw [← HKE.out]; simp [], Lib.hid (Ext.refl _)⟩
  case rest =>
  obtain ⟨rfl, hx⟩ := hcut
  have HX3 := Lib.hid (HX2.out.trans hx.out)
  have HB3 := Lib.hid (HB2.out.ext hx.out)
  clear hx y4 HX2 HB2
  generalize wc = w3 at *
  have y3 : w3.cell? ⟨g, 3, none⟩ = some (.int .i64 table) := HB3.out.cell 3
  go_upto_region 5 with fail
  obtain ⟨A1, HA1⟩ : ∃ b : Bool, Hid ((ht && (decide (table < 0) || decide ((tables.length : Int) ≤ table))) = b) := ⟨_, Lib.hid rfl⟩
  rw [HA1.out] at HO
  go_cut [33] from 34 to 47 (fun s wx => s = .bool A1 ∧ Hid (Ext w3 wx))
  case first =>
    clear HO
    cases ht with
    | false =>
      go_wp2_with fail
      refine (HC_t.out w3).mono ?_
      rintro e _ ⟨rfl, rfl⟩
      go_wp2_with fail
      go_meet
      exact ⟨by rw [← HA1.out]; simp [], Lib.hid (Ext.refl _)⟩
    | true =>
      go_wp2_with fail
      refine (HC_t.out w3).mono ?_
      rintro e _ ⟨rfl, rfl⟩
      by_cases hz : table < 0
      · have e0 : decide (table < 0) = true := decide_eq_true hz
        clear hz
        go_wp2_with fail
        go_meet
        exact ⟨by rw [← HA1.out]; simp [e0], Lib.hid (Ext.refl _)⟩
      have e0 : decide (table < 0) = false := decide_eq_false hz
      by_cases hy : (tables.length : Int) ≤ table
      · have e1 : decide (table ≥ (tables.length : Int)) = true := decide_eq_true hy
        have e2 : decide ((tables.length : Int) ≤ table) = true := decide_eq_true hy
        clear hy hz
        go_wp2_with fail
        go_meet
        exact ⟨by rw [← HA1.out]; simp [e0, e2], Lib.hid (Ext.refl _)⟩
      · have e1 : decide (table ≥ (tables.length : Int)) = false := decide_eq_false hy
        have e2 : decide ((tables.length : Int) ≤ table) = false := decide_eq_false hy
        clear hy hz
        go_wp2_with fail
        go_meet
        exact ⟨by rw [← HA1.out]; simp [e0, e2], Lib.hid (Ext.refl _)⟩
  case rest =>
  obtain ⟨rfl, hx⟩ := hcut
  have HX4 := Lib.hid (HX3.out.trans hx.out)
  have HB4 := Lib.hid (HB3.out.ext hx.out)
  clear hx y3 HX3 HB3
  generalize wc = w4 at *
  have HTR : Hid (A1 = false → ht = true → 0 ≤ table ∧ table < (tables.length : Int)) := Lib.hid fun h1 h2 => by
    rw [← HA1.out, h2, Bool.true_and, Bool.or_eq_false_iff, decide_eq_false_iff_not, decide_eq_false_iff_not] at h1
    omega
  clear HA1
  cases A1 with
  | true =>
    have HF : Hid (bb = false) := Lib.hid (by rw [← HO.out]; rfl)
    go_wp2_with fail
    go_ret
    rw [HF.out]
    exact ⟨rfl, HX4.out⟩
  | false =>
  replace HO := Lib.hid ((if_neg Bool.false_ne_true).symm.trans HO.out)
  replace HTR := Lib.hid (HTR.out rfl)
  have y3 : w4.cell? ⟨g, 3, none⟩ = some (.int .i64 table) := HB4.out.cell 3
  go_upto_region 6 with fail
  obtain ⟨A2, HA2⟩ : ∃ b : Bool, Hid ((!ht && table != 0) = b) := ⟨_, Lib.hid rfl⟩
  rw [HA2.out] at HO
  go_cut [33] from 48 to 55 (fun s wx => s = .bool A2 ∧ Hid (Ext w4 wx))
  case first =>
    clear HO
    cases ht with
    | true =>
      go_wp2_with fail
      refine (HC_t.out w4).mono ?_
      rintro e _ ⟨rfl, rfl⟩
      go_wp2_with fail
      go_meet
      exact ⟨by rw [← HA2.out]; simp [], Lib.hid (Ext.refl _)⟩
    | false =>
      go_wp2_with fail
      refine (HC_t.out w4).mono ?_
      rintro e _ ⟨rfl, rfl⟩
      by_cases hz : table = 0
      · subst hz
        go_wp2_with fail
        go_meet
        exact ⟨by rw [← HA2.out]; simp [], Lib.hid (Ext.refl _)⟩
      · have e0 : (table != 0) = true := bne_iff_ne.2 hz
        have e1 : (table == 0) = false := beq_eq_false_iff_ne.2 hz
        clear hz
        go_wp2_with fail
        go_meet
        exact ⟨by rw [← HA2.out]; simp [e0], Lib.hid (Ext.refl _)⟩
  case rest =>
  obtain ⟨rfl, hx⟩ := hcut
  have HX5 := Lib.hid (HX4.out.trans hx.out)
  have HB5 := Lib.hid (HB4.out.ext hx.out)
  clear hx y3 HX4 HB4
  generalize wc = w5 at *
  clear HA2
  cases A2 with
  | true =>
    have HF : Hid (bb = false) := Lib.hid (by rw [← HO.out]; rfl)
    go_wp2_with fail
    go_ret
    rw [HF.out]
    exact ⟨rfl, HX5.out⟩
  | false =>
  replace HO := Lib.hid ((if_neg Bool.false_ne_true).symm.trans HO.out)
  have y4 : w5.cell? ⟨g, 4, none⟩ = some (.bool row) := HB5.out.cell 4
  go_upto_region 8 with fail
  obtain ⟨J1, HJ1⟩ : ∃ b : Bool, Hid ((row && !hk) = b) := ⟨_, Lib.hid rfl⟩
  rw [HJ1.out] at HO
  go_cut [56] from 57 to 63 (fun s wx => s = .bool J1 ∧ Hid (Ext w5 wx))
  case first =>
    clear HO
    cases row with
    | false =>
      go_wp2_with fail
      go_meet
      exact ⟨by rw [← HJ1.out]; simp [], Lib.hid (Ext.refl _)⟩
    | true =>
      cases hk with
      | true =>
        go_wp2_with fail
        refine (HC_k.out w5).mono ?_
        rintro e _ ⟨rfl, rfl⟩
        go_wp2_with fail
        go_meet
        exact ⟨by rw [← HJ1.out]; simp [], Lib.hid (Ext.refl _)⟩
      | false =>
        go_wp2_with fail
        refine (HC_k.out w5).mono ?_
        rintro e _ ⟨rfl, rfl⟩
        go_wp2_with fail
        go_meet
        exact ⟨by rw [← HJ1.out]; simp [], Lib.hid (Ext.refl _)⟩
  case rest =>
  obtain ⟨rfl, hx⟩ := hcut
  have HX6 := Lib.hid (HX5.out.trans hx.out)
  have HB6 := Lib.hid (HB5.out.ext hx.out)
  clear hx y4 HX5 HB5
  generalize wc = w6 at *
  clear HJ1
  cases J1 with
  | true =>
    have HF : Hid (bb = false) := Lib.hid (by rw [← HO.out]; rfl)
    go_wp2_with fail
    go_ret
    rw [HF.out]
    exact ⟨rfl, HX6.out⟩
  | false =>
  replace HO := Lib.hid ((if_neg Bool.false_ne_true).symm.trans HO.out)
  have y11 : w6.cell? ⟨g, 11, none⟩ = some (.slice ka kt.length kc) := HB6.out.cell 11
  go_upto_region 9 with fail
  obtain ⟨J2, HJ2⟩ : ∃ b : Bool, Hid ((ky && !gd) = b) := ⟨_, Lib.hid rfl⟩
  rw [HJ2.out] at HO
  go_cut [56] from 64 to 71 (fun s wx => s = .bool J2 ∧ Hid (Ext w6 wx))
  case first =>
    clear HO
    cases ky with
    | false =>
      go_wp2_with fail
      go_meet
      exact ⟨by rw [← HJ2.out]; simp [], Lib.hid (Ext.refl _)⟩
    | true =>
      go_wp2_with fail
      refine (HGD.out w6 HX6.out).mono ?_
      rintro e w9 ⟨rfl, hx9⟩
      have HX9 := Lib.hid hx9
      clear hx9
      go_wp2_with fail
      go_meet
      exact ⟨by rw [← HJ2.out]; cases gd <;> rfl, HX9⟩
  case rest =>
  obtain ⟨rfl, hx⟩ := hcut
  have HX7 := Lib.hid (HX6.out.trans hx.out)
  have HB7 := Lib.hid (HB6.out.ext hx.out)
  clear hx y11 HX6 HB6
  generalize wc = w7 at *
  clear HJ2
  cases J2 with
  | true =>
    have HF : Hid (bb = false) := Lib.hid (by rw [← HO.out]; rfl)
    go_wp2_with fail
    go_ret
    rw [HF.out]
    exact ⟨rfl, HX7.out⟩
  | false =>
  replace HO := Lib.hid ((if_neg Bool.false_ne_true).symm.trans HO.out)
  have y11 : w7.cell? ⟨g, 11, none⟩ = some (.slice ka kt.length kc) := HB7.out.cell 11
  go_upto_region 10 with fail
  obtain ⟨J3, HJ3⟩ : ∃ b : Bool, Hid ((!ky && decide (0 < (kt.length : Int))) = b) := ⟨_, Lib.hid rfl⟩
  rw [HJ3.out] at HO
  go_cut [56] from 72 to 79 (fun s wx => s = .bool J3 ∧ Hid (Ext w7 wx))
  case first =>
    clear HO
    cases ky with
    | true =>
      go_wp2_with fail
      go_meet
      exact ⟨by rw [← HJ3.out]; simp [], Lib.hid (Ext.refl _)⟩
    | false =>
      by_cases hz : 0 < (kt.length : Int)
      · have e0 : decide ((kt.length : Int) > 0) = true := decide_eq_true hz
        have e1 : decide (0 < (kt.length : Int)) = true := decide_eq_true hz
        have e2 : decide (0 < kt.length) = true := decide_eq_true (by omega)
        clear hz
        go_wp2_with fail
        go_meet
        exact ⟨by rw [← HJ3.out]; simp [e1, e2], Lib.hid (Ext.refl _)⟩
      · have e0 : decide ((kt.length : Int) > 0) = false := decide_eq_false hz
        have e1 : decide (0 < (kt.length : Int)) = false := decide_eq_false hz
        have e2 : decide (0 < kt.length) = false := decide_eq_false (by omega)
        clear hz
        go_wp2_with fail
        go_meet
        exact ⟨by rw [← HJ3.out]; simp [e1, e2], Lib.hid (Ext.refl _)⟩
  case rest =>
  obtain ⟨rfl, hx⟩ := hcut
  have HX8 := Lib.hid (HX7.out.trans hx.out)
  have HB8 := Lib.hid (HB7.out.ext hx.out)
  clear hx y11 HX7 HB7
  generalize wc = w8 at *
  clear HJ3
  cases J3 with
  | true =>
    have HF : Hid (bb = false) := Lib.hid (by rw [← HO.out]; rfl)
    go_wp2_with fail
    go_ret
    rw [HF.out]
    exact ⟨rfl, HX8.out⟩
  | false =>
  replace HO := Lib.hid ((if_neg Bool.false_ne_true).symm.trans HO.out)
  have y2 : w8.cell? ⟨g, 2, none⟩ = some (.int .u8 mode) := HB8.out.cell 2
  have y4 : w8.cell? ⟨g, 4, none⟩ = some (.bool row) := HB8.out.cell 4
  go_upto_region 12 with fail
  obtain ⟨C1, HC1⟩ : ∃ b : Bool, Hid ((hm && (mode != 3 && (mode != 5 && (row || (mode != 1 && mode != 2))))) = b) := ⟨_, Lib.hid rfl⟩
  rw [HC1.out] at HO
  go_cut [80] from 81 to 106 (fun s wx => s = .bool C1 ∧ Hid (Ext w8 wx))
  case first =>
    clear HO
    cases hm with
    | false =>
      go_wp2_with fail
      refine (HC_m.out w8).mono ?_
      rintro e _ ⟨rfl, rfl⟩
      go_wp2_with fail
      go_meet
      exact ⟨by rw [← HC1.out]; simp [], Lib.hid (Ext.refl _)⟩
    | true =>
      go_wp2_with fail
      refine (HC_m.out w8).mono ?_
      rintro e _ ⟨rfl, rfl⟩
      by_cases m3 : mode = 3
      · subst m3
        go_wp2_with fail
        go_meet
        exact ⟨by rw [← HC1.out]; simp [], Lib.hid (Ext.refl _)⟩
      have e3 : (mode != 3) = true := bne_iff_ne.2 m3
      have f3 : (mode == 3) = false := beq_eq_false_iff_ne.2 m3
      by_cases m5 : mode = 5
      · subst m5
        go_wp2_with fail
        go_meet
        exact ⟨by rw [← HC1.out]; simp [], Lib.hid (Ext.refl _)⟩
      have e5 : (mode != 5) = true := bne_iff_ne.2 m5
      have f5 : (mode == 5) = false := beq_eq_false_iff_ne.2 m5
      cases row with
      | true =>
        clear m3 m5
        go_wp2_with fail
        go_meet
        exact ⟨by rw [← HC1.out]; simp [e3, e5], Lib.hid (Ext.refl _)⟩
      | false =>
        by_cases m1 : mode = 1
        · subst m1
          clear m3 m5
          go_wp2_with fail
          go_meet
          exact ⟨by rw [← HC1.out]; simp [e3, e5], Lib.hid (Ext.refl _)⟩
        have e1 : (mode != 1) = true := bne_iff_ne.2 m1
        have f1 : (mode == 1) = false := beq_eq_false_iff_ne.2 m1
        by_cases m2 : mode = 2
        · subst m2
          clear m3 m5
          go_wp2_with fail
          go_meet
          exact ⟨by rw [← HC1.out]; simp [e3, e5], Lib.hid (Ext.refl _)⟩
        have e2 : (mode != 2) = true := bne_iff_ne.2 m2
        have f2 : (mode == 2) = false := beq_eq_false_iff_ne.2 m2
        clear m1 m2 m3 m5
        go_wp2_with fail
        go_meet
        exact ⟨by rw [← HC1.out]; simp [e1, e2, e3, e5], Lib.hid (Ext.refl _)⟩
  case rest =>
  obtain ⟨rfl, hx⟩ := hcut
  have HX9 := Lib.hid (HX8.out.trans hx.out)
  have HB9 := Lib.hid (HB8.out.ext hx.out)
  clear hx y2 y4 HX8 HB8
  generalize wc = w9 at *
  clear HC1
  cases C1 with
  | true =>
    have HF : Hid (bb = false) := Lib.hid (by rw [← HO.out]; rfl)
    go_wp2_with fail
    go_ret
    rw [HF.out]
    exact ⟨rfl, HX9.out⟩
  | false =>
  replace HO := Lib.hid ((if_neg Bool.false_ne_true).symm.trans HO.out)
  have y2 : w9.cell? ⟨g, 2, none⟩ = some (.int .u8 mode) := HB9.out.cell 2
  go_upto_region 13 with fail
  obtain ⟨C2, HC2⟩ : ∃ b : Bool, Hid ((!hm && mode != 0) = b) := ⟨_, Lib.hid rfl⟩
  rw [HC2.out] at HO
  go_cut [80] from 107 to 114 (fun s wx => s = .bool C2 ∧ Hid (Ext w9 wx))
  case first =>
    clear HO
    cases hm with
    | true =>
      go_wp2_with fail
      refine (HC_m.out w9).mono ?_
      rintro e _ ⟨rfl, rfl⟩
      go_wp2_with fail
      go_meet
      exact ⟨by rw [← HC2.out]; simp [], Lib.hid (Ext.refl _)⟩
    | false =>
      go_wp2_with fail
      refine (HC_m.out w9).mono ?_
      rintro e _ ⟨rfl, rfl⟩
      by_cases hz : mode = 0
      · subst hz
        go_wp2_with fail
        go_meet
        exact ⟨by rw [← HC2.out]; simp [], Lib.hid (Ext.refl _)⟩
      · have e0 : (mode != 0) = true := bne_iff_ne.2 hz
        have e1 : (mode == 0) = false := beq_eq_false_iff_ne.2 hz
        clear hz
        go_wp2_with fail
        go_meet
        exact ⟨by rw [← HC2.out]; simp [e0], Lib.hid (Ext.refl _)⟩
  case rest =>
  obtain ⟨rfl, hx⟩ := hcut
  have HX10 := Lib.hid (HX9.out.trans hx.out)
  have HB10 := Lib.hid (HB9.out.ext hx.out)
  clear hx y2 HX9 HB9
  generalize wc = w10 at *
  clear HC2
  cases C2 with
  | true =>
    have HF : Hid (bb = false) := Lib.hid (by rw [← HO.out]; rfl)
    go_wp2_with fail
    go_ret
    rw [HF.out]
    exact ⟨rfl, HX10.out⟩
  | false =>
  replace HO := Lib.hid ((if_neg Bool.false_ne_true).symm.trans HO.out)
  have y3 : w10.cell? ⟨g, 3, none⟩ = some (.int .i64 table) := HB10.out.cell 3
  have y5 : w10.cell? ⟨g, 5, none⟩ = some (.int .i64 col) := HB10.out.cell 5
  go_upto_region 15 with fail
  obtain ⟨D1, HD1⟩ : ∃ b : Bool, Hid ((hc && (decide (col < 0) || decide (tabAt tables table ≤ col))) = b) := ⟨_, Lib.hid rfl⟩
  rw [HD1.out] at HO
  go_cut [115] from 116 to 132 (fun s wx => s = .bool D1 ∧ Hid (Ext w10 wx))
  case first =>
    clear HO
    cases hc with
    | false =>
      go_quiet ((go_at_call 34; exact Calls.quiet_of_same ((HC_c.out _).mono fun e w' h => ⟨h.1, h.2.symm⟩)))
      rename_i nq
      go_wp2_with fail
      go_meet
      exact ⟨by rw [← HD1.out]; simp [], Lib.hid (ext_dnR _ _)⟩
    | true =>
      by_cases hz : col < 0
      · have e0 : decide (col < 0) = true := decide_eq_true hz
        clear hz
        go_quiet ((go_at_call 34; exact Calls.quiet_of_same ((HC_c.out _).mono fun e w' h => ⟨h.1, h.2.symm⟩)))
        rename_i nq
        go_wp2_with fail
        go_meet
        exact ⟨by rw [← HD1.out]; simp [e0], Lib.hid (ext_dnR _ _)⟩
      have e0 : decide (col < 0) = false := decide_eq_false hz
      obtain ⟨tk, htk⟩ : ∃ tk : Nat, table = (tk : Int) := ⟨table.toNat, by have := HTR.out (HCT.out.1 (by trivial)); omega⟩
      subst htk
      have htl2 : tk < tables.length := by have := HTR.out (HCT.out.1 (by trivial)); omega
      have q0 : (tk : Int) < (tables.length : Int) := by omega
      obtain ⟨tb, tof, rfl, htb, hcc⟩ := (HT.out.ext HX10.out).at_ (by simp [ncells]; omega)
      have z0 : w10.cell? ⟨tb, tof + tk, none⟩ = some (.int .i64 tables[tk]) := by rw [hcc tk (by simp [ncells]; exact htl2)]; simp [ncells, htl2]
      have HTV : Hid (tabAt tables (tk : Int) = tables[tk]) := Lib.hid (by unfold tabAt; rw [Int.toNat_natCast, List.getD_eq_getElem?_getD, List.getElem?_eq_getElem htl2]; rfl)
      rw [HTV.out] at HD1
      clear hcc
      generalize tables[tk] = tv at *
      by_cases hy : tv ≤ col
      · have e1 : decide (col ≥ tv) = true := decide_eq_true hy
        have e2 : decide (tv ≤ col) = true := decide_eq_true hy
        clear hy hz
        go_quiet ((go_at_call 34; exact Calls.quiet_of_same ((HC_c.out _).mono fun e w' h => ⟨h.1, h.2.symm⟩)))
        rename_i nq
        go_wp2_with fail
        go_meet
        exact ⟨by rw [← HD1.out]; simp [e0, e2], Lib.hid (ext_dnR _ _)⟩
      · have e1 : decide (col ≥ tv) = false := decide_eq_false hy
        have e2 : decide (tv ≤ col) = false := decide_eq_false hy
        clear hy hz
        go_quiet ((go_at_call 34; exact Calls.quiet_of_same ((HC_c.out _).mono fun e w' h => ⟨h.1, h.2.symm⟩)))
        rename_i nq
        go_wp2_with fail
        go_meet
        exact ⟨by rw [← HD1.out]; simp [e0, e2], Lib.hid (ext_dnR _ _)⟩
  case rest =>
  obtain ⟨rfl, hx⟩ := hcut
  have HX11 := Lib.hid (HX10.out.trans hx.out)
  have HB11 := Lib.hid (HB10.out.ext hx.out)
  clear hx y3 y5 HX10 HB10
  generalize wc = w11 at *
  clear HD1
  cases D1 with
  | true =>
    have HF : Hid (bb = false) := Lib.hid (by rw [← HO.out]; rfl)
    go_wp2_with fail
    go_ret
    rw [HF.out]
    exact ⟨rfl, HX11.out⟩
  | false =>
  replace HO := Lib.hid ((if_neg Bool.false_ne_true).symm.trans HO.out)
  have y5 : w11.cell? ⟨g, 5, none⟩ = some (.int .i64 col) := HB11.out.cell 5
  go_upto_region 16 with fail
  obtain ⟨D2, HD2⟩ : ∃ b : Bool, Hid ((!hc && col != 0) = b) := ⟨_, Lib.hid rfl⟩
  rw [HD2.out] at HO
  go_cut [115] from 133 to 140 (fun s wx => s = .bool D2 ∧ Hid (Ext w11 wx))
  case first =>
    clear HO
    cases hc with
    | true =>
      go_wp2_with fail
      refine (HC_c.out w11).mono ?_
      rintro e _ ⟨rfl, rfl⟩
      go_wp2_with fail
      go_meet
      exact ⟨by rw [← HD2.out]; simp [], Lib.hid (Ext.refl _)⟩
    | false =>
      go_wp2_with fail
      refine (HC_c.out w11).mono ?_
      rintro e _ ⟨rfl, rfl⟩
      by_cases hz : col = 0
      · subst hz
        go_wp2_with fail
        go_meet
        exact ⟨by rw [← HD2.out]; simp [], Lib.hid (Ext.refl _)⟩
      · have e0 : (col != 0) = true := bne_iff_ne.2 hz
        have e1 : (col == 0) = false := beq_eq_false_iff_ne.2 hz
        clear hz
        go_wp2_with fail
        go_meet
        exact ⟨by rw [← HD2.out]; simp [e0], Lib.hid (Ext.refl _)⟩
  case rest =>
  obtain ⟨rfl, hx⟩ := hcut
  have HX12 := Lib.hid (HX11.out.trans hx.out)
  have HB12 := Lib.hid (HB11.out.ext hx.out)
  clear hx y5 HX11 HB11
  generalize wc = w12 at *
  clear HD2
  cases D2 with
  | true =>
    have HF : Hid (bb = false) := Lib.hid (by rw [← HO.out]; rfl)
    go_wp2_with fail
    go_ret
    rw [HF.out]
    exact ⟨rfl, HX12.out⟩
  | false =>
  replace HO := Lib.hid ((if_neg Bool.false_ne_true).symm.trans HO.out)
  have y6 : w12.cell? ⟨g, 6, none⟩ = some (.int .i64 var) := HB12.out.cell 6
  go_upto_region 18 with fail
  obtain ⟨E1, HE1⟩ : ∃ b : Bool, Hid ((hv && (decide (var < 0) || decide ((v : Int) ≤ var))) = b) := ⟨_, Lib.hid rfl⟩
  rw [HE1.out] at HO
  go_cut [141] from 142 to 154 (fun s wx => s = .bool E1 ∧ Hid (Ext w12 wx))
  case first =>
    clear HO
    cases hv with
    | false =>
      go_wp2_with fail
      refine (HC_v.out w12).mono ?_
      rintro e _ ⟨rfl, rfl⟩
      go_wp2_with fail
      go_meet
      exact ⟨by rw [← HE1.out]; simp [], Lib.hid (Ext.refl _)⟩
    | true =>
      go_wp2_with fail
      refine (HC_v.out w12).mono ?_
      rintro e _ ⟨rfl, rfl⟩
      by_cases hz : var < 0
      · have e0 : decide (var < 0) = true := decide_eq_true hz
        clear hz
        go_wp2_with fail
        go_meet
        exact ⟨by rw [← HE1.out]; simp [e0], Lib.hid (Ext.refl _)⟩
      have e0 : decide (var < 0) = false := decide_eq_false hz
      by_cases hy : (v : Int) ≤ var
      · have e1 : decide (var ≥ (v : Int)) = true := decide_eq_true hy
        have e2 : decide ((v : Int) ≤ var) = true := decide_eq_true hy
        clear hy hz
        go_wp2_with fail
        go_meet
        exact ⟨by rw [← HE1.out]; simp [e0, e2], Lib.hid (Ext.refl _)⟩
      · have e1 : decide (var ≥ (v : Int)) = false := decide_eq_false hy
        have e2 : decide ((v : Int) ≤ var) = false := decide_eq_false hy
        clear hy hz
        go_wp2_with fail
        go_meet
        exact ⟨by rw [← HE1.out]; simp [e0, e2], Lib.hid (Ext.refl _)⟩
  case rest =>
  obtain ⟨rfl, hx⟩ := hcut
  have HX13 := Lib.hid (HX12.out.trans hx.out)
  have HB13 := Lib.hid (HB12.out.ext hx.out)
  clear hx y6 HX12 HB12
  generalize wc = w13 at *
  clear HE1
  cases E1 with
  | true =>
    have HF : Hid (bb = false) := Lib.hid (by rw [← HO.out]; rfl)
    go_wp2_with fail
    go_ret
    rw [HF.out]
    exact ⟨rfl, HX13.out⟩
  | false =>
  replace HO := Lib.hid ((if_neg Bool.false_ne_true).symm.trans HO.out)
  have y6 : w13.cell? ⟨g, 6, none⟩ = some (.int .i64 var) := HB13.out.cell 6
  go_upto_region 19 with fail
  obtain ⟨E2, HE2⟩ : ∃ b : Bool, Hid ((!hv && var != 0) = b) := ⟨_, Lib.hid rfl⟩
  rw [HE2.out] at HO
  go_cut [141] from 155 to 162 (fun s wx => s = .bool E2 ∧ Hid (Ext w13 wx))
  case first =>
    clear HO
    cases hv with
    | true =>
      go_wp2_with fail
      refine (HC_v.out w13).mono ?_
      rintro e _ ⟨rfl, rfl⟩
      go_wp2_with fail
      go_meet
      exact ⟨by rw [← HE2.out]; simp [], Lib.hid (Ext.refl _)⟩
    | false =>
      go_wp2_with fail
      refine (HC_v.out w13).mono ?_
      rintro e _ ⟨rfl, rfl⟩
      by_cases hz : var = 0
      · subst hz
        go_wp2_with fail
        go_meet
        exact ⟨by rw [← HE2.out]; simp [], Lib.hid (Ext.refl _)⟩
      · have e0 : (var != 0) = true := bne_iff_ne.2 hz
        have e1 : (var == 0) = false := beq_eq_false_iff_ne.2 hz
        clear hz
        go_wp2_with fail
        go_meet
        exact ⟨by rw [← HE2.out]; simp [e0], Lib.hid (Ext.refl _)⟩
  case rest =>
  obtain ⟨rfl, hx⟩ := hcut
  have HX14 := Lib.hid (HX13.out.trans hx.out)
  have HB14 := Lib.hid (HB13.out.ext hx.out)
  clear hx y6 HX13 HB13
  generalize wc = w14 at *
  clear HE2
  cases E2 with
  | true =>
    have HF : Hid (bb = false) := Lib.hid (by rw [← HO.out]; rfl)
    go_wp2_with fail
    go_ret
    rw [HF.out]
    exact ⟨rfl, HX14.out⟩
  | false =>
  replace HO := Lib.hid ((if_neg Bool.false_ne_true).symm.trans HO.out)
  have y7 : w14.cell? ⟨g, 7, none⟩ = some (.int .i64 goes) := HB14.out.cell 7
  go_upto_region 21 with fail
  obtain ⟨F1, HF1⟩ : ∃ b : Bool, Hid ((ho && (decide (goes < 0) || decide ((size : Int) ≤ goes))) = b) := ⟨_, Lib.hid rfl⟩
  rw [HF1.out] at HO
  go_cut [163] from 164 to 176 (fun s wx => s = .bool F1 ∧ Hid (Ext w14 wx))
  case first =>
    clear HO
    cases ho with
    | false =>
      go_wp2_with fail
      refine (HC_o.out w14).mono ?_
      rintro e _ ⟨rfl, rfl⟩
      go_wp2_with fail
      go_meet
      exact ⟨by rw [← HF1.out]; simp [], Lib.hid (Ext.refl _)⟩
    | true =>
      go_wp2_with fail
      refine (HC_o.out w14).mono ?_
      rintro e _ ⟨rfl, rfl⟩
      by_cases hz : goes < 0
      · have e0 : decide (goes < 0) = true := decide_eq_true hz
        clear hz
        go_wp2_with fail
        go_meet
        exact ⟨by rw [← HF1.out]; simp [e0], Lib.hid (Ext.refl _)⟩
      have e0 : decide (goes < 0) = false := decide_eq_false hz
      by_cases hy : (size : Int) ≤ goes
      · have e1 : decide (goes ≥ (size : Int)) = true := decide_eq_true hy
        have e2 : decide ((size : Int) ≤ goes) = true := decide_eq_true hy
        clear hy hz
        go_wp2_with fail
        go_meet
        exact ⟨by rw [← HF1.out]; simp [e0, e2], Lib.hid (Ext.refl _)⟩
      · have e1 : decide (goes ≥ (size : Int)) = false := decide_eq_false hy
        have e2 : decide ((size : Int) ≤ goes) = false := decide_eq_false hy
        clear hy hz
        go_wp2_with fail
        go_meet
        exact ⟨by rw [← HF1.out]; simp [e0, e2], Lib.hid (Ext.refl _)⟩
  case rest =>
  obtain ⟨rfl, hx⟩ := hcut
  have HX15 := Lib.hid (HX14.out.trans hx.out)
  have HB15 := Lib.hid (HB14.out.ext hx.out)
  clear hx y7 HX14 HB14
  generalize wc = w15 at *
  clear HF1
  cases F1 with
  | true =>
    have HF : Hid (bb = false) := Lib.hid (by rw [← HO.out]; rfl)
    go_wp2_with fail
    go_ret
    rw [HF.out]
    exact ⟨rfl, HX15.out⟩
  | false =>
  replace HO := Lib.hid ((if_neg Bool.false_ne_true).symm.trans HO.out)
  have y7 : w15.cell? ⟨g, 7, none⟩ = some (.int .i64 goes) := HB15.out.cell 7
  go_upto_region 22 with fail
  obtain ⟨F2, HF2⟩ : ∃ b : Bool, Hid ((!ho && goes != 0) = b) := ⟨_, Lib.hid rfl⟩
  rw [HF2.out] at HO
  go_cut [163] from 177 to 184 (fun s wx => s = .bool F2 ∧ Hid (Ext w15 wx))
  case first =>
    clear HO
    cases ho with
    | true =>
      go_wp2_with fail
      refine (HC_o.out w15).mono ?_
      rintro e _ ⟨rfl, rfl⟩
      go_wp2_with fail
      go_meet
      exact ⟨by rw [← HF2.out]; simp [], Lib.hid (Ext.refl _)⟩
    | false =>
      go_wp2_with fail
      refine (HC_o.out w15).mono ?_
      rintro e _ ⟨rfl, rfl⟩
      by_cases hz : goes = 0
      · subst hz
        go_wp2_with fail
        go_meet
        exact ⟨by rw [← HF2.out]; simp [], Lib.hid (Ext.refl _)⟩
      · have e0 : (goes != 0) = true := bne_iff_ne.2 hz
        have e1 : (goes == 0) = false := beq_eq_false_iff_ne.2 hz
        clear hz
        go_wp2_with fail
        go_meet
        exact ⟨by rw [← HF2.out]; simp [e0], Lib.hid (Ext.refl _)⟩
  case rest =>
  obtain ⟨rfl, hx⟩ := hcut
  have HX16 := Lib.hid (HX15.out.trans hx.out)
  have HB16 := Lib.hid (HB15.out.ext hx.out)
  clear hx y7 HX15 HB15
  generalize wc = w16 at *
  clear HF2
  cases F2 with
  | true =>
    have HF : Hid (bb = false) := Lib.hid (by rw [← HO.out]; rfl)
    go_wp2_with fail
    go_ret
    rw [HF.out]
    exact ⟨rfl, HX16.out⟩
  | false =>
  replace HO := Lib.hid ((if_neg Bool.false_ne_true).symm.trans HO.out)
  have y8 : w16.cell? ⟨g, 8, none⟩ = some (.bool eq) := HB16.out.cell 8
  go_upto_region 24 with fail
  obtain ⟨G1, HG1⟩ : ∃ b : Bool, Hid ((!he && eq) = b) := ⟨_, Lib.hid rfl⟩
  rw [HG1.out] at HO
  go_cut [185] from 186 to 192 (fun s wx => s = .bool G1 ∧ Hid (Ext w16 wx))
  case first =>
    clear HO
    cases he with
    | true =>
      go_wp2_with fail
      refine (HC_e.out w16).mono ?_
      rintro e _ ⟨rfl, rfl⟩
      go_wp2_with fail
      go_meet
      exact ⟨by rw [← HG1.out]; simp [], Lib.hid (Ext.refl _)⟩
    | false =>
      go_wp2_with fail
      refine (HC_e.out w16).mono ?_
      rintro e _ ⟨rfl, rfl⟩
      cases eq with
      | true =>
        go_wp2_with fail
        go_meet
        exact ⟨by rw [← HG1.out]; simp [], Lib.hid (Ext.refl _)⟩
      | false =>
        go_wp2_with fail
        go_meet
        exact ⟨by rw [← HG1.out]; simp [], Lib.hid (Ext.refl _)⟩
  case rest =>
  obtain ⟨rfl, hx⟩ := hcut
  have HX17 := Lib.hid (HX16.out.trans hx.out)
  have HB17 := Lib.hid (HB16.out.ext hx.out)
  clear hx y8 HX16 HB16
  generalize wc = w17 at *
  clear HG1
  cases G1 with
  | true =>
    have HF : Hid (bb = false) := Lib.hid (by rw [← HO.out]; rfl)
    go_wp2_with fail
    go_ret
    rw [HF.out]
    exact ⟨rfl, HX17.out⟩
  | false =>
  replace HO := Lib.hid ((if_neg Bool.false_ne_true).symm.trans HO.out)
  have y9 : w17.cell? ⟨g, 9, none⟩ = some (.int .i64 frm) := HB17.out.cell 9
  go_upto_region 25 with fail
  obtain ⟨G2, HG2⟩ : ∃ b : Bool, Hid ((!hf && frm != 0) = b) := ⟨_, Lib.hid rfl⟩
  rw [HG2.out] at HO
  go_cut [185] from 193 to 200 (fun s wx => s = .bool G2 ∧ Hid (Ext w17 wx))
  case first =>
    clear HO
    cases hf with
    | true =>
      go_wp2_with fail
      refine (HC_f.out w17).mono ?_
      rintro e _ ⟨rfl, rfl⟩
      go_wp2_with fail
      go_meet
      exact ⟨by rw [← HG2.out]; simp [], Lib.hid (Ext.refl _)⟩
    | false =>
      go_wp2_with fail
      refine (HC_f.out w17).mono ?_
      rintro e _ ⟨rfl, rfl⟩
      by_cases hz : frm = 0
      · subst hz
        go_wp2_with fail
        go_meet
        exact ⟨by rw [← HG2.out]; simp [], Lib.hid (Ext.refl _)⟩
      · have e0 : (frm != 0) = true := bne_iff_ne.2 hz
        have e1 : (frm == 0) = false := beq_eq_false_iff_ne.2 hz
        clear hz
        go_wp2_with fail
        go_meet
        exact ⟨by rw [← HG2.out]; simp [e0], Lib.hid (Ext.refl _)⟩
  case rest =>
  obtain ⟨rfl, hx⟩ := hcut
  have HX18 := Lib.hid (HX17.out.trans hx.out)
  have HB18 := Lib.hid (HB17.out.ext hx.out)
  clear hx y9 HX17 HB17
  generalize wc = w18 at *
  clear HG2
  cases G2 with
  | true =>
    have HF : Hid (bb = false) := Lib.hid (by rw [← HO.out]; rfl)
    go_wp2_with fail
    go_ret
    rw [HF.out]
    exact ⟨rfl, HX18.out⟩
  | false =>
  replace HO := Lib.hid ((if_neg Bool.false_ne_true).symm.trans HO.out)
  have y10 : w18.cell? ⟨g, 10, none⟩ = some (.int .i64 upto) := HB18.out.cell 10
  go_upto_region 26 with fail
  obtain ⟨G3, HG3⟩ : ∃ b : Bool, Hid ((!hu && upto != 0) = b) := ⟨_, Lib.hid rfl⟩
  rw [HG3.out] at HO
  go_cut [185] from 201 to 208 (fun s wx => s = .bool G3 ∧ Hid (Ext w18 wx))
  case first =>
    clear HO
    cases hu with
    | true =>
      go_wp2_with fail
      refine (HC_u.out w18).mono ?_
      rintro e _ ⟨rfl, rfl⟩
      go_wp2_with fail
      go_meet
      exact ⟨by rw [← HG3.out]; simp [], Lib.hid (Ext.refl _)⟩
    | false =>
      go_wp2_with fail
      refine (HC_u.out w18).mono ?_
      rintro e _ ⟨rfl, rfl⟩
      by_cases hz : upto = 0
      · subst hz
        go_wp2_with fail
        go_meet
        exact ⟨by rw [← HG3.out]; simp [], Lib.hid (Ext.refl _)⟩
      · have e0 : (upto != 0) = true := bne_iff_ne.2 hz
        have e1 : (upto == 0) = false := beq_eq_false_iff_ne.2 hz
        clear hz
        go_wp2_with fail
        go_meet
        exact ⟨by rw [← HG3.out]; simp [e0], Lib.hid (Ext.refl _)⟩
  case rest =>
  obtain ⟨rfl, hx⟩ := hcut
  have HX19 := Lib.hid (HX18.out.trans hx.out)
  have HB19 := Lib.hid (HB18.out.ext hx.out)
  clear hx y10 HX18 HB18
  generalize wc = w19 at *
  clear HG3
  cases G3 with
  | true =>
    have HF : Hid (bb = false) := Lib.hid (by rw [← HO.out]; rfl)
    go_wp2_with fail
    go_ret
    rw [HF.out]
    exact ⟨rfl, HX19.out⟩
  | false =>
  replace HO := Lib.hid ((if_neg Bool.false_ne_true).symm.trans HO.out)
  have y0 : w19.cell? ⟨g, 0, none⟩ = some (.int .u8 op) := HB19.out.cell 0
  have y2 : w19.cell? ⟨g, 2, none⟩ = some (.int .u8 mode) := HB19.out.cell 2
  have y3 : w19.cell? ⟨g, 3, none⟩ = some (.int .i64 table) := HB19.out.cell 3
  have y4 : w19.cell? ⟨g, 4, none⟩ = some (.bool row) := HB19.out.cell 4
  have y5 : w19.cell? ⟨g, 5, none⟩ = some (.int .i64 col) := HB19.out.cell 5
  have y6 : w19.cell? ⟨g, 6, none⟩ = some (.int .i64 var) := HB19.out.cell 6
  have y7 : w19.cell? ⟨g, 7, none⟩ = some (.int .i64 goes) := HB19.out.cell 7
  have y8 : w19.cell? ⟨g, 8, none⟩ = some (.bool eq) := HB19.out.cell 8
  have y9 : w19.cell? ⟨g, 9, none⟩ = some (.int .i64 frm) := HB19.out.cell 9
  have y10 : w19.cell? ⟨g, 10, none⟩ = some (.int .i64 upto) := HB19.out.cell 10
  have y11 : w19.cell? ⟨g, 11, none⟩ = some (.slice ka kt.length kc) := HB19.out.cell 11
  have y12 : w19.cell? ⟨g, 12, none⟩ = some (.slice va vl vc) := HB19.out.cell 12
  have y1 : w19.cell? ⟨g, 1, none⟩ = some (.int .i64 node) := HB19.out.cell 1
  cases h1 with
  | true =>
    go_wp2_with fail
    refine (HC_1.out w19).mono ?_
    rintro e _ ⟨rfl, rfl⟩
    cases h2 with
    | true =>
      go_wp2_with fail
      refine (HC_2.out w19).mono ?_
      rintro e _ ⟨rfl, rfl⟩
      cases hn with
      | true =>
        go_wp2_with fail
        refine (HC_n.out w19).mono ?_
        rintro e _ ⟨rfl, rfl⟩
        obtain ⟨tk, htk⟩ : ∃ tk : Nat, table = (tk : Int) := ⟨table.toNat, by have := HTR.out (HCT.out.2 (by trivial)); omega⟩
        subst htk
        have htl2 : tk < tables.length := by have := HTR.out (HCT.out.2 (by trivial)); omega
        have q0 : (tk : Int) < (tables.length : Int) := by omega
        obtain ⟨tb, tof, rfl, htb, hcc⟩ := (HT.out.ext HX19.out).at_ (by simp [ncells]; omega)
        have z0 : w19.cell? ⟨tb, tof + tk, none⟩ = some (.int .i64 tables[tk]) := by rw [hcc tk (by simp [ncells]; exact htl2)]; simp [ncells, htl2]
        have hwr : wr = tables[tk] := by
          have := HW.out wr rfl
          simp at this
          rw [this]
          unfold tabAt
          rw [Int.toNat_natCast, List.getD_eq_getElem?_getD, List.getElem?_eq_getElem htl2]
          rfl
        clear hcc
        generalize tables[tk] = tv at *
        subst hwr
        go_wp2_with fail
        refine (HVA.out w19 _ HX19.out).mono ?_
        rintro e w' ⟨rfl, hx⟩
        rw [HO.out]
        go_wp2_with fail
        go_ret
        exact ⟨rfl, HX19.out.trans hx⟩
      | false =>
        go_wp2_with fail
        refine (HC_n.out w19).mono ?_
        rintro e _ ⟨rfl, rfl⟩
        have hwr : wr = 2 := by have := HW.out wr rfl; simpa using this
        subst hwr
        go_wp2_with fail
        refine (HVA.out w19 _ HX19.out).mono ?_
        rintro e w' ⟨rfl, hx⟩
        rw [HO.out]
        go_wp2_with fail
        go_ret
        exact ⟨rfl, HX19.out.trans hx⟩
    | false =>
      go_wp2_with fail
      refine (HC_2.out w19).mono ?_
      rintro e _ ⟨rfl, rfl⟩
      cases hn with
      | true =>
        go_wp2_with fail
        refine (HC_n.out w19).mono ?_
        rintro e _ ⟨rfl, rfl⟩
        obtain ⟨tk, htk⟩ : ∃ tk : Nat, table = (tk : Int) := ⟨table.toNat, by have := HTR.out (HCT.out.2 (by trivial)); omega⟩
        subst htk
        have htl2 : tk < tables.length := by have := HTR.out (HCT.out.2 (by trivial)); omega
        have q0 : (tk : Int) < (tables.length : Int) := by omega
        obtain ⟨tb, tof, rfl, htb, hcc⟩ := (HT.out.ext HX19.out).at_ (by simp [ncells]; omega)
        have z0 : w19.cell? ⟨tb, tof + tk, none⟩ = some (.int .i64 tables[tk]) := by rw [hcc tk (by simp [ncells]; exact htl2)]; simp [ncells, htl2]
        have hwr : wr = tables[tk] := by
          have := HW.out wr rfl
          simp at this
          rw [this]
          unfold tabAt
          rw [Int.toNat_natCast, List.getD_eq_getElem?_getD, List.getElem?_eq_getElem htl2]
          rfl
        clear hcc
        generalize tables[tk] = tv at *
        subst hwr
        go_wp2_with fail
        refine (HVA.out w19 _ HX19.out).mono ?_
        rintro e w' ⟨rfl, hx⟩
        rw [HO.out]
        go_wp2_with fail
        go_ret
        exact ⟨rfl, HX19.out.trans hx⟩
      | false =>
        go_wp2_with fail
        refine (HC_n.out w19).mono ?_
        rintro e _ ⟨rfl, rfl⟩
        have hwr : wr = 1 := by have := HW.out wr rfl; simpa using this
        subst hwr
        go_wp2_with fail
        refine (HVA.out w19 _ HX19.out).mono ?_
        rintro e w' ⟨rfl, hx⟩
        rw [HO.out]
        go_wp2_with fail
        go_ret
        exact ⟨rfl, HX19.out.trans hx⟩
  | false =>
    go_wp2_with fail
    refine (HC_1.out w19).mono ?_
    rintro e _ ⟨rfl, rfl⟩
    cases h2 with
    | true =>
      go_wp2_with fail
      refine (HC_2.out w19).mono ?_
      rintro e _ ⟨rfl, rfl⟩
      cases hn with
      | true =>
        go_wp2_with fail
        refine (HC_n.out w19).mono ?_
        rintro e _ ⟨rfl, rfl⟩
        obtain ⟨tk, htk⟩ : ∃ tk : Nat, table = (tk : Int) := ⟨table.toNat, by have := HTR.out (HCT.out.2 (by trivial)); omega⟩
        subst htk
        have htl2 : tk < tables.length := by have := HTR.out (HCT.out.2 (by trivial)); omega
        have q0 : (tk : Int) < (tables.length : Int) := by omega
        obtain ⟨tb, tof, rfl, htb, hcc⟩ := (HT.out.ext HX19.out).at_ (by simp [ncells]; omega)
        have z0 : w19.cell? ⟨tb, tof + tk, none⟩ = some (.int .i64 tables[tk]) := by rw [hcc tk (by simp [ncells]; exact htl2)]; simp [ncells, htl2]
        have hwr : wr = tables[tk] := by
          have := HW.out wr rfl
          simp at this
          rw [this]
          unfold tabAt
          rw [Int.toNat_natCast, List.getD_eq_getElem?_getD, List.getElem?_eq_getElem htl2]
          rfl
        clear hcc
        generalize tables[tk] = tv at *
        subst hwr
        go_wp2_with fail
        refine (HVA.out w19 _ HX19.out).mono ?_
        rintro e w' ⟨rfl, hx⟩
        rw [HO.out]
        go_wp2_with fail
        go_ret
        exact ⟨rfl, HX19.out.trans hx⟩
      | false =>
        go_wp2_with fail
        refine (HC_n.out w19).mono ?_
        rintro e _ ⟨rfl, rfl⟩
        have hwr : wr = 2 := by have := HW.out wr rfl; simpa using this
        subst hwr
        go_wp2_with fail
        refine (HVA.out w19 _ HX19.out).mono ?_
        rintro e w' ⟨rfl, hx⟩
        rw [HO.out]
        go_wp2_with fail
        go_ret
        exact ⟨rfl, HX19.out.trans hx⟩
    | false =>
      go_wp2_with fail
      refine (HC_2.out w19).mono ?_
      rintro e _ ⟨rfl, rfl⟩
      cases hn with
      | true =>
        go_wp2_with fail
        refine (HC_n.out w19).mono ?_
        rintro e _ ⟨rfl, rfl⟩
        obtain ⟨tk, htk⟩ : ∃ tk : Nat, table = (tk : Int) := ⟨table.toNat, by have := HTR.out (HCT.out.2 (by trivial)); omega⟩
        subst htk
        have htl2 : tk < tables.length := by have := HTR.out (HCT.out.2 (by trivial)); omega
        have q0 : (tk : Int) < (tables.length : Int) := by omega
        obtain ⟨tb, tof, rfl, htb, hcc⟩ := (HT.out.ext HX19.out).at_ (by simp [ncells]; omega)
        have z0 : w19.cell? ⟨tb, tof + tk, none⟩ = some (.int .i64 tables[tk]) := by rw [hcc tk (by simp [ncells]; exact htl2)]; simp [ncells, htl2]
        have hwr : wr = tables[tk] := by
          have := HW.out wr rfl
          simp at this
          rw [this]
          unfold tabAt
          rw [Int.toNat_natCast, List.getD_eq_getElem?_getD, List.getElem?_eq_getElem htl2]
          rfl
        clear hcc
        generalize tables[tk] = tv at *
        subst hwr
        go_wp2_with fail
        refine (HVA.out w19 _ HX19.out).mono ?_
        rintro e w' ⟨rfl, hx⟩
        rw [HO.out]
        go_wp2_with fail
        go_ret
        exact ⟨rfl, HX19.out.trans hx⟩
      | false =>
        go_wp2_with fail
        refine (HC_n.out w19).mono ?_
        rintro e _ ⟨rfl, rfl⟩
        have hwr : wr = 0 := by have := HW.out wr rfl; simpa using this
        subst hwr
        go_wp2_with fail
        refine (HVA.out w19 _ HX19.out).mono ?_
        rintro e w' ⟨rfl, hx⟩
        rw [HO.out]
        go_wp2_with fail
        go_ret
        exact ⟨rfl, HX19.out.trans hx⟩
end Go.Proofs.Ytngbpaiohfokbaa
