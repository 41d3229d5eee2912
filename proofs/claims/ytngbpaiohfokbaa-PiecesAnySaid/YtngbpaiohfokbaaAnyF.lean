/- PiecesAny, walked: always true. Condition: the rows fit into memory. -/
import Derived.Test.YtngbpaiohfokbaaWithF
import Derived.Test.YtngbpaiohfokbaaSameY
import Derived.Test.YtngbpaiohfokbaaPlainF
namespace Go.Proofs.Ytngbpaiohfokbaa
open Go Go.RowKit
set_option linter.unusedVariables false
set_option linter.unusedSimpArgs false
theorem of_at (A : Option Addr) (is : List InstrD) (n cap : Nat) (way x r : Int) (w : World) (hn : n = is.length) (hlen : is.length ≤ 1000) (hc : Cells w A (icells is)) (us : List (Nat × Nat)) (hus : Hid (unitsN (opsOf is) way = us)) (hul : us.length ≤ 2000) (hr : Hid (ofA x us 0 = r)) :
    Calls Try.prog 10 #[.slice A n cap, .int .u8 way, .int .i64 x] w fun e w' => e = .returned (.int .i64 r) ∧ Ext w w' := by
  subst hn
  rw [← hr.out, ← hus.out]
  exact ofP_any A is cap way x hlen w hc (by rw [hus.out]; exact hul)
theorem opsOf_con {l m : List FullI} (h : l.map FullI.con = m.map FullI.con) : opsOf (l.map FullI.x) = opsOf (m.map FullI.x) := by
  have e : ∀ l : List FullI, opsOf (l.map FullI.x) = (l.map FullI.con).map fun c => c.1.op := by
    intro l
    unfold opsOf
    rw [List.map_map, List.map_map]
    rfl
  rw [e, e, h]
theorem len_con {l m : List FullI} (h : l.map FullI.con = m.map FullI.con) : l.length = m.length := by have := congrArg List.length h; simpa using this
theorem fixF_con {gone : List Int} {f g : FullI} (h : f.con = g.con) : (fixF gone f).con = (fixF gone g).con := by
  obtain ⟨⟨op, node, mode, table, row, col, var, goes, eq, frm, upto, _, _⟩, kt, vp⟩ := f
  obtain ⟨⟨op2, node2, mode2, table2, row2, col2, var2, goes2, eq2, frm2, upto2, _, _⟩, kt2, vp2⟩ := g
  simp only [FullI.con, bareD, Prod.mk.injEq, InstrD.mk.injEq] at h
  obtain ⟨⟨h1, h2, h3, h4, h5, h6, h7, h8, h9, h10, h11, _⟩, hk, hv⟩ := h
  subst h1 h2 h3 h4 h5 h6 h7 h8 h9 h10 h11 hk
  simp only [FullI.con, bareD, fixF, fixI, hv]
theorem outF_con {gone : List Int} {l m : List FullI} (h : l.map FullI.con = m.map FullI.con) (k : Nat) : (outF gone l k).map FullI.con = (outF gone m k).map FullI.con := by
  induction k with
  | zero => rfl
  | succ k ih =>
    have hk : (l[k]?).map FullI.con = (m[k]?).map FullI.con := by rw [← List.getElem?_map, ← List.getElem?_map, h]
    unfold outF
    cases hl : l[k]? with
    | none =>
      rw [hl] at hk
      cases hm : m[k]? with
      | none => exact ih
      | some g => rw [hm] at hk; cases hk
    | some f =>
      rw [hl] at hk
      cases hm : m[k]? with
      | none => rw [hm] at hk; cases hk
      | some g =>
        rw [hm] at hk
        simp only [Option.map_some, Option.some.injEq] at hk
        simp only
        split
        · exact ih
        · rw [List.map_append, List.map_append, ih, List.map_cons, List.map_cons, fixF_con hk]
theorem outF_mem {gone : List Int} {l : List FullI} {f : FullI} : ∀ {k : Nat}, f ∈ outF gone l k → ∃ g ∈ l, f = fixF gone g
  | 0, h => by cases h
  | k + 1, h => by
    unfold outF at h
    split at h
    · exact outF_mem h
    · rename_i g hg
      split at h
      · exact outF_mem h
      · rcases List.mem_append.1 h with h | h
        · exact outF_mem h
        · exact ⟨g, List.mem_of_getElem? hg, List.mem_singleton.1 h⟩
theorem fixF_at {gone : List Int} {f : FullI} {w : World} (h : f.At w) : (fixF gone f).At w := ⟨h.key, h.vn, h.vz, h.vals, h.each⟩
theorem fixF_fits {gone : List Int} {f : FullI} (h : f.fits) : (fixF gone f).fits := h
theorem fits_all {l m : List FullI} (h : l.map FullI.con = m.map FullI.con) (hf : ∀ f ∈ l, f.fits) : ∀ g ∈ m, g.fits := by
  intro g hg
  have : g.con ∈ m.map FullI.con := List.mem_map.2 ⟨g, hg, rfl⟩
  rw [← h] at this
  obtain ⟨f, hf', e⟩ := List.mem_map.1 this
  exact fits_con e (hf f hf')
theorem ok_all {l m : List FullI} (h : l.map FullI.con = m.map FullI.con) (hf : ∀ f ∈ l, f.x.ok) : ∀ g ∈ m, g.x.ok := by
  intro g hg
  have : g.con ∈ m.map FullI.con := List.mem_map.2 ⟨g, hg, rfl⟩
  rw [← h] at this
  obtain ⟨f, hf', e⟩ := List.mem_map.1 this
  have ho := hf f hf'
  simp only [FullI.con, bareD, Prod.mk.injEq, InstrD.mk.injEq] at e
  obtain ⟨⟨h1, h2, h3, h4, h5, h6, h7, h8, h9, h10, h11, _⟩, hk, hv⟩ := e
  unfold InstrD.ok at ho ⊢
  rw [← h1, ← h8]
  exact ho
theorem few_len {is : List InstrD} (h : fewN is 60 = true) : is.length ≤ 60 := by
  unfold fewN at h
  rw [Bool.and_eq_true] at h
  have := of_decide_eq_true h.1
  omega
set_option maxHeartbeats 1000000 in
theorem any_not (A D : Option Addr) (l : List FullI) (n m cap dc : Nat) (way : Int) (w : World) (hn : n = l.length) (hr : Row w A l) (hf : fewN (l.map FullI.x) 60 = false ∨ 60 < m) :
    Calls Try.prog 3 #[.slice A n cap, .int .u8 way, .slice D m dc] w fun e w' => e = .returned (.bool true) ∧ Ext w w' := by
  have hn' : n = (l.map FullI.x).length := by rw [hn, List.length_map]
  have hc : Cells w A (icells (l.map FullI.x)) := hr.1
  have HC := Lib.hid hc
  have HN := Lib.hid hn'
  clear hc hr hn hn'
  cases hfw : fewN (l.map FullI.x) 60 with
  | false =>
    have HFW := Lib.hid hfw
    clear hfw hf
    go_enter Try.func3, Try.ntmps3
    go_wp2_with fail
    refine (few_any A (l.map FullI.x) _ cap 60 false w HN.out HC.out HFW (by decide)).mono ?_
    rintro e w0 ⟨rfl, rfl⟩
    go_wp2_with fail
    refine (works10 _).mono ?_
    rintro e w1 ⟨rfl, hx1⟩
    have HX1 := Lib.hid hx1
    clear hx1
    go_wp2_with fail
    go_ret
    exact ⟨rfl, HX1.out⟩
  | true =>
    have hm60 : 60 < m := by rcases hf with h | h <;> first | exact h | (rw [hfw] at h; cases h)
    have e1 : decide ((60 : Int) < (m : Int)) = true := by simp; omega
    have HFW := Lib.hid hfw
    clear hfw hf
    go_enter Try.func3, Try.ntmps3
    go_wp2_with fail
    refine (few_any A (l.map FullI.x) _ cap 60 true w HN.out HC.out HFW (by decide)).mono ?_
    rintro e w0 ⟨rfl, rfl⟩
    go_wp2_with fail
    refine (works10 _).mono ?_
    rintro e w1 ⟨rfl, hx1⟩
    have HX1 := Lib.hid hx1
    clear hx1
    go_wp2_with fail
    go_ret
    exact ⟨rfl, HX1.out⟩
set_option maxHeartbeats 8000000 in
set_option maxRecDepth 4000 in
theorem any_yes (A D : Option Addr) (l : List FullI) (ds : List Int) (n m cap dc : Nat) (way : Int) (w : World) (hn : n = l.length) (hm : m = ds.length) (hd60 : ds.length ≤ 60) (hr : Row w A l) (hd : Cells w D (ncells ds)) (hok : ∀ f ∈ l, f.x.ok ∧ f.fits) (hfw : fewN (l.map FullI.x) 60 = true) :
    Calls Try.prog 3 #[.slice A n cap, .int .u8 way, .slice D m dc] w fun e w' => e = .returned (.bool true) ∧ Ext w w' := by
  obtain ⟨is, his⟩ : ∃ is, is = l.map FullI.x := ⟨_, rfl⟩
  rw [← his] at hfw
  have hn' : n = is.length := by rw [hn, his, List.length_map]
  subst hn' hm
  have h60 := few_len hfw
  have HLN : Hid (is.length = l.length) := Lib.hid hn
  obtain ⟨us, HUS⟩ : ∃ us, Hid (unitsN (opsOf is) way = us) := ⟨_, Lib.hid rfl⟩
  have hul := (units_law (opsOf is) way (by simp [opsOf]; omega)).1
  rw [HUS.out] at hul
  obtain ⟨gone, HGO⟩ : ∃ gone, Hid (goneOf ds (pairsTo (opsOf is) is.length) = gone) := ⟨_, Lib.hid rfl⟩
  obtain ⟨lo, HLO⟩ : ∃ lo, Hid (outF gone l l.length = lo) := ⟨_, Lib.hid rfl⟩
  have hol : lo.length ≤ 60 := by have := outF_len gone l l.length; rw [HLO.out] at this; have := HLN.out; omega
  have HFW := Lib.hid hfw
  have HIS := Lib.hid his
  have hc : Cells w A (icells is) := by rw [his]; exact hr.1
  have HC := Lib.hid hc
  have HR := Lib.hid hr
  have HD := Lib.hid hd
  have HFI : Hid (∀ f ∈ l, f.fits) := Lib.hid (fun f hf => (hok f hf).2)
  have HOK : Hid (∀ f ∈ l, f.x.ok) := Lib.hid (fun f hf => (hok f hf).1)
  have HOKI : Hid (∀ x ∈ is, x.ok) := Lib.hid (by rw [his]; intro x hx; obtain ⟨f, hf, rfl⟩ := List.mem_map.1 hx; exact (hok f hf).1)
  have e1 : decide ((60 : Int) < (ds.length : Int)) = false := by simp; omega
  clear hc hr hd hok hfw hn his
  go_enter Try.func3, Try.ntmps3
  go_wp2_with fail
  refine (few_any A is _ cap 60 true w rfl HC.out HFW (by decide)).mono ?_
  rintro e w0 ⟨rfl, rfl⟩
  go_wp2_with fail
  refine (plainCode_any A l _ cap w HLN.out (by have := HLN.out; omega) HR.out HFI.out).mono ?_
  rintro e w1 ⟨M, mc, lm, rfl, _, hmc, hmcon, hx1⟩
  have HMC := Lib.hid hmcon
  obtain ⟨ism, hism⟩ : ∃ ism, ism = lm.map FullI.x := ⟨_, rfl⟩
  have HIM := Lib.hid hism
  have HLM : Hid (l.length = ism.length) := Lib.hid (by rw [hism, List.length_map, len_con HMC.out])
  have HLS : Hid (is.length = ism.length) := Lib.hid (HLN.out.trans HLM.out)
  have hmi : Cells w1 M (icells ism) := by rw [hism]; exact hmc.1
  have HUM : Hid (unitsN (opsOf ism) way = us) := Lib.hid (by rw [hism, opsOf_con HMC.out, ← HIS.out]; exact HUS.out)
  have HGM : Hid (goneOf ds (pairsTo (opsOf ism) ism.length) = gone) := Lib.hid (by rw [← HLS.out, hism, opsOf_con HMC.out, ← HIS.out]; exact HGO.out)
  have hmr := hmc
  have HRM := Lib.hid hmr
  have hmc := hmi
  clear hmi hmcon hism
  have HM1 := Lib.hid hmc
  have HX1 := Lib.hid hx1
  have HC1 := Lib.hid (HC.out.ext hx1)
  have HRX := Lib.hid (HR.out.ext hx1)
  clear hmc hmr hx1
  go_wp2_with fail
  refine (units_v A is _ cap way us w1 rfl (by omega) HC1.out HUS).mono ?_
  rintro e w2 ⟨U, uc, rfl, _, huc, hx2⟩
  have HU2 := Lib.hid huc
  have HX2 : Hid (Ext w w2) := Ext.trans HX1.out hx2
  have HM2 := Lib.hid (HM1.out.ext hx2)
  have HRM2 := Lib.hid (HRM.out.ext hx2)
  clear huc hx2 HM1 HC1 HX1
  go_wp2_with fail
  refine (runits_any M ism _ mc way us w2 HLM.out (by have := HLS.out; omega) HM2.out HUM).mono ?_
  rintro e w3 ⟨V, vc, rfl, _, hvc, hx3⟩
  have HV3 := Lib.hid hvc
  have HX3 : Hid (Ext w w3) := Ext.trans HX2.out hx3
  have HM3 := Lib.hid (HM2.out.ext hx3)
  have HRM3 := Lib.hid (HRM2.out.ext hx3)
  have HU3 := Lib.hid (HU2.out.ext hx3)
  clear hvc hx3 HM2 HU2 HX2
  go_wp2_with fail
  go_loopw [10] (fun i wr => ∃ k : Nat, k ≤ us.length ∧ i = .int .i64 k ∧ Hid (Ext w3 wr)) (fun i _ => us.length - (intOf i).toNat)
  case atStart => exact ⟨0, Nat.zero_le _, rfl, Ext.refl _⟩
  case round =>
    obtain ⟨k, hk, rfl, HX⟩ := hrel
    obtain ⟨wa, rfl⟩ : ∃ wa : World, wa = wr := ⟨_, rfl⟩
    by_cases hlt : k < us.length
    · have d0 : decide ((k : Int) < (us.length : Int)) = true := decide_eq_true (by omega)
      obtain ⟨b, off, rfl, hb, hcc⟩ := (HU3.out.ext HX.out).at_ (by rw [ucells_len]; omega)
      obtain ⟨b2, off2, rfl, hb2, hcc2⟩ := (HV3.out.ext HX.out).at_ (by rw [ucells_len]; omega)
      obtain ⟨t1, t2⟩ := ucells_at us k hlt
      have c1 := (hcc _ (by rw [ucells_len]; omega)).trans t1
      have c2 : wa.cell? ⟨b, off + k * 2 + 1, none⟩ = some (.int .i64 ((us[k]).2 : Int)) := by rw [Nat.add_assoc]; exact (hcc _ (by rw [ucells_len]; omega)).trans t2
      have f1 := (hcc2 _ (by rw [ucells_len]; omega)).trans t1
      have f2 : wa.cell? ⟨b2, off2 + k * 2 + 1, none⟩ = some (.int .i64 ((us[k]).2 : Int)) := by rw [Nat.add_assoc]; exact (hcc2 _ (by rw [ucells_len]; omega)).trans t2
      have q0 : (k : Int) < (us.length : Int) := by omega
      generalize us[k] = u at *
      clear hcc hcc2 t1 t2
      go_upto_region 10 with fail
      go_region
      have HXD : Hid (Ext w3 wa.drew) := Ext.trans HX.out (Below.drew (Below.refl _ _))
      go_wp2_with fail
      go_roundw
      case rel => exact ⟨k + 1, by omega, by go_num, HXD⟩
      case measure => simp [intOf]; omega
    · obtain rfl : k = us.length := by omega
      have d0 : decide ((us.length : Int) < (us.length : Int)) = false := by simp
      have HC4 := Lib.hid ((HC.out.ext HX3.out).ext HX.out)
      have HD4 := Lib.hid ((HD.out.ext HX3.out).ext HX.out)
      have HM4 := Lib.hid (HM3.out.ext HX.out)
      have HRM4 := Lib.hid (HRM3.out.ext HX.out)
      have HX4 : Hid (Ext w wa) := Ext.trans HX3.out HX.out
      clear HM3 HU3 HV3 HX3 HX HC HD HRM3 HRX
      go_wp2_with fail
      go_loopw [11] (fun i w5 => ∃ k : Nat, k ≤ is.length + 2 ∧ i = .int .i64 ((k : Int) - 1) ∧ Hid (Ext wa w5)) (fun i _ => is.length + 3 - (intOf i + 1).toNat)
      case atStart => exact ⟨0, Nat.zero_le _, rfl, Ext.refl _⟩
      case round =>
        obtain ⟨k, hk, rfl, HX5⟩ := hrel
        obtain ⟨wb, rfl⟩ : ∃ wb : World, wb = wr := ⟨_, rfl⟩
        by_cases hle : k ≤ is.length + 1
        · have d1 : decide ((k : Int) - 1 ≤ (is.length : Int)) = true := decide_eq_true (by omega)
          obtain ⟨r, HRR⟩ : ∃ r, Hid (ofA ((k : Int) - 1) us 0 = r) := ⟨_, Lib.hid rfl⟩
          go_wp2_with fail
          refine (of_at A is _ cap way ((k : Int) - 1) r wb rfl (by omega) (HC4.out.ext HX5.out) us HUS (by omega) HRR).mono ?_
          rintro e w6 ⟨rfl, hx6⟩
          have HX6 : Hid (Ext wa w6) := Ext.trans HX5.out hx6
          clear hx6
          go_wp2_with fail
          refine (rof_any M ism _ mc way ((k : Int) - 1) r us w6 HLM.out (by have := HLS.out; omega) (HM4.out.ext HX6.out) HUM (by omega) HRR).mono ?_
          rintro e w7 ⟨rfl, hx7⟩
          have HX7 : Hid (Ext wa w7) := Ext.trans HX6.out hx7
          clear hx7 HX6
          go_wp2_with fail
          go_roundw
          case rel => exact ⟨k + 1, by omega, by go_num, HX7⟩
          case measure => simp [intOf]; omega
        · obtain rfl : k = is.length + 2 := by omega
          have d1 : decide (((is.length + 2 : Nat) : Int) - 1 ≤ (is.length : Int)) = false := decide_eq_false (by omega)
          go_wp2_with fail
          refine (withF_any A D l is ds _ _ cap dc wb HIS.out HLN.out rfl (by omega) (by omega) ((HR.out.ext HX4.out).ext HX5.out) (HD4.out.ext HX5.out) HOKI.out HFI.out gone HGO lo HLO).mono ?_
          rintro e w6 ⟨O, oc, l6, rfl, _, hoc, hcon6, hx6⟩
          have HO6 := Lib.hid hoc
          have HC6 := Lib.hid hcon6
          have hl6 : l6.length ≤ 60 := by have := len_con hcon6; omega
          have HF6 : Hid (∀ f ∈ l6, f.fits) := Lib.hid (fits_all hcon6.symm (by rw [← HLO.out]; intro f hf; obtain ⟨g, hg, rfl⟩ := outF_mem hf; exact fixF_fits (HFI.out g hg)))
          have HX6 : Hid (Ext wa w6) := Ext.trans HX5.out hx6
          clear hoc hx6 hcon6
          go_wp2_with fail
          refine (plainCode_any O l6 _ oc w6 rfl (by omega) HO6.out HF6.out).mono ?_
          rintro e w7 ⟨O7, o7, l7, rfl, _, ho7, hcon7, hx7⟩
          have HO7 := Lib.hid ho7
          have HC7 := Lib.hid hcon7
          have HX7 : Hid (Ext wa w7) := Ext.trans HX6.out hx7
          clear ho7 hx7 HX6 HO6 hcon7
          go_wp2_with fail
          refine (rwithout_any M D ism ds _ _ mc dc w7 HLM.out rfl (by have := HLS.out; omega) (by omega) (HM4.out.ext HX7.out) (HD4.out.ext HX7.out) (by rw [HIM.out]; intro x hx; obtain ⟨f, hf, rfl⟩ := List.mem_map.1 hx; exact ok_all HMC.out.symm HOK.out f hf) ((outF gone lm lm.length).map FullI.x) (Lib.hid (by rw [HGM.out, HIM.out, List.length_map, outF_map]))).mono ?_
          rintro e w8 ⟨O8, o8, rfl, _, ho8, hx8⟩
          have HX8 : Hid (Ext wa w8) := Ext.trans HX7.out hx8
          have HO8 : Hid (Row w8 O8 (outF gone lm lm.length)) := Lib.hid ⟨Cells.own ho8, fun f hf => by obtain ⟨g, hg, rfl⟩ := outF_mem hf; exact fixF_at ((HRM4.out.2 g hg).ext HX8.out)⟩
          have HO7b := Lib.hid (HO7.out.ext hx8)
          have HC8 : Hid (l7.map FullI.con = (outF gone lm lm.length).map FullI.con) := Lib.hid (by rw [HC7.out, HC6.out, ← HLO.out, ← len_con HMC.out]; exact outF_con HMC.out.symm _)
          have hl7 : l7.length ≤ 60 := by have := len_con HC7.out; omega
          have HF7 : Hid (∀ f ∈ l7, f.fits) := Lib.hid (fits_all HC7.out.symm HF6.out)
          clear ho8 hx8 HX7 HO7
          go_wp2_with fail
          refine (rsameY_any O7 O8 l7 (outF gone lm lm.length) _ _ o7 o8 w8 (len_con HC7.out).symm (by simp) (by omega) HC8.out HO7b.out HO8.out HF7.out).mono ?_
          rintro e w9 ⟨rfl, hx9⟩
          have HX9 : Hid (Ext wa w9) := Ext.trans HX8.out hx9
          clear hx9 HX8 HO7b HO8
          go_wp2_with fail
          refine (plainCode_any A l _ cap w9 HLN.out (by have := HLN.out; omega) ((HR.out.ext HX4.out).ext HX9.out) HFI.out).mono ?_
          rintro e w10 ⟨P, pc, lp, rfl, _, hpc, hconp, hx10⟩
          have HP := Lib.hid hpc
          have HCP := Lib.hid hconp
          have HX10 : Hid (Ext wa w10) := Ext.trans HX9.out hx10
          have HFP : Hid (∀ f ∈ lp, f.fits) := Lib.hid (fits_all hconp.symm HFI.out)
          have hlp : lp.length ≤ 60 := by have := len_con hconp; have := HLN.out; omega
          clear hpc hx10 HX9 hconp
          go_wp2_with fail
          refine (rsameY_any P M lp lm _ _ pc mc w10 (len_con HCP.out).symm (by rw [len_con HMC.out]) (by omega) (HCP.out.trans HMC.out.symm) HP.out (HRM4.out.ext HX10.out) HFP.out).mono ?_
          rintro e w11 ⟨rfl, hx11⟩
          have HX11 : Hid (Ext wa w11) := Ext.trans HX10.out hx11
          clear hx11 HX10
          go_wp2_with fail
          refine (works10 _).mono ?_
          rintro e w12 ⟨rfl, hx12⟩
          have HX12 : Hid (Ext w w12) := Ext.trans HX4.out (Ext.trans HX11.out hx12)
          clear hx12
          go_wp2_with fail
          go_ret
          exact ⟨rfl, HX12.out⟩
theorem any_any (A D : Option Addr) (l : List FullI) (ds : List Int) (n m cap dc : Nat) (way : Int) (w : World) (hn : n = l.length) (hm : m = ds.length) (hr : Row w A l) (hd : Cells w D (ncells ds)) (hok : ∀ f ∈ l, f.x.ok ∧ f.fits) :
    Calls Try.prog 3 #[.slice A n cap, .int .u8 way, .slice D m dc] w fun e w' => e = .returned (.bool true) ∧ Ext w w' := by
  by_cases h : fewN (l.map FullI.x) 60 = true ∧ ds.length ≤ 60
  · exact any_yes A D l ds n m cap dc way w hn hm h.2 hr hd hok h.1
  · refine any_not A D l n m cap dc way w hn hr ?_
    rcases Bool.eq_false_or_eq_true (fewN (l.map FullI.x) 60) with hf | hf
    · refine .inr ?_
      rw [hm]
      exact Nat.lt_of_not_le (fun h' => h ⟨hf, h'⟩)
    · exact .inl hf
end Go.Proofs.Ytngbpaiohfokbaa
