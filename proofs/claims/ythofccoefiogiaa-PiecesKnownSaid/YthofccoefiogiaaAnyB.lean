/- PiecesAny, walked, for instructions without keys and values, and few of them. -/
import Derived.Test.YthofccoefiogiaaSameC
import Derived.Test.YthofccoefiogiaaCoverB
namespace Go.Proofs.Ythofccoefiogiaa
open Go Go.RowKit
set_option linter.unusedVariables false
set_option linter.unusedSimpArgs false
theorem outTo_bare (gone : List Int) (is : List InstrD) (hb : ∀ x ∈ is, bareI x) (k : Nat) : ∀ x ∈ outTo gone is k, bareI x := by
  induction k with
  | zero => intro x hx; simp [outTo] at hx
  | succ k ih =>
    intro x hx
    unfold outTo at hx
    split at hx
    · exact ih x hx
    · rename_i y hy
      split at hx
      · exact ih x hx
      · rcases List.mem_append.1 hx with h | h
        · exact ih x h
        · have := List.mem_singleton.1 h
          subst this
          exact hb y (List.mem_of_getElem? hy)
theorem few_bare (is : List InstrD) (hb : ∀ x ∈ is, bareI x) (h : is.length ≤ 60) : fewN is 60 = true := by
  unfold fewN
  rw [decide_eq_true (by omega), Bool.true_and, List.all_eq_true]
  intro x hx
  obtain ⟨h1, h2⟩ := hb x hx
  rw [h1, h2]
  decide
set_option maxHeartbeats 8000000 in
set_option maxRecDepth 4000 in
theorem any_bare (A D : Option Addr) (is : List InstrD) (ds : List Int) (n m cap dc : Nat) (way : Int) (w : World) (hn : n = is.length) (hm : m = ds.length) (h60 : is.length ≤ 60) (hd60 : ds.length ≤ 60) (hc : Cells w A (icells is)) (hd : Cells w D (ncells ds)) (hbare : ∀ x ∈ is, bareI x) (hok : ∀ x ∈ is, x.ok) :
    Calls Try.prog 4 #[.slice A n cap, .int .u8 way, .slice D m dc] w fun e w' => e = .returned (.bool true) ∧ Ext w w' := by
  subst hn hm
  obtain ⟨us, HUS⟩ : ∃ us, Hid (unitsN (opsOf is) way = us) := ⟨_, Lib.hid rfl⟩
  have hul := (units_law (opsOf is) way (by simp [opsOf]; omega)).1
  rw [HUS.out] at hul
  obtain ⟨out, HOU⟩ : ∃ out, Hid (outTo (goneOf ds (pairsTo (opsOf is) is.length)) is is.length = out) := ⟨_, Lib.hid rfl⟩
  have hob : Hid (∀ x ∈ out, bareI x) := Lib.hid (by rw [← HOU.out]; exact outTo_bare _ is hbare _)
  have hol : out.length ≤ 60 := by have := outTo_len (goneOf ds (pairsTo (opsOf is) is.length)) is is.length; rw [HOU.out] at this; omega
  have HFW := Lib.hid (few_bare is hbare h60)
  have HC := Lib.hid hc
  have HD := Lib.hid hd
  have HBA := Lib.hid hbare
  have HOK := Lib.hid hok
  have e1 : decide ((60 : Int) < (ds.length : Int)) = false := by simp; omega
  clear hc hd hbare hok
  go_enter Try.func4, Try.ntmps4
  go_wp2_with fail
  refine (few_any A is _ cap 60 true w rfl HC.out HFW (by decide)).mono ?_
  rintro e w0 ⟨rfl, rfl⟩
  go_wp2_with fail
  refine (plainCode_bare A is _ cap w rfl (by omega) HC.out HBA.out).mono ?_
  rintro e w1 ⟨M, mc, rfl, _, hmc, hx1⟩
  have HM1 := Lib.hid hmc
  have HX1 := Lib.hid hx1
  have HC1 := Lib.hid (HC.out.ext hx1)
  clear hmc hx1
  go_wp2_with fail
  refine (units_v A is _ cap way us w1 rfl (by omega) HC1.out HUS).mono ?_
  rintro e w2 ⟨U, uc, rfl, _, huc, hx2⟩
  have HU2 := Lib.hid huc
  have HX2 : Hid (Ext w w2) := Ext.trans HX1.out hx2
  have HM2 := Lib.hid (HM1.out.ext hx2)
  clear huc hx2 HM1 HC1 HX1
  go_wp2_with fail
  refine (runits_any M is _ mc way us w2 rfl (by omega) HM2.out HUS).mono ?_
  rintro e w3 ⟨V, vc, rfl, _, hvc, hx3⟩
  have HV3 := Lib.hid hvc
  have HX3 : Hid (Ext w w3) := Ext.trans HX2.out hx3
  have HM3 := Lib.hid (HM2.out.ext hx3)
  have HU3 := Lib.hid (HU2.out.ext hx3)
  clear hvc hx3 HM2 HU2 HX2
  go_wp2_with fail
  go_loopw [10] (fun i wr => ∃ k : Nat, k ≤ us.length ∧ i = .int .i64 k ∧ Hid (Ext w3 wr)) (fun i _ => us.length - (intOf i).toNat)
  case atStart => exact ⟨0, Nat.zero_le _, rfl, Ext.refl _⟩
  case round =>
    obtain ⟨k, hk, rfl, HX⟩ := hrel
    obtain ⟨wa, rfl⟩ : ∃ wa : World, wa = wr := ⟨_, rfl⟩
    by_cases hlt : k < us.length
    · have d0 : decide ((k : Int) < (us.length : Int)) = true := decide_eq_true (by omega)
      obtain ⟨b, off, rfl, hb, hcc⟩ := (HU3.out.ext HX.out).at_ (by rw [ucells_len]; omega)
      obtain ⟨b2, off2, rfl, hb2, hcc2⟩ := (HV3.out.ext HX.out).at_ (by rw [ucells_len]; omega)
      obtain ⟨t1, t2⟩ := ucells_at us k hlt
      have c1 := (hcc _ (by rw [ucells_len]; omega)).trans t1
      have c2 : wa.cell? ⟨b, off + k * 2 + 1, none⟩ = some (.int .i64 ((us[k]).2 : Int)) := by rw [Nat.add_assoc]; exact (hcc _ (by rw [ucells_len]; omega)).trans t2
      have f1 := (hcc2 _ (by rw [ucells_len]; omega)).trans t1
      have f2 : wa.cell? ⟨b2, off2 + k * 2 + 1, none⟩ = some (.int .i64 ((us[k]).2 : Int)) := by rw [Nat.add_assoc]; exact (hcc2 _ (by rw [ucells_len]; omega)).trans t2
      have q0 : (k : Int) < (us.length : Int) := by omega
      generalize us[k] = u at *
      clear hcc hcc2 t1 t2
      go_upto_region 10 with fail
      go_region
      have HXD : Hid (Ext w3 wa.drew) := Ext.trans HX.out (Below.drew (Below.refl _ _))
      go_wp2_with fail
      go_roundw
      case rel => exact ⟨k + 1, by omega, by go_num, HXD⟩
      case measure => simp [intOf]; omega
    · obtain rfl : k = us.length := by omega
      have d0 : decide ((us.length : Int) < (us.length : Int)) = false := by simp
      have HC4 := Lib.hid ((HC.out.ext HX3.out).ext HX.out)
      have HD4 := Lib.hid ((HD.out.ext HX3.out).ext HX.out)
      have HM4 := Lib.hid (HM3.out.ext HX.out)
      have HX4 : Hid (Ext w wa) := Ext.trans HX3.out HX.out
      clear HM3 HU3 HV3 HX3 HX HC HD
      go_wp2_with fail
      go_loopw [11] (fun i w5 => ∃ k : Nat, k ≤ is.length + 2 ∧ i = .int .i64 ((k : Int) - 1) ∧ Hid (Ext wa w5)) (fun i _ => is.length + 3 - (intOf i + 1).toNat)
      case atStart => exact ⟨0, Nat.zero_le _, rfl, Ext.refl _⟩
      case round =>
        obtain ⟨k, hk, rfl, HX5⟩ := hrel
        obtain ⟨wb, rfl⟩ : ∃ wb : World, wb = wr := ⟨_, rfl⟩
        by_cases hle : k ≤ is.length + 1
        · have d1 : decide ((k : Int) - 1 ≤ (is.length : Int)) = true := decide_eq_true (by omega)
          obtain ⟨r, HR⟩ : ∃ r, Hid (ofA ((k : Int) - 1) us 0 = r) := ⟨_, Lib.hid rfl⟩
          go_wp2_with fail
          refine (of_at A is _ cap way ((k : Int) - 1) r wb rfl (by omega) (HC4.out.ext HX5.out) us HUS (by omega) HR).mono ?_
          rintro e w6 ⟨rfl, hx6⟩
          have HX6 : Hid (Ext wa w6) := Ext.trans HX5.out hx6
          clear hx6
          go_wp2_with fail
          refine (rof_any M is _ mc way ((k : Int) - 1) r us w6 rfl (by omega) (HM4.out.ext HX6.out) HUS (by omega) HR).mono ?_
          rintro e w7 ⟨rfl, hx7⟩
          have HX7 : Hid (Ext wa w7) := Ext.trans HX6.out hx7
          clear hx7 HX6
          go_wp2_with fail
          go_roundw
          case rel => exact ⟨k + 1, by omega, by go_num, HX7⟩
          case measure => simp [intOf]; omega
        · obtain rfl : k = is.length + 2 := by omega
          have d1 : decide (((is.length + 2 : Nat) : Int) - 1 ≤ (is.length : Int)) = false := decide_eq_false (by omega)
          go_wp2_with fail
          refine (without_v A D is ds _ _ cap dc wb rfl rfl (by omega) (by omega) (HC4.out.ext HX5.out) (HD4.out.ext HX5.out) HBA.out HOK.out out HOU).mono ?_
          rintro e w6 ⟨O, oc, rfl, _, hoc, hx6⟩
          have HO6 := Lib.hid hoc
          have HX6 : Hid (Ext wa w6) := Ext.trans HX5.out hx6
          clear hoc hx6
          go_wp2_with fail
          refine (plainCode_bare O out _ oc w6 rfl (by omega) HO6.out hob.out).mono ?_
          rintro e w7 ⟨O7, o7, rfl, _, ho7, hx7⟩
          have HO7 := Lib.hid ho7
          have HX7 : Hid (Ext wa w7) := Ext.trans HX6.out hx7
          clear ho7 hx7 HX6 HO6
          go_wp2_with fail
          refine (rwithout_any M D is ds _ _ mc dc w7 rfl rfl (by omega) (by omega) (HM4.out.ext HX7.out) (HD4.out.ext HX7.out) HOK.out out HOU).mono ?_
          rintro e w8 ⟨O8, o8, rfl, _, ho8, hx8⟩
          have HO8 := Lib.hid (Cells.own ho8)
          have HO7b := Lib.hid (HO7.out.ext hx8)
          have HX8 : Hid (Ext wa w8) := Ext.trans HX7.out hx8
          clear ho8 hx8 HX7 HO7
          go_wp2_with fail
          refine (same_bare O7 O8 out _ _ o7 o8 w8 rfl rfl (by omega) HO7b.out HO8.out hob.out).mono ?_
          rintro e w9 ⟨rfl, hx9⟩
          have HX9 : Hid (Ext wa w9) := Ext.trans HX8.out hx9
          clear hx9 HX8 HO7b HO8
          go_wp2_with fail
          refine (plainCode_bare A is _ cap w9 rfl (by omega) (HC4.out.ext HX9.out) HBA.out).mono ?_
          rintro e w10 ⟨P, pc, rfl, _, hpc, hx10⟩
          have HP := Lib.hid hpc
          have HX10 : Hid (Ext wa w10) := Ext.trans HX9.out hx10
          clear hpc hx10 HX9
          go_wp2_with fail
          refine (same_bare P M is _ _ pc mc w10 rfl rfl (by omega) HP.out (HM4.out.ext HX10.out) HBA.out).mono ?_
          rintro e w11 ⟨rfl, hx11⟩
          have HX11 : Hid (Ext wa w11) := Ext.trans HX10.out hx11
          clear hx11 HX10
          go_wp2_with fail
          refine (works10 _).mono ?_
          rintro e w12 ⟨rfl, hx12⟩
          have HX12 : Hid (Ext w w12) := Ext.trans HX4.out (Ext.trans HX11.out hx12)
          clear hx12
          go_wp2_with fail
          go_ret
          exact ⟨rfl, HX12.out⟩
end Go.Proofs.Ythofccoefiogiaa
