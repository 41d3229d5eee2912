/- CodeRight, walked: of any instructions both tell alike whether they are right, of any two whether they are the same. -/
import Derived.Test.YtngbpaiohfokbaaCrT
import Derived.Test.YtngbpaiohfokbaaCrU
import Derived.Test.YtngbpaiohfokbaaCrH
import Derived.Test.YtngbpaiohfokbaaEvS
import Derived.Test.YtngbpaiohfokbaaPlainF
namespace Go.Proofs.Ytngbpaiohfokbaa
open Go Go.RowKit
set_option linter.unusedVariables false
set_option linter.unusedSimpArgs false
/-- An instruction by its content. -/
def normC (c : InstrD × List TermD × List (List TermD)) : FullI := ⟨c.1, c.2.1, c.2.2.map fun t => ((none, 0, 0), t)⟩
def norm (f : FullI) : FullI := normC f.con
theorem norm_vp (f : FullI) : (norm f).vp = f.vp.map fun p => ((none, 0, 0), p.2) := by
  unfold norm normC FullI.con
  simp [Function.comp]
theorem norm_len (f : FullI) : (norm f).vp.length = f.vp.length := by rw [norm_vp, List.length_map]
theorem norm_all (v : Nat) (f : FullI) : allGood v (norm f).vp = allGood v f.vp := by
  unfold allGood
  rw [norm_vp, List.all_map]
  rfl
theorem norm_snd (f : FullI) : (norm f).vp.map Prod.snd = f.vp.map Prod.snd := by
  rw [norm_vp, List.map_map]
  rfl
theorem norm_one (f : FullI) (tables : List Int) (v size : Nat) : oneR (norm f) tables v size = oneR f tables v size := by
  unfold oneR valsB
  rw [norm_all, norm_len]
  rfl
theorem norm_few (f : FullI) : (norm f).few ↔ f.few := by
  unfold FullI.few
  rw [norm_len, norm_vp]
  have e : (norm f).kt = f.kt := rfl
  rw [e]
  constructor
  · rintro ⟨a, b, c⟩
    exact ⟨a, b, fun p hp => c ((none, 0, 0), p.2) (List.mem_map.2 ⟨p, hp, rfl⟩)⟩
  · rintro ⟨a, b, c⟩
    refine ⟨a, b, fun p hp => ?_⟩
    obtain ⟨q, hq, rfl⟩ := List.mem_map.1 hp
    exact c q hq
theorem norm_map {l m : List FullI} (h : l.map FullI.con = m.map FullI.con) : l.map norm = m.map norm := by
  have e : ∀ l : List FullI, l.map norm = (l.map FullI.con).map normC := fun l => by rw [List.map_map]; rfl
  rw [e, e, h]
theorem norm_cross (l : List FullI) (i k : Nat) : crossD (l.map norm) i k = crossD l i k := by
  unfold crossD
  rw [List.getElem?_map]
  cases l[k]? <;> rfl
theorem norm_ok (l : List FullI) (tables : List Int) (v i : Nat) : okD (l.map norm) tables v i = okD l tables v i := by
  unfold okD
  rw [List.getElem?_map]
  cases l[i]? with
  | none => rfl
  | some f =>
    show okF (l.map norm) tables v i (norm f) = okF l tables v i f
    unfold okF
    rw [norm_one, List.length_map]
    have e : (norm f).x.op = f.x.op := rfl
    rw [e, show (crossD (l.map norm) i) = crossD l i from funext fun k => norm_cross l i k]
theorem norm_right (l : List FullI) (tables : List Int) (vars : Int) : rightD (l.map norm) tables vars = rightD l tables vars := by
  unfold rightD
  rw [List.length_map, show okD (l.map norm) tables vars.toNat = okD l tables vars.toNat from funext fun k => norm_ok l tables _ k]
theorem right_con {l m : List FullI} (h : l.map FullI.con = m.map FullI.con) (tables : List Int) (vars : Int) : rightD l tables vars = rightD m tables vars := by
  rw [← norm_right l, ← norm_right m, norm_map h]
theorem norm_same (f g : FullI) : sameI (norm f) (norm g) = sameI f g := by
  rw [sameI_law, sameI_law]
  unfold sameP samePl
  rw [norm_snd, norm_snd]
  rfl
theorem norm_sameR : ∀ l m : List FullI, sameR (l.map norm) (m.map norm) = sameR l m
  | [], [] => rfl
  | [], _ :: _ => rfl
  | _ :: _, [] => rfl
  | x :: l, y :: m => by
    show sameR (norm x :: l.map norm) (norm y :: m.map norm) = _
    rw [sameR_cons, sameR_cons, norm_same, norm_sameR l m]
theorem same_con {l l2 m m2 : List FullI} (h : l.map FullI.con = l2.map FullI.con) (h2 : m.map FullI.con = m2.map FullI.con) : sameR l m = sameR l2 m2 := by
  rw [← norm_sameR l, ← norm_sameR l2, norm_map h, norm_map h2]
theorem con_get {l m : List FullI} (h : l.map FullI.con = m.map FullI.con) {f : FullI} (hf : f ∈ l) : ∃ g ∈ m, f.con = g.con := by
  have : f.con ∈ l.map FullI.con := List.mem_map.2 ⟨f, hf, rfl⟩
  rw [h] at this
  obtain ⟨g, hg, e⟩ := List.mem_map.1 this
  exact ⟨g, hg, e.symm⟩
theorem few_con {f g : FullI} (h : f.con = g.con) (hg : g.few) : f.few := by
  rw [← norm_few] at hg ⊢
  have : norm f = norm g := by unfold norm; rw [h]
  rw [this]
  exact hg
theorem op_con {f g : FullI} (h : f.con = g.con) : f.x.op = g.x.op := by
  have : (norm f).x.op = (norm g).x.op := by unfold norm; rw [h]
  exact this
theorem few_fits {f : FullI} (h : f.few) : f.fits := (few8_of f h).1
set_option maxRecDepth 100000 in
set_option maxHeartbeats 16000000 in
theorem codeRight_any (A B D : Option Addr) (l m : List FullI) (ds : List Int) (n n2 n3 c c2 dc : Nat) (vars : Int) (w : World) (hn : n = l.length) (hm : n2 = m.length) (hd : n3 = ds.length) (hr : Row w A l) (hr2 : Row w B m) (hD : Cells w D (ncells ds)) (ho : l.length ≤ c ∧ ∀ f ∈ l, f.x.ok ∧ f.fits ∧ f.tok) (ho2 : m.length ≤ c2 ∧ ∀ f ∈ m, f.x.ok ∧ f.fits ∧ f.tok) :
    Calls Try.prog 4 #[.slice A n c, .slice B n2 c2, .slice D n3 dc, .int .i64 vars] w fun e w' => e = .returned (.bool true) ∧ Ext w w' := by
  subst hn hm hd
  obtain ⟨b1, HB1⟩ : ∃ b, Hid (fewL l = b) := ⟨_, Lib.hid rfl⟩
  obtain ⟨b2, HB2⟩ : ∃ b, Hid (fewL m = b) := ⟨_, Lib.hid rfl⟩
  have HF1 : Hid (Calls Try.prog 15 #[.slice A l.length c, .int .i64 60] w fun e w' => e = .returned (.bool b1) ∧ w = w') := Lib.hid (few8_any A l _ c w rfl hr b1 HB1)
  have HF2 : Hid (Calls Try.prog 15 #[.slice B m.length c2, .int .i64 60] w fun e w' => e = .returned (.bool b2) ∧ w = w') := Lib.hid (few8_any B m _ c2 w rfl hr2 b2 HB2)
  cases b1 with
  | false =>
    clear HB1 HB2 HF2 hr hr2 hD ho ho2
    go_enter Try.func4, Try.ntmps4
    go_wp2_with fail
    refine HF1.out.mono ?_
    rintro e _ ⟨rfl, rfl⟩
    go_wp2_with fail
    refine (EV.works08 w).mono ?_
    rintro e w2 ⟨rfl, hx2⟩
    have HX2 := Lib.hid hx2
    clear hx2
    go_wp2_with fail
    go_ret
    exact ⟨rfl, HX2.out⟩
  | true =>
  cases b2 with
  | false =>
    clear HB1 HB2 hr hr2 hD ho ho2
    go_enter Try.func4, Try.ntmps4
    go_wp2_with fail
    refine HF1.out.mono ?_
    rintro e _ ⟨rfl, rfl⟩
    go_wp2_with fail
    refine HF2.out.mono ?_
    rintro e _ ⟨rfl, rfl⟩
    go_wp2_with fail
    refine (EV.works08 w).mono ?_
    rintro e w2 ⟨rfl, hx2⟩
    have HX2 := Lib.hid hx2
    clear hx2
    go_wp2_with fail
    go_ret
    exact ⟨rfl, HX2.out⟩
  | true =>
  by_cases hbig : 70 < ds.length ∨ 100 < vars
  · by_cases h70 : 70 < ds.length
    · have d0 : decide ((ds.length : Int) > 70) = true := decide_eq_true (by omega)
      have d1 : decide ((70 : Int) < (ds.length : Int)) = true := d0
      clear HB1 HB2 hr hr2 hD ho ho2 h70 hbig
      generalize ds.length = dn at *
      go_enter Try.func4, Try.ntmps4
      go_wp2_with fail
      refine HF1.out.mono ?_
      rintro e _ ⟨rfl, rfl⟩
      go_wp2_with fail
      refine HF2.out.mono ?_
      rintro e _ ⟨rfl, rfl⟩
      go_wp2_with fail
      refine (EV.works08 w).mono ?_
      rintro e w2 ⟨rfl, hx2⟩
      have HX2 := Lib.hid hx2
      clear hx2
      go_wp2_with fail
      go_ret
      exact ⟨rfl, HX2.out⟩
    · have d0 : decide ((ds.length : Int) > 70) = false := decide_eq_false (by omega)
      have d1 : decide ((70 : Int) < (ds.length : Int)) = false := d0
      have d2 : decide (vars > 100) = true := decide_eq_true (by omega)
      have d3 : decide (100 < vars) = true := d2
      clear HB1 HB2 hr hr2 hD ho ho2 h70 hbig
      generalize ds.length = dn at *
      go_enter Try.func4, Try.ntmps4
      go_wp2_with fail
      refine HF1.out.mono ?_
      rintro e _ ⟨rfl, rfl⟩
      go_wp2_with fail
      refine HF2.out.mono ?_
      rintro e _ ⟨rfl, rfl⟩
      go_wp2_with fail
      refine (EV.works08 w).mono ?_
      rintro e w2 ⟨rfl, hx2⟩
      have HX2 := Lib.hid hx2
      clear hx2
      go_wp2_with fail
      go_ret
      exact ⟨rfl, HX2.out⟩
  have d0 : decide ((ds.length : Int) > 70) = false := decide_eq_false (by omega)
  have d1 : decide ((70 : Int) < (ds.length : Int)) = false := d0
  have d2 : decide (vars > 100) = false := decide_eq_false (by omega)
  have d3 : decide (100 < vars) = false := d2
  obtain ⟨hl60, hfew⟩ := fewL_spec HB1.out
  obtain ⟨hm60, hfew2⟩ := fewL_spec HB2.out
  have HRA := Lib.hid hr
  have HRB := Lib.hid hr2
  have HDS := Lib.hid hD
  have HO1 := Lib.hid ho
  have HFW := Lib.hid hfew
  have HFW2 := Lib.hid hfew2
  have HL6 := Lib.hid hl60
  have HM6 := Lib.hid hm60
  have HDL : Hid (ds.length ≤ 70) := Lib.hid (by omega)
  have HVR : Hid (vars ≤ 100) := Lib.hid (by omega)
  clear HB1 HB2 hr hr2 hD ho ho2 hfew hfew2 hl60 hm60 hbig
  generalize hdn : ds.length = dn at *
  have HDN := Lib.hid hdn
  clear hdn
  go_enter Try.func4, Try.ntmps4
  go_wp2_with fail
  refine HF1.out.mono ?_
  rintro e _ ⟨rfl, rfl⟩
  go_wp2_with fail
  refine HF2.out.mono ?_
  rintro e _ ⟨rfl, rfl⟩
  go_wp2_with fail
  clear d0 d1 d2 d3 HF1 HF2
  refine (plainCode_any A l _ c w rfl (by have := HL6.out; omega) HRA.out fun f hf => few_fits (HFW.out f hf)).mono ?_
  rintro e w1 ⟨M, mc, lm, rfl, _, hmc, hmcon, hx1⟩
  have HMC := Lib.hid hmc
  have HMN := Lib.hid hmcon
  have HX1 := Lib.hid hx1
  have HML : Hid (l.length = lm.length) := Lib.hid (by have := congrArg List.length hmcon; simpa using this.symm)
  clear hmc hmcon hx1
  go_wp2_with fail
  refine (plainCode_any B m _ c2 w1 rfl (by have := HM6.out; omega) (HRB.out.ext HX1.out) fun f hf => few_fits (HFW2.out f hf)).mono ?_
  rintro e w2 ⟨M2, mc2, mm, rfl, _, hmc, hmcon, hx1⟩
  have HMC2 := Lib.hid hmc
  have HMN2 := Lib.hid hmcon
  have HX12 := Lib.hid hx1
  have HX2 := Lib.hid (HX1.out.trans hx1)
  have HML2 : Hid (m.length = mm.length) := Lib.hid (by have := congrArg List.length hmcon; simpa using this.symm)
  clear hmc hmcon hx1
  obtain ⟨rb, HRB1⟩ : ∃ rb, Hid (rightP l ds vars = rb) := ⟨_, Lib.hid rfl⟩
  obtain ⟨sb, HSB1⟩ : ∃ sb, Hid (all2 sameP l m = sb) := ⟨_, Lib.hid rfl⟩
  go_wp2_with fail
  refine (pright_any A D l ds _ c _ dc vars w2 rfl HDN.out.symm (by have := HL6.out; omega) HO1.out.1 (by have := HDL.out; have := HDN.out; omega) (by have := HVR.out; omega) (fun f hf => ((HO1.out.2 f hf).1).1) HFW.out (fun f hf => (HO1.out.2 f hf).2.2) (HRA.out.ext HX2.out) (HDS.out.ext HX2.out)).mono ?_
  rintro e w3 ⟨rfl, hx3⟩
  rw [HRB1.out]
  have HX3 := Lib.hid (HX2.out.trans hx3)
  have HX3m := Lib.hid (HX12.out.trans hx3)
  have HX3n := Lib.hid hx3
  clear hx3
  go_wp2_with fail
  refine (rright_any M D lm ds _ mc _ dc vars w3 HML.out HDN.out.symm (by have := HL6.out; have := HML.out; omega) (by have := HDL.out; have := HDN.out; omega) (by have := HVR.out; omega) (fun f hf => by obtain ⟨g, hg, e⟩ := con_get HMN.out hf; rw [op_con e]; exact ((HO1.out.2 g hg).1).1) (fun f hf => by obtain ⟨g, hg, e⟩ := con_get HMN.out hf; exact few_con e (HFW.out g hg)) (HMC.out.ext HX3m.out) (HDS.out.ext HX3.out)).mono ?_
  rintro e w4 ⟨rfl, hx4⟩
  rw [right_con HMN.out, ← right_law, HRB1.out]
  have HX4 := Lib.hid (HX3.out.trans hx4)
  have HX4m := Lib.hid (HX3m.out.trans hx4)
  have HX4n := Lib.hid (HX3n.out.trans hx4)
  clear hx4
  go_wp2_with fail
  refine (sameI_any w4 A B l m c c2 (by have := HL6.out; omega) (HRA.out.ext HX4.out) (HRB.out.ext HX4.out) (fun f hf => few8_of f (HFW.out f hf)) sb HSB1).mono ?_
  rintro e w5 ⟨rfl, hx5⟩
  have HX5 := Lib.hid (HX4.out.trans hx5)
  have HX5m := Lib.hid (HX4m.out.trans hx5)
  have HX5n := Lib.hid (HX4n.out.trans hx5)
  clear hx5
  go_wp2_with fail
  refine (rsame_any M M2 lm mm _ _ mc mc2 w5 HML.out HML2.out (by have := HL6.out; have := HML.out; omega) (HMC.out.ext HX5m.out) (HMC2.out.ext HX5n.out) (fun f hf => by obtain ⟨g, hg, e⟩ := con_get HMN.out hf; exact few_fits (few_con e (HFW.out g hg)))).mono ?_
  rintro e w6 ⟨rfl, hx6⟩
  rw [same_con HMN.out HMN2.out, ← sameR_law, HSB1.out]
  have HX6 := Lib.hid (HX5.out.trans hx6)
  clear hx6
  go_wp2_with fail
  refine (EV.works08 w6).mono ?_
  rintro e w7 ⟨rfl, hx7⟩
  have HX7 := Lib.hid (HX6.out.trans hx7)
  clear hx7
  go_wp2_with fail
  go_ret
  exact ⟨rfl, HX7.out⟩
end Go.Proofs.Ytngbpaiohfokbaa
