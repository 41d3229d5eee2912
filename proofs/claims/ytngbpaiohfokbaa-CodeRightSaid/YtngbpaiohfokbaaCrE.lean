/- interlockref08.Right, walked: whether instructions are right, as the document says. Condition: few instructions, terms, values, variables. -/
import Derived.Test.YtngbpaiohfokbaaCrD
namespace Go.Proofs.Ytngbpaiohfokbaa
open Go Go.RowKit
set_option linter.unusedVariables false
set_option linter.unusedSimpArgs false
/-- Does the instruction at k go over place i? -/
def crossG (i k : Nat) (g : FullI) : Bool := hasP g.x.op 111 && ((decide (k < i) && decide ((i : Int) < g.x.goes)) || (decide (i < k) && decide (g.x.goes ≤ (i : Int))))
def crossD (l : List FullI) (i k : Nat) : Bool := match l[k]? with
  | none => false
  | some g => crossG i k g
def okF (l : List FullI) (tables : List Int) (v i : Nat) (f : FullI) : Bool := oneR f tables v l.length && (((f.x.op == 16) == decide (i + 1 = l.length)) && (!(f.x.op == 15) || (List.range l.length).all fun k => !crossD l i k))
def okD (l : List FullI) (tables : List Int) (v i : Nat) : Bool := match l[i]? with
  | none => true
  | some f => okF l tables v i f
def rightD (l : List FullI) (tables : List Int) (vars : Int) : Bool := decide (0 < l.length) && (decide (0 ≤ vars) && (List.range l.length).all (okD l tables vars.toNat))
theorem range_no {p : Nat → Bool} {n k : Nat} (hk : k < n) (h : p k = false) : (List.range n).all p = false := by
  rw [List.all_eq_false]
  exact ⟨k, List.mem_range.2 hk, by rw [h]; decide⟩
theorem range_yes {p : Nat → Bool} {n : Nat} (h : ∀ k, k < n → p k = true) : (List.range n).all p = true := by
  rw [List.all_eq_true]
  intro k hk
  exact h k (List.mem_range.1 hk)
theorem row_cell {w : World} {b off : Nat} {l : List FullI} (h : Row w (some ⟨b, off, none⟩) l) (k : Nat) (hk : k < l.length) (j : Nat) (hj : j < 13) : w.cell? ⟨b, off + k * 13 + j, none⟩ = (l[k].x.cells)[j]? := by
  obtain ⟨b', o', hA, hb, hcc⟩ := h.1.at_ (by rw [fcells_len]; omega)
  injection hA with hA
  injection hA with h1 h2
  subst h1 h2
  rw [Nat.add_assoc, hcc _ (by rw [fcells_len]; omega)]
  exact fcells_at l k j hk hj
theorem row_block {w : World} {A : Option Addr} {l : List FullI} (h : Row w A l) (h0 : 0 < l.length) : ∃ b off, A = some ⟨b, off, none⟩ ∧ b < w.heap.size := by
  obtain ⟨b', o', hA, hb, hcc⟩ := h.1.at_ (by rw [fcells_len]; omega)
  exact ⟨b', o', hA, hb⟩
set_option maxRecDepth 100000 in
set_option maxHeartbeats 16000000 in
theorem rright_any (A tA : Option Addr) (l : List FullI) (tables : List Int) (n c tn tc : Nat) (vars : Int) (w : World) (hn : n = l.length) (htn : tn = tables.length) (hl : l.length ≤ 900) (htl : tables.length ≤ 1000) (hvars : vars ≤ 900) (hop : ∀ f ∈ l, 0 ≤ f.x.op ∧ f.x.op < 256) (hf : ∀ f ∈ l, f.few) (hA : Row w A l) (hT : Cells w tA (ncells tables)) :
    Calls Try.prog 18 #[.slice A n c, .slice tA tn tc, .int .i64 vars] w fun e w' => e = .returned (.bool (rightD l tables vars)) ∧ Ext w w' := by
  subst hn htn
  obtain ⟨bb, HO⟩ : ∃ bb, Hid (rightD l tables vars = bb) := ⟨_, Lib.hid rfl⟩
  rw [HO.out]
  unfold rightD at HO
  by_cases h0 : l.length = 0
  · have HF : Hid (bb = false) := Lib.hid (by rw [← HO.out, decide_eq_false (by omega)]; rfl)
    have hz : l = [] := List.eq_nil_of_length_eq_zero h0
    subst hz
    clear hA hT HO hop hf
    go_enter Try.func18, Try.ntmps18
    go_wp2_with fail
    go_ret
    rw [HF.out]
    exact ⟨rfl, Ext.refl _⟩
  have d0 : ((l.length : Int) == 0) = false := beq_eq_false_iff_ne.2 (by omega)
  rw [decide_eq_true (by omega : 0 < l.length), Bool.true_and] at HO
  by_cases hv0 : vars < 0
  · have HF : Hid (bb = false) := Lib.hid (by rw [← HO.out, decide_eq_false (by omega)]; rfl)
    have d1 : decide (vars < 0) = true := decide_eq_true hv0
    clear hA hT HO hop hf hv0 h0
    generalize l.length = n at *
    go_enter Try.func18, Try.ntmps18
    go_wp2_with fail
    go_ret
    rw [HF.out]
    exact ⟨rfl, Ext.refl _⟩
  obtain ⟨v, rfl⟩ : ∃ v : Nat, vars = (v : Int) := ⟨vars.toNat, by omega⟩
  have d1 : decide ((v : Int) < 0) = false := decide_eq_false hv0
  rw [decide_eq_true (by omega : (0 : Int) ≤ (v : Int)), Bool.true_and, Int.toNat_natCast] at HO
  obtain ⟨b, off, rfl, hb⟩ := row_block hA (by omega)
  have HA := Lib.hid hA
  have HOP := Lib.hid hop
  have HON : Hid (∀ k (hk : k < l.length) w', Ext w w' → Calls Try.prog 33 #[aggI l[k].x, .slice tA tables.length tc, .int .i64 (v : Int), .int .i64 (l.length : Int)] w' fun e w'' => e = .returned (.bool (oneR l[k] tables v l.length)) ∧ Ext w' w'') := Lib.hid fun k hk w' hx =>
    rone_any l[k] tA tables tables.length tc v l.length w' rfl htl (hop _ (List.getElem_mem hk)) (hf _ (List.getElem_mem hk)) (by omega) (by omega) ((hA.2 _ (List.getElem_mem hk)).ext hx) (hT.ext hx)
  have HPT : Hid (∀ k (hk : k < l.length) w', Calls Try.prog 35 #[.int .u8 l[k].x.op] w' fun e w'' => e = .returned (.string (partS l[k].x.op)) ∧ Ext w' w'') := Lib.hid fun k hk w' => by
    by_cases h16 : l[k].x.op ≤ 16
    · exact rpart_any _ (hop _ (List.getElem_mem hk)).1 h16 w'
    · exact rpart_big _ (by omega) w'
  have HL := Lib.hid hl
  have HL0 := Lib.hid (show 0 < l.length by omega)
  clear hA hT hop hf hv0 h0 htl hvars hl
  unfold aggI at HON
  go_enter Try.func18, Try.ntmps18
  go_wp2_with fail
  go_loopw [7] (fun i wr => ∃ k : Nat, k ≤ l.length ∧ i = .int .i64 k ∧ Hid (Ext w wr) ∧ Hid (∀ j, j < k → okD l tables v j = true)) (fun i _ => l.length - (intOf i).toNat)
  case atStart => exact ⟨0, Nat.zero_le _, rfl, Lib.hid (Ext.refl _), Lib.hid fun j h => by omega⟩
  case round =>
    obtain ⟨k, hk, rfl, HX, HJ⟩ := hrel
    obtain ⟨wa, rfl⟩ : ∃ wa : World, wa = wr := ⟨_, rfl⟩
    have hl := HL.out
    by_cases hlt : k < l.length
    rotate_left
    · obtain rfl : k = l.length := by omega
      have d2 : decide ((l.length : Int) < (l.length : Int)) = false := by simp
      have d3 : decide (l.length < l.length) = false := by simp
      have HBT : Hid (bb = true) := Lib.hid (by rw [← HO.out]; exact range_yes fun j hj => HJ.out j hj)
      go_wp2_with fail
      go_ret
      rw [HBT.out]
      exact ⟨rfl, HX.out⟩
    have d2 : decide ((k : Int) < (l.length : Int)) = true := decide_eq_true (by omega)
    have d3 : decide (k < l.length) = true := decide_eq_true hlt
    have q0 : (k : Int) < (l.length : Int) := by omega
    have HLT := Lib.hid hlt
    have hx := row_cell (HA.out.ext HX.out) k hlt
    have hone := HON.out k hlt wa HX.out
    have HFD : Hid (okF l tables v k l[k] = false → bb = false) := Lib.hid fun h => by
      rw [← HO.out]
      exact range_no hlt (by unfold okD; rw [List.getElem?_eq_getElem hlt]; exact h)
    have HTD : Hid (okF l tables v k l[k] = true → ∀ j, j < k + 1 → okD l tables v j = true) := Lib.hid fun h j hj => by
      by_cases e : j = k
      · subst e; unfold okD; rw [List.getElem?_eq_getElem hlt]; exact h
      · exact HJ.out j (by omega)
    unfold okF at HFD HTD
    have HRW : Hid (∀ w', Ext w w' → w'.cell? ⟨b, off + k * 13, none⟩ = some (.int .u8 l[k].x.op)) := Lib.hid fun w' hx => row_cell (HA.out.ext hx) k hlt 0 (by decide)
    generalize l[k] = f at *
    have x0 : wa.cell? ⟨b, off + k * 13, none⟩ = some (.int .u8 f.x.op) := hx 0 (by decide)
    have x1 : wa.cell? ⟨b, off + k * 13 + 1, none⟩ = some (.int .i64 f.x.node) := hx 1 (by decide)
    have x2 : wa.cell? ⟨b, off + k * 13 + 2, none⟩ = some (.int .u8 f.x.mode) := hx 2 (by decide)
    have x3 : wa.cell? ⟨b, off + k * 13 + 3, none⟩ = some (.int .i64 f.x.table) := hx 3 (by decide)
    have x4 : wa.cell? ⟨b, off + k * 13 + 4, none⟩ = some (.bool f.x.row) := hx 4 (by decide)
    have x5 : wa.cell? ⟨b, off + k * 13 + 5, none⟩ = some (.int .i64 f.x.col) := hx 5 (by decide)
    have x6 : wa.cell? ⟨b, off + k * 13 + 6, none⟩ = some (.int .i64 f.x.var) := hx 6 (by decide)
    have x7 : wa.cell? ⟨b, off + k * 13 + 7, none⟩ = some (.int .i64 f.x.goes) := hx 7 (by decide)
    have x8 : wa.cell? ⟨b, off + k * 13 + 8, none⟩ = some (.bool f.x.eq) := hx 8 (by decide)
    have x9 : wa.cell? ⟨b, off + k * 13 + 9, none⟩ = some (.int .i64 f.x.frm) := hx 9 (by decide)
    have x10 : wa.cell? ⟨b, off + k * 13 + 10, none⟩ = some (.int .i64 f.x.upto) := hx 10 (by decide)
    have x11 : wa.cell? ⟨b, off + k * 13 + 11, none⟩ = some (.slice f.x.key.1 f.x.key.2.1 f.x.key.2.2) := hx 11 (by decide)
    have x12 : wa.cell? ⟨b, off + k * 13 + 12, none⟩ = some (.slice f.x.vals.1 f.x.vals.2.1 f.x.vals.2.2) := hx 12 (by decide)
    have HONE := Lib.hid hone
    clear hx hone
    obtain ⟨t1, HT1⟩ : ∃ t1, Hid (oneR f tables v l.length = t1) := ⟨_, Lib.hid rfl⟩
    rw [HT1.out] at HONE HFD HTD
    go_wp2_with fail
    refine HONE.out.mono ?_
    rintro e w2 ⟨rfl, hx2⟩
    have HX2 := Lib.hid (HX.out.trans hx2)
    have HR2 := Lib.hid (HA.out.ext HX2.out)
    clear hx2 x0 x1 x2 x3 x4 x5 x6 x7 x8 x9 x10 x11 x12 HONE HT1
    cases t1 with
    | false =>
      have HBF := Lib.hid (HFD.out rfl)
      go_wp2_with fail
      go_ret
      rw [HBF.out]
      exact ⟨rfl, HX2.out⟩
    | true =>
    obtain ⟨op, hop⟩ : ∃ op, f.x.op = op := ⟨_, rfl⟩
    rw [hop] at HFD HTD
    have x0 : w2.cell? ⟨b, off + k * 13, none⟩ = some (.int .u8 op) := by
      rw [← hop]
      exact HRW.out w2 HX2.out
    have HX0 : Hid (∀ w', Ext w2 w' → w'.cell? ⟨b, off + k * 13, none⟩ = some (.int .u8 op)) := Lib.hid fun w' hx => by
      rw [← hop]
      exact HRW.out w' (HX2.out.trans hx)
    clear hop HRW
    have qs : IntKind.wrap .i64 ((l.length : Int) - 1) = (l.length : Int) - 1 := by rw [IntKind.wrap_i64]; omega
    obtain ⟨t16, ht16⟩ : ∃ t : Bool, (op == 16) = t := ⟨_, rfl⟩
    obtain ⟨tl, htl⟩ : ∃ t : Bool, ((k : Int) == (l.length : Int) - 1) = t := ⟨_, rfl⟩
    have HTL : Hid (decide (k + 1 = l.length) = tl) := Lib.hid (by rw [← htl, Bool.eq_iff_iff, decide_eq_true_iff, beq_iff_eq]; omega)
    rw [ht16, HTL.out] at HFD HTD
    have HT16 := Lib.hid ht16
    by_cases hne : t16 = tl
    rotate_left
    · have g0 : (t16 != tl) = true := bne_iff_ne.2 hne
      have g0x : (t16 == tl) = false := beq_eq_false_iff_ne.2 hne
      have HBF := Lib.hid (HFD.out (by rw [beq_eq_false_iff_ne.2 hne]; rfl))
      clear hne HFD HTD
      go_wp2_with fail
      go_ret
      rw [HBF.out]
      exact ⟨rfl, HX2.out⟩
    have g0 : (t16 != tl) = false := by rw [hne]; simp
    have g0x : (t16 == tl) = true := beq_iff_eq.2 hne
    have HFD := Lib.hid (fun h : (!(op == 15) || (List.range l.length).all fun k_1 => !crossD l k k_1) = false => HFD.out (by rw [hne, h]; simp))
    have HTD := Lib.hid (fun h : (!(op == 15) || (List.range l.length).all fun k_1 => !crossD l k k_1) = true => HTD.out (by rw [hne, h]; simp))
    clear hne HTL
    go_wp2_with fail
    clear x0 qs g0 g0x ht16 htl
    go_loopw [8] (fun i wr => ∃ m : Nat, m ≤ l.length ∧ i = .int .i64 m ∧ Hid (Ext w2 wr) ∧ Hid (∀ j, j < m → crossD l k j = false) ∧ Hid (op ≠ 15 → m = 0)) (fun i _ => l.length - (intOf i).toNat)
    case atStart => exact ⟨0, Nat.zero_le _, rfl, Lib.hid (Ext.refl _), Lib.hid fun j h => by omega, Lib.hid fun _ => rfl⟩
    case round =>
      obtain ⟨m, hm, rfl, HX3, HC, HM⟩ := hrel
      obtain ⟨w3, rfl⟩ : ∃ w3 : World, w3 = wr := ⟨_, rfl⟩
      have x0 := HX0.out w3 HX3.out
      by_cases hml : m < l.length
      rotate_left
      · obtain rfl : m = l.length := by omega
        have d5 : decide ((l.length : Int) < (l.length : Int)) = false := by simp
        have d6 : decide (l.length < l.length) = false := by simp
        have HOKK := Lib.hid (HTD.out (by rw [range_yes (fun j hj => by rw [HC.out j hj]; rfl), Bool.or_true]))
        go_wp2_with fail
        go_roundw
        case rel => exact ⟨k + 1, by omega, by go_num, Lib.hid (HX2.out.trans HX3.out), HOKK⟩
        case measure => simp [intOf]; omega
      have d5 : decide ((m : Int) < (l.length : Int)) = true := decide_eq_true (by omega)
      have d6 : decide (m < l.length) = true := decide_eq_true hml
      have q1 : (m : Int) < (l.length : Int) := by omega
      by_cases h15 : op = 15
      rotate_left
      · have g1 : (op == 15) = false := beq_eq_false_iff_ne.2 h15
        have HOKK := Lib.hid (HTD.out (by rw [g1]; rfl))
        clear h15 hml
        go_wp2_with fail
        go_roundw
        case rel => exact ⟨k + 1, by omega, by go_num, Lib.hid (HX2.out.trans HX3.out), HOKK⟩
        case measure => simp [intOf]; omega
      subst h15
      have HMK : Hid (crossD l k m = crossG k m l[m]) := Lib.hid (by unfold crossD; rw [List.getElem?_eq_getElem hml])
      have HMX := Lib.hid (row_cell (HR2.out.ext HX3.out) m hml 0 (by decide))
      have HMX7 : Hid (∀ w', Ext w3 w' → w'.cell? ⟨b, off + m * 13 + 7, none⟩ = some (.int .i64 l[m].x.goes)) := Lib.hid fun w' hx => row_cell ((HR2.out.ext HX3.out).ext hx) m hml 7 (by decide)
      have y0 : w3.cell? ⟨b, off + m * 13, none⟩ = some (.int .u8 l[m].x.op) := HMX.out
      have HPM := Lib.hid (HPT.out m hml w3)
      unfold crossG at HMK
      clear HMX
      generalize l[m] = gg at *
      generalize gg.x.op = op2 at *
      generalize gg.x.goes = goes2 at *
      go_wp2_with fail
      refine HPM.out.mono ?_
      rintro e w4 ⟨rfl, hx4⟩
      have HX4 := Lib.hid (HX3.out.trans hx4)
      have y7 := HMX7.out w4 hx4
      clear hx4 y0 x0 HPM HMX7
      obtain ⟨ho, HHO⟩ : ∃ ho, Hid (hasP op2 111 = ho) := ⟨_, Lib.hid rfl⟩
      rw [HHO.out] at HMK
      go_wp2_with fail
      refine (rhas_any (partS op2) 111 (partS_len op2) w4 ho HHO).mono ?_
      rintro e _ ⟨rfl, rfl⟩
      obtain ⟨cr, HCR⟩ : ∃ cr, Hid (crossD l k m = cr) := ⟨_, Lib.hid rfl⟩
      rw [HCR.out] at HMK
      have HFF : Hid (cr = true → bb = false) := Lib.hid fun h => HFD.out (by rw [range_no hml (by rw [HCR.out, h]; rfl)]; rfl)
      have HNN : Hid (cr = false → ∀ j, j < m + 1 → crossD l k j = false) := Lib.hid fun h j hj => by
        by_cases e : j = m
        · subst e; rw [HCR.out, h]
        · exact HC.out j (by omega)
      clear HHO HCR
      have fin : ∀ (P : Prop), P → P := fun _ h => h
      clear fin
      cases ho with
      | false =>
        have HN2 := Lib.hid (HNN.out (by rw [HMK.out]; rfl))
        clear hml
        go_wp2_with fail
        go_roundw
        case rel => exact ⟨m + 1, by omega, by go_num, HX4, HN2, Lib.hid fun h => absurd rfl h⟩
        case measure => simp [intOf]; omega
      | true =>
        by_cases a1 : m < k
        · have e1 : decide ((m : Int) < (k : Int)) = true := decide_eq_true (by omega)
          have e1n : decide (m < k) = true := decide_eq_true a1
          have e3 : decide ((m : Int) > (k : Int)) = false := decide_eq_false (by omega)
          have e3a : decide ((k : Int) < (m : Int)) = false := e3
          have e3n : decide (k < m) = false := decide_eq_false (by omega)
          by_cases a2 : (k : Int) < goes2
          · have e2 : decide (goes2 > (k : Int)) = true := decide_eq_true a2
            have e2a : decide ((k : Int) < goes2) = true := e2
            have HBF := Lib.hid (HFF.out (by rw [HMK.out, e1n, e2a]; rfl))
            clear a1 a2 hml
            go_wp2_with fail
            go_ret
            rw [HBF.out]
            exact ⟨rfl, HX2.out.trans HX4.out⟩
          · have e2 : decide (goes2 > (k : Int)) = false := decide_eq_false a2
            have e2a : decide ((k : Int) < goes2) = false := e2
            have HN2 := Lib.hid (HNN.out (by rw [HMK.out, e1n, e2a, e3n]; rfl))
            clear a1 a2 hml
            go_wp2_with fail
            go_roundw
            case rel => exact ⟨m + 1, by omega, by go_num, HX4, HN2, Lib.hid fun h => absurd rfl h⟩
            case measure => simp [intOf]; omega
        · have e1 : decide ((m : Int) < (k : Int)) = false := decide_eq_false (by omega)
          have e1n : decide (m < k) = false := decide_eq_false a1
          by_cases a3 : k < m
          · have e3 : decide ((m : Int) > (k : Int)) = true := decide_eq_true (by omega)
            have e3a : decide ((k : Int) < (m : Int)) = true := e3
            have e3n : decide (k < m) = true := decide_eq_true a3
            by_cases a4 : goes2 ≤ (k : Int)
            · have e4 : decide (goes2 ≤ (k : Int)) = true := decide_eq_true a4
              have HBF := Lib.hid (HFF.out (by rw [HMK.out, e1n, e3n, e4]; rfl))
              clear a1 a3 a4 hml
              go_wp2_with fail
              go_ret
              rw [HBF.out]
              exact ⟨rfl, HX2.out.trans HX4.out⟩
            · have e4 : decide (goes2 ≤ (k : Int)) = false := decide_eq_false a4
              have HN2 := Lib.hid (HNN.out (by rw [HMK.out, e1n, e3n, e4]; rfl))
              clear a1 a3 a4 hml
              go_wp2_with fail
              go_roundw
              case rel => exact ⟨m + 1, by omega, by go_num, HX4, HN2, Lib.hid fun h => absurd rfl h⟩
              case measure => simp [intOf]; omega
          · have e3 : decide ((m : Int) > (k : Int)) = false := decide_eq_false (by omega)
            have e3a : decide ((k : Int) < (m : Int)) = false := e3
            have e3n : decide (k < m) = false := decide_eq_false a3
            have HN2 := Lib.hid (HNN.out (by rw [HMK.out, e1n, e3n]; rfl))
            clear a1 a3 hml
            go_wp2_with fail
            go_roundw
            case rel => exact ⟨m + 1, by omega, by go_num, HX4, HN2, Lib.hid fun h => absurd rfl h⟩
            case measure => simp [intOf]; omega
end Go.Proofs.Ytngbpaiohfokbaa
