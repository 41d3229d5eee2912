/- The document's answer without some pieces (interlockref10.Without), walked. No condition. -/
import Derived.Test.YtngbpaiohfokbaaSameT
import Derived.Deep.OwnRows
namespace Go.Proofs.Ytngbpaiohfokbaa
open Go Go.RowKit
set_option linter.unusedVariables false
set_option linter.unusedSimpArgs false
theorem cells_at' {w : World} {g g' : Nat} {cs : List Value} (h : g = g') (hc : Cells w (some ⟨g', 0, none⟩) cs) : Cells w (some ⟨g, 0, none⟩) cs := by rw [h]; exact hc
theorem infoBool : (Try.prog.info? 4).map (fun i => (i.zero, i.size, i.bytes)) = some (some (.bool false), 1, 1) := by kernel_rfl
theorem infoInstrR : (Try.prog.info? 54).map (fun i => (i.zero, i.size, i.bytes)) = some (some (.agg #[.int .u8 0, .int .i64 0, .int .u8 0, .int .i64 0, .bool false, .int .i64 0, .int .i64 0, .int .i64 0, .bool false, .int .i64 0, .int .i64 0, .slice none 0 0, .slice none 0 0]), 13, 136) := by kernel_rfl
theorem lbN_none (k : Int) (l : List Int) (h : ∀ y ∈ l, k ≤ y) : lbN k l = 0 := by
  unfold lbN
  have : l.filter (fun y => decide (y < k)) = [] := by
    rw [List.filter_eq_nil_iff]
    intro y hy
    have := h y hy
    simp; omega
  rw [this]; rfl
theorem lbN_cons (k y : Int) (l : List Int) : lbN k (y :: l) = (if y < k then 1 else 0) + lbN k l := by
  unfold lbN
  rw [List.filter_cons]
  by_cases h : y < k
  · simp [h]; omega
  · simp [h]
theorem lbN_succ (k : Int) (l : List Int) (h : l.Pairwise (· < ·)) : lbN (k + 1) l = lbN k l + if k ∈ l then 1 else 0 := by
  induction l with
  | nil => rfl
  | cons y l ih =>
    have hp := List.pairwise_cons.1 h
    rw [lbN_cons, lbN_cons]
    rcases Int.lt_trichotomy y k with hy | hy | hy
    · rw [if_pos (by omega), if_pos hy, ih hp.2]
      have : (k ∈ y :: l) ↔ k ∈ l := by simp; omega
      by_cases hk : k ∈ l
      · rw [if_pos hk, if_pos (this.2 hk)]; omega
      · rw [if_neg hk, if_neg (fun e => hk (this.1 e))]
        omega
    · subst hy
      rw [if_pos (by omega), if_neg (by omega), lbN_none (y + 1) l (fun z hz => by have := hp.1 z hz; omega), lbN_none y l (fun z hz => by have := hp.1 z hz; omega), if_pos (by simp)]
    · rw [if_neg (by omega), if_neg (by omega), ih hp.2]
      have h1 : ¬ k ∈ l := fun e => by have := hp.1 k e; omega
      rw [if_neg h1, if_neg (by simp; exact ⟨by omega, h1⟩)]
      omega
theorem lbN_all (k goes : Int) (l : List Int) (h : ∀ y ∈ l, y < k) (hk : k ≤ goes) : lbN goes l = lbN k l := by
  unfold lbN
  congr 1
  apply List.filter_congr
  intro y hy
  have := h y hy
  rw [decide_eq_true (by omega), decide_eq_true (by omega)]
/-- Which places are gone, as Booleans. -/
def gB (gone : List Int) (n : Nat) : List Bool := (List.range n).map fun (j : Nat) => decide ((j : Int) ∈ gone)
theorem gB_len (gone : List Int) (n : Nat) : (gB gone n).length = n := by simp [gB]
theorem gB_at (gone : List Int) (n j : Nat) (h : j < n) : (gB gone n)[j]? = some (decide ((j : Int) ∈ gone)) := by simp [gB, h]
theorem goneOf_lt (ds ops : List Int) (k : Nat) (hk : k ≤ 1000) : ∀ y ∈ goneOf ds (pairsTo ops k), y < (k : Int) := by
  intro y hy
  unfold goneOf at hy
  obtain ⟨x, hx, rfl⟩ := List.mem_map.1 hy
  have := pairsTo_lt ops k hk x (List.mem_filter.1 hx).1
  omega
theorem goneOf_skip (ds ops : List Int) (k : Nat) (h : ops.getD k 0 ≠ 15) : goneOf ds (pairsTo ops (k + 1)) = goneOf ds (pairsTo ops k) := by
  have : pairsTo ops (k + 1) = pairsTo ops k := by show (if _ then _ else _) = _; rw [if_neg h]
  rw [this]
theorem gB_take (ds ops : List Int) (n k : Nat) (hk : k < n) (hn : n ≤ 1000) (h : ops.getD k 0 = 15) : gB (goneOf ds (pairsTo ops (k + 1))) n = (gB (goneOf ds (pairsTo ops k)) n).set k (decide (((pairsTo ops k).length : Int) ∈ ds)) ∧ (pairsTo ops (k + 1)).length = (pairsTo ops k).length + 1 := by
  have e : pairsTo ops (k + 1) = pairsTo ops k ++ [((pairsTo ops k).length, ⟨k % 1000, Nat.mod_lt _ (by decide)⟩)] := by show (if _ then _ else _) = _; rw [if_pos h]
  refine ⟨?_, by rw [e]; simp⟩
  have hm : k % 1000 = k := Nat.mod_eq_of_lt (by omega)
  apply List.ext_getElem?
  intro j
  by_cases hj : j < n
  · rw [gB_at _ _ _ hj, List.getElem?_set]
    have hno := fun hh => goneOf_lt ds ops k (by omega) (j : Int) hh
    by_cases hjk : k = j
    · subst hjk
      rw [if_pos rfl, if_pos (by rw [gB_len]; exact hj)]
      congr 1
      by_cases hin : ((pairsTo ops k).length : Int) ∈ ds
      · rw [e, goneOf_hit ds _ _ (decide_eq_true hin), decide_eq_true hin]
        apply decide_eq_true
        rw [List.mem_append]
        right
        simp [hm]
      · rw [e, goneOf_miss ds _ _ (decide_eq_false hin), decide_eq_false hin]
        apply decide_eq_false
        intro hh
        have := hno hh
        omega
    · rw [if_neg hjk, gB_at _ _ _ hj]
      congr 1
      rw [decide_eq_decide]
      by_cases hin : ((pairsTo ops k).length : Int) ∈ ds
      · rw [e, goneOf_hit ds _ _ (decide_eq_true hin), List.mem_append]
        simp only [hm, List.mem_singleton]
        constructor
        · rintro (h1 | h1)
          · exact h1
          · omega
        · exact .inl
      · rw [e, goneOf_miss ds _ _ (decide_eq_false hin)]
  · rw [List.getElem?_eq_none (by rw [gB_len]; omega), List.getElem?_eq_none (by rw [List.length_set, gB_len]; omega)]
theorem bools_set (bs : List Bool) (i : Nat) (v : Bool) : ((bs.map Value.bool).toArray.setIfInBounds i (.bool v)) = ((bs.set i v).map Value.bool).toArray := by
  rw [List.setIfInBounds_toArray, List.map_set]
theorem gB_self (ds ops : List Int) (n k : Nat) (hk : k < n) (hn : n ≤ 1000) : (gB (goneOf ds (pairsTo ops k)) n).set k false = gB (goneOf ds (pairsTo ops k)) n := by
  apply List.ext_getElem?
  intro j
  rw [List.getElem?_set]
  by_cases hjk : k = j
  · subst hjk
    rw [if_pos rfl, if_pos (by rw [gB_len]; exact hk), gB_at _ _ _ hk]
    congr 1
    symm
    apply decide_eq_false
    intro hh
    have := goneOf_lt ds ops k (by omega) _ hh
    omega
  · rw [if_neg hjk]
set_option maxHeartbeats 8000000 in
set_option maxRecDepth 4000 in
theorem rwithout_any (A D : Option Addr) (is : List InstrD) (ds : List Int) (n m cap dc : Nat) (w : World) (hn : n = is.length) (hm : m = ds.length) (hlen : is.length ≤ 1000) (hdl : ds.length ≤ 1000) (hc : Cells w A (icells is)) (hd : Cells w D (ncells ds)) (hok : ∀ x ∈ is, x.ok) (out : List InstrD) (ho : Hid (outTo (goneOf ds (pairsTo (opsOf is) is.length)) is is.length = out)) :
    Calls Try.prog 14 #[.slice A n cap, .slice D m dc] w fun e w' => ∃ A' c', e = .returned (.slice A' out.length c') ∧ (A' = none → c' = 0) ∧ w'.ownsRow w.heap.size 54 13 (.slice A' out.length c') out.length (icells out) ∧ Ext w w' := by
  subst hn hm
  obtain ⟨j0, hj, hjz0, hjz1, hjz2⟩ := info_parts infoInstrR
  have hmk := run_make_row' (P := Try.prog) 66 4 (.bool false) 1 Try.underlying66 infoBool rfl .i64 .i64 is.length (by omega) (by omega)
  have HC := Lib.hid hc
  have HD := Lib.hid hd
  have HOP := Lib.hid (fun i (h : i < is.length) => opsOf_at is i h)
  have HOK := Lib.hid hok
  clear hc hd hok
  go_enter Try.func14, Try.ntmps14
  go_upto_region 2 with fail
  have HB0 : Hid (Blk (w.alloc (.cells (madeCells #[.bool false] is.length) 4)) w.heap.size 4 ((gB (goneOf ds (pairsTo (opsOf is) 0)) is.length).map Value.bool).toArray) := Lib.hid (by
    have e : madeCells #[.bool false] is.length = ((gB (goneOf ds (pairsTo (opsOf is) 0)) is.length).map Value.bool).toArray := by
      apply Array.toList_inj.1
      rw [toList_madeCells_one]
      apply List.ext_getElem?
      intro j
      by_cases hj : j < is.length
      · simp [gB, hj, pairsTo, goneOf]
      · rw [List.getElem?_eq_none (by simp; omega), List.getElem?_eq_none (by simp [gB]; omega)]
    rw [e]
    exact Blk.new _ _ _)
  have HX0 : Hid (Ext w (w.alloc (.cells (madeCells #[.bool false] is.length) 4))) := Ext.alloc _ _
  generalize w.alloc (.cells (madeCells #[.bool false] is.length) 4) = w1 at *
  obtain ⟨g, hg⟩ : ∃ g, w.heap.size = g := ⟨_, rfl⟩
  have HG := Lib.hid hg
  rw [hg] at HB0 ⊢
  clear hg hmk
  go_wp2_with fail
  go_loopw [6, 7] (fun cnt i wr => ∃ k : Nat, k ≤ is.length ∧ i = .int .i64 k ∧ cnt = .int .i64 ((pairsTo (opsOf is) k).length : Int) ∧ Hid (Blk wr g 4 ((gB (goneOf ds (pairsTo (opsOf is) k)) is.length).map Value.bool).toArray) ∧ Hid (Ext w wr)) (fun _ i _ => is.length - (intOf i).toNat)
  case atStart => exact ⟨0, Nat.zero_le _, rfl, rfl, HB0, HX0⟩
  case round =>
    clear HB0 HX0
    obtain ⟨k, hk, rfl, rfl, HB, HX⟩ := hrel
    obtain ⟨wa, rfl⟩ : ∃ wa : World, wa = wr := ⟨_, rfl⟩
    by_cases hlt : k < is.length
    · have d0 : decide ((k : Int) < (is.length : Int)) = true := decide_eq_true (by omega)
      obtain ⟨b, off, rfl, hb, hcc⟩ := (HC.out.ext HX.out).at_ (by rw [icells_len]; omega)
      have c1 : wa.cell? ⟨b, off + k * 13, none⟩ = some (.int .u8 (is[k]).op) := (hcc _ (by rw [icells_len]; omega)).trans (icells_at is k 0 hlt (by omega))
      have hopk := HOP.out k hlt
      generalize is[k] = x at *
      clear hcc
      by_cases h15 : x.op = 15
      · rw [h15] at c1 hopk
        have HGT := Lib.hid (gB_take ds (opsOf is) is.length k hlt hlen hopk)
        have HGS := Lib.hid (gB_self ds (opsOf is) is.length k hlt hlen)
        have HPL := Lib.hid (pairsTo_len (opsOf is) k)
        generalize gB (goneOf ds (pairsTo (opsOf is) k)) is.length = bs at *
        have hbl : (gB (goneOf ds (pairsTo (opsOf is) (k + 1))) is.length).length = is.length := gB_len _ _
        have HBL : Hid (bs.length = is.length) := Lib.hid (by rw [HGT.out.1, List.length_set] at hbl; exact hbl)
        obtain ⟨cn, HCN⟩ : ∃ cn, Hid ((pairsTo (opsOf is) k).length = cn) := ⟨_, Lib.hid rfl⟩
        rw [HCN.out]
        rw [HCN.out] at HGT HPL
        clear hbl
        go_wp2_with fail
        go_loopw [8] (fun kk w2 => ∃ j : Nat, j ≤ ds.length ∧ kk = .int .i64 j ∧ Hid (Blk w2 g 4 ((bs.set k (decide ((cn : Int) ∈ ds.take j))).map Value.bool).toArray) ∧ Hid (Ext w w2)) (fun kk _ => ds.length - (intOf kk).toNat)
        case atStart => exact ⟨0, Nat.zero_le _, rfl, Lib.hid (by rw [List.take_zero]; show Blk wa g 4 ((bs.set k (decide ((cn : Int) ∈ []))).map Value.bool).toArray; rw [show decide ((cn : Int) ∈ ([] : List Int)) = false from by simp, HGS.out]; exact HB.out), HX⟩
        case round =>
          clear HB HX c1
          obtain ⟨j, hj1, rfl, HBj, HXj⟩ := hrel
          obtain ⟨wb, rfl⟩ : ∃ wb : World, wb = wr := ⟨_, rfl⟩
          by_cases hjd : j < ds.length
          · have d1 : decide ((j : Int) < (ds.length : Int)) = true := decide_eq_true (by omega)
            obtain ⟨b2, off2, rfl, hb2, hcc2⟩ := (HD.out.ext HXj.out).at_ (by rw [ncells_len']; omega)
            have u1 : wb.cell? ⟨b2, off2 + j, none⟩ = some (.int .i64 ds[j]) := (hcc2 _ (by rw [ncells_len']; omega)).trans (ncells_at' ds j hjd)
            have u2 : wb.cell? ⟨g, k, none⟩ = some (.bool (decide ((cn : Int) ∈ ds.take j))) := by
              rw [HBj.out.cell]
              have := HBL.out
              simp [this, hlt]
            have u3 : wb.frozen? ⟨g, k, none⟩ = false := HBj.out.frozen k
            have htk : ds.take (j + 1) = ds.take j ++ [ds[j]] := List.take_succ_eq_append_getElem hjd
            have HTK : Hid (decide ((cn : Int) ∈ ds.take (j + 1)) = (decide ((cn : Int) ∈ ds.take j) || (ds[j] == (cn : Int)))) := Lib.hid (by
              rw [htk, Bool.eq_iff_iff]
              simp only [decide_eq_true_eq, List.mem_append, List.mem_singleton, Bool.or_eq_true, beq_iff_eq]
              constructor
              · rintro (h | h)
                · exact .inl h
                · exact .inr h.symm
              · rintro (h | h)
                · exact .inl h
                · exact .inr h.symm)
            have q0 : (k : Int) < (is.length : Int) := by omega
            generalize ds[j] = dj at *
            clear htk hcc2
            obtain ⟨t, HT⟩ : ∃ t, Hid (decide ((cn : Int) ∈ ds.take j) = t) := ⟨_, Lib.hid rfl⟩
            rw [HT.out] at u2 HTK
            have hput := fun v => HBj.out.put k (.bool v)
            have HPUT := Lib.hid hput
            have hxs : Ext w (wb.setCell ⟨g, k, none⟩ (.bool true)) ∧ Ext w (wb.setCell ⟨g, k, none⟩ (.bool false)) := ⟨HXj.out.setCell (p := ⟨g, k, none⟩) (Nat.le_of_eq HG.out) _, HXj.out.setCell (p := ⟨g, k, none⟩) (Nat.le_of_eq HG.out) _⟩
            have HXS := Lib.hid hxs
            clear hput hxs
            cases t with
            | true =>
              go_wp2_with fail
              refine ⟨⟨j + 1, by omega, by go_num, Lib.hid ?_, HXS.out.1⟩, by simp [intOf]; omega⟩
              have := HPUT.out true
              rw [bools_set, List.set_set] at this
              rw [HTK.out]
              exact this
            | false =>
              by_cases hdj : dj = (cn : Int)
              · have e3 : (dj == (cn : Int)) = true := by simp [hdj]
                subst hdj
                go_wp2_with fail
                refine ⟨⟨j + 1, by omega, by go_num, Lib.hid ?_, HXS.out.1⟩, by simp [intOf]; omega⟩
                have := HPUT.out true
                rw [bools_set, List.set_set] at this
                rw [HTK.out, e3]
                exact this
              · have e3 : (dj == (cn : Int)) = false := beq_eq_false_iff_ne.2 hdj
                go_wp2_with fail
                refine ⟨⟨j + 1, by omega, by go_num, Lib.hid ?_, HXS.out.2⟩, by simp [intOf]; omega⟩
                have := HPUT.out false
                rw [bools_set, List.set_set] at this
                rw [HTK.out, e3]
                exact this
          · obtain rfl : j = ds.length := by omega
            have d1 : decide ((ds.length : Int) < (ds.length : Int)) = false := by simp
            have hpl := HPL.out
            go_wp2_with fail
            refine ⟨⟨k + 1, by omega, by go_num, ?_, Lib.hid ?_, HXj⟩, by simp [intOf]; omega⟩
            · rw [HGT.out.2]; go_num
            · have := HBj.out
              rw [List.take_length, ← HGT.out.1] at this
              exact this
      · have e15 : (x.op == 15) = false := beq_eq_false_iff_ne.2 h15
        have HSK := Lib.hid (goneOf_skip ds (opsOf is) k (by rw [hopk]; exact h15))
        have HSP : Hid (pairsTo (opsOf is) (k + 1) = pairsTo (opsOf is) k) := Lib.hid (by show (if _ then _ else _) = _; rw [hopk, if_neg h15])
        go_wp2_with fail
        refine ⟨⟨k + 1, by omega, by go_num, by rw [HSP.out], Lib.hid (by rw [HSP.out]; exact HB.out), HX⟩, by simp [intOf]; omega⟩
    · obtain rfl : k = is.length := by omega
      have d0 : decide ((is.length : Int) < (is.length : Int)) = false := by simp
      obtain ⟨gone, HGO⟩ : ∃ gone, Hid (goneOf ds (pairsTo (opsOf is) is.length) = gone) := ⟨_, Lib.hid rfl⟩
      have HRI := Lib.hid (goneOf_rise ds (opsOf is) is.length hlen)
      have HPO := Lib.hid (goneOf_pos ds (pairsTo (opsOf is) is.length))
      have HLT := Lib.hid (goneOf_lt ds (opsOf is) is.length hlen)
      have HGL : Hid ((goneOf ds (pairsTo (opsOf is) is.length)).length ≤ 1000) := Lib.hid (by
        have := goneOf_len ds (pairsTo (opsOf is) is.length)
        have := pairsTo_len (opsOf is) is.length
        omega)
      rw [HGO.out] at ho HRI HPO HLT HGL HB
      clear HGO
      go_wp2_with fail
      go_loopw [9, 10] (fun out_ i wr => ∃ (k : Nat) (A' : Option Addr) (c' : Nat), k ≤ is.length ∧ i = .int .i64 k ∧ out_ = .slice A' (outTo gone is k).length c' ∧ (A' = none → c' = 0) ∧ Hid (wr.ownsRow g 54 13 (.slice A' (outTo gone is k).length c') (outTo gone is k).length (icells (outTo gone is k))) ∧ Hid (Blk wr g 4 ((gB gone is.length).map Value.bool).toArray) ∧ Hid (Ext w wr)) (fun _ i _ => is.length - (intOf i).toNat)
      case atStart => exact ⟨0, none, 0, Nat.zero_le _, rfl, rfl, fun _ => rfl, World.ownsRow_nil _ _ _ _, HB, HX⟩
      case round =>
        clear HB HX
        obtain ⟨k, A', c', hk, rfl, rfl, hz, HO, HB, HX⟩ := hrel
        obtain ⟨wo, rfl⟩ : ∃ wo : World, wo = wr := ⟨_, rfl⟩
        by_cases hlt : k < is.length
        · have d0 : decide ((k : Int) < (is.length : Int)) = true := decide_eq_true (by omega)
          obtain ⟨b, off, rfl, hb, hcc⟩ := (HC.out.ext HX.out).at_ (by rw [icells_len]; omega)
          have hx : ∀ j, j < 13 → wo.cell? ⟨b, off + k * 13 + j, none⟩ = (is[k].cells)[j]? := fun j hj => by
            rw [Nat.add_assoc, hcc _ (by rw [icells_len]; omega)]
            exact icells_at is k j hlt hj
          have hxk : is[k]? = some is[k] := List.getElem?_eq_getElem hlt
          have hgo := (HOK.out _ (List.getElem_mem hlt)).2
          generalize is[k] = x at *
          obtain ⟨op, node, mode, table, row, col, var, goes, eq, frm, upto, ⟨ka, kl, kc⟩, ⟨va, vl, vc⟩⟩ := x
          simp only at hgo
          have x0 : wo.cell? ⟨b, off + k * 13, none⟩ = some (.int .u8 op) := hx 0 (by omega)
          have x1 : wo.cell? ⟨b, off + k * 13 + 1, none⟩ = some (.int .i64 node) := hx 1 (by omega)
          have x2 : wo.cell? ⟨b, off + k * 13 + 2, none⟩ = some (.int .u8 mode) := hx 2 (by omega)
          have x3 : wo.cell? ⟨b, off + k * 13 + 3, none⟩ = some (.int .i64 table) := hx 3 (by omega)
          have x4 : wo.cell? ⟨b, off + k * 13 + 4, none⟩ = some (.bool row) := hx 4 (by omega)
          have x5 : wo.cell? ⟨b, off + k * 13 + 5, none⟩ = some (.int .i64 col) := hx 5 (by omega)
          have x6 : wo.cell? ⟨b, off + k * 13 + 6, none⟩ = some (.int .i64 var) := hx 6 (by omega)
          have x7 : wo.cell? ⟨b, off + k * 13 + 7, none⟩ = some (.int .i64 goes) := hx 7 (by omega)
          have x8 : wo.cell? ⟨b, off + k * 13 + 8, none⟩ = some (.bool eq) := hx 8 (by omega)
          have x9 : wo.cell? ⟨b, off + k * 13 + 9, none⟩ = some (.int .i64 frm) := hx 9 (by omega)
          have x10 : wo.cell? ⟨b, off + k * 13 + 10, none⟩ = some (.int .i64 upto) := hx 10 (by omega)
          have x11 : wo.cell? ⟨b, off + k * 13 + 11, none⟩ = some (.slice ka kl kc) := hx 11 (by omega)
          have x12 : wo.cell? ⟨b, off + k * 13 + 12, none⟩ = some (.slice va vl vc) := hx 12 (by omega)
          clear hx hcc
          have HXL : Hid (Ext w (wo.alloc (.cells #[.int .u8 op, .int .i64 node, .int .u8 mode, .int .i64 table, .bool row, .int .i64 col, .int .i64 var, .int .i64 goes, .bool eq, .int .i64 frm, .int .i64 upto, .slice ka kl kc, .slice va vl vc] 54))) := Ext.trans HX.out (Ext.alloc _ _)
          have HBL := Lib.hid (HB.out.alloc (.cells #[.int .u8 op, .int .i64 node, .int .u8 mode, .int .i64 table, .bool row, .int .i64 col, .int .i64 var, .int .i64 goes, .bool eq, .int .i64 frm, .int .i64 upto, .slice ka kl kc, .slice va vl vc] 54))
          have HOT : Hid (outTo gone is (k + 1) = if (k : Int) ∈ gone then outTo gone is k else outTo gone is k ++ [fixI gone ⟨op, node, mode, table, row, col, var, goes, eq, frm, upto, (ka, kl, kc), (va, vl, vc)⟩]) := Lib.hid (by show (match is[k]? with | none => outTo gone is k | some x => if (k : Int) ∈ gone then outTo gone is k else outTo gone is k ++ [fixI gone x]) = _; rw [hxk])
          have hol := outTo_len gone is k
          have hlb0 : lbN 0 gone = 0 := lbN_low 0 gone HPO.out (by omega)
          have HLB0 := Lib.hid hlb0
          clear hlb0
          go_wp2_with fail
          go_loopw [12, 13] (fun less kk w2 => w2 = (wo.alloc (.cells #[.int .u8 op, .int .i64 node, .int .u8 mode, .int .i64 table, .bool row, .int .i64 col, .int .i64 var, .int .i64 goes, .bool eq, .int .i64 frm, .int .i64 upto, .slice ka kl kc, .slice va vl vc] 54)) ∧ ∃ j : Nat, j ≤ is.length ∧ ((j : Int) ≤ goes ∨ j = 0) ∧ kk = .int .i64 j ∧ less = .int .i64 (lbN (j : Int) gone : Int)) (fun _ kk _ => is.length - (intOf kk).toNat)
          case atStart => exact ⟨rfl, 0, Nat.zero_le _, .inr rfl, rfl, by have := HLB0.out; show _ = Value.int .i64 ((lbN (0 : Int) gone : Nat) : Int); rw [this]; rfl⟩
          case round =>
            obtain ⟨hw2, j, hj1, hjg, rfl, rfl⟩ := hrel
            subst hw2
            by_cases hjn : j < is.length
            · have d1 : decide ((j : Int) < (is.length : Int)) = true := decide_eq_true (by omega)
              by_cases hjt : (j : Int) < goes
              · have d2 : decide ((j : Int) < goes) = true := decide_eq_true hjt
                have u2 : (wo.alloc (.cells #[.int .u8 op, .int .i64 node, .int .u8 mode, .int .i64 table, .bool row, .int .i64 col, .int .i64 var, .int .i64 goes, .bool eq, .int .i64 frm, .int .i64 upto, .slice ka kl kc, .slice va vl vc] 54)).cell? ⟨g, j, none⟩ = some (.bool (decide ((j : Int) ∈ gone))) := by
                  rw [HBL.out.cell]
                  have := gB_at gone is.length j hjn
                  simp [this]
                have q1 : (j : Int) < (is.length : Int) := by omega
                have HSU := Lib.hid (lbN_succ (j : Int) gone HRI.out)
                have hll := lbN_le (j : Int) gone
                have hgl2 := HGL.out
                by_cases hinj : (j : Int) ∈ gone
                · rw [decide_eq_true hinj] at u2
                  have h3 := HSU.out
                  rw [if_pos hinj] at h3
                  have HS2 := Lib.hid h3
                  clear h3 hinj HSU
                  have h5 : ((lbN ((j + 1 : Nat) : Int) gone : Nat) : Int) = (lbN (j : Int) gone : Int) + 1 := by
                    rw [show ((j + 1 : Nat) : Int) = (j : Int) + 1 from by omega, HS2.out]; omega
                  go_wp2_with fail
                  exact ⟨⟨by first | trivial | rfl, j + 1, by omega, .inl (by omega), by go_num, by rw [h5]⟩, by simp [intOf]; omega⟩
                · rw [decide_eq_false hinj] at u2
                  have h3 := HSU.out
                  rw [if_neg hinj] at h3
                  have HS2 := Lib.hid h3
                  clear h3 hinj HSU
                  have h5 : ((lbN ((j + 1 : Nat) : Int) gone : Nat) : Int) = (lbN (j : Int) gone : Int) := by
                    rw [show ((j + 1 : Nat) : Int) = (j : Int) + 1 from by omega, HS2.out]; omega
                  go_wp2_with fail
                  exact ⟨⟨by first | trivial | rfl, j + 1, by omega, .inl (by omega), by go_num, by rw [h5]⟩, by simp [intOf]; omega⟩
              · have d2 : decide ((j : Int) < goes) = false := decide_eq_false hjt
                have HLF : Hid (lbN (j : Int) gone = lbN goes gone) := Lib.hid (by
                  rcases hjg with h | h
                  · have : (j : Int) = goes := by omega
                    rw [this]
                  · subst h
                    rw [lbN_low goes gone HPO.out (by omega)]
                    exact HLB0.out)
                obtain ⟨lb, HLV⟩ : ∃ lb, Hid (lbN (j : Int) gone = lb) := ⟨_, Lib.hid rfl⟩
                rw [HLV.out]
                have HLG : Hid (lbN goes gone = lb) := Lib.hid (by rw [← HLF.out, HLV.out])
                have hq : IntKind.i64.wrap (goes - (lb : Int)) = goes - (lb : Int) := by
                  rw [IntKind.wrap_i64]
                  have h1 := lbN_le goes gone
                  have h2 := HGL.out
                  by_cases h0 : goes ≤ 0
                  · have h3 := lbN_low goes gone HPO.out h0
                    rw [HLG.out] at h3
                    subst h3
                    omega
                  · rw [HLG.out] at h1
                    omega
                have HOE := Lib.hid (HO.out.alloc (.cells #[.int .u8 op, .int .i64 node, .int .u8 mode, .int .i64 table, .bool row, .int .i64 col, .int .i64 var, .int .i64 (goes - (lb : Int)), .bool eq, .int .i64 frm, .int .i64 upto, .slice ka kl kc, .slice va vl vc] 54))
                have HBE := Lib.hid (HB.out.alloc (.cells #[.int .u8 op, .int .i64 node, .int .u8 mode, .int .i64 table, .bool row, .int .i64 col, .int .i64 var, .int .i64 (goes - (lb : Int)), .bool eq, .int .i64 frm, .int .i64 upto, .slice ka kl kc, .slice va vl vc] 54))
                have HXE : Hid (Ext w (wo.alloc (.cells #[.int .u8 op, .int .i64 node, .int .u8 mode, .int .i64 table, .bool row, .int .i64 col, .int .i64 var, .int .i64 (goes - (lb : Int)), .bool eq, .int .i64 frm, .int .i64 upto, .slice ka kl kc, .slice va vl vc] 54))) := Ext.trans HX.out (Ext.alloc _ _)
                have v2 : (wo.alloc (.cells #[.int .u8 op, .int .i64 node, .int .u8 mode, .int .i64 table, .bool row, .int .i64 col, .int .i64 var, .int .i64 (goes - (lb : Int)), .bool eq, .int .i64 frm, .int .i64 upto, .slice ka kl kc, .slice va vl vc] 54)).cell? ⟨g, k, none⟩ = some (.bool (decide ((k : Int) ∈ gone))) := by
                  rw [HBE.out.cell]
                  have := gB_at gone is.length k hlt
                  simp [this]
                have q0 : (k : Int) < (is.length : Int) := by omega
                by_cases hink : (k : Int) ∈ gone
                · rw [decide_eq_true hink] at v2
                  have HOT2 := HOT.out
                  rw [if_pos hink] at HOT2
                  have HOU := Lib.hid HOT2
                  clear HOT2 hink
                  go_wp2_with fail
                  exact ⟨⟨k + 1, A', c', by omega, by go_num, by rw [HOU.out], hz, by rw [HOU.out]; exact HOE, HBE, HXE⟩, by simp [intOf]; omega⟩
                · rw [decide_eq_false hink] at v2
                  have HOT2 := HOT.out
                  rw [if_neg hink] at HOT2
                  have HOU := Lib.hid HOT2
                  clear HOT2 hink
                  have hown := HOE.out.alloc (.cells #[.int .u8 op, .int .i64 node, .int .u8 mode, .int .i64 table, .bool row, .int .i64 col, .int .i64 var, .int .i64 (goes - (lb : Int)), .bool eq, .int .i64 frm, .int .i64 upto, .slice ka kl kc, .slice va vl vc] 54)
                  have HXF : Hid (Ext w ((wo.alloc (.cells #[.int .u8 op, .int .i64 node, .int .u8 mode, .int .i64 table, .bool row, .int .i64 col, .int .i64 var, .int .i64 (goes - (lb : Int)), .bool eq, .int .i64 frm, .int .i64 upto, .slice ka kl kc, .slice va vl vc] 54)).alloc (.cells #[.int .u8 op, .int .i64 node, .int .u8 mode, .int .i64 table, .bool row, .int .i64 col, .int .i64 var, .int .i64 (goes - (lb : Int)), .bool eq, .int .i64 frm, .int .i64 upto, .slice ka kl kc, .slice va vl vc] 54))) := Ext.trans HXE.out (Ext.alloc _ _)
                  have HBF := Lib.hid (HBE.out.alloc (.cells #[.int .u8 op, .int .i64 node, .int .u8 mode, .int .i64 table, .bool row, .int .i64 col, .int .i64 var, .int .i64 (goes - (lb : Int)), .bool eq, .int .i64 frm, .int .i64 upto, .slice ka kl kc, .slice va vl vc] 54))
                  go_wp2_with (at_builtin; refine wpList_grow rfl _ _ 26 rfl g 54 j0 _ 13 136 Try.underlying26 hj hjz0 hjz1 hjz2 rfl (by decide) _ _ _ rfl hown _ 1 1 [.int .u8 op, .int .i64 node, .int .u8 mode, .int .i64 table, .bool row, .int .i64 col, .int .i64 var, .int .i64 (goes - (lb : Int)), .bool eq, .int .i64 frm, .int .i64 upto, .slice ka kl kc, .slice va vl vc] rfl (by simp) rfl ?c1 ?c2 ?c3 ?c4 (by have := HXF.out.size; have := HG.out; omega) ?_)
                  case c1 => exact cells_at' (by simp) (Cells.new _ 54 #[.int .u8 op, .int .i64 node, .int .u8 mode, .int .i64 table, .bool row, .int .i64 col, .int .i64 var, .int .i64 (goes - (lb : Int)), .bool eq, .int .i64 frm, .int .i64 upto, .slice ka kl kc, .slice va vl vc])
                  case c2 => first | exact ⟨rfl, rfl, rfl, rfl, rfl, rfl, rfl, rfl, rfl, rfl, rfl, rfl, rfl⟩ | (intro u hu; simp only [List.mem_cons, List.not_mem_nil, or_false] at hu; rcases hu with rfl | rfl | rfl | rfl | rfl | rfl | rfl | rfl | rfl | rfl | rfl | rfl | rfl <;> rfl)
                  case c3 => unfold maxLen; omega
                  case c4 => omega
                  intro A2 c2 w4 z4 hown4 hg4
                  have HO4 : Hid (w4.ownsRow g 54 13 (.slice A2 (outTo gone is (k + 1)).length c2) (outTo gone is (k + 1)).length (icells (outTo gone is (k + 1)))) := Lib.hid (by
                    have hic : icells (outTo gone is k ++ [fixI gone ⟨op, node, mode, table, row, col, var, goes, eq, frm, upto, (ka, kl, kc), (va, vl, vc)⟩]) = icells (outTo gone is k) ++ [.int .u8 op, .int .i64 node, .int .u8 mode, .int .i64 table, .bool row, .int .i64 col, .int .i64 var, .int .i64 (goes - (lb : Int)), .bool eq, .int .i64 frm, .int .i64 upto, .slice ka kl kc, .slice va vl vc] := by
                      unfold icells fixI
                      rw [List.flatMap_append, HLG.out]
                      rfl
                    rw [HOU.out, List.length_append, hic]
                    exact hown4)
                  have HB4 := Lib.hid (HBF.out.grown hg4 (fun e => own_differ hown HBF.out (by decide) e.symm))
                  have HX4 : Hid (Ext w w4) := Below.grown HXF.out hg4 HXF.out.size (fun k hk => by have := (hown.lt k hk).1; have := HG.out; omega)
                  have HLN : Hid ((outTo gone is k).length + 1 = (outTo gone is (k + 1)).length) := Lib.hid (by rw [HOU.out]; simp)
                  clear hown hown4 hg4
                  go_wp2_with fail
                  refine ⟨⟨k + 1, A2, c2, by omega, by go_num, by rw [← HLN.out], z4, HO4, HB4, HX4⟩, by simp [intOf]; omega⟩
            · have d1 : decide ((j : Int) < (is.length : Int)) = false := decide_eq_false (by omega)
              have HLF : Hid (lbN (j : Int) gone = lbN goes gone) := Lib.hid (by
                have hjn' : j = is.length := by omega
                subst hjn'
                rcases hjg with h | h
                · exact (lbN_all (is.length : Int) goes gone HLT.out h).symm
                · omega)
              obtain ⟨lb, HLV⟩ : ∃ lb, Hid (lbN (j : Int) gone = lb) := ⟨_, Lib.hid rfl⟩
              rw [HLV.out]
              have HLG : Hid (lbN goes gone = lb) := Lib.hid (by rw [← HLF.out, HLV.out])
              have hq : IntKind.i64.wrap (goes - (lb : Int)) = goes - (lb : Int) := by
                rw [IntKind.wrap_i64]
                have h1 := lbN_le goes gone
                have h2 := HGL.out
                by_cases h0 : goes ≤ 0
                · have h3 := lbN_low goes gone HPO.out h0
                  rw [HLG.out] at h3
                  subst h3
                  omega
                · rw [HLG.out] at h1
                  omega
              have HOE := Lib.hid (HO.out.alloc (.cells #[.int .u8 op, .int .i64 node, .int .u8 mode, .int .i64 table, .bool row, .int .i64 col, .int .i64 var, .int .i64 (goes - (lb : Int)), .bool eq, .int .i64 frm, .int .i64 upto, .slice ka kl kc, .slice va vl vc] 54))
              have HBE := Lib.hid (HB.out.alloc (.cells #[.int .u8 op, .int .i64 node, .int .u8 mode, .int .i64 table, .bool row, .int .i64 col, .int .i64 var, .int .i64 (goes - (lb : Int)), .bool eq, .int .i64 frm, .int .i64 upto, .slice ka kl kc, .slice va vl vc] 54))
              have HXE : Hid (Ext w (wo.alloc (.cells #[.int .u8 op, .int .i64 node, .int .u8 mode, .int .i64 table, .bool row, .int .i64 col, .int .i64 var, .int .i64 (goes - (lb : Int)), .bool eq, .int .i64 frm, .int .i64 upto, .slice ka kl kc, .slice va vl vc] 54))) := Ext.trans HX.out (Ext.alloc _ _)
              have v2 : (wo.alloc (.cells #[.int .u8 op, .int .i64 node, .int .u8 mode, .int .i64 table, .bool row, .int .i64 col, .int .i64 var, .int .i64 (goes - (lb : Int)), .bool eq, .int .i64 frm, .int .i64 upto, .slice ka kl kc, .slice va vl vc] 54)).cell? ⟨g, k, none⟩ = some (.bool (decide ((k : Int) ∈ gone))) := by
                rw [HBE.out.cell]
                have := gB_at gone is.length k hlt
                simp [this]
              have q0 : (k : Int) < (is.length : Int) := by omega
              by_cases hink : (k : Int) ∈ gone
              · rw [decide_eq_true hink] at v2
                have HOT2 := HOT.out
                rw [if_pos hink] at HOT2
                have HOU := Lib.hid HOT2
                clear HOT2 hink
                go_wp2_with fail
                exact ⟨⟨k + 1, A', c', by omega, by go_num, by rw [HOU.out], hz, by rw [HOU.out]; exact HOE, HBE, HXE⟩, by simp [intOf]; omega⟩
              · rw [decide_eq_false hink] at v2
                have HOT2 := HOT.out
                rw [if_neg hink] at HOT2
                have HOU := Lib.hid HOT2
                clear HOT2 hink
                have hown := HOE.out.alloc (.cells #[.int .u8 op, .int .i64 node, .int .u8 mode, .int .i64 table, .bool row, .int .i64 col, .int .i64 var, .int .i64 (goes - (lb : Int)), .bool eq, .int .i64 frm, .int .i64 upto, .slice ka kl kc, .slice va vl vc] 54)
                have HXF : Hid (Ext w ((wo.alloc (.cells #[.int .u8 op, .int .i64 node, .int .u8 mode, .int .i64 table, .bool row, .int .i64 col, .int .i64 var, .int .i64 (goes - (lb : Int)), .bool eq, .int .i64 frm, .int .i64 upto, .slice ka kl kc, .slice va vl vc] 54)).alloc (.cells #[.int .u8 op, .int .i64 node, .int .u8 mode, .int .i64 table, .bool row, .int .i64 col, .int .i64 var, .int .i64 (goes - (lb : Int)), .bool eq, .int .i64 frm, .int .i64 upto, .slice ka kl kc, .slice va vl vc] 54))) := Ext.trans HXE.out (Ext.alloc _ _)
                have HBF := Lib.hid (HBE.out.alloc (.cells #[.int .u8 op, .int .i64 node, .int .u8 mode, .int .i64 table, .bool row, .int .i64 col, .int .i64 var, .int .i64 (goes - (lb : Int)), .bool eq, .int .i64 frm, .int .i64 upto, .slice ka kl kc, .slice va vl vc] 54))
                go_wp2_with (at_builtin; refine wpList_grow rfl _ _ 26 rfl g 54 j0 _ 13 136 Try.underlying26 hj hjz0 hjz1 hjz2 rfl (by decide) _ _ _ rfl hown _ 1 1 [.int .u8 op, .int .i64 node, .int .u8 mode, .int .i64 table, .bool row, .int .i64 col, .int .i64 var, .int .i64 (goes - (lb : Int)), .bool eq, .int .i64 frm, .int .i64 upto, .slice ka kl kc, .slice va vl vc] rfl (by simp) rfl ?c1 ?c2 ?c3 ?c4 (by have := HXF.out.size; have := HG.out; omega) ?_)
                case c1 => exact cells_at' (by simp) (Cells.new _ 54 #[.int .u8 op, .int .i64 node, .int .u8 mode, .int .i64 table, .bool row, .int .i64 col, .int .i64 var, .int .i64 (goes - (lb : Int)), .bool eq, .int .i64 frm, .int .i64 upto, .slice ka kl kc, .slice va vl vc])
                case c2 => first | exact ⟨rfl, rfl, rfl, rfl, rfl, rfl, rfl, rfl, rfl, rfl, rfl, rfl, rfl⟩ | (intro u hu; simp only [List.mem_cons, List.not_mem_nil, or_false] at hu; rcases hu with rfl | rfl | rfl | rfl | rfl | rfl | rfl | rfl | rfl | rfl | rfl | rfl | rfl <;> rfl)
                case c3 => unfold maxLen; omega
                case c4 => omega
                intro A2 c2 w4 z4 hown4 hg4
                have HO4 : Hid (w4.ownsRow g 54 13 (.slice A2 (outTo gone is (k + 1)).length c2) (outTo gone is (k + 1)).length (icells (outTo gone is (k + 1)))) := Lib.hid (by
                  have hic : icells (outTo gone is k ++ [fixI gone ⟨op, node, mode, table, row, col, var, goes, eq, frm, upto, (ka, kl, kc), (va, vl, vc)⟩]) = icells (outTo gone is k) ++ [.int .u8 op, .int .i64 node, .int .u8 mode, .int .i64 table, .bool row, .int .i64 col, .int .i64 var, .int .i64 (goes - (lb : Int)), .bool eq, .int .i64 frm, .int .i64 upto, .slice ka kl kc, .slice va vl vc] := by
                    unfold icells fixI
                    rw [List.flatMap_append, HLG.out]
                    rfl
                  rw [HOU.out, List.length_append, hic]
                  exact hown4)
                have HB4 := Lib.hid (HBF.out.grown hg4 (fun e => own_differ hown HBF.out (by decide) e.symm))
                have HX4 : Hid (Ext w w4) := Below.grown HXF.out hg4 HXF.out.size (fun k hk => by have := (hown.lt k hk).1; have := HG.out; omega)
                have HLN : Hid ((outTo gone is k).length + 1 = (outTo gone is (k + 1)).length) := Lib.hid (by rw [HOU.out]; simp)
                clear hown hown4 hg4
                go_wp2_with fail
                refine ⟨⟨k + 1, A2, c2, by omega, by go_num, by rw [← HLN.out], z4, HO4, HB4, HX4⟩, by simp [intOf]; omega⟩
        · obtain rfl : k = is.length := by omega
          have d0 : decide ((is.length : Int) < (is.length : Int)) = false := by simp
          go_wp2_with fail
          go_ret
          rw [ho.out] at HO ⊢
          exact ⟨A', c', rfl, hz, by rw [HG.out]; exact HO.out, HX.out⟩
end Go.Proofs.Ytngbpaiohfokbaa
