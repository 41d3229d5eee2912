/- tree.ends, walked. -/
import Derived.Test.YthofccoefiogiaaTRight
import Derived.Test.YthofccoefiogiaaTF0
import Derived.Deep.OwnRows
namespace Go.Proofs.Ythofccoefiogiaa
open Go Go.RowKit
set_option linter.unusedVariables false
set_option linter.unusedSimpArgs false
theorem infoInt : (Try.prog.info? 3).map (fun i => (i.zero, i.size, i.bytes)) = some (some (.int .i64 0), 1, 8) := by kernel_rfl
def zcells (Z : List Nat) : Array Value := (Z.map fun a : Nat => Value.int .i64 (a : Int)).toArray
theorem zcells_set (Z : List Nat) (i a : Nat) : (zcells Z).setIfInBounds i (.int .i64 (a : Int)) = zcells (Z.set i a) := by
  unfold zcells
  rw [List.setIfInBounds_toArray, List.map_set]
theorem zcells_at (Z : List Nat) (i : Nat) (h : i < Z.length) : (zcells Z)[i]? = some (.int .i64 (Z.getD i 0 : Int)) := by
  unfold zcells
  simp [List.getD_eq_getElem?_getD, h]
theorem zcells_zero (n : Nat) : madeCells #[.int .i64 0] n = zcells (List.replicate n 0) := by
  apply Array.toList_inj.1
  rw [toList_madeCells_one]
  simp [zcells]
/-- The ends, as tree.ends gives them. -/
def EndsV (w : World) (o : Option (List Nat)) (v : Value) : Prop := match o with
  | none => v = .slice none 0 0
  | some Z => ∃ g, v = .slice (some ⟨g, 0, none⟩) Z.length Z.length ∧ Blk w g 3 (zcells Z)
theorem kidsAt_cons (len : Nat) (Z : List Nat) (k : Int) (r : List Int) (a : Nat) : kidsAt len Z (k :: r) a = if k = (a : Int) ∧ a < len then kidsAt len Z r (Z.getD a 0) else none := rfl
theorem endsTo_len {ks : List (List Int)} : ∀ (j : Nat) (Z : List Nat), endsTo ks j = some Z → Z.length = ks.length := by
  intro j
  induction j with
  | zero => intro Z h; injection h with h; subst h; simp
  | succ j ih =>
    intro Z h
    unfold endsTo at h
    split at h
    · cases h
    · rename_i Z0 h0
      split at h
      · cases h
      · injection h with h
        subst h
        simpa using ih Z0 h0
theorem endsTo_le {ks : List (List Int)} : ∀ (j : Nat) (Z : List Nat), j ≤ ks.length → endsTo ks j = some Z → ∀ a, Z.getD a 0 ≤ ks.length := by
  intro j Z hj h a
  by_cases ha : ks.length - j ≤ a ∧ a < ks.length
  · obtain ⟨_, hz⟩ := endsTo_fwd ks j Z hj h
    exact (endD_gt (hz a ha.1 ha.2)).2
  · by_cases hal : a < ks.length
    · have : ∀ (j : Nat) (Z : List Nat), endsTo ks j = some Z → ∀ a, a < ks.length - j → Z.getD a 0 = 0 := by
        intro j
        induction j with
        | zero =>
          intro Z h a ha
          injection h with h
          subst h
          simp [List.getD_eq_getElem?_getD, List.getElem?_replicate]
          split <;> rfl
        | succ j ih =>
          intro Z h a ha
          unfold endsTo at h
          split at h
          · cases h
          · rename_i Z0 h0
            split at h
            · cases h
            · injection h with h
              subst h
              have := ih Z0 h0 a (by omega)
              simp only [List.getD_eq_getElem?_getD, List.getElem?_set]
              rw [if_neg (by omega)]
              simpa [List.getD_eq_getElem?_getD] using this
      rw [this j Z h a (by omega)]
      omega
    · have hl := endsTo_len j Z h
      simp [List.getD_eq_getElem?_getD, List.getElem?_eq_none (show Z.length ≤ a by omega)]
set_option maxRecDepth 100000 in
set_option maxHeartbeats 8000000 in
theorem ends_any (l : List NodeM) (A : Option Addr) (n c : Nat) (w : World) (hn : n = l.length) (ht : TreeM w A l) (hlen : l.length ≤ 1000) (hkl : ∀ x ∈ l, x.kids.length ≤ 1000) (o : Option (List Nat)) (ho : Hid (endsN (ksOf l) = o)) :
    Calls Try.prog 64 #[.agg #[.slice A n c]] w fun e w' => ∃ v, e = .returned v ∧ EndsV w' o v ∧ Ext w w' := by
  subst hn
  have HT := Lib.hid ht
  have HKL := Lib.hid hkl
  clear ht hkl
  have hmk := run_make_row' (P := Try.prog) 29 3 (.int .i64 0) 8 Try.underlying29 infoInt rfl .i64 .i64 l.length (by omega) (by omega)
  go_enter Try.func64, Try.ntmps64
  go_upto_region 2 with fail
  have HB0 : Hid (Blk ((w.alloc (.cells #[.slice A l.length c] 62)).alloc (.cells (madeCells #[.int .i64 0] l.length) 3)) (w.heap.size + 1) 3 (zcells (List.replicate l.length 0))) := Lib.hid (by
    rw [zcells_zero]
    exact Blk.newAt (by simp))
  have HG0 : Hid (Blk ((w.alloc (.cells #[.slice A l.length c] 62)).alloc (.cells (madeCells #[.int .i64 0] l.length) 3)) w.heap.size 62 #[.slice A l.length c]) := Lib.hid ((Blk.new _ _ _).alloc _)
  have HX0 : Hid (Ext w ((w.alloc (.cells #[.slice A l.length c] 62)).alloc (.cells (madeCells #[.int .i64 0] l.length) 3))) := (Ext.alloc _ _).trans (Ext.alloc _ _)
  try simp only [World.size_alloc]
  generalize (w.alloc (.cells #[.slice A l.length c] 62)).alloc (.cells (madeCells #[.int .i64 0] l.length) 3) = w1 at *
  obtain ⟨g, hg⟩ : ∃ g, w.heap.size + 1 = g := ⟨_, rfl⟩
  obtain ⟨gt, hgt⟩ : ∃ gt, w.heap.size = gt := ⟨_, rfl⟩
  rw [hg] at HB0 ⊢
  rw [hgt] at HG0 ⊢
  have HGG : Hid (w.heap.size ≤ g ∧ gt ≠ g) := Lib.hid ⟨by omega, by omega⟩
  clear hg hgt hmk
  have y0 := HG0.out.cell 0
  go_wp2_with fail
  clear y0
  go_loopw [4] (fun i wr => ∃ (m : Nat) (Z : List Nat), m ≤ l.length ∧ i = .int .i64 ((m : Int) - 1) ∧ Hid (endsTo (ksOf l) (l.length - m) = some Z) ∧ Hid (Blk wr g 3 (zcells Z)) ∧ Hid (Blk wr gt 62 #[.slice A l.length c]) ∧ Hid (Ext w wr)) (fun i _ => (intOf i + 1).toNat)
  case atStart => exact ⟨l.length, List.replicate l.length 0, Nat.le_refl _, rfl, Lib.hid (by rw [Nat.sub_self]; unfold endsTo; rw [ksOf_len]), HB0, HG0, HX0⟩
  case round =>
    clear HB0 HG0 HX0
    obtain ⟨m, Z, hm, rfl, HZ, HB, HG, HX⟩ := hrel
    obtain ⟨wa, rfl⟩ : ∃ wa : World, wa = wr := ⟨_, rfl⟩
    have hzl : Z.length = l.length := by rw [endsTo_len _ _ HZ.out, ksOf_len]
    have HZL : Hid (∀ a, Z.getD a 0 ≤ l.length) := Lib.hid (by have := endsTo_le _ Z (by rw [ksOf_len]; omega) HZ.out; rw [ksOf_len] at this; exact this)
    cases m with
    | zero =>
      have HON : Hid (o = if l.length ≠ 0 ∧ Z.getD 0 0 = l.length then some Z else none) := Lib.hid (by
        rw [← ho.out]
        unfold endsN
        have := HZ.out
        rw [Nat.sub_zero] at this
        rw [ksOf_len, this])
      by_cases h0 : l.length = 0
      · have e0 : ((l.length : Int) == 0) = true := by rw [h0]; rfl
        have HO : Hid (o = none) := Lib.hid (by rw [HON.out, if_neg (by omega)])
        go_wp2_with fail
        go_ret
        exact ⟨_, rfl, (by rw [HO.out]; rfl), HX.out⟩
      · have e0 : ((l.length : Int) == 0) = false := by rw [beq_eq_false_iff_ne]; omega
        have z0 : wa.cell? ⟨g, 0, none⟩ = some (.int .i64 (Z.getD 0 0 : Int)) := (HB.out.cell 0).trans (zcells_at Z 0 (by omega))
        have q0 : (0 : Int) < (l.length : Int) := by omega
        obtain ⟨z, HZ0⟩ : ∃ z, Hid (Z.getD 0 0 = z) := ⟨_, Lib.hid rfl⟩
        rw [HZ0.out] at z0 HON
        by_cases hz : z = l.length
        · have e1 : ((z : Int) == (l.length : Int)) = true := by simp [hz]
          have HO : Hid (o = some Z) := Lib.hid (by rw [HON.out, if_pos ⟨h0, hz⟩])
          clear hz
          go_wp2_with fail
          go_ret
          exact ⟨_, rfl, (by rw [HO.out]; exact ⟨g, by rw [hzl]; rfl, HB.out⟩), HX.out⟩
        · have e1 : ((z : Int) == (l.length : Int)) = false := by rw [beq_eq_false_iff_ne]; omega
          have HO : Hid (o = none) := Lib.hid (by rw [HON.out, if_neg (fun h => hz h.2)])
          go_wp2_with fail
          go_ret
          exact ⟨_, rfl, (by rw [HO.out]; rfl), HX.out⟩
    | succ m =>
      have em : (((m + 1 : Nat) : Int) - 1) = (m : Int) := by omega
      rw [em]
      have hml : m < l.length := by omega
      obtain ⟨b, off, rfl, hb, hcell⟩ := (HT.out.ext HX.out).at_ m hml
      have HNO : Hid (NodeOk wa l[m]) := Lib.hid ((HT.out.ext HX.out).ok _ (List.getElem_mem hml))
      have HKN : Hid (l[m].kids.length ≤ 1000) := Lib.hid (HKL.out _ (List.getElem_mem hml))
      have HST : Hid (∀ r, kidsAt l.length Z l[m].kids (m + 1) = r → endsTo (ksOf l) (l.length - m) = match r with | none => none | some a => some (Z.set m a)) := Lib.hid (by
        intro r hr
        rw [show l.length - m = (l.length - (m + 1)) + 1 from by omega]
        unfold endsTo
        rw [HZ.out]
        simp only [ksOf_len]
        rw [show l.length - 1 - (l.length - (m + 1)) = m from by omega, ksOf_getD l m hml, hr]
        cases r <;> rfl)
      generalize l[m] = x at *
      obtain ⟨kind, pos, text, num, kA, kc, kids⟩ := x
      have hkn : kids.length ≤ 1000 := HKN.out
      have c4 : wa.cell? ⟨b, off + m * 5 + 4, none⟩ = some (.slice kA kids.length kc) := hcell 4 (by omega)
      clear hcell em
      have hd0 : decide ((m : Int) ≥ 0) = true := by simp
      have hd1 : decide (0 ≤ (m : Int)) = true := by simp
      have hml' : (m : Int) < (l.length : Int) := by omega
      have y0 := HG.out.cell 0
      go_wp2_with fail
      go_loopw [5, 29] (fun at_ i w2 => w2 = wa ∧ ∃ (k a : Nat), k ≤ kids.length ∧ i = .int .i64 k ∧ at_ = .int .i64 (a : Int) ∧ a ≤ l.length ∧ Hid (kidsAt l.length Z kids (m + 1) = kidsAt l.length Z (kids.drop k) a)) (fun _ i _ => kids.length - (intOf i).toNat)
      case atStart => exact ⟨rfl, 0, m + 1, Nat.zero_le _, rfl, by go_num, by omega, Lib.hid rfl⟩
      case round =>
        obtain ⟨hwr, k, a, hk, rfl, rfl, hal, HK⟩ := hrel
        subst hwr
        by_cases hlt : k < kids.length
        · have d0 : decide ((k : Int) < (kids.length : Int)) = true := decide_eq_true (by omega)
          obtain ⟨b2, off2, rfl, hb2, hk2⟩ := kids_at HNO.out.kids k hlt
          have hdr := List.drop_eq_getElem_cons hlt
          simp only at hk2
          generalize kids[k] = kv at *
          rw [hdr, kidsAt_cons] at HK
          clear hdr
          by_cases hkv : kv = (a : Int)
          · subst hkv
            by_cases hal2 : a < l.length
            · have d1 : decide ((l.length : Int) ≤ (a : Int)) = false := decide_eq_false (by omega)
              have d2 : decide ((a : Int) ≥ (l.length : Int)) = false := decide_eq_false (by omega)
              have q1 : (a : Int) < (l.length : Int) := by omega
              have z0 : wr.cell? ⟨g, a, none⟩ = some (.int .i64 (Z.getD a 0 : Int)) := (HB.out.cell a).trans (zcells_at Z a (by omega))
              have HK2 : Hid (kidsAt l.length Z kids (m + 1) = kidsAt l.length Z (kids.drop (k + 1)) (Z.getD a 0)) := Lib.hid (by rw [HK.out, if_pos ⟨rfl, hal2⟩])
              have hzb := HZL.out a
              generalize Z.getD a 0 = z at *
              go_wp2_with fail
              go_roundw
              case rel => exact ⟨trivial, k + 1, z, by omega, by go_num, rfl, hzb, HK2⟩
              case measure => simp [intOf]; omega
            · have d1 : decide ((l.length : Int) ≤ (a : Int)) = true := decide_eq_true (by omega)
              have d2 : decide ((a : Int) ≥ (l.length : Int)) = true := decide_eq_true (by omega)
              have HO : Hid (o = none) := Lib.hid (by
                rw [← ho.out]
                have h1 := HK.out
                rw [if_neg (fun h => hal2 h.2)] at h1
                exact endsN_none (j := l.length - m) (by rw [ksOf_len]; omega) (HST.out none h1))
              go_wp2_with fail
              go_ret
              exact ⟨_, rfl, (by rw [HO.out]; rfl), HX.out⟩
          · have e1 : (kv == (a : Int)) = false := beq_eq_false_iff_ne.2 hkv
            have HO : Hid (o = none) := Lib.hid (by
              rw [← ho.out]
              have h1 := HK.out
              rw [if_neg (fun h => hkv h.1)] at h1
              exact endsN_none (j := l.length - m) (by rw [ksOf_len]; omega) (HST.out none h1))
            go_wp2_with fail
            go_ret
            exact ⟨_, rfl, (by rw [HO.out]; rfl), HX.out⟩
        · obtain rfl : k = kids.length := by omega
          have d0 : decide ((kids.length : Int) < (kids.length : Int)) = false := by simp
          have HZS : Hid (endsTo (ksOf l) (l.length - m) = some (Z.set m a)) := Lib.hid (by
            have h1 := HK.out
            rw [List.drop_length] at h1
            exact HST.out (some a) h1)
          have f0 : wr.frozen? ⟨g, m, none⟩ = false := HB.out.frozen m
          have hz1 : wr.cell? ⟨g, m, none⟩ = some (.int .i64 (Z.getD m 0 : Int)) := (HB.out.cell m).trans (zcells_at Z m (by omega))
          have HB2 : Hid (Blk (wr.setCell ⟨g, m, none⟩ (.int .i64 (a : Int))) g 3 (zcells (Z.set m a))) := Lib.hid (by rw [← zcells_set]; exact HB.out.put m _)
          have HG2 : Hid (Blk (wr.setCell ⟨g, m, none⟩ (.int .i64 (a : Int))) gt 62 #[.slice (some ⟨b, off, none⟩) l.length c]) := Lib.hid (HG.out.far HGG.out.2 _)
          have HX2 : Hid (Ext w (wr.setCell ⟨g, m, none⟩ (.int .i64 (a : Int)))) := Lib.hid (HX.out.setCell (p := ⟨g, m, none⟩) HGG.out.1 _)
          go_wp2_with fail
          go_roundw
          case rel => exact ⟨m, Z.set m a, by omega, rfl, HZS, HB2, HG2, HX2⟩
          case measure => simp [intOf]
end Go.Proofs.Ythofccoefiogiaa
