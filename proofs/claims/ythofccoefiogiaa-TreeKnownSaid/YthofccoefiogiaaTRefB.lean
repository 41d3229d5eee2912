/- The document's end and Find, walked. -/
import Derived.Test.YthofccoefiogiaaTRefA
namespace Go.Proofs.Ythofccoefiogiaa
open Go Go.RowKit
set_option linter.unusedVariables false
set_option linter.unusedSimpArgs false
def optI : Option Nat → Int
  | none => -1
  | some a => (a : Int)
def endI (l : List NodeM) (i : Nat) : Int := optI (endD (ksOf l) i)
theorem optI_none (o : Option Nat) (h : optI o < 0) : o = none := by
  cases o with
  | none => rfl
  | some a => have h' : (a : Int) < 0 := h; omega
set_option maxRecDepth 100000 in
set_option maxHeartbeats 8000000 in
theorem end_any (l : List NodeM) (A : Option Addr) (n c : Nat) (w : World) (hn : n = l.length) (ht : TreeM w A l) (hlen : l.length ≤ 1000) (hkl : ∀ x ∈ l, x.kids.length ≤ 1000) : ∀ (f i : Nat) (v : Int) (x : Int), l.length - i ≤ f → x = (i : Int) → i ≤ 1000 → Hid (endI l i = v) →
    Calls Try.prog 68 #[.slice A n c, .int .i64 x] w fun e w' => e = .returned (.int .i64 v) ∧ w = w' := by
  subst hn
  have HT := Lib.hid ht
  have HKL := Lib.hid hkl
  clear ht hkl
  intro f
  induction f with
  | zero =>
    intro i v x hf hx hi hv
    subst hx
    have HV : Hid (v = -1) := Lib.hid (by rw [← hv.out]; unfold endI; rw [endD_eq, ksOf_len, if_neg (by omega)]; rfl)
    have d1 : decide ((i : Int) ≥ (l.length : Int)) = true := decide_eq_true (by omega)
    have d2 : decide (l.length ≤ i) = true := decide_eq_true (by omega)
    go_enter Try.func68, Try.ntmps68
    go_wp2_with fail
    go_ret
    exact ⟨by rw [HV.out]; rfl, rfl⟩
  | succ f ih =>
    intro i v x hf hx hi hv
    subst hx
    by_cases hil : i < l.length
    · have d1 : decide ((i : Int) ≥ (l.length : Int)) = false := decide_eq_false (by omega)
      have d2 : decide (l.length ≤ i) = false := decide_eq_false (by omega)
      have q0 : (i : Int) < (l.length : Int) := by omega
      have IH := Lib.hid ih
      clear ih
      obtain ⟨b, off, rfl, hb, hcell⟩ := HT.out.at_ i hil
      have HNO : Hid (NodeOk w l[i]) := Lib.hid (HT.out.ok _ (List.getElem_mem hil))
      have HKN : l[i].kids.length ≤ 1000 := HKL.out _ (List.getElem_mem hil)
      have HV : Hid (v = optI (kidsR (endD (ksOf l)) l.length l[i].kids (some (i + 1)))) := Lib.hid (by
        rw [← hv.out]
        unfold endI
        rw [endD_eq, ksOf_len, if_pos hil, ksOf_getD l i hil])
      generalize l[i] = x at *
      obtain ⟨kind, pos, text, num, kA, kc, kids⟩ := x
      have c4 : w.cell? ⟨b, off + i * 5 + 4, none⟩ = some (.slice kA kids.length kc) := hcell 4 (by omega)
      simp only at HKN HV
      clear hcell
      go_enter Try.func68, Try.ntmps68
      go_wp2_with fail
      go_loop [5, 6] (fun at_ kk => ∃ (k : Nat) (o : Option Nat), k ≤ kids.length ∧ kk = .int .i64 k ∧ at_ = .int .i64 (optI o) ∧ Hid (∀ a, o = some a → i < a ∧ a ≤ l.length) ∧ Hid (kidsR (endD (ksOf l)) l.length kids (some (i + 1)) = kidsR (endD (ksOf l)) l.length (kids.drop k) o)) (fun _ kk => kids.length - (intOf kk).toNat)
      case atStart => exact ⟨0, some (i + 1), Nat.zero_le _, rfl, by show _ = Value.int .i64 (((i + 1 : Nat)) : Int); go_num, Lib.hid (fun a h => by injection h with h; omega), Lib.hid rfl⟩
      case round =>
        obtain ⟨k, o, hk, rfl, rfl, HO, HK⟩ := hrel
        by_cases hlt : k < kids.length
        · have d3 : decide ((k : Int) < (kids.length : Int)) = true := decide_eq_true (by omega)
          obtain ⟨b2, off2, rfl, hb2, hk2⟩ := kids_at HNO.out.kids k hlt
          have hdr := List.drop_eq_getElem_cons hlt
          simp only at hk2
          generalize kids[k] = kv at *
          rw [hdr] at HK
          clear hdr
          cases o with
          | none =>
            have HZ : Hid (v = -1) := Lib.hid (by rw [HV.out, HK.out]; rfl)
            show Code.wp _ _ _ _ _
            have e1 : optI none = -1 := rfl
            rw [e1]
            go_wp2_with fail
            go_ret
            exact ⟨by rw [HZ.out]; rfl, rfl⟩
          | some a =>
            have e1 : optI (some a) = (a : Int) := rfl
            rw [e1]
            have hoa := HO.out a rfl
            have d4 : decide ((a : Int) < 0) = false := decide_eq_false (by omega)
            rw [kidsR_cons] at HK
            by_cases hal : a < l.length
            · have d5 : decide ((a : Int) ≥ (l.length : Int)) = false := decide_eq_false (by omega)
              have d6 : decide (l.length ≤ a) = false := decide_eq_false (by omega)
              by_cases hkv : kv = (a : Int)
              · subst hkv
                have HK2 : Hid (kidsR (endD (ksOf l)) l.length kids (some (i + 1)) = kidsR (endD (ksOf l)) l.length (kids.drop (k + 1)) (endD (ksOf l) a)) := Lib.hid (by rw [HK.out, if_pos ⟨hal, rfl⟩])
                have HE : Hid (endI l a = optI (endD (ksOf l) a)) := Lib.hid rfl
                have HO2 : Hid (∀ a1, endD (ksOf l) a = some a1 → i < a1 ∧ a1 ≤ l.length) := Lib.hid (by
                  intro a1 h
                  have h1 := endD_gt h
                  have := ksOf_len l
                  omega)
                generalize endD (ksOf l) a = o2 at *
                go_wp2_with (refine (IH.out a (optI o2) (a : Int) (by omega) rfl (by omega) HE).mono ?_; rintro e w' ⟨rfl, rfl⟩)
                go_round
                case rel => exact ⟨k + 1, o2, by omega, by go_num, rfl, HO2, HK2⟩
                case measure => simp [intOf]; omega
              · have e2 : (kv == (a : Int)) = false := beq_eq_false_iff_ne.2 hkv
                have HZ : Hid (v = -1) := Lib.hid (by rw [HV.out, HK.out, if_neg (fun h => hkv h.2)]; rfl)
                go_wp2_with fail
                go_ret
                exact ⟨by rw [HZ.out]; rfl, rfl⟩
            · have d5 : decide ((a : Int) ≥ (l.length : Int)) = true := decide_eq_true (by omega)
              have d6 : decide (l.length ≤ a) = true := decide_eq_true (by omega)
              have HZ : Hid (v = -1) := Lib.hid (by rw [HV.out, HK.out, if_neg (fun h => hal h.1)]; rfl)
              go_wp2_with fail
              go_ret
              exact ⟨by rw [HZ.out]; rfl, rfl⟩
        · obtain rfl : k = kids.length := by omega
          have d3 : decide ((kids.length : Int) < (kids.length : Int)) = false := by simp
          have HZ : Hid (v = optI o) := Lib.hid (by
            have h1 := HK.out
            rw [List.drop_length] at h1
            rw [HV.out, h1]
            rfl)
          go_wp2_with fail
          go_ret
          exact ⟨by rw [HZ.out]; rfl, rfl⟩
    · have HV : Hid (v = -1) := Lib.hid (by rw [← hv.out]; unfold endI; rw [endD_eq, ksOf_len, if_neg hil]; rfl)
      have d1 : decide ((i : Int) ≥ (l.length : Int)) = true := decide_eq_true (by omega)
      have d2 : decide (l.length ≤ i) = true := decide_eq_true (by omega)
      go_enter Try.func68, Try.ntmps68
      go_wp2_with fail
      go_ret
      exact ⟨by rw [HV.out]; rfl, rfl⟩
set_option maxRecDepth 100000 in
set_option maxHeartbeats 8000000 in
theorem rfind_any (l : List NodeM) (A : Option Addr) (n c : Nat) (p : Int) (w : World) (hn : n = l.length) (ht : TreeM w A l) (hlen : l.length ≤ 1000) (r : Int) (hr : Hid (findM l p = r)) :
    Calls Try.prog 41 #[.slice A n c, .int .i64 p] w fun e w' => e = .returned (.int .i64 r) ∧ w = w' := by
  subst hn
  have HT := Lib.hid ht
  clear ht
  go_enter Try.func41, Try.ntmps41
  go_wp2_with fail
  go_loop [5] (fun i => ∃ m : Nat, m ≤ l.length ∧ i = .int .i64 ((m : Int) - 1) ∧ Hid (findTo l p m = r)) (fun i => (intOf i + 1).toNat)
  case atStart => exact ⟨l.length, Nat.le_refl _, rfl, hr⟩
  case round =>
    obtain ⟨m, hm, rfl, HR⟩ := hrel
    cases m with
    | zero =>
      have HZ : Hid (r = -1) := Lib.hid HR.out.symm
      go_wp2_with fail
      go_ret
      exact ⟨by rw [HZ.out]; rfl, rfl⟩
    | succ m =>
      have em : (((m + 1 : Nat) : Int) - 1) = (m : Int) := by omega
      rw [em]
      have hml : m < l.length := by omega
      obtain ⟨b, off, rfl, hb, hcell⟩ := HT.out.at_ m hml
      have HH : Hid (l[m].pos = p → r = (m : Int)) := Lib.hid (fun h => by rw [← HR.out]; exact findTo_hit hml h)
      have HN : Hid (l[m].pos ≠ p → findTo l p m = r) := Lib.hid (fun h => by rw [← HR.out]; exact (findTo_miss hml h).symm)
      generalize l[m] = x at *
      obtain ⟨kind, pos, text, num, kA, kc, kids⟩ := x
      have c1 : w.cell? ⟨b, off + m * 5 + 1, none⟩ = some (.int .i64 pos) := hcell 1 (by omega)
      clear hcell em
      simp only at HH HN
      have hd0 : decide ((m : Int) ≥ 0) = true := by simp
      have hd1 : decide (0 ≤ (m : Int)) = true := by simp
      have hml' : (m : Int) < (l.length : Int) := by omega
      by_cases hp : pos = p
      · have HZ := Lib.hid (HH.out hp)
        subst hp
        go_wp2_with fail
        go_ret
        exact ⟨by rw [HZ.out]; rfl, rfl⟩
      · have HZ := Lib.hid (HN.out hp)
        have e1 : (pos == p) = false := beq_eq_false_iff_ne.2 hp
        go_wp2_with fail
        go_round
        case rel => exact ⟨m, by omega, rfl, HZ⟩
        case measure => simp [intOf]
end Go.Proofs.Ythofccoefiogiaa
