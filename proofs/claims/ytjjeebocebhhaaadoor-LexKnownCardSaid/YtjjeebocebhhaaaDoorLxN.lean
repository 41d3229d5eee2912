/- Names: lex.IsName, the document's, LexNames: walked. Condition: errors.errorType reads as the program's text lays it. -/
import Derived.Test.YtjjeebocebhhaaaDoorLxAny
namespace Go.Proofs.YtjjeebocebhhaaaDoor
open Go Go.RowKit
set_option linter.unusedVariables false
set_option linter.unusedSimpArgs false
theorem letter_word {c : UInt8} (h : letterB c = true) : wordB c = true := by unfold wordB; rw [h]; rfl
theorem name_tw {c : UInt8} (r : Bs) (h : letterB c = true) : ((c :: r).takeWhile wordB == c :: r) = nameB (c :: r) := by
  rw [List.takeWhile_cons, if_pos (letter_word h)]
  show _ = (letterB c && r.all wordB)
  rw [h, Bool.true_and, Bool.eq_iff_iff, beq_iff_eq]
  constructor
  · intro e
    injection e with _ e
    rw [List.all_eq_true]
    exact all_tw r e
  · intro e
    rw [tw_all r (by simpa using e)]
theorem letters_set2 : IsSet ⟨#[97, 98, 99, 100, 101, 102, 103, 104, 105, 106, 107, 108, 109, 110, 111, 112, 113, 114, 115, 116, 117, 118, 119, 120, 121, 122]⟩ letterB := by unfold IsSet; decide +kernel
/-- A text's bytes, new. -/
theorem str_cells (w : World) (l : Bs) : Cells (Lib.bytesWorld w 5 (bstr l)) (some ⟨w.heap.size, 0, none⟩) (bcells l) := by
  have hsz : (bstr l).size = l.length := by simp [bstr, ByteArray.size]
  exact .inr ⟨w.heap.size, 0, rfl, by rw [Lib.bytesWorld_size]; omega, fun k hk => by
    rw [bcells_len] at hk
    rw [Nat.zero_add, Lib.bytesWorld_cell w 5 (bstr l) k (by rw [hsz]; exact hk), bcells_at l k hk]
    simp [bstr, hk]⟩
theorem str_conv (w : World) (l : Bs) : (convert 9 22 (.string (bstr l))).run Tryd.prog w = .ok (.slice (some ⟨w.heap.size, 0, none⟩) l.length (grownCap w l.length 0 5)) (Lib.bytesWorld w 5 (bstr l)) ∧ l.length ≤ grownCap w l.length 0 5 := by
  have hsz : (bstr l).size = l.length := by simp [bstr, ByteArray.size]
  have h := Lib.run_convert_string_bytes (P := Tryd.prog) w 9 22 5 (bstr l) Tryd.underlying9 Tryd.underlying22 Tryd.underlying5
  have hcp := grownCap_ge w (bstr l).size 0 5
  rw [hsz] at h hcp
  exact ⟨h, hcp⟩
set_option maxHeartbeats 4000000 in
set_option maxRecDepth 10000 in
theorem isName_any (l : Bs) (hbig : l.length ≤ 140737488355328) (w : World) : Calls Tryd.prog 23 #[.string (bstr l)] w fun e w' => e = .returned (.bool (nameB l)) ∧ Ext w w' := by
  cases l with
  | nil =>
    go_enter Tryd.func23, Tryd.ntmps23
    have z0 : (bstr []).toList.isEmpty = true := by rw [bstr_toList]; rfl
    go_wp2_with fail
    go_ret
    exact ⟨rfl, Ext.refl _⟩
  | cons c r =>
    have z0 : (bstr (c :: r)).toList.isEmpty = false := by rw [bstr_toList]; rfl
    have hsz : (bstr (c :: r)).size = (c :: r).length := by simp [bstr, ByteArray.size]
    have hsp : 0 < (bstr (c :: r)).size := by rw [hsz]; exact Nat.succ_pos _
    have e0 : (bstr (c :: r))[0]'hsp = c := rfl
    obtain ⟨hcv, hcp⟩ := str_conv w (c :: r)
    have hx1 := Ext.bytesWorld w 5 (bstr (c :: r))
    have hc1 := str_cells w (c :: r)
    obtain ⟨lv, HL⟩ : ∃ lv, Hid (letterB c = lv) := ⟨_, Lib.hid rfl⟩
    have hp : decide (0 ≤ Lib.indexByte [97, 98, 99, 100, 101, 102, 103, 104, 105, 106, 107, 108, 109, 110, 111, 112, 113, 114, 115, 116, 117, 118, 119, 120, 121, 122] c) = letterB c := letters_set2.at_ c
    rw [HL.out] at hp
    cases lv with
    | false =>
      have HR : Hid (nameB (c :: r) = false) := Lib.hid (by show (letterB c && _) = false; rw [HL.out]; rfl)
      clear hcv hcp hx1 hc1 hsz
      go_enter Tryd.func23, Tryd.ntmps23
      go_wp2_with fail
      refine (sIndexByte_set letters_set2 c _).mono ?_
      rintro e w' ⟨rfl, rfl⟩
      have hp2 : decide (Lib.indexByte [97, 98, 99, 100, 101, 102, 103, 104, 105, 106, 107, 108, 109, 110, 111, 112, 113, 114, 115, 116, 117, 118, 119, 120, 121, 122] c < 0) = true := decide_eq_true (by have := of_decide_eq_false hp; omega)
      clear hp
      go_wp2_with fail
      go_ret
      exact ⟨ret_bool HR.out.symm, Ext.refl _⟩
    | true =>
      have HR : Hid (nameB (c :: r) = ((c :: r).takeWhile wordB == c :: r)) := Lib.hid (name_tw r HL.out).symm
      have hsp' : 0 < (c :: r).length := Nat.succ_pos _
      generalize Lib.bytesWorld w 5 (bstr (c :: r)) = w1 at *
      generalize grownCap w (c :: r).length 0 5 = cp at *
      obtain ⟨gs, hgs⟩ : ∃ gs, w.heap.size = gs := ⟨_, rfl⟩
      rw [hgs] at hcv hc1
      have hlt : gs < w1.heap.size := by
        obtain ⟨b, o, e, hb, _⟩ := hc1.at_ (by rw [bcells_len]; exact hsp')
        injection e with e
        injection e with e
        subst e
        exact hb
      have HX2 : Hid (Ext w (w1.alloc (.cells #[.slice (some ⟨gs, 0, none⟩) (c :: r).length cp, .int .i64 0] 66))) := Lib.hid (hx1.trans (Ext.alloc _ _))
      have HR0 : Hid (Rd (w1.alloc (.cells #[.slice (some ⟨gs, 0, none⟩) (c :: r).length cp, .int .i64 0] 66)) w1.heap.size (some ⟨gs, 0, none⟩) (c :: r) cp 0) := Lib.hid ⟨Blk.new _ _ _, hc1.ext (Ext.alloc _ _), fun h0 b off e => by
        injection e with e
        injection e with e
        omega, Nat.zero_le _, hcp, (fun h => by cases h), hbig⟩
      have HW1 := Lib.hid (hx1.size)
      have hz := bstr_toList ((c :: r).takeWhile wordB)
      have hz2 := bstr_toList (c :: r)
      clear hx1 hc1 hlt hgs hcp
      generalize c :: r = l at *
      have HZ := Lib.hid hz
      have HZ2 := Lib.hid hz2
      clear hz hz2
      go_enter Tryd.func23, Tryd.ntmps23
      go_wp2_with fail
      refine (sIndexByte_set letters_set2 c _).mono ?_
      rintro e w' ⟨rfl, rfl⟩
      have hp2 : decide (Lib.indexByte [97, 98, 99, 100, 101, 102, 103, 104, 105, 106, 107, 108, 109, 110, 111, 112, 113, 114, 115, 116, 117, 118, 119, 120, 121, 122] c < 0) = false := decide_eq_false (by have := of_decide_eq_true hp; omega)
      clear hp
      go_wp2_with fail
      refine (while_any w1.heap.size (some ⟨gs, 0, none⟩) l cp 0 _ wordB words_set _ HR0.out).mono ?_
      rintro e w2 ⟨rfl, hm, hr⟩
      rw [List.drop_zero]
      have HX3 := Lib.hid (hm.ext HX2.out HW1.out)
      clear hm hr
      have HE : Hid (((bstr (l.takeWhile wordB)).toList == (bstr l).toList) = nameB l) := Lib.hid (by rw [HZ.out, HZ2.out, HR.out])
      go_wp2_with fail
      go_ret
      exact ⟨ret_bool HE.out, HX3.out⟩
/-! ### The document's -/
def nameFrom (k : Nat) (l : Bs) : Bool := if k = 0 then nameB l else (l.drop k).all wordB
set_option maxHeartbeats 4000000 in
set_option maxRecDepth 10000 in
theorem risName_any (l : Bs) (hbig : l.length ≤ 140737488355328) (w : World) : Calls Tryd.prog 24 #[.string (bstr l)] w fun e w' => e = .returned (.bool (nameB l)) ∧ w = w' := by
  have hsz : (bstr l).size = l.length := by simp [bstr, ByteArray.size]
  have hat : ∀ k (h : k < l.length), (bstr l)[k]'(by rw [hsz]; exact h) = l[k] := fun k h => by
    show (l.toArray)[k] = l[k]
    simp
  have HAT := Lib.hid hat
  clear hat
  go_enter Tryd.func24, Tryd.ntmps24
  go_wp2_with fail
  go_loop [3] (fun i => ∃ k : Nat, k ≤ l.length ∧ i = .int .i64 k ∧ Hid (nameFrom k l = nameB l)) (fun i => l.length - (intOf i).toNat)
  case atStart => exact ⟨0, Nat.zero_le _, rfl, Lib.hid rfl⟩
  case round =>
    obtain ⟨k, hk, rfl, HN⟩ := hrel
    by_cases hlt : k < l.length
    · have e0 := HAT.out k hlt
      have q0 : (k : Int) < (l.length : Int) := by omega
      have hsucc : ∀ v, (letterB l[k] || (decide (0 < k) && wordB l[k])) = v → Hid (v = true → nameFrom (k + 1) l = nameB l) ∧ Hid (v = false → nameB l = false) := by
        intro v hv
        refine ⟨Lib.hid fun e => ?_, Lib.hid fun e => ?_⟩
        · subst hv
          rw [← HN.out]
          unfold nameFrom
          rw [if_neg (by omega)]
          by_cases h0 : k = 0
          · subst h0
            rw [if_pos rfl]
            cases l with
            | nil => simp at hlt
            | cons c r =>
              have hc : letterB c = true := by simpa using e
              simp [nameB, hc]
          · rw [if_neg h0, List.drop_eq_getElem_cons hlt, List.all_cons]
            have hw : wordB l[k] = true := by
              rcases Bool.or_eq_true_iff.1 e with h | h
              · exact letter_word h
              · exact (Bool.and_eq_true_iff.1 h).2
            rw [hw, Bool.true_and]
        · subst hv
          rw [← HN.out]
          unfold nameFrom
          by_cases h0 : k = 0
          · subst h0
            rw [if_pos rfl]
            cases l with
            | nil => rfl
            | cons c r =>
              have hc : letterB c = false := by simpa using e
              simp [nameB, hc]
          · rw [if_neg h0, List.drop_eq_getElem_cons hlt, List.all_cons]
            have hw : wordB l[k] = false := by
              have : decide (0 < k) = true := decide_eq_true (by omega)
              rw [this] at e
              simp only [Bool.true_and, Bool.or_eq_false_iff] at e
              exact e.2
            rw [hw, Bool.false_and]
      have HS := Lib.hid hsucc
      clear hsucc
      generalize l[k] = c at *
      obtain ⟨lv, HLV⟩ : ∃ lv, Hid (letterB c = lv) := ⟨_, Lib.hid rfl⟩
      obtain ⟨dv, HDV⟩ : ∃ dv, Hid (digitB c = dv) := ⟨_, Lib.hid rfl⟩
      have HWV : Hid (wordB c = (lv || dv || c == 95)) := Lib.hid (by unfold wordB; rw [HLV.out, HDV.out])
      cases lv with
      | true =>
        obtain ⟨s1, s2⟩ := HS.out true (by rw [HLV.out]; rfl)
        have HR := Lib.hid (s1.out rfl)
        clear s1 s2 HS
        go_wp2_with fail
        refine (letter_v c true HLV w).mono ?_
        rintro e w' ⟨rfl, rfl⟩
        go_wp2_with fail
        go_round
        case rel => exact ⟨k + 1, by omega, by go_num, HR⟩
        case measure => simp [intOf]; omega
      | false =>
        by_cases h0 : k = 0
        · subst h0
          obtain ⟨s1, s2⟩ := HS.out false (by rw [HLV.out]; rfl)
          have HR := Lib.hid (s2.out rfl)
          clear s1 s2 HS
          go_wp2_with fail
          refine (letter_v c false HLV w).mono ?_
          rintro e w' ⟨rfl, rfl⟩
          go_wp2_with fail
          go_ret
          exact ⟨ret_bool HR.out.symm, rfl⟩
        · have d1 : ((k : Int) == 0) = false := by rw [beq_eq_false_iff_ne]; omega
          have hkk : decide (0 < k) = true := decide_eq_true (by omega)
          cases dv with
          | true =>
            obtain ⟨s1, s2⟩ := HS.out true (by rw [HLV.out, HWV.out, hkk]; rfl)
            have HR := Lib.hid (s1.out rfl)
            clear s1 s2 HS hkk
            go_wp2_with fail
            refine (letter_v c false HLV w).mono ?_
            rintro e w' ⟨rfl, rfl⟩
            go_wp2_with fail
            refine (digit_v c true HDV w).mono ?_
            rintro e w' ⟨rfl, rfl⟩
            go_wp2_with fail
            go_round
            case rel => exact ⟨k + 1, by omega, by go_num, HR⟩
            case measure => simp [intOf]; omega
          | false =>
            by_cases h95 : c = 95
            · subst h95
              obtain ⟨s1, s2⟩ := HS.out true (by rw [HLV.out, HWV.out, hkk]; rfl)
              have HR := Lib.hid (s1.out rfl)
              clear s1 s2 HS hkk
              go_wp2_with fail
              refine (letter_v 95 false HLV w).mono ?_
              rintro e w' ⟨rfl, rfl⟩
              go_wp2_with fail
              refine (digit_v 95 false HDV w).mono ?_
              rintro e w' ⟨rfl, rfl⟩
              go_wp2_with fail
              go_round
              case rel => exact ⟨k + 1, by omega, by go_num, HR⟩
              case measure => simp [intOf]; omega
            · obtain ⟨s1, s2⟩ := HS.out false (by rw [HLV.out, HWV.out, hkk, show (c == 95) = false from by simp [h95]]; rfl)
              have HR := Lib.hid (s2.out rfl)
              have d2 : ((c.toNat : Int) != 95) = true := by
                have := toNat_ne h95
                rw [show (((95 : UInt8).toNat : Nat) : Int) = 95 from rfl] at this
                simp only [bne, this, Bool.not_false]
              clear s1 s2 HS hkk
              go_wp2_with fail
              refine (letter_v c false HLV w).mono ?_
              rintro e w' ⟨rfl, rfl⟩
              go_wp2_with fail
              refine (digit_v c false HDV w).mono ?_
              rintro e w' ⟨rfl, rfl⟩
              go_wp2_with fail
              go_ret
              exact ⟨ret_bool HR.out.symm, rfl⟩
    · obtain rfl : k = l.length := by omega
      have HR : Hid (nameB l = decide (0 < l.length)) := Lib.hid (by
        rw [← HN.out]
        unfold nameFrom
        by_cases h0 : l.length = 0
        · have : l = [] := List.eq_nil_of_length_eq_zero h0
          subst this
          rfl
        · rw [if_neg h0, List.drop_eq_nil_of_le (Nat.le_refl _), decide_eq_true (show 0 < l.length by omega)]
          rfl)
      have d0 : decide ((l.length : Int) < (l.length : Int)) = false := by simp
      go_wp2_with fail
      go_ret
      exact ⟨ret_bool HR.out.symm, rfl⟩
end Go.Proofs.YtjjeebocebhhaaaDoor
