/- lex.IsName and the document's, walked. -/
import Derived.Test.YthofccoefiogiaaTName
namespace Go.Proofs.Ythofccoefiogiaa
open Go Go.RowKit
set_option linter.unusedVariables false
set_option linter.unusedSimpArgs false
def letS : ByteArray := ⟨#[97, 98, 99, 100, 101, 102, 103, 104, 105, 106, 107, 108, 109, 110, 111, 112, 113, 114, 115, 116, 117, 118, 119, 120, 121, 122]⟩
def wordS : ByteArray := ⟨#[97, 98, 99, 100, 101, 102, 103, 104, 105, 106, 107, 108, 109, 110, 111, 112, 113, 114, 115, 116, 117, 118, 119, 120, 121, 122, 48, 49, 50, 51, 52, 53, 54, 55, 56, 57, 95]⟩
theorem isSet_of (set : ByteArray) (p : UInt8 → Bool) (h : ((List.range 256).all fun n => decide (0 ≤ idxB set (n : Int)) == p (UInt8.ofNat n)) = true) : IsSet set p := by
  intro c
  have h1 := List.all_eq_true.1 h c.toNat (List.mem_range.2 c.toNat_lt)
  rw [UInt8.ofNat_toNat] at h1
  rw [beq_iff_eq] at h1
  rw [← h1]
  simp
def letU (c : UInt8) : Bool := letterB (c.toNat : Int)
def wordU (c : UInt8) : Bool := wordB (c.toNat : Int)
theorem isSet_let : IsSet letS letU := isSet_of _ _ (by decide +kernel)
theorem isSet_word : IsSet wordS wordU := isSet_of _ _ (by decide +kernel)
theorem to_bytes (s : ByteArray) (w : World) : ∃ c w', (convert 9 80 (.string s)).run Try.prog w = .ok (.slice (some ⟨w.heap.size, 0, none⟩) s.size c) w' ∧ Ext w w' ∧ Cells w' (some ⟨w.heap.size, 0, none⟩) (scells s.data.toList) ∧ s.size ≤ c ∧ w'.heap.size = w.heap.size + 1 := by
  refine ⟨_, _, run_bytes_of_string w 9 80 5 s Try.underlying9 Try.underlying80 Try.underlying5, Ext.trans (Below.drew (Below.refl _ _)) (Ext.alloc _ _), ?_, grownCap_ge w s.size 0 5, by simp⟩
  by_cases h0 : s.data.toList = []
  · left; rw [h0]; rfl
  · right
    refine ⟨_, 0, rfl, by simp, fun k hk => ?_⟩
    rw [scells_len] at hk
    have hk' : k < s.data.size := by simpa using hk
    rw [Nat.zero_add]
    refine (cell_of_row (w.drew.alloc (.cells (bytesRow s (grownCap w s.size 0 5)) 5 ((bytesRow s (grownCap w s.size 0 5)).size, (bytesRow s (grownCap w s.size 0 5)).size + 1))) w.drew.heap.size k _ _ _ (heap_alloc_new w.drew _)).trans ?_
    rw [bytesRow_at s _ k hk', scells_at _ k hk]
    simp
theorem IndexByte_w (s : ByteArray) (c v : Int) (h : Hid (idxB s c = v)) (w : World) : Calls Try.prog 121 #[.string s, .int .u8 c] w fun e w' => e = .returned (.int .i64 v) ∧ w = w' :=
  (IndexByte_v s c v h w).mono fun e w' h => ⟨h.1, h.2.symm⟩
theorem scan_all (p : UInt8 → Bool) (l : List UInt8) (h : l.all p = true) : scan p l = l.length := by
  induction l with
  | nil => rfl
  | cons a l ih =>
    unfold scan at *
    rw [List.all_cons, Bool.and_eq_true] at h
    rw [List.takeWhile_cons, if_pos h.1, List.length_cons, List.length_cons, ih h.2]
theorem scan_not (p : UInt8 → Bool) (l : List UInt8) (h : l.all p = false) : scan p l < l.length := by
  induction l with
  | nil => cases h
  | cons a l ih =>
    unfold scan at *
    rw [List.takeWhile_cons]
    rw [List.all_cons] at h
    cases hp : p a with
    | true => rw [hp, Bool.true_and] at h; rw [if_pos rfl, List.length_cons, List.length_cons]; have := ih h; omega
    | false => rw [if_neg (by decide)]; simp
set_option maxRecDepth 100000 in
set_option maxHeartbeats 4000000 in
theorem isName_any (s : ByteArray) (w : World) (hs : s.size ≤ 1000) : Calls Try.prog 102 #[.string s] w fun e w' => e = .returned (.bool (isNameN s.data.toList)) ∧ Ext w w' := by
  have hlit : letS = ⟨#[97, 98, 99, 100, 101, 102, 103, 104, 105, 106, 107, 108, 109, 110, 111, 112, 113, 114, 115, 116, 117, 118, 119, 120, 121, 122]⟩ := rfl
  by_cases h0 : s.data.toList = []
  · have HR : Hid (isNameN s.data.toList = false) := Lib.hid (by rw [h0]; rfl)
    have e1 : s.toList = [] := by rw [ByteArray.toList_eq]; exact h0
    go_enter Try.func102, Try.ntmps102
    go_wp2_with fail
    go_ret
    exact ⟨ret_b HR.out.symm, Ext.refl _⟩
  · have hp : 0 < s.size := by
      rw [Lib.size_eq]
      exact List.length_pos_iff.2 h0
    have e1 : ¬ s.toList = [] := by rw [ByteArray.toList_eq]; exact h0
    have e2 : s.toList.isEmpty = false := by simpa using e1
    have H0 := Lib.hid h0
    clear h0
    clear hlit
    have hz : s.data.toList = s[0] :: s.data.toList.tail := by
      have h1 : s.data.toList.head? = some s[0] := by
        rw [List.head?_eq_getElem?]
        simp [ByteArray.getElem_eq_getElem_data]
      cases hl : s.data.toList with
      | nil => exact absurd hl H0.out
      | cons a r => rw [hl] at h1; simp at h1; rw [h1]; rfl
    have HIS : Hid (isNameN s.data.toList = (letterB (s[0].toNat : Int) && s.data.toList.tail.all wordU)) := Lib.hid (by rw [hz]; rfl)
    obtain ⟨v, HV⟩ : ∃ v, Hid (idxB letS (s[0].toNat : Int) = v) := ⟨_, Lib.hid rfl⟩
    cases hl : letterB (s[0].toNat : Int) with
    | false =>
      have hv0 : v < 0 := by
        have := isSet_let s[0]
        rw [HV.out] at this
        unfold letU at this
        rw [hl] at this
        by_cases h : 0 ≤ v
        · exact absurd (this.1 h) (by decide)
        · omega
      have d1 : decide (v < 0) = true := decide_eq_true hv0
      have HR : Hid (isNameN s.data.toList = false) := Lib.hid (by rw [HIS.out, hl]; rfl)
      clear hl hz
      go_enter Try.func102, Try.ntmps102
      go_wp2_with (refine (IndexByte_w letS _ v HV w).mono ?_; rintro e w' ⟨rfl, rfl⟩)
      go_ret
      exact ⟨ret_b HR.out.symm, Ext.refl _⟩
    | true =>
      have hv0 : 0 ≤ v := by rw [← HV.out]; exact (isSet_let s[0]).2 hl
      have d1 : decide (v < 0) = false := decide_eq_false (by omega)
      obtain ⟨c, w1, hconv, hx1, hcs, hcc, hsz⟩ := to_bytes s w
      have HX1 := Lib.hid hx1
      have HCS := Lib.hid hcs
      have HSZ := Lib.hid hsz
      have HL := Lib.hid hl
      have HZ := Lib.hid hz
      have hbx := Blk.new w1 169 #[.slice (some ⟨w.heap.size, 0, none⟩) s.size c, .int .i64 0]
      have hxb := Ext.alloc w1 (.cells #[.slice (some ⟨w.heap.size, 0, none⟩) s.size c, .int .i64 0] 169)
      have HBX := Lib.hid hbx
      have HXB := Lib.hid hxb
      clear hx1 hcs hsz hl hbx hxb hz
      go_enter Try.func102, Try.ntmps102
      go_wp2_with (refine (IndexByte_w letS _ v HV w).mono ?_; rintro e w' ⟨rfl, rfl⟩)
      refine (while_any wordS wordU isSet_word w1.heap.size w.heap.size 0 s.size c 0 s.data.toList _ (by rw [Lib.size_eq]) hcc (by rw [← Lib.size_eq]; omega) (Nat.zero_le _) HBX.out (HCS.out.ext HXB.out)).mono ?_
      rintro e w2 ⟨rfl, ht, -⟩
      have HX2 : Hid (Ext w w2) := Lib.hid (ht.ext (HX1.out.trans HXB.out) (by have := HSZ.out; omega))
      clear ht
      obtain ⟨xs, HXS⟩ : ∃ xs : ByteArray, Hid ((⟨((s.data.toList.drop 0).take (scan wordU (s.data.toList.drop 0))).toArray⟩ : ByteArray) = xs) := ⟨_, Lib.hid rfl⟩
      rw [HXS.out]
      cases hal : s.data.toList.tail.all wordU with
      | true =>
        have HR : Hid (isNameN s.data.toList = true) := Lib.hid (by rw [HIS.out, HL.out, hal]; rfl)
        have hxs : xs = s := by
          rw [← HXS.out, List.drop_zero, scan_all wordU _ (by rw [HZ.out, List.all_cons, hal, Bool.and_true]; unfold wordU wordB; rw [HL.out]; rfl), List.take_length]
        subst hxs
        go_wp2_with fail
        go_ret
        exact ⟨ret_b HR.out.symm, HX2.out⟩
      | false =>
        have HR : Hid (isNameN s.data.toList = false) := Lib.hid (by rw [HIS.out, HL.out, hal]; rfl)
        have hne : (xs.toList == s.toList) = false := by
          rw [beq_eq_false_iff_ne]
          intro h
          have h2 := congrArg List.length h
          rw [← HXS.out, ByteArray.toList_eq, ByteArray.toList_eq] at h2
          have h3 := scan_not wordU s.data.toList (by rw [HZ.out, List.all_cons, hal, Bool.and_false])
          simp at h2 h3
          omega
        go_wp2_with fail
        go_ret
        exact ⟨ret_b HR.out.symm, HX2.out⟩
def okAt (j : Nat) (c : UInt8) : Bool := if j = 0 then letterB (c.toNat : Int) else wordU c
theorem isName_ok (l : List UInt8) (h0 : l ≠ []) (h : ∀ j (hj : j < l.length), okAt j l[j] = true) : isNameN l = true := by
  cases l with
  | nil => exact absurd rfl h0
  | cons c r =>
    have h1 := h 0 (by simp)
    unfold okAt at h1
    rw [if_pos rfl] at h1
    show (letterB (c.toNat : Int) && r.all fun c => wordB (c.toNat : Int)) = true
    have h1' : letterB (c.toNat : Int) = true := h1
    rw [h1', Bool.true_and, List.all_eq_true]
    intro x hx
    obtain ⟨i, hi, rfl⟩ := List.getElem_of_mem hx
    have := h (i + 1) (by simpa using hi)
    unfold okAt at this
    rw [if_neg (by omega)] at this
    exact this
theorem isName_bad (l : List UInt8) (j : Nat) (hj : j < l.length) (h : okAt j l[j] = false) : isNameN l = false := by
  cases l with
  | nil => simp at hj
  | cons c r =>
    show (letterB (c.toNat : Int) && r.all fun c => wordB (c.toNat : Int)) = false
    unfold okAt at h
    match j with
    | 0 =>
      rw [if_pos rfl] at h
      have h' : letterB (c.toNat : Int) = false := h
      rw [h', Bool.false_and]
    | j + 1 =>
      rw [if_neg (by omega)] at h
      rw [Bool.and_eq_false_iff]
      right
      rw [List.all_eq_false]
      have hj' : j < r.length := by simpa using hj
      have h' : wordB ((r[j]'hj').toNat : Int) = false := h
      exact ⟨r[j]'hj', List.getElem_mem hj', by rw [h']; exact Bool.false_ne_true⟩
set_option maxRecDepth 100000 in
set_option maxHeartbeats 8000000 in
theorem rIsName_any (s : ByteArray) (w : World) (hs : s.size ≤ 1000) : Calls Try.prog 103 #[.string s] w fun e w' => e = .returned (.bool (isNameN s.data.toList)) ∧ w = w' := by
  go_enter Try.func103, Try.ntmps103
  go_wp2_with fail
  go_loop [3] (fun i => ∃ k : Nat, k ≤ s.size ∧ i = .int .i64 k ∧ Hid (∀ j (hj : j < s.data.toList.length), j < k → okAt j s.data.toList[j] = true)) (fun i => s.size - (intOf i).toNat)
  case atStart => exact ⟨0, Nat.zero_le _, rfl, Lib.hid fun j hj hk => by omega⟩
  case round =>
    obtain ⟨k, hk, rfl, HR⟩ := hrel
    have HSZ := Lib.hid (Lib.size_eq s)
    by_cases hlt : k < s.size
    · have hlt' : k < s.data.toList.length := by rw [← HSZ.out]; exact hlt
      have hce : s.data.toList[k] = s[k]'hlt := by simp [ByteArray.getElem_eq_getElem_data]
      obtain ⟨b, hb⟩ : ∃ b, okAt k s.data.toList[k] = b := ⟨_, rfl⟩
      have HC : Hid (b = if k = 0 then letterB ((s[k]'hlt).toNat : Int) else wordU (s[k]'hlt)) := Lib.hid (by rw [← hb, hce]; rfl)
      have HOK : Hid (b = true → ∀ j (hj : j < s.data.toList.length), j < k + 1 → okAt j s.data.toList[j] = true) := Lib.hid (by
        intro h j hj hjk
        by_cases hje : j = k
        · subst hje; rw [hb]; exact h
        · exact HR.out j hj (by omega))
      have HBAD : Hid (b = false → isNameN s.data.toList = false) := Lib.hid (fun h => isName_bad _ k hlt' (hb.trans h))
      clear hce hb hlt'
      have d0 : decide ((k : Int) < (s.size : Int)) = true := decide_eq_true (by omega)
      cases hl : letterB (s[k].toNat : Int) with
      | true =>
        have HT : Hid (b = true) := Lib.hid (by rw [HC.out]; unfold wordU wordB; rw [hl]; simp)
        have HL := Lib.hid hl
        clear hl
        go_wp2_with (refine (letter_any _ _).mono ?_; rintro e w' ⟨rfl, rfl⟩; rw [HL.out])
        go_round
        case rel => exact ⟨k + 1, by omega, by go_num, Lib.hid (HOK.out HT.out)⟩
        case measure => simp [intOf]; omega
      | false =>
        have HL := Lib.hid hl
        by_cases hk0 : k = 0
        · subst hk0
          have HT : Hid (isNameN s.data.toList = false) := Lib.hid (HBAD.out (by rw [HC.out]; simp [hl]))
          clear hl
          go_wp2_with (refine (letter_any _ _).mono ?_; rintro e w' ⟨rfl, rfl⟩; rw [HL.out])
          go_ret
          exact ⟨ret_b HT.out.symm, rfl⟩
        · have hkb : ((k : Int) == 0) = false := beq_eq_false_iff_ne.2 (by omega)
          cases hd : digitB (s[k].toNat : Int) with
          | true =>
            have HT : Hid (b = true) := Lib.hid (by rw [HC.out, if_neg hk0]; unfold wordU wordB; rw [hl, hd]; rfl)
            have HD := Lib.hid hd
            clear hl hd
            go_wp2_with (first | (go_at_call 123; refine (letter_any _ _).mono ?_; rintro e w' ⟨rfl, rfl⟩; rw [HL.out]) | (go_at_call 124; refine (digit_any _ _).mono ?_; rintro e w' ⟨rfl, rfl⟩; rw [HD.out]))
            go_round
            case rel => exact ⟨k + 1, by omega, by go_num, Lib.hid (HOK.out HT.out)⟩
            case measure => simp [intOf]; omega
          | false =>
            have HD := Lib.hid hd
            cases hu : ((s[k].toNat : Int) == 95) with
            | true =>
              have HT : Hid (b = true) := Lib.hid (by rw [HC.out, if_neg hk0]; unfold wordU wordB; rw [hl, hd, hu]; rfl)
              have hu2 : ((s[k].toNat : Int) != 95) = false := by rw [bne, hu]; rfl
              clear hl hd hu
              go_wp2_with (first | (go_at_call 123; refine (letter_any _ _).mono ?_; rintro e w' ⟨rfl, rfl⟩; rw [HL.out]) | (go_at_call 124; refine (digit_any _ _).mono ?_; rintro e w' ⟨rfl, rfl⟩; rw [HD.out]))
              go_round
              case rel => exact ⟨k + 1, by omega, by go_num, Lib.hid (HOK.out HT.out)⟩
              case measure => simp [intOf]; omega
            | false =>
              have HT : Hid (isNameN s.data.toList = false) := Lib.hid (HBAD.out (by rw [HC.out, if_neg hk0]; unfold wordU wordB; rw [hl, hd, hu]; rfl))
              have hu2 : ((s[k].toNat : Int) != 95) = true := by rw [bne, hu]; rfl
              clear hl hd hu
              go_wp2_with (first | (go_at_call 123; refine (letter_any _ _).mono ?_; rintro e w' ⟨rfl, rfl⟩; rw [HL.out]) | (go_at_call 124; refine (digit_any _ _).mono ?_; rintro e w' ⟨rfl, rfl⟩; rw [HD.out]))
              go_ret
              exact ⟨ret_b HT.out.symm, rfl⟩
    · obtain rfl : k = s.size := by omega
      have d0 : decide ((s.size : Int) < (s.size : Int)) = false := by simp
      by_cases h0 : s.size = 0
      · have HT : Hid (isNameN s.data.toList = decide (0 < s.size)) := Lib.hid (by
          have : s.data.toList = [] := List.eq_nil_of_length_eq_zero (by rw [← HSZ.out]; exact h0)
          rw [this, h0]; rfl)
        have d1 : decide (0 < s.size) = false := by simp [h0]
        clear h0
        go_wp2_with fail
        go_ret
        exact ⟨ret_b (by rw [HT.out, d1]), rfl⟩
      · have HT : Hid (isNameN s.data.toList = true) := Lib.hid (isName_ok _ (fun h => h0 (by rw [HSZ.out, h]; rfl)) (fun j hj => HR.out j hj (by rw [HSZ.out]; exact hj)))
        have d1 : decide (0 < s.size) = true := by simp; omega
        clear h0
        go_wp2_with fail
        go_ret
        exact ⟨ret_b HT.out.symm, rfl⟩
end Go.Proofs.Ythofccoefiogiaa
