/- The document's words and kinds, walked. -/
import Derived.Test.YthofccoefiogiaaTRefA
import Derived.Test.YthofccoefiogiaaTFits4
namespace Go.Proofs.Ythofccoefiogiaa
open Go Go.RowKit
set_option linter.unusedVariables false
set_option linter.unusedSimpArgs false
theorem wordsN_of {kind num : Int} {text : List UInt8} {named : Bool} {most : Int} (hn : namedB kind = named) (hm : mostN kind = most) : wordsN kind num text = ((named == isNameN text) && ((named || text.isEmpty) && (decide (0 ≤ num) && decide (num ≤ most)))) := by
  subst hn hm; rfl
theorem rIsName_v (s : ByteArray) (w : World) (hs : s.size ≤ 1000) (b : Bool) (hb : isNameN s.data.toList = b) : Calls Try.prog 103 #[.string s] w fun e w' => e = .returned (.bool b) ∧ w = w' := by
  subst hb
  exact rIsName_any s w hs
set_option maxRecDepth 100000 in
set_option maxHeartbeats 8000000 in
theorem words1_any (pos num : Int) (text : ByteArray) (kA : Option Addr) (kl kc : Nat) (w : World) (hx : text.size ≤ 1000) (b : Bool) (hb : Hid (wordsN 1 num text.data.toList = b)) :
    Calls Try.prog 69 #[.agg #[.int .u8 1, .int .i64 pos, .string text, .int .i64 num, .slice kA kl kc]] w fun e w' => e = .returned (.bool b) ∧ Ext w w' := by
  have HW := Lib.hid (wordsN_of (kind := 1) (num := num) (text := text.data.toList) (named := false) (most := 0) rfl rfl)
  have HX : Hid (Ext w (w.alloc (.cells #[.int .u8 1, .int .i64 pos, .string text, .int .i64 num, .slice kA kl kc] 76))) := Lib.hid (Ext.alloc _ _)
  have HT : Hid (text.toList = text.data.toList) := Lib.hid (ByteArray.toList_eq _)
  obtain ⟨t1, HN⟩ : ∃ t, Hid (isNameN text.data.toList = t) := ⟨_, Lib.hid rfl⟩
  rw [HN.out] at HW
  go_enter Try.func69, Try.ntmps69
  go_upto_region 11 with fail
  cases t1 with
  | true =>
    have HB : Hid (b = false) := Lib.hid (by rw [← hb.out, HW.out]; rfl)
    go_wp2_with (go_at_call 103; refine (rIsName_v text _ hx _ HN.out).mono ?_; rintro e w2 ⟨rfl, rfl⟩)
    go_ret
    exact ⟨ret_b HB.out.symm, HX.out⟩
  | false =>
    by_cases he : text.data.toList = []
    · have e1 : text.toList = [] := by rw [HT.out]; exact he
      have e2 : text.toList.isEmpty = true := by rw [e1]; rfl
      have HE : Hid (text.data.toList.isEmpty = true) := Lib.hid (by rw [he]; rfl)
      have e3 : (text.toList == []) = true := by rw [e1]; rfl
      clear he
      by_cases h0 : 0 ≤ num
      · have d0 : decide (num ≥ 0) = true := decide_eq_true h0
        have d1 : decide (0 ≤ num) = true := decide_eq_true h0
        have HB : Hid (b = decide (num ≤ 0)) := Lib.hid (by rw [← hb.out, HW.out]; rw [d1]; simp [HE.out])
        go_wp2_with (go_at_call 103; refine (rIsName_v text _ hx _ HN.out).mono ?_; rintro e w2 ⟨rfl, rfl⟩)
        go_ret
        exact ⟨ret_b HB.out.symm, HX.out⟩
      · have d0 : decide (num ≥ 0) = false := decide_eq_false h0
        have d1 : decide (0 ≤ num) = false := decide_eq_false h0
        have HB : Hid (b = false) := Lib.hid (by rw [← hb.out, HW.out]; rw [d1]; simp [HE.out])
        go_wp2_with (go_at_call 103; refine (rIsName_v text _ hx _ HN.out).mono ?_; rintro e w2 ⟨rfl, rfl⟩)
        go_ret
        exact ⟨ret_b HB.out.symm, HX.out⟩
    · have e1 : ¬ text.toList = [] := by rw [HT.out]; exact he
      have e2 : text.toList.isEmpty = false := by simpa using e1
      have HE : Hid (text.data.toList.isEmpty = false) := Lib.hid (by simpa using he)
      have e3 : (text.toList == []) = false := by simpa using e1
      clear he
      have HB : Hid (b = false) := Lib.hid (by rw [← hb.out, HW.out]; simp [HE.out])
      go_wp2_with (go_at_call 103; refine (rIsName_v text _ hx _ HN.out).mono ?_; rintro e w2 ⟨rfl, rfl⟩)
      go_ret
      exact ⟨ret_b HB.out.symm, HX.out⟩
set_option maxRecDepth 100000 in
set_option maxHeartbeats 8000000 in
theorem words2_any (pos num : Int) (text : ByteArray) (kA : Option Addr) (kl kc : Nat) (w : World) (hx : text.size ≤ 1000) (b : Bool) (hb : Hid (wordsN 2 num text.data.toList = b)) :
    Calls Try.prog 69 #[.agg #[.int .u8 2, .int .i64 pos, .string text, .int .i64 num, .slice kA kl kc]] w fun e w' => e = .returned (.bool b) ∧ Ext w w' := by
  have HW := Lib.hid (wordsN_of (kind := 2) (num := num) (text := text.data.toList) (named := true) (most := 0) rfl rfl)
  have HX : Hid (Ext w (w.alloc (.cells #[.int .u8 2, .int .i64 pos, .string text, .int .i64 num, .slice kA kl kc] 76))) := Lib.hid (Ext.alloc _ _)
  have HT : Hid (text.toList = text.data.toList) := Lib.hid (ByteArray.toList_eq _)
  obtain ⟨t1, HN⟩ : ∃ t, Hid (isNameN text.data.toList = t) := ⟨_, Lib.hid rfl⟩
  rw [HN.out] at HW
  go_enter Try.func69, Try.ntmps69
  go_upto_region 11 with fail
  cases t1 with
  | false =>
    have HB : Hid (b = false) := Lib.hid (by rw [← hb.out, HW.out]; rfl)
    go_wp2_with (go_at_call 103; refine (rIsName_v text _ hx _ HN.out).mono ?_; rintro e w2 ⟨rfl, rfl⟩)
    go_ret
    exact ⟨ret_b HB.out.symm, HX.out⟩
  | true =>
    by_cases h0 : 0 ≤ num
    · have d0 : decide (num ≥ 0) = true := decide_eq_true h0
      have d1 : decide (0 ≤ num) = true := decide_eq_true h0
      have HB : Hid (b = decide (num ≤ 0)) := Lib.hid (by rw [← hb.out, HW.out]; rw [d1]; simp)
      go_wp2_with (go_at_call 103; refine (rIsName_v text _ hx _ HN.out).mono ?_; rintro e w2 ⟨rfl, rfl⟩)
      go_ret
      exact ⟨ret_b HB.out.symm, HX.out⟩
    · have d0 : decide (num ≥ 0) = false := decide_eq_false h0
      have d1 : decide (0 ≤ num) = false := decide_eq_false h0
      have HB : Hid (b = false) := Lib.hid (by rw [← hb.out, HW.out]; rw [d1]; simp)
      go_wp2_with (go_at_call 103; refine (rIsName_v text _ hx _ HN.out).mono ?_; rintro e w2 ⟨rfl, rfl⟩)
      go_ret
      exact ⟨ret_b HB.out.symm, HX.out⟩
set_option maxRecDepth 100000 in
set_option maxHeartbeats 8000000 in
theorem words3_any (pos num : Int) (text : ByteArray) (kA : Option Addr) (kl kc : Nat) (w : World) (hx : text.size ≤ 1000) (b : Bool) (hb : Hid (wordsN 3 num text.data.toList = b)) :
    Calls Try.prog 69 #[.agg #[.int .u8 3, .int .i64 pos, .string text, .int .i64 num, .slice kA kl kc]] w fun e w' => e = .returned (.bool b) ∧ Ext w w' := by
  have HW := Lib.hid (wordsN_of (kind := 3) (num := num) (text := text.data.toList) (named := true) (most := 1) rfl rfl)
  have HX : Hid (Ext w (w.alloc (.cells #[.int .u8 3, .int .i64 pos, .string text, .int .i64 num, .slice kA kl kc] 76))) := Lib.hid (Ext.alloc _ _)
  have HT : Hid (text.toList = text.data.toList) := Lib.hid (ByteArray.toList_eq _)
  obtain ⟨t1, HN⟩ : ∃ t, Hid (isNameN text.data.toList = t) := ⟨_, Lib.hid rfl⟩
  rw [HN.out] at HW
  go_enter Try.func69, Try.ntmps69
  go_upto_region 11 with fail
  cases t1 with
  | false =>
    have HB : Hid (b = false) := Lib.hid (by rw [← hb.out, HW.out]; rfl)
    go_wp2_with (go_at_call 103; refine (rIsName_v text _ hx _ HN.out).mono ?_; rintro e w2 ⟨rfl, rfl⟩)
    go_ret
    exact ⟨ret_b HB.out.symm, HX.out⟩
  | true =>
    by_cases h0 : 0 ≤ num
    · have d0 : decide (num ≥ 0) = true := decide_eq_true h0
      have d1 : decide (0 ≤ num) = true := decide_eq_true h0
      have HB : Hid (b = decide (num ≤ 1)) := Lib.hid (by rw [← hb.out, HW.out]; rw [d1]; simp)
      go_wp2_with (go_at_call 103; refine (rIsName_v text _ hx _ HN.out).mono ?_; rintro e w2 ⟨rfl, rfl⟩)
      go_ret
      exact ⟨ret_b HB.out.symm, HX.out⟩
    · have d0 : decide (num ≥ 0) = false := decide_eq_false h0
      have d1 : decide (0 ≤ num) = false := decide_eq_false h0
      have HB : Hid (b = false) := Lib.hid (by rw [← hb.out, HW.out]; rw [d1]; simp)
      go_wp2_with (go_at_call 103; refine (rIsName_v text _ hx _ HN.out).mono ?_; rintro e w2 ⟨rfl, rfl⟩)
      go_ret
      exact ⟨ret_b HB.out.symm, HX.out⟩
set_option maxRecDepth 100000 in
set_option maxHeartbeats 8000000 in
theorem words4_any (pos num : Int) (text : ByteArray) (kA : Option Addr) (kl kc : Nat) (w : World) (hx : text.size ≤ 1000) (b : Bool) (hb : Hid (wordsN 4 num text.data.toList = b)) :
    Calls Try.prog 69 #[.agg #[.int .u8 4, .int .i64 pos, .string text, .int .i64 num, .slice kA kl kc]] w fun e w' => e = .returned (.bool b) ∧ Ext w w' := by
  have HW := Lib.hid (wordsN_of (kind := 4) (num := num) (text := text.data.toList) (named := false) (most := 0) rfl rfl)
  have HX : Hid (Ext w (w.alloc (.cells #[.int .u8 4, .int .i64 pos, .string text, .int .i64 num, .slice kA kl kc] 76))) := Lib.hid (Ext.alloc _ _)
  have HT : Hid (text.toList = text.data.toList) := Lib.hid (ByteArray.toList_eq _)
  obtain ⟨t1, HN⟩ : ∃ t, Hid (isNameN text.data.toList = t) := ⟨_, Lib.hid rfl⟩
  rw [HN.out] at HW
  go_enter Try.func69, Try.ntmps69
  go_upto_region 11 with fail
  cases t1 with
  | true =>
    have HB : Hid (b = false) := Lib.hid (by rw [← hb.out, HW.out]; rfl)
    go_wp2_with (go_at_call 103; refine (rIsName_v text _ hx _ HN.out).mono ?_; rintro e w2 ⟨rfl, rfl⟩)
    go_ret
    exact ⟨ret_b HB.out.symm, HX.out⟩
  | false =>
    by_cases he : text.data.toList = []
    · have e1 : text.toList = [] := by rw [HT.out]; exact he
      have e2 : text.toList.isEmpty = true := by rw [e1]; rfl
      have HE : Hid (text.data.toList.isEmpty = true) := Lib.hid (by rw [he]; rfl)
      have e3 : (text.toList == []) = true := by rw [e1]; rfl
      clear he
      by_cases h0 : 0 ≤ num
      · have d0 : decide (num ≥ 0) = true := decide_eq_true h0
        have d1 : decide (0 ≤ num) = true := decide_eq_true h0
        have HB : Hid (b = decide (num ≤ 0)) := Lib.hid (by rw [← hb.out, HW.out]; rw [d1]; simp [HE.out])
        go_wp2_with (go_at_call 103; refine (rIsName_v text _ hx _ HN.out).mono ?_; rintro e w2 ⟨rfl, rfl⟩)
        go_ret
        exact ⟨ret_b HB.out.symm, HX.out⟩
      · have d0 : decide (num ≥ 0) = false := decide_eq_false h0
        have d1 : decide (0 ≤ num) = false := decide_eq_false h0
        have HB : Hid (b = false) := Lib.hid (by rw [← hb.out, HW.out]; rw [d1]; simp [HE.out])
        go_wp2_with (go_at_call 103; refine (rIsName_v text _ hx _ HN.out).mono ?_; rintro e w2 ⟨rfl, rfl⟩)
        go_ret
        exact ⟨ret_b HB.out.symm, HX.out⟩
    · have e1 : ¬ text.toList = [] := by rw [HT.out]; exact he
      have e2 : text.toList.isEmpty = false := by simpa using e1
      have HE : Hid (text.data.toList.isEmpty = false) := Lib.hid (by simpa using he)
      have e3 : (text.toList == []) = false := by simpa using e1
      clear he
      have HB : Hid (b = false) := Lib.hid (by rw [← hb.out, HW.out]; simp [HE.out])
      go_wp2_with (go_at_call 103; refine (rIsName_v text _ hx _ HN.out).mono ?_; rintro e w2 ⟨rfl, rfl⟩)
      go_ret
      exact ⟨ret_b HB.out.symm, HX.out⟩
set_option maxRecDepth 100000 in
set_option maxHeartbeats 8000000 in
theorem words5_any (pos num : Int) (text : ByteArray) (kA : Option Addr) (kl kc : Nat) (w : World) (hx : text.size ≤ 1000) (b : Bool) (hb : Hid (wordsN 5 num text.data.toList = b)) :
    Calls Try.prog 69 #[.agg #[.int .u8 5, .int .i64 pos, .string text, .int .i64 num, .slice kA kl kc]] w fun e w' => e = .returned (.bool b) ∧ Ext w w' := by
  have HW := Lib.hid (wordsN_of (kind := 5) (num := num) (text := text.data.toList) (named := true) (most := 0) rfl rfl)
  have HX : Hid (Ext w (w.alloc (.cells #[.int .u8 5, .int .i64 pos, .string text, .int .i64 num, .slice kA kl kc] 76))) := Lib.hid (Ext.alloc _ _)
  have HT : Hid (text.toList = text.data.toList) := Lib.hid (ByteArray.toList_eq _)
  obtain ⟨t1, HN⟩ : ∃ t, Hid (isNameN text.data.toList = t) := ⟨_, Lib.hid rfl⟩
  rw [HN.out] at HW
  go_enter Try.func69, Try.ntmps69
  go_upto_region 11 with fail
  cases t1 with
  | false =>
    have HB : Hid (b = false) := Lib.hid (by rw [← hb.out, HW.out]; rfl)
    go_wp2_with (go_at_call 103; refine (rIsName_v text _ hx _ HN.out).mono ?_; rintro e w2 ⟨rfl, rfl⟩)
    go_ret
    exact ⟨ret_b HB.out.symm, HX.out⟩
  | true =>
    by_cases h0 : 0 ≤ num
    · have d0 : decide (num ≥ 0) = true := decide_eq_true h0
      have d1 : decide (0 ≤ num) = true := decide_eq_true h0
      have HB : Hid (b = decide (num ≤ 0)) := Lib.hid (by rw [← hb.out, HW.out]; rw [d1]; simp)
      go_wp2_with (go_at_call 103; refine (rIsName_v text _ hx _ HN.out).mono ?_; rintro e w2 ⟨rfl, rfl⟩)
      go_ret
      exact ⟨ret_b HB.out.symm, HX.out⟩
    · have d0 : decide (num ≥ 0) = false := decide_eq_false h0
      have d1 : decide (0 ≤ num) = false := decide_eq_false h0
      have HB : Hid (b = false) := Lib.hid (by rw [← hb.out, HW.out]; rw [d1]; simp)
      go_wp2_with (go_at_call 103; refine (rIsName_v text _ hx _ HN.out).mono ?_; rintro e w2 ⟨rfl, rfl⟩)
      go_ret
      exact ⟨ret_b HB.out.symm, HX.out⟩
set_option maxRecDepth 100000 in
set_option maxHeartbeats 8000000 in
theorem words6_any (pos num : Int) (text : ByteArray) (kA : Option Addr) (kl kc : Nat) (w : World) (hx : text.size ≤ 1000) (b : Bool) (hb : Hid (wordsN 6 num text.data.toList = b)) :
    Calls Try.prog 69 #[.agg #[.int .u8 6, .int .i64 pos, .string text, .int .i64 num, .slice kA kl kc]] w fun e w' => e = .returned (.bool b) ∧ Ext w w' := by
  have HW := Lib.hid (wordsN_of (kind := 6) (num := num) (text := text.data.toList) (named := false) (most := 0) rfl rfl)
  have HX : Hid (Ext w (w.alloc (.cells #[.int .u8 6, .int .i64 pos, .string text, .int .i64 num, .slice kA kl kc] 76))) := Lib.hid (Ext.alloc _ _)
  have HT : Hid (text.toList = text.data.toList) := Lib.hid (ByteArray.toList_eq _)
  obtain ⟨t1, HN⟩ : ∃ t, Hid (isNameN text.data.toList = t) := ⟨_, Lib.hid rfl⟩
  rw [HN.out] at HW
  go_enter Try.func69, Try.ntmps69
  go_upto_region 11 with fail
  cases t1 with
  | true =>
    have HB : Hid (b = false) := Lib.hid (by rw [← hb.out, HW.out]; rfl)
    go_wp2_with (go_at_call 103; refine (rIsName_v text _ hx _ HN.out).mono ?_; rintro e w2 ⟨rfl, rfl⟩)
    go_ret
    exact ⟨ret_b HB.out.symm, HX.out⟩
  | false =>
    by_cases he : text.data.toList = []
    · have e1 : text.toList = [] := by rw [HT.out]; exact he
      have e2 : text.toList.isEmpty = true := by rw [e1]; rfl
      have HE : Hid (text.data.toList.isEmpty = true) := Lib.hid (by rw [he]; rfl)
      have e3 : (text.toList == []) = true := by rw [e1]; rfl
      clear he
      by_cases h0 : 0 ≤ num
      · have d0 : decide (num ≥ 0) = true := decide_eq_true h0
        have d1 : decide (0 ≤ num) = true := decide_eq_true h0
        have HB : Hid (b = decide (num ≤ 0)) := Lib.hid (by rw [← hb.out, HW.out]; rw [d1]; simp [HE.out])
        go_wp2_with (go_at_call 103; refine (rIsName_v text _ hx _ HN.out).mono ?_; rintro e w2 ⟨rfl, rfl⟩)
        go_ret
        exact ⟨ret_b HB.out.symm, HX.out⟩
      · have d0 : decide (num ≥ 0) = false := decide_eq_false h0
        have d1 : decide (0 ≤ num) = false := decide_eq_false h0
        have HB : Hid (b = false) := Lib.hid (by rw [← hb.out, HW.out]; rw [d1]; simp [HE.out])
        go_wp2_with (go_at_call 103; refine (rIsName_v text _ hx _ HN.out).mono ?_; rintro e w2 ⟨rfl, rfl⟩)
        go_ret
        exact ⟨ret_b HB.out.symm, HX.out⟩
    · have e1 : ¬ text.toList = [] := by rw [HT.out]; exact he
      have e2 : text.toList.isEmpty = false := by simpa using e1
      have HE : Hid (text.data.toList.isEmpty = false) := Lib.hid (by simpa using he)
      have e3 : (text.toList == []) = false := by simpa using e1
      clear he
      have HB : Hid (b = false) := Lib.hid (by rw [← hb.out, HW.out]; simp [HE.out])
      go_wp2_with (go_at_call 103; refine (rIsName_v text _ hx _ HN.out).mono ?_; rintro e w2 ⟨rfl, rfl⟩)
      go_ret
      exact ⟨ret_b HB.out.symm, HX.out⟩
set_option maxRecDepth 100000 in
set_option maxHeartbeats 8000000 in
theorem words7_any (pos num : Int) (text : ByteArray) (kA : Option Addr) (kl kc : Nat) (w : World) (hx : text.size ≤ 1000) (b : Bool) (hb : Hid (wordsN 7 num text.data.toList = b)) :
    Calls Try.prog 69 #[.agg #[.int .u8 7, .int .i64 pos, .string text, .int .i64 num, .slice kA kl kc]] w fun e w' => e = .returned (.bool b) ∧ Ext w w' := by
  have HW := Lib.hid (wordsN_of (kind := 7) (num := num) (text := text.data.toList) (named := true) (most := 1) rfl rfl)
  have HX : Hid (Ext w (w.alloc (.cells #[.int .u8 7, .int .i64 pos, .string text, .int .i64 num, .slice kA kl kc] 76))) := Lib.hid (Ext.alloc _ _)
  have HT : Hid (text.toList = text.data.toList) := Lib.hid (ByteArray.toList_eq _)
  obtain ⟨t1, HN⟩ : ∃ t, Hid (isNameN text.data.toList = t) := ⟨_, Lib.hid rfl⟩
  rw [HN.out] at HW
  go_enter Try.func69, Try.ntmps69
  go_upto_region 11 with fail
  cases t1 with
  | false =>
    have HB : Hid (b = false) := Lib.hid (by rw [← hb.out, HW.out]; rfl)
    go_wp2_with (go_at_call 103; refine (rIsName_v text _ hx _ HN.out).mono ?_; rintro e w2 ⟨rfl, rfl⟩)
    go_ret
    exact ⟨ret_b HB.out.symm, HX.out⟩
  | true =>
    by_cases h0 : 0 ≤ num
    · have d0 : decide (num ≥ 0) = true := decide_eq_true h0
      have d1 : decide (0 ≤ num) = true := decide_eq_true h0
      have HB : Hid (b = decide (num ≤ 1)) := Lib.hid (by rw [← hb.out, HW.out]; rw [d1]; simp)
      go_wp2_with (go_at_call 103; refine (rIsName_v text _ hx _ HN.out).mono ?_; rintro e w2 ⟨rfl, rfl⟩)
      go_ret
      exact ⟨ret_b HB.out.symm, HX.out⟩
    · have d0 : decide (num ≥ 0) = false := decide_eq_false h0
      have d1 : decide (0 ≤ num) = false := decide_eq_false h0
      have HB : Hid (b = false) := Lib.hid (by rw [← hb.out, HW.out]; rw [d1]; simp)
      go_wp2_with (go_at_call 103; refine (rIsName_v text _ hx _ HN.out).mono ?_; rintro e w2 ⟨rfl, rfl⟩)
      go_ret
      exact ⟨ret_b HB.out.symm, HX.out⟩
set_option maxRecDepth 100000 in
set_option maxHeartbeats 8000000 in
theorem words8_any (pos num : Int) (text : ByteArray) (kA : Option Addr) (kl kc : Nat) (w : World) (hx : text.size ≤ 1000) (b : Bool) (hb : Hid (wordsN 8 num text.data.toList = b)) :
    Calls Try.prog 69 #[.agg #[.int .u8 8, .int .i64 pos, .string text, .int .i64 num, .slice kA kl kc]] w fun e w' => e = .returned (.bool b) ∧ Ext w w' := by
  have HW := Lib.hid (wordsN_of (kind := 8) (num := num) (text := text.data.toList) (named := false) (most := 0) rfl rfl)
  have HX : Hid (Ext w (w.alloc (.cells #[.int .u8 8, .int .i64 pos, .string text, .int .i64 num, .slice kA kl kc] 76))) := Lib.hid (Ext.alloc _ _)
  have HT : Hid (text.toList = text.data.toList) := Lib.hid (ByteArray.toList_eq _)
  obtain ⟨t1, HN⟩ : ∃ t, Hid (isNameN text.data.toList = t) := ⟨_, Lib.hid rfl⟩
  rw [HN.out] at HW
  go_enter Try.func69, Try.ntmps69
  go_upto_region 11 with fail
  cases t1 with
  | true =>
    have HB : Hid (b = false) := Lib.hid (by rw [← hb.out, HW.out]; rfl)
    go_wp2_with (go_at_call 103; refine (rIsName_v text _ hx _ HN.out).mono ?_; rintro e w2 ⟨rfl, rfl⟩)
    go_ret
    exact ⟨ret_b HB.out.symm, HX.out⟩
  | false =>
    by_cases he : text.data.toList = []
    · have e1 : text.toList = [] := by rw [HT.out]; exact he
      have e2 : text.toList.isEmpty = true := by rw [e1]; rfl
      have HE : Hid (text.data.toList.isEmpty = true) := Lib.hid (by rw [he]; rfl)
      have e3 : (text.toList == []) = true := by rw [e1]; rfl
      clear he
      by_cases h0 : 0 ≤ num
      · have d0 : decide (num ≥ 0) = true := decide_eq_true h0
        have d1 : decide (0 ≤ num) = true := decide_eq_true h0
        have HB : Hid (b = decide (num ≤ 0)) := Lib.hid (by rw [← hb.out, HW.out]; rw [d1]; simp [HE.out])
        go_wp2_with (go_at_call 103; refine (rIsName_v text _ hx _ HN.out).mono ?_; rintro e w2 ⟨rfl, rfl⟩)
        go_ret
        exact ⟨ret_b HB.out.symm, HX.out⟩
      · have d0 : decide (num ≥ 0) = false := decide_eq_false h0
        have d1 : decide (0 ≤ num) = false := decide_eq_false h0
        have HB : Hid (b = false) := Lib.hid (by rw [← hb.out, HW.out]; rw [d1]; simp [HE.out])
        go_wp2_with (go_at_call 103; refine (rIsName_v text _ hx _ HN.out).mono ?_; rintro e w2 ⟨rfl, rfl⟩)
        go_ret
        exact ⟨ret_b HB.out.symm, HX.out⟩
    · have e1 : ¬ text.toList = [] := by rw [HT.out]; exact he
      have e2 : text.toList.isEmpty = false := by simpa using e1
      have HE : Hid (text.data.toList.isEmpty = false) := Lib.hid (by simpa using he)
      have e3 : (text.toList == []) = false := by simpa using e1
      clear he
      have HB : Hid (b = false) := Lib.hid (by rw [← hb.out, HW.out]; simp [HE.out])
      go_wp2_with (go_at_call 103; refine (rIsName_v text _ hx _ HN.out).mono ?_; rintro e w2 ⟨rfl, rfl⟩)
      go_ret
      exact ⟨ret_b HB.out.symm, HX.out⟩
set_option maxRecDepth 100000 in
set_option maxHeartbeats 8000000 in
theorem words9_any (pos num : Int) (text : ByteArray) (kA : Option Addr) (kl kc : Nat) (w : World) (hx : text.size ≤ 1000) (b : Bool) (hb : Hid (wordsN 9 num text.data.toList = b)) :
    Calls Try.prog 69 #[.agg #[.int .u8 9, .int .i64 pos, .string text, .int .i64 num, .slice kA kl kc]] w fun e w' => e = .returned (.bool b) ∧ Ext w w' := by
  have HW := Lib.hid (wordsN_of (kind := 9) (num := num) (text := text.data.toList) (named := false) (most := 0) rfl rfl)
  have HX : Hid (Ext w (w.alloc (.cells #[.int .u8 9, .int .i64 pos, .string text, .int .i64 num, .slice kA kl kc] 76))) := Lib.hid (Ext.alloc _ _)
  have HT : Hid (text.toList = text.data.toList) := Lib.hid (ByteArray.toList_eq _)
  obtain ⟨t1, HN⟩ : ∃ t, Hid (isNameN text.data.toList = t) := ⟨_, Lib.hid rfl⟩
  rw [HN.out] at HW
  go_enter Try.func69, Try.ntmps69
  go_upto_region 11 with fail
  cases t1 with
  | true =>
    have HB : Hid (b = false) := Lib.hid (by rw [← hb.out, HW.out]; rfl)
    go_wp2_with (go_at_call 103; refine (rIsName_v text _ hx _ HN.out).mono ?_; rintro e w2 ⟨rfl, rfl⟩)
    go_ret
    exact ⟨ret_b HB.out.symm, HX.out⟩
  | false =>
    by_cases he : text.data.toList = []
    · have e1 : text.toList = [] := by rw [HT.out]; exact he
      have e2 : text.toList.isEmpty = true := by rw [e1]; rfl
      have HE : Hid (text.data.toList.isEmpty = true) := Lib.hid (by rw [he]; rfl)
      have e3 : (text.toList == []) = true := by rw [e1]; rfl
      clear he
      by_cases h0 : 0 ≤ num
      · have d0 : decide (num ≥ 0) = true := decide_eq_true h0
        have d1 : decide (0 ≤ num) = true := decide_eq_true h0
        have HB : Hid (b = decide (num ≤ 0)) := Lib.hid (by rw [← hb.out, HW.out]; rw [d1]; simp [HE.out])
        go_wp2_with (go_at_call 103; refine (rIsName_v text _ hx _ HN.out).mono ?_; rintro e w2 ⟨rfl, rfl⟩)
        go_ret
        exact ⟨ret_b HB.out.symm, HX.out⟩
      · have d0 : decide (num ≥ 0) = false := decide_eq_false h0
        have d1 : decide (0 ≤ num) = false := decide_eq_false h0
        have HB : Hid (b = false) := Lib.hid (by rw [← hb.out, HW.out]; rw [d1]; simp [HE.out])
        go_wp2_with (go_at_call 103; refine (rIsName_v text _ hx _ HN.out).mono ?_; rintro e w2 ⟨rfl, rfl⟩)
        go_ret
        exact ⟨ret_b HB.out.symm, HX.out⟩
    · have e1 : ¬ text.toList = [] := by rw [HT.out]; exact he
      have e2 : text.toList.isEmpty = false := by simpa using e1
      have HE : Hid (text.data.toList.isEmpty = false) := Lib.hid (by simpa using he)
      have e3 : (text.toList == []) = false := by simpa using e1
      clear he
      have HB : Hid (b = false) := Lib.hid (by rw [← hb.out, HW.out]; simp [HE.out])
      go_wp2_with (go_at_call 103; refine (rIsName_v text _ hx _ HN.out).mono ?_; rintro e w2 ⟨rfl, rfl⟩)
      go_ret
      exact ⟨ret_b HB.out.symm, HX.out⟩
set_option maxRecDepth 100000 in
set_option maxHeartbeats 8000000 in
theorem words10_any (pos num : Int) (text : ByteArray) (kA : Option Addr) (kl kc : Nat) (w : World) (hx : text.size ≤ 1000) (b : Bool) (hb : Hid (wordsN 10 num text.data.toList = b)) :
    Calls Try.prog 69 #[.agg #[.int .u8 10, .int .i64 pos, .string text, .int .i64 num, .slice kA kl kc]] w fun e w' => e = .returned (.bool b) ∧ Ext w w' := by
  have HW := Lib.hid (wordsN_of (kind := 10) (num := num) (text := text.data.toList) (named := false) (most := 0) rfl rfl)
  have HX : Hid (Ext w (w.alloc (.cells #[.int .u8 10, .int .i64 pos, .string text, .int .i64 num, .slice kA kl kc] 76))) := Lib.hid (Ext.alloc _ _)
  have HT : Hid (text.toList = text.data.toList) := Lib.hid (ByteArray.toList_eq _)
  obtain ⟨t1, HN⟩ : ∃ t, Hid (isNameN text.data.toList = t) := ⟨_, Lib.hid rfl⟩
  rw [HN.out] at HW
  go_enter Try.func69, Try.ntmps69
  go_upto_region 11 with fail
  cases t1 with
  | true =>
    have HB : Hid (b = false) := Lib.hid (by rw [← hb.out, HW.out]; rfl)
    go_wp2_with (go_at_call 103; refine (rIsName_v text _ hx _ HN.out).mono ?_; rintro e w2 ⟨rfl, rfl⟩)
    go_ret
    exact ⟨ret_b HB.out.symm, HX.out⟩
  | false =>
    by_cases he : text.data.toList = []
    · have e1 : text.toList = [] := by rw [HT.out]; exact he
      have e2 : text.toList.isEmpty = true := by rw [e1]; rfl
      have HE : Hid (text.data.toList.isEmpty = true) := Lib.hid (by rw [he]; rfl)
      have e3 : (text.toList == []) = true := by rw [e1]; rfl
      clear he
      by_cases h0 : 0 ≤ num
      · have d0 : decide (num ≥ 0) = true := decide_eq_true h0
        have d1 : decide (0 ≤ num) = true := decide_eq_true h0
        have HB : Hid (b = decide (num ≤ 0)) := Lib.hid (by rw [← hb.out, HW.out]; rw [d1]; simp [HE.out])
        go_wp2_with (go_at_call 103; refine (rIsName_v text _ hx _ HN.out).mono ?_; rintro e w2 ⟨rfl, rfl⟩)
        go_ret
        exact ⟨ret_b HB.out.symm, HX.out⟩
      · have d0 : decide (num ≥ 0) = false := decide_eq_false h0
        have d1 : decide (0 ≤ num) = false := decide_eq_false h0
        have HB : Hid (b = false) := Lib.hid (by rw [← hb.out, HW.out]; rw [d1]; simp [HE.out])
        go_wp2_with (go_at_call 103; refine (rIsName_v text _ hx _ HN.out).mono ?_; rintro e w2 ⟨rfl, rfl⟩)
        go_ret
        exact ⟨ret_b HB.out.symm, HX.out⟩
    · have e1 : ¬ text.toList = [] := by rw [HT.out]; exact he
      have e2 : text.toList.isEmpty = false := by simpa using e1
      have HE : Hid (text.data.toList.isEmpty = false) := Lib.hid (by simpa using he)
      have e3 : (text.toList == []) = false := by simpa using e1
      clear he
      have HB : Hid (b = false) := Lib.hid (by rw [← hb.out, HW.out]; simp [HE.out])
      go_wp2_with (go_at_call 103; refine (rIsName_v text _ hx _ HN.out).mono ?_; rintro e w2 ⟨rfl, rfl⟩)
      go_ret
      exact ⟨ret_b HB.out.symm, HX.out⟩
set_option maxRecDepth 100000 in
set_option maxHeartbeats 8000000 in
theorem words11_any (pos num : Int) (text : ByteArray) (kA : Option Addr) (kl kc : Nat) (w : World) (hx : text.size ≤ 1000) (b : Bool) (hb : Hid (wordsN 11 num text.data.toList = b)) :
    Calls Try.prog 69 #[.agg #[.int .u8 11, .int .i64 pos, .string text, .int .i64 num, .slice kA kl kc]] w fun e w' => e = .returned (.bool b) ∧ Ext w w' := by
  have HW := Lib.hid (wordsN_of (kind := 11) (num := num) (text := text.data.toList) (named := true) (most := 0) rfl rfl)
  have HX : Hid (Ext w (w.alloc (.cells #[.int .u8 11, .int .i64 pos, .string text, .int .i64 num, .slice kA kl kc] 76))) := Lib.hid (Ext.alloc _ _)
  have HT : Hid (text.toList = text.data.toList) := Lib.hid (ByteArray.toList_eq _)
  obtain ⟨t1, HN⟩ : ∃ t, Hid (isNameN text.data.toList = t) := ⟨_, Lib.hid rfl⟩
  rw [HN.out] at HW
  go_enter Try.func69, Try.ntmps69
  go_upto_region 11 with fail
  cases t1 with
  | false =>
    have HB : Hid (b = false) := Lib.hid (by rw [← hb.out, HW.out]; rfl)
    go_wp2_with (go_at_call 103; refine (rIsName_v text _ hx _ HN.out).mono ?_; rintro e w2 ⟨rfl, rfl⟩)
    go_ret
    exact ⟨ret_b HB.out.symm, HX.out⟩
  | true =>
    by_cases h0 : 0 ≤ num
    · have d0 : decide (num ≥ 0) = true := decide_eq_true h0
      have d1 : decide (0 ≤ num) = true := decide_eq_true h0
      have HB : Hid (b = decide (num ≤ 0)) := Lib.hid (by rw [← hb.out, HW.out]; rw [d1]; simp)
      go_wp2_with (go_at_call 103; refine (rIsName_v text _ hx _ HN.out).mono ?_; rintro e w2 ⟨rfl, rfl⟩)
      go_ret
      exact ⟨ret_b HB.out.symm, HX.out⟩
    · have d0 : decide (num ≥ 0) = false := decide_eq_false h0
      have d1 : decide (0 ≤ num) = false := decide_eq_false h0
      have HB : Hid (b = false) := Lib.hid (by rw [← hb.out, HW.out]; rw [d1]; simp)
      go_wp2_with (go_at_call 103; refine (rIsName_v text _ hx _ HN.out).mono ?_; rintro e w2 ⟨rfl, rfl⟩)
      go_ret
      exact ⟨ret_b HB.out.symm, HX.out⟩
set_option maxRecDepth 100000 in
set_option maxHeartbeats 8000000 in
theorem words12_any (pos num : Int) (text : ByteArray) (kA : Option Addr) (kl kc : Nat) (w : World) (hx : text.size ≤ 1000) (b : Bool) (hb : Hid (wordsN 12 num text.data.toList = b)) :
    Calls Try.prog 69 #[.agg #[.int .u8 12, .int .i64 pos, .string text, .int .i64 num, .slice kA kl kc]] w fun e w' => e = .returned (.bool b) ∧ Ext w w' := by
  have HW := Lib.hid (wordsN_of (kind := 12) (num := num) (text := text.data.toList) (named := false) (most := 1) rfl rfl)
  have HX : Hid (Ext w (w.alloc (.cells #[.int .u8 12, .int .i64 pos, .string text, .int .i64 num, .slice kA kl kc] 76))) := Lib.hid (Ext.alloc _ _)
  have HT : Hid (text.toList = text.data.toList) := Lib.hid (ByteArray.toList_eq _)
  obtain ⟨t1, HN⟩ : ∃ t, Hid (isNameN text.data.toList = t) := ⟨_, Lib.hid rfl⟩
  rw [HN.out] at HW
  go_enter Try.func69, Try.ntmps69
  go_upto_region 11 with fail
  cases t1 with
  | true =>
    have HB : Hid (b = false) := Lib.hid (by rw [← hb.out, HW.out]; rfl)
    go_wp2_with (go_at_call 103; refine (rIsName_v text _ hx _ HN.out).mono ?_; rintro e w2 ⟨rfl, rfl⟩)
    go_ret
    exact ⟨ret_b HB.out.symm, HX.out⟩
  | false =>
    by_cases he : text.data.toList = []
    · have e1 : text.toList = [] := by rw [HT.out]; exact he
      have e2 : text.toList.isEmpty = true := by rw [e1]; rfl
      have HE : Hid (text.data.toList.isEmpty = true) := Lib.hid (by rw [he]; rfl)
      have e3 : (text.toList == []) = true := by rw [e1]; rfl
      clear he
      by_cases h0 : 0 ≤ num
      · have d0 : decide (num ≥ 0) = true := decide_eq_true h0
        have d1 : decide (0 ≤ num) = true := decide_eq_true h0
        have HB : Hid (b = decide (num ≤ 1)) := Lib.hid (by rw [← hb.out, HW.out]; rw [d1]; simp [HE.out])
        go_wp2_with (go_at_call 103; refine (rIsName_v text _ hx _ HN.out).mono ?_; rintro e w2 ⟨rfl, rfl⟩)
        go_ret
        exact ⟨ret_b HB.out.symm, HX.out⟩
      · have d0 : decide (num ≥ 0) = false := decide_eq_false h0
        have d1 : decide (0 ≤ num) = false := decide_eq_false h0
        have HB : Hid (b = false) := Lib.hid (by rw [← hb.out, HW.out]; rw [d1]; simp [HE.out])
        go_wp2_with (go_at_call 103; refine (rIsName_v text _ hx _ HN.out).mono ?_; rintro e w2 ⟨rfl, rfl⟩)
        go_ret
        exact ⟨ret_b HB.out.symm, HX.out⟩
    · have e1 : ¬ text.toList = [] := by rw [HT.out]; exact he
      have e2 : text.toList.isEmpty = false := by simpa using e1
      have HE : Hid (text.data.toList.isEmpty = false) := Lib.hid (by simpa using he)
      have e3 : (text.toList == []) = false := by simpa using e1
      clear he
      have HB : Hid (b = false) := Lib.hid (by rw [← hb.out, HW.out]; simp [HE.out])
      go_wp2_with (go_at_call 103; refine (rIsName_v text _ hx _ HN.out).mono ?_; rintro e w2 ⟨rfl, rfl⟩)
      go_ret
      exact ⟨ret_b HB.out.symm, HX.out⟩
set_option maxRecDepth 100000 in
set_option maxHeartbeats 8000000 in
theorem words13_any (pos num : Int) (text : ByteArray) (kA : Option Addr) (kl kc : Nat) (w : World) (hx : text.size ≤ 1000) (b : Bool) (hb : Hid (wordsN 13 num text.data.toList = b)) :
    Calls Try.prog 69 #[.agg #[.int .u8 13, .int .i64 pos, .string text, .int .i64 num, .slice kA kl kc]] w fun e w' => e = .returned (.bool b) ∧ Ext w w' := by
  have HW := Lib.hid (wordsN_of (kind := 13) (num := num) (text := text.data.toList) (named := false) (most := 0) rfl rfl)
  have HX : Hid (Ext w (w.alloc (.cells #[.int .u8 13, .int .i64 pos, .string text, .int .i64 num, .slice kA kl kc] 76))) := Lib.hid (Ext.alloc _ _)
  have HT : Hid (text.toList = text.data.toList) := Lib.hid (ByteArray.toList_eq _)
  obtain ⟨t1, HN⟩ : ∃ t, Hid (isNameN text.data.toList = t) := ⟨_, Lib.hid rfl⟩
  rw [HN.out] at HW
  go_enter Try.func69, Try.ntmps69
  go_upto_region 11 with fail
  cases t1 with
  | true =>
    have HB : Hid (b = false) := Lib.hid (by rw [← hb.out, HW.out]; rfl)
    go_wp2_with (go_at_call 103; refine (rIsName_v text _ hx _ HN.out).mono ?_; rintro e w2 ⟨rfl, rfl⟩)
    go_ret
    exact ⟨ret_b HB.out.symm, HX.out⟩
  | false =>
    by_cases he : text.data.toList = []
    · have e1 : text.toList = [] := by rw [HT.out]; exact he
      have e2 : text.toList.isEmpty = true := by rw [e1]; rfl
      have HE : Hid (text.data.toList.isEmpty = true) := Lib.hid (by rw [he]; rfl)
      have e3 : (text.toList == []) = true := by rw [e1]; rfl
      clear he
      by_cases h0 : 0 ≤ num
      · have d0 : decide (num ≥ 0) = true := decide_eq_true h0
        have d1 : decide (0 ≤ num) = true := decide_eq_true h0
        have HB : Hid (b = decide (num ≤ 0)) := Lib.hid (by rw [← hb.out, HW.out]; rw [d1]; simp [HE.out])
        go_wp2_with (go_at_call 103; refine (rIsName_v text _ hx _ HN.out).mono ?_; rintro e w2 ⟨rfl, rfl⟩)
        go_ret
        exact ⟨ret_b HB.out.symm, HX.out⟩
      · have d0 : decide (num ≥ 0) = false := decide_eq_false h0
        have d1 : decide (0 ≤ num) = false := decide_eq_false h0
        have HB : Hid (b = false) := Lib.hid (by rw [← hb.out, HW.out]; rw [d1]; simp [HE.out])
        go_wp2_with (go_at_call 103; refine (rIsName_v text _ hx _ HN.out).mono ?_; rintro e w2 ⟨rfl, rfl⟩)
        go_ret
        exact ⟨ret_b HB.out.symm, HX.out⟩
    · have e1 : ¬ text.toList = [] := by rw [HT.out]; exact he
      have e2 : text.toList.isEmpty = false := by simpa using e1
      have HE : Hid (text.data.toList.isEmpty = false) := Lib.hid (by simpa using he)
      have e3 : (text.toList == []) = false := by simpa using e1
      clear he
      have HB : Hid (b = false) := Lib.hid (by rw [← hb.out, HW.out]; simp [HE.out])
      go_wp2_with (go_at_call 103; refine (rIsName_v text _ hx _ HN.out).mono ?_; rintro e w2 ⟨rfl, rfl⟩)
      go_ret
      exact ⟨ret_b HB.out.symm, HX.out⟩
set_option maxRecDepth 100000 in
set_option maxHeartbeats 8000000 in
theorem words14_any (pos num : Int) (text : ByteArray) (kA : Option Addr) (kl kc : Nat) (w : World) (hx : text.size ≤ 1000) (b : Bool) (hb : Hid (wordsN 14 num text.data.toList = b)) :
    Calls Try.prog 69 #[.agg #[.int .u8 14, .int .i64 pos, .string text, .int .i64 num, .slice kA kl kc]] w fun e w' => e = .returned (.bool b) ∧ Ext w w' := by
  have HW := Lib.hid (wordsN_of (kind := 14) (num := num) (text := text.data.toList) (named := false) (most := 1) rfl rfl)
  have HX : Hid (Ext w (w.alloc (.cells #[.int .u8 14, .int .i64 pos, .string text, .int .i64 num, .slice kA kl kc] 76))) := Lib.hid (Ext.alloc _ _)
  have HT : Hid (text.toList = text.data.toList) := Lib.hid (ByteArray.toList_eq _)
  obtain ⟨t1, HN⟩ : ∃ t, Hid (isNameN text.data.toList = t) := ⟨_, Lib.hid rfl⟩
  rw [HN.out] at HW
  go_enter Try.func69, Try.ntmps69
  go_upto_region 11 with fail
  cases t1 with
  | true =>
    have HB : Hid (b = false) := Lib.hid (by rw [← hb.out, HW.out]; rfl)
    go_wp2_with (go_at_call 103; refine (rIsName_v text _ hx _ HN.out).mono ?_; rintro e w2 ⟨rfl, rfl⟩)
    go_ret
    exact ⟨ret_b HB.out.symm, HX.out⟩
  | false =>
    by_cases he : text.data.toList = []
    · have e1 : text.toList = [] := by rw [HT.out]; exact he
      have e2 : text.toList.isEmpty = true := by rw [e1]; rfl
      have HE : Hid (text.data.toList.isEmpty = true) := Lib.hid (by rw [he]; rfl)
      have e3 : (text.toList == []) = true := by rw [e1]; rfl
      clear he
      by_cases h0 : 0 ≤ num
      · have d0 : decide (num ≥ 0) = true := decide_eq_true h0
        have d1 : decide (0 ≤ num) = true := decide_eq_true h0
        have HB : Hid (b = decide (num ≤ 1)) := Lib.hid (by rw [← hb.out, HW.out]; rw [d1]; simp [HE.out])
        go_wp2_with (go_at_call 103; refine (rIsName_v text _ hx _ HN.out).mono ?_; rintro e w2 ⟨rfl, rfl⟩)
        go_ret
        exact ⟨ret_b HB.out.symm, HX.out⟩
      · have d0 : decide (num ≥ 0) = false := decide_eq_false h0
        have d1 : decide (0 ≤ num) = false := decide_eq_false h0
        have HB : Hid (b = false) := Lib.hid (by rw [← hb.out, HW.out]; rw [d1]; simp [HE.out])
        go_wp2_with (go_at_call 103; refine (rIsName_v text _ hx _ HN.out).mono ?_; rintro e w2 ⟨rfl, rfl⟩)
        go_ret
        exact ⟨ret_b HB.out.symm, HX.out⟩
    · have e1 : ¬ text.toList = [] := by rw [HT.out]; exact he
      have e2 : text.toList.isEmpty = false := by simpa using e1
      have HE : Hid (text.data.toList.isEmpty = false) := Lib.hid (by simpa using he)
      have e3 : (text.toList == []) = false := by simpa using e1
      clear he
      have HB : Hid (b = false) := Lib.hid (by rw [← hb.out, HW.out]; simp [HE.out])
      go_wp2_with (go_at_call 103; refine (rIsName_v text _ hx _ HN.out).mono ?_; rintro e w2 ⟨rfl, rfl⟩)
      go_ret
      exact ⟨ret_b HB.out.symm, HX.out⟩
set_option maxRecDepth 100000 in
set_option maxHeartbeats 8000000 in
theorem words15_any (pos num : Int) (text : ByteArray) (kA : Option Addr) (kl kc : Nat) (w : World) (hx : text.size ≤ 1000) (b : Bool) (hb : Hid (wordsN 15 num text.data.toList = b)) :
    Calls Try.prog 69 #[.agg #[.int .u8 15, .int .i64 pos, .string text, .int .i64 num, .slice kA kl kc]] w fun e w' => e = .returned (.bool b) ∧ Ext w w' := by
  have HW := Lib.hid (wordsN_of (kind := 15) (num := num) (text := text.data.toList) (named := true) (most := 0) rfl rfl)
  have HX : Hid (Ext w (w.alloc (.cells #[.int .u8 15, .int .i64 pos, .string text, .int .i64 num, .slice kA kl kc] 76))) := Lib.hid (Ext.alloc _ _)
  have HT : Hid (text.toList = text.data.toList) := Lib.hid (ByteArray.toList_eq _)
  obtain ⟨t1, HN⟩ : ∃ t, Hid (isNameN text.data.toList = t) := ⟨_, Lib.hid rfl⟩
  rw [HN.out] at HW
  go_enter Try.func69, Try.ntmps69
  go_upto_region 11 with fail
  cases t1 with
  | false =>
    have HB : Hid (b = false) := Lib.hid (by rw [← hb.out, HW.out]; rfl)
    go_wp2_with (go_at_call 103; refine (rIsName_v text _ hx _ HN.out).mono ?_; rintro e w2 ⟨rfl, rfl⟩)
    go_ret
    exact ⟨ret_b HB.out.symm, HX.out⟩
  | true =>
    by_cases h0 : 0 ≤ num
    · have d0 : decide (num ≥ 0) = true := decide_eq_true h0
      have d1 : decide (0 ≤ num) = true := decide_eq_true h0
      have HB : Hid (b = decide (num ≤ 0)) := Lib.hid (by rw [← hb.out, HW.out]; rw [d1]; simp)
      go_wp2_with (go_at_call 103; refine (rIsName_v text _ hx _ HN.out).mono ?_; rintro e w2 ⟨rfl, rfl⟩)
      go_ret
      exact ⟨ret_b HB.out.symm, HX.out⟩
    · have d0 : decide (num ≥ 0) = false := decide_eq_false h0
      have d1 : decide (0 ≤ num) = false := decide_eq_false h0
      have HB : Hid (b = false) := Lib.hid (by rw [← hb.out, HW.out]; rw [d1]; simp)
      go_wp2_with (go_at_call 103; refine (rIsName_v text _ hx _ HN.out).mono ?_; rintro e w2 ⟨rfl, rfl⟩)
      go_ret
      exact ⟨ret_b HB.out.symm, HX.out⟩
set_option maxRecDepth 100000 in
set_option maxHeartbeats 8000000 in
theorem words16_any (pos num : Int) (text : ByteArray) (kA : Option Addr) (kl kc : Nat) (w : World) (hx : text.size ≤ 1000) (b : Bool) (hb : Hid (wordsN 16 num text.data.toList = b)) :
    Calls Try.prog 69 #[.agg #[.int .u8 16, .int .i64 pos, .string text, .int .i64 num, .slice kA kl kc]] w fun e w' => e = .returned (.bool b) ∧ Ext w w' := by
  have HW := Lib.hid (wordsN_of (kind := 16) (num := num) (text := text.data.toList) (named := true) (most := 0) rfl rfl)
  have HX : Hid (Ext w (w.alloc (.cells #[.int .u8 16, .int .i64 pos, .string text, .int .i64 num, .slice kA kl kc] 76))) := Lib.hid (Ext.alloc _ _)
  have HT : Hid (text.toList = text.data.toList) := Lib.hid (ByteArray.toList_eq _)
  obtain ⟨t1, HN⟩ : ∃ t, Hid (isNameN text.data.toList = t) := ⟨_, Lib.hid rfl⟩
  rw [HN.out] at HW
  go_enter Try.func69, Try.ntmps69
  go_upto_region 11 with fail
  cases t1 with
  | false =>
    have HB : Hid (b = false) := Lib.hid (by rw [← hb.out, HW.out]; rfl)
    go_wp2_with (go_at_call 103; refine (rIsName_v text _ hx _ HN.out).mono ?_; rintro e w2 ⟨rfl, rfl⟩)
    go_ret
    exact ⟨ret_b HB.out.symm, HX.out⟩
  | true =>
    by_cases h0 : 0 ≤ num
    · have d0 : decide (num ≥ 0) = true := decide_eq_true h0
      have d1 : decide (0 ≤ num) = true := decide_eq_true h0
      have HB : Hid (b = decide (num ≤ 0)) := Lib.hid (by rw [← hb.out, HW.out]; rw [d1]; simp)
      go_wp2_with (go_at_call 103; refine (rIsName_v text _ hx _ HN.out).mono ?_; rintro e w2 ⟨rfl, rfl⟩)
      go_ret
      exact ⟨ret_b HB.out.symm, HX.out⟩
    · have d0 : decide (num ≥ 0) = false := decide_eq_false h0
      have d1 : decide (0 ≤ num) = false := decide_eq_false h0
      have HB : Hid (b = false) := Lib.hid (by rw [← hb.out, HW.out]; rw [d1]; simp)
      go_wp2_with (go_at_call 103; refine (rIsName_v text _ hx _ HN.out).mono ?_; rintro e w2 ⟨rfl, rfl⟩)
      go_ret
      exact ⟨ret_b HB.out.symm, HX.out⟩
set_option maxRecDepth 100000 in
set_option maxHeartbeats 8000000 in
theorem words17_any (pos num : Int) (text : ByteArray) (kA : Option Addr) (kl kc : Nat) (w : World) (hx : text.size ≤ 1000) (b : Bool) (hb : Hid (wordsN 17 num text.data.toList = b)) :
    Calls Try.prog 69 #[.agg #[.int .u8 17, .int .i64 pos, .string text, .int .i64 num, .slice kA kl kc]] w fun e w' => e = .returned (.bool b) ∧ Ext w w' := by
  have HW := Lib.hid (wordsN_of (kind := 17) (num := num) (text := text.data.toList) (named := false) (most := 0) rfl rfl)
  have HX : Hid (Ext w (w.alloc (.cells #[.int .u8 17, .int .i64 pos, .string text, .int .i64 num, .slice kA kl kc] 76))) := Lib.hid (Ext.alloc _ _)
  have HT : Hid (text.toList = text.data.toList) := Lib.hid (ByteArray.toList_eq _)
  obtain ⟨t1, HN⟩ : ∃ t, Hid (isNameN text.data.toList = t) := ⟨_, Lib.hid rfl⟩
  rw [HN.out] at HW
  go_enter Try.func69, Try.ntmps69
  go_upto_region 11 with fail
  cases t1 with
  | true =>
    have HB : Hid (b = false) := Lib.hid (by rw [← hb.out, HW.out]; rfl)
    go_wp2_with (go_at_call 103; refine (rIsName_v text _ hx _ HN.out).mono ?_; rintro e w2 ⟨rfl, rfl⟩)
    go_ret
    exact ⟨ret_b HB.out.symm, HX.out⟩
  | false =>
    by_cases he : text.data.toList = []
    · have e1 : text.toList = [] := by rw [HT.out]; exact he
      have e2 : text.toList.isEmpty = true := by rw [e1]; rfl
      have HE : Hid (text.data.toList.isEmpty = true) := Lib.hid (by rw [he]; rfl)
      have e3 : (text.toList == []) = true := by rw [e1]; rfl
      clear he
      by_cases h0 : 0 ≤ num
      · have d0 : decide (num ≥ 0) = true := decide_eq_true h0
        have d1 : decide (0 ≤ num) = true := decide_eq_true h0
        have HB : Hid (b = decide (num ≤ 0)) := Lib.hid (by rw [← hb.out, HW.out]; rw [d1]; simp [HE.out])
        go_wp2_with (go_at_call 103; refine (rIsName_v text _ hx _ HN.out).mono ?_; rintro e w2 ⟨rfl, rfl⟩)
        go_ret
        exact ⟨ret_b HB.out.symm, HX.out⟩
      · have d0 : decide (num ≥ 0) = false := decide_eq_false h0
        have d1 : decide (0 ≤ num) = false := decide_eq_false h0
        have HB : Hid (b = false) := Lib.hid (by rw [← hb.out, HW.out]; rw [d1]; simp [HE.out])
        go_wp2_with (go_at_call 103; refine (rIsName_v text _ hx _ HN.out).mono ?_; rintro e w2 ⟨rfl, rfl⟩)
        go_ret
        exact ⟨ret_b HB.out.symm, HX.out⟩
    · have e1 : ¬ text.toList = [] := by rw [HT.out]; exact he
      have e2 : text.toList.isEmpty = false := by simpa using e1
      have HE : Hid (text.data.toList.isEmpty = false) := Lib.hid (by simpa using he)
      have e3 : (text.toList == []) = false := by simpa using e1
      clear he
      have HB : Hid (b = false) := Lib.hid (by rw [← hb.out, HW.out]; simp [HE.out])
      go_wp2_with (go_at_call 103; refine (rIsName_v text _ hx _ HN.out).mono ?_; rintro e w2 ⟨rfl, rfl⟩)
      go_ret
      exact ⟨ret_b HB.out.symm, HX.out⟩
set_option maxRecDepth 100000 in
set_option maxHeartbeats 8000000 in
theorem words18_any (pos num : Int) (text : ByteArray) (kA : Option Addr) (kl kc : Nat) (w : World) (hx : text.size ≤ 1000) (b : Bool) (hb : Hid (wordsN 18 num text.data.toList = b)) :
    Calls Try.prog 69 #[.agg #[.int .u8 18, .int .i64 pos, .string text, .int .i64 num, .slice kA kl kc]] w fun e w' => e = .returned (.bool b) ∧ Ext w w' := by
  have HW := Lib.hid (wordsN_of (kind := 18) (num := num) (text := text.data.toList) (named := false) (most := 0) rfl rfl)
  have HX : Hid (Ext w (w.alloc (.cells #[.int .u8 18, .int .i64 pos, .string text, .int .i64 num, .slice kA kl kc] 76))) := Lib.hid (Ext.alloc _ _)
  have HT : Hid (text.toList = text.data.toList) := Lib.hid (ByteArray.toList_eq _)
  obtain ⟨t1, HN⟩ : ∃ t, Hid (isNameN text.data.toList = t) := ⟨_, Lib.hid rfl⟩
  rw [HN.out] at HW
  go_enter Try.func69, Try.ntmps69
  go_upto_region 11 with fail
  cases t1 with
  | true =>
    have HB : Hid (b = false) := Lib.hid (by rw [← hb.out, HW.out]; rfl)
    go_wp2_with (go_at_call 103; refine (rIsName_v text _ hx _ HN.out).mono ?_; rintro e w2 ⟨rfl, rfl⟩)
    go_ret
    exact ⟨ret_b HB.out.symm, HX.out⟩
  | false =>
    by_cases he : text.data.toList = []
    · have e1 : text.toList = [] := by rw [HT.out]; exact he
      have e2 : text.toList.isEmpty = true := by rw [e1]; rfl
      have HE : Hid (text.data.toList.isEmpty = true) := Lib.hid (by rw [he]; rfl)
      have e3 : (text.toList == []) = true := by rw [e1]; rfl
      clear he
      by_cases h0 : 0 ≤ num
      · have d0 : decide (num ≥ 0) = true := decide_eq_true h0
        have d1 : decide (0 ≤ num) = true := decide_eq_true h0
        have HB : Hid (b = decide (num ≤ 0)) := Lib.hid (by rw [← hb.out, HW.out]; rw [d1]; simp [HE.out])
        go_wp2_with (go_at_call 103; refine (rIsName_v text _ hx _ HN.out).mono ?_; rintro e w2 ⟨rfl, rfl⟩)
        go_ret
        exact ⟨ret_b HB.out.symm, HX.out⟩
      · have d0 : decide (num ≥ 0) = false := decide_eq_false h0
        have d1 : decide (0 ≤ num) = false := decide_eq_false h0
        have HB : Hid (b = false) := Lib.hid (by rw [← hb.out, HW.out]; rw [d1]; simp [HE.out])
        go_wp2_with (go_at_call 103; refine (rIsName_v text _ hx _ HN.out).mono ?_; rintro e w2 ⟨rfl, rfl⟩)
        go_ret
        exact ⟨ret_b HB.out.symm, HX.out⟩
    · have e1 : ¬ text.toList = [] := by rw [HT.out]; exact he
      have e2 : text.toList.isEmpty = false := by simpa using e1
      have HE : Hid (text.data.toList.isEmpty = false) := Lib.hid (by simpa using he)
      have e3 : (text.toList == []) = false := by simpa using e1
      clear he
      have HB : Hid (b = false) := Lib.hid (by rw [← hb.out, HW.out]; simp [HE.out])
      go_wp2_with (go_at_call 103; refine (rIsName_v text _ hx _ HN.out).mono ?_; rintro e w2 ⟨rfl, rfl⟩)
      go_ret
      exact ⟨ret_b HB.out.symm, HX.out⟩
set_option maxRecDepth 100000 in
set_option maxHeartbeats 8000000 in
theorem words19_any (pos num : Int) (text : ByteArray) (kA : Option Addr) (kl kc : Nat) (w : World) (hx : text.size ≤ 1000) (b : Bool) (hb : Hid (wordsN 19 num text.data.toList = b)) :
    Calls Try.prog 69 #[.agg #[.int .u8 19, .int .i64 pos, .string text, .int .i64 num, .slice kA kl kc]] w fun e w' => e = .returned (.bool b) ∧ Ext w w' := by
  have HW := Lib.hid (wordsN_of (kind := 19) (num := num) (text := text.data.toList) (named := false) (most := 0) rfl rfl)
  have HX : Hid (Ext w (w.alloc (.cells #[.int .u8 19, .int .i64 pos, .string text, .int .i64 num, .slice kA kl kc] 76))) := Lib.hid (Ext.alloc _ _)
  have HT : Hid (text.toList = text.data.toList) := Lib.hid (ByteArray.toList_eq _)
  obtain ⟨t1, HN⟩ : ∃ t, Hid (isNameN text.data.toList = t) := ⟨_, Lib.hid rfl⟩
  rw [HN.out] at HW
  go_enter Try.func69, Try.ntmps69
  go_upto_region 11 with fail
  cases t1 with
  | true =>
    have HB : Hid (b = false) := Lib.hid (by rw [← hb.out, HW.out]; rfl)
    go_wp2_with (go_at_call 103; refine (rIsName_v text _ hx _ HN.out).mono ?_; rintro e w2 ⟨rfl, rfl⟩)
    go_ret
    exact ⟨ret_b HB.out.symm, HX.out⟩
  | false =>
    by_cases he : text.data.toList = []
    · have e1 : text.toList = [] := by rw [HT.out]; exact he
      have e2 : text.toList.isEmpty = true := by rw [e1]; rfl
      have HE : Hid (text.data.toList.isEmpty = true) := Lib.hid (by rw [he]; rfl)
      have e3 : (text.toList == []) = true := by rw [e1]; rfl
      clear he
      by_cases h0 : 0 ≤ num
      · have d0 : decide (num ≥ 0) = true := decide_eq_true h0
        have d1 : decide (0 ≤ num) = true := decide_eq_true h0
        have HB : Hid (b = decide (num ≤ 0)) := Lib.hid (by rw [← hb.out, HW.out]; rw [d1]; simp [HE.out])
        go_wp2_with (go_at_call 103; refine (rIsName_v text _ hx _ HN.out).mono ?_; rintro e w2 ⟨rfl, rfl⟩)
        go_ret
        exact ⟨ret_b HB.out.symm, HX.out⟩
      · have d0 : decide (num ≥ 0) = false := decide_eq_false h0
        have d1 : decide (0 ≤ num) = false := decide_eq_false h0
        have HB : Hid (b = false) := Lib.hid (by rw [← hb.out, HW.out]; rw [d1]; simp [HE.out])
        go_wp2_with (go_at_call 103; refine (rIsName_v text _ hx _ HN.out).mono ?_; rintro e w2 ⟨rfl, rfl⟩)
        go_ret
        exact ⟨ret_b HB.out.symm, HX.out⟩
    · have e1 : ¬ text.toList = [] := by rw [HT.out]; exact he
      have e2 : text.toList.isEmpty = false := by simpa using e1
      have HE : Hid (text.data.toList.isEmpty = false) := Lib.hid (by simpa using he)
      have e3 : (text.toList == []) = false := by simpa using e1
      clear he
      have HB : Hid (b = false) := Lib.hid (by rw [← hb.out, HW.out]; simp [HE.out])
      go_wp2_with (go_at_call 103; refine (rIsName_v text _ hx _ HN.out).mono ?_; rintro e w2 ⟨rfl, rfl⟩)
      go_ret
      exact ⟨ret_b HB.out.symm, HX.out⟩
set_option maxRecDepth 100000 in
set_option maxHeartbeats 8000000 in
theorem words20_any (pos num : Int) (text : ByteArray) (kA : Option Addr) (kl kc : Nat) (w : World) (hx : text.size ≤ 1000) (b : Bool) (hb : Hid (wordsN 20 num text.data.toList = b)) :
    Calls Try.prog 69 #[.agg #[.int .u8 20, .int .i64 pos, .string text, .int .i64 num, .slice kA kl kc]] w fun e w' => e = .returned (.bool b) ∧ Ext w w' := by
  have HW := Lib.hid (wordsN_of (kind := 20) (num := num) (text := text.data.toList) (named := true) (most := 0) rfl rfl)
  have HX : Hid (Ext w (w.alloc (.cells #[.int .u8 20, .int .i64 pos, .string text, .int .i64 num, .slice kA kl kc] 76))) := Lib.hid (Ext.alloc _ _)
  have HT : Hid (text.toList = text.data.toList) := Lib.hid (ByteArray.toList_eq _)
  obtain ⟨t1, HN⟩ : ∃ t, Hid (isNameN text.data.toList = t) := ⟨_, Lib.hid rfl⟩
  rw [HN.out] at HW
  go_enter Try.func69, Try.ntmps69
  go_upto_region 11 with fail
  cases t1 with
  | false =>
    have HB : Hid (b = false) := Lib.hid (by rw [← hb.out, HW.out]; rfl)
    go_wp2_with (go_at_call 103; refine (rIsName_v text _ hx _ HN.out).mono ?_; rintro e w2 ⟨rfl, rfl⟩)
    go_ret
    exact ⟨ret_b HB.out.symm, HX.out⟩
  | true =>
    by_cases h0 : 0 ≤ num
    · have d0 : decide (num ≥ 0) = true := decide_eq_true h0
      have d1 : decide (0 ≤ num) = true := decide_eq_true h0
      have HB : Hid (b = decide (num ≤ 0)) := Lib.hid (by rw [← hb.out, HW.out]; rw [d1]; simp)
      go_wp2_with (go_at_call 103; refine (rIsName_v text _ hx _ HN.out).mono ?_; rintro e w2 ⟨rfl, rfl⟩)
      go_ret
      exact ⟨ret_b HB.out.symm, HX.out⟩
    · have d0 : decide (num ≥ 0) = false := decide_eq_false h0
      have d1 : decide (0 ≤ num) = false := decide_eq_false h0
      have HB : Hid (b = false) := Lib.hid (by rw [← hb.out, HW.out]; rw [d1]; simp)
      go_wp2_with (go_at_call 103; refine (rIsName_v text _ hx _ HN.out).mono ?_; rintro e w2 ⟨rfl, rfl⟩)
      go_ret
      exact ⟨ret_b HB.out.symm, HX.out⟩
set_option maxRecDepth 100000 in
set_option maxHeartbeats 8000000 in
theorem words21_any (pos num : Int) (text : ByteArray) (kA : Option Addr) (kl kc : Nat) (w : World) (hx : text.size ≤ 1000) (b : Bool) (hb : Hid (wordsN 21 num text.data.toList = b)) :
    Calls Try.prog 69 #[.agg #[.int .u8 21, .int .i64 pos, .string text, .int .i64 num, .slice kA kl kc]] w fun e w' => e = .returned (.bool b) ∧ Ext w w' := by
  have HW := Lib.hid (wordsN_of (kind := 21) (num := num) (text := text.data.toList) (named := false) (most := 2147483647) rfl rfl)
  have HX : Hid (Ext w (w.alloc (.cells #[.int .u8 21, .int .i64 pos, .string text, .int .i64 num, .slice kA kl kc] 76))) := Lib.hid (Ext.alloc _ _)
  have HT : Hid (text.toList = text.data.toList) := Lib.hid (ByteArray.toList_eq _)
  obtain ⟨t1, HN⟩ : ∃ t, Hid (isNameN text.data.toList = t) := ⟨_, Lib.hid rfl⟩
  rw [HN.out] at HW
  go_enter Try.func69, Try.ntmps69
  go_upto_region 11 with fail
  cases t1 with
  | true =>
    have HB : Hid (b = false) := Lib.hid (by rw [← hb.out, HW.out]; rfl)
    go_wp2_with (go_at_call 103; refine (rIsName_v text _ hx _ HN.out).mono ?_; rintro e w2 ⟨rfl, rfl⟩)
    go_ret
    exact ⟨ret_b HB.out.symm, HX.out⟩
  | false =>
    by_cases he : text.data.toList = []
    · have e1 : text.toList = [] := by rw [HT.out]; exact he
      have e2 : text.toList.isEmpty = true := by rw [e1]; rfl
      have HE : Hid (text.data.toList.isEmpty = true) := Lib.hid (by rw [he]; rfl)
      have e3 : (text.toList == []) = true := by rw [e1]; rfl
      clear he
      by_cases h0 : 0 ≤ num
      · have d0 : decide (num ≥ 0) = true := decide_eq_true h0
        have d1 : decide (0 ≤ num) = true := decide_eq_true h0
        have HB : Hid (b = decide (num ≤ 2147483647)) := Lib.hid (by rw [← hb.out, HW.out]; rw [d1]; simp [HE.out])
        go_wp2_with (go_at_call 103; refine (rIsName_v text _ hx _ HN.out).mono ?_; rintro e w2 ⟨rfl, rfl⟩)
        go_ret
        exact ⟨ret_b HB.out.symm, HX.out⟩
      · have d0 : decide (num ≥ 0) = false := decide_eq_false h0
        have d1 : decide (0 ≤ num) = false := decide_eq_false h0
        have HB : Hid (b = false) := Lib.hid (by rw [← hb.out, HW.out]; rw [d1]; simp [HE.out])
        go_wp2_with (go_at_call 103; refine (rIsName_v text _ hx _ HN.out).mono ?_; rintro e w2 ⟨rfl, rfl⟩)
        go_ret
        exact ⟨ret_b HB.out.symm, HX.out⟩
    · have e1 : ¬ text.toList = [] := by rw [HT.out]; exact he
      have e2 : text.toList.isEmpty = false := by simpa using e1
      have HE : Hid (text.data.toList.isEmpty = false) := Lib.hid (by simpa using he)
      have e3 : (text.toList == []) = false := by simpa using e1
      clear he
      have HB : Hid (b = false) := Lib.hid (by rw [← hb.out, HW.out]; simp [HE.out])
      go_wp2_with (go_at_call 103; refine (rIsName_v text _ hx _ HN.out).mono ?_; rintro e w2 ⟨rfl, rfl⟩)
      go_ret
      exact ⟨ret_b HB.out.symm, HX.out⟩
set_option maxRecDepth 100000 in
set_option maxHeartbeats 8000000 in
theorem words22_any (pos num : Int) (text : ByteArray) (kA : Option Addr) (kl kc : Nat) (w : World) (hx : text.size ≤ 1000) (b : Bool) (hb : Hid (wordsN 22 num text.data.toList = b)) :
    Calls Try.prog 69 #[.agg #[.int .u8 22, .int .i64 pos, .string text, .int .i64 num, .slice kA kl kc]] w fun e w' => e = .returned (.bool b) ∧ Ext w w' := by
  have HW := Lib.hid (wordsN_of (kind := 22) (num := num) (text := text.data.toList) (named := true) (most := 0) rfl rfl)
  have HX : Hid (Ext w (w.alloc (.cells #[.int .u8 22, .int .i64 pos, .string text, .int .i64 num, .slice kA kl kc] 76))) := Lib.hid (Ext.alloc _ _)
  have HT : Hid (text.toList = text.data.toList) := Lib.hid (ByteArray.toList_eq _)
  obtain ⟨t1, HN⟩ : ∃ t, Hid (isNameN text.data.toList = t) := ⟨_, Lib.hid rfl⟩
  rw [HN.out] at HW
  go_enter Try.func69, Try.ntmps69
  go_upto_region 11 with fail
  cases t1 with
  | false =>
    have HB : Hid (b = false) := Lib.hid (by rw [← hb.out, HW.out]; rfl)
    go_wp2_with (go_at_call 103; refine (rIsName_v text _ hx _ HN.out).mono ?_; rintro e w2 ⟨rfl, rfl⟩)
    go_ret
    exact ⟨ret_b HB.out.symm, HX.out⟩
  | true =>
    by_cases h0 : 0 ≤ num
    · have d0 : decide (num ≥ 0) = true := decide_eq_true h0
      have d1 : decide (0 ≤ num) = true := decide_eq_true h0
      have HB : Hid (b = decide (num ≤ 0)) := Lib.hid (by rw [← hb.out, HW.out]; rw [d1]; simp)
      go_wp2_with (go_at_call 103; refine (rIsName_v text _ hx _ HN.out).mono ?_; rintro e w2 ⟨rfl, rfl⟩)
      go_ret
      exact ⟨ret_b HB.out.symm, HX.out⟩
    · have d0 : decide (num ≥ 0) = false := decide_eq_false h0
      have d1 : decide (0 ≤ num) = false := decide_eq_false h0
      have HB : Hid (b = false) := Lib.hid (by rw [← hb.out, HW.out]; rw [d1]; simp)
      go_wp2_with (go_at_call 103; refine (rIsName_v text _ hx _ HN.out).mono ?_; rintro e w2 ⟨rfl, rfl⟩)
      go_ret
      exact ⟨ret_b HB.out.symm, HX.out⟩
set_option maxRecDepth 100000 in
set_option maxHeartbeats 8000000 in
theorem words23_any (pos num : Int) (text : ByteArray) (kA : Option Addr) (kl kc : Nat) (w : World) (hx : text.size ≤ 1000) (b : Bool) (hb : Hid (wordsN 23 num text.data.toList = b)) :
    Calls Try.prog 69 #[.agg #[.int .u8 23, .int .i64 pos, .string text, .int .i64 num, .slice kA kl kc]] w fun e w' => e = .returned (.bool b) ∧ Ext w w' := by
  have HW := Lib.hid (wordsN_of (kind := 23) (num := num) (text := text.data.toList) (named := false) (most := 0) rfl rfl)
  have HX : Hid (Ext w (w.alloc (.cells #[.int .u8 23, .int .i64 pos, .string text, .int .i64 num, .slice kA kl kc] 76))) := Lib.hid (Ext.alloc _ _)
  have HT : Hid (text.toList = text.data.toList) := Lib.hid (ByteArray.toList_eq _)
  obtain ⟨t1, HN⟩ : ∃ t, Hid (isNameN text.data.toList = t) := ⟨_, Lib.hid rfl⟩
  rw [HN.out] at HW
  go_enter Try.func69, Try.ntmps69
  go_upto_region 11 with fail
  cases t1 with
  | true =>
    have HB : Hid (b = false) := Lib.hid (by rw [← hb.out, HW.out]; rfl)
    go_wp2_with (go_at_call 103; refine (rIsName_v text _ hx _ HN.out).mono ?_; rintro e w2 ⟨rfl, rfl⟩)
    go_ret
    exact ⟨ret_b HB.out.symm, HX.out⟩
  | false =>
    by_cases he : text.data.toList = []
    · have e1 : text.toList = [] := by rw [HT.out]; exact he
      have e2 : text.toList.isEmpty = true := by rw [e1]; rfl
      have HE : Hid (text.data.toList.isEmpty = true) := Lib.hid (by rw [he]; rfl)
      have e3 : (text.toList == []) = true := by rw [e1]; rfl
      clear he
      by_cases h0 : 0 ≤ num
      · have d0 : decide (num ≥ 0) = true := decide_eq_true h0
        have d1 : decide (0 ≤ num) = true := decide_eq_true h0
        have HB : Hid (b = decide (num ≤ 0)) := Lib.hid (by rw [← hb.out, HW.out]; rw [d1]; simp [HE.out])
        go_wp2_with (go_at_call 103; refine (rIsName_v text _ hx _ HN.out).mono ?_; rintro e w2 ⟨rfl, rfl⟩)
        go_ret
        exact ⟨ret_b HB.out.symm, HX.out⟩
      · have d0 : decide (num ≥ 0) = false := decide_eq_false h0
        have d1 : decide (0 ≤ num) = false := decide_eq_false h0
        have HB : Hid (b = false) := Lib.hid (by rw [← hb.out, HW.out]; rw [d1]; simp [HE.out])
        go_wp2_with (go_at_call 103; refine (rIsName_v text _ hx _ HN.out).mono ?_; rintro e w2 ⟨rfl, rfl⟩)
        go_ret
        exact ⟨ret_b HB.out.symm, HX.out⟩
    · have e1 : ¬ text.toList = [] := by rw [HT.out]; exact he
      have e2 : text.toList.isEmpty = false := by simpa using e1
      have HE : Hid (text.data.toList.isEmpty = false) := Lib.hid (by simpa using he)
      have e3 : (text.toList == []) = false := by simpa using e1
      clear he
      have HB : Hid (b = false) := Lib.hid (by rw [← hb.out, HW.out]; simp [HE.out])
      go_wp2_with (go_at_call 103; refine (rIsName_v text _ hx _ HN.out).mono ?_; rintro e w2 ⟨rfl, rfl⟩)
      go_ret
      exact ⟨ret_b HB.out.symm, HX.out⟩
set_option maxRecDepth 100000 in
set_option maxHeartbeats 8000000 in
theorem words24_any (pos num : Int) (text : ByteArray) (kA : Option Addr) (kl kc : Nat) (w : World) (hx : text.size ≤ 1000) (b : Bool) (hb : Hid (wordsN 24 num text.data.toList = b)) :
    Calls Try.prog 69 #[.agg #[.int .u8 24, .int .i64 pos, .string text, .int .i64 num, .slice kA kl kc]] w fun e w' => e = .returned (.bool b) ∧ Ext w w' := by
  have HW := Lib.hid (wordsN_of (kind := 24) (num := num) (text := text.data.toList) (named := false) (most := 0) rfl rfl)
  have HX : Hid (Ext w (w.alloc (.cells #[.int .u8 24, .int .i64 pos, .string text, .int .i64 num, .slice kA kl kc] 76))) := Lib.hid (Ext.alloc _ _)
  have HT : Hid (text.toList = text.data.toList) := Lib.hid (ByteArray.toList_eq _)
  obtain ⟨t1, HN⟩ : ∃ t, Hid (isNameN text.data.toList = t) := ⟨_, Lib.hid rfl⟩
  rw [HN.out] at HW
  go_enter Try.func69, Try.ntmps69
  go_upto_region 11 with fail
  cases t1 with
  | true =>
    have HB : Hid (b = false) := Lib.hid (by rw [← hb.out, HW.out]; rfl)
    go_wp2_with (go_at_call 103; refine (rIsName_v text _ hx _ HN.out).mono ?_; rintro e w2 ⟨rfl, rfl⟩)
    go_ret
    exact ⟨ret_b HB.out.symm, HX.out⟩
  | false =>
    by_cases he : text.data.toList = []
    · have e1 : text.toList = [] := by rw [HT.out]; exact he
      have e2 : text.toList.isEmpty = true := by rw [e1]; rfl
      have HE : Hid (text.data.toList.isEmpty = true) := Lib.hid (by rw [he]; rfl)
      have e3 : (text.toList == []) = true := by rw [e1]; rfl
      clear he
      by_cases h0 : 0 ≤ num
      · have d0 : decide (num ≥ 0) = true := decide_eq_true h0
        have d1 : decide (0 ≤ num) = true := decide_eq_true h0
        have HB : Hid (b = decide (num ≤ 0)) := Lib.hid (by rw [← hb.out, HW.out]; rw [d1]; simp [HE.out])
        go_wp2_with (go_at_call 103; refine (rIsName_v text _ hx _ HN.out).mono ?_; rintro e w2 ⟨rfl, rfl⟩)
        go_ret
        exact ⟨ret_b HB.out.symm, HX.out⟩
      · have d0 : decide (num ≥ 0) = false := decide_eq_false h0
        have d1 : decide (0 ≤ num) = false := decide_eq_false h0
        have HB : Hid (b = false) := Lib.hid (by rw [← hb.out, HW.out]; rw [d1]; simp [HE.out])
        go_wp2_with (go_at_call 103; refine (rIsName_v text _ hx _ HN.out).mono ?_; rintro e w2 ⟨rfl, rfl⟩)
        go_ret
        exact ⟨ret_b HB.out.symm, HX.out⟩
    · have e1 : ¬ text.toList = [] := by rw [HT.out]; exact he
      have e2 : text.toList.isEmpty = false := by simpa using e1
      have HE : Hid (text.data.toList.isEmpty = false) := Lib.hid (by simpa using he)
      have e3 : (text.toList == []) = false := by simpa using e1
      clear he
      have HB : Hid (b = false) := Lib.hid (by rw [← hb.out, HW.out]; simp [HE.out])
      go_wp2_with (go_at_call 103; refine (rIsName_v text _ hx _ HN.out).mono ?_; rintro e w2 ⟨rfl, rfl⟩)
      go_ret
      exact ⟨ret_b HB.out.symm, HX.out⟩
set_option maxRecDepth 100000 in
set_option maxHeartbeats 8000000 in
theorem words25_any (pos num : Int) (text : ByteArray) (kA : Option Addr) (kl kc : Nat) (w : World) (hx : text.size ≤ 1000) (b : Bool) (hb : Hid (wordsN 25 num text.data.toList = b)) :
    Calls Try.prog 69 #[.agg #[.int .u8 25, .int .i64 pos, .string text, .int .i64 num, .slice kA kl kc]] w fun e w' => e = .returned (.bool b) ∧ Ext w w' := by
  have HW := Lib.hid (wordsN_of (kind := 25) (num := num) (text := text.data.toList) (named := false) (most := 0) rfl rfl)
  have HX : Hid (Ext w (w.alloc (.cells #[.int .u8 25, .int .i64 pos, .string text, .int .i64 num, .slice kA kl kc] 76))) := Lib.hid (Ext.alloc _ _)
  have HT : Hid (text.toList = text.data.toList) := Lib.hid (ByteArray.toList_eq _)
  obtain ⟨t1, HN⟩ : ∃ t, Hid (isNameN text.data.toList = t) := ⟨_, Lib.hid rfl⟩
  rw [HN.out] at HW
  go_enter Try.func69, Try.ntmps69
  go_upto_region 11 with fail
  cases t1 with
  | true =>
    have HB : Hid (b = false) := Lib.hid (by rw [← hb.out, HW.out]; rfl)
    go_wp2_with (go_at_call 103; refine (rIsName_v text _ hx _ HN.out).mono ?_; rintro e w2 ⟨rfl, rfl⟩)
    go_ret
    exact ⟨ret_b HB.out.symm, HX.out⟩
  | false =>
    by_cases he : text.data.toList = []
    · have e1 : text.toList = [] := by rw [HT.out]; exact he
      have e2 : text.toList.isEmpty = true := by rw [e1]; rfl
      have HE : Hid (text.data.toList.isEmpty = true) := Lib.hid (by rw [he]; rfl)
      have e3 : (text.toList == []) = true := by rw [e1]; rfl
      clear he
      by_cases h0 : 0 ≤ num
      · have d0 : decide (num ≥ 0) = true := decide_eq_true h0
        have d1 : decide (0 ≤ num) = true := decide_eq_true h0
        have HB : Hid (b = decide (num ≤ 0)) := Lib.hid (by rw [← hb.out, HW.out]; rw [d1]; simp [HE.out])
        go_wp2_with (go_at_call 103; refine (rIsName_v text _ hx _ HN.out).mono ?_; rintro e w2 ⟨rfl, rfl⟩)
        go_ret
        exact ⟨ret_b HB.out.symm, HX.out⟩
      · have d0 : decide (num ≥ 0) = false := decide_eq_false h0
        have d1 : decide (0 ≤ num) = false := decide_eq_false h0
        have HB : Hid (b = false) := Lib.hid (by rw [← hb.out, HW.out]; rw [d1]; simp [HE.out])
        go_wp2_with (go_at_call 103; refine (rIsName_v text _ hx _ HN.out).mono ?_; rintro e w2 ⟨rfl, rfl⟩)
        go_ret
        exact ⟨ret_b HB.out.symm, HX.out⟩
    · have e1 : ¬ text.toList = [] := by rw [HT.out]; exact he
      have e2 : text.toList.isEmpty = false := by simpa using e1
      have HE : Hid (text.data.toList.isEmpty = false) := Lib.hid (by simpa using he)
      have e3 : (text.toList == []) = false := by simpa using e1
      clear he
      have HB : Hid (b = false) := Lib.hid (by rw [← hb.out, HW.out]; simp [HE.out])
      go_wp2_with (go_at_call 103; refine (rIsName_v text _ hx _ HN.out).mono ?_; rintro e w2 ⟨rfl, rfl⟩)
      go_ret
      exact ⟨ret_b HB.out.symm, HX.out⟩
set_option maxRecDepth 100000 in
set_option maxHeartbeats 8000000 in
theorem words26_any (pos num : Int) (text : ByteArray) (kA : Option Addr) (kl kc : Nat) (w : World) (hx : text.size ≤ 1000) (b : Bool) (hb : Hid (wordsN 26 num text.data.toList = b)) :
    Calls Try.prog 69 #[.agg #[.int .u8 26, .int .i64 pos, .string text, .int .i64 num, .slice kA kl kc]] w fun e w' => e = .returned (.bool b) ∧ Ext w w' := by
  have HW := Lib.hid (wordsN_of (kind := 26) (num := num) (text := text.data.toList) (named := false) (most := 0) rfl rfl)
  have HX : Hid (Ext w (w.alloc (.cells #[.int .u8 26, .int .i64 pos, .string text, .int .i64 num, .slice kA kl kc] 76))) := Lib.hid (Ext.alloc _ _)
  have HT : Hid (text.toList = text.data.toList) := Lib.hid (ByteArray.toList_eq _)
  obtain ⟨t1, HN⟩ : ∃ t, Hid (isNameN text.data.toList = t) := ⟨_, Lib.hid rfl⟩
  rw [HN.out] at HW
  go_enter Try.func69, Try.ntmps69
  go_upto_region 11 with fail
  cases t1 with
  | true =>
    have HB : Hid (b = false) := Lib.hid (by rw [← hb.out, HW.out]; rfl)
    go_wp2_with (go_at_call 103; refine (rIsName_v text _ hx _ HN.out).mono ?_; rintro e w2 ⟨rfl, rfl⟩)
    go_ret
    exact ⟨ret_b HB.out.symm, HX.out⟩
  | false =>
    by_cases he : text.data.toList = []
    · have e1 : text.toList = [] := by rw [HT.out]; exact he
      have e2 : text.toList.isEmpty = true := by rw [e1]; rfl
      have HE : Hid (text.data.toList.isEmpty = true) := Lib.hid (by rw [he]; rfl)
      have e3 : (text.toList == []) = true := by rw [e1]; rfl
      clear he
      by_cases h0 : 0 ≤ num
      · have d0 : decide (num ≥ 0) = true := decide_eq_true h0
        have d1 : decide (0 ≤ num) = true := decide_eq_true h0
        have HB : Hid (b = decide (num ≤ 0)) := Lib.hid (by rw [← hb.out, HW.out]; rw [d1]; simp [HE.out])
        go_wp2_with (go_at_call 103; refine (rIsName_v text _ hx _ HN.out).mono ?_; rintro e w2 ⟨rfl, rfl⟩)
        go_ret
        exact ⟨ret_b HB.out.symm, HX.out⟩
      · have d0 : decide (num ≥ 0) = false := decide_eq_false h0
        have d1 : decide (0 ≤ num) = false := decide_eq_false h0
        have HB : Hid (b = false) := Lib.hid (by rw [← hb.out, HW.out]; rw [d1]; simp [HE.out])
        go_wp2_with (go_at_call 103; refine (rIsName_v text _ hx _ HN.out).mono ?_; rintro e w2 ⟨rfl, rfl⟩)
        go_ret
        exact ⟨ret_b HB.out.symm, HX.out⟩
    · have e1 : ¬ text.toList = [] := by rw [HT.out]; exact he
      have e2 : text.toList.isEmpty = false := by simpa using e1
      have HE : Hid (text.data.toList.isEmpty = false) := Lib.hid (by simpa using he)
      have e3 : (text.toList == []) = false := by simpa using e1
      clear he
      have HB : Hid (b = false) := Lib.hid (by rw [← hb.out, HW.out]; simp [HE.out])
      go_wp2_with (go_at_call 103; refine (rIsName_v text _ hx _ HN.out).mono ?_; rintro e w2 ⟨rfl, rfl⟩)
      go_ret
      exact ⟨ret_b HB.out.symm, HX.out⟩
theorem words_any (x : NodeM) (w : World) (hk : 1 ≤ x.kind ∧ x.kind ≤ 26) (hx : x.text.size ≤ 1000) (b : Bool) (hb : Hid (wordsN x.kind x.num x.text.data.toList = b)) :
    Calls Try.prog 69 #[.agg (Array.mk x.cells)] w fun e w' => e = .returned (.bool b) ∧ Ext w w' := by
  obtain ⟨kind, pos, text, num, kA, kc, kids⟩ := x
  simp only at hk hx hb
  have hc : kind = 1 ∨ kind = 2 ∨ kind = 3 ∨ kind = 4 ∨ kind = 5 ∨ kind = 6 ∨ kind = 7 ∨ kind = 8 ∨ kind = 9 ∨ kind = 10 ∨ kind = 11 ∨ kind = 12 ∨ kind = 13 ∨ kind = 14 ∨ kind = 15 ∨ kind = 16 ∨ kind = 17 ∨ kind = 18 ∨ kind = 19 ∨ kind = 20 ∨ kind = 21 ∨ kind = 22 ∨ kind = 23 ∨ kind = 24 ∨ kind = 25 ∨ kind = 26 := by omega
  rcases hc with rfl | rfl | rfl | rfl | rfl | rfl | rfl | rfl | rfl | rfl | rfl | rfl | rfl | rfl | rfl | rfl | rfl | rfl | rfl | rfl | rfl | rfl | rfl | rfl | rfl | rfl
  · exact words1_any pos num text kA kids.length kc w hx b hb
  · exact words2_any pos num text kA kids.length kc w hx b hb
  · exact words3_any pos num text kA kids.length kc w hx b hb
  · exact words4_any pos num text kA kids.length kc w hx b hb
  · exact words5_any pos num text kA kids.length kc w hx b hb
  · exact words6_any pos num text kA kids.length kc w hx b hb
  · exact words7_any pos num text kA kids.length kc w hx b hb
  · exact words8_any pos num text kA kids.length kc w hx b hb
  · exact words9_any pos num text kA kids.length kc w hx b hb
  · exact words10_any pos num text kA kids.length kc w hx b hb
  · exact words11_any pos num text kA kids.length kc w hx b hb
  · exact words12_any pos num text kA kids.length kc w hx b hb
  · exact words13_any pos num text kA kids.length kc w hx b hb
  · exact words14_any pos num text kA kids.length kc w hx b hb
  · exact words15_any pos num text kA kids.length kc w hx b hb
  · exact words16_any pos num text kA kids.length kc w hx b hb
  · exact words17_any pos num text kA kids.length kc w hx b hb
  · exact words18_any pos num text kA kids.length kc w hx b hb
  · exact words19_any pos num text kA kids.length kc w hx b hb
  · exact words20_any pos num text kA kids.length kc w hx b hb
  · exact words21_any pos num text kA kids.length kc w hx b hb
  · exact words22_any pos num text kA kids.length kc w hx b hb
  · exact words23_any pos num text kA kids.length kc w hx b hb
  · exact words24_any pos num text kA kids.length kc w hx b hb
  · exact words25_any pos num text kA kids.length kc w hx b hb
  · exact words26_any pos num text kA kids.length kc w hx b hb
set_option maxRecDepth 100000 in
set_option maxHeartbeats 8000000 in
theorem kinds_any (l : List NodeM) (A : Option Addr) (n c : Nat) (x : NodeM) (w : World) (hn : n = l.length) (ht : TreeM w A l) (hlen : l.length ≤ 1000) (hkl : x.kids.length ≤ 1000) (hxo : NodeOk w x) (hin : InRange l x.kids) :
    Calls Try.prog 71 #[.slice A n c, .agg (Array.mk x.cells)] w fun e w' => ∃ A' c', e = .returned (.slice A' x.kids.length c') ∧ Cells w' A' (bcells (kindsOf l x.kids)) ∧ Ext w w' := by
  subst hn
  obtain ⟨i0, hi, hz0, hz1, hz2⟩ := info_parts infoU8
  have HT := Lib.hid ht
  have HXO := Lib.hid hxo
  have HIN := Lib.hid hin
  clear ht hxo hin
  obtain ⟨kind, pos, text, num, kA, kc, kids⟩ := x
  simp only at hkl
  show Calls Try.prog 71 #[.slice A l.length c, .agg #[.int .u8 kind, .int .i64 pos, .string text, .int .i64 num, .slice kA kids.length kc]] w fun e w' => ∃ A' c', e = .returned (.slice A' kids.length c') ∧ Cells w' A' (bcells (kindsOf l kids)) ∧ Ext w w'
  have HN0 : Hid (Blk (w.alloc (.cells #[.int .u8 kind, .int .i64 pos, .string text, .int .i64 num, .slice kA kids.length kc] 76)) w.heap.size 76 #[.int .u8 kind, .int .i64 pos, .string text, .int .i64 num, .slice kA kids.length kc]) := Lib.hid (Blk.new _ _ _)
  have HX0 : Hid (Ext w (w.alloc (.cells #[.int .u8 kind, .int .i64 pos, .string text, .int .i64 num, .slice kA kids.length kc] 76))) := Lib.hid (Ext.alloc _ _)
  have HLT : Hid (w.heap.size < (w.alloc (.cells #[.int .u8 kind, .int .i64 pos, .string text, .int .i64 num, .slice kA kids.length kc] 76)).heap.size) := Lib.hid (by simp)
  go_enter Try.func71, Try.ntmps71
  go_wp2_with fail
  generalize w.alloc (.cells #[.int .u8 kind, .int .i64 pos, .string text, .int .i64 num, .slice kA kids.length kc] 76) = w1 at *
  obtain ⟨gn, hgn⟩ : ∃ gn, gn = w.heap.size := ⟨_, rfl⟩
  rw [← hgn] at HN0 HLT ⊢
  clear hgn
  go_loopw [5, 6] (fun out i wr => ∃ (k : Nat) (A' : Option Addr) (c' : Nat), k ≤ kids.length ∧ i = .int .i64 k ∧ out = .slice A' k c' ∧ Hid (wr.ownsRow w1.heap.size 5 1 (.slice A' k c') k (bcells (kindsOf l (kids.take k)))) ∧ Hid (Ext w1 wr)) (fun _ i _ => kids.length - (intOf i).toNat)
  case atStart => exact ⟨0, none, 0, Nat.zero_le _, rfl, rfl, Lib.hid (World.ownsRow_nil _ _ _ _), Lib.hid (Ext.refl _)⟩
  case round =>
    obtain ⟨k, A', c', hk, rfl, rfl, HO, HX⟩ := hrel
    obtain ⟨wa, rfl⟩ : ∃ wa : World, wa = wr := ⟨_, rfl⟩
    have y4 := (HN0.out.ext HX.out).cell 4
    by_cases hlt : k < kids.length
    · have d0 : decide ((k : Int) < (kids.length : Int)) = true := decide_eq_true (by omega)
      have HXW : Hid (Ext w wa) := Lib.hid (HX0.out.trans HX.out)
      obtain ⟨b, off, rfl, hb, hcl⟩ := kids_at (HXO.out.kids.ext HXW.out) k hlt
      obtain ⟨a, ha, hal⟩ := HIN.out kids[k] (List.getElem_mem hlt)
      have HKS : Hid (kindsOf l (kids.take (k + 1)) = kindsOf l (kids.take k) ++ [l[a].kind]) := Lib.hid (by
        unfold kindsOf
        rw [List.take_succ_eq_append_getElem hlt, List.map_append, ha]
        simp only [List.map_cons, List.map_nil]
        rw [kindAt_eq hal])
      rw [ha] at hcl
      clear ha
      obtain ⟨b2, off2, rfl, hb2, hc2⟩ := (HT.out.ext HXW.out).at_ a hal
      have hk0 : wa.cell? ⟨b2, off2 + a * 5, none⟩ = some (.int .u8 l[a].kind) := hc2 0 (by omega)
      clear hc2
      generalize kindsOf l (kids.take k) = ls at *
      generalize l[a].kind = ka at *
      have q1 : (a : Int) < (l.length : Int) := by omega
      have HOA := Lib.hid (HO.out.alloc (.cells #[.int .u8 ka] 5))
      have HXA : Hid (Ext w1 (wa.alloc (.cells #[.int .u8 ka] 5))) := Lib.hid (HX.out.trans (Ext.alloc _ _))
      have HCA : Hid (Cells (wa.alloc (.cells #[.int .u8 ka] 5)) (some ⟨wa.heap.size, 0, none⟩) [.int .u8 ka]) := Lib.hid (Cells.new _ 5 #[.int .u8 ka])
      go_wp2_with (at_builtin; refine wpList_grow rfl _ _ 80 rfl w1.heap.size 5 i0 (.int .u8 0) 1 1 Try.underlying80 hi hz0 hz1 hz2 rfl (by decide) _ _ _ rfl HOA.out _ 1 1 [.int .u8 ka] rfl (fun h => by cases h) rfl HCA.out ?c2 ?c3 ?c4 HXA.out.size ?_)
      case c2 => first | (intro u hu; simp at hu; subst hu; rfl) | rfl
      case c3 => unfold maxLen; omega
      case c4 => omega
      intro A3 c3 w3 hn3 ho3 hg3
      have HO3 : Hid (w3.ownsRow w1.heap.size 5 1 (.slice A3 (k + 1) c3) (k + 1) (bcells (ls ++ [ka]))) := Lib.hid (by rw [bcells_snoc]; exact ho3)
      have HX3 : Hid (Ext w1 w3) := Lib.hid (Below.grown HXA.out hg3 HXA.out.size (own_base HOA.out))
      clear ho3 hg3 hn3
      go_wp2_with fail
      go_roundw
      case rel => exact ⟨k + 1, A3, c3, by omega, by go_num, rfl, Lib.hid (by rw [HKS.out]; exact HO3.out), HX3⟩
      case measure => simp [intOf]; omega
    · obtain rfl : k = kids.length := by omega
      have d0 : decide ((kids.length : Int) < (kids.length : Int)) = false := by simp
      go_wp2_with fail
      go_ret
      have h1 := HO.out
      rw [List.take_length] at h1
      exact ⟨A', c', rfl, Cells.own h1, HX0.out.trans HX.out⟩
end Go.Proofs.Ythofccoefiogiaa
