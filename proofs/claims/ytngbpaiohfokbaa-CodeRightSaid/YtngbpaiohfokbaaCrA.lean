/- Which fields an instruction has, by letters; whether a letter stands in a text. Condition: the text is short. -/
import Derived.Test.YtngbpaiohfokbaaBase
namespace Go.Proofs.Ytngbpaiohfokbaa
open Go Go.RowKit
set_option linter.unusedVariables false
set_option linter.unusedSimpArgs false
def hasB (s : ByteArray) (c : Int) : Bool := s.data.toList.any fun x => (x.toNat : Int) == c
def partT : List ByteArray := [⟨#[]⟩, ⟨#[109, 116, 107]⟩, ⟨#[116, 107]⟩, ⟨#[116, 114, 99, 118]⟩, ⟨#[116, 114, 99, 49]⟩, ⟨#[116, 114, 110]⟩, ⟨#[116, 114]⟩, ⟨#[116, 99, 118]⟩, ⟨#[118, 49]⟩, ⟨#[49]⟩, ⟨#[111]⟩, ⟨#[101, 50, 111]⟩, ⟨#[118, 102, 117, 111]⟩, ⟨#[118, 117, 111]⟩, ⟨#[]⟩, ⟨#[]⟩, ⟨#[]⟩]
def partS (op : Int) : ByteArray := partT.getD op.toNat ⟨#[]⟩
theorem partS_small (op : Int) : (partS op).size ≤ 4 := by
  unfold partS
  rw [List.getD_eq_getElem?_getD]
  cases h : partT[op.toNat]? with
  | none => decide
  | some x =>
    have : x ∈ partT := List.mem_of_getElem? h
    have hp : ∀ x ∈ partT, x.data.size ≤ 4 := by
      intro x hx
      simp only [partT, List.mem_cons, List.not_mem_nil, or_false] at hx
      rcases hx with rfl | rfl | rfl | rfl | rfl | rfl | rfl | rfl | rfl | rfl | rfl | rfl | rfl | rfl | rfl | rfl | rfl <;> decide
    exact hp x this
theorem any_take {α : Type} (p : α → Bool) (l : List α) (k : Nat) (hk : k < l.length) (h : p l[k] = true) : l.any p = true := List.any_eq_true.2 ⟨l[k], List.getElem_mem hk, h⟩
theorem any_none {α : Type} (p : α → Bool) (l : List α) (h : ∀ k (hk : k < l.length), p l[k] = false) : l.any p = false := by
  rw [List.any_eq_false]
  intro x hx
  obtain ⟨k, hk, rfl⟩ := List.getElem_of_mem hx
  rw [h k hk]
  decide
theorem partS_len (op : Int) : (partS op).size ≤ 100 := Nat.le_trans (partS_small op) (by decide)
set_option maxRecDepth 100000 in
set_option maxHeartbeats 4000000 in
theorem rhas_any (s : ByteArray) (c : Int) (hs : s.size ≤ 100) (w : World) (b : Bool) (hb : Hid (hasB s c = b)) : Calls Try.prog 34 #[.string s, .int .u8 c] w fun e w' => e = .returned (.bool b) ∧ w = w' := by
  have hl : s.data.toList.length = s.size := Array.length_toList
  have HY : Hid (∀ k (hk : k < s.size), ((s[k].toNat : Int) == c) = true → b = true) := Lib.hid fun k hk h => by
    rw [← hb.out]
    exact any_take _ _ k (by rw [hl]; exact hk) (by rw [Array.getElem_toList]; exact h)
  have HN : Hid ((∀ k (hk : k < s.size), ((s[k].toNat : Int) == c) = false) → b = false) := Lib.hid fun h => by
    rw [← hb.out]
    exact any_none _ _ fun k hk => by rw [Array.getElem_toList]; exact h k (by rw [← hl]; exact hk)
  clear hl hb
  go_enter Try.func34, Try.ntmps34
  go_wp2_with fail
  go_loopw [5] (fun i wr => ∃ k : Nat, k ≤ s.size ∧ i = .int .i64 k ∧ w = wr ∧ Hid (∀ j (hj : j < s.size), j < k → ((s[j].toNat : Int) == c) = false)) (fun i _ => s.size - (intOf i).toNat)
  case atStart => exact ⟨0, Nat.zero_le _, rfl, rfl, Lib.hid fun j hj h => by omega⟩
  case round =>
    obtain ⟨k, hk, rfl, rfl, HJ⟩ := hrel
    by_cases hlt : k < s.size
    · have d0 : decide ((k : Int) < (s.size : Int)) = true := decide_eq_true (by omega)
      have q0 : (k : Int) < (s.size : Int) := by omega
      cases ht : ((s[k].toNat : Int) == c) with
      | true =>
        have HB := Lib.hid (HY.out k hlt ht)
        go_wp2_with fail
        go_ret
        rw [HB.out]
        exact ⟨rfl, rfl⟩
      | false =>
        have HJ2 : Hid (∀ j (hj : j < s.size), j < k + 1 → ((s[j].toNat : Int) == c) = false) := Lib.hid fun j hj h => by
          by_cases e : j = k
          · subst e; exact ht
          · exact HJ.out j hj (by omega)
        go_wp2_with fail
        go_roundw
        case rel => exact ⟨k + 1, by omega, by go_num, by first | rfl | trivial, HJ2⟩
        case measure => simp [intOf]; omega
    · obtain rfl : k = s.size := by omega
      have d0 : decide ((s.size : Int) < (s.size : Int)) = false := by simp
      have HB := Lib.hid (HN.out fun j hj => HJ.out j hj hj)
      go_wp2_with fail
      go_ret
      rw [HB.out]
      exact ⟨rfl, rfl⟩
set_option maxRecDepth 100000 in
set_option maxHeartbeats 8000000 in
theorem rpart_any (op : Int) (h0 : 0 ≤ op) (h1 : op ≤ 16) (w : World) : Calls Try.prog 35 #[.int .u8 op] w fun e w' => e = .returned (.string (partS op)) ∧ Ext w w' := by
  have hc : op = 0 ∨ op = 1 ∨ op = 2 ∨ op = 3 ∨ op = 4 ∨ op = 5 ∨ op = 6 ∨ op = 7 ∨ op = 8 ∨ op = 9 ∨ op = 10 ∨ op = 11 ∨ op = 12 ∨ op = 13 ∨ op = 14 ∨ op = 15 ∨ op = 16 := by omega
  go_enter Try.func35, Try.ntmps35
  rcases hc with rfl | rfl | rfl | rfl | rfl | rfl | rfl | rfl | rfl | rfl | rfl | rfl | rfl | rfl | rfl | rfl | rfl <;> (go_wp2_with fail; go_ret; exact ⟨rfl, Ext.alloc _ _⟩)
theorem rpart_big (op : Int) (h1 : 16 < op) (w : World) : Calls Try.prog 35 #[.int .u8 op] w fun e w' => e = .returned (.string (partS op)) ∧ Ext w w' := by
  have d0 : decide (op > 16) = true := decide_eq_true h1
  have d1 : decide ((16 : Int) < op) = true := d0
  have HP : Hid (partS op = ⟨#[]⟩) := Lib.hid (by
    unfold partS
    rw [List.getD_eq_getElem?_getD, List.getElem?_eq_none (by show 17 ≤ _; omega)]
    rfl)
  rw [HP.out]
  go_enter Try.func35, Try.ntmps35
  go_wp2_with fail
  go_ret
  exact ⟨rfl, Ext.refl _⟩
end Go.Proofs.Ytngbpaiohfokbaa
