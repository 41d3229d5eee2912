/- PiecesKnown, walked. No condition. -/
import Derived.Test.YthofccoefiogiaaAnyB
namespace Go.Proofs.Ythofccoefiogiaa
open Go Go.RowKit
set_option linter.unusedVariables false
set_option linter.unusedSimpArgs false
theorem known_more {is : List InstrD} (h : (∀ x ∈ is, bareI x) ∧ ∀ x ∈ is, x.ok) (y : InstrD) (hb : bareI y) (hk : y.ok) : (∀ x ∈ is ++ [y], bareI x) ∧ ∀ x ∈ is ++ [y], x.ok := by
  refine ⟨fun x hx => ?_, fun x hx => ?_⟩
  · rcases List.mem_append.1 hx with h1 | h1
    · exact h.1 x h1
    · have := List.mem_singleton.1 h1; subst this; exact hb
  · rcases List.mem_append.1 hx with h1 | h1
    · exact h.2 x h1
    · have := List.mem_singleton.1 h1; subst this; exact hk
theorem cells_take {w : World} {A : Option Addr} {cs : List Value} (h : Cells w A cs) (k : Nat) : Cells w A (cs.take k) := by
  rcases h with h | ⟨b, off, h1, h2, h3⟩
  · subst h; exact .inl (by simp)
  · refine .inr ⟨b, off, h1, h2, fun j hj => ?_⟩
    rw [List.length_take] at hj
    rw [h3 j (by omega), List.getElem?_take]
    rw [if_pos (by omega)]
theorem row5 {w : World} {base : Nat} {e : TypeId} {size : Nat} {A : Option Addr} {c : Nat} {is : List InstrD} (h : w.ownsRow base e size (.slice A 5 c) 5 (icells is)) (hl : is.length = 5) : w.ownsRow base e size (.slice A 5 c) 5 (icells is) := h
theorem cover5 (A : Option Addr) (is : List InstrD) (c : Nat) (way : Int) (w : World) (hl : is.length = 5) (hc : Cells w A (icells is)) :
    Calls Try.prog 5 #[.slice A 5 c, .int .u8 way] w fun e w' => e = .returned (.bool true) ∧ Ext w w' := by
  have h := cover_any A is c way w hc
  rw [hl] at h
  exact h
set_option maxHeartbeats 8000000 in
set_option maxRecDepth 4000 in
theorem known_any (w : World) : Calls Try.prog 6 #[] w fun e w' => e = .returned (.bool true) ∧ Ext w w' := by
  obtain ⟨j0, hj, hjz0, hjz1, hjz2⟩ := info_parts infoInstr
  go_enter Try.func6, Try.ntmps6
  go_wp2_with fail
  go_loopw [1] (fun i wr => ∃ M : Nat, M ≤ 1024 ∧ i = .int .i64 M ∧ Hid (Ext w wr)) (fun i _ => 1024 - (intOf i).toNat)
  case atStart => exact ⟨0, by omega, rfl, Ext.refl _⟩
  case round =>
    obtain ⟨M, hM, rfl, HX⟩ := hrel
    obtain ⟨wa, rfl⟩ : ∃ wa : World, wa = wr := ⟨_, rfl⟩
    by_cases hlt : M < 1024
    · have d0 : decide ((M : Int) < 1024) = true := decide_eq_true (by omega)
      go_wp2_with fail
      go_loopw [2, 3] (fun out i w2 => ∃ (k : Nat) (A' : Option Addr) (c' : Nat) (is : List InstrD), k ≤ 5 ∧ i = .int .i64 k ∧ is.length = k ∧ out = .slice A' k c' ∧ (A' = none → c' = 0) ∧ Hid (w2.ownsRow w.heap.size 50 13 (.slice A' k c') k (icells is)) ∧ Hid ((∀ x ∈ is, bareI x) ∧ ∀ x ∈ is, x.ok) ∧ Hid (Ext w w2)) (fun _ i _ => 5 - (intOf i).toNat)
      case atStart => exact ⟨0, none, 0, [], by omega, rfl, rfl, rfl, fun _ => rfl, World.ownsRow_nil _ _ _ _, ⟨by simp, by simp⟩, HX⟩
      case round =>
        obtain ⟨k, A', c', is, hk, rfl, hil, rfl, hz, HO, HIS, HX2⟩ := hrel
        obtain ⟨wb, rfl⟩ : ∃ wb : World, wb = wr := ⟨_, rfl⟩
        by_cases hk5 : k < 5
        · have d1 : decide ((k : Int) < 5) = true := decide_eq_true (by omega)
          go_upto_region 10 with fail
          generalize bits BinOp.and IntKind.i64 ((M : Int) / 2 ^ (2 * k)) 3 = z at *
          by_cases z1 : z = 1
          · have e1 : (z == 1) = true := by simp [z1]
            have hr6 : 0 ≤ ((M : Int) + (k : Int)) % 6 ∧ ((M : Int) + (k : Int)) % 6 < 6 := by omega
            subst z1
            have hown := (HO.out.alloc (.cells #[.int .u8 10, .int .i64 0, .int .u8 0, .int .i64 0, .bool false, .int .i64 0, .int .i64 0, .int .i64 (((M : Int) + (k : Int)) % 6), .bool false, .int .i64 0, .int .i64 0, .slice none 0 0, .slice none 0 0] 50)).alloc (.cells #[.int .u8 10, .int .i64 0, .int .u8 0, .int .i64 0, .bool false, .int .i64 0, .int .i64 0, .int .i64 (((M : Int) + (k : Int)) % 6), .bool false, .int .i64 0, .int .i64 0, .slice none 0 0, .slice none 0 0] 50)
            have HXA : Hid (Ext w ((wb.alloc (.cells #[.int .u8 10, .int .i64 0, .int .u8 0, .int .i64 0, .bool false, .int .i64 0, .int .i64 0, .int .i64 (((M : Int) + (k : Int)) % 6), .bool false, .int .i64 0, .int .i64 0, .slice none 0 0, .slice none 0 0] 50)).alloc (.cells #[.int .u8 10, .int .i64 0, .int .u8 0, .int .i64 0, .bool false, .int .i64 0, .int .i64 0, .int .i64 (((M : Int) + (k : Int)) % 6), .bool false, .int .i64 0, .int .i64 0, .slice none 0 0, .slice none 0 0] 50))) := Ext.trans HX2.out (Ext.trans (Ext.alloc _ _) (Ext.alloc _ _))
            go_wp2_with (at_builtin; refine wpList_grow rfl _ _ 28 rfl w.heap.size 50 j0 _ 13 136 Try.underlying28 hj hjz0 hjz1 hjz2 rfl (by decide) _ _ _ rfl hown _ 1 1 [.int .u8 10, .int .i64 0, .int .u8 0, .int .i64 0, .bool false, .int .i64 0, .int .i64 0, .int .i64 (((M : Int) + (k : Int)) % 6), .bool false, .int .i64 0, .int .i64 0, .slice none 0 0, .slice none 0 0] rfl (by simp) rfl ?c1 ?c2 ?c3 ?c4 HXA.out.size ?_)
            case c1 => exact cells_at' (by simp) (Cells.new _ 50 #[.int .u8 10, .int .i64 0, .int .u8 0, .int .i64 0, .bool false, .int .i64 0, .int .i64 0, .int .i64 (((M : Int) + (k : Int)) % 6), .bool false, .int .i64 0, .int .i64 0, .slice none 0 0, .slice none 0 0])
            case c2 => first | exact ⟨rfl, rfl, rfl, rfl, rfl, rfl, rfl, rfl, rfl, rfl, rfl, rfl, rfl⟩ | (intro u hu; simp only [List.mem_cons, List.not_mem_nil, or_false] at hu; rcases hu with rfl | rfl | rfl | rfl | rfl | rfl | rfl | rfl | rfl | rfl | rfl | rfl | rfl <;> rfl) | (intro u hu; simp at hu; rcases hu with rfl | rfl | rfl | rfl | rfl | rfl <;> rfl) | (simp [Value.oneCell'])
            case c3 => unfold maxLen; omega
            case c4 => omega
            intro A2 c2 w5 z5 hown5 hg5
            have HX5 : Hid (Ext w w5) := Below.grown HXA.out hg5 HXA.out.size (fun k hk => (hown.lt k hk).1)
            have HO5 : Hid (w5.ownsRow w.heap.size 50 13 (.slice A2 (k + 1) c2) (k + 1) (icells (is ++ [⟨10, 0, 0, 0, false, 0, 0, (((M : Int) + (k : Int)) % 6), false, 0, 0, (none, 0, 0), (none, 0, 0)⟩]))) := Lib.hid (by
              have hic : icells (is ++ [⟨10, 0, 0, 0, false, 0, 0, (((M : Int) + (k : Int)) % 6), false, 0, 0, (none, 0, 0), (none, 0, 0)⟩]) = icells is ++ [.int .u8 10, .int .i64 0, .int .u8 0, .int .i64 0, .bool false, .int .i64 0, .int .i64 0, .int .i64 (((M : Int) + (k : Int)) % 6), .bool false, .int .i64 0, .int .i64 0, .slice none 0 0, .slice none 0 0] := by
                unfold icells; rw [List.flatMap_append]; rfl
              rw [hic]
              exact hown5)
            have HIS5 := Lib.hid (known_more HIS.out (⟨10, 0, 0, 0, false, 0, 0, (((M : Int) + (k : Int)) % 6), false, 0, 0, (none, 0, 0), (none, 0, 0)⟩ : InstrD) ⟨rfl, rfl⟩ ⟨by simp only; omega, by simp only; omega⟩)
            clear hown hown5 hg5
            go_wp2_with fail
            exact ⟨⟨k + 1, A2, c2, _, by omega, by go_num, (by rw [List.length_append, hil]; rfl), rfl, z5, HO5, HIS5, HX5⟩, by simp [intOf]; omega⟩
          have e1 : (z == 1) = false := beq_eq_false_iff_ne.2 z1
          by_cases z2 : z = 2
          · subst z2
            have hown := (HO.out.alloc (.cells #[.int .u8 9, .int .i64 0, .int .u8 0, .int .i64 0, .bool false, .int .i64 0, .int .i64 0, .int .i64 0, .bool false, .int .i64 0, .int .i64 0, .slice none 0 0, .slice none 0 0] 50)).alloc (.cells #[.int .u8 9, .int .i64 0, .int .u8 0, .int .i64 0, .bool false, .int .i64 0, .int .i64 0, .int .i64 0, .bool false, .int .i64 0, .int .i64 0, .slice none 0 0, .slice none 0 0] 50)
            have HXA : Hid (Ext w ((wb.alloc (.cells #[.int .u8 9, .int .i64 0, .int .u8 0, .int .i64 0, .bool false, .int .i64 0, .int .i64 0, .int .i64 0, .bool false, .int .i64 0, .int .i64 0, .slice none 0 0, .slice none 0 0] 50)).alloc (.cells #[.int .u8 9, .int .i64 0, .int .u8 0, .int .i64 0, .bool false, .int .i64 0, .int .i64 0, .int .i64 0, .bool false, .int .i64 0, .int .i64 0, .slice none 0 0, .slice none 0 0] 50))) := Ext.trans HX2.out (Ext.trans (Ext.alloc _ _) (Ext.alloc _ _))
            go_wp2_with (at_builtin; refine wpList_grow rfl _ _ 28 rfl w.heap.size 50 j0 _ 13 136 Try.underlying28 hj hjz0 hjz1 hjz2 rfl (by decide) _ _ _ rfl hown _ 1 1 [.int .u8 9, .int .i64 0, .int .u8 0, .int .i64 0, .bool false, .int .i64 0, .int .i64 0, .int .i64 0, .bool false, .int .i64 0, .int .i64 0, .slice none 0 0, .slice none 0 0] rfl (by simp) rfl ?c1 ?c2 ?c3 ?c4 HXA.out.size ?_)
            case c1 => exact cells_at' (by simp) (Cells.new _ 50 #[.int .u8 9, .int .i64 0, .int .u8 0, .int .i64 0, .bool false, .int .i64 0, .int .i64 0, .int .i64 0, .bool false, .int .i64 0, .int .i64 0, .slice none 0 0, .slice none 0 0])
            case c2 => first | exact ⟨rfl, rfl, rfl, rfl, rfl, rfl, rfl, rfl, rfl, rfl, rfl, rfl, rfl⟩ | (intro u hu; simp only [List.mem_cons, List.not_mem_nil, or_false] at hu; rcases hu with rfl | rfl | rfl | rfl | rfl | rfl | rfl | rfl | rfl | rfl | rfl | rfl | rfl <;> rfl) | (intro u hu; simp at hu; rcases hu with rfl | rfl | rfl | rfl | rfl | rfl <;> rfl) | (simp [Value.oneCell'])
            case c3 => unfold maxLen; omega
            case c4 => omega
            intro A2 c2 w5 z5 hown5 hg5
            have HX5 : Hid (Ext w w5) := Below.grown HXA.out hg5 HXA.out.size (fun k hk => (hown.lt k hk).1)
            have HO5 : Hid (w5.ownsRow w.heap.size 50 13 (.slice A2 (k + 1) c2) (k + 1) (icells (is ++ [⟨9, 0, 0, 0, false, 0, 0, 0, false, 0, 0, (none, 0, 0), (none, 0, 0)⟩]))) := Lib.hid (by
              have hic : icells (is ++ [⟨9, 0, 0, 0, false, 0, 0, 0, false, 0, 0, (none, 0, 0), (none, 0, 0)⟩]) = icells is ++ [.int .u8 9, .int .i64 0, .int .u8 0, .int .i64 0, .bool false, .int .i64 0, .int .i64 0, .int .i64 0, .bool false, .int .i64 0, .int .i64 0, .slice none 0 0, .slice none 0 0] := by
                unfold icells; rw [List.flatMap_append]; rfl
              rw [hic]
              exact hown5)
            have HIS5 := Lib.hid (known_more HIS.out (⟨9, 0, 0, 0, false, 0, 0, 0, false, 0, 0, (none, 0, 0), (none, 0, 0)⟩ : InstrD) ⟨rfl, rfl⟩ ⟨by simp only; omega, by simp only; omega⟩)
            clear hown hown5 hg5
            go_wp2_with fail
            exact ⟨⟨k + 1, A2, c2, _, by omega, by go_num, (by rw [List.length_append, hil]; rfl), rfl, z5, HO5, HIS5, HX5⟩, by simp [intOf]; omega⟩
          have e2 : (z == 2) = false := beq_eq_false_iff_ne.2 z2
          by_cases z3 : z = 3
          · subst z3
            have hr7 : 0 ≤ (M : Int) % 7 ∧ (M : Int) % 7 < 7 := by omega
            have hown := (HO.out.alloc (.cells #[.int .u8 13, .int .i64 0, .int .u8 0, .int .i64 0, .bool false, .int .i64 0, .int .i64 (k : Int), .int .i64 ((M : Int) % 7), .bool false, .int .i64 0, .int .i64 0, .slice none 0 0, .slice none 0 0] 50)).alloc (.cells #[.int .u8 13, .int .i64 0, .int .u8 0, .int .i64 0, .bool false, .int .i64 0, .int .i64 (k : Int), .int .i64 ((M : Int) % 7), .bool false, .int .i64 0, .int .i64 0, .slice none 0 0, .slice none 0 0] 50)
            have HXA : Hid (Ext w ((wb.alloc (.cells #[.int .u8 13, .int .i64 0, .int .u8 0, .int .i64 0, .bool false, .int .i64 0, .int .i64 (k : Int), .int .i64 ((M : Int) % 7), .bool false, .int .i64 0, .int .i64 0, .slice none 0 0, .slice none 0 0] 50)).alloc (.cells #[.int .u8 13, .int .i64 0, .int .u8 0, .int .i64 0, .bool false, .int .i64 0, .int .i64 (k : Int), .int .i64 ((M : Int) % 7), .bool false, .int .i64 0, .int .i64 0, .slice none 0 0, .slice none 0 0] 50))) := Ext.trans HX2.out (Ext.trans (Ext.alloc _ _) (Ext.alloc _ _))
            go_wp2_with (at_builtin; refine wpList_grow rfl _ _ 28 rfl w.heap.size 50 j0 _ 13 136 Try.underlying28 hj hjz0 hjz1 hjz2 rfl (by decide) _ _ _ rfl hown _ 1 1 [.int .u8 13, .int .i64 0, .int .u8 0, .int .i64 0, .bool false, .int .i64 0, .int .i64 (k : Int), .int .i64 ((M : Int) % 7), .bool false, .int .i64 0, .int .i64 0, .slice none 0 0, .slice none 0 0] rfl (by simp) rfl ?c1 ?c2 ?c3 ?c4 HXA.out.size ?_)
            case c1 => exact cells_at' (by simp) (Cells.new _ 50 #[.int .u8 13, .int .i64 0, .int .u8 0, .int .i64 0, .bool false, .int .i64 0, .int .i64 (k : Int), .int .i64 ((M : Int) % 7), .bool false, .int .i64 0, .int .i64 0, .slice none 0 0, .slice none 0 0])
            case c2 => first | exact ⟨rfl, rfl, rfl, rfl, rfl, rfl, rfl, rfl, rfl, rfl, rfl, rfl, rfl⟩ | (intro u hu; simp only [List.mem_cons, List.not_mem_nil, or_false] at hu; rcases hu with rfl | rfl | rfl | rfl | rfl | rfl | rfl | rfl | rfl | rfl | rfl | rfl | rfl <;> rfl) | (intro u hu; simp at hu; rcases hu with rfl | rfl | rfl | rfl | rfl | rfl <;> rfl) | (simp [Value.oneCell'])
            case c3 => unfold maxLen; omega
            case c4 => omega
            intro A2 c2 w5 z5 hown5 hg5
            have HX5 : Hid (Ext w w5) := Below.grown HXA.out hg5 HXA.out.size (fun k hk => (hown.lt k hk).1)
            have HO5 : Hid (w5.ownsRow w.heap.size 50 13 (.slice A2 (k + 1) c2) (k + 1) (icells (is ++ [⟨13, 0, 0, 0, false, 0, (k : Int), ((M : Int) % 7), false, 0, 0, (none, 0, 0), (none, 0, 0)⟩]))) := Lib.hid (by
              have hic : icells (is ++ [⟨13, 0, 0, 0, false, 0, (k : Int), ((M : Int) % 7), false, 0, 0, (none, 0, 0), (none, 0, 0)⟩]) = icells is ++ [.int .u8 13, .int .i64 0, .int .u8 0, .int .i64 0, .bool false, .int .i64 0, .int .i64 (k : Int), .int .i64 ((M : Int) % 7), .bool false, .int .i64 0, .int .i64 0, .slice none 0 0, .slice none 0 0] := by
                unfold icells; rw [List.flatMap_append]; rfl
              rw [hic]
              exact hown5)
            have HIS5 := Lib.hid (known_more HIS.out (⟨13, 0, 0, 0, false, 0, (k : Int), ((M : Int) % 7), false, 0, 0, (none, 0, 0), (none, 0, 0)⟩ : InstrD) ⟨rfl, rfl⟩ ⟨by simp only; omega, by simp only; omega⟩)
            clear hown hown5 hg5
            go_wp2_with fail
            exact ⟨⟨k + 1, A2, c2, _, by omega, by go_num, (by rw [List.length_append, hil]; rfl), rfl, z5, HO5, HIS5, HX5⟩, by simp [intOf]; omega⟩
          have e3 : (z == 3) = false := beq_eq_false_iff_ne.2 z3
          have hown := (HO.out.alloc (.cells #[.int .u8 15, .int .i64 0, .int .u8 0, .int .i64 0, .bool false, .int .i64 0, .int .i64 0, .int .i64 0, .bool false, .int .i64 0, .int .i64 0, .slice none 0 0, .slice none 0 0] 50)).alloc (.cells #[.int .u8 15, .int .i64 0, .int .u8 0, .int .i64 0, .bool false, .int .i64 0, .int .i64 0, .int .i64 0, .bool false, .int .i64 0, .int .i64 0, .slice none 0 0, .slice none 0 0] 50)
          have HXA : Hid (Ext w ((wb.alloc (.cells #[.int .u8 15, .int .i64 0, .int .u8 0, .int .i64 0, .bool false, .int .i64 0, .int .i64 0, .int .i64 0, .bool false, .int .i64 0, .int .i64 0, .slice none 0 0, .slice none 0 0] 50)).alloc (.cells #[.int .u8 15, .int .i64 0, .int .u8 0, .int .i64 0, .bool false, .int .i64 0, .int .i64 0, .int .i64 0, .bool false, .int .i64 0, .int .i64 0, .slice none 0 0, .slice none 0 0] 50))) := Ext.trans HX2.out (Ext.trans (Ext.alloc _ _) (Ext.alloc _ _))
          go_wp2_with (at_builtin; refine wpList_grow rfl _ _ 28 rfl w.heap.size 50 j0 _ 13 136 Try.underlying28 hj hjz0 hjz1 hjz2 rfl (by decide) _ _ _ rfl hown _ 1 1 [.int .u8 15, .int .i64 0, .int .u8 0, .int .i64 0, .bool false, .int .i64 0, .int .i64 0, .int .i64 0, .bool false, .int .i64 0, .int .i64 0, .slice none 0 0, .slice none 0 0] rfl (by simp) rfl ?c1 ?c2 ?c3 ?c4 HXA.out.size ?_)
          case c1 => exact cells_at' (by simp) (Cells.new _ 50 #[.int .u8 15, .int .i64 0, .int .u8 0, .int .i64 0, .bool false, .int .i64 0, .int .i64 0, .int .i64 0, .bool false, .int .i64 0, .int .i64 0, .slice none 0 0, .slice none 0 0])
          case c2 => first | exact ⟨rfl, rfl, rfl, rfl, rfl, rfl, rfl, rfl, rfl, rfl, rfl, rfl, rfl⟩ | (intro u hu; simp only [List.mem_cons, List.not_mem_nil, or_false] at hu; rcases hu with rfl | rfl | rfl | rfl | rfl | rfl | rfl | rfl | rfl | rfl | rfl | rfl | rfl <;> rfl) | (intro u hu; simp at hu; rcases hu with rfl | rfl | rfl | rfl | rfl | rfl <;> rfl) | (simp [Value.oneCell'])
          case c3 => unfold maxLen; omega
          case c4 => omega
          intro A2 c2 w5 z5 hown5 hg5
          have HX5 : Hid (Ext w w5) := Below.grown HXA.out hg5 HXA.out.size (fun k hk => (hown.lt k hk).1)
          have HO5 : Hid (w5.ownsRow w.heap.size 50 13 (.slice A2 (k + 1) c2) (k + 1) (icells (is ++ [⟨15, 0, 0, 0, false, 0, 0, 0, false, 0, 0, (none, 0, 0), (none, 0, 0)⟩]))) := Lib.hid (by
            have hic : icells (is ++ [⟨15, 0, 0, 0, false, 0, 0, 0, false, 0, 0, (none, 0, 0), (none, 0, 0)⟩]) = icells is ++ [.int .u8 15, .int .i64 0, .int .u8 0, .int .i64 0, .bool false, .int .i64 0, .int .i64 0, .int .i64 0, .bool false, .int .i64 0, .int .i64 0, .slice none 0 0, .slice none 0 0] := by
              unfold icells; rw [List.flatMap_append]; rfl
            rw [hic]
            exact hown5)
          have HIS5 := Lib.hid (known_more HIS.out (⟨15, 0, 0, 0, false, 0, 0, 0, false, 0, 0, (none, 0, 0), (none, 0, 0)⟩ : InstrD) ⟨rfl, rfl⟩ ⟨by simp only; omega, by simp only; omega⟩)
          clear hown hown5 hg5
          go_wp2_with fail
          exact ⟨⟨k + 1, A2, c2, _, by omega, by go_num, (by rw [List.length_append, hil]; rfl), rfl, z5, HO5, HIS5, HX5⟩, by simp [intOf]; omega⟩
        · obtain rfl : k = 5 := by omega
          have d1 : decide ((5 : Int) < 5) = false := by decide
          go_wp2_with fail
          have HDC : Hid (Cells (wb.alloc (.cells #[.int .i64 ((M : Int) % 5), .int .i64 ((M : Int) / 5 % 5), .int .i64 ((M : Int) % 5), .int .i64 (-1)] 3)) (some ⟨wb.heap.size, 0, none⟩) (ncells ([(M : Int) % 5, (M : Int) / 5 % 5, (M : Int) % 5, -1].take (M % 5)))) := Lib.hid (by
            have := cells_take (Cells.new wb 3 #[.int .i64 ((M : Int) % 5), .int .i64 ((M : Int) / 5 % 5), .int .i64 ((M : Int) % 5), .int .i64 (-1)]) (M % 5)
            unfold ncells
            rw [List.map_take]
            exact this)
          have hoA := HO.out.alloc (.cells #[.int .i64 ((M : Int) % 5), .int .i64 ((M : Int) / 5 % 5), .int .i64 ((M : Int) % 5), .int .i64 (-1)] 3)
          have HXA : Hid (Ext w (wb.alloc (.cells #[.int .i64 ((M : Int) % 5), .int .i64 ((M : Int) / 5 % 5), .int .i64 ((M : Int) % 5), .int .i64 (-1)] 3))) := Ext.trans HX2.out (Ext.alloc _ _)
          have HCA := Lib.hid (Cells.own (row5 hoA hil))
          clear hoA
          refine (any_bare A' _ is _ 5 _ c' 4 ((M : Int) % 3) _ hil.symm (by rw [List.length_take]; simp; omega) (by omega) (by rw [List.length_take]; simp; omega) HCA.out HDC.out HIS.out.1 HIS.out.2).mono ?_
          rintro e w6 ⟨rfl, hx6⟩
          have HC6 := Lib.hid (HCA.out.ext hx6)
          have HX6 : Hid (Ext w w6) := Ext.trans HXA.out hx6
          clear hx6
          go_wp2_with fail
          refine (cover5 A' is c' ((M : Int) % 3) w6 hil HC6.out).mono ?_
          rintro e w7 ⟨rfl, hx7⟩
          have HX7 : Hid (Ext w w7) := Ext.trans HX6.out hx7
          clear hx7
          go_wp2_with fail
          exact ⟨⟨M + 1, by omega, by go_num, HX7⟩, by simp [intOf]; omega⟩
    · obtain rfl : M = 1024 := by omega
      have d0 : decide ((1024 : Int) < 1024) = false := by decide
      go_wp2_with fail
      refine (any_bare none _ [] [0] 0 1 0 1 1 _ rfl rfl (by decide) (by decide) (.inl rfl) (Cells.new _ 3 #[.int .i64 0]) (by simp) (by simp)).mono ?_
      rintro e w6 ⟨rfl, hx6⟩
      have HX6 : Hid (Ext w w6) := Ext.trans HX.out (Ext.trans (Ext.alloc _ _) hx6)
      clear hx6
      go_wp2_with fail
      refine (cover_any none [] 0 1 w6 (.inl rfl)).mono ?_
      rintro e w7 ⟨rfl, hx7⟩
      have HX7 : Hid (Ext w w7) := Ext.trans HX6.out hx7
      clear hx7
      go_wp2_with fail
      have HI2 : Hid (Cells ((w7.alloc (.cells #[.int .u8 15, .int .i64 0, .int .u8 0, .int .i64 0, .bool false, .int .i64 0, .int .i64 0, .int .i64 4611686018427387904, .bool false, .int .i64 0, .int .i64 0, .slice none 0 0, .slice none 0 0, .int .u8 16, .int .i64 0, .int .u8 0, .int .i64 0, .bool false, .int .i64 0, .int .i64 0, .int .i64 (-9223372036854775808), .bool false, .int .i64 0, .int .i64 0, .slice none 0 0, .slice none 0 0] 50)).alloc (.cells #[.int .i64 0, .int .i64 4611686018427387904] 3)) (some ⟨w7.heap.size, 0, none⟩) (icells [(⟨15, 0, 0, 0, false, 0, 0, 4611686018427387904, false, 0, 0, (none, 0, 0), (none, 0, 0)⟩ : InstrD), ⟨16, 0, 0, 0, false, 0, 0, -9223372036854775808, false, 0, 0, (none, 0, 0), (none, 0, 0)⟩])) := Lib.hid (by
        have h2 : icells [(⟨15, 0, 0, 0, false, 0, 0, 4611686018427387904, false, 0, 0, (none, 0, 0), (none, 0, 0)⟩ : InstrD), ⟨16, 0, 0, 0, false, 0, 0, -9223372036854775808, false, 0, 0, (none, 0, 0), (none, 0, 0)⟩] = (#[.int .u8 15, .int .i64 0, .int .u8 0, .int .i64 0, .bool false, .int .i64 0, .int .i64 0, .int .i64 4611686018427387904, .bool false, .int .i64 0, .int .i64 0, .slice none 0 0, .slice none 0 0, .int .u8 16, .int .i64 0, .int .u8 0, .int .i64 0, .bool false, .int .i64 0, .int .i64 0, .int .i64 (-9223372036854775808), .bool false, .int .i64 0, .int .i64 0, .slice none 0 0, .slice none 0 0] : Array Value).toList := rfl
        rw [h2]
        exact (Cells.new w7 50 _).ext (Ext.alloc _ _))
      have HD2 : Hid (Cells ((w7.alloc (.cells #[.int .u8 15, .int .i64 0, .int .u8 0, .int .i64 0, .bool false, .int .i64 0, .int .i64 0, .int .i64 4611686018427387904, .bool false, .int .i64 0, .int .i64 0, .slice none 0 0, .slice none 0 0, .int .u8 16, .int .i64 0, .int .u8 0, .int .i64 0, .bool false, .int .i64 0, .int .i64 0, .int .i64 (-9223372036854775808), .bool false, .int .i64 0, .int .i64 0, .slice none 0 0, .slice none 0 0] 50)).alloc (.cells #[.int .i64 0, .int .i64 4611686018427387904] 3)) (some ⟨w7.heap.size + 1, 0, none⟩) (ncells [0, 4611686018427387904])) := Lib.hid (by
        have := Cells.new (w7.alloc (.cells #[.int .u8 15, .int .i64 0, .int .u8 0, .int .i64 0, .bool false, .int .i64 0, .int .i64 0, .int .i64 4611686018427387904, .bool false, .int .i64 0, .int .i64 0, .slice none 0 0, .slice none 0 0, .int .u8 16, .int .i64 0, .int .u8 0, .int .i64 0, .bool false, .int .i64 0, .int .i64 0, .int .i64 (-9223372036854775808), .bool false, .int .i64 0, .int .i64 0, .slice none 0 0, .slice none 0 0] 50)) 3 #[.int .i64 0, .int .i64 4611686018427387904]
        rw [World.size_alloc] at this
        exact this)
      refine (any_bare _ _ [(⟨15, 0, 0, 0, false, 0, 0, 4611686018427387904, false, 0, 0, (none, 0, 0), (none, 0, 0)⟩ : InstrD), ⟨16, 0, 0, 0, false, 0, 0, -9223372036854775808, false, 0, 0, (none, 0, 0), (none, 0, 0)⟩] [0, 4611686018427387904] 2 2 2 2 1 _ rfl rfl (by decide) (by decide) HI2.out HD2.out ?hb ?ho).mono ?_
      case hb => intro x hx; simp only [List.mem_cons, List.not_mem_nil, or_false] at hx; rcases hx with rfl | rfl <;> exact ⟨rfl, rfl⟩
      case ho => intro x hx; simp only [List.mem_cons, List.not_mem_nil, or_false] at hx; rcases hx with rfl | rfl <;> exact ⟨by decide, by decide⟩
      rintro e w8 ⟨rfl, hx8⟩
      have HX8 : Hid (Ext w w8) := Ext.trans HX7.out (Ext.trans (Ext.trans (Ext.alloc _ _) (Ext.alloc _ _)) hx8)
      clear hx8
      go_wp2_with fail
      refine (works10 _).mono ?_
      rintro e w9 ⟨rfl, hx9⟩
      have HX9 : Hid (Ext w w9) := Ext.trans HX8.out hx9
      clear hx9
      go_wp2_with fail
      go_ret
      exact ⟨rfl, HX9.out⟩
end Go.Proofs.Ythofccoefiogiaa
