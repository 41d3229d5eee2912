/- pieces.Units and pieces.Of, walked. No condition. -/
import Derived.Test.YtngbpaiohfokbaaUnits
import Derived.Deep.Cut
namespace Go.Proofs.Ytngbpaiohfokbaa
open Go Go.RowKit Go.Shelf
set_option linter.unusedVariables false
set_option linter.unusedSimpArgs false
theorem row_cells {w : World} {base : Nat} {e : TypeId} {size n : Nat} {v : Value} {xs : List Value} (h : w.ownsRow base e size v n xs) : ∃ A c, v = .slice A n c ∧ (A = none → c = 0) ∧ Cells w A xs := by
  rcases h.2 with ⟨hv, hn⟩ | ⟨g, cap, cur, hv, _⟩
  · subst hn
    refine ⟨none, 0, hv, fun _ => rfl, .inl ?_⟩
    exact List.eq_nil_of_length_eq_zero (by simpa using h.1)
  · subst hv
    exact ⟨_, _, rfl, (fun h => by cases h), Cells.own h⟩
set_option maxHeartbeats 4000000 in
theorem units_whole (A : Option Addr) (is : List InstrD) (cap : Nat) (way : Int) (hlen : is.length ≤ 1000) (hw : way ≠ 1) (w : World) :
    Calls Try.prog 8 #[.slice A is.length cap, .int .u8 way] w fun e w' => ∃ v, e = .returned v ∧ w'.ownsRow w.heap.size 33 2 v (unitsN (opsOf is) way).length (ucells (unitsN (opsOf is) way)) ∧ Ext w w' := by
  obtain ⟨i0, hi, hz0, hz1, hz2⟩ := info_parts infoUnit
  have hlen' : (opsOf is).length = is.length := by simp [opsOf]
  have HN : Hid (unitsN (opsOf is) way = if 0 < is.length then [(0, is.length)] else []) := Lib.hid (by unfold unitsN; rw [if_neg hw, hlen']; rfl)
  have e0 : (way == 1) = false := beq_eq_false_iff_ne.2 hw
  clear hlen'
  generalize is.length = n at *
  by_cases h0 : 0 < n
  · have HN1 := HN.out
    rw [if_pos h0] at HN1
    have HN2 := Lib.hid HN1
    clear HN HN1
    have e1 : decide ((0 : Int) < (n : Int)) = true := by simp; exact h0
    go_enter Try.func8, Try.ntmps8
    go_upto_region 9 with fail
    have bO : Hid (Blk ((w.alloc (.cells #[.slice none 0 0] 28)).alloc (.cells #[.int .i64 0] 3)) w.heap.size 28 #[.slice none 0 0]) := (Blk.new w _ _).alloc _
    have bF : Hid (Blk ((w.alloc (.cells #[.slice none 0 0] 28)).alloc (.cells #[.int .i64 0] 3)) (w.heap.size + 1) 3 #[.int .i64 0]) := by
      have := Blk.new (w.alloc (.cells #[.slice none 0 0] 28)) 3 #[.int .i64 0]
      rw [World.size_alloc] at this
      exact this
    have HX : Hid (Ext w ((w.alloc (.cells #[.slice none 0 0] 28)).alloc (.cells #[.int .i64 0] 3))) := Ext.trans (Ext.alloc _ _) (Ext.alloc _ _)
    have HG : Hid (w.heap.size < ((w.alloc (.cells #[.slice none 0 0] 28)).alloc (.cells #[.int .i64 0] 3)).heap.size) := Lib.hid (by simp; omega)
    generalize (w.alloc (.cells #[.slice none 0 0] 28)).alloc (.cells #[.int .i64 0] 3) = w1 at *
    have c1 : w1.cell? ⟨w.heap.size, 0, none⟩ = some (.slice none 0 0) := bO.out.cell 0
    have c2 : w1.cell? ⟨w.heap.size + 1, 0, none⟩ = some (.int .i64 0) := bF.out.cell 0
    have hown := World.ownsRow_nil (w1.alloc (.cells #[.int .i64 0, .int .i64 (n : Int)] 33)) w.heap.size 33 2
    go_wp2_with (at_builtin; refine wpList_grow rfl _ _ 28 rfl w.heap.size 33 i0 _ 2 16 Try.underlying28 hi hz0 hz1 hz2 rfl (by decide) _ _ _ rfl hown _ 1 1 [.int .i64 0, .int .i64 (n : Int)] rfl (by simp) rfl ?c1 ?c2 ?c3 ?c4 ?c5 ?_)
    case c1 => exact Cells.new _ 33 #[.int .i64 0, .int .i64 (n : Int)]
    case c2 => first | (intro u hu; simp at hu; rcases hu with rfl | rfl <;> rfl) | exact ⟨rfl, rfl⟩
    case c3 => unfold maxLen; omega
    case c4 => omega
    case c5 => have := HG.out; simp; omega
    intro A' c' w4 hA' hO4 hgrow
    have HO := Lib.hid hO4
    have hext : Ext w1 w4 := Ext.trans (Ext.alloc _ _) ⟨hgrow.os, hgrow.tape, hgrow.output, hgrow.size, fun k hk => hgrow.block k hk (by simp [Value.ownBlock])⟩
    have b4 := bO.out.ext hext
    have HX4 : Hid (Ext w w4) := Ext.trans HX.out hext
    have c4 : w4.cell? ⟨w.heap.size, 0, none⟩ = some (.slice none 0 0) := b4.cell 0
    have f4 : w4.frozen? ⟨w.heap.size, 0, none⟩ = false := b4.frozen 0
    have hne : some w.heap.size ≠ (Value.slice A' (0 + 1) c').ownBlock := fun e => own_differ hO4 b4 (by decide) e.symm
    have HNE := Lib.hid hne
    have b5 := b4.put 0 (.slice A' (0 + 1) c')
    have c5 : (w4.setCell ⟨w.heap.size, 0, none⟩ (.slice A' (0 + 1) c')).cell? ⟨w.heap.size, 0, none⟩ = some (.slice A' (0 + 1) c') := b5.cell 0
    clear hO4 hgrow hext hne b4 b5
    go_wp2_with fail
    go_ret
    refine ⟨_, rfl, ?_, HX4.out.setCell (p := ⟨w.heap.size, 0, none⟩) (Nat.le_refl _) _⟩
    rw [HN2.out]
    exact own_far HO.out (fun e => HNE.out e.symm) _
  · obtain rfl : n = 0 := by omega
    have HN1 := HN.out
    rw [if_neg h0] at HN1
    have HN2 := Lib.hid HN1
    clear HN HN1 h0
    go_enter Try.func8, Try.ntmps8
    go_wp2_with fail
    go_ret
    refine ⟨_, rfl, ?_, Ext.trans (Ext.alloc _ _) (Ext.alloc _ _)⟩
    rw [HN2.out]
    exact World.ownsRow_nil _ _ _ _
theorem units_any (A : Option Addr) (is : List InstrD) (cap : Nat) (way : Int) (hlen : is.length ≤ 1000) (w : World) (hc : Cells w A (icells is)) :
    Calls Try.prog 8 #[.slice A is.length cap, .int .u8 way] w fun e w' => ∃ A' c', e = .returned (.slice A' (unitsN (opsOf is) way).length c') ∧ (A' = none → c' = 0) ∧ Cells w' A' (ucells (unitsN (opsOf is) way)) ∧ Ext w w' := by
  have key : Calls Try.prog 8 #[.slice A is.length cap, .int .u8 way] w fun e w' => ∃ v, e = .returned v ∧ w'.ownsRow w.heap.size 33 2 v (unitsN (opsOf is) way).length (ucells (unitsN (opsOf is) way)) ∧ Ext w w' := by
    by_cases hw : way = 1
    · subst hw
      refine (callsIn_wide (n := 9)).1 ((units_pieces Fence.wide 9 trivial trivial trivial rfl (by omega) A is cap hlen w hc).mono ?_)
      rintro e w' ⟨v, h1, h2, _, h3⟩
      exact ⟨v, h1, h2, h3⟩
    · exact units_whole A is cap way hlen hw w
  refine key.mono ?_
  rintro e w' ⟨v, rfl, h2, h3⟩
  obtain ⟨A', c', rfl, h4, h5⟩ := row_cells h2
  exact ⟨A', c', rfl, h4, h5, h3⟩
def inU (u : Nat × Nat) (x : Int) : Bool := decide ((u.1 : Int) ≤ x) && decide (x < (u.2 : Int))
def ofA (x : Int) : List (Nat × Nat) → Nat → Int
  | [], _ => -1
  | u :: l, k => if inU u x = true then (k : Int) else ofA x l (k + 1)
set_option maxHeartbeats 2000000 in
theorem of1_any (u : Nat × Nat) (x : Int) (r : Bool) (B : Nat) (w : World) (hB : w.cell? ⟨B, 0, none⟩ = some (.int .i64 x)) (hr : Hid (inU u x = r)) :
    Calls Try.prog 23 #[.agg #[.int .i64 (u.1 : Int), .int .i64 (u.2 : Int)], .pointer (some ⟨B, 0, none⟩)] w fun e w' => e = .returned (.bool r) ∧ Ext w w' := by
  obtain ⟨a, b⟩ := u
  have hlt := World.block_lt_of_cell? w _ hB
  have hB2 : (w.alloc (.cells #[.int .i64 (a : Int), .int .i64 (b : Int)] 33)).cell? ⟨B, 0, none⟩ = some (.int .i64 x) := ((Ext.alloc w _).cell (p := ⟨B, 0, none⟩) hlt).trans hB
  have hU := (Blk.new w 33 #[.int .i64 (a : Int), .int .i64 (b : Int)])
  have u0 : (w.alloc (.cells #[.int .i64 (a : Int), .int .i64 (b : Int)] 33)).cell? ⟨w.heap.size, 0, none⟩ = some (.int .i64 (a : Int)) := hU.cell 0
  have u1 : (w.alloc (.cells #[.int .i64 (a : Int), .int .i64 (b : Int)] 33)).cell? ⟨w.heap.size, 1, none⟩ = some (.int .i64 (b : Int)) := hU.cell 1
  have HR := hr.out
  unfold inU at HR
  dsimp only at HR
  dsimp only
  by_cases h1 : (a : Int) ≤ x
  · have e1 : decide ((a : Int) ≤ x) = true := by simpa using h1
    by_cases h2 : x < (b : Int)
    · have e2 : decide (x < (b : Int)) = true := by simpa using h2
      rw [e1, e2] at HR
      subst HR
      go_enter Try.func23, Try.ntmps23
      go_wp2_with fail
      go_ret
      exact ⟨rfl, Ext.alloc _ _⟩
    · have e2 : decide (x < (b : Int)) = false := by simpa using h2
      rw [e1, e2] at HR
      subst HR
      go_enter Try.func23, Try.ntmps23
      go_wp2_with fail
      go_ret
      exact ⟨rfl, Ext.alloc _ _⟩
  · have e1 : decide ((a : Int) ≤ x) = false := by simpa using h1
    rw [e1] at HR
    subst HR
    go_enter Try.func23, Try.ntmps23
    go_wp2_with fail
    go_ret
    exact ⟨rfl, Ext.alloc _ _⟩
theorem ucells_at (l : List (Nat × Nat)) (k : Nat) (h : k < l.length) : (ucells l)[k * 2]? = some (.int .i64 ((l[k]).1 : Int)) ∧ (ucells l)[k * 2 + 1]? = some (.int .i64 ((l[k]).2 : Int)) :=
  ⟨flat_at (fun u : Nat × Nat => [Value.int .i64 (u.1 : Int), .int .i64 (u.2 : Int)]) 2 (fun _ => rfl) l k 0 h (by omega), flat_at (fun u : Nat × Nat => [Value.int .i64 (u.1 : Int), .int .i64 (u.2 : Int)]) 2 (fun _ => rfl) l k 1 h (by omega)⟩
set_option maxHeartbeats 4000000 in
theorem index_any (A : Option Addr) (us : List (Nat × Nat)) (c : Nat) (x : Int) (B : Nat) (hlen : us.length ≤ 2000) (w : World) (hc : Cells w A (ucells us)) (hB : w.cell? ⟨B, 0, none⟩ = some (.int .i64 x)) :
    Calls Try.prog 22 #[.slice A us.length c, .func (.func 23) #[] #[.pointer (some ⟨B, 0, none⟩)]] w fun e w' => e = .returned (.int .i64 (ofA x us 0)) ∧ Ext w w' := by
  have HC := Lib.hid hc
  have HB := Lib.hid hB
  have hBl := World.block_lt_of_cell? w _ hB
  clear hc hB
  go_enter Try.func22, Try.ntmps22
  go_wp2_with fail
  go_loopw [8] (fun i wr => ∃ k : Nat, k ≤ us.length ∧ i = .int .i64 k ∧ Hid (ofA x us 0 = ofA x (us.drop k) k) ∧ Hid (Ext w wr)) (fun i _ => us.length - (intOf i).toNat)
  case atStart => exact ⟨0, Nat.zero_le _, rfl, rfl, Ext.refl _⟩
  case round =>
    obtain ⟨k, hk, rfl, HO, HX⟩ := hrel
    obtain ⟨wa, rfl⟩ : ∃ wa : World, wa = wr := ⟨_, rfl⟩
    by_cases hlt : k < us.length
    · obtain ⟨b, off, rfl, hb, hcc⟩ := (HC.out.ext HX.out).at_ (by rw [ucells_len]; omega)
      obtain ⟨t1, t2⟩ := ucells_at us k hlt
      have c1 : wa.cell? ⟨b, off + k * 2, none⟩ = some (.int .i64 ((us[k]).1 : Int)) := (hcc _ (by rw [ucells_len]; omega)).trans t1
      have c2 : wa.cell? ⟨b, off + k * 2 + 1, none⟩ = some (.int .i64 ((us[k]).2 : Int)) := by rw [Nat.add_assoc]; exact (hcc _ (by rw [ucells_len]; omega)).trans t2
      have hdr := List.drop_eq_getElem_cons hlt
      have HB' := Lib.hid ((HX.out.cell (p := ⟨B, 0, none⟩) hBl).trans HB.out)
      generalize us[k] = u at *
      have hof : ofA x us 0 = if inU u x = true then (k : Int) else ofA x (us.drop (k + 1)) (k + 1) := by rw [HO.out, hdr]; rfl
      have HOF := Lib.hid hof
      clear hof hdr t1 t2 hcc HO
      obtain ⟨r, HR⟩ : ∃ r, Hid (inU u x = r) := ⟨_, Lib.hid rfl⟩
      go_wp2_with fail
      refine (of1_any u x r B _ HB'.out HR).mono ?_
      rintro e w3 ⟨rfl, hx3⟩
      have HX3 : Hid (Ext w w3) := Ext.trans HX.out hx3
      clear hx3 HB' c1 c2
      cases r with
      | true =>
        have hre := HOF.out
        rw [if_pos HR.out] at hre
        have HRE := Lib.hid hre
        clear hre HOF HR
        go_wp2_with fail
        go_ret
        exact ⟨by rw [HRE.out]; rfl, HX3.out⟩
      | false =>
        have hre := HOF.out
        rw [if_neg (by rw [HR.out]; decide)] at hre
        have HRE := Lib.hid hre
        clear hre HOF HR
        go_wp2_with fail
        go_roundw
        case rel => exact ⟨k + 1, by omega, by go_num, HRE, HX3⟩
        case measure => simp [intOf]; omega
    · obtain rfl : k = us.length := by omega
      have hre := HO.out
      rw [List.drop_length] at hre
      have HRE := Lib.hid hre
      clear hre HO
      have e1 : decide ((us.length : Int) < (us.length : Int)) = false := by simp
      go_wp2_with fail
      go_ret
      exact ⟨by rw [HRE.out]; rfl, HX.out⟩
set_option maxHeartbeats 2000000 in
theorem ofP_any (A : Option Addr) (is : List InstrD) (cap : Nat) (way x : Int) (hlen : is.length ≤ 1000) (w : World) (hc : Cells w A (icells is)) (hul : (unitsN (opsOf is) way).length ≤ 2000) :
    Calls Try.prog 10 #[.slice A is.length cap, .int .u8 way, .int .i64 x] w fun e w' => e = .returned (.int .i64 (ofA x (unitsN (opsOf is) way) 0)) ∧ Ext w w' := by
  have HC := Lib.hid hc
  clear hc
  go_enter Try.func10, Try.ntmps10
  go_wp2_with fail
  have HB : Hid ((w.alloc (.cells #[.int .i64 x] 3)).cell? ⟨w.heap.size, 0, none⟩ = some (.int .i64 x)) := Lib.hid ((Blk.new w 3 #[.int .i64 x]).cell 0)
  refine (units_any A is cap way hlen _ (HC.out.ext (Ext.alloc _ _))).mono ?_
  rintro e w1 ⟨A', c', rfl, hz, hcu, hx⟩
  have HCU := Lib.hid hcu
  have HX := Lib.hid hx
  have HZ := Lib.hid hz
  clear hcu hx hz
  go_wp2_with fail
  refine (index_any A' (unitsN (opsOf is) way) c' x w.heap.size hul w1 HCU.out ((HX.out.cell (p := ⟨w.heap.size, 0, none⟩) (by simp)).trans HB.out)).mono ?_
  rintro e w2 ⟨rfl, hx2⟩
  have HX2 : Hid (Ext w w2) := Ext.trans (Ext.alloc _ _) (Ext.trans HX.out hx2)
  clear hx2
  go_wp2_with fail
  go_ret
  exact ⟨rfl, HX2.out⟩
end Go.Proofs.Ytngbpaiohfokbaa
