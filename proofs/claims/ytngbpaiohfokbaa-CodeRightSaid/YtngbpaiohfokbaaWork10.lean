/- The chapter's examples of the pieces (interlocklaw10.works), walked. -/
import Derived.Test.YtngbpaiohfokbaaWithout
namespace Go.Proofs.Ytngbpaiohfokbaa
open Go Go.RowKit
set_option linter.unusedVariables false
set_option linter.unusedSimpArgs false
def insI (op : Int) : InstrD := ⟨op, 0, 0, 0, false, 0, 0, 0, false, 0, 0, (none, 0, 0), (none, 0, 0)⟩
theorem insI_ok (op : Int) (h : 0 ≤ op ∧ op < 256) : (insI op).ok := ⟨h, by show (-9223372036854775808 : Int) ≤ 0 ∧ (0 : Int) ≤ 9223372036854775807; decide⟩
theorem units_v (A : Option Addr) (is : List InstrD) (n cap : Nat) (way : Int) (us : List (Nat × Nat)) (w : World) (hn : n = is.length) (hlen : is.length ≤ 1000) (hc : Cells w A (icells is)) (h : Hid (unitsN (opsOf is) way = us)) :
    Calls Try.prog 8 #[.slice A n cap, .int .u8 way] w fun e w' => ∃ A' c', e = .returned (.slice A' us.length c') ∧ (A' = none → c' = 0) ∧ Cells w' A' (ucells us) ∧ Ext w w' := by
  subst hn
  rw [← h.out]
  exact units_any A is cap way hlen w hc
theorem without_v (A D : Option Addr) (is : List InstrD) (ds : List Int) (n m cap dc : Nat) (w : World) (hn : n = is.length) (hm : m = ds.length) (hlen : is.length ≤ 1000) (hdl : ds.length ≤ 1000) (hc : Cells w A (icells is)) (hd : Cells w D (ncells ds)) (hbare : ∀ x ∈ is, bareI x) (hok : ∀ x ∈ is, x.ok) (out : List InstrD) (ho : Hid (outTo (goneOf ds (pairsTo (opsOf is) is.length)) is is.length = out)) :
    Calls Try.prog 13 #[.slice A n cap, .slice D m dc] w fun e w' => ∃ A' c', e = .returned (.slice A' out.length c') ∧ (A' = none → c' = 0) ∧ Cells w' A' (icells out) ∧ Ext w w' := by
  subst hn hm
  exact without_any A D is ds cap dc hlen hdl w hc hd hbare hok out ho
set_option maxHeartbeats 8000000 in
set_option maxRecDepth 4000 in
theorem works10 (w : World) : Calls Try.prog 6 #[] w fun e w' => e = .returned (.bool true) ∧ Ext w w' := by
  go_enter Try.func6, Try.ntmps6
  go_upto_region 2 with fail
  have HI : Hid (Cells (w.alloc (.cells #[.int .u8 9, .int .i64 0, .int .u8 0, .int .i64 0, .bool false, .int .i64 0, .int .i64 0, .int .i64 0, .bool false, .int .i64 0, .int .i64 0, .slice none 0 0, .slice none 0 0, .int .u8 15, .int .i64 0, .int .u8 0, .int .i64 0, .bool false, .int .i64 0, .int .i64 0, .int .i64 0, .bool false, .int .i64 0, .int .i64 0, .slice none 0 0, .slice none 0 0, .int .u8 9, .int .i64 0, .int .u8 0, .int .i64 0, .bool false, .int .i64 0, .int .i64 0, .int .i64 0, .bool false, .int .i64 0, .int .i64 0, .slice none 0 0, .slice none 0 0, .int .u8 16, .int .i64 0, .int .u8 0, .int .i64 0, .bool false, .int .i64 0, .int .i64 0, .int .i64 0, .bool false, .int .i64 0, .int .i64 0, .slice none 0 0, .slice none 0 0] 49)) (some ⟨w.heap.size, 0, none⟩) (icells [insI 9, insI 15, insI 9, insI 16])) := Lib.hid (by
    have h4 : icells [insI 9, insI 15, insI 9, insI 16] = (#[.int .u8 9, .int .i64 0, .int .u8 0, .int .i64 0, .bool false, .int .i64 0, .int .i64 0, .int .i64 0, .bool false, .int .i64 0, .int .i64 0, .slice none 0 0, .slice none 0 0, .int .u8 15, .int .i64 0, .int .u8 0, .int .i64 0, .bool false, .int .i64 0, .int .i64 0, .int .i64 0, .bool false, .int .i64 0, .int .i64 0, .slice none 0 0, .slice none 0 0, .int .u8 9, .int .i64 0, .int .u8 0, .int .i64 0, .bool false, .int .i64 0, .int .i64 0, .int .i64 0, .bool false, .int .i64 0, .int .i64 0, .slice none 0 0, .slice none 0 0, .int .u8 16, .int .i64 0, .int .u8 0, .int .i64 0, .bool false, .int .i64 0, .int .i64 0, .int .i64 0, .bool false, .int .i64 0, .int .i64 0, .slice none 0 0, .slice none 0 0] : Array Value).toList := rfl
    rw [h4]
    exact Cells.new w 49 _)
  have HX0 : Hid (Ext w (w.alloc (.cells #[.int .u8 9, .int .i64 0, .int .u8 0, .int .i64 0, .bool false, .int .i64 0, .int .i64 0, .int .i64 0, .bool false, .int .i64 0, .int .i64 0, .slice none 0 0, .slice none 0 0, .int .u8 15, .int .i64 0, .int .u8 0, .int .i64 0, .bool false, .int .i64 0, .int .i64 0, .int .i64 0, .bool false, .int .i64 0, .int .i64 0, .slice none 0 0, .slice none 0 0, .int .u8 9, .int .i64 0, .int .u8 0, .int .i64 0, .bool false, .int .i64 0, .int .i64 0, .int .i64 0, .bool false, .int .i64 0, .int .i64 0, .slice none 0 0, .slice none 0 0, .int .u8 16, .int .i64 0, .int .u8 0, .int .i64 0, .bool false, .int .i64 0, .int .i64 0, .int .i64 0, .bool false, .int .i64 0, .int .i64 0, .slice none 0 0, .slice none 0 0] 49))) := Ext.alloc _ _
  generalize w.alloc (.cells #[.int .u8 9, .int .i64 0, .int .u8 0, .int .i64 0, .bool false, .int .i64 0, .int .i64 0, .int .i64 0, .bool false, .int .i64 0, .int .i64 0, .slice none 0 0, .slice none 0 0, .int .u8 15, .int .i64 0, .int .u8 0, .int .i64 0, .bool false, .int .i64 0, .int .i64 0, .int .i64 0, .bool false, .int .i64 0, .int .i64 0, .slice none 0 0, .slice none 0 0, .int .u8 9, .int .i64 0, .int .u8 0, .int .i64 0, .bool false, .int .i64 0, .int .i64 0, .int .i64 0, .bool false, .int .i64 0, .int .i64 0, .slice none 0 0, .slice none 0 0, .int .u8 16, .int .i64 0, .int .u8 0, .int .i64 0, .bool false, .int .i64 0, .int .i64 0, .int .i64 0, .bool false, .int .i64 0, .int .i64 0, .slice none 0 0, .slice none 0 0] 49) = w0 at *
  generalize w.heap.size = g at *
  go_wp2_with fail
  refine (units_v _ [insI 9, insI 15, insI 9, insI 16] _ _ 0 [(0, 4)] _ rfl (by decide) HI.out (Lib.hid (by decide +kernel))).mono ?_
  rintro e w1 ⟨A1, k1, rfl, _, hc1, hx1⟩
  have HC1 := Lib.hid hc1
  have HX1 := Lib.hid hx1
  have HI1 := Lib.hid (HI.out.ext hx1)
  clear hc1 hx1 HI
  go_wp2_with fail
  refine (units_v _ [insI 9, insI 15, insI 9, insI 16] _ _ 1 [(0, 2), (2, 4)] _ rfl (by decide) HI1.out (Lib.hid (by decide +kernel))).mono ?_
  rintro e w2 ⟨A2, k2, rfl, _, hc2, hx2⟩
  have HC2 := Lib.hid hc2
  have HX2 : Hid (Ext w w2) := Ext.trans HX0.out (Ext.trans HX1.out hx2)
  have HC1b := Lib.hid (HC1.out.ext hx2)
  clear hc2 hx2 HI1 HC1 HX1 HX0
  go_wp2_with fail
  have HI2 : Hid (Cells ((w2.alloc (.cells #[.int .u8 15, .int .i64 0, .int .u8 0, .int .i64 0, .bool false, .int .i64 0, .int .i64 0, .int .i64 0, .bool false, .int .i64 0, .int .i64 0, .slice none 0 0, .slice none 0 0, .int .u8 16, .int .i64 0, .int .u8 0, .int .i64 0, .bool false, .int .i64 0, .int .i64 0, .int .i64 0, .bool false, .int .i64 0, .int .i64 0, .slice none 0 0, .slice none 0 0] 49)).alloc (.cells #[.int .i64 0] 3)) (some ⟨w2.heap.size, 0, none⟩) (icells [insI 15, insI 16])) := Lib.hid (by
    have h2 : icells [insI 15, insI 16] = (#[.int .u8 15, .int .i64 0, .int .u8 0, .int .i64 0, .bool false, .int .i64 0, .int .i64 0, .int .i64 0, .bool false, .int .i64 0, .int .i64 0, .slice none 0 0, .slice none 0 0, .int .u8 16, .int .i64 0, .int .u8 0, .int .i64 0, .bool false, .int .i64 0, .int .i64 0, .int .i64 0, .bool false, .int .i64 0, .int .i64 0, .slice none 0 0, .slice none 0 0] : Array Value).toList := rfl
    rw [h2]
    exact (Cells.new w2 49 _).ext (Ext.alloc _ _))
  have HD : Hid (Cells ((w2.alloc (.cells #[.int .u8 15, .int .i64 0, .int .u8 0, .int .i64 0, .bool false, .int .i64 0, .int .i64 0, .int .i64 0, .bool false, .int .i64 0, .int .i64 0, .slice none 0 0, .slice none 0 0, .int .u8 16, .int .i64 0, .int .u8 0, .int .i64 0, .bool false, .int .i64 0, .int .i64 0, .int .i64 0, .bool false, .int .i64 0, .int .i64 0, .slice none 0 0, .slice none 0 0] 49)).alloc (.cells #[.int .i64 0] 3)) (some ⟨w2.heap.size + 1, 0, none⟩) (ncells [0])) := Lib.hid (by
    have := Cells.new (w2.alloc (.cells #[.int .u8 15, .int .i64 0, .int .u8 0, .int .i64 0, .bool false, .int .i64 0, .int .i64 0, .int .i64 0, .bool false, .int .i64 0, .int .i64 0, .slice none 0 0, .slice none 0 0, .int .u8 16, .int .i64 0, .int .u8 0, .int .i64 0, .bool false, .int .i64 0, .int .i64 0, .int .i64 0, .bool false, .int .i64 0, .int .i64 0, .slice none 0 0, .slice none 0 0] 49)) 3 #[.int .i64 0]
    rw [World.size_alloc] at this
    exact this)
  have HX3 : Hid (Ext w2 ((w2.alloc (.cells #[.int .u8 15, .int .i64 0, .int .u8 0, .int .i64 0, .bool false, .int .i64 0, .int .i64 0, .int .i64 0, .bool false, .int .i64 0, .int .i64 0, .slice none 0 0, .slice none 0 0, .int .u8 16, .int .i64 0, .int .u8 0, .int .i64 0, .bool false, .int .i64 0, .int .i64 0, .int .i64 0, .bool false, .int .i64 0, .int .i64 0, .slice none 0 0, .slice none 0 0] 49)).alloc (.cells #[.int .i64 0] 3))) := Ext.trans (Ext.alloc _ _) (Ext.alloc _ _)
  generalize (w2.alloc (.cells #[.int .u8 15, .int .i64 0, .int .u8 0, .int .i64 0, .bool false, .int .i64 0, .int .i64 0, .int .i64 0, .bool false, .int .i64 0, .int .i64 0, .slice none 0 0, .slice none 0 0, .int .u8 16, .int .i64 0, .int .u8 0, .int .i64 0, .bool false, .int .i64 0, .int .i64 0, .int .i64 0, .bool false, .int .i64 0, .int .i64 0, .slice none 0 0, .slice none 0 0] 49)).alloc (.cells #[.int .i64 0] 3) = w3 at *
  generalize w2.heap.size = g2 at *
  refine (without_v _ _ [insI 15, insI 16] [0] _ _ _ _ _ rfl rfl (by decide) (by decide) HI2.out HD.out ?hb ?ho [insI 16] (Lib.hid rfl)).mono ?_
  case hb => intro x hx; simp only [List.mem_cons, List.not_mem_nil, or_false] at hx; rcases hx with rfl | rfl <;> exact ⟨rfl, rfl⟩
  case ho => intro x hx; simp only [List.mem_cons, List.not_mem_nil, or_false] at hx; rcases hx with rfl | rfl <;> exact insI_ok _ (by decide)
  rintro e w4 ⟨A4, k4, rfl, _, hc4, hx4⟩
  have HC4 := Lib.hid hc4
  have HX4 : Hid (Ext w2 w4) := Ext.trans HX3.out hx4
  have HXW : Hid (Ext w w4) := Ext.trans HX2.out HX4.out
  obtain ⟨b1, o1, rfl, _, q1⟩ := (HC1b.out.ext HX4.out).at_ (by decide)
  obtain ⟨b2, o2, rfl, _, q2⟩ := (HC2.out.ext HX4.out).at_ (by decide)
  have u0 : w4.cell? ⟨b1, o1, none⟩ = some (.int .i64 0) := q1 0 (by decide)
  have u1 : w4.cell? ⟨b1, o1 + 1, none⟩ = some (.int .i64 4) := q1 1 (by decide)
  have v0 : w4.cell? ⟨b2, o2, none⟩ = some (.int .i64 0) := q2 0 (by decide)
  have v1 : w4.cell? ⟨b2, o2 + 1, none⟩ = some (.int .i64 2) := q2 1 (by decide)
  have v2 : w4.cell? ⟨b2, o2 + 2, none⟩ = some (.int .i64 2) := q2 2 (by decide)
  have v3 : w4.cell? ⟨b2, o2 + 2 + 1, none⟩ = some (.int .i64 4) := q2 3 (by decide)
  have v4 : w4.cell? ⟨b2, o2 + 3, none⟩ = some (.int .i64 4) := q2 3 (by decide)
  clear hc4 hx4 HX3 HX2 HC1b HC2 q1 q2 HI2 HD HX4
  go_wp2_with fail
  refine (units_v A4 [insI 16] _ _ 1 [(0, 1)] _ rfl (by decide) HC4.out (Lib.hid (by decide +kernel))).mono ?_
  rintro e w5 ⟨A5, k5, rfl, _, _, hx5⟩
  have HX5 : Hid (Ext w w5) := Ext.trans HXW.out hx5
  clear hx5
  go_wp2_with fail
  go_ret
  exact ⟨rfl, HX5.out⟩
end Go.Proofs.Ytngbpaiohfokbaa
