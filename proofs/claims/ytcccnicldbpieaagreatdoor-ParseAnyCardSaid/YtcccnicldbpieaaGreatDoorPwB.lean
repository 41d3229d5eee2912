/- The chapter's examples: interlocklaw05.works, walked: always true. Condition: errors.errorType reads as the program's text lays it. -/
import Derived.Test.YtcccnicldbpieaaGreatDoorPwA
namespace Go.Proofs.YtcccnicldbpieaaGreatDoor
open Go Go.RowKit
set_option linter.unusedVariables false
set_option linter.unusedSimpArgs false
def preB : Bs := [112, 114, 111, 99, 32, 112, 40, 41, 32, 123, 32, 101, 109, 105, 116, 32]
def postB : Bs := [59, 32, 125]
theorem bstr_app (a b : Bs) : bstr a ++ bstr b = bstr (a ++ b) := by
  apply ByteArray.ext
  simp [bstr, ByteArray.data_append]
set_option maxRecDepth 100000 in
set_option maxHeartbeats 8000000 in
theorem emitted_any (x : Bs) (nd : List Nd) (m : Nat) (hx : x.length ≤ 100) (h6 : 6 ≤ nd.length) (hmm : nd.length = m + 5) (hp : parseS (preB ++ x ++ postB) = .ok nd) (w : World) :
    Calls Tryz.prog 19 #[.string (bstr x)] w fun e w' => ∃ b c nh, e = .returned (.slice (some ⟨b, 25, none⟩) m c) ∧ nd = nh.map Prod.fst ∧ Cells w' (some ⟨b, 0, none⟩) (ncs nh) ∧ Ext w w' := by
  have HP := Lib.hid hp
  have hsz := bstr_len x
  have h1 : ¬ (9223372036854775807 < 16 + (bstr x).size) := by rw [hsz]; omega
  have h2 : ¬ (9223372036854775807 < 16 + (bstr x).size + 3) := by rw [hsz]; omega
  obtain ⟨hcv, hcap⟩ := str_conv w (preB ++ x ++ postB)
  have e1 : bstr (preB ++ x ++ postB) = (⟨#[112, 114, 111, 99, 32, 112, 40, 41, 32, 123, 32, 101, 109, 105, 116, 32]⟩ : ByteArray) ++ bstr x ++ ⟨#[59, 32, 125]⟩ := by
    rw [← bstr_app, ← bstr_app]
    rfl
  have hx1 := str_ext w (preB ++ x ++ postB)
  have hc1 := str_cells w (preB ++ x ++ postB)
  have hlen : (preB ++ x ++ postB).length ≤ 1000 := by
    simp only [List.length_append, preB, postB, List.length_cons, List.length_nil]
    omega
  obtain ⟨w1, HW1⟩ : ∃ w1, Hid (Lib.bytesWorld w 5 (bstr (preB ++ x ++ postB)) = w1) := ⟨_, Lib.hid rfl⟩
  rw [HW1.out] at hcv hx1 hc1
  rw [e1] at hcv
  have HC1 := Lib.hid hc1
  have HX1 := Lib.hid hx1
  have HCAP := Lib.hid hcap
  have HLEN := Lib.hid hlen
  have HH6 := Lib.hid h6
  have HMM := Lib.hid hmm
  clear hp hx1 hc1 hcap e1 HW1 hlen h6 hmm
  generalize preB ++ x ++ postB = L at *
  generalize grownCap w L.length 0 5 = c1 at *
  go_enter Tryz.func19, Tryz.ntmps19
  go_wp2_with fail
  refine (parse_ok _ L _ _ w1 rfl (by have := HLEN.out; omega) HCAP.out (fun h => by cases h) HC1.out nd HP.out).mono ?_
  rintro e w2 ⟨A, c, nh, rfl, hnd, hns, hx2⟩
  have hl : nd.length = nh.length := by rw [hnd, List.length_map]
  obtain ⟨b, rfl⟩ : ∃ b, A = some ⟨b, 0, none⟩ := by
    rcases own_zero hns.row with e | e
    · exfalso
      have h := hns.row
      rw [e] at h
      rcases h.2 with ⟨_, h0⟩ | ⟨g, _, _, hv, _⟩
      · have := HH6.out; omega
      · cases hv
    · exact e
  have hcap : nh.length ≤ c := by
    rcases hns.row.2 with ⟨hv, _⟩ | ⟨g, cap, cur, hv, _, _, hle, _⟩
    · cases hv
    · injection hv with _ _ e; omega
  have HNS := Lib.hid hns.tr.row
  have HND := Lib.hid hnd
  have HX2 := Lib.hid (HX1.out.trans hx2)
  have d6 : decide ((nh.length : Int) < 6) = false := decide_eq_false (by have := HH6.out; omega)
  have d6' : ¬ (nh.length : Int) < 6 := by have := HH6.out; omega
  have d6n : 6 ≤ nh.length := by have := HH6.out; omega
  have HLN := Lib.hid hl
  clear hns hnd hx2 hl
  go_wp2_with fail
  go_ret
  exact ⟨b, c - 5, nh, by rw [show nh.length - 5 = m from by have := HMM.out; have := HLN.out; omega]; rfl, HND.out, HNS.out.ext (Ext.alloc _ _), HX2.out.trans (Ext.alloc _ _)⟩
theorem nd_cell {w : World} {b : Nat} {nh : List (Nd × Hd2)} {nd : List Nd} (h : Cells w (some ⟨b, 0, none⟩) (ncs nh)) (hnd : nd = nh.map Prod.fst) (k : Nat) (hk : k < nd.length) :
    w.cell? ⟨b, k * 5, none⟩ = some (.int .u8 (nd[k].kind : Int)) ∧ w.cell? ⟨b, k * 5 + 2, none⟩ = some (.string (bstr nd[k].text)) ∧ w.cell? ⟨b, k * 5 + 3, none⟩ = some (.int .i64 nd[k].num) := by
  subst hnd
  have hk' : k < nh.length := by simpa using hk
  obtain ⟨b', off, hA, _, hc⟩ := h.at_ (by rw [ncs_len]; omega)
  injection hA with hA
  injection hA with h1 h2
  subst h1 h2
  have key : ∀ j, j < 5 → w.cell? ⟨b, k * 5 + j, none⟩ = (ncell nh[k])[j]? := fun j hj => by
    have := hc (k * 5 + j) (by rw [ncs_len]; omega)
    rw [Nat.zero_add, ncs_at nh k hk' j hj] at this
    exact this
  refine ⟨?_, ?_, ?_⟩
  · rw [List.getElem_map]; exact key 0 (by decide)
  · rw [List.getElem_map]; exact key 2 (by decide)
  · rw [List.getElem_map]; exact key 3 (by decide)
def ndW1 : List Nd := [⟨1, 0, [], 0, [1]⟩, ⟨3, 0, [112], 0, [2, 3]⟩, ⟨4, 7, [], 0, []⟩, ⟨6, 9, [], 0, [4]⟩, ⟨17, 11, [], 0, [5]⟩, ⟨24, 16, [], 0, [6, 9]⟩, ⟨24, 16, [], 0, [7, 8]⟩, ⟨21, 16, [], 1, []⟩, ⟨21, 20, [], 2, []⟩, ⟨21, 24, [], 3, []⟩]
def ndW2 : List Nd := [⟨1, 0, [], 0, [1]⟩, ⟨3, 0, [112], 0, [2, 3]⟩, ⟨4, 7, [], 0, []⟩, ⟨6, 9, [], 0, [4]⟩, ⟨17, 11, [], 0, [5]⟩, ⟨25, 16, [], 0, [6, 8]⟩, ⟨26, 16, [], 0, [7]⟩, ⟨22, 17, [97], 0, []⟩, ⟨22, 21, [98], 0, []⟩]
theorem parseS_w1 : parseS (preB ++ [49, 32, 45, 32, 50, 32, 45, 32, 51] ++ postB) = .ok ndW1 := by decide +kernel
theorem parseS_w2 : parseS (preB ++ [45, 97, 32, 42, 32, 98] ++ postB) = .ok ndW2 := by decide +kernel
theorem parseS_w3 : parseS [112, 114, 111, 99, 32, 112, 40, 41, 32, 123, 32, 108, 101, 116, 32, 61, 32, 49, 59, 32, 125] = .err 15 50 := by decide +kernel
theorem parseS_w4 : parseS [116, 97, 98, 108, 101, 32, 116, 40, 41, 32, 59] = .err 8 50 := by decide +kernel
set_option maxHeartbeats 8000000 in
set_option maxRecDepth 100000 in
theorem works5_any (w : World) (hG : GT w) : Calls Tryz.prog 8 #[] w fun e w' => e = .returned (.bool true) ∧ Ext w w' := by
  have HG := Lib.hid hG
  clear hG
  have v1 := fun W => lit_conv W #[.int .u8 112, .int .u8 114, .int .u8 111, .int .u8 99, .int .u8 32, .int .u8 112, .int .u8 40, .int .u8 41, .int .u8 32, .int .u8 123, .int .u8 32, .int .u8 108, .int .u8 101, .int .u8 116, .int .u8 32, .int .u8 61, .int .u8 32, .int .u8 49, .int .u8 59, .int .u8 32, .int .u8 125] 21 rfl
  have v2 := fun W => lit_conv W #[.int .u8 116, .int .u8 97, .int .u8 98, .int .u8 108, .int .u8 101, .int .u8 32, .int .u8 116, .int .u8 40, .int .u8 41, .int .u8 32, .int .u8 59] 11 rfl
  go_enter Tryz.func8, Tryz.ntmps8
  go_wp2_with fail
  refine (emitted_any [49, 32, 45, 32, 50, 32, 45, 32, 51] ndW1 5 (by decide) (by decide) rfl parseS_w1 w).mono ?_
  rintro e w1 ⟨b1, c1, n1, rfl, hn1, hc1, hx1⟩
  have HC1 := Lib.hid hc1
  have HN1 := Lib.hid hn1
  have HX1 := Lib.hid hx1
  clear hc1 hn1 hx1
  go_wp2_with fail
  refine (emitted_any [45, 97, 32, 42, 32, 98] ndW2 4 (by decide) (by decide) rfl parseS_w2 w1).mono ?_
  rintro e w2 ⟨b2, c2, n2, rfl, hn2, hc2, hx2⟩
  have HC2 := Lib.hid hc2
  have HN2 := Lib.hid hn2
  have HX2 := Lib.hid (HX1.out.trans hx2)
  have HC1 := Lib.hid (HC1.out.ext hx2)
  clear hc2 hn2 hx2
  go_wp2_with fail
  refine (parse_lit_err w2 #[.int .u8 112, .int .u8 114, .int .u8 111, .int .u8 99, .int .u8 32, .int .u8 112, .int .u8 40, .int .u8 41, .int .u8 32, .int .u8 123, .int .u8 32, .int .u8 108, .int .u8 101, .int .u8 116, .int .u8 32, .int .u8 61, .int .u8 32, .int .u8 49, .int .u8 59, .int .u8 32, .int .u8 125] 21 [112, 114, 111, 99, 32, 112, 40, 41, 32, 123, 32, 108, 101, 116, 32, 61, 32, 49, 59, 32, 125] (by rfl) rfl (by decide) _ _ parseS_w3).mono ?_
  rintro e w3 ⟨g3, rfl, hb3, hx3⟩
  have HB3 := Lib.hid hb3
  have HX3 := Lib.hid (HX2.out.trans hx3)
  have HC1 := Lib.hid (HC1.out.ext hx3)
  have HC2 := Lib.hid (HC2.out.ext hx3)
  clear hb3 hx3 v1
  go_upto_region 3 with fail
  have hx3b : Ext w3 (w3.alloc (.cells #[.slice none 0 0] 26)) := Ext.alloc _ _
  have HX3 := Lib.hid (HX3.out.trans hx3b)
  have HB3 := Lib.hid (HB3.out.ext hx3b)
  have HC1 := Lib.hid (HC1.out.ext hx3b)
  have HC2 := Lib.hid (HC2.out.ext hx3b)
  clear hx3b
  generalize w3.alloc (.cells #[.slice none 0 0] 26) = w4 at *
  go_wp2_with fail
  refine (parse_lit_err w4 #[.int .u8 116, .int .u8 97, .int .u8 98, .int .u8 108, .int .u8 101, .int .u8 32, .int .u8 116, .int .u8 40, .int .u8 41, .int .u8 32, .int .u8 59] 11 [116, 97, 98, 108, 101, 32, 116, 40, 41, 32, 59] (by rfl) rfl (by decide) _ _ parseS_w4).mono ?_
  rintro e w5 ⟨g4, rfl, hb4, hx5⟩
  have HB4 := Lib.hid hb4
  have HX5 := Lib.hid (HX3.out.trans hx5)
  have HB3 := Lib.hid (HB3.out.ext hx5)
  have HC1 := Lib.hid (HC1.out.ext hx5)
  have HC2 := Lib.hid (HC2.out.ext hx5)
  clear hb4 hx5 v2
  go_upto_region 4 with fail
  have hx5b : Ext w5 (w5.alloc (.cells #[.slice none 0 0] 26)) := Ext.alloc _ _
  have HX5 := Lib.hid (HX5.out.trans hx5b)
  have HB3 := Lib.hid (HB3.out.ext hx5b)
  have HB4 := Lib.hid (HB4.out.ext hx5b)
  have HC1 := Lib.hid (HC1.out.ext hx5b)
  have HC2 := Lib.hid (HC2.out.ext hx5b)
  clear hx5b
  generalize w5.alloc (.cells #[.slice none 0 0] 26) = w6 at *
  go_wp2_with fail
  refine (place_at g3 _ _ _ _ w6 (HG.out.ext HX5.out) HB3.out).mono ?_
  rintro e w7 ⟨rfl, hx7⟩
  have HX7 := Lib.hid (HX5.out.trans hx7)
  have HB3 := Lib.hid (HB3.out.ext hx7)
  have HB4 := Lib.hid (HB4.out.ext hx7)
  have HC1 := Lib.hid (HC1.out.ext hx7)
  have HC2 := Lib.hid (HC2.out.ext hx7)
  clear hx7
  go_wp2_with fail
  refine (place_at g4 _ _ _ _ w7 (HG.out.ext HX7.out) HB4.out).mono ?_
  rintro e w8 ⟨rfl, hx8⟩
  have HX8 := Lib.hid (HX7.out.trans hx8)
  have HB3 := Lib.hid (HB3.out.ext hx8)
  have HB4 := Lib.hid (HB4.out.ext hx8)
  have HC1 := Lib.hid (HC1.out.ext hx8)
  have HC2 := Lib.hid (HC2.out.ext hx8)
  clear hx8
  have a0 : w8.cell? ⟨b1, 25, none⟩ = some (.int .u8 24) := (nd_cell HC1.out HN1.out 5 (by decide)).1
  have a1 : w8.cell? ⟨b1, 30, none⟩ = some (.int .u8 24) := (nd_cell HC1.out HN1.out 6 (by decide)).1
  have a2 : w8.cell? ⟨b1, 38, none⟩ = some (.int .i64 1) := (nd_cell HC1.out HN1.out 7 (by decide)).2.2
  have a4 : w8.cell? ⟨b1, 48, none⟩ = some (.int .i64 3) := (nd_cell HC1.out HN1.out 9 (by decide)).2.2
  have d0 : w8.cell? ⟨b2, 25, none⟩ = some (.int .u8 25) := (nd_cell HC2.out HN2.out 5 (by decide)).1
  have d1 : w8.cell? ⟨b2, 30, none⟩ = some (.int .u8 26) := (nd_cell HC2.out HN2.out 6 (by decide)).1
  have d3 : w8.cell? ⟨b2, 42, none⟩ = some (.string (bstr [98])) := (nd_cell HC2.out HN2.out 8 (by decide)).2.1
  have s1 : (bstr [98]).toList = [98] := bstr_toList _
  have z1 : (⟨#[98]⟩ : ByteArray).toList = [98] := bstr_toList [98]
  go_wp2_with fail
  refine (code_at g3 _ _ _ _ w8 (HG.out.ext HX8.out) HB3.out).mono ?_
  rintro e w9 ⟨rfl, hx9⟩
  have HX9 := Lib.hid (HX8.out.trans hx9)
  have HB4 := Lib.hid (HB4.out.ext hx9)
  clear hx9 a0 a1 a2 a4 d0 d1 d3
  go_wp2_with fail
  refine (code_at g4 _ _ _ _ w9 (HG.out.ext HX9.out) HB4.out).mono ?_
  rintro e w10 ⟨rfl, hx10⟩
  have HX10 := Lib.hid (HX9.out.trans hx10)
  clear hx10
  go_wp2_with fail
  go_ret
  exact ⟨rfl, HX10.out⟩
end Go.Proofs.YtcccnicldbpieaaGreatDoor
