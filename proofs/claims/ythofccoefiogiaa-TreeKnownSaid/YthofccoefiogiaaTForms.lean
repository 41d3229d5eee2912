/- tree.forms, walked. -/
import Derived.Test.YthofccoefiogiaaTF0
namespace Go.Proofs.Ythofccoefiogiaa
open Go Go.RowKit
set_option linter.unusedVariables false
set_option linter.unusedSimpArgs false
set_option maxRecDepth 100000 in
set_option maxHeartbeats 40000000 in
theorem forms_any (k : Int) (w : World) : Calls Try.prog 99 #[.int .u8 k] w fun e w' => ∃ v, e = .returned v ∧ FormsV w' (formsN k) v ∧ Ext w w' := by
  have hz : ∀ w, (zeroValue 145).run Try.prog w = .ok (.slice none 0 0) w := fun w => by kernel_rfl
  have HZ := Lib.hid hz
  clear hz
  have hmm := @run_makeMap Try.prog
  have h4 : Blk (((((w.alloc (.cells #[.int .u8 20] 5)).alloc (.cells #[.int .u8 5] 5)).alloc (.cells #[.int .u8 6] 5)).alloc (.cells #[.int .u8 21] 5)).alloc (.map #[] 0)) w.heap.size 5 #[.int .u8 20] := ((((Blk.new w 5 #[.int .u8 20]).alloc _).alloc _).alloc _).alloc _
  have h5 : Blk (((((w.alloc (.cells #[.int .u8 20] 5)).alloc (.cells #[.int .u8 5] 5)).alloc (.cells #[.int .u8 6] 5)).alloc (.cells #[.int .u8 21] 5)).alloc (.map #[] 0)) (w.heap.size + 1) 5 #[.int .u8 5] := (((Blk.newAt (by simp)).alloc _).alloc _).alloc _
  have h6 : Blk (((((w.alloc (.cells #[.int .u8 20] 5)).alloc (.cells #[.int .u8 5] 5)).alloc (.cells #[.int .u8 6] 5)).alloc (.cells #[.int .u8 21] 5)).alloc (.map #[] 0)) (w.heap.size + 1 + 1) 5 #[.int .u8 6] := ((Blk.newAt (by simp)).alloc _).alloc _
  have h7 : Blk (((((w.alloc (.cells #[.int .u8 20] 5)).alloc (.cells #[.int .u8 5] 5)).alloc (.cells #[.int .u8 6] 5)).alloc (.cells #[.int .u8 21] 5)).alloc (.map #[] 0)) (w.heap.size + 1 + 1 + 1) 5 #[.int .u8 21] := (Blk.newAt (by simp)).alloc _
  have hmap : MapBlk (((((w.alloc (.cells #[.int .u8 20] 5)).alloc (.cells #[.int .u8 5] 5)).alloc (.cells #[.int .u8 6] 5)).alloc (.cells #[.int .u8 21] 5)).alloc (.map #[] 0)) (w.heap.size + 1 + 1 + 1 + 1) #[] 0 := by
    have := MapBlk.new ((((w.alloc (.cells #[.int .u8 20] 5)).alloc (.cells #[.int .u8 5] 5)).alloc (.cells #[.int .u8 6] 5)).alloc (.cells #[.int .u8 21] 5))
    simpa using this
  have HST0 : Hid (FSt w (((((w.alloc (.cells #[.int .u8 20] 5)).alloc (.cells #[.int .u8 5] 5)).alloc (.cells #[.int .u8 6] 5)).alloc (.cells #[.int .u8 21] 5)).alloc (.map #[] 0)) (w.heap.size + 1 + 1 + 1 + 1) [] [] w.heap.size (w.heap.size + 1) (w.heap.size + 1 + 1) (w.heap.size + 1 + 1 + 1)) := Lib.hid ⟨hmap, rfl, (fun x hx => by cases hx), ((((Ext.alloc _ _).trans (Ext.alloc _ _)).trans (Ext.alloc _ _)).trans (Ext.alloc _ _)).trans (Ext.alloc _ _), by omega, h4, h5, h6, h7⟩
  clear h4 h5 h6 h7 hmap
  go_enter Try.func99, Try.ntmps99
  go_upto_region 3 with (go_at_call 119; refine (just_any _ _).mono ?_; rintro e w' ⟨rfl, rfl⟩)
  simp only [List.append_eq, List.cons_append, List.nil_append]
  
  go_wp2_with (first | (go_at_call 119; refine (just_any _ _).mono ?_; rintro e w' ⟨rfl, rfl⟩) | (refine insF rfl (.tmp 13) (.const (.int .u8 1)) (.tmp 16) 1 _ rfl rfl rfl rfl (HST0.out.mono (Ext.alloc _ _)) (by exact formsV_one rfl rfl (Blk.newAt (by simp)) kidsV_none rfl) rfl ?_))
  intro w1 l1 hst1
  have HST1 := Lib.hid hst1
  clear hst1 HST0
  clear hmm
  generalize w.heap.size + 1 + 1 + 1 + 1 + 1 = r1 at *
  generalize w.heap.size + 1 + 1 + 1 + 1 = r at *
  generalize w.heap.size + 1 + 1 + 1 = g7 at *
  generalize w.heap.size + 1 + 1 = g6 at *
  generalize w.heap.size + 1 = g5 at *
  generalize w.heap.size = g4 at *
  try simp only [Act.put]
  go_wp2_with ((refine insF rfl (.tmp 13) (.const (.int .u8 2)) (.tmp 21) 2 _ rfl rfl rfl rfl (HST1.out.mono ((Ext.alloc _ _).trans (Ext.alloc _ _))) (by exact formsV_one rfl rfl (Blk.newAt (by simp)) (kidsV_1 ((Blk.newAt (by simp)).alloc _) ⟨_, rfl, (HST1.out.mono ((Ext.alloc _ _).trans (Ext.alloc _ _))).k5⟩) ⟨_, rfl, (HST1.out.mono ((Ext.alloc _ _).trans (Ext.alloc _ _))).k5⟩) rfl ?_))
  intro w2 l2 hst2
  have HST2 := Lib.hid hst2
  clear hst2 HST1
  try simp only [Act.put]
  go_wp2_with (first | (go_at_call 119; refine (just_any _ _).mono ?_; rintro e w' ⟨rfl, rfl⟩) | (refine insF rfl (.tmp 13) (.const (.int .u8 3)) (.tmp 26) 3 _ rfl rfl rfl rfl (HST2.out.mono (((Ext.alloc _ _).trans (Ext.alloc _ _)).trans (Ext.alloc _ _))) (by exact formsV_one rfl rfl (Blk.newAt (by simp)) (kidsV_2 ((Blk.newAt (by simp)).alloc _) ⟨_, rfl, (((Blk.newAt (by simp)).alloc _).alloc _)⟩ ⟨_, rfl, (HST2.out.mono (((Ext.alloc _ _).trans (Ext.alloc _ _)).trans (Ext.alloc _ _))).k6⟩) rfl) rfl ?_))
  intro w3 l3 hst3
  have HST3 := Lib.hid hst3
  clear hst3 HST2
  try simp only [Act.put]
  go_wp2_with ((refine insF rfl (.tmp 13) (.const (.int .u8 4)) (.tmp 29) 4 _ rfl rfl rfl rfl (HST3.out.mono (Ext.alloc _ _)) (by exact formsV_one rfl rfl (Blk.newAt (by simp)) kidsV_none ⟨_, rfl, (HST3.out.mono (Ext.alloc _ _)).k5⟩) rfl ?_))
  intro w4 l4 hst4
  have HST4 := Lib.hid hst4
  clear hst4 HST3
  try simp only [Act.put]
  go_wp2_with ((refine insF rfl (.tmp 13) (.const (.int .u8 5)) (.tmp 31) 5 _ rfl rfl rfl rfl (HST4.out.mono (Ext.alloc _ _)) (by exact formsV_one rfl rfl (Blk.newAt (by simp)) kidsV_none rfl) rfl ?_))
  intro w5 l5 hst5
  have HST5 := Lib.hid hst5
  clear hst5 HST4
  try simp only [Act.put]
  go_wp2_with ((refine insF rfl (.tmp 13) (.const (.int .u8 6)) (.tmp 33) 6 _ rfl rfl rfl rfl (HST5.out.mono (Ext.alloc _ _)) (by exact formsV_one rfl rfl (Blk.newAt (by simp)) kidsV_none rfl) rfl ?_))
  intro w6 l6 hst6
  have HST6 := Lib.hid hst6
  clear hst6 HST5
  try simp only [Act.put]
  go_wp2_with ((refine insF rfl (.tmp 13) (.const (.int .u8 7)) (.tmp 38) 7 _ rfl rfl rfl rfl (HST6.out.mono ((Ext.alloc _ _).trans (Ext.alloc _ _))) (by exact formsV_one rfl rfl (Blk.newAt (by simp)) (kidsV_2 ((Blk.newAt (by simp)).alloc _) ⟨_, rfl, (HST6.out.mono ((Ext.alloc _ _).trans (Ext.alloc _ _))).k4⟩ ⟨_, rfl, (HST6.out.mono ((Ext.alloc _ _).trans (Ext.alloc _ _))).k5⟩) rfl) rfl ?_))
  intro w7 l7 hst7
  have HST7 := Lib.hid hst7
  clear hst7 HST6
  try simp only [Act.put]
  go_wp2_with ((refine insF rfl (.tmp 13) (.const (.int .u8 8)) (.tmp 43) 8 _ rfl rfl rfl rfl (HST7.out.mono ((Ext.alloc _ _).trans (Ext.alloc _ _))) (by exact formsV_one rfl rfl (Blk.newAt (by simp)) (kidsV_3 ((Blk.newAt (by simp)).alloc _) ⟨_, rfl, (HST7.out.mono ((Ext.alloc _ _).trans (Ext.alloc _ _))).k4⟩ ⟨_, rfl, (HST7.out.mono ((Ext.alloc _ _).trans (Ext.alloc _ _))).k5⟩ (rfl)) rfl) rfl ?_))
  intro w8 l8 hst8
  have HST8 := Lib.hid hst8
  clear hst8 HST7
  try simp only [Act.put]
  go_wp2_with ((refine insF rfl (.tmp 13) (.const (.int .u8 9)) (.tmp 47) 9 _ rfl rfl rfl rfl (HST8.out.mono ((Ext.alloc _ _).trans (Ext.alloc _ _))) (by exact formsV_one rfl rfl (Blk.newAt (by simp)) (kidsV_2 ((Blk.newAt (by simp)).alloc _) ⟨_, rfl, (HST8.out.mono ((Ext.alloc _ _).trans (Ext.alloc _ _))).k4⟩ (rfl)) rfl) rfl ?_))
  intro w9 l9 hst9
  have HST9 := Lib.hid hst9
  clear hst9 HST8
  try simp only [Act.put]
  go_wp2_with ((refine insF rfl (.tmp 13) (.const (.int .u8 10)) (.tmp 51) 10 _ rfl rfl rfl rfl (HST9.out.mono ((Ext.alloc _ _).trans (Ext.alloc _ _))) (by exact formsV_one rfl rfl (Blk.newAt (by simp)) (kidsV_1 ((Blk.newAt (by simp)).alloc _) ⟨_, rfl, (HST9.out.mono ((Ext.alloc _ _).trans (Ext.alloc _ _))).k4⟩) rfl) rfl ?_))
  intro w10 l10 hst10
  have HST10 := Lib.hid hst10
  clear hst10 HST9
  try simp only [Act.put]
  go_wp2_with ((refine insF rfl (.tmp 13) (.const (.int .u8 11)) (.tmp 56) 11 _ rfl rfl rfl rfl (HST10.out.mono ((Ext.alloc _ _).trans (Ext.alloc _ _))) (by exact formsV_one rfl rfl (Blk.newAt (by simp)) (kidsV_2 ((Blk.newAt (by simp)).alloc _) ⟨_, rfl, (HST10.out.mono ((Ext.alloc _ _).trans (Ext.alloc _ _))).k5⟩ ⟨_, rfl, (HST10.out.mono ((Ext.alloc _ _).trans (Ext.alloc _ _))).k5⟩) rfl) rfl ?_))
  intro w11 l11 hst11
  have HST11 := Lib.hid hst11
  clear hst11 HST10
  try simp only [Act.put]
  go_wp2_with ((refine insF rfl (.tmp 13) (.const (.int .u8 12)) (.tmp 60) 12 _ rfl rfl rfl rfl (HST11.out.mono ((Ext.alloc _ _).trans (Ext.alloc _ _))) (by exact formsV_one rfl rfl (Blk.newAt (by simp)) (kidsV_1 ((Blk.newAt (by simp)).alloc _) ⟨_, rfl, (HST11.out.mono ((Ext.alloc _ _).trans (Ext.alloc _ _))).k5⟩) rfl) rfl ?_))
  intro w12 l12 hst12
  have HST12 := Lib.hid hst12
  clear hst12 HST11
  try simp only [Act.put]
  go_wp2_with ((refine insF rfl (.tmp 13) (.const (.int .u8 13)) (.tmp 67) 13 _ rfl rfl rfl rfl (HST12.out.mono (((Ext.alloc _ _).trans (Ext.alloc _ _)).trans (Ext.alloc _ _))) (by exact formsV_two rfl rfl rfl rfl (Blk.newAt (by simp)) (kidsV_1 (((Blk.newAt (by simp)).alloc _).alloc _) ⟨_, rfl, (HST12.out.mono (((Ext.alloc _ _).trans (Ext.alloc _ _)).trans (Ext.alloc _ _))).k5⟩) rfl (kidsV_1 ((Blk.newAt (by simp)).alloc _) ⟨_, rfl, (HST12.out.mono (((Ext.alloc _ _).trans (Ext.alloc _ _)).trans (Ext.alloc _ _))).k4⟩) rfl) rfl ?_))
  intro w13 l13 hst13
  have HST13 := Lib.hid hst13
  clear hst13 HST12
  try simp only [Act.put]
  go_wp2_with ((refine insF rfl (.tmp 13) (.const (.int .u8 14)) (.tmp 75) 14 _ rfl rfl rfl rfl (HST13.out.mono (((Ext.alloc _ _).trans (Ext.alloc _ _)).trans (Ext.alloc _ _))) (by exact formsV_two rfl rfl rfl rfl (Blk.newAt (by simp)) (kidsV_3 (((Blk.newAt (by simp)).alloc _).alloc _) (rfl) (rfl) ⟨_, rfl, (HST13.out.mono (((Ext.alloc _ _).trans (Ext.alloc _ _)).trans (Ext.alloc _ _))).k6⟩) rfl (kidsV_4 ((Blk.newAt (by simp)).alloc _) (rfl) (rfl) ⟨_, rfl, (HST13.out.mono (((Ext.alloc _ _).trans (Ext.alloc _ _)).trans (Ext.alloc _ _))).k6⟩ ⟨_, rfl, (HST13.out.mono (((Ext.alloc _ _).trans (Ext.alloc _ _)).trans (Ext.alloc _ _))).k6⟩) rfl) rfl ?_))
  intro w14 l14 hst14
  have HST14 := Lib.hid hst14
  clear hst14 HST13
  try simp only [Act.put]
  go_wp2_with ((refine insF rfl (.tmp 13) (.const (.int .u8 15)) (.tmp 81) 15 _ rfl rfl rfl rfl (HST14.out.mono ((Ext.alloc _ _).trans (Ext.alloc _ _))) (by exact formsV_one rfl rfl (Blk.newAt (by simp)) (kidsV_3 ((Blk.newAt (by simp)).alloc _) ⟨_, rfl, (HST14.out.mono ((Ext.alloc _ _).trans (Ext.alloc _ _))).k7⟩ ⟨_, rfl, (HST14.out.mono ((Ext.alloc _ _).trans (Ext.alloc _ _))).k7⟩ ⟨_, rfl, (HST14.out.mono ((Ext.alloc _ _).trans (Ext.alloc _ _))).k6⟩) rfl) rfl ?_))
  intro w15 l15 hst15
  have HST15 := Lib.hid hst15
  clear hst15 HST14
  try simp only [Act.put]
  go_wp2_with ((refine insF rfl (.tmp 13) (.const (.int .u8 16)) (.tmp 84) 16 _ rfl rfl rfl rfl (HST15.out.mono ((Ext.alloc _ _).trans (Ext.alloc _ _))) (by exact formsV_one rfl rfl (Blk.newAt (by simp)) (kidsV_1 ((Blk.newAt (by simp)).alloc _) (rfl)) rfl) rfl ?_))
  intro w16 l16 hst16
  have HST16 := Lib.hid hst16
  clear hst16 HST15
  try simp only [Act.put]
  go_wp2_with ((refine insF rfl (.tmp 13) (.const (.int .u8 17)) (.tmp 87) 17 _ rfl rfl rfl rfl (HST16.out.mono ((Ext.alloc _ _).trans (Ext.alloc _ _))) (by exact formsV_one rfl rfl (Blk.newAt (by simp)) (kidsV_1 ((Blk.newAt (by simp)).alloc _) (rfl)) rfl) rfl ?_))
  intro w17 l17 hst17
  have HST17 := Lib.hid hst17
  clear hst17 HST16
  try simp only [Act.put]
  go_wp2_with ((refine insF rfl (.tmp 13) (.const (.int .u8 18)) (.tmp 89) 18 _ rfl rfl rfl rfl (HST17.out.mono (Ext.alloc _ _)) (by exact formsV_one rfl rfl (Blk.newAt (by simp)) kidsV_none rfl) rfl ?_))
  intro w18 l18 hst18
  have HST18 := Lib.hid hst18
  clear hst18 HST17
  try simp only [Act.put]
  go_wp2_with ((refine insF rfl (.tmp 13) (.const (.int .u8 19)) (.tmp 91) 19 _ rfl rfl rfl rfl (HST18.out.mono (Ext.alloc _ _)) (by exact formsV_one rfl rfl (Blk.newAt (by simp)) kidsV_none rfl) rfl ?_))
  intro w19 l19 hst19
  have HST19 := Lib.hid hst19
  clear hst19 HST18
  try simp only [Act.put]
  go_wp2_with ((refine insF rfl (.tmp 13) (.const (.int .u8 20)) (.tmp 94) 20 _ rfl rfl rfl rfl (HST19.out.mono ((Ext.alloc _ _).trans (Ext.alloc _ _))) (by exact formsV_one rfl rfl (Blk.newAt (by simp)) (kidsV_1 ((Blk.newAt (by simp)).alloc _) (rfl)) rfl) rfl ?_))
  intro w20 l20 hst20
  have HST20 := Lib.hid hst20
  clear hst20 HST19
  try simp only [Act.put]
  go_wp2_with ((refine insF rfl (.tmp 13) (.const (.int .u8 21)) (.tmp 96) 21 _ rfl rfl rfl rfl (HST20.out.mono (Ext.alloc _ _)) (by exact formsV_one rfl rfl (Blk.newAt (by simp)) kidsV_none rfl) rfl ?_))
  intro w21 l21 hst21
  have HST21 := Lib.hid hst21
  clear hst21 HST20
  try simp only [Act.put]
  go_wp2_with ((refine insF rfl (.tmp 13) (.const (.int .u8 22)) (.tmp 98) 22 _ rfl rfl rfl rfl (HST21.out.mono (Ext.alloc _ _)) (by exact formsV_one rfl rfl (Blk.newAt (by simp)) kidsV_none rfl) rfl ?_))
  intro w22 l22 hst22
  have HST22 := Lib.hid hst22
  clear hst22 HST21
  try simp only [Act.put]
  go_wp2_with ((refine insF rfl (.tmp 13) (.const (.int .u8 23)) (.tmp 101) 23 _ rfl rfl rfl rfl (HST22.out.mono ((Ext.alloc _ _).trans (Ext.alloc _ _))) (by exact formsV_one rfl rfl (Blk.newAt (by simp)) (kidsV_2 ((Blk.newAt (by simp)).alloc _) (rfl) (rfl)) rfl) rfl ?_))
  intro w23 l23 hst23
  have HST23 := Lib.hid hst23
  clear hst23 HST22
  try simp only [Act.put]
  go_wp2_with ((refine insF rfl (.tmp 13) (.const (.int .u8 24)) (.tmp 104) 24 _ rfl rfl rfl rfl (HST23.out.mono ((Ext.alloc _ _).trans (Ext.alloc _ _))) (by exact formsV_one rfl rfl (Blk.newAt (by simp)) (kidsV_2 ((Blk.newAt (by simp)).alloc _) (rfl) (rfl)) rfl) rfl ?_))
  intro w24 l24 hst24
  have HST24 := Lib.hid hst24
  clear hst24 HST23
  try simp only [Act.put]
  go_wp2_with ((refine insF rfl (.tmp 13) (.const (.int .u8 25)) (.tmp 107) 25 _ rfl rfl rfl rfl (HST24.out.mono ((Ext.alloc _ _).trans (Ext.alloc _ _))) (by exact formsV_one rfl rfl (Blk.newAt (by simp)) (kidsV_2 ((Blk.newAt (by simp)).alloc _) (rfl) (rfl)) rfl) rfl ?_))
  intro w25 l25 hst25
  have HST25 := Lib.hid hst25
  clear hst25 HST24
  try simp only [Act.put]
  go_wp2_with ((refine insF rfl (.tmp 13) (.const (.int .u8 26)) (.tmp 110) 26 _ rfl rfl rfl rfl (HST25.out.mono ((Ext.alloc _ _).trans (Ext.alloc _ _))) (by exact formsV_one rfl rfl (Blk.newAt (by simp)) (kidsV_1 ((Blk.newAt (by simp)).alloc _) (rfl)) rfl) rfl ?_))
  intro w26 l26 hst26
  have HST26 := Lib.hid hst26
  clear hst26 HST25
  try simp only [Act.put]
  go_wp2_with (refine lookF rfl (.tmp 112) (.tmp 113) k rfl rfl rfl HST26.out HZ.out ?_)
  intro v hv
  have HV := Lib.hid hv
  clear hv
  try simp only [Act.put]
  go_wp2_with fail
  go_ret
  exact ⟨v, rfl, HV.out, HST26.out.ext⟩
end Go.Proofs.Ythofccoefiogiaa
