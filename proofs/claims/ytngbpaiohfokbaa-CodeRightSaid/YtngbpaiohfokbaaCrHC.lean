/- interlockref08.Same, walked: some of the branches on which two instructions differ. -/
import Derived.Test.YtngbpaiohfokbaaCrHX
namespace Go.Proofs.Ytngbpaiohfokbaa
open Go Go.RowKit
set_option linter.unusedVariables false
set_option linter.unusedSimpArgs false
set_option maxRecDepth 100000 in
set_option maxHeartbeats 32000000 in
theorem rsame_anyP9 : rsame_anyX.2.2.2.2.2.2.2.2.1 := by
  intro _
  intros
  rename_i l m c d w hlen bb HO HFA e0 e1 HLW _ _ u4 u6 u7 u8 u14 u15 u16 u17 u18 u19 u28 u29 u30 u31 u32 u33 u34 u35 u36 u37 u38 u39 u40 u41 u42 u43 u44 u45 u46 u47 u48 u49 u50 u51 u52 u53 u54 u55 u56 u57 u58 u59 u60 u61 u62 u63 u64 u65 u66 u67 u68 u69 u70 u71 u72 u73 u74 u75 u76 u77 u78 u79 u80 u81 u82 u83 u84 u85 u86 u87 u88 u89 u90 u91 u92 u93 u94 u95 u96 u97 u98 u99 u100 u101 u102 u103 u104 u105 u106 u107 u108 u109 u110 u111 u112 u113 u114 u115 u116 u117 u118 u119 u120 u121 u122 u123 u124 u125 u126 u127 u128 u129 u130 u131 k hk HJ wa hlt d0 hlt2 b1 off1 HA HA1 hb1 b2 off2 HB HB1 hb2 E kt vp op node mode table row col var goes eq frm upto ka kc va vc kt2 vp2 node2 frm2 upto2 ka2 kc2 va2 vc2 hf2 HK1 HK2 HV1 HV2 HE1 HE2 HF1 HF3 _ _ wc u20 u21 u22 u23 u24 u25 u26 u27 gx gy w3 HCX HXA HXX HK1' HK2' _ _ HNF x0 y0 x2 y2 x3 y3 x4 y4 x5 y5 x6 y6 x7 y7 x8 HYS HNO HE HCY y8 x9 y9 hfrm
  have n0 : (frm == frm2) = false := beq_eq_false_iff_ne.2 hfrm
  have n1 : (frm != frm2) = true := bne_iff_ne.2 hfrm
  have HBF := Lib.hid (HNF.out (by rw [← HE.out, n0]; simp))
  clear hfrm HE HNO HYS HNF

  go_wp2_with fail
  go_ret
  rw [HBF.out]
  exact ⟨rfl, HXX.out⟩
set_option maxRecDepth 100000 in
set_option maxHeartbeats 32000000 in
theorem rsame_anyP10 : rsame_anyX.2.2.2.2.2.2.2.2.2.1 := by
  intro _
  intros
  rename_i l m c d w hlen bb HO HFA e0 e1 HLW _ _ u4 u6 u7 u8 u14 u15 u16 u17 u18 u19 u28 u29 u30 u31 u32 u33 u34 u35 u36 u37 u38 u39 u40 u41 u42 u43 u44 u45 u46 u47 u48 u49 u50 u51 u52 u53 u54 u55 u56 u57 u58 u59 u60 u61 u62 u63 u64 u65 u66 u67 u68 u69 u70 u71 u72 u73 u74 u75 u76 u77 u78 u79 u80 u81 u82 u83 u84 u85 u86 u87 u88 u89 u90 u91 u92 u93 u94 u95 u96 u97 u98 u99 u100 u101 u102 u103 u104 u105 u106 u107 u108 u109 u110 u111 u112 u113 u114 u115 u116 u117 u118 u119 u120 u121 u122 u123 u124 u125 u126 u127 u128 u129 u130 u131 k hk HJ wa hlt d0 hlt2 b1 off1 HA HA1 hb1 b2 off2 HB HB1 hb2 E kt vp op node mode table row col var goes eq frm upto ka kc va vc kt2 vp2 node2 upto2 ka2 kc2 va2 vc2 hf2 HK1 HK2 HV1 HV2 HE1 HE2 HF1 HF3 _ _ wc u20 u21 u22 u23 u24 u25 u26 u27 gx gy w3 HCX HXA HXX HK1' HK2' _ _ HNF x0 y0 x2 y2 x3 y3 x4 y4 x5 y5 x6 y6 x7 y7 x8 y8 x9 HYS HNO HE HCY y9 x10 y10 hupto
  have n0 : (upto == upto2) = false := beq_eq_false_iff_ne.2 hupto
  have n1 : (upto != upto2) = true := bne_iff_ne.2 hupto
  have HBF := Lib.hid (HNF.out (by rw [← HE.out, n0]; simp))
  clear hupto HE HNO HYS HNF

  go_wp2_with fail
  go_ret
  rw [HBF.out]
  exact ⟨rfl, HXX.out⟩
set_option maxRecDepth 100000 in
set_option maxHeartbeats 32000000 in
theorem rsame_anyP11 : rsame_anyX.2.2.2.2.2.2.2.2.2.2.1 := by
  intro _
  intros
  rename_i l m c d w hlen bb HO HFA e0 e1 HLW _ _ u4 u6 u7 u8 u14 u15 u16 u17 u18 u19 u28 u29 u30 u31 u32 u33 u34 u35 u36 u37 u38 u39 u40 u41 u42 u43 u44 u45 u46 u47 u48 u49 u50 u51 u52 u53 u54 u55 u56 u57 u58 u59 u60 u61 u62 u63 u64 u65 u66 u67 u68 u69 u70 u71 u72 u73 u74 u75 u76 u77 u78 u79 u80 u81 u82 u83 u84 u85 u86 u87 u88 u89 u90 u91 u92 u93 u94 u95 u96 u97 u98 u99 u100 u101 u102 u103 u104 u105 u106 u107 u108 u109 u110 u111 u112 u113 u114 u115 u116 u117 u118 u119 u120 u121 u122 u123 u124 u125 u126 u127 u128 u129 u130 u131 k hk HJ wa hlt d0 hlt2 b1 off1 HA HA1 hb1 b2 off2 HB HB1 hb2 E kt vp op node mode table row col var goes eq frm upto ka kc va vc kt2 vp2 node2 ka2 kc2 va2 vc2 hf2 HK1 HK2 HV1 HV2 HE1 HE2 HF1 HF3 _ _ wc u20 u21 u22 u23 u24 u25 u26 u27 gx gy w3 HCX HXA HXX HK1' HK2' _ _ HNF x0 y0 x2 y2 x3 y3 x4 y4 x5 y5 x6 y6 x7 y7 x8 y8 x9 y9 x10 HYS HNO HCY y10 x11 y11 HEK hkt
  have HBF := Lib.hid (HNF.out (by rw [← HEK.out, decide_eq_false hkt]; rfl))
  clear HNO HYS HNF HEK
  go_wp2_with fail
  refine (sameTerms_any ka ka2 kt kt2 _ _ kc kc2 w3 rfl rfl HF1.out HK1'.out HK2'.out false (Lib.hid (decide_eq_false hkt))).mono ?_
  rintro e w4 ⟨rfl, hx4⟩
  have HX4 := Lib.hid (HXX.out.trans hx4)
  clear hx4 hkt
  go_wp2_with fail
  go_ret
  rw [HBF.out]
  exact ⟨rfl, HX4.out⟩
end Go.Proofs.Ytngbpaiohfokbaa
