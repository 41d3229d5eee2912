/- interlockref08.Same, walked: some of the branches on which two instructions differ. -/
import Derived.Test.YtngbpaiohfokbaaCrHX
namespace Go.Proofs.Ytngbpaiohfokbaa
open Go Go.RowKit
set_option linter.unusedVariables false
set_option linter.unusedSimpArgs false
set_option maxRecDepth 100000 in
set_option maxHeartbeats 32000000 in
theorem rsame_anyP5 : rsame_anyX.2.2.2.2.1 := by
  intro _
  intros
  rename_i l m c d w hlen bb HO HFA e0 e1 HLW _ _ u4 u6 u7 u8 u14 u15 u16 u17 u18 u19 u28 u29 u30 u31 u32 u33 u34 u35 u36 u37 u38 u39 u40 u41 u42 u43 u44 u45 u46 u47 u48 u49 u50 u51 u52 u53 u54 u55 u56 u57 u58 u59 u60 u61 u62 u63 u64 u65 u66 u67 u68 u69 u70 u71 u72 u73 u74 u75 u76 u77 u78 u79 u80 u81 u82 u83 u84 u85 u86 u87 u88 u89 u90 u91 u92 u93 u94 u95 u96 u97 u98 u99 u100 u101 u102 u103 u104 u105 u106 u107 u108 u109 u110 u111 u112 u113 u114 u115 u116 u117 u118 u119 u120 u121 u122 u123 u124 u125 u126 u127 u128 u129 u130 u131 k hk HJ wa hlt d0 hlt2 b1 off1 HA HA1 hb1 b2 off2 HB HB1 hb2 E kt vp op node mode table row col var goes eq frm upto ka kc va vc kt2 vp2 node2 col2 var2 goes2 eq2 frm2 upto2 ka2 kc2 va2 vc2 hf2 HK1 HK2 HV1 HV2 HE1 HE2 HF1 HF3 _ _ wc u20 u21 u22 u23 u24 u25 u26 u27 gx gy w3 HCX HXA HXX HK1' HK2' _ _ HNF x0 y0 x2 y2 x3 y3 x4 HYS HNO HE HCY y4 x5 y5 hcol
  have n0 : (col == col2) = false := beq_eq_false_iff_ne.2 hcol
  have n1 : (col != col2) = true := bne_iff_ne.2 hcol
  have HBF := Lib.hid (HNF.out (by rw [← HE.out, n0]; simp))
  clear hcol HE HNO HYS HNF

  go_wp2_with fail
  go_ret
  rw [HBF.out]
  exact ⟨rfl, HXX.out⟩
set_option maxRecDepth 100000 in
set_option maxHeartbeats 32000000 in
theorem rsame_anyP6 : rsame_anyX.2.2.2.2.2.1 := by
  intro _
  intros
  rename_i l m c d w hlen bb HO HFA e0 e1 HLW _ _ u4 u6 u7 u8 u14 u15 u16 u17 u18 u19 u28 u29 u30 u31 u32 u33 u34 u35 u36 u37 u38 u39 u40 u41 u42 u43 u44 u45 u46 u47 u48 u49 u50 u51 u52 u53 u54 u55 u56 u57 u58 u59 u60 u61 u62 u63 u64 u65 u66 u67 u68 u69 u70 u71 u72 u73 u74 u75 u76 u77 u78 u79 u80 u81 u82 u83 u84 u85 u86 u87 u88 u89 u90 u91 u92 u93 u94 u95 u96 u97 u98 u99 u100 u101 u102 u103 u104 u105 u106 u107 u108 u109 u110 u111 u112 u113 u114 u115 u116 u117 u118 u119 u120 u121 u122 u123 u124 u125 u126 u127 u128 u129 u130 u131 k hk HJ wa hlt d0 hlt2 b1 off1 HA HA1 hb1 b2 off2 HB HB1 hb2 E kt vp op node mode table row col var goes eq frm upto ka kc va vc kt2 vp2 node2 var2 goes2 eq2 frm2 upto2 ka2 kc2 va2 vc2 hf2 HK1 HK2 HV1 HV2 HE1 HE2 HF1 HF3 _ _ wc u20 u21 u22 u23 u24 u25 u26 u27 gx gy w3 HCX HXA HXX HK1' HK2' _ _ HNF x0 y0 x2 y2 x3 y3 x4 y4 x5 HYS HNO HE HCY y5 x6 y6 hvar
  have n0 : (var == var2) = false := beq_eq_false_iff_ne.2 hvar
  have n1 : (var != var2) = true := bne_iff_ne.2 hvar
  have HBF := Lib.hid (HNF.out (by rw [← HE.out, n0]; simp))
  clear hvar HE HNO HYS HNF

  go_wp2_with fail
  go_ret
  rw [HBF.out]
  exact ⟨rfl, HXX.out⟩
set_option maxRecDepth 100000 in
set_option maxHeartbeats 32000000 in
theorem rsame_anyP7 : rsame_anyX.2.2.2.2.2.2.1 := by
  intro _
  intros
  rename_i l m c d w hlen bb HO HFA e0 e1 HLW _ _ u4 u6 u7 u8 u14 u15 u16 u17 u18 u19 u28 u29 u30 u31 u32 u33 u34 u35 u36 u37 u38 u39 u40 u41 u42 u43 u44 u45 u46 u47 u48 u49 u50 u51 u52 u53 u54 u55 u56 u57 u58 u59 u60 u61 u62 u63 u64 u65 u66 u67 u68 u69 u70 u71 u72 u73 u74 u75 u76 u77 u78 u79 u80 u81 u82 u83 u84 u85 u86 u87 u88 u89 u90 u91 u92 u93 u94 u95 u96 u97 u98 u99 u100 u101 u102 u103 u104 u105 u106 u107 u108 u109 u110 u111 u112 u113 u114 u115 u116 u117 u118 u119 u120 u121 u122 u123 u124 u125 u126 u127 u128 u129 u130 u131 k hk HJ wa hlt d0 hlt2 b1 off1 HA HA1 hb1 b2 off2 HB HB1 hb2 E kt vp op node mode table row col var goes eq frm upto ka kc va vc kt2 vp2 node2 goes2 eq2 frm2 upto2 ka2 kc2 va2 vc2 hf2 HK1 HK2 HV1 HV2 HE1 HE2 HF1 HF3 _ _ wc u20 u21 u22 u23 u24 u25 u26 u27 gx gy w3 HCX HXA HXX HK1' HK2' _ _ HNF x0 y0 x2 y2 x3 y3 x4 y4 x5 y5 x6 HYS HNO HE HCY y6 x7 y7 hgoes
  have n0 : (goes == goes2) = false := beq_eq_false_iff_ne.2 hgoes
  have n1 : (goes != goes2) = true := bne_iff_ne.2 hgoes
  have HBF := Lib.hid (HNF.out (by rw [← HE.out, n0]; simp))
  clear hgoes HE HNO HYS HNF

  go_wp2_with fail
  go_ret
  rw [HBF.out]
  exact ⟨rfl, HXX.out⟩
set_option maxRecDepth 100000 in
set_option maxHeartbeats 32000000 in
theorem rsame_anyP8 : rsame_anyX.2.2.2.2.2.2.2.1 := by
  intro _
  intros
  rename_i l m c d w hlen bb HO HFA e0 e1 HLW _ _ u4 u6 u7 u8 u14 u15 u16 u17 u18 u19 u28 u29 u30 u31 u32 u33 u34 u35 u36 u37 u38 u39 u40 u41 u42 u43 u44 u45 u46 u47 u48 u49 u50 u51 u52 u53 u54 u55 u56 u57 u58 u59 u60 u61 u62 u63 u64 u65 u66 u67 u68 u69 u70 u71 u72 u73 u74 u75 u76 u77 u78 u79 u80 u81 u82 u83 u84 u85 u86 u87 u88 u89 u90 u91 u92 u93 u94 u95 u96 u97 u98 u99 u100 u101 u102 u103 u104 u105 u106 u107 u108 u109 u110 u111 u112 u113 u114 u115 u116 u117 u118 u119 u120 u121 u122 u123 u124 u125 u126 u127 u128 u129 u130 u131 k hk HJ wa hlt d0 hlt2 b1 off1 HA HA1 hb1 b2 off2 HB HB1 hb2 E kt vp op node mode table row col var goes eq frm upto ka kc va vc kt2 vp2 node2 eq2 frm2 upto2 ka2 kc2 va2 vc2 hf2 HK1 HK2 HV1 HV2 HE1 HE2 HF1 HF3 _ _ wc u20 u21 u22 u23 u24 u25 u26 u27 gx gy w3 HCX HXA HXX HK1' HK2' _ _ HNF x0 y0 x2 y2 x3 y3 x4 y4 x5 y5 x6 y6 x7 HYS HNO HE HCY y7 x8 y8 heq
  have n0 : (eq == eq2) = false := beq_eq_false_iff_ne.2 heq
  have n1 : (eq != eq2) = true := bne_iff_ne.2 heq
  have HBF := Lib.hid (HNF.out (by rw [← HE.out, n0]; simp))
  clear heq HE HNO HYS HNF

  go_wp2_with fail
  go_ret
  rw [HBF.out]
  exact ⟨rfl, HXX.out⟩
end Go.Proofs.Ytngbpaiohfokbaa
