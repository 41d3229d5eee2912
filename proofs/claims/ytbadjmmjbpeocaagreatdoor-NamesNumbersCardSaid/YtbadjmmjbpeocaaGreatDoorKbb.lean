/- The closure of tree.fits, walked. (and what follows of it). The conditions stand at each lemma. -/
import Derived.Test.YtbadjmmjbpeocaaGreatDoorKaa
import Derived.Test.YtbadjmmjbpeocaaGreatDoorKba
import Derived.Test.YtbadjmmjbpeocaaGreatDoorKaz
import Derived.Test.YtbadjmmjbpeocaaGreatDoorKau
set_option linter.unusedVariables false
set_option linter.unusedSimpArgs false
set_option maxRecDepth 100000
set_option maxHeartbeats 16000000
namespace Go.Proofs.YtbadjmmjbpeocaaGreatDoor.TT
open Go Go.RowKit
theorem VP (f:vQ)(cs:List Value)(L:Option Addr)(ls:List Int)(n lc:Nat)(w:World)(hn:n=ls.length)(hf:zC3 w f cs)(hl:Cells w L (vB ls))(hlen:ls.length≤9000)(b:Bool)(hb:f.fits ls=b) :
  Calls Tryz.prog 101 #[.agg (Array.mk cs),.slice L n lc] w fun e w'=>e=.returned (.bool b)∧Ext w w':=by
 subst hb;exact zP8 f cs L ls n lc w hn hf hl hlen
theorem zF8 (s:ByteArray)(w:World)(hs:s.size≤9000)(b:Bool)(hb:VQ s.data.toList=b):Calls Tryz.prog 102 #[.string s] w fun e w'=>e=.returned (.bool b)∧Ext w w':=by
 subst hb;exact zOk s w hs
theorem zQG (f:vQ)(cs:List Value)(L:Option Addr)(ls:List Int)(n lc gk gn:Nat)(x:xR)(w:World)(hn:n=ls.length)(hf:zC3 w f cs)(hl:Cells w L (vB ls))(hlen:ls.length≤9000)(hx:x.text.size≤9000)
  (hgk:Blk w gk 22 #[.slice L n lc]) (hgn:Blk w gn 39 (Array.mk x.cells)) :
  Calls Tryz.prog 100 #[.agg (Array.mk cs),.pointer (some ⟨gk,0,none⟩),.pointer (some ⟨gn,0,none⟩)] w fun e w'=>e=.returned (.bool (YD f x.num x.text.data.toList ls))∧Ext w w':=by
 subst hn;obtain⟨kind,pos,text,num,kA,kc,kids⟩:=x;obtain⟨ks,mv,rfl,hks,hmv⟩:=hf;have hform:zC3 w f [ks,mv,.bool f.named,.int .i64 f.most]:=⟨ks,mv,rfl,hks,hmv⟩;obtain⟨KA,kcc,rfl,-⟩:=hks.open_
 have hmf:mv=.nilFunc∨∃fm lm,mv=.func (.func fm) #[] lm:=by
  cases hm:f.more with
  | none=>rw[hm] at hmv; exact .inl hmv
  | some q=>rw[hm] at hmv; obtain⟨fm,lm,h3,_⟩:=zBk.form hmv; exact .inr ⟨fm,lm,h3⟩
 simp only at hx
 unfold xR.cells at hgn
 simp only at hgn
 have HF:=yG hform;have HL:=yG hl;have HGK:=yG hgk;have HGN:=yG hgn;clear hks hmv hform hl hgk hgn;obtain⟨nm,HNM⟩:∃nm,Hid (f.named=nm):=⟨_,yG rfl⟩;obtain⟨mo,HMO⟩:∃mo,Hid (f.most=mo):=⟨_,yG rfl⟩;have HOK:Hid (YD f num text.data.toList ls=(f.fits ls&&(decide (0≤num)&&(decide (num≤mo)&&((nm&&VQ text.data.toList)||(!nm&&text.data.toList.isEmpty)))))):=yG (by rw[←HNM.out,←HMO.out]; rfl)
 show Calls Tryz.prog 100 #[.agg #[.slice KA f.kids.length kcc,mv,.bool f.named,.int .i64 f.most],.pointer (some ⟨gk,0,none⟩),.pointer (some ⟨gn,0,none⟩)] w fun e w'=>e=.returned (.bool (YD f num text.data.toList ls))∧Ext w w'
 rw[HNM.out,HMO.out] at HF ⊢;have HT:Hid (text.toList=text.data.toList):=yG (ByteArray.toList_eq _)
 cases hF:f.fits ls
 case false=>
  have HR:Hid (YD f num text.data.toList ls=false):=yG (by rw[HOK.out]; rw[hF]; rfl);have hF:=yG hF
  rcases hmf with rfl | ⟨fm,lm,rfl⟩
  ·have hbx:=Blk.new w 181 #[.slice KA f.kids.length kcc,.nilFunc,.bool nm,.int .i64 mo];have hxa:=Ext.alloc w (.cells #[.slice KA f.kids.length kcc,.nilFunc,.bool nm,.int .i64 mo] 181);have HBX:=yG hbx;have HXA:=yG hxa;clear hbx hxa
   go_enter Tryz.func100,Tryz.ntmps100
   have c0:=(HGK.out.ext HXA.out).cell 0
   go_wp2_with fail
   refine(VP f _ L ls _ lc _ rfl (HF.out.kept (Kept.ZJ HXA.out)) (HL.out.ext HXA.out) hlen false hF.out).mono ?_;rintro e w1 ⟨rfl,hx1⟩;have hB1:=HBX.out.ext hx1;have hN1:=HGN.out.ext (HXA.out.trans hx1);have HB1:=yG hB1;have HN1:=yG hN1;have HX1:Hid (Ext w w1):=yG (HXA.out.trans hx1);clear hx1 hB1 hN1 c0;generalize w.heap.size=ga at *;have b2:=HB1.out.cell 2;have b3:=HB1.out.cell 3;have n2:=HN1.out.cell 2;have n3:=HN1.out.cell 3
   go_wp2_with fail
   go_ret;exact⟨jM HR.out.symm,HX1.out⟩
  ·have hbx:=Blk.new w 181 #[.slice KA f.kids.length kcc,(.func (.func fm) #[] lm),.bool nm,.int .i64 mo];have hxa:=Ext.alloc w (.cells #[.slice KA f.kids.length kcc,(.func (.func fm) #[] lm),.bool nm,.int .i64 mo] 181);have HBX:=yG hbx;have HXA:=yG hxa;clear hbx hxa
   go_enter Tryz.func100,Tryz.ntmps100
   have c0:=(HGK.out.ext HXA.out).cell 0
   go_wp2_with fail
   refine(VP f _ L ls _ lc _ rfl (HF.out.kept (Kept.ZJ HXA.out)) (HL.out.ext HXA.out) hlen false hF.out).mono ?_;rintro e w1 ⟨rfl,hx1⟩;have hB1:=HBX.out.ext hx1;have hN1:=HGN.out.ext (HXA.out.trans hx1);have HB1:=yG hB1;have HN1:=yG hN1;have HX1:Hid (Ext w w1):=yG (HXA.out.trans hx1);clear hx1 hB1 hN1 c0;generalize w.heap.size=ga at *;have b2:=HB1.out.cell 2;have b3:=HB1.out.cell 3;have n2:=HN1.out.cell 2;have n3:=HN1.out.cell 3
   go_wp2_with fail
   go_ret;exact⟨jM HR.out.symm,HX1.out⟩
 case true=>
  by_cases h1:0≤num
  case neg=>
   have d1:decide (0≤num)=false:=yR h1;have HR:Hid (YD f num text.data.toList ls=false):=yG (by rw[HOK.out]; rw[hF,d1]; rfl);have hF:=yG hF
   rcases hmf with rfl | ⟨fm,lm,rfl⟩
   ·have hbx:=Blk.new w 181 #[.slice KA f.kids.length kcc,.nilFunc,.bool nm,.int .i64 mo];have hxa:=Ext.alloc w (.cells #[.slice KA f.kids.length kcc,.nilFunc,.bool nm,.int .i64 mo] 181);have HBX:=yG hbx;have HXA:=yG hxa;clear hbx hxa
    go_enter Tryz.func100,Tryz.ntmps100
    have c0:=(HGK.out.ext HXA.out).cell 0
    go_wp2_with fail
    refine(VP f _ L ls _ lc _ rfl (HF.out.kept (Kept.ZJ HXA.out)) (HL.out.ext HXA.out) hlen true hF.out).mono ?_;rintro e w1 ⟨rfl,hx1⟩;have hB1:=HBX.out.ext hx1;have hN1:=HGN.out.ext (HXA.out.trans hx1);have HB1:=yG hB1;have HN1:=yG hN1;have HX1:Hid (Ext w w1):=yG (HXA.out.trans hx1);clear hx1 hB1 hN1 c0;generalize w.heap.size=ga at *;have b2:=HB1.out.cell 2;have b3:=HB1.out.cell 3;have n2:=HN1.out.cell 2;have n3:=HN1.out.cell 3
    go_wp2_with fail
    go_ret;exact⟨jM HR.out.symm,HX1.out⟩
   ·have hbx:=Blk.new w 181 #[.slice KA f.kids.length kcc,(.func (.func fm) #[] lm),.bool nm,.int .i64 mo];have hxa:=Ext.alloc w (.cells #[.slice KA f.kids.length kcc,(.func (.func fm) #[] lm),.bool nm,.int .i64 mo] 181);have HBX:=yG hbx;have HXA:=yG hxa;clear hbx hxa
    go_enter Tryz.func100,Tryz.ntmps100
    have c0:=(HGK.out.ext HXA.out).cell 0
    go_wp2_with fail
    refine(VP f _ L ls _ lc _ rfl (HF.out.kept (Kept.ZJ HXA.out)) (HL.out.ext HXA.out) hlen true hF.out).mono ?_;rintro e w1 ⟨rfl,hx1⟩;have hB1:=HBX.out.ext hx1;have hN1:=HGN.out.ext (HXA.out.trans hx1);have HB1:=yG hB1;have HN1:=yG hN1;have HX1:Hid (Ext w w1):=yG (HXA.out.trans hx1);clear hx1 hB1 hN1 c0;generalize w.heap.size=ga at *;have b2:=HB1.out.cell 2;have b3:=HB1.out.cell 3;have n2:=HN1.out.cell 2;have n3:=HN1.out.cell 3
    go_wp2_with fail
    go_ret;exact⟨jM HR.out.symm,HX1.out⟩
  case pos=>
   have d1:decide (0≤num)=true:=yS h1
   by_cases h2:num≤mo
   case neg=>
    have d2:decide (num≤mo)=false:=yR h2;have HR:Hid (YD f num text.data.toList ls=false):=yG (by rw[HOK.out]; rw[hF,d1,d2]; rfl);have hF:=yG hF
    rcases hmf with rfl | ⟨fm,lm,rfl⟩
    ·have hbx:=Blk.new w 181 #[.slice KA f.kids.length kcc,.nilFunc,.bool nm,.int .i64 mo];have hxa:=Ext.alloc w (.cells #[.slice KA f.kids.length kcc,.nilFunc,.bool nm,.int .i64 mo] 181);have HBX:=yG hbx;have HXA:=yG hxa;clear hbx hxa
     go_enter Tryz.func100,Tryz.ntmps100
     have c0:=(HGK.out.ext HXA.out).cell 0
     go_wp2_with fail
     refine(VP f _ L ls _ lc _ rfl (HF.out.kept (Kept.ZJ HXA.out)) (HL.out.ext HXA.out) hlen true hF.out).mono ?_;rintro e w1 ⟨rfl,hx1⟩;have hB1:=HBX.out.ext hx1;have hN1:=HGN.out.ext (HXA.out.trans hx1);have HB1:=yG hB1;have HN1:=yG hN1;have HX1:Hid (Ext w w1):=yG (HXA.out.trans hx1);clear hx1 hB1 hN1 c0;generalize w.heap.size=ga at *;have b2:=HB1.out.cell 2;have b3:=HB1.out.cell 3;have n2:=HN1.out.cell 2;have n3:=HN1.out.cell 3
     go_wp2_with fail
     go_ret;exact⟨jM HR.out.symm,HX1.out⟩
    ·have hbx:=Blk.new w 181 #[.slice KA f.kids.length kcc,(.func (.func fm) #[] lm),.bool nm,.int .i64 mo];have hxa:=Ext.alloc w (.cells #[.slice KA f.kids.length kcc,(.func (.func fm) #[] lm),.bool nm,.int .i64 mo] 181);have HBX:=yG hbx;have HXA:=yG hxa;clear hbx hxa
     go_enter Tryz.func100,Tryz.ntmps100
     have c0:=(HGK.out.ext HXA.out).cell 0
     go_wp2_with fail
     refine(VP f _ L ls _ lc _ rfl (HF.out.kept (Kept.ZJ HXA.out)) (HL.out.ext HXA.out) hlen true hF.out).mono ?_;rintro e w1 ⟨rfl,hx1⟩;have hB1:=HBX.out.ext hx1;have hN1:=HGN.out.ext (HXA.out.trans hx1);have HB1:=yG hB1;have HN1:=yG hN1;have HX1:Hid (Ext w w1):=yG (HXA.out.trans hx1);clear hx1 hB1 hN1 c0;generalize w.heap.size=ga at *;have b2:=HB1.out.cell 2;have b3:=HB1.out.cell 3;have n2:=HN1.out.cell 2;have n3:=HN1.out.cell 3
     go_wp2_with fail
     go_ret;exact⟨jM HR.out.symm,HX1.out⟩
   case pos=>
    have d2:decide (num≤mo)=true:=yS h2
    cases nm with
    | true=>
     cases hI:VQ text.data.toList with
     | true=>
      have HR:Hid (YD f num text.data.toList ls=true):=yG (by rw[HOK.out]; rw[hF,d1,d2,hI]; rfl);have hF:=yG hF;have hI:=yG hI
      rcases hmf with rfl | ⟨fm,lm,rfl⟩
      ·have hbx:=Blk.new w 181 #[.slice KA f.kids.length kcc,.nilFunc,.bool true,.int .i64 mo];have hxa:=Ext.alloc w (.cells #[.slice KA f.kids.length kcc,.nilFunc,.bool true,.int .i64 mo] 181);have HBX:=yG hbx;have HXA:=yG hxa;clear hbx hxa
       go_enter Tryz.func100,Tryz.ntmps100
       have c0:=(HGK.out.ext HXA.out).cell 0
       go_wp2_with fail
       refine(VP f _ L ls _ lc _ rfl (HF.out.kept (Kept.ZJ HXA.out)) (HL.out.ext HXA.out) hlen true hF.out).mono ?_;rintro e w1 ⟨rfl,hx1⟩;have hB1:=HBX.out.ext hx1;have hN1:=HGN.out.ext (HXA.out.trans hx1);have HB1:=yG hB1;have HN1:=yG hN1;have HX1:Hid (Ext w w1):=yG (HXA.out.trans hx1);clear hx1 hB1 hN1 c0;generalize w.heap.size=ga at *;have b2:=HB1.out.cell 2;have b3:=HB1.out.cell 3;have n2:=HN1.out.cell 2;have n3:=HN1.out.cell 3
       go_wp2_with fail
       refine(zF8 text _ hx true hI.out).mono ?_;rintro e w2 ⟨rfl,hx2⟩;have HX2:Hid (Ext w w2):=yG (HX1.out.trans hx2);have hB2:=HB1.out.ext hx2;have hN2:=HN1.out.ext hx2;have HB2:=yG hB2;have HN2:=yG hN2;clear hx2 hB2 hN2 b2 b3 n2 n3;have b2:=HB2.out.cell 2;have b3:=HB2.out.cell 3;have n2:=HN2.out.cell 2;have n3:=HN2.out.cell 3
       go_wp2_with fail
       go_ret;exact⟨jM HR.out.symm,HX2.out⟩
      ·have hbx:=Blk.new w 181 #[.slice KA f.kids.length kcc,(.func (.func fm) #[] lm),.bool true,.int .i64 mo];have hxa:=Ext.alloc w (.cells #[.slice KA f.kids.length kcc,(.func (.func fm) #[] lm),.bool true,.int .i64 mo] 181);have HBX:=yG hbx;have HXA:=yG hxa;clear hbx hxa
       go_enter Tryz.func100,Tryz.ntmps100
       have c0:=(HGK.out.ext HXA.out).cell 0
       go_wp2_with fail
       refine(VP f _ L ls _ lc _ rfl (HF.out.kept (Kept.ZJ HXA.out)) (HL.out.ext HXA.out) hlen true hF.out).mono ?_;rintro e w1 ⟨rfl,hx1⟩;have hB1:=HBX.out.ext hx1;have hN1:=HGN.out.ext (HXA.out.trans hx1);have HB1:=yG hB1;have HN1:=yG hN1;have HX1:Hid (Ext w w1):=yG (HXA.out.trans hx1);clear hx1 hB1 hN1 c0;generalize w.heap.size=ga at *;have b2:=HB1.out.cell 2;have b3:=HB1.out.cell 3;have n2:=HN1.out.cell 2;have n3:=HN1.out.cell 3
       go_wp2_with fail
       refine(zF8 text _ hx true hI.out).mono ?_;rintro e w2 ⟨rfl,hx2⟩;have HX2:Hid (Ext w w2):=yG (HX1.out.trans hx2);have hB2:=HB1.out.ext hx2;have hN2:=HN1.out.ext hx2;have HB2:=yG hB2;have HN2:=yG hN2;clear hx2 hB2 hN2 b2 b3 n2 n3;have b2:=HB2.out.cell 2;have b3:=HB2.out.cell 3;have n2:=HN2.out.cell 2;have n3:=HN2.out.cell 3
       go_wp2_with fail
       go_ret;exact⟨jM HR.out.symm,HX2.out⟩
     | false=>
      have HR:Hid (YD f num text.data.toList ls=false):=yG (by rw[HOK.out]; rw[hF,d1,d2,hI]; rfl);have hF:=yG hF;have hI:=yG hI
      rcases hmf with rfl | ⟨fm,lm,rfl⟩
      ·have hbx:=Blk.new w 181 #[.slice KA f.kids.length kcc,.nilFunc,.bool true,.int .i64 mo];have hxa:=Ext.alloc w (.cells #[.slice KA f.kids.length kcc,.nilFunc,.bool true,.int .i64 mo] 181);have HBX:=yG hbx;have HXA:=yG hxa;clear hbx hxa
       go_enter Tryz.func100,Tryz.ntmps100
       have c0:=(HGK.out.ext HXA.out).cell 0
       go_wp2_with fail
       refine(VP f _ L ls _ lc _ rfl (HF.out.kept (Kept.ZJ HXA.out)) (HL.out.ext HXA.out) hlen true hF.out).mono ?_;rintro e w1 ⟨rfl,hx1⟩;have hB1:=HBX.out.ext hx1;have hN1:=HGN.out.ext (HXA.out.trans hx1);have HB1:=yG hB1;have HN1:=yG hN1;have HX1:Hid (Ext w w1):=yG (HXA.out.trans hx1);clear hx1 hB1 hN1 c0;generalize w.heap.size=ga at *;have b2:=HB1.out.cell 2;have b3:=HB1.out.cell 3;have n2:=HN1.out.cell 2;have n3:=HN1.out.cell 3
       go_wp2_with fail
       refine(zF8 text _ hx false hI.out).mono ?_;rintro e w2 ⟨rfl,hx2⟩;have HX2:Hid (Ext w w2):=yG (HX1.out.trans hx2);have hB2:=HB1.out.ext hx2;have hN2:=HN1.out.ext hx2;have HB2:=yG hB2;have HN2:=yG hN2;clear hx2 hB2 hN2 b2 b3 n2 n3;have b2:=HB2.out.cell 2;have b3:=HB2.out.cell 3;have n2:=HN2.out.cell 2;have n3:=HN2.out.cell 3
       go_wp2_with fail
       go_ret;exact⟨jM HR.out.symm,HX2.out⟩
      ·have hbx:=Blk.new w 181 #[.slice KA f.kids.length kcc,(.func (.func fm) #[] lm),.bool true,.int .i64 mo];have hxa:=Ext.alloc w (.cells #[.slice KA f.kids.length kcc,(.func (.func fm) #[] lm),.bool true,.int .i64 mo] 181);have HBX:=yG hbx;have HXA:=yG hxa;clear hbx hxa
       go_enter Tryz.func100,Tryz.ntmps100
       have c0:=(HGK.out.ext HXA.out).cell 0
       go_wp2_with fail
       refine(VP f _ L ls _ lc _ rfl (HF.out.kept (Kept.ZJ HXA.out)) (HL.out.ext HXA.out) hlen true hF.out).mono ?_;rintro e w1 ⟨rfl,hx1⟩;have hB1:=HBX.out.ext hx1;have hN1:=HGN.out.ext (HXA.out.trans hx1);have HB1:=yG hB1;have HN1:=yG hN1;have HX1:Hid (Ext w w1):=yG (HXA.out.trans hx1);clear hx1 hB1 hN1 c0;generalize w.heap.size=ga at *;have b2:=HB1.out.cell 2;have b3:=HB1.out.cell 3;have n2:=HN1.out.cell 2;have n3:=HN1.out.cell 3
       go_wp2_with fail
       refine(zF8 text _ hx false hI.out).mono ?_;rintro e w2 ⟨rfl,hx2⟩;have HX2:Hid (Ext w w2):=yG (HX1.out.trans hx2);have hB2:=HB1.out.ext hx2;have hN2:=HN1.out.ext hx2;have HB2:=yG hB2;have HN2:=yG hN2;clear hx2 hB2 hN2 b2 b3 n2 n3;have b2:=HB2.out.cell 2;have b3:=HB2.out.cell 3;have n2:=HN2.out.cell 2;have n3:=HN2.out.cell 3
       go_wp2_with fail
       go_ret;exact⟨jM HR.out.symm,HX2.out⟩
    | false=>
     by_cases h3:text.data.toList=[]
     case pos=>
      have HR0:text.data.toList.isEmpty=true:=by rw[h3]; rfl
      have e3:text.toList=[]:=by rw[HT.out]; exact h3
      have HR:Hid (YD f num text.data.toList ls=true):=yG (by rw[HOK.out]; rw[hF,d1,d2,HR0]; rfl);have hF:=yG hF;have H3:=yG h3;clear h3 HR0
      rcases hmf with rfl | ⟨fm,lm,rfl⟩
      ·have hbx:=Blk.new w 181 #[.slice KA f.kids.length kcc,.nilFunc,.bool false,.int .i64 mo];have hxa:=Ext.alloc w (.cells #[.slice KA f.kids.length kcc,.nilFunc,.bool false,.int .i64 mo] 181);have HBX:=yG hbx;have HXA:=yG hxa;clear hbx hxa
       go_enter Tryz.func100,Tryz.ntmps100
       have c0:=(HGK.out.ext HXA.out).cell 0
       go_wp2_with fail
       refine(VP f _ L ls _ lc _ rfl (HF.out.kept (Kept.ZJ HXA.out)) (HL.out.ext HXA.out) hlen true hF.out).mono ?_;rintro e w1 ⟨rfl,hx1⟩;have hB1:=HBX.out.ext hx1;have hN1:=HGN.out.ext (HXA.out.trans hx1);have HB1:=yG hB1;have HN1:=yG hN1;have HX1:Hid (Ext w w1):=yG (HXA.out.trans hx1);clear hx1 hB1 hN1 c0;generalize w.heap.size=ga at *;have b2:=HB1.out.cell 2;have b3:=HB1.out.cell 3;have n2:=HN1.out.cell 2;have n3:=HN1.out.cell 3
       go_wp2_with fail
       go_ret;exact⟨jM HR.out.symm,HX1.out⟩
      ·have hbx:=Blk.new w 181 #[.slice KA f.kids.length kcc,(.func (.func fm) #[] lm),.bool false,.int .i64 mo];have hxa:=Ext.alloc w (.cells #[.slice KA f.kids.length kcc,(.func (.func fm) #[] lm),.bool false,.int .i64 mo] 181);have HBX:=yG hbx;have HXA:=yG hxa;clear hbx hxa
       go_enter Tryz.func100,Tryz.ntmps100
       have c0:=(HGK.out.ext HXA.out).cell 0
       go_wp2_with fail
       refine(VP f _ L ls _ lc _ rfl (HF.out.kept (Kept.ZJ HXA.out)) (HL.out.ext HXA.out) hlen true hF.out).mono ?_;rintro e w1 ⟨rfl,hx1⟩;have hB1:=HBX.out.ext hx1;have hN1:=HGN.out.ext (HXA.out.trans hx1);have HB1:=yG hB1;have HN1:=yG hN1;have HX1:Hid (Ext w w1):=yG (HXA.out.trans hx1);clear hx1 hB1 hN1 c0;generalize w.heap.size=ga at *;have b2:=HB1.out.cell 2;have b3:=HB1.out.cell 3;have n2:=HN1.out.cell 2;have n3:=HN1.out.cell 3
       go_wp2_with fail
       go_ret;exact⟨jM HR.out.symm,HX1.out⟩
     case neg=>
      have HR0:text.data.toList.isEmpty=false:=by simpa using h3
      have e3:¬text.toList=[]:=by rw[HT.out]; exact h3
      have e4:text.toList.isEmpty=false:=by simpa using e3
      have HR:Hid (YD f num text.data.toList ls=false):=yG (by rw[HOK.out]; rw[hF,d1,d2,HR0]; rfl);have hF:=yG hF;have H3:=yG h3;clear h3 HR0
      rcases hmf with rfl | ⟨fm,lm,rfl⟩
      ·have hbx:=Blk.new w 181 #[.slice KA f.kids.length kcc,.nilFunc,.bool false,.int .i64 mo];have hxa:=Ext.alloc w (.cells #[.slice KA f.kids.length kcc,.nilFunc,.bool false,.int .i64 mo] 181);have HBX:=yG hbx;have HXA:=yG hxa;clear hbx hxa
       go_enter Tryz.func100,Tryz.ntmps100
       have c0:=(HGK.out.ext HXA.out).cell 0
       go_wp2_with fail
       refine(VP f _ L ls _ lc _ rfl (HF.out.kept (Kept.ZJ HXA.out)) (HL.out.ext HXA.out) hlen true hF.out).mono ?_;rintro e w1 ⟨rfl,hx1⟩;have hB1:=HBX.out.ext hx1;have hN1:=HGN.out.ext (HXA.out.trans hx1);have HB1:=yG hB1;have HN1:=yG hN1;have HX1:Hid (Ext w w1):=yG (HXA.out.trans hx1);clear hx1 hB1 hN1 c0;generalize w.heap.size=ga at *;have b2:=HB1.out.cell 2;have b3:=HB1.out.cell 3;have n2:=HN1.out.cell 2;have n3:=HN1.out.cell 3
       go_wp2_with fail
       go_ret;exact⟨jM HR.out.symm,HX1.out⟩
      ·have hbx:=Blk.new w 181 #[.slice KA f.kids.length kcc,(.func (.func fm) #[] lm),.bool false,.int .i64 mo];have hxa:=Ext.alloc w (.cells #[.slice KA f.kids.length kcc,(.func (.func fm) #[] lm),.bool false,.int .i64 mo] 181);have HBX:=yG hbx;have HXA:=yG hxa;clear hbx hxa
       go_enter Tryz.func100,Tryz.ntmps100
       have c0:=(HGK.out.ext HXA.out).cell 0
       go_wp2_with fail
       refine(VP f _ L ls _ lc _ rfl (HF.out.kept (Kept.ZJ HXA.out)) (HL.out.ext HXA.out) hlen true hF.out).mono ?_;rintro e w1 ⟨rfl,hx1⟩;have hB1:=HBX.out.ext hx1;have hN1:=HGN.out.ext (HXA.out.trans hx1);have HB1:=yG hB1;have HN1:=yG hN1;have HX1:Hid (Ext w w1):=yG (HXA.out.trans hx1);clear hx1 hB1 hN1 c0;generalize w.heap.size=ga at *;have b2:=HB1.out.cell 2;have b3:=HB1.out.cell 3;have n2:=HN1.out.cell 2;have n3:=HN1.out.cell 3
       go_wp2_with fail
       go_ret;exact⟨jM HR.out.symm,HX1.out⟩
theorem zSn (css:List (List Value))(h:∀cs ∈ css,cs.length=4):∀(i j:Nat) (hi:i<css.length),j<4→css.flatten[i*4+j]?=(css[i])[j]?:=by
 induction css with
 | nil=>intro i j hi; simp at hi
 | cons a l ih=>
  intro i j hi hj;have ha:=h a (by simp);rw[List.flatten_cons]
  match i,hi with
  | 0,_=>rw[Nat.zero_mul,Nat.zero_add,List.getElem?_append_left (by omega)]; rfl
  | i+1,hi=>
   rw[List.getElem?_append_right (by omega),ha,show(i+1)*4+j-4=i*4+j from by omega];exact ih (fun cs hc=>h cs (by simp[hc])) i j (by simpa using hi) hj
theorem zGD.mem {α β:Type}{R:α→β→Prop}:∀ {l:List α} {m:List β} (h:zGD R l m),∀b ∈ m,∃a,R a b
 | [],[],_=>fun b hb=>by cases hb
 | a::l,c::m,⟨h1,h2⟩=>fun b hb=>by
  rcases List.mem_cons.1 hb with rfl | hb
  ·exact⟨a,h1⟩
  ·exact h2.mem b hb
 | [],_::_,h=>h.elim
 | _::_,[],h=>h.elim
theorem zBp.open_ {w:World}{fs:List vQ}{v:Value}(h:zBp w fs v):∃A c,v=.slice A fs.length c∧∀i (hi:i<fs.length),∃g cs,A=some ⟨g,0,none⟩∧g<w.heap.size∧(∀j,j<4→w.cell? ⟨g,i*4+j,none⟩=cs[j]?)∧zC3 w fs[i] cs:=by
 rcases h with ⟨h1,h2⟩ | ⟨g,css,h1,h2,h3⟩
 ·subst h1; exact⟨none,0,h2,fun i hi=>by simp at hi⟩
 ·refine⟨_,_,h1,fun i hi=>?_⟩;obtain⟨cs,hc,hk⟩:=h3.get i hi
  have hic:i<css.length:=by rw[←h3.len]; exact hi
  refine⟨g,cs,rfl,h2.lt,fun j hj=>?_,hk⟩;rw[h2.cell]
  have:=zSn css (fun cs hcs=>by obtain⟨a,ha⟩:=h3.mem cs hcs; exact ha.len) i j hic hj
  rw[yJ hic] at hc;injection hc with hc;rw[hc] at this
  simpa using this
theorem any_none {n:Nat}{q:Nat→Bool}(h:∀j,j<n→q j=false):(List.range n).any q=false:=by
 rw[List.any_eq_false];intro j hj;rw[h j (List.mem_range.1 hj)];exact Bool.false_ne_true
theorem any_some {n:Nat}{q:Nat→Bool}(j:Nat)(hj:j<n)(h:q j=true):(List.range n).any q=true:=List.any_eq_true.2 ⟨j,List.mem_range.2 hj,h⟩
theorem zKS {α:Type}(l:List α)(f:α→Bool)(d:α):((List.range l.length).any fun i=>f (l.getD i d))=l.any f:=by
 induction l with
 | nil=>rfl
 | cons x l ih=>
  rw[zK,List.range_succ_eq_map,List.any_cons,List.any_map,List.any_cons]
  congr 1
def zEE:vQ:=⟨[],none,false,0⟩
theorem zPo (b:Bool)(f:vQ)(cs:List Value)(L:Option Addr)(ls:List Int)(lc gk gn:Nat)(x:xR)(w:World)(hf:zC3 w f cs)(hl:Cells w L (vB ls))(hlen:ls.length≤9000)(hx:x.text.size≤9000)
  (hgk:Blk w gk 22 #[.slice L ls.length lc]) (hgn:Blk w gn 39 (Array.mk x.cells)) (hb:YD f x.num x.text.data.toList ls=b) :
  Calls Tryz.prog 100 #[.agg (Array.mk cs),.pointer (some ⟨gk,0,none⟩),.pointer (some ⟨gn,0,none⟩)] w fun e w'=>e=.returned (.bool b)∧Ext w w':=by
 subst hb;exact zQG f cs L ls _ lc gk gn x w rfl hf hl hlen hx hgk hgn
theorem zNu (fs:List vQ)(A:Option Addr)(n c:Nat)(L:Option Addr)(ls:List Int)(lc gk gn:Nat)(x:xR)(w:World)(hfs:zBp w fs (.slice A n c))(hfl:fs.length≤10)(hl:Cells w L (vB ls))(hlen:ls.length≤9000)(hx:x.text.size≤9000)
  (hgk:Blk w gk 22 #[.slice L ls.length lc]) (hgn:Blk w gn 39 (Array.mk x.cells)) :
  Calls Tryz.prog 125 #[.slice A n c,.func (.func 100) #[] #[.pointer (some ⟨gk,0,none⟩),.pointer (some ⟨gn,0,none⟩)]] w fun e w'=>∃r:Int,e=.returned (.int .i64 r)∧decide (0≤r)=(List.range fs.length).any (fun i=>YD (fs.getD i zEE) x.num x.text.data.toList ls)∧Ext w w':=by
 obtain⟨A',c',hv,hop⟩:=hfs.open_;injection hv with h1 h2 h3;subst h1 h2 h3;have HOP:=yG hop;have HL:=yG hl;have HGK:=yG hgk;have HGN:=yG hgn;clear hop hl hgk hgn hfs;obtain⟨q,HQ⟩:∃q:Nat→Bool,Hid ((fun i=>YD (fs.getD i zEE) x.num x.text.data.toList ls)=q):=⟨_,yG rfl⟩;rw[HQ.out]
 go_enter Tryz.func125,Tryz.ntmps125
 go_wp2_with fail
 go_loopw [8] (fun i wr=>∃k:Nat,k≤fs.length∧i=.int .i64 k∧Hid (Ext w wr)∧Hid (∀j,j<k→q j=false)) (fun i _=>fs.length-(intOf i).toNat)
 case atStart=>exact⟨0,zW _,rfl,yG (Ext.refl _),yG fun j hj=>by omega⟩
 case round=>
  obtain⟨k,hk,rfl,HX,HR⟩:=hrel;obtain⟨wa,rfl⟩:∃wa:World,wa=wr:=⟨_,rfl⟩
  by_cases hlt:k<fs.length
  ·have d0:decide ((k:Int)<(fs.length:Int))=true:=yS (by omega);obtain⟨g,cs,rfl,hg,hcell,hform⟩:=HOP.out k hlt;obtain⟨b,hb⟩:∃b,q k=b:=⟨_,rfl⟩;have HB:=yG hb
   have hfe:fs.getD k zEE=fs[k]:=by simp[yH,hlt]
   have HOK:Hid (YD fs[k] x.num x.text.data.toList ls=b):=yG (by rw[←hb,←HQ.out,←hfe]);have HFORM:=yG (hform.kept (Kept.ZJ HX.out));obtain⟨ks,mv,rfl,hks,hmv⟩:=hform;obtain⟨KA,kcc,rfl,-⟩:=hks.open_
   have hmf:mv=.nilFunc∨∃fm lm,mv=.func (.func fm) #[] lm:=by
    cases hm:fs[k].more with
    | none=>rw[hm] at hmv; exact .inl hmv
    | some q=>rw[hm] at hmv; obtain⟨fm,lm,h3,_⟩:=zBk.form hmv; exact .inr ⟨fm,lm,h3⟩
   clear hks hmv hb hfe;generalize fs[k]=f at *;have HC:Hid (∀j,j<4→wa.cell? ⟨g,k*4+j,none⟩=([Value.slice KA f.kids.length kcc,mv,.bool f.named,.int .i64 f.most])[j]?):=yG (fun j hj=>(HX.out.cell (p:=⟨g,k*4+j,none⟩) hg).trans (hcell j hj));clear hcell;have HL1:=yG (HL.out.ext HX.out);have HGK1:=yG (HGK.out.ext HX.out);have HGN1:=yG (HGN.out.ext HX.out)
   rcases hmf with rfl | ⟨fm,lm,rfl⟩
   all_goals
    have c0:wa.cell? ⟨g,k*4,none⟩=some (.slice KA f.kids.length kcc):=HC.out 0 (by omega);have c1:=HC.out 1 (by omega);have c2:=HC.out 2 (by omega);have c3:=HC.out 3 (by omega)
    cases b with
    | true=>
     go_wp2_with (refine(zPo true f _ L ls lc gk gn x _ HFORM.out HL1.out hlen hx HGK1.out HGN1.out HOK.out).mono ?_; rintro e w2 ⟨rfl,hx2⟩; have HX2:Hid (Ext w w2):=yG (HX.out.trans hx2); clear hx2)
     go_ret;exact⟨_,rfl,by rw[yS (by omega)]; exact(any_some k hlt HB.out).symm,HX2.out⟩
    | false=>
     go_wp2_with (refine(zPo false f _ L ls lc gk gn x _ HFORM.out HL1.out hlen hx HGK1.out HGN1.out HOK.out).mono ?_; rintro e w2 ⟨rfl,hx2⟩; have HX2:Hid (Ext w w2):=yG (HX.out.trans hx2); clear hx2)
     go_roundw
     case rel=>exact⟨k+1,by omega,by go_num,HX2,yG fun j hj=>by
      by_cases hjk:j=k
      ·subst hjk; exact HB.out
      ·exact HR.out j (by omega)⟩
     case measure=>simp[intOf]; omega
  ·obtain rfl:k=fs.length:=by omega
   have d0:decide ((fs.length:Int)<(fs.length:Int))=false:=by simp
   go_wp2_with fail
   go_ret;exact⟨_,rfl,by rw[any_none HR.out]; rfl,HX.out⟩
theorem zLQ (fs:List vQ)(v:Value)(L:Option Addr)(ls:List Int)(lc gk gn:Nat)(x:xR)(w:World)(hfs:zBp w fs v)(hfl:fs.length≤10)(hl:Cells w L (vB ls))(hlen:ls.length≤9000)(hx:x.text.size≤9000)
  (hgk:Blk w gk 22 #[.slice L ls.length lc]) (hgn:Blk w gn 39 (Array.mk x.cells)) :
  Calls Tryz.prog 98 #[v,.func (.func 100) #[] #[.pointer (some ⟨gk,0,none⟩),.pointer (some ⟨gn,0,none⟩)]] w fun e w'=>e=.returned (.bool (fs.any fun f=>YD f x.num x.text.data.toList ls))∧Ext w w':=by
 have HRA:Hid ((List.range fs.length).any (fun i=>YD (fs.getD i zEE) x.num x.text.data.toList ls)=fs.any fun f=>YD f x.num x.text.data.toList ls):=yG (zKS fs (fun f=>YD f x.num x.text.data.toList ls) zEE);obtain⟨A,c,rfl,-⟩:=hfs.open_
 go_enter Tryz.func98,Tryz.ntmps98
 go_wp2_with fail
 refine(zNu fs A _ c L ls lc gk gn x w hfs hfl hl hlen hx hgk hgn).mono ?_;rintro e w2 ⟨r,rfl,hr,hx2⟩;have HRR:=yG hr;have HX2:=yG hx2;clear hr hx2
 go_wp2_with fail
 go_ret;exact⟨jM (by rw[HRR.out,HRA.out]),HX2.out⟩
theorem zCo (k:Int)(w:World):Calls Tryz.prog 99 #[.int .u8 k] w fun e w'=>∃v,e=.returned v∧zBp w' (XW k) v∧Ext w w':=by
 have hz:∀w,(zeroValue 176).run Tryz.prog w=.ok (.slice none 0 0) w:=fun w=>by kernel_rfl
 have HZ:=yG hz;clear hz;have hmm:=@run_makeMap Tryz.prog;have h4:Blk (((((w.alloc (.cells #[.int .u8 20] 5)).alloc (.cells #[.int .u8 5] 5)).alloc (.cells #[.int .u8 6] 5)).alloc (.cells #[.int .u8 21] 5)).alloc (.map #[] 0)) w.heap.size 5 #[.int .u8 20]:=((((Blk.new w 5 #[.int .u8 20]).alloc _).alloc _).alloc _).alloc _;have h5:Blk (((((w.alloc (.cells #[.int .u8 20] 5)).alloc (.cells #[.int .u8 5] 5)).alloc (.cells #[.int .u8 6] 5)).alloc (.cells #[.int .u8 21] 5)).alloc (.map #[] 0)) (w.heap.size+1) 5 #[.int .u8 5]:=(((Blk.newAt (by simp)).alloc _).alloc _).alloc _;have h6:Blk (((((w.alloc (.cells #[.int .u8 20] 5)).alloc (.cells #[.int .u8 5] 5)).alloc (.cells #[.int .u8 6] 5)).alloc (.cells #[.int .u8 21] 5)).alloc (.map #[] 0)) (w.heap.size+1+1) 5 #[.int .u8 6]:=((Blk.newAt (by simp)).alloc _).alloc _;have h7:Blk (((((w.alloc (.cells #[.int .u8 20] 5)).alloc (.cells #[.int .u8 5] 5)).alloc (.cells #[.int .u8 6] 5)).alloc (.cells #[.int .u8 21] 5)).alloc (.map #[] 0)) (w.heap.size+1+1+1) 5 #[.int .u8 21]:=(Blk.newAt (by simp)).alloc _
 have hmap:ZN (((((w.alloc (.cells #[.int .u8 20] 5)).alloc (.cells #[.int .u8 5] 5)).alloc (.cells #[.int .u8 6] 5)).alloc (.cells #[.int .u8 21] 5)).alloc (.map #[] 0)) (w.heap.size+1+1+1+1) #[] 0:=by
  have:=ZN.new ((((w.alloc (.cells #[.int .u8 20] 5)).alloc (.cells #[.int .u8 5] 5)).alloc (.cells #[.int .u8 6] 5)).alloc (.cells #[.int .u8 21] 5))
  simpa using this
 have HST0:Hid (FSt w (((((w.alloc (.cells #[.int .u8 20] 5)).alloc (.cells #[.int .u8 5] 5)).alloc (.cells #[.int .u8 6] 5)).alloc (.cells #[.int .u8 21] 5)).alloc (.map #[] 0)) (w.heap.size+1+1+1+1) [] [] w.heap.size (w.heap.size+1) (w.heap.size+1+1) (w.heap.size+1+1+1)):=yG ⟨hmap,rfl,(fun x hx=>by cases hx),((((Ext.alloc _ _).trans (Ext.alloc _ _)).trans (Ext.alloc _ _)).trans (Ext.alloc _ _)).trans (Ext.alloc _ _),by omega,h4,h5,h6,h7⟩;clear h4 h5 h6 h7 hmap
 go_enter Tryz.func99,Tryz.ntmps99
 go_upto_region 3 with (go_at_call 127; refine(zIH _ _).mono ?_; rintro e w' ⟨rfl,rfl⟩)
 simp only[List.append_eq,yC,List.nil_append]
 go_wp2_with (first | (go_at_call 127; refine(zIH _ _).mono ?_; rintro e w' ⟨rfl,rfl⟩) | (refine zBN rfl (.tmp 13) (.const (.int .u8 1)) (.tmp 16) 1 _ rfl rfl rfl rfl (HST0.out.mono (Ext.alloc _ _)) (by exact vS rfl rfl (Blk.newAt (by simp)) VZ rfl) rfl ?_))
 intro w1 l1 hst1;have HST1:=yG hst1;clear hst1 HST0;clear hmm;generalize w.heap.size+1+1+1+1+1=r1 at *;generalize w.heap.size+1+1+1+1=r at *;generalize w.heap.size+1+1+1=g7 at *;generalize w.heap.size+1+1=g6 at *;generalize w.heap.size+1=g5 at *;generalize w.heap.size=g4 at *
 try simp only[Act.put]
 go_wp2_with ((refine zBN rfl (.tmp 13) (.const (.int .u8 2)) (.tmp 21) 2 _ rfl rfl rfl rfl (HST1.out.mono ((Ext.alloc _ _).trans (Ext.alloc _ _))) (by exact vS rfl rfl (Blk.newAt (by simp)) (zCm ((Blk.newAt (by simp)).alloc _) ⟨_,rfl,(HST1.out.mono ((Ext.alloc _ _).trans (Ext.alloc _ _))).k5⟩) ⟨_,rfl,(HST1.out.mono ((Ext.alloc _ _).trans (Ext.alloc _ _))).k5⟩) rfl ?_))
 intro w2 l2 hst2;have HST2:=yG hst2;clear hst2 HST1
 try simp only[Act.put]
 go_wp2_with (first | (go_at_call 127; refine(zIH _ _).mono ?_; rintro e w' ⟨rfl,rfl⟩) | (refine zBN rfl (.tmp 13) (.const (.int .u8 3)) (.tmp 26) 3 _ rfl rfl rfl rfl (HST2.out.mono (((Ext.alloc _ _).trans (Ext.alloc _ _)).trans (Ext.alloc _ _))) (by exact vS rfl rfl (Blk.newAt (by simp)) (zDC ((Blk.newAt (by simp)).alloc _) ⟨_,rfl,(((Blk.newAt (by simp)).alloc _).alloc _)⟩ ⟨_,rfl,(HST2.out.mono (((Ext.alloc _ _).trans (Ext.alloc _ _)).trans (Ext.alloc _ _))).k6⟩) rfl) rfl ?_))
 intro w3 l3 hst3;have HST3:=yG hst3;clear hst3 HST2
 try simp only[Act.put]
 go_wp2_with ((refine zBN rfl (.tmp 13) (.const (.int .u8 4)) (.tmp 29) 4 _ rfl rfl rfl rfl (HST3.out.mono (Ext.alloc _ _)) (by exact vS rfl rfl (Blk.newAt (by simp)) VZ ⟨_,rfl,(HST3.out.mono (Ext.alloc _ _)).k5⟩) rfl ?_))
 intro w4 l4 hst4;have HST4:=yG hst4;clear hst4 HST3
 try simp only[Act.put]
 go_wp2_with ((refine zBN rfl (.tmp 13) (.const (.int .u8 5)) (.tmp 31) 5 _ rfl rfl rfl rfl (HST4.out.mono (Ext.alloc _ _)) (by exact vS rfl rfl (Blk.newAt (by simp)) VZ rfl) rfl ?_))
 intro w5 l5 hst5;have HST5:=yG hst5;clear hst5 HST4
 try simp only[Act.put]
 go_wp2_with ((refine zBN rfl (.tmp 13) (.const (.int .u8 6)) (.tmp 33) 6 _ rfl rfl rfl rfl (HST5.out.mono (Ext.alloc _ _)) (by exact vS rfl rfl (Blk.newAt (by simp)) VZ rfl) rfl ?_))
 intro w6 l6 hst6;have HST6:=yG hst6;clear hst6 HST5
 try simp only[Act.put]
 go_wp2_with ((refine zBN rfl (.tmp 13) (.const (.int .u8 7)) (.tmp 38) 7 _ rfl rfl rfl rfl (HST6.out.mono ((Ext.alloc _ _).trans (Ext.alloc _ _))) (by exact vS rfl rfl (Blk.newAt (by simp)) (zDC ((Blk.newAt (by simp)).alloc _) ⟨_,rfl,(HST6.out.mono ((Ext.alloc _ _).trans (Ext.alloc _ _))).k4⟩ ⟨_,rfl,(HST6.out.mono ((Ext.alloc _ _).trans (Ext.alloc _ _))).k5⟩) rfl) rfl ?_))
 intro w7 l7 hst7;have HST7:=yG hst7;clear hst7 HST6
 try simp only[Act.put]
 go_wp2_with ((refine zBN rfl (.tmp 13) (.const (.int .u8 8)) (.tmp 43) 8 _ rfl rfl rfl rfl (HST7.out.mono ((Ext.alloc _ _).trans (Ext.alloc _ _))) (by exact vS rfl rfl (Blk.newAt (by simp)) (zLu ((Blk.newAt (by simp)).alloc _) ⟨_,rfl,(HST7.out.mono ((Ext.alloc _ _).trans (Ext.alloc _ _))).k4⟩ ⟨_,rfl,(HST7.out.mono ((Ext.alloc _ _).trans (Ext.alloc _ _))).k5⟩ (rfl)) rfl) rfl ?_))
 intro w8 l8 hst8;have HST8:=yG hst8;clear hst8 HST7
 try simp only[Act.put]
 go_wp2_with ((refine zBN rfl (.tmp 13) (.const (.int .u8 9)) (.tmp 47) 9 _ rfl rfl rfl rfl (HST8.out.mono ((Ext.alloc _ _).trans (Ext.alloc _ _))) (by exact vS rfl rfl (Blk.newAt (by simp)) (zDC ((Blk.newAt (by simp)).alloc _) ⟨_,rfl,(HST8.out.mono ((Ext.alloc _ _).trans (Ext.alloc _ _))).k4⟩ (rfl)) rfl) rfl ?_))
 intro w9 l9 hst9;have HST9:=yG hst9;clear hst9 HST8
 try simp only[Act.put]
 go_wp2_with ((refine zBN rfl (.tmp 13) (.const (.int .u8 10)) (.tmp 51) 10 _ rfl rfl rfl rfl (HST9.out.mono ((Ext.alloc _ _).trans (Ext.alloc _ _))) (by exact vS rfl rfl (Blk.newAt (by simp)) (zCm ((Blk.newAt (by simp)).alloc _) ⟨_,rfl,(HST9.out.mono ((Ext.alloc _ _).trans (Ext.alloc _ _))).k4⟩) rfl) rfl ?_))
 intro w10 l10 hst10;have HST10:=yG hst10;clear hst10 HST9
 try simp only[Act.put]
 go_wp2_with ((refine zBN rfl (.tmp 13) (.const (.int .u8 11)) (.tmp 56) 11 _ rfl rfl rfl rfl (HST10.out.mono ((Ext.alloc _ _).trans (Ext.alloc _ _))) (by exact vS rfl rfl (Blk.newAt (by simp)) (zDC ((Blk.newAt (by simp)).alloc _) ⟨_,rfl,(HST10.out.mono ((Ext.alloc _ _).trans (Ext.alloc _ _))).k5⟩ ⟨_,rfl,(HST10.out.mono ((Ext.alloc _ _).trans (Ext.alloc _ _))).k5⟩) rfl) rfl ?_))
 intro w11 l11 hst11;have HST11:=yG hst11;clear hst11 HST10
 try simp only[Act.put]
 go_wp2_with ((refine zBN rfl (.tmp 13) (.const (.int .u8 12)) (.tmp 60) 12 _ rfl rfl rfl rfl (HST11.out.mono ((Ext.alloc _ _).trans (Ext.alloc _ _))) (by exact vS rfl rfl (Blk.newAt (by simp)) (zCm ((Blk.newAt (by simp)).alloc _) ⟨_,rfl,(HST11.out.mono ((Ext.alloc _ _).trans (Ext.alloc _ _))).k5⟩) rfl) rfl ?_))
 intro w12 l12 hst12;have HST12:=yG hst12;clear hst12 HST11
 try simp only[Act.put]
 go_wp2_with ((refine zBN rfl (.tmp 13) (.const (.int .u8 13)) (.tmp 67) 13 _ rfl rfl rfl rfl (HST12.out.mono (((Ext.alloc _ _).trans (Ext.alloc _ _)).trans (Ext.alloc _ _))) (by exact zJx rfl rfl rfl rfl (Blk.newAt (by simp)) (zCm (((Blk.newAt (by simp)).alloc _).alloc _) ⟨_,rfl,(HST12.out.mono (((Ext.alloc _ _).trans (Ext.alloc _ _)).trans (Ext.alloc _ _))).k5⟩) rfl (zCm ((Blk.newAt (by simp)).alloc _) ⟨_,rfl,(HST12.out.mono (((Ext.alloc _ _).trans (Ext.alloc _ _)).trans (Ext.alloc _ _))).k4⟩) rfl) rfl ?_))
 intro w13 l13 hst13;have HST13:=yG hst13;clear hst13 HST12
 try simp only[Act.put]
 go_wp2_with ((refine zBN rfl (.tmp 13) (.const (.int .u8 14)) (.tmp 75) 14 _ rfl rfl rfl rfl (HST13.out.mono (((Ext.alloc _ _).trans (Ext.alloc _ _)).trans (Ext.alloc _ _))) (by exact zJx rfl rfl rfl rfl (Blk.newAt (by simp)) (zLu (((Blk.newAt (by simp)).alloc _).alloc _) (rfl) (rfl) ⟨_,rfl,(HST13.out.mono (((Ext.alloc _ _).trans (Ext.alloc _ _)).trans (Ext.alloc _ _))).k6⟩) rfl (zTe ((Blk.newAt (by simp)).alloc _) (rfl) (rfl) ⟨_,rfl,(HST13.out.mono (((Ext.alloc _ _).trans (Ext.alloc _ _)).trans (Ext.alloc _ _))).k6⟩ ⟨_,rfl,(HST13.out.mono (((Ext.alloc _ _).trans (Ext.alloc _ _)).trans (Ext.alloc _ _))).k6⟩) rfl) rfl ?_))
 intro w14 l14 hst14;have HST14:=yG hst14;clear hst14 HST13
 try simp only[Act.put]
 go_wp2_with ((refine zBN rfl (.tmp 13) (.const (.int .u8 15)) (.tmp 81) 15 _ rfl rfl rfl rfl (HST14.out.mono ((Ext.alloc _ _).trans (Ext.alloc _ _))) (by exact vS rfl rfl (Blk.newAt (by simp)) (zLu ((Blk.newAt (by simp)).alloc _) ⟨_,rfl,(HST14.out.mono ((Ext.alloc _ _).trans (Ext.alloc _ _))).k7⟩ ⟨_,rfl,(HST14.out.mono ((Ext.alloc _ _).trans (Ext.alloc _ _))).k7⟩ ⟨_,rfl,(HST14.out.mono ((Ext.alloc _ _).trans (Ext.alloc _ _))).k6⟩) rfl) rfl ?_))
 intro w15 l15 hst15;have HST15:=yG hst15;clear hst15 HST14
 try simp only[Act.put]
 go_wp2_with ((refine zBN rfl (.tmp 13) (.const (.int .u8 16)) (.tmp 84) 16 _ rfl rfl rfl rfl (HST15.out.mono ((Ext.alloc _ _).trans (Ext.alloc _ _))) (by exact vS rfl rfl (Blk.newAt (by simp)) (zCm ((Blk.newAt (by simp)).alloc _) (rfl)) rfl) rfl ?_))
 intro w16 l16 hst16;have HST16:=yG hst16;clear hst16 HST15
 try simp only[Act.put]
 go_wp2_with ((refine zBN rfl (.tmp 13) (.const (.int .u8 17)) (.tmp 87) 17 _ rfl rfl rfl rfl (HST16.out.mono ((Ext.alloc _ _).trans (Ext.alloc _ _))) (by exact vS rfl rfl (Blk.newAt (by simp)) (zCm ((Blk.newAt (by simp)).alloc _) (rfl)) rfl) rfl ?_))
 intro w17 l17 hst17;have HST17:=yG hst17;clear hst17 HST16
 try simp only[Act.put]
 go_wp2_with ((refine zBN rfl (.tmp 13) (.const (.int .u8 18)) (.tmp 89) 18 _ rfl rfl rfl rfl (HST17.out.mono (Ext.alloc _ _)) (by exact vS rfl rfl (Blk.newAt (by simp)) VZ rfl) rfl ?_))
 intro w18 l18 hst18;have HST18:=yG hst18;clear hst18 HST17
 try simp only[Act.put]
 go_wp2_with ((refine zBN rfl (.tmp 13) (.const (.int .u8 19)) (.tmp 91) 19 _ rfl rfl rfl rfl (HST18.out.mono (Ext.alloc _ _)) (by exact vS rfl rfl (Blk.newAt (by simp)) VZ rfl) rfl ?_))
 intro w19 l19 hst19;have HST19:=yG hst19;clear hst19 HST18
 try simp only[Act.put]
 go_wp2_with ((refine zBN rfl (.tmp 13) (.const (.int .u8 20)) (.tmp 94) 20 _ rfl rfl rfl rfl (HST19.out.mono ((Ext.alloc _ _).trans (Ext.alloc _ _))) (by exact vS rfl rfl (Blk.newAt (by simp)) (zCm ((Blk.newAt (by simp)).alloc _) (rfl)) rfl) rfl ?_))
 intro w20 l20 hst20;have HST20:=yG hst20;clear hst20 HST19
 try simp only[Act.put]
 go_wp2_with ((refine zBN rfl (.tmp 13) (.const (.int .u8 21)) (.tmp 96) 21 _ rfl rfl rfl rfl (HST20.out.mono (Ext.alloc _ _)) (by exact vS rfl rfl (Blk.newAt (by simp)) VZ rfl) rfl ?_))
 intro w21 l21 hst21;have HST21:=yG hst21;clear hst21 HST20
 try simp only[Act.put]
 go_wp2_with ((refine zBN rfl (.tmp 13) (.const (.int .u8 22)) (.tmp 98) 22 _ rfl rfl rfl rfl (HST21.out.mono (Ext.alloc _ _)) (by exact vS rfl rfl (Blk.newAt (by simp)) VZ rfl) rfl ?_))
 intro w22 l22 hst22;have HST22:=yG hst22;clear hst22 HST21
 try simp only[Act.put]
 go_wp2_with ((refine zBN rfl (.tmp 13) (.const (.int .u8 23)) (.tmp 101) 23 _ rfl rfl rfl rfl (HST22.out.mono ((Ext.alloc _ _).trans (Ext.alloc _ _))) (by exact vS rfl rfl (Blk.newAt (by simp)) (zDC ((Blk.newAt (by simp)).alloc _) (rfl) (rfl)) rfl) rfl ?_))
 intro w23 l23 hst23;have HST23:=yG hst23;clear hst23 HST22
 try simp only[Act.put]
 go_wp2_with ((refine zBN rfl (.tmp 13) (.const (.int .u8 24)) (.tmp 104) 24 _ rfl rfl rfl rfl (HST23.out.mono ((Ext.alloc _ _).trans (Ext.alloc _ _))) (by exact vS rfl rfl (Blk.newAt (by simp)) (zDC ((Blk.newAt (by simp)).alloc _) (rfl) (rfl)) rfl) rfl ?_))
 intro w24 l24 hst24;have HST24:=yG hst24;clear hst24 HST23
 try simp only[Act.put]
 go_wp2_with ((refine zBN rfl (.tmp 13) (.const (.int .u8 25)) (.tmp 107) 25 _ rfl rfl rfl rfl (HST24.out.mono ((Ext.alloc _ _).trans (Ext.alloc _ _))) (by exact vS rfl rfl (Blk.newAt (by simp)) (zDC ((Blk.newAt (by simp)).alloc _) (rfl) (rfl)) rfl) rfl ?_))
 intro w25 l25 hst25;have HST25:=yG hst25;clear hst25 HST24
 try simp only[Act.put]
 go_wp2_with ((refine zBN rfl (.tmp 13) (.const (.int .u8 26)) (.tmp 110) 26 _ rfl rfl rfl rfl (HST25.out.mono ((Ext.alloc _ _).trans (Ext.alloc _ _))) (by exact vS rfl rfl (Blk.newAt (by simp)) (zCm ((Blk.newAt (by simp)).alloc _) (rfl)) rfl) rfl ?_))
 intro w26 l26 hst26;have HST26:=yG hst26;clear hst26 HST25
 try simp only[Act.put]
 go_wp2_with (refine zVa rfl (.tmp 112) (.tmp 113) k rfl rfl rfl HST26.out HZ.out ?_)
 intro v hv;have HV:=yG hv;clear hv
 try simp only[Act.put]
 go_wp2_with fail
 go_ret;exact⟨v,rfl,HV.out,HST26.out.ext⟩
end Go.Proofs.YtbadjmmjbpeocaaGreatDoor.TT
namespace Go.Proofs.YtbadjmmjbpeocaaGreatDoor.TT
def zUr (k:Int):Int:=if k=6∨k=20 then 1 else 0
def exD (k:Int):Int:=if VD k=true then 1 else 0
def zSL (v:Int):List Int→List Int→List Int
 | [],D=>D
 | k::r,D=>zSL v r (D.set k.toNat v)
def zRp (kd:List Int)(ks:List (List Int))(i:Nat)(st:List Int × Int):List Int × Int:=
 (zSL (st.1.getD i 0+zUr (kd.getD i 0)+exD (kd.getD i 0)) (ks.getD i []) (st.1.set i (st.1.getD i 0+zUr (kd.getD i 0))),max st.2 (st.1.getD i 0+zUr (kd.getD i 0)))
def runs (kd:List Int)(ks:List (List Int)):Nat→Nat→List Int × Int→List Int × Int
 | 0,_,st=>st
 | c+1,i,st=>runs kd ks c (i+1) (zRp kd ks i st)
def zCy (l:List xR)(k:Int):Int:=match l[k.toNat]? with | some x=>x.kind | none=>0
def jY (l:List xR)(ks:List Int):List Int:=ks.map (zCy l)
def zLk (l:List xR)(ks:List Int):Prop:=∀k ∈ ks,∃a:Nat,k=(a:Int)∧a<l.length
theorem zCq {l:List xR}{a:Nat}(h:a<l.length):zCy l (a:Int)=l[a].kind:=by
 unfold zCy;rw[zI,yJ h]
def zBQ (l:List xR):List (List Int):=l.map (·.kids)
theorem XM (l:List xR):(zBQ l).length=l.length:=by simp[zBQ]
theorem zDf (l:List xR)(i:Nat)(h:i<l.length):(zBQ l).getD i []=l[i].kids:=by simp[zBQ,yH,h]
def zBA (l:List xR)(x:xR):Bool:=zAz x.kind x.num x.text.data.toList (jY l x.kids)
def JS (l:List xR):Bool:=(zCj (zBQ l)).isSome&&(zCy l 0==1&&l.all (zBA l))
def zGf (l:List xR):Bool:=(List.range l.length).all fun i=>((zBQ l).getD i []).all fun k=>decide ((i:Int)<k)&&decide (k<(l.length:Int))
def zMn (l:List xR)(x:xR):Bool:=decide (1≤x.kind)&&(decide (x.kind≤26)&&(zFy x.kind x.num x.text.data.toList&&jU x.kind (jY l x.kids)))
def zLa (l:List xR):Bool:=decide (0<l.length)&&(zCy l 0==1&&(zGf l&&(decide (zBO (zBQ l) 0=some l.length)&&l.all (zMn l))))
theorem zDN (l:List xR):zGf l=true↔∀i,i<l.length→∀k ∈ (zBQ l).getD i [],(i:Int)<k∧k<(l.length:Int):=by
 unfold zGf;rw[zH];simp only[List.mem_range,zH,zG,zF]
theorem zJj {l:List xR}{Z:List Nat}(h:zCj (zBQ l)=some Z):zGf l=true:=by
 rw[zDN];obtain⟨_,_,_,hz⟩:=zGr h;intro i hi k hk;obtain⟨a,h1,h2,h3⟩:=zOx (hz i (by rw[XM]; exact hi)) k hk;rw[XM] at h3;omega
theorem zSi (l:List xR):(zCj (zBQ l)).isSome=(decide (0<l.length)&&(zGf l&&decide (zBO (zBQ l) 0=some l.length))):=by
 cases h:zCj (zBQ l) with
 | none=>
  have:=zQJ h
  rw[XM] at this;rw[yR this]
  simp
 | some Z=>
  obtain⟨h1,h2,h3,_⟩:=zGr h;rw[XM] at h2 h3;rw[zJj h,yS h3,yS (by omega)]
  rfl
theorem zRO (l:List xR)(x:xR):zBA l x=zMn l x:=zMZ _ _ _ _
theorem zKc (l:List xR):JS l=zLa l:=by
 unfold JS zLa;rw[zSi,show zBA l=zMn l from funext (zRO l)]
 cases decide (0<l.length) <;> cases (zCy l 0==1) <;> cases zGf l <;> cases decide (zBO (zBQ l) 0=some l.length) <;> simp
theorem zJS {l:List xR}{Z:List Nat}(h:zCj (zBQ l)=some Z):∀x ∈ l,zLk l x.kids:=by
 intro x hx k hk;obtain⟨i,hi,rfl⟩:=List.getElem_of_mem hx;have h1:=(zDN l).1 (zJj h) i hi k (by rw[zDf l i hi]; exact hk);exact⟨k.toNat,by omega,by omega⟩
theorem zM8 {ks:List (List Int)}{j:Nat}(h:JC ks j=none):∀m,j≤m→JC ks m=none:=by
 intro m
 induction m with
 | zero=>intro hm; rw[show j=0 from by omega] at h; exact h
 | succ m ih=>
  intro hm
  by_cases he:j=m+1
  ·rw[←he]; exact h
  ·unfold JC;rw[ih (by omega)]
theorem zJi {ks:List (List Int)}{j:Nat}(hj:j≤ks.length)(h:JC ks j=none):zCj ks=none:=by
 unfold zCj;rw[zM8 h _ hj]
end Go.Proofs.YtbadjmmjbpeocaaGreatDoor.TT
