/- The closure of tree.fits, walked. (and what follows of it). The conditions stand at each lemma. -/
import Derived.Test.YtbadjmmjbpeocaaGreatJaa
import Derived.Test.YtbadjmmjbpeocaaGreatJau
import Derived.Test.YtbadjmmjbpeocaaGreatJaj
import Derived.Test.YtbadjmmjbpeocaaGreatJat
set_option linter.unusedVariables false
set_option linter.unusedSimpArgs false
set_option maxRecDepth 100000
set_option maxHeartbeats 16000000
namespace Go.Proofs.YtbadjmmjbpeocaaGreat.TT
open Go Go.RowKit
theorem VL (f:vR)(cs:List Value)(L:Option Addr)(ls:List Int)(n lc:Nat)(w:World)(hn:n=ls.length)(hf:zDd w f cs)(hl:Cells w L (vE ls))(hlen:ls.length≤9000)(b:Bool)(hb:f.fits ls=b) :
  Calls Tryz.prog 117 #[.agg (Array.mk cs),.slice L n lc] w fun e w'=>e=.returned (.bool b)∧Ext w w':=by
 subst hb;exact zP0 f cs L ls n lc w hn hf hl hlen
theorem zGc (s:ByteArray)(w:World)(hs:s.size≤9000)(b:Bool)(hb:VM s.data.toList=b):Calls Tryz.prog 118 #[.string s] w fun e w'=>e=.returned (.bool b)∧Ext w w':=by
 subst hb;exact zOq s w hs
theorem zQB (f:vR)(cs:List Value)(L:Option Addr)(ls:List Int)(n lc gk gn:Nat)(x:xU)(w:World)(hn:n=ls.length)(hf:zDd w f cs)(hl:Cells w L (vE ls))(hlen:ls.length≤9000)(hx:x.text.size≤9000)
  (hgk:Blk w gk 22 #[.slice L n lc]) (hgn:Blk w gn 38 (Array.mk x.cells)) :
  Calls Tryz.prog 116 #[.agg (Array.mk cs),.pointer (some ⟨gk,0,none⟩),.pointer (some ⟨gn,0,none⟩)] w fun e w'=>e=.returned (.bool (YE f x.num x.text.data.toList ls))∧Ext w w':=by
 subst hn;obtain⟨kind,pos,text,num,kA,kc,Aa⟩:=x;obtain⟨ks,mv,rfl,AX,AV⟩:=hf;have AS:zDd w f [ks,mv,.bool f.named,.int .i64 f.most]:=⟨ks,mv,rfl,AX,AV⟩;obtain⟨KA,AI,rfl,-⟩:=AX.open_
 have hmf:mv=.nilFunc∨∃fm lm,mv=.func (.func fm) #[] lm:=by
  cases hm:f.more with
  | none=>rw[hm] at AV; exact .inl AV
  | some q=>rw[hm] at AV; obtain⟨fm,lm,h3,_⟩:=zBg.form AV; exact .inr ⟨fm,lm,h3⟩
 simp only at hx
 unfold xU.cells at hgn
 simp only at hgn
 have HF:=yG AS;have HL:=yG hl;have AM:=yG hgk;have AN:=yG hgn;clear AX AV AS hl hgk hgn;obtain⟨nm,AY⟩:∃nm,Hid (f.named=nm):=⟨_,yG rfl⟩;obtain⟨mo,AZ⟩:∃mo,Hid (f.most=mo):=⟨_,yG rfl⟩;have AT:Hid (YE f num text.data.toList ls=(f.fits ls&&(decide (0≤num)&&(decide (num≤mo)&&((nm&&VM text.data.toList)||(!nm&&text.data.toList.isEmpty)))))):=yG (by rw[←AY.out,←AZ.out]; rfl)
 show Calls Tryz.prog 116 #[.agg #[.slice KA f.kids.length AI,mv,.bool f.named,.int .i64 f.most],.pointer (some ⟨gk,0,none⟩),.pointer (some ⟨gn,0,none⟩)] w fun e w'=>e=.returned (.bool (YE f num text.data.toList ls))∧Ext w w'
 rw[AY.out,AZ.out] at HF ⊢;have HT:Hid (text.toList=text.data.toList):=yG (ByteArray.toList_eq _)
 cases hF:f.fits ls
 case false=>
  have HR:Hid (YE f num text.data.toList ls=false):=yG (by rw[AT.out]; rw[hF]; rfl);have hF:=yG hF
  rcases hmf with rfl | ⟨fm,lm,rfl⟩
  ·have AG:=Blk.new w 195 #[.slice KA f.kids.length AI,.nilFunc,.bool nm,.int .i64 mo];have AF:=Ext.alloc w (.cells #[.slice KA f.kids.length AI,.nilFunc,.bool nm,.int .i64 mo] 195);have AK:=yG AG;have AA:=yG AF;clear AG AF
   go_enter Tryz.func116,Tryz.ntmps116
   have c0:=(AM.out.ext AA.out).cell 0
   go_wp2_with fail
   refine(VL f _ L ls _ lc _ rfl (HF.out.kept (Kept.ZV AA.out)) (HL.out.ext AA.out) hlen false hF.out).mono ?_;rintro e w1 ⟨rfl,AB⟩;have AH:=AK.out.ext AB;have AE:=AN.out.ext (AA.out.trans AB);have AD:=yG AH;have AC:=yG AE;have AJ:Hid (Ext w w1):=yG (AA.out.trans AB);clear AB AH AE c0;generalize w.heap.size=ga at *;have b2:=AD.out.cell 2;have b3:=AD.out.cell 3;have n2:=AC.out.cell 2;have n3:=AC.out.cell 3
   go_wp2_with fail
   go_ret;exact⟨jN HR.out.symm,AJ.out⟩
  ·have AG:=Blk.new w 195 #[.slice KA f.kids.length AI,(.func (.func fm) #[] lm),.bool nm,.int .i64 mo];have AF:=Ext.alloc w (.cells #[.slice KA f.kids.length AI,(.func (.func fm) #[] lm),.bool nm,.int .i64 mo] 195);have AK:=yG AG;have AA:=yG AF;clear AG AF
   go_enter Tryz.func116,Tryz.ntmps116
   have c0:=(AM.out.ext AA.out).cell 0
   go_wp2_with fail
   refine(VL f _ L ls _ lc _ rfl (HF.out.kept (Kept.ZV AA.out)) (HL.out.ext AA.out) hlen false hF.out).mono ?_;rintro e w1 ⟨rfl,AB⟩;have AH:=AK.out.ext AB;have AE:=AN.out.ext (AA.out.trans AB);have AD:=yG AH;have AC:=yG AE;have AJ:Hid (Ext w w1):=yG (AA.out.trans AB);clear AB AH AE c0;generalize w.heap.size=ga at *;have b2:=AD.out.cell 2;have b3:=AD.out.cell 3;have n2:=AC.out.cell 2;have n3:=AC.out.cell 3
   go_wp2_with fail
   go_ret;exact⟨jN HR.out.symm,AJ.out⟩
 case true=>
  by_cases h1:0≤num
  case neg=>
   have d1:decide (0≤num)=false:=yR h1;have HR:Hid (YE f num text.data.toList ls=false):=yG (by rw[AT.out]; rw[hF,d1]; rfl);have hF:=yG hF
   rcases hmf with rfl | ⟨fm,lm,rfl⟩
   ·have AG:=Blk.new w 195 #[.slice KA f.kids.length AI,.nilFunc,.bool nm,.int .i64 mo];have AF:=Ext.alloc w (.cells #[.slice KA f.kids.length AI,.nilFunc,.bool nm,.int .i64 mo] 195);have AK:=yG AG;have AA:=yG AF;clear AG AF
    go_enter Tryz.func116,Tryz.ntmps116
    have c0:=(AM.out.ext AA.out).cell 0
    go_wp2_with fail
    refine(VL f _ L ls _ lc _ rfl (HF.out.kept (Kept.ZV AA.out)) (HL.out.ext AA.out) hlen true hF.out).mono ?_;rintro e w1 ⟨rfl,AB⟩;have AH:=AK.out.ext AB;have AE:=AN.out.ext (AA.out.trans AB);have AD:=yG AH;have AC:=yG AE;have AJ:Hid (Ext w w1):=yG (AA.out.trans AB);clear AB AH AE c0;generalize w.heap.size=ga at *;have b2:=AD.out.cell 2;have b3:=AD.out.cell 3;have n2:=AC.out.cell 2;have n3:=AC.out.cell 3
    go_wp2_with fail
    go_ret;exact⟨jN HR.out.symm,AJ.out⟩
   ·have AG:=Blk.new w 195 #[.slice KA f.kids.length AI,(.func (.func fm) #[] lm),.bool nm,.int .i64 mo];have AF:=Ext.alloc w (.cells #[.slice KA f.kids.length AI,(.func (.func fm) #[] lm),.bool nm,.int .i64 mo] 195);have AK:=yG AG;have AA:=yG AF;clear AG AF
    go_enter Tryz.func116,Tryz.ntmps116
    have c0:=(AM.out.ext AA.out).cell 0
    go_wp2_with fail
    refine(VL f _ L ls _ lc _ rfl (HF.out.kept (Kept.ZV AA.out)) (HL.out.ext AA.out) hlen true hF.out).mono ?_;rintro e w1 ⟨rfl,AB⟩;have AH:=AK.out.ext AB;have AE:=AN.out.ext (AA.out.trans AB);have AD:=yG AH;have AC:=yG AE;have AJ:Hid (Ext w w1):=yG (AA.out.trans AB);clear AB AH AE c0;generalize w.heap.size=ga at *;have b2:=AD.out.cell 2;have b3:=AD.out.cell 3;have n2:=AC.out.cell 2;have n3:=AC.out.cell 3
    go_wp2_with fail
    go_ret;exact⟨jN HR.out.symm,AJ.out⟩
  case pos=>
   have d1:decide (0≤num)=true:=yS h1
   by_cases h2:num≤mo
   case neg=>
    have d2:decide (num≤mo)=false:=yR h2;have HR:Hid (YE f num text.data.toList ls=false):=yG (by rw[AT.out]; rw[hF,d1,d2]; rfl);have hF:=yG hF
    rcases hmf with rfl | ⟨fm,lm,rfl⟩
    ·have AG:=Blk.new w 195 #[.slice KA f.kids.length AI,.nilFunc,.bool nm,.int .i64 mo];have AF:=Ext.alloc w (.cells #[.slice KA f.kids.length AI,.nilFunc,.bool nm,.int .i64 mo] 195);have AK:=yG AG;have AA:=yG AF;clear AG AF
     go_enter Tryz.func116,Tryz.ntmps116
     have c0:=(AM.out.ext AA.out).cell 0
     go_wp2_with fail
     refine(VL f _ L ls _ lc _ rfl (HF.out.kept (Kept.ZV AA.out)) (HL.out.ext AA.out) hlen true hF.out).mono ?_;rintro e w1 ⟨rfl,AB⟩;have AH:=AK.out.ext AB;have AE:=AN.out.ext (AA.out.trans AB);have AD:=yG AH;have AC:=yG AE;have AJ:Hid (Ext w w1):=yG (AA.out.trans AB);clear AB AH AE c0;generalize w.heap.size=ga at *;have b2:=AD.out.cell 2;have b3:=AD.out.cell 3;have n2:=AC.out.cell 2;have n3:=AC.out.cell 3
     go_wp2_with fail
     go_ret;exact⟨jN HR.out.symm,AJ.out⟩
    ·have AG:=Blk.new w 195 #[.slice KA f.kids.length AI,(.func (.func fm) #[] lm),.bool nm,.int .i64 mo];have AF:=Ext.alloc w (.cells #[.slice KA f.kids.length AI,(.func (.func fm) #[] lm),.bool nm,.int .i64 mo] 195);have AK:=yG AG;have AA:=yG AF;clear AG AF
     go_enter Tryz.func116,Tryz.ntmps116
     have c0:=(AM.out.ext AA.out).cell 0
     go_wp2_with fail
     refine(VL f _ L ls _ lc _ rfl (HF.out.kept (Kept.ZV AA.out)) (HL.out.ext AA.out) hlen true hF.out).mono ?_;rintro e w1 ⟨rfl,AB⟩;have AH:=AK.out.ext AB;have AE:=AN.out.ext (AA.out.trans AB);have AD:=yG AH;have AC:=yG AE;have AJ:Hid (Ext w w1):=yG (AA.out.trans AB);clear AB AH AE c0;generalize w.heap.size=ga at *;have b2:=AD.out.cell 2;have b3:=AD.out.cell 3;have n2:=AC.out.cell 2;have n3:=AC.out.cell 3
     go_wp2_with fail
     go_ret;exact⟨jN HR.out.symm,AJ.out⟩
   case pos=>
    have d2:decide (num≤mo)=true:=yS h2
    cases nm with
    | true=>
     cases hI:VM text.data.toList with
     | true=>
      have HR:Hid (YE f num text.data.toList ls=true):=yG (by rw[AT.out]; rw[hF,d1,d2,hI]; rfl);have hF:=yG hF;have hI:=yG hI
      rcases hmf with rfl | ⟨fm,lm,rfl⟩
      ·have AG:=Blk.new w 195 #[.slice KA f.kids.length AI,.nilFunc,.bool true,.int .i64 mo];have AF:=Ext.alloc w (.cells #[.slice KA f.kids.length AI,.nilFunc,.bool true,.int .i64 mo] 195);have AK:=yG AG;have AA:=yG AF;clear AG AF
       go_enter Tryz.func116,Tryz.ntmps116
       have c0:=(AM.out.ext AA.out).cell 0
       go_wp2_with fail
       refine(VL f _ L ls _ lc _ rfl (HF.out.kept (Kept.ZV AA.out)) (HL.out.ext AA.out) hlen true hF.out).mono ?_;rintro e w1 ⟨rfl,AB⟩;have AH:=AK.out.ext AB;have AE:=AN.out.ext (AA.out.trans AB);have AD:=yG AH;have AC:=yG AE;have AJ:Hid (Ext w w1):=yG (AA.out.trans AB);clear AB AH AE c0;generalize w.heap.size=ga at *;have b2:=AD.out.cell 2;have b3:=AD.out.cell 3;have n2:=AC.out.cell 2;have n3:=AC.out.cell 3
       go_wp2_with fail
       refine(zGc text _ hx true hI.out).mono ?_;rintro e w2 ⟨rfl,AL⟩;have AU:Hid (Ext w w2):=yG (AJ.out.trans AL);have AO:=AD.out.ext AL;have AQ:=AC.out.ext AL;have AR:=yG AO;have AP:=yG AQ;clear AL AO AQ b2 b3 n2 n3;have b2:=AR.out.cell 2;have b3:=AR.out.cell 3;have n2:=AP.out.cell 2;have n3:=AP.out.cell 3
       go_wp2_with fail
       go_ret;exact⟨jN HR.out.symm,AU.out⟩
      ·have AG:=Blk.new w 195 #[.slice KA f.kids.length AI,(.func (.func fm) #[] lm),.bool true,.int .i64 mo];have AF:=Ext.alloc w (.cells #[.slice KA f.kids.length AI,(.func (.func fm) #[] lm),.bool true,.int .i64 mo] 195);have AK:=yG AG;have AA:=yG AF;clear AG AF
       go_enter Tryz.func116,Tryz.ntmps116
       have c0:=(AM.out.ext AA.out).cell 0
       go_wp2_with fail
       refine(VL f _ L ls _ lc _ rfl (HF.out.kept (Kept.ZV AA.out)) (HL.out.ext AA.out) hlen true hF.out).mono ?_;rintro e w1 ⟨rfl,AB⟩;have AH:=AK.out.ext AB;have AE:=AN.out.ext (AA.out.trans AB);have AD:=yG AH;have AC:=yG AE;have AJ:Hid (Ext w w1):=yG (AA.out.trans AB);clear AB AH AE c0;generalize w.heap.size=ga at *;have b2:=AD.out.cell 2;have b3:=AD.out.cell 3;have n2:=AC.out.cell 2;have n3:=AC.out.cell 3
       go_wp2_with fail
       refine(zGc text _ hx true hI.out).mono ?_;rintro e w2 ⟨rfl,AL⟩;have AU:Hid (Ext w w2):=yG (AJ.out.trans AL);have AO:=AD.out.ext AL;have AQ:=AC.out.ext AL;have AR:=yG AO;have AP:=yG AQ;clear AL AO AQ b2 b3 n2 n3;have b2:=AR.out.cell 2;have b3:=AR.out.cell 3;have n2:=AP.out.cell 2;have n3:=AP.out.cell 3
       go_wp2_with fail
       go_ret;exact⟨jN HR.out.symm,AU.out⟩
     | false=>
      have HR:Hid (YE f num text.data.toList ls=false):=yG (by rw[AT.out]; rw[hF,d1,d2,hI]; rfl);have hF:=yG hF;have hI:=yG hI
      rcases hmf with rfl | ⟨fm,lm,rfl⟩
      ·have AG:=Blk.new w 195 #[.slice KA f.kids.length AI,.nilFunc,.bool true,.int .i64 mo];have AF:=Ext.alloc w (.cells #[.slice KA f.kids.length AI,.nilFunc,.bool true,.int .i64 mo] 195);have AK:=yG AG;have AA:=yG AF;clear AG AF
       go_enter Tryz.func116,Tryz.ntmps116
       have c0:=(AM.out.ext AA.out).cell 0
       go_wp2_with fail
       refine(VL f _ L ls _ lc _ rfl (HF.out.kept (Kept.ZV AA.out)) (HL.out.ext AA.out) hlen true hF.out).mono ?_;rintro e w1 ⟨rfl,AB⟩;have AH:=AK.out.ext AB;have AE:=AN.out.ext (AA.out.trans AB);have AD:=yG AH;have AC:=yG AE;have AJ:Hid (Ext w w1):=yG (AA.out.trans AB);clear AB AH AE c0;generalize w.heap.size=ga at *;have b2:=AD.out.cell 2;have b3:=AD.out.cell 3;have n2:=AC.out.cell 2;have n3:=AC.out.cell 3
       go_wp2_with fail
       refine(zGc text _ hx false hI.out).mono ?_;rintro e w2 ⟨rfl,AL⟩;have AU:Hid (Ext w w2):=yG (AJ.out.trans AL);have AO:=AD.out.ext AL;have AQ:=AC.out.ext AL;have AR:=yG AO;have AP:=yG AQ;clear AL AO AQ b2 b3 n2 n3;have b2:=AR.out.cell 2;have b3:=AR.out.cell 3;have n2:=AP.out.cell 2;have n3:=AP.out.cell 3
       go_wp2_with fail
       go_ret;exact⟨jN HR.out.symm,AU.out⟩
      ·have AG:=Blk.new w 195 #[.slice KA f.kids.length AI,(.func (.func fm) #[] lm),.bool true,.int .i64 mo];have AF:=Ext.alloc w (.cells #[.slice KA f.kids.length AI,(.func (.func fm) #[] lm),.bool true,.int .i64 mo] 195);have AK:=yG AG;have AA:=yG AF;clear AG AF
       go_enter Tryz.func116,Tryz.ntmps116
       have c0:=(AM.out.ext AA.out).cell 0
       go_wp2_with fail
       refine(VL f _ L ls _ lc _ rfl (HF.out.kept (Kept.ZV AA.out)) (HL.out.ext AA.out) hlen true hF.out).mono ?_;rintro e w1 ⟨rfl,AB⟩;have AH:=AK.out.ext AB;have AE:=AN.out.ext (AA.out.trans AB);have AD:=yG AH;have AC:=yG AE;have AJ:Hid (Ext w w1):=yG (AA.out.trans AB);clear AB AH AE c0;generalize w.heap.size=ga at *;have b2:=AD.out.cell 2;have b3:=AD.out.cell 3;have n2:=AC.out.cell 2;have n3:=AC.out.cell 3
       go_wp2_with fail
       refine(zGc text _ hx false hI.out).mono ?_;rintro e w2 ⟨rfl,AL⟩;have AU:Hid (Ext w w2):=yG (AJ.out.trans AL);have AO:=AD.out.ext AL;have AQ:=AC.out.ext AL;have AR:=yG AO;have AP:=yG AQ;clear AL AO AQ b2 b3 n2 n3;have b2:=AR.out.cell 2;have b3:=AR.out.cell 3;have n2:=AP.out.cell 2;have n3:=AP.out.cell 3
       go_wp2_with fail
       go_ret;exact⟨jN HR.out.symm,AU.out⟩
    | false=>
     by_cases h3:text.data.toList=[]
     case pos=>
      have AW:text.data.toList.isEmpty=true:=by rw[h3]; rfl
      have e3:text.toList=[]:=by rw[HT.out]; exact h3
      have HR:Hid (YE f num text.data.toList ls=true):=yG (by rw[AT.out]; rw[hF,d1,d2,AW]; rfl);have hF:=yG hF;have H3:=yG h3;clear h3 AW
      rcases hmf with rfl | ⟨fm,lm,rfl⟩
      ·have AG:=Blk.new w 195 #[.slice KA f.kids.length AI,.nilFunc,.bool false,.int .i64 mo];have AF:=Ext.alloc w (.cells #[.slice KA f.kids.length AI,.nilFunc,.bool false,.int .i64 mo] 195);have AK:=yG AG;have AA:=yG AF;clear AG AF
       go_enter Tryz.func116,Tryz.ntmps116
       have c0:=(AM.out.ext AA.out).cell 0
       go_wp2_with fail
       refine(VL f _ L ls _ lc _ rfl (HF.out.kept (Kept.ZV AA.out)) (HL.out.ext AA.out) hlen true hF.out).mono ?_;rintro e w1 ⟨rfl,AB⟩;have AH:=AK.out.ext AB;have AE:=AN.out.ext (AA.out.trans AB);have AD:=yG AH;have AC:=yG AE;have AJ:Hid (Ext w w1):=yG (AA.out.trans AB);clear AB AH AE c0;generalize w.heap.size=ga at *;have b2:=AD.out.cell 2;have b3:=AD.out.cell 3;have n2:=AC.out.cell 2;have n3:=AC.out.cell 3
       go_wp2_with fail
       go_ret;exact⟨jN HR.out.symm,AJ.out⟩
      ·have AG:=Blk.new w 195 #[.slice KA f.kids.length AI,(.func (.func fm) #[] lm),.bool false,.int .i64 mo];have AF:=Ext.alloc w (.cells #[.slice KA f.kids.length AI,(.func (.func fm) #[] lm),.bool false,.int .i64 mo] 195);have AK:=yG AG;have AA:=yG AF;clear AG AF
       go_enter Tryz.func116,Tryz.ntmps116
       have c0:=(AM.out.ext AA.out).cell 0
       go_wp2_with fail
       refine(VL f _ L ls _ lc _ rfl (HF.out.kept (Kept.ZV AA.out)) (HL.out.ext AA.out) hlen true hF.out).mono ?_;rintro e w1 ⟨rfl,AB⟩;have AH:=AK.out.ext AB;have AE:=AN.out.ext (AA.out.trans AB);have AD:=yG AH;have AC:=yG AE;have AJ:Hid (Ext w w1):=yG (AA.out.trans AB);clear AB AH AE c0;generalize w.heap.size=ga at *;have b2:=AD.out.cell 2;have b3:=AD.out.cell 3;have n2:=AC.out.cell 2;have n3:=AC.out.cell 3
       go_wp2_with fail
       go_ret;exact⟨jN HR.out.symm,AJ.out⟩
     case neg=>
      have AW:text.data.toList.isEmpty=false:=by simpa using h3
      have e3:¬text.toList=[]:=by rw[HT.out]; exact h3
      have e4:text.toList.isEmpty=false:=by simpa using e3
      have HR:Hid (YE f num text.data.toList ls=false):=yG (by rw[AT.out]; rw[hF,d1,d2,AW]; rfl);have hF:=yG hF;have H3:=yG h3;clear h3 AW
      rcases hmf with rfl | ⟨fm,lm,rfl⟩
      ·have AG:=Blk.new w 195 #[.slice KA f.kids.length AI,.nilFunc,.bool false,.int .i64 mo];have AF:=Ext.alloc w (.cells #[.slice KA f.kids.length AI,.nilFunc,.bool false,.int .i64 mo] 195);have AK:=yG AG;have AA:=yG AF;clear AG AF
       go_enter Tryz.func116,Tryz.ntmps116
       have c0:=(AM.out.ext AA.out).cell 0
       go_wp2_with fail
       refine(VL f _ L ls _ lc _ rfl (HF.out.kept (Kept.ZV AA.out)) (HL.out.ext AA.out) hlen true hF.out).mono ?_;rintro e w1 ⟨rfl,AB⟩;have AH:=AK.out.ext AB;have AE:=AN.out.ext (AA.out.trans AB);have AD:=yG AH;have AC:=yG AE;have AJ:Hid (Ext w w1):=yG (AA.out.trans AB);clear AB AH AE c0;generalize w.heap.size=ga at *;have b2:=AD.out.cell 2;have b3:=AD.out.cell 3;have n2:=AC.out.cell 2;have n3:=AC.out.cell 3
       go_wp2_with fail
       go_ret;exact⟨jN HR.out.symm,AJ.out⟩
      ·have AG:=Blk.new w 195 #[.slice KA f.kids.length AI,(.func (.func fm) #[] lm),.bool false,.int .i64 mo];have AF:=Ext.alloc w (.cells #[.slice KA f.kids.length AI,(.func (.func fm) #[] lm),.bool false,.int .i64 mo] 195);have AK:=yG AG;have AA:=yG AF;clear AG AF
       go_enter Tryz.func116,Tryz.ntmps116
       have c0:=(AM.out.ext AA.out).cell 0
       go_wp2_with fail
       refine(VL f _ L ls _ lc _ rfl (HF.out.kept (Kept.ZV AA.out)) (HL.out.ext AA.out) hlen true hF.out).mono ?_;rintro e w1 ⟨rfl,AB⟩;have AH:=AK.out.ext AB;have AE:=AN.out.ext (AA.out.trans AB);have AD:=yG AH;have AC:=yG AE;have AJ:Hid (Ext w w1):=yG (AA.out.trans AB);clear AB AH AE c0;generalize w.heap.size=ga at *;have b2:=AD.out.cell 2;have b3:=AD.out.cell 3;have n2:=AC.out.cell 2;have n3:=AC.out.cell 3
       go_wp2_with fail
       go_ret;exact⟨jN HR.out.symm,AJ.out⟩
theorem zSh (css:List (List Value))(h:∀cs ∈ css,cs.length=4):∀(i j:Nat) (hi:i<css.length),j<4→css.flatten[i*4+j]?=(css[i])[j]?:=by
 induction css with
 | nil=>intro i j hi; simp at hi
 | cons a l ih=>
  intro i j hi hj;have ha:=h a (by simp);rw[List.flatten_cons]
  match i,hi with
  | 0,_=>rw[Nat.zero_mul,Nat.zero_add,List.getElem?_append_left (by omega)]; rfl
  | i+1,hi=>
   rw[List.getElem?_append_right (by omega),ha,show(i+1)*4+j-4=i*4+j from by omega];exact ih (fun cs hc=>h cs (by simp[hc])) i j (by simpa using hi) hj
theorem zGz.mem {α β:Type}{R:α→β→Prop}:∀ {l:List α} {m:List β} (h:zGz R l m),∀b ∈ m,∃a,R a b
 | [],[],_=>fun b hb=>by cases hb
 | a::l,c::m,⟨h1,h2⟩=>fun b hb=>by
  rcases List.mem_cons.1 hb with rfl | hb
  ·exact⟨a,h1⟩
  ·exact h2.mem b hb
 | [],_::_,h=>h.elim
 | _::_,[],h=>h.elim
theorem zBk.open_ {w:World}{fs:List vR}{v:Value}(h:zBk w fs v):∃A c,v=.slice A fs.length c∧∀i (hi:i<fs.length),∃g cs,A=some ⟨g,0,none⟩∧g<w.heap.size∧(∀j,j<4→w.cell? ⟨g,i*4+j,none⟩=cs[j]?)∧zDd w fs[i] cs:=by
 rcases h with ⟨h1,h2⟩ | ⟨g,AB,h1,h2,h3⟩
 ·subst h1; exact⟨none,0,h2,fun i hi=>by simp at hi⟩
 ·refine⟨_,_,h1,fun i hi=>?_⟩;obtain⟨cs,hc,hk⟩:=h3.get i hi
  have AA:i<AB.length:=by rw[←h3.len]; exact hi
  refine⟨g,cs,rfl,h2.lt,fun j hj=>?_,hk⟩;rw[h2.cell]
  have:=zSh AB (fun cs AC=>by obtain⟨a,ha⟩:=h3.mem cs AC; exact ha.len) i j AA hj
  rw[yJ AA] at hc;injection hc with hc;rw[hc] at this
  simpa using this
theorem any_none {n:Nat}{q:Nat→Bool}(h:∀j,j<n→q j=false):(List.range n).any q=false:=by
 rw[List.any_eq_false];intro j hj;rw[h j (List.mem_range.1 hj)];exact Bool.false_ne_true
theorem any_some {n:Nat}{q:Nat→Bool}(j:Nat)(hj:j<n)(h:q j=true):(List.range n).any q=true:=List.any_eq_true.2 ⟨j,List.mem_range.2 hj,h⟩
theorem zKZ {α:Type}(l:List α)(f:α→Bool)(d:α):((List.range l.length).any fun i=>f (l.getD i d))=l.any f:=by
 induction l with
 | nil=>rfl
 | cons x l ih=>
  rw[zK,List.range_succ_eq_map,List.any_cons,List.any_map,List.any_cons]
  congr 1
def zEO:vR:=⟨[],none,false,0⟩
theorem zPk (b:Bool)(f:vR)(cs:List Value)(L:Option Addr)(ls:List Int)(lc gk gn:Nat)(x:xU)(w:World)(hf:zDd w f cs)(hl:Cells w L (vE ls))(hlen:ls.length≤9000)(hx:x.text.size≤9000)
  (hgk:Blk w gk 22 #[.slice L ls.length lc]) (hgn:Blk w gn 38 (Array.mk x.cells)) (hb:YE f x.num x.text.data.toList ls=b) :
  Calls Tryz.prog 116 #[.agg (Array.mk cs),.pointer (some ⟨gk,0,none⟩),.pointer (some ⟨gn,0,none⟩)] w fun e w'=>e=.returned (.bool b)∧Ext w w':=by
 subst hb;exact zQB f cs L ls _ lc gk gn x w rfl hf hl hlen hx hgk hgn
theorem zNE (fs:List vR)(A:Option Addr)(n c:Nat)(L:Option Addr)(ls:List Int)(lc gk gn:Nat)(x:xU)(w:World)(hfs:zBk w fs (.slice A n c))(hfl:fs.length≤10)(hl:Cells w L (vE ls))(hlen:ls.length≤9000)(hx:x.text.size≤9000)
  (hgk:Blk w gk 22 #[.slice L ls.length lc]) (hgn:Blk w gn 38 (Array.mk x.cells)) :
  Calls Tryz.prog 144 #[.slice A n c,.func (.func 116) #[] #[.pointer (some ⟨gk,0,none⟩),.pointer (some ⟨gn,0,none⟩)]] w fun e w'=>∃r:Int,e=.returned (.int .i64 r)∧decide (0≤r)=(List.range fs.length).any (fun i=>YE (fs.getD i zEO) x.num x.text.data.toList ls)∧Ext w w':=by
 obtain⟨A',c',hv,AK⟩:=hfs.open_;injection hv with h1 h2 h3;subst h1 h2 h3;have AQ:=yG AK;have HL:=yG hl;have AP:=yG hgk;have AS:=yG hgn;clear AK hl hgk hgn hfs;obtain⟨q,HQ⟩:∃q:Nat→Bool,Hid ((fun i=>YE (fs.getD i zEO) x.num x.text.data.toList ls)=q):=⟨_,yG rfl⟩;rw[HQ.out]
 go_enter Tryz.func144,Tryz.ntmps144
 go_wp2_with fail
 go_loopw [8] (fun i wr=>∃k:Nat,k≤fs.length∧i=.int .i64 k∧Hid (Ext w wr)∧Hid (∀j,j<k→q j=false)) (fun i _=>fs.length-(intOf i).toNat)
 case atStart=>exact⟨0,zW _,rfl,yG (Ext.refl _),yG fun j hj=>by omega⟩
 case round=>
  obtain⟨k,hk,rfl,HX,HR⟩:=hrel;obtain⟨wa,rfl⟩:∃wa:World,wa=wr:=⟨_,rfl⟩
  by_cases AH:k<fs.length
  ·have d0:decide ((k:Int)<(fs.length:Int))=true:=yS (by omega);obtain⟨g,cs,rfl,hg,AA,AB⟩:=AQ.out k AH;obtain⟨b,hb⟩:∃b,q k=b:=⟨_,rfl⟩;have HB:=yG hb
   have AL:fs.getD k zEO=fs[k]:=by simp[yH,AH]
   have AO:Hid (YE fs[k] x.num x.text.data.toList ls=b):=yG (by rw[←hb,←HQ.out,←AL]);have AC:=yG (AB.kept (Kept.ZV HX.out));obtain⟨ks,mv,rfl,AN,AF⟩:=AB;obtain⟨KA,AJ,rfl,-⟩:=AN.open_
   have hmf:mv=.nilFunc∨∃fm lm,mv=.func (.func fm) #[] lm:=by
    cases hm:fs[k].more with
    | none=>rw[hm] at AF; exact .inl AF
    | some q=>rw[hm] at AF; obtain⟨fm,lm,h3,_⟩:=zBg.form AF; exact .inr ⟨fm,lm,h3⟩
   clear AN AF hb AL;generalize fs[k]=f at *;have HC:Hid (∀j,j<4→wa.cell? ⟨g,k*4+j,none⟩=([Value.slice KA f.kids.length AJ,mv,.bool f.named,.int .i64 f.most])[j]?):=yG (fun j hj=>(HX.out.cell (p:=⟨g,k*4+j,none⟩) hg).trans (AA j hj));clear AA;have AM:=yG (HL.out.ext HX.out);have AD:=yG (AP.out.ext HX.out);have AG:=yG (AS.out.ext HX.out)
   rcases hmf with rfl | ⟨fm,lm,rfl⟩
   all_goals
    have c0:wa.cell? ⟨g,k*4,none⟩=some (.slice KA f.kids.length AJ):=HC.out 0 (by omega);have c1:=HC.out 1 (by omega);have c2:=HC.out 2 (by omega);have c3:=HC.out 3 (by omega)
    cases b with
    | true=>
     go_wp2_with (refine(zPk true f _ L ls lc gk gn x _ AC.out AM.out hlen hx AD.out AG.out AO.out).mono ?_; rintro e w2 ⟨rfl,AE⟩; have AI:Hid (Ext w w2):=yG (HX.out.trans AE); clear AE)
     go_ret;exact⟨_,rfl,by rw[yS (by omega)]; exact(any_some k AH HB.out).symm,AI.out⟩
    | false=>
     go_wp2_with (refine(zPk false f _ L ls lc gk gn x _ AC.out AM.out hlen hx AD.out AG.out AO.out).mono ?_; rintro e w2 ⟨rfl,AE⟩; have AI:Hid (Ext w w2):=yG (HX.out.trans AE); clear AE)
     go_roundw
     case rel=>exact⟨k+1,by omega,by go_num,AI,yG fun j hj=>by
      by_cases AR:j=k
      ·subst AR; exact HB.out
      ·exact HR.out j (by omega)⟩
     case measure=>simp[intOf]; omega
  ·obtain rfl:k=fs.length:=by omega
   have d0:decide ((fs.length:Int)<(fs.length:Int))=false:=by simp
   go_wp2_with fail
   go_ret;exact⟨_,rfl,by rw[any_none HR.out]; rfl,HX.out⟩
theorem zL0 (fs:List vR)(v:Value)(L:Option Addr)(ls:List Int)(lc gk gn:Nat)(x:xU)(w:World)(hfs:zBk w fs v)(hfl:fs.length≤10)(hl:Cells w L (vE ls))(hlen:ls.length≤9000)(hx:x.text.size≤9000)
  (hgk:Blk w gk 22 #[.slice L ls.length lc]) (hgn:Blk w gn 38 (Array.mk x.cells)) :
  Calls Tryz.prog 114 #[v,.func (.func 116) #[] #[.pointer (some ⟨gk,0,none⟩),.pointer (some ⟨gn,0,none⟩)]] w fun e w'=>e=.returned (.bool (fs.any fun f=>YE f x.num x.text.data.toList ls))∧Ext w w':=by
 have AD:Hid ((List.range fs.length).any (fun i=>YE (fs.getD i zEO) x.num x.text.data.toList ls)=fs.any fun f=>YE f x.num x.text.data.toList ls):=yG (zKZ fs (fun f=>YE f x.num x.text.data.toList ls) zEO);obtain⟨A,c,rfl,-⟩:=hfs.open_
 go_enter Tryz.func114,Tryz.ntmps114
 go_wp2_with fail
 refine(zNE fs A _ c L ls lc gk gn x w hfs hfl hl hlen hx hgk hgn).mono ?_;rintro e w2 ⟨r,rfl,hr,AA⟩;have AB:=yG hr;have AC:=yG AA;clear hr AA
 go_wp2_with fail
 go_ret;exact⟨jN (by rw[AB.out,AD.out]),AC.out⟩
theorem zB7 (k:Int)(w:World):Calls Tryz.prog 115 #[.int .u8 k] w fun e w'=>∃v,e=.returned v∧zBk w' (XY k) v∧Ext w w':=by
 have hz:∀w,(zeroValue 190).run Tryz.prog w=.ok (.slice none 0 0) w:=fun w=>by kernel_rfl
 have HZ:=yG hz;clear hz;have A2:=@run_makeMap Tryz.prog;have h4:Blk (((((w.alloc (.cells #[.int .u8 20] 5)).alloc (.cells #[.int .u8 5] 5)).alloc (.cells #[.int .u8 6] 5)).alloc (.cells #[.int .u8 21] 5)).alloc (.map #[] 0)) w.heap.size 5 #[.int .u8 20]:=((((Blk.new w 5 #[.int .u8 20]).alloc _).alloc _).alloc _).alloc _;have h5:Blk (((((w.alloc (.cells #[.int .u8 20] 5)).alloc (.cells #[.int .u8 5] 5)).alloc (.cells #[.int .u8 6] 5)).alloc (.cells #[.int .u8 21] 5)).alloc (.map #[] 0)) (w.heap.size+1) 5 #[.int .u8 5]:=(((Blk.newAt (by simp)).alloc _).alloc _).alloc _;have h6:Blk (((((w.alloc (.cells #[.int .u8 20] 5)).alloc (.cells #[.int .u8 5] 5)).alloc (.cells #[.int .u8 6] 5)).alloc (.cells #[.int .u8 21] 5)).alloc (.map #[] 0)) (w.heap.size+1+1) 5 #[.int .u8 6]:=((Blk.newAt (by simp)).alloc _).alloc _;have h7:Blk (((((w.alloc (.cells #[.int .u8 20] 5)).alloc (.cells #[.int .u8 5] 5)).alloc (.cells #[.int .u8 6] 5)).alloc (.cells #[.int .u8 21] 5)).alloc (.map #[] 0)) (w.heap.size+1+1+1) 5 #[.int .u8 21]:=(Blk.newAt (by simp)).alloc _
 have A1:jK (((((w.alloc (.cells #[.int .u8 20] 5)).alloc (.cells #[.int .u8 5] 5)).alloc (.cells #[.int .u8 6] 5)).alloc (.cells #[.int .u8 21] 5)).alloc (.map #[] 0)) (w.heap.size+1+1+1+1) #[] 0:=by
  have:=jK.new ((((w.alloc (.cells #[.int .u8 20] 5)).alloc (.cells #[.int .u8 5] 5)).alloc (.cells #[.int .u8 6] 5)).alloc (.cells #[.int .u8 21] 5))
  simpa using this
 have Ar:Hid (FSt w (((((w.alloc (.cells #[.int .u8 20] 5)).alloc (.cells #[.int .u8 5] 5)).alloc (.cells #[.int .u8 6] 5)).alloc (.cells #[.int .u8 21] 5)).alloc (.map #[] 0)) (w.heap.size+1+1+1+1) [] [] w.heap.size (w.heap.size+1) (w.heap.size+1+1) (w.heap.size+1+1+1)):=yG ⟨A1,rfl,(fun x hx=>by cases hx),((((Ext.alloc _ _).trans (Ext.alloc _ _)).trans (Ext.alloc _ _)).trans (Ext.alloc _ _)).trans (Ext.alloc _ _),by omega,h4,h5,h6,h7⟩;clear h4 h5 h6 h7 A1
 go_enter Tryz.func115,Tryz.ntmps115
 go_upto_region 3 with (go_at_call 146; refine(zHJ _ _).mono ?_; rintro e w' ⟨rfl,rfl⟩)
 simp only[List.append_eq,yC,List.nil_append]
 go_wp2_with (first | (go_at_call 146; refine(zHJ _ _).mono ?_; rintro e w' ⟨rfl,rfl⟩) | (refine zBI rfl (.tmp 13) (.const (.int .u8 1)) (.tmp 16) 1 _ rfl rfl rfl rfl (Ar.out.mono (Ext.alloc _ _)) (by exact vV rfl rfl (Blk.newAt (by simp)) VY rfl) rfl ?_))
 intro w1 l1 Av;have AG:=yG Av;clear Av Ar;clear A2;generalize w.heap.size+1+1+1+1+1=r1 at *;generalize w.heap.size+1+1+1+1=r at *;generalize w.heap.size+1+1+1=g7 at *;generalize w.heap.size+1+1=g6 at *;generalize w.heap.size+1=g5 at *;generalize w.heap.size=g4 at *
 try simp only[Act.put]
 go_wp2_with ((refine zBI rfl (.tmp 13) (.const (.int .u8 2)) (.tmp 21) 2 _ rfl rfl rfl rfl (AG.out.mono ((Ext.alloc _ _).trans (Ext.alloc _ _))) (by exact vV rfl rfl (Blk.newAt (by simp)) (zB4 ((Blk.newAt (by simp)).alloc _) ⟨_,rfl,(AG.out.mono ((Ext.alloc _ _).trans (Ext.alloc _ _))).k5⟩) ⟨_,rfl,(AG.out.mono ((Ext.alloc _ _).trans (Ext.alloc _ _))).k5⟩) rfl ?_))
 intro w2 l2 Ap;have Ao:=yG Ap;clear Ap AG
 try simp only[Act.put]
 go_wp2_with (first | (go_at_call 146; refine(zHJ _ _).mono ?_; rintro e w' ⟨rfl,rfl⟩) | (refine zBI rfl (.tmp 13) (.const (.int .u8 3)) (.tmp 26) 3 _ rfl rfl rfl rfl (Ao.out.mono (((Ext.alloc _ _).trans (Ext.alloc _ _)).trans (Ext.alloc _ _))) (by exact vV rfl rfl (Blk.newAt (by simp)) (zDN ((Blk.newAt (by simp)).alloc _) ⟨_,rfl,(((Blk.newAt (by simp)).alloc _).alloc _)⟩ ⟨_,rfl,(Ao.out.mono (((Ext.alloc _ _).trans (Ext.alloc _ _)).trans (Ext.alloc _ _))).k6⟩) rfl) rfl ?_))
 intro w3 l3 At;have Am:=yG At;clear At Ao
 try simp only[Act.put]
 go_wp2_with ((refine zBI rfl (.tmp 13) (.const (.int .u8 4)) (.tmp 29) 4 _ rfl rfl rfl rfl (Am.out.mono (Ext.alloc _ _)) (by exact vV rfl rfl (Blk.newAt (by simp)) VY ⟨_,rfl,(Am.out.mono (Ext.alloc _ _)).k5⟩) rfl ?_))
 intro w4 l4 A0;have Aq:=yG A0;clear A0 Am
 try simp only[Act.put]
 go_wp2_with ((refine zBI rfl (.tmp 13) (.const (.int .u8 5)) (.tmp 31) 5 _ rfl rfl rfl rfl (Aq.out.mono (Ext.alloc _ _)) (by exact vV rfl rfl (Blk.newAt (by simp)) VY rfl) rfl ?_))
 intro w5 l5 Ax;have Aw:=yG Ax;clear Ax Aq
 try simp only[Act.put]
 go_wp2_with ((refine zBI rfl (.tmp 13) (.const (.int .u8 6)) (.tmp 33) 6 _ rfl rfl rfl rfl (Aw.out.mono (Ext.alloc _ _)) (by exact vV rfl rfl (Blk.newAt (by simp)) VY rfl) rfl ?_))
 intro w6 l6 Az;have AH:=yG Az;clear Az Aw
 try simp only[Act.put]
 go_wp2_with ((refine zBI rfl (.tmp 13) (.const (.int .u8 7)) (.tmp 38) 7 _ rfl rfl rfl rfl (AH.out.mono ((Ext.alloc _ _).trans (Ext.alloc _ _))) (by exact vV rfl rfl (Blk.newAt (by simp)) (zDN ((Blk.newAt (by simp)).alloc _) ⟨_,rfl,(AH.out.mono ((Ext.alloc _ _).trans (Ext.alloc _ _))).k4⟩ ⟨_,rfl,(AH.out.mono ((Ext.alloc _ _).trans (Ext.alloc _ _))).k5⟩) rfl) rfl ?_))
 intro w7 l7 Au;have AF:=yG Au;clear Au AH
 try simp only[Act.put]
 go_wp2_with ((refine zBI rfl (.tmp 13) (.const (.int .u8 8)) (.tmp 43) 8 _ rfl rfl rfl rfl (AF.out.mono ((Ext.alloc _ _).trans (Ext.alloc _ _))) (by exact vV rfl rfl (Blk.newAt (by simp)) (zLE ((Blk.newAt (by simp)).alloc _) ⟨_,rfl,(AF.out.mono ((Ext.alloc _ _).trans (Ext.alloc _ _))).k4⟩ ⟨_,rfl,(AF.out.mono ((Ext.alloc _ _).trans (Ext.alloc _ _))).k5⟩ (rfl)) rfl) rfl ?_))
 intro w8 l8 As;have Al:=yG As;clear As AF
 try simp only[Act.put]
 go_wp2_with ((refine zBI rfl (.tmp 13) (.const (.int .u8 9)) (.tmp 47) 9 _ rfl rfl rfl rfl (Al.out.mono ((Ext.alloc _ _).trans (Ext.alloc _ _))) (by exact vV rfl rfl (Blk.newAt (by simp)) (zDN ((Blk.newAt (by simp)).alloc _) ⟨_,rfl,(Al.out.mono ((Ext.alloc _ _).trans (Ext.alloc _ _))).k4⟩ (rfl)) rfl) rfl ?_))
 intro w9 l9 Ay;have An:=yG Ay;clear Ay Al
 try simp only[Act.put]
 go_wp2_with ((refine zBI rfl (.tmp 13) (.const (.int .u8 10)) (.tmp 51) 10 _ rfl rfl rfl rfl (An.out.mono ((Ext.alloc _ _).trans (Ext.alloc _ _))) (by exact vV rfl rfl (Blk.newAt (by simp)) (zB4 ((Blk.newAt (by simp)).alloc _) ⟨_,rfl,(An.out.mono ((Ext.alloc _ _).trans (Ext.alloc _ _))).k4⟩) rfl) rfl ?_))
 intro BN BL Ae;have AC:=yG Ae;clear Ae An
 try simp only[Act.put]
 go_wp2_with ((refine zBI rfl (.tmp 13) (.const (.int .u8 11)) (.tmp 56) 11 _ rfl rfl rfl rfl (AC.out.mono ((Ext.alloc _ _).trans (Ext.alloc _ _))) (by exact vV rfl rfl (Blk.newAt (by simp)) (zDN ((Blk.newAt (by simp)).alloc _) ⟨_,rfl,(AC.out.mono ((Ext.alloc _ _).trans (Ext.alloc _ _))).k5⟩ ⟨_,rfl,(AC.out.mono ((Ext.alloc _ _).trans (Ext.alloc _ _))).k5⟩) rfl) rfl ?_))
 intro BT BP Ah;have AE:=yG Ah;clear Ah AC
 try simp only[Act.put]
 go_wp2_with ((refine zBI rfl (.tmp 13) (.const (.int .u8 12)) (.tmp 60) 12 _ rfl rfl rfl rfl (AE.out.mono ((Ext.alloc _ _).trans (Ext.alloc _ _))) (by exact vV rfl rfl (Blk.newAt (by simp)) (zB4 ((Blk.newAt (by simp)).alloc _) ⟨_,rfl,(AE.out.mono ((Ext.alloc _ _).trans (Ext.alloc _ _))).k5⟩) rfl) rfl ?_))
 intro BQ Ba AM;have AD:=yG AM;clear AM AE
 try simp only[Act.put]
 go_wp2_with ((refine zBI rfl (.tmp 13) (.const (.int .u8 13)) (.tmp 67) 13 _ rfl rfl rfl rfl (AD.out.mono (((Ext.alloc _ _).trans (Ext.alloc _ _)).trans (Ext.alloc _ _))) (by exact zIB rfl rfl rfl rfl (Blk.newAt (by simp)) (zB4 (((Blk.newAt (by simp)).alloc _).alloc _) ⟨_,rfl,(AD.out.mono (((Ext.alloc _ _).trans (Ext.alloc _ _)).trans (Ext.alloc _ _))).k5⟩) rfl (zB4 ((Blk.newAt (by simp)).alloc _) ⟨_,rfl,(AD.out.mono (((Ext.alloc _ _).trans (Ext.alloc _ _)).trans (Ext.alloc _ _))).k4⟩) rfl) rfl ?_))
 intro A6 Bb Aa;have AB:=yG Aa;clear Aa AD
 try simp only[Act.put]
 go_wp2_with ((refine zBI rfl (.tmp 13) (.const (.int .u8 14)) (.tmp 75) 14 _ rfl rfl rfl rfl (AB.out.mono (((Ext.alloc _ _).trans (Ext.alloc _ _)).trans (Ext.alloc _ _))) (by exact zIB rfl rfl rfl rfl (Blk.newAt (by simp)) (zLE (((Blk.newAt (by simp)).alloc _).alloc _) (rfl) (rfl) ⟨_,rfl,(AB.out.mono (((Ext.alloc _ _).trans (Ext.alloc _ _)).trans (Ext.alloc _ _))).k6⟩) rfl (zS2 ((Blk.newAt (by simp)).alloc _) (rfl) (rfl) ⟨_,rfl,(AB.out.mono (((Ext.alloc _ _).trans (Ext.alloc _ _)).trans (Ext.alloc _ _))).k6⟩ ⟨_,rfl,(AB.out.mono (((Ext.alloc _ _).trans (Ext.alloc _ _)).trans (Ext.alloc _ _))).k6⟩) rfl) rfl ?_))
 intro BY BH Af;have AA:=yG Af;clear Af AB
 try simp only[Act.put]
 go_wp2_with ((refine zBI rfl (.tmp 13) (.const (.int .u8 15)) (.tmp 81) 15 _ rfl rfl rfl rfl (AA.out.mono ((Ext.alloc _ _).trans (Ext.alloc _ _))) (by exact vV rfl rfl (Blk.newAt (by simp)) (zLE ((Blk.newAt (by simp)).alloc _) ⟨_,rfl,(AA.out.mono ((Ext.alloc _ _).trans (Ext.alloc _ _))).k7⟩ ⟨_,rfl,(AA.out.mono ((Ext.alloc _ _).trans (Ext.alloc _ _))).k7⟩ ⟨_,rfl,(AA.out.mono ((Ext.alloc _ _).trans (Ext.alloc _ _))).k6⟩) rfl) rfl ?_))
 intro BS BC Ai;have AQ:=yG Ai;clear Ai AA
 try simp only[Act.put]
 go_wp2_with ((refine zBI rfl (.tmp 13) (.const (.int .u8 16)) (.tmp 84) 16 _ rfl rfl rfl rfl (AQ.out.mono ((Ext.alloc _ _).trans (Ext.alloc _ _))) (by exact vV rfl rfl (Blk.newAt (by simp)) (zB4 ((Blk.newAt (by simp)).alloc _) (rfl)) rfl) rfl ?_))
 intro A3 BF AW;have AT:=yG AW;clear AW AQ
 try simp only[Act.put]
 go_wp2_with ((refine zBI rfl (.tmp 13) (.const (.int .u8 17)) (.tmp 87) 17 _ rfl rfl rfl rfl (AT.out.mono ((Ext.alloc _ _).trans (Ext.alloc _ _))) (by exact vV rfl rfl (Blk.newAt (by simp)) (zB4 ((Blk.newAt (by simp)).alloc _) (rfl)) rfl) rfl ?_))
 intro BX BM AU;have Ag:=yG AU;clear AU AT
 try simp only[Act.put]
 go_wp2_with ((refine zBI rfl (.tmp 13) (.const (.int .u8 18)) (.tmp 89) 18 _ rfl rfl rfl rfl (Ag.out.mono (Ext.alloc _ _)) (by exact vV rfl rfl (Blk.newAt (by simp)) VY rfl) rfl ?_))
 intro BK BR Ad;have AY:=yG Ad;clear Ad Ag
 try simp only[Act.put]
 go_wp2_with ((refine zBI rfl (.tmp 13) (.const (.int .u8 19)) (.tmp 91) 19 _ rfl rfl rfl rfl (AY.out.mono (Ext.alloc _ _)) (by exact vV rfl rfl (Blk.newAt (by simp)) VY rfl) rfl ?_))
 intro BJ BG AJ;have AP:=yG AJ;clear AJ AY
 try simp only[Act.put]
 go_wp2_with ((refine zBI rfl (.tmp 13) (.const (.int .u8 20)) (.tmp 94) 20 _ rfl rfl rfl rfl (AP.out.mono ((Ext.alloc _ _).trans (Ext.alloc _ _))) (by exact vV rfl rfl (Blk.newAt (by simp)) (zB4 ((Blk.newAt (by simp)).alloc _) (rfl)) rfl) rfl ?_))
 intro A9 A4 AK;have AX:=yG AK;clear AK AP
 try simp only[Act.put]
 go_wp2_with ((refine zBI rfl (.tmp 13) (.const (.int .u8 21)) (.tmp 96) 21 _ rfl rfl rfl rfl (AX.out.mono (Ext.alloc _ _)) (by exact vV rfl rfl (Blk.newAt (by simp)) VY rfl) rfl ?_))
 intro BD BO AI;have Ac:=yG AI;clear AI AX
 try simp only[Act.put]
 go_wp2_with ((refine zBI rfl (.tmp 13) (.const (.int .u8 22)) (.tmp 98) 22 _ rfl rfl rfl rfl (Ac.out.mono (Ext.alloc _ _)) (by exact vV rfl rfl (Blk.newAt (by simp)) VY rfl) rfl ?_))
 intro BA BZ AV;have AL:=yG AV;clear AV Ac
 try simp only[Act.put]
 go_wp2_with ((refine zBI rfl (.tmp 13) (.const (.int .u8 23)) (.tmp 101) 23 _ rfl rfl rfl rfl (AL.out.mono ((Ext.alloc _ _).trans (Ext.alloc _ _))) (by exact vV rfl rfl (Blk.newAt (by simp)) (zDN ((Blk.newAt (by simp)).alloc _) (rfl) (rfl)) rfl) rfl ?_))
 intro BV BW AO;have AN:=yG AO;clear AO AL
 try simp only[Act.put]
 go_wp2_with ((refine zBI rfl (.tmp 13) (.const (.int .u8 24)) (.tmp 104) 24 _ rfl rfl rfl rfl (AN.out.mono ((Ext.alloc _ _).trans (Ext.alloc _ _))) (by exact vV rfl rfl (Blk.newAt (by simp)) (zDN ((Blk.newAt (by simp)).alloc _) (rfl) (rfl)) rfl) rfl ?_))
 intro BB BU AR;have AS:=yG AR;clear AR AN
 try simp only[Act.put]
 go_wp2_with ((refine zBI rfl (.tmp 13) (.const (.int .u8 25)) (.tmp 107) 25 _ rfl rfl rfl rfl (AS.out.mono ((Ext.alloc _ _).trans (Ext.alloc _ _))) (by exact vV rfl rfl (Blk.newAt (by simp)) (zDN ((Blk.newAt (by simp)).alloc _) (rfl) (rfl)) rfl) rfl ?_))
 intro A5 A8 Aj;have Ak:=yG Aj;clear Aj AS
 try simp only[Act.put]
 go_wp2_with ((refine zBI rfl (.tmp 13) (.const (.int .u8 26)) (.tmp 110) 26 _ rfl rfl rfl rfl (Ak.out.mono ((Ext.alloc _ _).trans (Ext.alloc _ _))) (by exact vV rfl rfl (Blk.newAt (by simp)) (zB4 ((Blk.newAt (by simp)).alloc _) (rfl)) rfl) rfl ?_))
 intro A7 BE Ab;have AZ:=yG Ab;clear Ab Ak
 try simp only[Act.put]
 go_wp2_with (refine zUZ rfl (.tmp 112) (.tmp 113) k rfl rfl rfl AZ.out HZ.out ?_)
 intro v hv;have HV:=yG hv;clear hv
 try simp only[Act.put]
 go_wp2_with fail
 go_ret;exact⟨v,rfl,HV.out,AZ.out.ext⟩
end Go.Proofs.YtbadjmmjbpeocaaGreat.TT
namespace Go.Proofs.YtbadjmmjbpeocaaGreat.TT
def zUb (k:Int):Int:=if k=6∨k=20 then 1 else 0
def exD (k:Int):Int:=if VS k=true then 1 else 0
def zSA (v:Int):List Int→List Int→List Int
 | [],D=>D
 | k::r,D=>zSA v r (D.set k.toNat v)
def zRm (kd:List Int)(ks:List (List Int))(i:Nat)(st:List Int × Int):List Int × Int:=
 (zSA (st.1.getD i 0+zUb (kd.getD i 0)+exD (kd.getD i 0)) (ks.getD i []) (st.1.set i (st.1.getD i 0+zUb (kd.getD i 0))),max st.2 (st.1.getD i 0+zUb (kd.getD i 0)))
def runs (kd:List Int)(ks:List (List Int)):Nat→Nat→List Int × Int→List Int × Int
 | 0,_,st=>st
 | c+1,i,st=>runs kd ks c (i+1) (zRm kd ks i st)
def zCf (l:List xU)(k:Int):Int:=match l[k.toNat]? with | some x=>x.kind | none=>0
def jX (l:List xU)(ks:List Int):List Int:=ks.map (zCf l)
def zLu (l:List xU)(ks:List Int):Prop:=∀k ∈ ks,∃a:Nat,k=(a:Int)∧a<l.length
theorem zB9 {l:List xU}{a:Nat}(h:a<l.length):zCf l (a:Int)=l[a].kind:=by
 unfold zCf;rw[zI,yJ h]
def zBL (l:List xU):List (List Int):=l.map (·.kids)
theorem XN (l:List xU):(zBL l).length=l.length:=by simp[zBL]
theorem zDq (l:List xU)(i:Nat)(h:i<l.length):(zBL l).getD i []=l[i].kids:=by simp[zBL,yH,h]
def zBu (l:List xU)(x:xU):Bool:=zAA x.kind x.num x.text.data.toList (jX l x.kids)
def XJ (l:List xU):Bool:=(zB0 (zBL l)).isSome&&(zCf l 0==1&&l.all (zBu l))
def zGf (l:List xU):Bool:=(List.range l.length).all fun i=>((zBL l).getD i []).all fun k=>decide ((i:Int)<k)&&decide (k<(l.length:Int))
def zMy (l:List xU)(x:xU):Bool:=decide (1≤x.kind)&&(decide (x.kind≤26)&&(zFF x.kind x.num x.text.data.toList&&ZB x.kind (jX l x.kids)))
def zLi (l:List xU):Bool:=decide (0<l.length)&&(zCf l 0==1&&(zGf l&&(decide (zBJ (zBL l) 0=some l.length)&&l.all (zMy l))))
theorem zDX (l:List xU):zGf l=true↔∀i,i<l.length→∀k ∈ (zBL l).getD i [],(i:Int)<k∧k<(l.length:Int):=by
 unfold zGf;rw[zH];simp only[List.mem_range,zH,zG,zF]
theorem zIm {l:List xU}{Z:List Nat}(h:zB0 (zBL l)=some Z):zGf l=true:=by
 rw[zDX];obtain⟨_,_,_,hz⟩:=zGo h;intro i hi k hk;obtain⟨a,h1,h2,h3⟩:=zOz (hz i (by rw[XN]; exact hi)) k hk;rw[XN] at h3;omega
theorem zSa (l:List xU):(zB0 (zBL l)).isSome=(decide (0<l.length)&&(zGf l&&decide (zBJ (zBL l) 0=some l.length))):=by
 cases h:zB0 (zBL l) with
 | none=>
  have:=zQE h
  rw[XN] at this;rw[yR this]
  simp
 | some Z=>
  obtain⟨h1,h2,h3,_⟩:=zGo h;rw[XN] at h2 h3;rw[zIm h,yS h3,yS (by omega)]
  rfl
theorem zRJ (l:List xU)(x:xU):zBu l x=zMy l x:=zM6 _ _ _ _
theorem zKj (l:List xU):XJ l=zLi l:=by
 unfold XJ zLi;rw[zSa,show zBu l=zMy l from funext (zRJ l)]
 cases decide (0<l.length) <;> cases (zCf l 0==1) <;> cases zGf l <;> cases decide (zBJ (zBL l) 0=some l.length) <;> simp
theorem zJQ {l:List xU}{Z:List Nat}(h:zB0 (zBL l)=some Z):∀x ∈ l,zLu l x.kids:=by
 intro x hx k hk;obtain⟨i,hi,rfl⟩:=List.getElem_of_mem hx;have h1:=(zDX l).1 (zIm h) i hi k (by rw[zDq l i hi]; exact hk);exact⟨k.toNat,by omega,by omega⟩
theorem zNf {ks:List (List Int)}{j:Nat}(h:JJ ks j=none):∀m,j≤m→JJ ks m=none:=by
 intro m
 induction m with
 | zero=>intro hm; rw[show j=0 from by omega] at h; exact h
 | succ m ih=>
  intro hm
  by_cases he:j=m+1
  ·rw[←he]; exact h
  ·unfold JJ;rw[ih (by omega)]
theorem zIl {ks:List (List Int)}{j:Nat}(hj:j≤ks.length)(h:JJ ks j=none):zB0 ks=none:=by
 unfold zB0;rw[zNf h _ hj]
end Go.Proofs.YtbadjmmjbpeocaaGreat.TT
namespace Go.Proofs.YtbadjmmjbpeocaaGreat.TT
open Go Go.RowKit
theorem zUp:(Tryz.prog.info? 5).map (fun i=>(i.zero,i.size,i.bytes))=some (some (.int .u8 0),1,1):=by kernel_rfl
theorem zNl (l:List Int)(x:Int):vE (l++[x])=vE l++[.int .u8 x]:=by simp[vE]
structure KSt (w0 W:World)(gt gn gk:Nat)(tv:Value)(nc:Array Value)(ls:List Int)(A:Option Addr)(c:Nat):Prop where
 t:Blk W gt 27 #[tv]
 n:Blk W gn 38 nc
 k:Blk W gk 22 #[.slice A ls.length c]
 own:W.ownsRow w0.heap.size 5 1 (.slice A ls.length c) ls.length (vE ls)
 ext:Ext w0 W
 low:w0.heap.size≤gk
 nil:A=none→c=0
theorem KSt.mono {w0 W W':World}{gt gn gk:Nat}{tv:Value}{nc:Array Value}{ls:List Int}{A:Option Addr}{c:Nat}(h:KSt w0 W gt gn gk tv nc ls A c)(hx:Ext W W'):KSt w0 W' gt gn gk tv nc ls A c:=
 ⟨h.t.ext hx,h.n.ext hx,h.k.ext hx,zB1 h.own hx,h.ext.trans hx,h.low,h.nil⟩
theorem zRU {W:World}{b:Nat}{e:TypeId}{size n:Nat}{v:Value}{xs:List Value}(h:W.ownsRow b e size v n xs):∀k,v.ownBlock=some k→b≤k:=by
 intro k hk
 rcases h.2 with ⟨rfl,_⟩ | ⟨g',cap,AA,rfl,hb,hh,_⟩
 ·simp[Value.ownBlock] at hk
 ·simp[Value.ownBlock] at hk;omega
theorem zSk {W:World}{b:Nat}{e:TypeId}{v:Value}{n m:Nat}{xs ys:List Value}(h:W.ownsRow b e 1 v n xs)(hn:n=m)(hx:xs=ys):W.ownsRow b e 1 v m ys:=by subst hn hx; exact h
theorem KSt.step {w0 W W':World}{gt gn gk:Nat}{tv:Value}{nc:Array Value}{ls:List Int}{A A':Option Addr}{c c':Nat}{x:Int}(h:KSt w0 W gt gn gk tv nc ls A c)
  (ho:W'.ownsRow w0.heap.size 5 1 (.slice A' (ls.length+1) c') (ls.length+1) (vE ls++[.int .u8 x])) (hg:W.grownBy W' (Value.slice A ls.length c).ownBlock) (hn:A'=none→c'=0) :
  KSt w0 (W'.setCell ⟨gk,0,none⟩ (.slice A' (ls.length+1) c')) gt gn gk tv nc (ls++[x]) A' c':=by
 have d1:(Value.slice A ls.length c).ownBlock≠some gt:=XV h.own h.t (by decide);have d2:(Value.slice A ls.length c).ownBlock≠some gn:=XV h.own h.n (by decide);have d3:(Value.slice A ls.length c).ownBlock≠some gk:=XV h.own h.k (by decide);have t1:=h.t.grown hg (Ne.symm d1);have n1:=h.n.grown hg (Ne.symm d2);have k1:=h.k.grown hg (Ne.symm d3);have e1:gt≠gk:=h.t.differ h.k (by decide);have e2:gn≠gk:=h.n.differ h.k (by decide)
 have hl:(ls++[x]).length=ls.length+1:=by simp
 refine⟨t1.far e1 _,n1.far e2 _,?_,?_,?_,h.low,hn⟩
 ·rw[hl]; exact k1.put 0 _
 ·rw[hl];have d4:(Value.slice A' (ls.length+1) c').ownBlock≠some gk:=XV ho k1 (by decide);exact zSk (zPr ho (p:=⟨gk,0,none⟩) d4 _) rfl (zNl ls x).symm
 ·have hb:Below w0.heap.size w0 W':=Below.grown h.ext hg h.ext.size (zRU h.own);exact hb.setCell (p:=⟨gk,0,none⟩) h.low _
theorem zOl (k:Int):(XY k).length≤10:=by
 by_cases hk:1≤k∧k≤26
 ·have hc:k=1∨k=2∨k=3∨k=4∨k=5∨k=6∨k=7∨k=8∨k=9∨k=10∨k=11∨k=12∨k=13∨k=14∨k=15∨k=16∨k=17∨k=18∨k=19∨k=20∨k=21∨k=22∨k=23∨k=24∨k=25∨k=26:=by omega
  rcases hc with rfl | rfl | rfl | rfl | rfl | rfl | rfl | rfl | rfl | rfl | rfl | rfl | rfl | rfl | rfl | rfl | rfl | rfl | rfl | rfl | rfl | rfl | rfl | rfl | rfl | rfl <;> decide
 ·have h0:XY k=[]:=by
   unfold XY
   repeat (rw[if_neg (by omega)])
  rw[h0]
  decide
theorem zQ2 (l:List xU)(A:Option Addr)(n c:Nat)(x:xU)(w:World)(hn:n=l.length)(ht:zA2 w A l)(hlen:l.length≤9000)(hx:x.text.size≤9000)(hkl:x.kids.length≤9000)(hxo:zDM w x)(hin:zLu l x.kids) :
  Calls Tryz.prog 80 #[.agg #[.slice A n c],.agg (Array.mk x.cells)] w fun e w'=>e=.returned (.bool (zAA x.kind x.num x.text.data.toList (jX l x.kids)))∧Ext w w':=by
 subst hn;obtain⟨i0,hi,Aq,Ad,Af⟩:=info_parts zUp;have HT:=yG ht;have Ap:=yG hxo;have Ai:=yG hin;clear ht hxo hin;obtain⟨kind,pos,text,num,kA,kc,AA⟩:=x
 simp only at hx hkl
 obtain⟨fs,AG⟩:∃fs,XY kind=fs:=⟨_,rfl⟩;have Am:Hid (fs.length≤10):=yG (by rw[←AG]; exact zOl kind);have AO:Hid (zAA kind num text.data.toList (jX l AA)=fs.any fun f=>YE f num text.data.toList (jX l AA)):=yG (by unfold zAA; rw[AG]);have Al:=yG AG;clear AG
 show Calls Tryz.prog 80 #[.agg #[.slice A l.length c],.agg #[.int .u8 kind,.int .i64 pos,.string text,.int .i64 num,.slice kA AA.length kc]] w fun e w'=>e=.returned (.bool (zAA kind num text.data.toList (jX l AA)))∧Ext w w'
 have AM:Hid (KSt w (((w.alloc (.cells #[.slice A l.length c] 27)).alloc (.cells #[.int .u8 kind,.int .i64 pos,.string text,.int .i64 num,.slice kA AA.length kc] 38)).alloc (.cells #[.slice none 0 0] 22)) w.heap.size (w.heap.size+1) (w.heap.size+1+1) (.slice A l.length c) #[.int .u8 kind,.int .i64 pos,.string text,.int .i64 num,.slice kA AA.length kc] [] none 0):=
  yG ⟨((Blk.newAt rfl).alloc _).alloc _,(Blk.newAt (by simp)).alloc _,Blk.newAt (by simp),zR _ _ _ _,((Ext.alloc _ _).trans (Ext.alloc _ _)).trans (Ext.alloc _ _),by omega,fun _=>rfl⟩
 go_enter Tryz.func80,Tryz.ntmps80
 have y0:=AM.out.n.cell 4
 go_wp2_with fail
 clear y0;generalize ((w.alloc (.cells #[.slice A l.length c] 27)).alloc (.cells #[.int .u8 kind,.int .i64 pos,.string text,.int .i64 num,.slice kA AA.length kc] 38)).alloc (.cells #[.slice none 0 0] 22)=wz at *;generalize w.heap.size+1+1=gk at *;generalize w.heap.size+1=gn at *;obtain⟨gt,AN⟩:∃gt,gt=w.heap.size:=⟨_,rfl⟩;rw[←AN] at AM ⊢;have Ar:=yG AN;clear AN
 go_loopw [11] (fun i wr=>∃(k:Nat) (A':Option Addr) (c':Nat),k≤AA.length∧i=.int .i64 k∧Hid (KSt w wr gt gn gk (.slice A l.length c) #[.int .u8 kind,.int .i64 pos,.string text,.int .i64 num,.slice kA AA.length kc] (jX l (AA.take k)) A' c')) (fun i _=>AA.length-(intOf i).toNat)
 case atStart=>exact⟨0,none,0,zW _,rfl,AM⟩
 case round=>
  obtain⟨k,A',c',hk,rfl,HS⟩:=hrel;obtain⟨wa,rfl⟩:∃wa:World,wa=wr:=⟨_,rfl⟩
  by_cases AH:k<AA.length
  ·have d0:decide ((k:Int)<(AA.length:Int))=true:=yS (by omega);obtain⟨b,At,rfl,hb,Ab⟩:=zPs (Ap.out.kids.ext HS.out.ext) k AH;obtain⟨a,ha,Ac⟩:=Ai.out AA[k] (yO AH)
   have An:Hid (jX l (AA.take (k+1))=jX l (AA.take k)++[l[a].kind]):=yG (by
    unfold jX;rw[zZ AH,List.map_append,ha];simp only[List.map_cons,List.map_nil]
    rw[zB9 Ac])
   rw[ha] at Ab;clear ha
   go_upto_region 5 with fail
   obtain⟨b2,AC,rfl,Ah,AS⟩:=(HT.out.ext HS.out.ext).at_ a Ac;have Aa:wa.cell? ⟨b2,AC+a*5,none⟩=some (.int .u8 l[a].kind):=AS 0 (by omega);have Ak:=yG Aa;clear Aa AS Ab
   have AI:(jX l (AA.take k)).length=k:=by simp[jX]; omega
   generalize jX l (AA.take k)=ls at *;generalize l[a].kind=ka at *
   have q0:(0:Int)≤(a:Int):=by omega
   have q1:(a:Int)<(l.length:Int):=by omega
   apply xN 8 (by kernel_rfl) (by kernel_rfl) (by kernel_rfl);dsimp only[List.take_succ_cons,List.take_zero,List.drop_succ_cons,List.drop_zero];apply xB (.slice A' ls.length c') rfl rfl rfl
   ·intro w' AE hH;clear hH;have c0:=(HS.out.k.ext AE).cell 0;simp[xA,go_sem,c0];exact Ext.refl _
   apply sQ (.pointer (some ⟨gt,0,none⟩));apply xB (.slice (some ⟨b2,AC,none⟩) l.length c) rfl rfl rfl
   ·intro w' AE hH;clear hH;have c0:=(HS.out.t.ext AE).cell 0;simp[xA,go_sem,c0];exact Ext.refl _
   apply sQ (.int .i64 (a:Int));apply xB (.pointer (some ⟨b2,AC+a*5,none⟩)) rfl rfl rfl
   ·intro w' AE hH;clear hH;simp[xA,go_sem,q0,q1];exact Ext.refl _
   apply sQ (.pointer (some ⟨b2,AC+a*5,none⟩));apply xB (.int .u8 ka) rfl rfl rfl
   ·intro w' AE hH;clear hH;have c0:=(AE.cell (p:=⟨b2,AC+a*5,none⟩) Ah).trans Ak.out;simp[xA,go_sem,c0];exact Ext.refl _
   apply xZ (zML 5 #[.int .u8 ka]) (fun v a b h k=>zML.ext v a b h k) rfl rfl rfl
   ·intro w' AE hH;clear hH;simp[xA,go_sem];exact⟨⟨_,rfl,Blk.new _ _ _⟩,Ext.alloc _ _⟩
   intro vl;apply xR;intro w2 AP hH;have AK:=hH _ (List.mem_cons_self);obtain⟨gl,Ao,AT⟩:=AK;subst Ao;clear hH;have AQ:=HS.out.mono AP;have AD:=yG AQ;have AX:=yG AT;have Au:=yG AP;clear AQ AT AP
   try simp only[Act.put]
   refine zBz rfl (.tmp 15) (.tmp 22) 22 rfl w.heap.size 5 i0 (.int .u8 0) 1 1 Tryz.underlying22 hi Aq Ad Af rfl (by decide) (.slice A' ls.length c') ls.length (vE ls) (by kernel_rfl) AD.out.own (some ⟨gl,0,none⟩) 1 1 [.int .u8 ka] (by kernel_rfl) (fun h=>by cases h) rfl ?c1 ?c2 ?c3 ?c4 ?c5 ?_
   case c1=>exact .inr ⟨gl,0,rfl,AX.out.lt,fun j hj=>by
    have:j=0:=by simp at hj; omega
    subst this
    exact(AX.out.cell 0)⟩
   case c2=>intro u hu; simp at hu; subst hu; rfl
   case c3=>unfold maxLen; omega
   case c4=>omega
   case c5=>exact AD.out.ext.size
   intro A3 c3 w3 AW AV AJ;have Ag:=yG (AD.out.step AV AJ AW);have AL:Blk w3 gk 22 #[.slice A' ls.length c']:=AD.out.k.grown AJ (Ne.symm (XV AD.out.own AD.out.k (by decide)));have y0:=AL.cell 0;have y1:=AL.frozen 0;clear AV AJ AW AL
   try simp only[Act.put]
   go_wp2_with fail
   go_roundw
   case rel=>exact⟨k+1,A3,c3,by omega,by go_num,yG (by rw[An.out]; have:=Ag.out; rw[AI] at this; exact this)⟩
   case measure=>simp[intOf]; omega
  ·obtain rfl:k=AA.length:=by omega
   have d0:decide ((AA.length:Int)<(AA.length:Int))=false:=by simp
   have AY:Hid (KSt w wa gt gn gk (.slice A l.length c) #[.int .u8 kind,.int .i64 pos,.string text,.int .i64 num,.slice kA AA.length kc] (jX l AA) A' c'):=yG (by have:=HS.out; rw[List.take_length] at this; exact this);clear HS;have y0:=AY.out.n.cell 0
   go_wp2_with fail
   refine(zB7 kind wa).mono ?_;rintro e w2 ⟨v,rfl,hv,AR⟩;have AD:=yG (AY.out.mono AR);have HV:=yG hv;clear hv AR y0
   go_wp2_with fail
   have AI:(jX l AA).length≤9000:=by simp[jX]; omega
   have AZ:=HV.out;rw[Al.out] at AZ;have Aj:Blk w2 gn 38 (Array.mk (xU.cells ⟨kind,pos,text,num,kA,kc,AA⟩)):=AD.out.n;have AB:=zL0 fs v A' (jX l AA) c' gk gn ⟨kind,pos,text,num,kA,kc,AA⟩ w2 AZ Am.out (Cells.own AD.out.own) AI hx AD.out.k Aj;rw[show(fs.any fun f=>YE f (xU.mk kind pos text num kA kc AA).num (xU.mk kind pos text num kA kc AA).text.data.toList (jX l AA))=zAA kind num text.data.toList (jX l AA) from AO.out.symm] at AB;obtain⟨As,AF⟩:∃r,Hid (zAA kind num text.data.toList (jX l AA)=r):=⟨_,yG rfl⟩;rw[AF.out] at AB;refine AB.mono ?_;clear AB;rintro e w3 ⟨rfl,AU⟩;have Ae:Hid (Ext w w3):=yG (AD.out.ext.trans AU);clear AU
   go_wp2_with fail
   go_ret;exact⟨jN AF.out.symm,Ae.out⟩
end Go.Proofs.YtbadjmmjbpeocaaGreat.TT
