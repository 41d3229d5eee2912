/- lex.IsName and the document's, walked. (and what follows of it). The conditions stand at each lemma. -/
import Derived.Test.YtbadjmmjbpeocaaGreatKaa
import Derived.Test.YtbadjmmjbpeocaaGreatKbb
set_option linter.unusedVariables false
set_option linter.unusedSimpArgs false
set_option maxRecDepth 100000
set_option maxHeartbeats 16000000
namespace Go.Proofs.YtbadjmmjbpeocaaGreat.TT
open Go Go.RowKit
def zSa:ByteArray:=⟨#[97,98,99,100,101,102,103,104,105,106,107,108,109,110,111,112,113,114,115,116,117,118,119,120,121,122]⟩
def zT6:ByteArray:=⟨#[97,98,99,100,101,102,103,104,105,106,107,108,109,110,111,112,113,114,115,116,117,118,119,120,121,122,48,49,50,51,52,53,54,55,56,57,95]⟩
theorem zNx (set:ByteArray)(p:UInt8→Bool)(h:((List.range 256).all fun n=>decide (0≤zMe set (n:Int))==p (UInt8.ofNat n))=true):zAj set p:=by
 intro c;have h1:=List.all_eq_true.1 h c.toNat (List.mem_range.2 c.toNat_lt);rw[UInt8.ofNat_toNat] at h1;rw[zO] at h1;rw[←h1]
 simp
def zUJ (c:UInt8):Bool:=JE (c.toNat:Int)
def zHd (c:UInt8):Bool:=zDY (c.toNat:Int)
theorem zKW:zAj zSa zUJ:=zNx _ _ (by decide +kernel)
theorem zOR:zAj zT6 zHd:=zNx _ _ (by decide +kernel)
theorem zSl (s:ByteArray)(w:World):∃c w',(convert 9 22 (.string s)).run Tryz.prog w=.ok (.slice (some ⟨w.heap.size,0,none⟩) s.size c) w'∧Ext w w'∧Cells w' (some ⟨w.heap.size,0,none⟩) (zDB s.data.toList)∧s.size≤c∧w'.heap.size=w.heap.size+1:=by
 refine⟨_,_,run_bytes_of_string w 9 22 5 s Tryz.underlying9 Tryz.underlying22 Tryz.underlying5,Ext.trans (Below.drew (Below.refl _ _)) (Ext.alloc _ _),?_,grownCap_ge w s.size 0 5,by simp⟩
 by_cases h0:s.data.toList=[]
 ·left; rw[h0]; rfl
 ·right
  refine⟨_,0,rfl,by simp,fun k hk=>?_⟩;rw[zCf] at hk
  have hk':k<s.data.size:=by simpa using hk
  rw[Nat.zero_add];refine(cell_of_row (w.drew.alloc (.cells (bytesRow s (grownCap w s.size 0 5)) 5 ((bytesRow s (grownCap w s.size 0 5)).size,(bytesRow s (grownCap w s.size 0 5)).size+1))) w.drew.heap.size k _ _ _ (zQ w.drew _)).trans ?_;rw[bytesRow_at s _ k hk',zGp _ k hk]
  simp
theorem zHg (s:ByteArray)(c v:Int)(h:Hid (zMe s c=v))(w:World):Calls Tryz.prog 97 #[.string s,.int .u8 c] w fun e w'=>e=.returned (.int .i64 v)∧w=w':=
 (zEc s c v h w).mono fun e w' h=>⟨h.1,h.2.symm⟩
theorem zR3 (p:UInt8→Bool)(l:List UInt8)(h:l.all p=true):scan p l=l.length:=by
 induction l with
 | nil=>rfl
 | cons a l ih=>
  unfold scan at *;rw[List.all_cons,zG] at h;rw[List.takeWhile_cons,if_pos h.1,zK,zK,ih h.2]
theorem zSv (p:UInt8→Bool)(l:List UInt8)(h:l.all p=false):scan p l<l.length:=by
 induction l with
 | nil=>cases h
 | cons a l ih=>
  unfold scan at *;rw[List.takeWhile_cons];rw[List.all_cons] at h
  cases hp:p a with
  | true=>rw[hp,Bool.true_and] at h; rw[if_pos rfl,zK,zK]; have:=ih h; omega
  | false=>rw[if_neg (by decide)]; simp
theorem zOB (s:ByteArray)(w:World)(hs:s.size≤9000):Calls Tryz.prog 118 #[.string s] w fun e w'=>e=.returned (.bool (VK s.data.toList))∧Ext w w':=by
 have hlit:zSa=⟨#[97,98,99,100,101,102,103,104,105,106,107,108,109,110,111,112,113,114,115,116,117,118,119,120,121,122]⟩:=rfl
 by_cases h0:s.data.toList=[]
 ·have HR:Hid (VK s.data.toList=false):=yG (by rw[h0]; rfl)
  have e1:s.toList=[]:=by rw[ByteArray.toList_eq]; exact h0
  go_enter Tryz.func118,Tryz.ntmps118
  go_wp2_with fail
  go_ret;exact⟨jM HR.out.symm,Ext.refl _⟩
 ·have hp:0<s.size:=by
   rw[Lib.size_eq];exact List.length_pos_iff.2 h0
  have e1:¬s.toList=[]:=by rw[ByteArray.toList_eq]; exact h0
  have e2:s.toList.isEmpty=false:=by simpa using e1
  have H0:=yG h0;clear h0;clear hlit
  have hz:s.data.toList=s[0]::s.data.toList.tail:=by
   have h1:s.data.toList.head?=some s[0]:=by
    rw[List.head?_eq_getElem?];simp[ByteArray.getElem_eq_getElem_data]
   cases hl:s.data.toList with
   | nil=>exact absurd hl H0.out
   | cons a r=>rw[hl] at h1; simp at h1; rw[h1]; rfl
  have HIS:Hid (VK s.data.toList=(JE (s[0].toNat:Int)&&s.data.toList.tail.all zHd)):=yG (by rw[hz]; rfl);obtain⟨v,HV⟩:∃v,Hid (zMe zSa (s[0].toNat:Int)=v):=⟨_,yG rfl⟩
  cases hl:JE (s[0].toNat:Int) with
  | false=>
   have hv0:v<0:=by
    have:=zKW s[0]
    rw[HV.out] at this;unfold zUJ at this;rw[hl] at this
    by_cases h:0≤v
    ·exact absurd (this.1 h) (by decide)
    ·omega
   have d1:decide (v<0)=true:=yS hv0;have HR:Hid (VK s.data.toList=false):=yG (by rw[HIS.out,hl]; rfl);clear hl hz
   go_enter Tryz.func118,Tryz.ntmps118
   go_wp2_with (refine(zHg zSa _ v HV w).mono ?_; rintro e w' ⟨rfl,rfl⟩)
   go_ret;exact⟨jM HR.out.symm,Ext.refl _⟩
  | true=>
   have hv0:0≤v:=by rw[←HV.out]; exact(zKW s[0]).2 hl
   have d1:decide (v<0)=false:=yR (by omega);obtain⟨c,w1,hconv,hx1,hcs,hcc,hsz⟩:=zSl s w;have HX1:=yG hx1;have HCS:=yG hcs;have HSZ:=yG hsz;have HL:=yG hl;have HZ:=yG hz;have hbx:=Blk.new w1 146 #[.slice (some ⟨w.heap.size,0,none⟩) s.size c,.int .i64 0];have hxb:=Ext.alloc w1 (.cells #[.slice (some ⟨w.heap.size,0,none⟩) s.size c,.int .i64 0] 146);have HBX:=yG hbx;have HXB:=yG hxb;clear hx1 hcs hsz hl hbx hxb hz
   go_enter Tryz.func118,Tryz.ntmps118
   go_wp2_with (refine(zHg zSa _ v HV w).mono ?_; rintro e w' ⟨rfl,rfl⟩)
   refine(zEZ zT6 zHd zOR w1.heap.size w.heap.size 0 s.size c 0 s.data.toList _ (by rw[Lib.size_eq]) hcc (by rw[←Lib.size_eq]; omega) (zW _) HBX.out (HCS.out.ext HXB.out)).mono ?_;rintro e w2 ⟨rfl,ht,-⟩;have HX2:Hid (Ext w w2):=yG (ht.ext (HX1.out.trans HXB.out) (by have:=HSZ.out; omega));clear ht;obtain⟨xs,HXS⟩:∃xs:ByteArray,Hid ((⟨((s.data.toList.drop 0).take (scan zHd (s.data.toList.drop 0))).toArray⟩:ByteArray)=xs):=⟨_,yG rfl⟩;rw[HXS.out]
   cases hal:s.data.toList.tail.all zHd with
   | true=>
    have HR:Hid (VK s.data.toList=true):=yG (by rw[HIS.out,HL.out,hal]; rfl)
    have hxs:xs=s:=by
     rw[←HXS.out,List.drop_zero,zR3 zHd _ (by rw[HZ.out,List.all_cons,hal,Bool.and_true]; unfold zHd zDY; rw[HL.out]; rfl),List.take_length]
    subst hxs
    go_wp2_with fail
    go_ret;exact⟨jM HR.out.symm,HX2.out⟩
   | false=>
    have HR:Hid (VK s.data.toList=false):=yG (by rw[HIS.out,HL.out,hal]; rfl)
    have hne:(xs.toList==s.toList)=false:=by
     rw[yI];intro h;have h2:=congrArg List.length h;rw[←HXS.out,ByteArray.toList_eq,ByteArray.toList_eq] at h2;have h3:=zSv zHd s.data.toList (by rw[HZ.out,List.all_cons,hal,Bool.and_false])
     simp at h2 h3
     omega
    go_wp2_with fail
    go_ret;exact⟨jM HR.out.symm,HX2.out⟩
theorem VJ (f:vP)(cs:List Value)(L:Option Addr)(ls:List Int)(n lc:Nat)(w:World)(hn:n=ls.length)(hf:zC9 w f cs)(hl:Cells w L (vC ls))(hlen:ls.length≤9000)(b:Bool)(hb:f.fits ls=b) :
  Calls Tryz.prog 117 #[.agg (Array.mk cs),.slice L n lc] w fun e w'=>e=.returned (.bool b)∧Ext w w':=by
 subst hb;exact zQa f cs L ls n lc w hn hf hl hlen
theorem zGj (s:ByteArray)(w:World)(hs:s.size≤9000)(b:Bool)(hb:VK s.data.toList=b):Calls Tryz.prog 118 #[.string s] w fun e w'=>e=.returned (.bool b)∧Ext w w':=by
 subst hb;exact zOB s w hs
theorem zQG (f:vP)(cs:List Value)(L:Option Addr)(ls:List Int)(n lc gk gn:Nat)(x:xQ)(w:World)(hn:n=ls.length)(hf:zC9 w f cs)(hl:Cells w L (vC ls))(hlen:ls.length≤9000)(hx:x.text.size≤9000)
  (hgk:Blk w gk 22 #[.slice L n lc]) (hgn:Blk w gn 38 (Array.mk x.cells)) :
  Calls Tryz.prog 116 #[.agg (Array.mk cs),.pointer (some ⟨gk,0,none⟩),.pointer (some ⟨gn,0,none⟩)] w fun e w'=>e=.returned (.bool (YH f x.num x.text.data.toList ls))∧Ext w w':=by
 subst hn;obtain⟨kind,pos,text,num,kA,kc,kids⟩:=x;obtain⟨ks,mv,rfl,hks,hmv⟩:=hf;have hform:zC9 w f [ks,mv,.bool f.named,.int .i64 f.most]:=⟨ks,mv,rfl,hks,hmv⟩;obtain⟨KA,kcc,rfl,-⟩:=hks.open_
 have hmf:mv=.nilFunc∨∃fm lm,mv=.func (.func fm) #[] lm:=by
  cases hm:f.more with
  | none=>rw[hm] at hmv; exact .inl hmv
  | some q=>rw[hm] at hmv; obtain⟨fm,lm,h3,_⟩:=zBf.form hmv; exact .inr ⟨fm,lm,h3⟩
 simp only at hx
 unfold xQ.cells at hgn
 simp only at hgn
 have HF:=yG hform;have HL:=yG hl;have HGK:=yG hgk;have HGN:=yG hgn;clear hks hmv hform hl hgk hgn;obtain⟨nm,HNM⟩:∃nm,Hid (f.named=nm):=⟨_,yG rfl⟩;obtain⟨mo,HMO⟩:∃mo,Hid (f.most=mo):=⟨_,yG rfl⟩;have HOK:Hid (YH f num text.data.toList ls=(f.fits ls&&(decide (0≤num)&&(decide (num≤mo)&&((nm&&VK text.data.toList)||(!nm&&text.data.toList.isEmpty)))))):=yG (by rw[←HNM.out,←HMO.out]; rfl)
 show Calls Tryz.prog 116 #[.agg #[.slice KA f.kids.length kcc,mv,.bool f.named,.int .i64 f.most],.pointer (some ⟨gk,0,none⟩),.pointer (some ⟨gn,0,none⟩)] w fun e w'=>e=.returned (.bool (YH f num text.data.toList ls))∧Ext w w'
 rw[HNM.out,HMO.out] at HF ⊢;have HT:Hid (text.toList=text.data.toList):=yG (ByteArray.toList_eq _)
 cases hF:f.fits ls
 case false=>
  have HR:Hid (YH f num text.data.toList ls=false):=yG (by rw[HOK.out]; rw[hF]; rfl);have hF:=yG hF
  rcases hmf with rfl | ⟨fm,lm,rfl⟩
  ·have hbx:=Blk.new w 195 #[.slice KA f.kids.length kcc,.nilFunc,.bool nm,.int .i64 mo];have hxa:=Ext.alloc w (.cells #[.slice KA f.kids.length kcc,.nilFunc,.bool nm,.int .i64 mo] 195);have HBX:=yG hbx;have HXA:=yG hxa;clear hbx hxa
   go_enter Tryz.func116,Tryz.ntmps116
   have c0:=(HGK.out.ext HXA.out).cell 0
   go_wp2_with fail
   refine(VJ f _ L ls _ lc _ rfl (HF.out.kept (Kept.ZW HXA.out)) (HL.out.ext HXA.out) hlen false hF.out).mono ?_;rintro e w1 ⟨rfl,hx1⟩;have hB1:=HBX.out.ext hx1;have hN1:=HGN.out.ext (HXA.out.trans hx1);have HB1:=yG hB1;have HN1:=yG hN1;have HX1:Hid (Ext w w1):=yG (HXA.out.trans hx1);clear hx1 hB1 hN1 c0;generalize w.heap.size=ga at *;have b2:=HB1.out.cell 2;have b3:=HB1.out.cell 3;have n2:=HN1.out.cell 2;have n3:=HN1.out.cell 3
   go_wp2_with fail
   go_ret;exact⟨jM HR.out.symm,HX1.out⟩
  ·have hbx:=Blk.new w 195 #[.slice KA f.kids.length kcc,(.func (.func fm) #[] lm),.bool nm,.int .i64 mo];have hxa:=Ext.alloc w (.cells #[.slice KA f.kids.length kcc,(.func (.func fm) #[] lm),.bool nm,.int .i64 mo] 195);have HBX:=yG hbx;have HXA:=yG hxa;clear hbx hxa
   go_enter Tryz.func116,Tryz.ntmps116
   have c0:=(HGK.out.ext HXA.out).cell 0
   go_wp2_with fail
   refine(VJ f _ L ls _ lc _ rfl (HF.out.kept (Kept.ZW HXA.out)) (HL.out.ext HXA.out) hlen false hF.out).mono ?_;rintro e w1 ⟨rfl,hx1⟩;have hB1:=HBX.out.ext hx1;have hN1:=HGN.out.ext (HXA.out.trans hx1);have HB1:=yG hB1;have HN1:=yG hN1;have HX1:Hid (Ext w w1):=yG (HXA.out.trans hx1);clear hx1 hB1 hN1 c0;generalize w.heap.size=ga at *;have b2:=HB1.out.cell 2;have b3:=HB1.out.cell 3;have n2:=HN1.out.cell 2;have n3:=HN1.out.cell 3
   go_wp2_with fail
   go_ret;exact⟨jM HR.out.symm,HX1.out⟩
 case true=>
  by_cases h1:0≤num
  case neg=>
   have d1:decide (0≤num)=false:=yR h1;have HR:Hid (YH f num text.data.toList ls=false):=yG (by rw[HOK.out]; rw[hF,d1]; rfl);have hF:=yG hF
   rcases hmf with rfl | ⟨fm,lm,rfl⟩
   ·have hbx:=Blk.new w 195 #[.slice KA f.kids.length kcc,.nilFunc,.bool nm,.int .i64 mo];have hxa:=Ext.alloc w (.cells #[.slice KA f.kids.length kcc,.nilFunc,.bool nm,.int .i64 mo] 195);have HBX:=yG hbx;have HXA:=yG hxa;clear hbx hxa
    go_enter Tryz.func116,Tryz.ntmps116
    have c0:=(HGK.out.ext HXA.out).cell 0
    go_wp2_with fail
    refine(VJ f _ L ls _ lc _ rfl (HF.out.kept (Kept.ZW HXA.out)) (HL.out.ext HXA.out) hlen true hF.out).mono ?_;rintro e w1 ⟨rfl,hx1⟩;have hB1:=HBX.out.ext hx1;have hN1:=HGN.out.ext (HXA.out.trans hx1);have HB1:=yG hB1;have HN1:=yG hN1;have HX1:Hid (Ext w w1):=yG (HXA.out.trans hx1);clear hx1 hB1 hN1 c0;generalize w.heap.size=ga at *;have b2:=HB1.out.cell 2;have b3:=HB1.out.cell 3;have n2:=HN1.out.cell 2;have n3:=HN1.out.cell 3
    go_wp2_with fail
    go_ret;exact⟨jM HR.out.symm,HX1.out⟩
   ·have hbx:=Blk.new w 195 #[.slice KA f.kids.length kcc,(.func (.func fm) #[] lm),.bool nm,.int .i64 mo];have hxa:=Ext.alloc w (.cells #[.slice KA f.kids.length kcc,(.func (.func fm) #[] lm),.bool nm,.int .i64 mo] 195);have HBX:=yG hbx;have HXA:=yG hxa;clear hbx hxa
    go_enter Tryz.func116,Tryz.ntmps116
    have c0:=(HGK.out.ext HXA.out).cell 0
    go_wp2_with fail
    refine(VJ f _ L ls _ lc _ rfl (HF.out.kept (Kept.ZW HXA.out)) (HL.out.ext HXA.out) hlen true hF.out).mono ?_;rintro e w1 ⟨rfl,hx1⟩;have hB1:=HBX.out.ext hx1;have hN1:=HGN.out.ext (HXA.out.trans hx1);have HB1:=yG hB1;have HN1:=yG hN1;have HX1:Hid (Ext w w1):=yG (HXA.out.trans hx1);clear hx1 hB1 hN1 c0;generalize w.heap.size=ga at *;have b2:=HB1.out.cell 2;have b3:=HB1.out.cell 3;have n2:=HN1.out.cell 2;have n3:=HN1.out.cell 3
    go_wp2_with fail
    go_ret;exact⟨jM HR.out.symm,HX1.out⟩
  case pos=>
   have d1:decide (0≤num)=true:=yS h1
   by_cases h2:num≤mo
   case neg=>
    have d2:decide (num≤mo)=false:=yR h2;have HR:Hid (YH f num text.data.toList ls=false):=yG (by rw[HOK.out]; rw[hF,d1,d2]; rfl);have hF:=yG hF
    rcases hmf with rfl | ⟨fm,lm,rfl⟩
    ·have hbx:=Blk.new w 195 #[.slice KA f.kids.length kcc,.nilFunc,.bool nm,.int .i64 mo];have hxa:=Ext.alloc w (.cells #[.slice KA f.kids.length kcc,.nilFunc,.bool nm,.int .i64 mo] 195);have HBX:=yG hbx;have HXA:=yG hxa;clear hbx hxa
     go_enter Tryz.func116,Tryz.ntmps116
     have c0:=(HGK.out.ext HXA.out).cell 0
     go_wp2_with fail
     refine(VJ f _ L ls _ lc _ rfl (HF.out.kept (Kept.ZW HXA.out)) (HL.out.ext HXA.out) hlen true hF.out).mono ?_;rintro e w1 ⟨rfl,hx1⟩;have hB1:=HBX.out.ext hx1;have hN1:=HGN.out.ext (HXA.out.trans hx1);have HB1:=yG hB1;have HN1:=yG hN1;have HX1:Hid (Ext w w1):=yG (HXA.out.trans hx1);clear hx1 hB1 hN1 c0;generalize w.heap.size=ga at *;have b2:=HB1.out.cell 2;have b3:=HB1.out.cell 3;have n2:=HN1.out.cell 2;have n3:=HN1.out.cell 3
     go_wp2_with fail
     go_ret;exact⟨jM HR.out.symm,HX1.out⟩
    ·have hbx:=Blk.new w 195 #[.slice KA f.kids.length kcc,(.func (.func fm) #[] lm),.bool nm,.int .i64 mo];have hxa:=Ext.alloc w (.cells #[.slice KA f.kids.length kcc,(.func (.func fm) #[] lm),.bool nm,.int .i64 mo] 195);have HBX:=yG hbx;have HXA:=yG hxa;clear hbx hxa
     go_enter Tryz.func116,Tryz.ntmps116
     have c0:=(HGK.out.ext HXA.out).cell 0
     go_wp2_with fail
     refine(VJ f _ L ls _ lc _ rfl (HF.out.kept (Kept.ZW HXA.out)) (HL.out.ext HXA.out) hlen true hF.out).mono ?_;rintro e w1 ⟨rfl,hx1⟩;have hB1:=HBX.out.ext hx1;have hN1:=HGN.out.ext (HXA.out.trans hx1);have HB1:=yG hB1;have HN1:=yG hN1;have HX1:Hid (Ext w w1):=yG (HXA.out.trans hx1);clear hx1 hB1 hN1 c0;generalize w.heap.size=ga at *;have b2:=HB1.out.cell 2;have b3:=HB1.out.cell 3;have n2:=HN1.out.cell 2;have n3:=HN1.out.cell 3
     go_wp2_with fail
     go_ret;exact⟨jM HR.out.symm,HX1.out⟩
   case pos=>
    have d2:decide (num≤mo)=true:=yS h2
    cases nm with
    | true=>
     cases hI:VK text.data.toList with
     | true=>
      have HR:Hid (YH f num text.data.toList ls=true):=yG (by rw[HOK.out]; rw[hF,d1,d2,hI]; rfl);have hF:=yG hF;have hI:=yG hI
      rcases hmf with rfl | ⟨fm,lm,rfl⟩
      ·have hbx:=Blk.new w 195 #[.slice KA f.kids.length kcc,.nilFunc,.bool true,.int .i64 mo];have hxa:=Ext.alloc w (.cells #[.slice KA f.kids.length kcc,.nilFunc,.bool true,.int .i64 mo] 195);have HBX:=yG hbx;have HXA:=yG hxa;clear hbx hxa
       go_enter Tryz.func116,Tryz.ntmps116
       have c0:=(HGK.out.ext HXA.out).cell 0
       go_wp2_with fail
       refine(VJ f _ L ls _ lc _ rfl (HF.out.kept (Kept.ZW HXA.out)) (HL.out.ext HXA.out) hlen true hF.out).mono ?_;rintro e w1 ⟨rfl,hx1⟩;have hB1:=HBX.out.ext hx1;have hN1:=HGN.out.ext (HXA.out.trans hx1);have HB1:=yG hB1;have HN1:=yG hN1;have HX1:Hid (Ext w w1):=yG (HXA.out.trans hx1);clear hx1 hB1 hN1 c0;generalize w.heap.size=ga at *;have b2:=HB1.out.cell 2;have b3:=HB1.out.cell 3;have n2:=HN1.out.cell 2;have n3:=HN1.out.cell 3
       go_wp2_with fail
       refine(zGj text _ hx true hI.out).mono ?_;rintro e w2 ⟨rfl,hx2⟩;have HX2:Hid (Ext w w2):=yG (HX1.out.trans hx2);have hB2:=HB1.out.ext hx2;have hN2:=HN1.out.ext hx2;have HB2:=yG hB2;have HN2:=yG hN2;clear hx2 hB2 hN2 b2 b3 n2 n3;have b2:=HB2.out.cell 2;have b3:=HB2.out.cell 3;have n2:=HN2.out.cell 2;have n3:=HN2.out.cell 3
       go_wp2_with fail
       go_ret;exact⟨jM HR.out.symm,HX2.out⟩
      ·have hbx:=Blk.new w 195 #[.slice KA f.kids.length kcc,(.func (.func fm) #[] lm),.bool true,.int .i64 mo];have hxa:=Ext.alloc w (.cells #[.slice KA f.kids.length kcc,(.func (.func fm) #[] lm),.bool true,.int .i64 mo] 195);have HBX:=yG hbx;have HXA:=yG hxa;clear hbx hxa
       go_enter Tryz.func116,Tryz.ntmps116
       have c0:=(HGK.out.ext HXA.out).cell 0
       go_wp2_with fail
       refine(VJ f _ L ls _ lc _ rfl (HF.out.kept (Kept.ZW HXA.out)) (HL.out.ext HXA.out) hlen true hF.out).mono ?_;rintro e w1 ⟨rfl,hx1⟩;have hB1:=HBX.out.ext hx1;have hN1:=HGN.out.ext (HXA.out.trans hx1);have HB1:=yG hB1;have HN1:=yG hN1;have HX1:Hid (Ext w w1):=yG (HXA.out.trans hx1);clear hx1 hB1 hN1 c0;generalize w.heap.size=ga at *;have b2:=HB1.out.cell 2;have b3:=HB1.out.cell 3;have n2:=HN1.out.cell 2;have n3:=HN1.out.cell 3
       go_wp2_with fail
       refine(zGj text _ hx true hI.out).mono ?_;rintro e w2 ⟨rfl,hx2⟩;have HX2:Hid (Ext w w2):=yG (HX1.out.trans hx2);have hB2:=HB1.out.ext hx2;have hN2:=HN1.out.ext hx2;have HB2:=yG hB2;have HN2:=yG hN2;clear hx2 hB2 hN2 b2 b3 n2 n3;have b2:=HB2.out.cell 2;have b3:=HB2.out.cell 3;have n2:=HN2.out.cell 2;have n3:=HN2.out.cell 3
       go_wp2_with fail
       go_ret;exact⟨jM HR.out.symm,HX2.out⟩
     | false=>
      have HR:Hid (YH f num text.data.toList ls=false):=yG (by rw[HOK.out]; rw[hF,d1,d2,hI]; rfl);have hF:=yG hF;have hI:=yG hI
      rcases hmf with rfl | ⟨fm,lm,rfl⟩
      ·have hbx:=Blk.new w 195 #[.slice KA f.kids.length kcc,.nilFunc,.bool true,.int .i64 mo];have hxa:=Ext.alloc w (.cells #[.slice KA f.kids.length kcc,.nilFunc,.bool true,.int .i64 mo] 195);have HBX:=yG hbx;have HXA:=yG hxa;clear hbx hxa
       go_enter Tryz.func116,Tryz.ntmps116
       have c0:=(HGK.out.ext HXA.out).cell 0
       go_wp2_with fail
       refine(VJ f _ L ls _ lc _ rfl (HF.out.kept (Kept.ZW HXA.out)) (HL.out.ext HXA.out) hlen true hF.out).mono ?_;rintro e w1 ⟨rfl,hx1⟩;have hB1:=HBX.out.ext hx1;have hN1:=HGN.out.ext (HXA.out.trans hx1);have HB1:=yG hB1;have HN1:=yG hN1;have HX1:Hid (Ext w w1):=yG (HXA.out.trans hx1);clear hx1 hB1 hN1 c0;generalize w.heap.size=ga at *;have b2:=HB1.out.cell 2;have b3:=HB1.out.cell 3;have n2:=HN1.out.cell 2;have n3:=HN1.out.cell 3
       go_wp2_with fail
       refine(zGj text _ hx false hI.out).mono ?_;rintro e w2 ⟨rfl,hx2⟩;have HX2:Hid (Ext w w2):=yG (HX1.out.trans hx2);have hB2:=HB1.out.ext hx2;have hN2:=HN1.out.ext hx2;have HB2:=yG hB2;have HN2:=yG hN2;clear hx2 hB2 hN2 b2 b3 n2 n3;have b2:=HB2.out.cell 2;have b3:=HB2.out.cell 3;have n2:=HN2.out.cell 2;have n3:=HN2.out.cell 3
       go_wp2_with fail
       go_ret;exact⟨jM HR.out.symm,HX2.out⟩
      ·have hbx:=Blk.new w 195 #[.slice KA f.kids.length kcc,(.func (.func fm) #[] lm),.bool true,.int .i64 mo];have hxa:=Ext.alloc w (.cells #[.slice KA f.kids.length kcc,(.func (.func fm) #[] lm),.bool true,.int .i64 mo] 195);have HBX:=yG hbx;have HXA:=yG hxa;clear hbx hxa
       go_enter Tryz.func116,Tryz.ntmps116
       have c0:=(HGK.out.ext HXA.out).cell 0
       go_wp2_with fail
       refine(VJ f _ L ls _ lc _ rfl (HF.out.kept (Kept.ZW HXA.out)) (HL.out.ext HXA.out) hlen true hF.out).mono ?_;rintro e w1 ⟨rfl,hx1⟩;have hB1:=HBX.out.ext hx1;have hN1:=HGN.out.ext (HXA.out.trans hx1);have HB1:=yG hB1;have HN1:=yG hN1;have HX1:Hid (Ext w w1):=yG (HXA.out.trans hx1);clear hx1 hB1 hN1 c0;generalize w.heap.size=ga at *;have b2:=HB1.out.cell 2;have b3:=HB1.out.cell 3;have n2:=HN1.out.cell 2;have n3:=HN1.out.cell 3
       go_wp2_with fail
       refine(zGj text _ hx false hI.out).mono ?_;rintro e w2 ⟨rfl,hx2⟩;have HX2:Hid (Ext w w2):=yG (HX1.out.trans hx2);have hB2:=HB1.out.ext hx2;have hN2:=HN1.out.ext hx2;have HB2:=yG hB2;have HN2:=yG hN2;clear hx2 hB2 hN2 b2 b3 n2 n3;have b2:=HB2.out.cell 2;have b3:=HB2.out.cell 3;have n2:=HN2.out.cell 2;have n3:=HN2.out.cell 3
       go_wp2_with fail
       go_ret;exact⟨jM HR.out.symm,HX2.out⟩
    | false=>
     by_cases h3:text.data.toList=[]
     case pos=>
      have HR0:text.data.toList.isEmpty=true:=by rw[h3]; rfl
      have e3:text.toList=[]:=by rw[HT.out]; exact h3
      have HR:Hid (YH f num text.data.toList ls=true):=yG (by rw[HOK.out]; rw[hF,d1,d2,HR0]; rfl);have hF:=yG hF;have H3:=yG h3;clear h3 HR0
      rcases hmf with rfl | ⟨fm,lm,rfl⟩
      ·have hbx:=Blk.new w 195 #[.slice KA f.kids.length kcc,.nilFunc,.bool false,.int .i64 mo];have hxa:=Ext.alloc w (.cells #[.slice KA f.kids.length kcc,.nilFunc,.bool false,.int .i64 mo] 195);have HBX:=yG hbx;have HXA:=yG hxa;clear hbx hxa
       go_enter Tryz.func116,Tryz.ntmps116
       have c0:=(HGK.out.ext HXA.out).cell 0
       go_wp2_with fail
       refine(VJ f _ L ls _ lc _ rfl (HF.out.kept (Kept.ZW HXA.out)) (HL.out.ext HXA.out) hlen true hF.out).mono ?_;rintro e w1 ⟨rfl,hx1⟩;have hB1:=HBX.out.ext hx1;have hN1:=HGN.out.ext (HXA.out.trans hx1);have HB1:=yG hB1;have HN1:=yG hN1;have HX1:Hid (Ext w w1):=yG (HXA.out.trans hx1);clear hx1 hB1 hN1 c0;generalize w.heap.size=ga at *;have b2:=HB1.out.cell 2;have b3:=HB1.out.cell 3;have n2:=HN1.out.cell 2;have n3:=HN1.out.cell 3
       go_wp2_with fail
       go_ret;exact⟨jM HR.out.symm,HX1.out⟩
      ·have hbx:=Blk.new w 195 #[.slice KA f.kids.length kcc,(.func (.func fm) #[] lm),.bool false,.int .i64 mo];have hxa:=Ext.alloc w (.cells #[.slice KA f.kids.length kcc,(.func (.func fm) #[] lm),.bool false,.int .i64 mo] 195);have HBX:=yG hbx;have HXA:=yG hxa;clear hbx hxa
       go_enter Tryz.func116,Tryz.ntmps116
       have c0:=(HGK.out.ext HXA.out).cell 0
       go_wp2_with fail
       refine(VJ f _ L ls _ lc _ rfl (HF.out.kept (Kept.ZW HXA.out)) (HL.out.ext HXA.out) hlen true hF.out).mono ?_;rintro e w1 ⟨rfl,hx1⟩;have hB1:=HBX.out.ext hx1;have hN1:=HGN.out.ext (HXA.out.trans hx1);have HB1:=yG hB1;have HN1:=yG hN1;have HX1:Hid (Ext w w1):=yG (HXA.out.trans hx1);clear hx1 hB1 hN1 c0;generalize w.heap.size=ga at *;have b2:=HB1.out.cell 2;have b3:=HB1.out.cell 3;have n2:=HN1.out.cell 2;have n3:=HN1.out.cell 3
       go_wp2_with fail
       go_ret;exact⟨jM HR.out.symm,HX1.out⟩
     case neg=>
      have HR0:text.data.toList.isEmpty=false:=by simpa using h3
      have e3:¬text.toList=[]:=by rw[HT.out]; exact h3
      have e4:text.toList.isEmpty=false:=by simpa using e3
      have HR:Hid (YH f num text.data.toList ls=false):=yG (by rw[HOK.out]; rw[hF,d1,d2,HR0]; rfl);have hF:=yG hF;have H3:=yG h3;clear h3 HR0
      rcases hmf with rfl | ⟨fm,lm,rfl⟩
      ·have hbx:=Blk.new w 195 #[.slice KA f.kids.length kcc,.nilFunc,.bool false,.int .i64 mo];have hxa:=Ext.alloc w (.cells #[.slice KA f.kids.length kcc,.nilFunc,.bool false,.int .i64 mo] 195);have HBX:=yG hbx;have HXA:=yG hxa;clear hbx hxa
       go_enter Tryz.func116,Tryz.ntmps116
       have c0:=(HGK.out.ext HXA.out).cell 0
       go_wp2_with fail
       refine(VJ f _ L ls _ lc _ rfl (HF.out.kept (Kept.ZW HXA.out)) (HL.out.ext HXA.out) hlen true hF.out).mono ?_;rintro e w1 ⟨rfl,hx1⟩;have hB1:=HBX.out.ext hx1;have hN1:=HGN.out.ext (HXA.out.trans hx1);have HB1:=yG hB1;have HN1:=yG hN1;have HX1:Hid (Ext w w1):=yG (HXA.out.trans hx1);clear hx1 hB1 hN1 c0;generalize w.heap.size=ga at *;have b2:=HB1.out.cell 2;have b3:=HB1.out.cell 3;have n2:=HN1.out.cell 2;have n3:=HN1.out.cell 3
       go_wp2_with fail
       go_ret;exact⟨jM HR.out.symm,HX1.out⟩
      ·have hbx:=Blk.new w 195 #[.slice KA f.kids.length kcc,(.func (.func fm) #[] lm),.bool false,.int .i64 mo];have hxa:=Ext.alloc w (.cells #[.slice KA f.kids.length kcc,(.func (.func fm) #[] lm),.bool false,.int .i64 mo] 195);have HBX:=yG hbx;have HXA:=yG hxa;clear hbx hxa
       go_enter Tryz.func116,Tryz.ntmps116
       have c0:=(HGK.out.ext HXA.out).cell 0
       go_wp2_with fail
       refine(VJ f _ L ls _ lc _ rfl (HF.out.kept (Kept.ZW HXA.out)) (HL.out.ext HXA.out) hlen true hF.out).mono ?_;rintro e w1 ⟨rfl,hx1⟩;have hB1:=HBX.out.ext hx1;have hN1:=HGN.out.ext (HXA.out.trans hx1);have HB1:=yG hB1;have HN1:=yG hN1;have HX1:Hid (Ext w w1):=yG (HXA.out.trans hx1);clear hx1 hB1 hN1 c0;generalize w.heap.size=ga at *;have b2:=HB1.out.cell 2;have b3:=HB1.out.cell 3;have n2:=HN1.out.cell 2;have n3:=HN1.out.cell 3
       go_wp2_with fail
       go_ret;exact⟨jM HR.out.symm,HX1.out⟩
theorem zSi (css:List (List Value))(h:∀cs ∈ css,cs.length=4):∀(i j:Nat) (hi:i<css.length),j<4→css.flatten[i*4+j]?=(css[i])[j]?:=by
 induction css with
 | nil=>intro i j hi; simp at hi
 | cons a l ih=>
  intro i j hi hj;have ha:=h a (by simp);rw[List.flatten_cons]
  match i,hi with
  | 0,_=>rw[Nat.zero_mul,Nat.zero_add,List.getElem?_append_left (by omega)]; rfl
  | i+1,hi=>
   rw[List.getElem?_append_right (by omega),ha,show(i+1)*4+j-4=i*4+j from by omega];exact ih (fun cs hc=>h cs (by simp[hc])) i j (by simpa using hi) hj
theorem zGH.mem {α β:Type}{R:α→β→Prop}:∀ {l:List α} {m:List β} (h:zGH R l m),∀b ∈ m,∃a,R a b
 | [],[],_=>fun b hb=>by cases hb
 | a::l,c::m,⟨h1,h2⟩=>fun b hb=>by
  rcases List.mem_cons.1 hb with rfl | hb
  ·exact⟨a,h1⟩
  ·exact h2.mem b hb
 | [],_::_,h=>h.elim
 | _::_,[],h=>h.elim
theorem zBl.open_ {w:World}{fs:List vP}{v:Value}(h:zBl w fs v):∃A c,v=.slice A fs.length c∧∀i (hi:i<fs.length),∃g cs,A=some ⟨g,0,none⟩∧g<w.heap.size∧(∀j,j<4→w.cell? ⟨g,i*4+j,none⟩=cs[j]?)∧zC9 w fs[i] cs:=by
 rcases h with ⟨h1,h2⟩ | ⟨g,css,h1,h2,h3⟩
 ·subst h1; exact⟨none,0,h2,fun i hi=>by simp at hi⟩
 ·refine⟨_,_,h1,fun i hi=>?_⟩;obtain⟨cs,hc,hk⟩:=h3.get i hi
  have hic:i<css.length:=by rw[←h3.len]; exact hi
  refine⟨g,cs,rfl,h2.lt,fun j hj=>?_,hk⟩;rw[h2.cell]
  have:=zSi css (fun cs hcs=>by obtain⟨a,ha⟩:=h3.mem cs hcs; exact ha.len) i j hic hj
  rw[yJ hic] at hc;injection hc with hc;rw[hc] at this
  simpa using this
theorem any_none {n:Nat}{q:Nat→Bool}(h:∀j,j<n→q j=false):(List.range n).any q=false:=by
 rw[List.any_eq_false];intro j hj;rw[h j (List.mem_range.1 hj)];exact Bool.false_ne_true
theorem any_some {n:Nat}{q:Nat→Bool}(j:Nat)(hj:j<n)(h:q j=true):(List.range n).any q=true:=List.any_eq_true.2 ⟨j,List.mem_range.2 hj,h⟩
theorem zLg {α:Type}(l:List α)(f:α→Bool)(d:α):((List.range l.length).any fun i=>f (l.getD i d))=l.any f:=by
 induction l with
 | nil=>rfl
 | cons x l ih=>
  rw[zK,List.range_succ_eq_map,List.any_cons,List.any_map,List.any_cons]
  congr 1
def zEO:vP:=⟨[],none,false,0⟩
theorem zPx (b:Bool)(f:vP)(cs:List Value)(L:Option Addr)(ls:List Int)(lc gk gn:Nat)(x:xQ)(w:World)(hf:zC9 w f cs)(hl:Cells w L (vC ls))(hlen:ls.length≤9000)(hx:x.text.size≤9000)
  (hgk:Blk w gk 22 #[.slice L ls.length lc]) (hgn:Blk w gn 38 (Array.mk x.cells)) (hb:YH f x.num x.text.data.toList ls=b) :
  Calls Tryz.prog 116 #[.agg (Array.mk cs),.pointer (some ⟨gk,0,none⟩),.pointer (some ⟨gn,0,none⟩)] w fun e w'=>e=.returned (.bool b)∧Ext w w':=by
 subst hb;exact zQG f cs L ls _ lc gk gn x w rfl hf hl hlen hx hgk hgn
theorem zNN (fs:List vP)(A:Option Addr)(n c:Nat)(L:Option Addr)(ls:List Int)(lc gk gn:Nat)(x:xQ)(w:World)(hfs:zBl w fs (.slice A n c))(hfl:fs.length≤10)(hl:Cells w L (vC ls))(hlen:ls.length≤9000)(hx:x.text.size≤9000)
  (hgk:Blk w gk 22 #[.slice L ls.length lc]) (hgn:Blk w gn 38 (Array.mk x.cells)) :
  Calls Tryz.prog 144 #[.slice A n c,.func (.func 116) #[] #[.pointer (some ⟨gk,0,none⟩),.pointer (some ⟨gn,0,none⟩)]] w fun e w'=>∃r:Int,e=.returned (.int .i64 r)∧decide (0≤r)=(List.range fs.length).any (fun i=>YH (fs.getD i zEO) x.num x.text.data.toList ls)∧Ext w w':=by
 obtain⟨A',c',hv,hop⟩:=hfs.open_;injection hv with h1 h2 h3;subst h1 h2 h3;have HOP:=yG hop;have HL:=yG hl;have HGK:=yG hgk;have HGN:=yG hgn;clear hop hl hgk hgn hfs;obtain⟨q,HQ⟩:∃q:Nat→Bool,Hid ((fun i=>YH (fs.getD i zEO) x.num x.text.data.toList ls)=q):=⟨_,yG rfl⟩;rw[HQ.out]
 go_enter Tryz.func144,Tryz.ntmps144
 go_wp2_with fail
 go_loopw [8] (fun i wr=>∃k:Nat,k≤fs.length∧i=.int .i64 k∧Hid (Ext w wr)∧Hid (∀j,j<k→q j=false)) (fun i _=>fs.length-(intOf i).toNat)
 case atStart=>exact⟨0,zW _,rfl,yG (Ext.refl _),yG fun j hj=>by omega⟩
 case round=>
  obtain⟨k,hk,rfl,HX,HR⟩:=hrel;obtain⟨wa,rfl⟩:∃wa:World,wa=wr:=⟨_,rfl⟩
  by_cases hlt:k<fs.length
  ·have d0:decide ((k:Int)<(fs.length:Int))=true:=yS (by omega);obtain⟨g,cs,rfl,hg,hcell,hform⟩:=HOP.out k hlt;obtain⟨b,hb⟩:∃b,q k=b:=⟨_,rfl⟩;have HB:=yG hb
   have hfe:fs.getD k zEO=fs[k]:=by simp[yH,hlt]
   have HOK:Hid (YH fs[k] x.num x.text.data.toList ls=b):=yG (by rw[←hb,←HQ.out,←hfe]);have HFORM:=yG (hform.kept (Kept.ZW HX.out));obtain⟨ks,mv,rfl,hks,hmv⟩:=hform;obtain⟨KA,kcc,rfl,-⟩:=hks.open_
   have hmf:mv=.nilFunc∨∃fm lm,mv=.func (.func fm) #[] lm:=by
    cases hm:fs[k].more with
    | none=>rw[hm] at hmv; exact .inl hmv
    | some q=>rw[hm] at hmv; obtain⟨fm,lm,h3,_⟩:=zBf.form hmv; exact .inr ⟨fm,lm,h3⟩
   clear hks hmv hb hfe;generalize fs[k]=f at *;have HC:Hid (∀j,j<4→wa.cell? ⟨g,k*4+j,none⟩=([Value.slice KA f.kids.length kcc,mv,.bool f.named,.int .i64 f.most])[j]?):=yG (fun j hj=>(HX.out.cell (p:=⟨g,k*4+j,none⟩) hg).trans (hcell j hj));clear hcell;have HL1:=yG (HL.out.ext HX.out);have HGK1:=yG (HGK.out.ext HX.out);have HGN1:=yG (HGN.out.ext HX.out)
   rcases hmf with rfl | ⟨fm,lm,rfl⟩
   all_goals
    have c0:wa.cell? ⟨g,k*4,none⟩=some (.slice KA f.kids.length kcc):=HC.out 0 (by omega);have c1:=HC.out 1 (by omega);have c2:=HC.out 2 (by omega);have c3:=HC.out 3 (by omega)
    cases b with
    | true=>
     go_wp2_with (refine(zPx true f _ L ls lc gk gn x _ HFORM.out HL1.out hlen hx HGK1.out HGN1.out HOK.out).mono ?_; rintro e w2 ⟨rfl,hx2⟩; have HX2:Hid (Ext w w2):=yG (HX.out.trans hx2); clear hx2)
     go_ret;exact⟨_,rfl,by rw[yS (by omega)]; exact(any_some k hlt HB.out).symm,HX2.out⟩
    | false=>
     go_wp2_with (refine(zPx false f _ L ls lc gk gn x _ HFORM.out HL1.out hlen hx HGK1.out HGN1.out HOK.out).mono ?_; rintro e w2 ⟨rfl,hx2⟩; have HX2:Hid (Ext w w2):=yG (HX.out.trans hx2); clear hx2)
     go_roundw
     case rel=>exact⟨k+1,by omega,by go_num,HX2,yG fun j hj=>by
      by_cases hjk:j=k
      ·subst hjk; exact HB.out
      ·exact HR.out j (by omega)⟩
     case measure=>simp[intOf]; omega
  ·obtain rfl:k=fs.length:=by omega
   have d0:decide ((fs.length:Int)<(fs.length:Int))=false:=by simp
   go_wp2_with fail
   go_ret;exact⟨_,rfl,by rw[any_none HR.out]; rfl,HX.out⟩
theorem zMd (fs:List vP)(v:Value)(L:Option Addr)(ls:List Int)(lc gk gn:Nat)(x:xQ)(w:World)(hfs:zBl w fs v)(hfl:fs.length≤10)(hl:Cells w L (vC ls))(hlen:ls.length≤9000)(hx:x.text.size≤9000)
  (hgk:Blk w gk 22 #[.slice L ls.length lc]) (hgn:Blk w gn 38 (Array.mk x.cells)) :
  Calls Tryz.prog 114 #[v,.func (.func 116) #[] #[.pointer (some ⟨gk,0,none⟩),.pointer (some ⟨gn,0,none⟩)]] w fun e w'=>e=.returned (.bool (fs.any fun f=>YH f x.num x.text.data.toList ls))∧Ext w w':=by
 have HRA:Hid ((List.range fs.length).any (fun i=>YH (fs.getD i zEO) x.num x.text.data.toList ls)=fs.any fun f=>YH f x.num x.text.data.toList ls):=yG (zLg fs (fun f=>YH f x.num x.text.data.toList ls) zEO);obtain⟨A,c,rfl,-⟩:=hfs.open_
 go_enter Tryz.func114,Tryz.ntmps114
 go_wp2_with fail
 refine(zNN fs A _ c L ls lc gk gn x w hfs hfl hl hlen hx hgk hgn).mono ?_;rintro e w2 ⟨r,rfl,hr,hx2⟩;have HRR:=yG hr;have HX2:=yG hx2;clear hr hx2
 go_wp2_with fail
 go_ret;exact⟨jM (by rw[HRR.out,HRA.out]),HX2.out⟩
end Go.Proofs.YtbadjmmjbpeocaaGreat.TT
