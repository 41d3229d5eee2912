/- lex.IsName and the document's, walked. (and what follows of it). The conditions stand at each lemma. -/
import Derived.Test.YtioffpjajhalaaaGreatDoorKaa
import Derived.Test.YtioffpjajhalaaaGreatDoorKav
set_option linter.unusedVariables false
set_option linter.unusedSimpArgs false
set_option maxRecDepth 100000
set_option maxHeartbeats 16000000
namespace Go.Proofs.YtioffpjajhalaaaGreatDoor.TT
open Go Go.RowKit
def zSq:ByteArray:=⟨#[97,98,99,100,101,102,103,104,105,106,107,108,109,110,111,112,113,114,115,116,117,118,119,120,121,122]⟩
def zUc:ByteArray:=⟨#[97,98,99,100,101,102,103,104,105,106,107,108,109,110,111,112,113,114,115,116,117,118,119,120,121,122,48,49,50,51,52,53,54,55,56,57,95]⟩
theorem zNG (set:ByteArray)(p:UInt8→Bool)(h:((List.range 256).all fun n=>decide (0≤zMh set (n:Int))==p (UInt8.ofNat n))=true):zAD set p:=by
 intro c;have h1:=List.all_eq_true.1 h c.toNat (List.mem_range.2 c.toNat_lt);rw[UInt8.ofNat_toNat] at h1;rw[zN] at h1;rw[←h1]
 simp
def zUL (c:UInt8):Bool:=ZO (c.toNat:Int)
def zHL (c:UInt8):Bool:=JR (c.toNat:Int)
theorem zLb:zAD zSq zUL:=zNG _ _ (by decide +kernel)
theorem zOS:zAD zUc zHL:=zNG _ _ (by decide +kernel)
theorem zSw (s:ByteArray)(w:World):∃c w',(convert 9 22 (.string s)).run Tryz.prog w=.ok (.slice (some ⟨w.heap.size,0,none⟩) s.size c) w'∧Ext w w'∧Cells w' (some ⟨w.heap.size,0,none⟩) (zD4 s.data.toList)∧s.size≤c∧w'.heap.size=w.heap.size+1:=by
 refine⟨_,_,run_bytes_of_string w 9 22 5 s Tryz.underlying9 Tryz.underlying22 Tryz.underlying5,Ext.trans (Below.drew (Below.refl _ _)) (Ext.alloc _ _),?_,grownCap_ge w s.size 0 5,by simp⟩
 by_cases h0:s.data.toList=[]
 ·left; rw[h0]; rfl
 ·right
  refine⟨_,0,rfl,by simp,fun k hk=>?_⟩;rw[zCG] at hk
  have AA:k<s.data.size:=by simpa using hk
  rw[Nat.zero_add];refine(cell_of_row (w.drew.alloc (.cells (bytesRow s (grownCap w s.size 0 5)) 5 ((bytesRow s (grownCap w s.size 0 5)).size,(bytesRow s (grownCap w s.size 0 5)).size+1))) w.drew.heap.size k _ _ _ (zO w.drew _)).trans ?_;rw[bytesRow_at s _ k AA,zGV _ k hk]
  simp
theorem zHO (s:ByteArray)(c v:Int)(h:Hid (zMh s c=v))(w:World):Calls Tryz.prog 70 #[.string s,.int .u8 c] w fun e w'=>e=.returned (.int .i64 v)∧w=w':=
 (zEt s c v h w).mono fun e w' h=>⟨h.1,h.2.symm⟩
theorem zSm (p:UInt8→Bool)(l:List UInt8)(h:l.all p=true):scan p l=l.length:=by
 induction l with
 | nil=>rfl
 | cons a l ih=>
  unfold scan at *;rw[List.all_cons,zF] at h;rw[List.takeWhile_cons,if_pos h.1,zJ,zJ,ih h.2]
theorem zSC (p:UInt8→Bool)(l:List UInt8)(h:l.all p=false):scan p l<l.length:=by
 induction l with
 | nil=>cases h
 | cons a l ih=>
  unfold scan at *;rw[List.takeWhile_cons];rw[List.all_cons] at h
  cases hp:p a with
  | true=>rw[hp,Bool.true_and] at h; rw[if_pos rfl,zJ,zJ]; have:=ih h; omega
  | false=>rw[if_neg (by decide)]; simp
theorem zOC (s:ByteArray)(w:World)(hs:s.size≤9000):Calls Tryz.prog 95 #[.string s] w fun e w'=>e=.returned (.bool (zBJ s.data.toList))∧Ext w w':=by
 have AB:zSq=⟨#[97,98,99,100,101,102,103,104,105,106,107,108,109,110,111,112,113,114,115,116,117,118,119,120,121,122]⟩:=rfl
 by_cases h0:s.data.toList=[]
 ·have HR:Hid (zBJ s.data.toList=false):=yE (by rw[h0]; rfl)
  have e1:s.toList=[]:=by rw[ByteArray.toList_eq]; exact h0
  go_enter Tryz.func95,Tryz.ntmps95
  go_wp2_with fail
  go_ret;exact⟨jB HR.out.symm,Ext.refl _⟩
 ·have hp:0<s.size:=by
   rw[Lib.size_eq];exact List.length_pos_iff.2 h0
  have e1:¬s.toList=[]:=by rw[ByteArray.toList_eq]; exact h0
  have e2:s.toList.isEmpty=false:=by simpa using e1
  have H0:=yE h0;clear h0;clear AB
  have hz:s.data.toList=s[0]::s.data.toList.tail:=by
   have h1:s.data.toList.head?=some s[0]:=by
    rw[List.head?_eq_getElem?];simp[ByteArray.getElem_eq_getElem_data]
   cases hl:s.data.toList with
   | nil=>exact absurd hl H0.out
   | cons a r=>rw[hl] at h1; simp at h1; rw[h1]; rfl
  have AC:Hid (zBJ s.data.toList=(ZO (s[0].toNat:Int)&&s.data.toList.tail.all zHL)):=yE (by rw[hz]; rfl);obtain⟨v,HV⟩:∃v,Hid (zMh zSq (s[0].toNat:Int)=v):=⟨_,yE rfl⟩
  cases hl:ZO (s[0].toNat:Int) with
  | false=>
   have AJ:v<0:=by
    have:=zLb s[0]
    rw[HV.out] at this;unfold zUL at this;rw[hl] at this
    by_cases h:0≤v
    ·exact absurd (this.1 h) (by decide)
    ·omega
   have d1:decide (v<0)=true:=yQ AJ;have HR:Hid (zBJ s.data.toList=false):=yE (by rw[AC.out,hl]; rfl);clear hl hz
   go_enter Tryz.func95,Tryz.ntmps95
   go_wp2_with (refine(zHO zSq _ v HV w).mono ?_; rintro e w' ⟨rfl,rfl⟩)
   go_ret;exact⟨jB HR.out.symm,Ext.refl _⟩
  | true=>
   have AJ:0≤v:=by rw[←HV.out]; exact(zLb s[0]).2 hl
   have d1:decide (v<0)=false:=yP (by omega);obtain⟨c,w1,AH,AG,AL,AQ,AI⟩:=zSw s w;have AP:=yE AG;have AR:=yE AL;have AO:=yE AI;have HL:=yE hl;have HZ:=yE hz;have AD:=Blk.new w1 65 #[.slice (some ⟨w.heap.size,0,none⟩) s.size c,.int .i64 0];have AK:=Ext.alloc w1 (.cells #[.slice (some ⟨w.heap.size,0,none⟩) s.size c,.int .i64 0] 65);have AN:=yE AD;have AE:=yE AK;clear AG AL AI hl AD AK hz
   go_enter Tryz.func95,Tryz.ntmps95
   go_wp2_with (refine(zHO zSq _ v HV w).mono ?_; rintro e w' ⟨rfl,rfl⟩)
   refine(zFn zUc zHL zOS w1.heap.size w.heap.size 0 s.size c 0 s.data.toList _ (by rw[Lib.size_eq]) AQ (by rw[←Lib.size_eq]; omega) (zT _) AN.out (AR.out.ext AE.out)).mono ?_;rintro e w2 ⟨rfl,ht,-⟩;have AF:Hid (Ext w w2):=yE (ht.ext (AP.out.trans AE.out) (by have:=AO.out; omega));clear ht;obtain⟨xs,AA⟩:∃xs:ByteArray,Hid ((⟨((s.data.toList.drop 0).take (scan zHL (s.data.toList.drop 0))).toArray⟩:ByteArray)=xs):=⟨_,yE rfl⟩;rw[AA.out]
   cases hal:s.data.toList.tail.all zHL with
   | true=>
    have HR:Hid (zBJ s.data.toList=true):=yE (by rw[AC.out,HL.out,hal]; rfl)
    have AM:xs=s:=by
     rw[←AA.out,List.drop_zero,zSm zHL _ (by rw[HZ.out,List.all_cons,hal,Bool.and_true]; unfold zHL JR; rw[HL.out]; rfl),List.take_length]
    subst AM
    go_wp2_with fail
    go_ret;exact⟨jB HR.out.symm,AF.out⟩
   | false=>
    have HR:Hid (zBJ s.data.toList=false):=yE (by rw[AC.out,HL.out,hal]; rfl)
    have AS:(xs.toList==s.toList)=false:=by
     rw[yG];intro h;have h2:=congrArg List.length h;rw[←AA.out,ByteArray.toList_eq,ByteArray.toList_eq] at h2;have h3:=zSC zHL s.data.toList (by rw[HZ.out,List.all_cons,hal,Bool.and_false])
     simp at h2 h3
     omega
    go_wp2_with fail
    go_ret;exact⟨jB HR.out.symm,AF.out⟩
theorem zAh (f:JD)(cs:List Value)(L:Option Addr)(ls:List Int)(n lc:Nat)(w:World)(hn:n=ls.length)(hf:zDv w f cs)(hl:Cells w L (xL ls))(hlen:ls.length≤9000)(b:Bool)(hb:f.fits ls=b) :
  Calls Tryz.prog 94 #[.agg (Array.mk cs),.slice L n lc] w fun e w'=>e=.returned (.bool b)∧Ext w w':=by
 subst hb;exact zQi f cs L ls n lc w hn hf hl hlen
theorem zGJ (s:ByteArray)(w:World)(hs:s.size≤9000)(b:Bool)(hb:zBJ s.data.toList=b):Calls Tryz.prog 95 #[.string s] w fun e w'=>e=.returned (.bool b)∧Ext w w':=by
 subst hb;exact zOC s w hs
theorem zQ0 (f:JD)(cs:List Value)(L:Option Addr)(ls:List Int)(n lc gk gn:Nat)(x:vI)(w:World)(hn:n=ls.length)(hf:zDv w f cs)(hl:Cells w L (xL ls))(hlen:ls.length≤9000)(hx:x.text.size≤9000)
  (hgk:Blk w gk 22 #[.slice L n lc]) (hgn:Blk w gn 48 (Array.mk x.cells)) :
  Calls Tryz.prog 93 #[.agg (Array.mk cs),.pointer (some ⟨gk,0,none⟩),.pointer (some ⟨gn,0,none⟩)] w fun e w'=>e=.returned (.bool (JN f x.num x.text.data.toList ls))∧Ext w w':=by
 subst hn;obtain⟨kind,pos,text,num,kA,kc,Aa⟩:=x;obtain⟨ks,mv,rfl,AX,AV⟩:=hf;have AS:zDv w f [ks,mv,.bool f.named,.int .i64 f.most]:=⟨ks,mv,rfl,AX,AV⟩;obtain⟨KA,AI,rfl,-⟩:=AX.open_
 have hmf:mv=.nilFunc∨∃fm lm,mv=.func (.func fm) #[] lm:=by
  cases hm:f.more with
  | none=>rw[hm] at AV; exact .inl AV
  | some q=>rw[hm] at AV; obtain⟨fm,lm,h3,_⟩:=zBB.form AV; exact .inr ⟨fm,lm,h3⟩
 simp only at hx
 unfold vI.cells at hgn
 simp only at hgn
 have HF:=yE AS;have HL:=yE hl;have AN:=yE hgk;have AM:=yE hgn;clear AX AV AS hl hgk hgn;obtain⟨nm,AZ⟩:∃nm,Hid (f.named=nm):=⟨_,yE rfl⟩;obtain⟨mo,AY⟩:∃mo,Hid (f.most=mo):=⟨_,yE rfl⟩;have AU:Hid (JN f num text.data.toList ls=(f.fits ls&&(decide (0≤num)&&(decide (num≤mo)&&((nm&&zBJ text.data.toList)||(!nm&&text.data.toList.isEmpty)))))):=yE (by rw[←AZ.out,←AY.out]; rfl)
 show Calls Tryz.prog 93 #[.agg #[.slice KA f.kids.length AI,mv,.bool f.named,.int .i64 f.most],.pointer (some ⟨gk,0,none⟩),.pointer (some ⟨gn,0,none⟩)] w fun e w'=>e=.returned (.bool (JN f num text.data.toList ls))∧Ext w w'
 rw[AZ.out,AY.out] at HF ⊢;have HT:Hid (text.toList=text.data.toList):=yE (ByteArray.toList_eq _)
 cases hF:f.fits ls
 case false=>
  have HR:Hid (JN f num text.data.toList ls=false):=yE (by rw[AU.out]; rw[hF]; rfl);have hF:=yE hF
  rcases hmf with rfl | ⟨fm,lm,rfl⟩
  ·have AE:=Blk.new w 147 #[.slice KA f.kids.length AI,.nilFunc,.bool nm,.int .i64 mo];have AG:=Ext.alloc w (.cells #[.slice KA f.kids.length AI,.nilFunc,.bool nm,.int .i64 mo] 147);have AJ:=yE AE;have AA:=yE AG;clear AE AG
   go_enter Tryz.func93,Tryz.ntmps93
   have c0:=(AN.out.ext AA.out).cell 0
   go_wp2_with fail
   refine(zAh f _ L ls _ lc _ rfl (HF.out.kept (Kept.ZN AA.out)) (HL.out.ext AA.out) hlen false hF.out).mono ?_;rintro e w1 ⟨rfl,AB⟩;have AH:=AJ.out.ext AB;have AF:=AM.out.ext (AA.out.trans AB);have AD:=yE AH;have AC:=yE AF;have AK:Hid (Ext w w1):=yE (AA.out.trans AB);clear AB AH AF c0;generalize w.heap.size=ga at *;have b2:=AD.out.cell 2;have b3:=AD.out.cell 3;have n2:=AC.out.cell 2;have n3:=AC.out.cell 3
   go_wp2_with fail
   go_ret;exact⟨jB HR.out.symm,AK.out⟩
  ·have AE:=Blk.new w 147 #[.slice KA f.kids.length AI,(.func (.func fm) #[] lm),.bool nm,.int .i64 mo];have AG:=Ext.alloc w (.cells #[.slice KA f.kids.length AI,(.func (.func fm) #[] lm),.bool nm,.int .i64 mo] 147);have AJ:=yE AE;have AA:=yE AG;clear AE AG
   go_enter Tryz.func93,Tryz.ntmps93
   have c0:=(AN.out.ext AA.out).cell 0
   go_wp2_with fail
   refine(zAh f _ L ls _ lc _ rfl (HF.out.kept (Kept.ZN AA.out)) (HL.out.ext AA.out) hlen false hF.out).mono ?_;rintro e w1 ⟨rfl,AB⟩;have AH:=AJ.out.ext AB;have AF:=AM.out.ext (AA.out.trans AB);have AD:=yE AH;have AC:=yE AF;have AK:Hid (Ext w w1):=yE (AA.out.trans AB);clear AB AH AF c0;generalize w.heap.size=ga at *;have b2:=AD.out.cell 2;have b3:=AD.out.cell 3;have n2:=AC.out.cell 2;have n3:=AC.out.cell 3
   go_wp2_with fail
   go_ret;exact⟨jB HR.out.symm,AK.out⟩
 case true=>
  by_cases h1:0≤num
  case neg=>
   have d1:decide (0≤num)=false:=yP h1;have HR:Hid (JN f num text.data.toList ls=false):=yE (by rw[AU.out]; rw[hF,d1]; rfl);have hF:=yE hF
   rcases hmf with rfl | ⟨fm,lm,rfl⟩
   ·have AE:=Blk.new w 147 #[.slice KA f.kids.length AI,.nilFunc,.bool nm,.int .i64 mo];have AG:=Ext.alloc w (.cells #[.slice KA f.kids.length AI,.nilFunc,.bool nm,.int .i64 mo] 147);have AJ:=yE AE;have AA:=yE AG;clear AE AG
    go_enter Tryz.func93,Tryz.ntmps93
    have c0:=(AN.out.ext AA.out).cell 0
    go_wp2_with fail
    refine(zAh f _ L ls _ lc _ rfl (HF.out.kept (Kept.ZN AA.out)) (HL.out.ext AA.out) hlen true hF.out).mono ?_;rintro e w1 ⟨rfl,AB⟩;have AH:=AJ.out.ext AB;have AF:=AM.out.ext (AA.out.trans AB);have AD:=yE AH;have AC:=yE AF;have AK:Hid (Ext w w1):=yE (AA.out.trans AB);clear AB AH AF c0;generalize w.heap.size=ga at *;have b2:=AD.out.cell 2;have b3:=AD.out.cell 3;have n2:=AC.out.cell 2;have n3:=AC.out.cell 3
    go_wp2_with fail
    go_ret;exact⟨jB HR.out.symm,AK.out⟩
   ·have AE:=Blk.new w 147 #[.slice KA f.kids.length AI,(.func (.func fm) #[] lm),.bool nm,.int .i64 mo];have AG:=Ext.alloc w (.cells #[.slice KA f.kids.length AI,(.func (.func fm) #[] lm),.bool nm,.int .i64 mo] 147);have AJ:=yE AE;have AA:=yE AG;clear AE AG
    go_enter Tryz.func93,Tryz.ntmps93
    have c0:=(AN.out.ext AA.out).cell 0
    go_wp2_with fail
    refine(zAh f _ L ls _ lc _ rfl (HF.out.kept (Kept.ZN AA.out)) (HL.out.ext AA.out) hlen true hF.out).mono ?_;rintro e w1 ⟨rfl,AB⟩;have AH:=AJ.out.ext AB;have AF:=AM.out.ext (AA.out.trans AB);have AD:=yE AH;have AC:=yE AF;have AK:Hid (Ext w w1):=yE (AA.out.trans AB);clear AB AH AF c0;generalize w.heap.size=ga at *;have b2:=AD.out.cell 2;have b3:=AD.out.cell 3;have n2:=AC.out.cell 2;have n3:=AC.out.cell 3
    go_wp2_with fail
    go_ret;exact⟨jB HR.out.symm,AK.out⟩
  case pos=>
   have d1:decide (0≤num)=true:=yQ h1
   by_cases h2:num≤mo
   case neg=>
    have d2:decide (num≤mo)=false:=yP h2;have HR:Hid (JN f num text.data.toList ls=false):=yE (by rw[AU.out]; rw[hF,d1,d2]; rfl);have hF:=yE hF
    rcases hmf with rfl | ⟨fm,lm,rfl⟩
    ·have AE:=Blk.new w 147 #[.slice KA f.kids.length AI,.nilFunc,.bool nm,.int .i64 mo];have AG:=Ext.alloc w (.cells #[.slice KA f.kids.length AI,.nilFunc,.bool nm,.int .i64 mo] 147);have AJ:=yE AE;have AA:=yE AG;clear AE AG
     go_enter Tryz.func93,Tryz.ntmps93
     have c0:=(AN.out.ext AA.out).cell 0
     go_wp2_with fail
     refine(zAh f _ L ls _ lc _ rfl (HF.out.kept (Kept.ZN AA.out)) (HL.out.ext AA.out) hlen true hF.out).mono ?_;rintro e w1 ⟨rfl,AB⟩;have AH:=AJ.out.ext AB;have AF:=AM.out.ext (AA.out.trans AB);have AD:=yE AH;have AC:=yE AF;have AK:Hid (Ext w w1):=yE (AA.out.trans AB);clear AB AH AF c0;generalize w.heap.size=ga at *;have b2:=AD.out.cell 2;have b3:=AD.out.cell 3;have n2:=AC.out.cell 2;have n3:=AC.out.cell 3
     go_wp2_with fail
     go_ret;exact⟨jB HR.out.symm,AK.out⟩
    ·have AE:=Blk.new w 147 #[.slice KA f.kids.length AI,(.func (.func fm) #[] lm),.bool nm,.int .i64 mo];have AG:=Ext.alloc w (.cells #[.slice KA f.kids.length AI,(.func (.func fm) #[] lm),.bool nm,.int .i64 mo] 147);have AJ:=yE AE;have AA:=yE AG;clear AE AG
     go_enter Tryz.func93,Tryz.ntmps93
     have c0:=(AN.out.ext AA.out).cell 0
     go_wp2_with fail
     refine(zAh f _ L ls _ lc _ rfl (HF.out.kept (Kept.ZN AA.out)) (HL.out.ext AA.out) hlen true hF.out).mono ?_;rintro e w1 ⟨rfl,AB⟩;have AH:=AJ.out.ext AB;have AF:=AM.out.ext (AA.out.trans AB);have AD:=yE AH;have AC:=yE AF;have AK:Hid (Ext w w1):=yE (AA.out.trans AB);clear AB AH AF c0;generalize w.heap.size=ga at *;have b2:=AD.out.cell 2;have b3:=AD.out.cell 3;have n2:=AC.out.cell 2;have n3:=AC.out.cell 3
     go_wp2_with fail
     go_ret;exact⟨jB HR.out.symm,AK.out⟩
   case pos=>
    have d2:decide (num≤mo)=true:=yQ h2
    cases nm with
    | true=>
     cases hI:zBJ text.data.toList with
     | true=>
      have HR:Hid (JN f num text.data.toList ls=true):=yE (by rw[AU.out]; rw[hF,d1,d2,hI]; rfl);have hF:=yE hF;have hI:=yE hI
      rcases hmf with rfl | ⟨fm,lm,rfl⟩
      ·have AE:=Blk.new w 147 #[.slice KA f.kids.length AI,.nilFunc,.bool true,.int .i64 mo];have AG:=Ext.alloc w (.cells #[.slice KA f.kids.length AI,.nilFunc,.bool true,.int .i64 mo] 147);have AJ:=yE AE;have AA:=yE AG;clear AE AG
       go_enter Tryz.func93,Tryz.ntmps93
       have c0:=(AN.out.ext AA.out).cell 0
       go_wp2_with fail
       refine(zAh f _ L ls _ lc _ rfl (HF.out.kept (Kept.ZN AA.out)) (HL.out.ext AA.out) hlen true hF.out).mono ?_;rintro e w1 ⟨rfl,AB⟩;have AH:=AJ.out.ext AB;have AF:=AM.out.ext (AA.out.trans AB);have AD:=yE AH;have AC:=yE AF;have AK:Hid (Ext w w1):=yE (AA.out.trans AB);clear AB AH AF c0;generalize w.heap.size=ga at *;have b2:=AD.out.cell 2;have b3:=AD.out.cell 3;have n2:=AC.out.cell 2;have n3:=AC.out.cell 3
       go_wp2_with fail
       refine(zGJ text _ hx true hI.out).mono ?_;rintro e w2 ⟨rfl,AL⟩;have AT:Hid (Ext w w2):=yE (AK.out.trans AL);have AP:=AD.out.ext AL;have AO:=AC.out.ext AL;have AQ:=yE AP;have AR:=yE AO;clear AL AP AO b2 b3 n2 n3;have b2:=AQ.out.cell 2;have b3:=AQ.out.cell 3;have n2:=AR.out.cell 2;have n3:=AR.out.cell 3
       go_wp2_with fail
       go_ret;exact⟨jB HR.out.symm,AT.out⟩
      ·have AE:=Blk.new w 147 #[.slice KA f.kids.length AI,(.func (.func fm) #[] lm),.bool true,.int .i64 mo];have AG:=Ext.alloc w (.cells #[.slice KA f.kids.length AI,(.func (.func fm) #[] lm),.bool true,.int .i64 mo] 147);have AJ:=yE AE;have AA:=yE AG;clear AE AG
       go_enter Tryz.func93,Tryz.ntmps93
       have c0:=(AN.out.ext AA.out).cell 0
       go_wp2_with fail
       refine(zAh f _ L ls _ lc _ rfl (HF.out.kept (Kept.ZN AA.out)) (HL.out.ext AA.out) hlen true hF.out).mono ?_;rintro e w1 ⟨rfl,AB⟩;have AH:=AJ.out.ext AB;have AF:=AM.out.ext (AA.out.trans AB);have AD:=yE AH;have AC:=yE AF;have AK:Hid (Ext w w1):=yE (AA.out.trans AB);clear AB AH AF c0;generalize w.heap.size=ga at *;have b2:=AD.out.cell 2;have b3:=AD.out.cell 3;have n2:=AC.out.cell 2;have n3:=AC.out.cell 3
       go_wp2_with fail
       refine(zGJ text _ hx true hI.out).mono ?_;rintro e w2 ⟨rfl,AL⟩;have AT:Hid (Ext w w2):=yE (AK.out.trans AL);have AP:=AD.out.ext AL;have AO:=AC.out.ext AL;have AQ:=yE AP;have AR:=yE AO;clear AL AP AO b2 b3 n2 n3;have b2:=AQ.out.cell 2;have b3:=AQ.out.cell 3;have n2:=AR.out.cell 2;have n3:=AR.out.cell 3
       go_wp2_with fail
       go_ret;exact⟨jB HR.out.symm,AT.out⟩
     | false=>
      have HR:Hid (JN f num text.data.toList ls=false):=yE (by rw[AU.out]; rw[hF,d1,d2,hI]; rfl);have hF:=yE hF;have hI:=yE hI
      rcases hmf with rfl | ⟨fm,lm,rfl⟩
      ·have AE:=Blk.new w 147 #[.slice KA f.kids.length AI,.nilFunc,.bool true,.int .i64 mo];have AG:=Ext.alloc w (.cells #[.slice KA f.kids.length AI,.nilFunc,.bool true,.int .i64 mo] 147);have AJ:=yE AE;have AA:=yE AG;clear AE AG
       go_enter Tryz.func93,Tryz.ntmps93
       have c0:=(AN.out.ext AA.out).cell 0
       go_wp2_with fail
       refine(zAh f _ L ls _ lc _ rfl (HF.out.kept (Kept.ZN AA.out)) (HL.out.ext AA.out) hlen true hF.out).mono ?_;rintro e w1 ⟨rfl,AB⟩;have AH:=AJ.out.ext AB;have AF:=AM.out.ext (AA.out.trans AB);have AD:=yE AH;have AC:=yE AF;have AK:Hid (Ext w w1):=yE (AA.out.trans AB);clear AB AH AF c0;generalize w.heap.size=ga at *;have b2:=AD.out.cell 2;have b3:=AD.out.cell 3;have n2:=AC.out.cell 2;have n3:=AC.out.cell 3
       go_wp2_with fail
       refine(zGJ text _ hx false hI.out).mono ?_;rintro e w2 ⟨rfl,AL⟩;have AT:Hid (Ext w w2):=yE (AK.out.trans AL);have AP:=AD.out.ext AL;have AO:=AC.out.ext AL;have AQ:=yE AP;have AR:=yE AO;clear AL AP AO b2 b3 n2 n3;have b2:=AQ.out.cell 2;have b3:=AQ.out.cell 3;have n2:=AR.out.cell 2;have n3:=AR.out.cell 3
       go_wp2_with fail
       go_ret;exact⟨jB HR.out.symm,AT.out⟩
      ·have AE:=Blk.new w 147 #[.slice KA f.kids.length AI,(.func (.func fm) #[] lm),.bool true,.int .i64 mo];have AG:=Ext.alloc w (.cells #[.slice KA f.kids.length AI,(.func (.func fm) #[] lm),.bool true,.int .i64 mo] 147);have AJ:=yE AE;have AA:=yE AG;clear AE AG
       go_enter Tryz.func93,Tryz.ntmps93
       have c0:=(AN.out.ext AA.out).cell 0
       go_wp2_with fail
       refine(zAh f _ L ls _ lc _ rfl (HF.out.kept (Kept.ZN AA.out)) (HL.out.ext AA.out) hlen true hF.out).mono ?_;rintro e w1 ⟨rfl,AB⟩;have AH:=AJ.out.ext AB;have AF:=AM.out.ext (AA.out.trans AB);have AD:=yE AH;have AC:=yE AF;have AK:Hid (Ext w w1):=yE (AA.out.trans AB);clear AB AH AF c0;generalize w.heap.size=ga at *;have b2:=AD.out.cell 2;have b3:=AD.out.cell 3;have n2:=AC.out.cell 2;have n3:=AC.out.cell 3
       go_wp2_with fail
       refine(zGJ text _ hx false hI.out).mono ?_;rintro e w2 ⟨rfl,AL⟩;have AT:Hid (Ext w w2):=yE (AK.out.trans AL);have AP:=AD.out.ext AL;have AO:=AC.out.ext AL;have AQ:=yE AP;have AR:=yE AO;clear AL AP AO b2 b3 n2 n3;have b2:=AQ.out.cell 2;have b3:=AQ.out.cell 3;have n2:=AR.out.cell 2;have n3:=AR.out.cell 3
       go_wp2_with fail
       go_ret;exact⟨jB HR.out.symm,AT.out⟩
    | false=>
     by_cases h3:text.data.toList=[]
     case pos=>
      have AW:text.data.toList.isEmpty=true:=by rw[h3]; rfl
      have e3:text.toList=[]:=by rw[HT.out]; exact h3
      have HR:Hid (JN f num text.data.toList ls=true):=yE (by rw[AU.out]; rw[hF,d1,d2,AW]; rfl);have hF:=yE hF;have H3:=yE h3;clear h3 AW
      rcases hmf with rfl | ⟨fm,lm,rfl⟩
      ·have AE:=Blk.new w 147 #[.slice KA f.kids.length AI,.nilFunc,.bool false,.int .i64 mo];have AG:=Ext.alloc w (.cells #[.slice KA f.kids.length AI,.nilFunc,.bool false,.int .i64 mo] 147);have AJ:=yE AE;have AA:=yE AG;clear AE AG
       go_enter Tryz.func93,Tryz.ntmps93
       have c0:=(AN.out.ext AA.out).cell 0
       go_wp2_with fail
       refine(zAh f _ L ls _ lc _ rfl (HF.out.kept (Kept.ZN AA.out)) (HL.out.ext AA.out) hlen true hF.out).mono ?_;rintro e w1 ⟨rfl,AB⟩;have AH:=AJ.out.ext AB;have AF:=AM.out.ext (AA.out.trans AB);have AD:=yE AH;have AC:=yE AF;have AK:Hid (Ext w w1):=yE (AA.out.trans AB);clear AB AH AF c0;generalize w.heap.size=ga at *;have b2:=AD.out.cell 2;have b3:=AD.out.cell 3;have n2:=AC.out.cell 2;have n3:=AC.out.cell 3
       go_wp2_with fail
       go_ret;exact⟨jB HR.out.symm,AK.out⟩
      ·have AE:=Blk.new w 147 #[.slice KA f.kids.length AI,(.func (.func fm) #[] lm),.bool false,.int .i64 mo];have AG:=Ext.alloc w (.cells #[.slice KA f.kids.length AI,(.func (.func fm) #[] lm),.bool false,.int .i64 mo] 147);have AJ:=yE AE;have AA:=yE AG;clear AE AG
       go_enter Tryz.func93,Tryz.ntmps93
       have c0:=(AN.out.ext AA.out).cell 0
       go_wp2_with fail
       refine(zAh f _ L ls _ lc _ rfl (HF.out.kept (Kept.ZN AA.out)) (HL.out.ext AA.out) hlen true hF.out).mono ?_;rintro e w1 ⟨rfl,AB⟩;have AH:=AJ.out.ext AB;have AF:=AM.out.ext (AA.out.trans AB);have AD:=yE AH;have AC:=yE AF;have AK:Hid (Ext w w1):=yE (AA.out.trans AB);clear AB AH AF c0;generalize w.heap.size=ga at *;have b2:=AD.out.cell 2;have b3:=AD.out.cell 3;have n2:=AC.out.cell 2;have n3:=AC.out.cell 3
       go_wp2_with fail
       go_ret;exact⟨jB HR.out.symm,AK.out⟩
     case neg=>
      have AW:text.data.toList.isEmpty=false:=by simpa using h3
      have e3:¬text.toList=[]:=by rw[HT.out]; exact h3
      have e4:text.toList.isEmpty=false:=by simpa using e3
      have HR:Hid (JN f num text.data.toList ls=false):=yE (by rw[AU.out]; rw[hF,d1,d2,AW]; rfl);have hF:=yE hF;have H3:=yE h3;clear h3 AW
      rcases hmf with rfl | ⟨fm,lm,rfl⟩
      ·have AE:=Blk.new w 147 #[.slice KA f.kids.length AI,.nilFunc,.bool false,.int .i64 mo];have AG:=Ext.alloc w (.cells #[.slice KA f.kids.length AI,.nilFunc,.bool false,.int .i64 mo] 147);have AJ:=yE AE;have AA:=yE AG;clear AE AG
       go_enter Tryz.func93,Tryz.ntmps93
       have c0:=(AN.out.ext AA.out).cell 0
       go_wp2_with fail
       refine(zAh f _ L ls _ lc _ rfl (HF.out.kept (Kept.ZN AA.out)) (HL.out.ext AA.out) hlen true hF.out).mono ?_;rintro e w1 ⟨rfl,AB⟩;have AH:=AJ.out.ext AB;have AF:=AM.out.ext (AA.out.trans AB);have AD:=yE AH;have AC:=yE AF;have AK:Hid (Ext w w1):=yE (AA.out.trans AB);clear AB AH AF c0;generalize w.heap.size=ga at *;have b2:=AD.out.cell 2;have b3:=AD.out.cell 3;have n2:=AC.out.cell 2;have n3:=AC.out.cell 3
       go_wp2_with fail
       go_ret;exact⟨jB HR.out.symm,AK.out⟩
      ·have AE:=Blk.new w 147 #[.slice KA f.kids.length AI,(.func (.func fm) #[] lm),.bool false,.int .i64 mo];have AG:=Ext.alloc w (.cells #[.slice KA f.kids.length AI,(.func (.func fm) #[] lm),.bool false,.int .i64 mo] 147);have AJ:=yE AE;have AA:=yE AG;clear AE AG
       go_enter Tryz.func93,Tryz.ntmps93
       have c0:=(AN.out.ext AA.out).cell 0
       go_wp2_with fail
       refine(zAh f _ L ls _ lc _ rfl (HF.out.kept (Kept.ZN AA.out)) (HL.out.ext AA.out) hlen true hF.out).mono ?_;rintro e w1 ⟨rfl,AB⟩;have AH:=AJ.out.ext AB;have AF:=AM.out.ext (AA.out.trans AB);have AD:=yE AH;have AC:=yE AF;have AK:Hid (Ext w w1):=yE (AA.out.trans AB);clear AB AH AF c0;generalize w.heap.size=ga at *;have b2:=AD.out.cell 2;have b3:=AD.out.cell 3;have n2:=AC.out.cell 2;have n3:=AC.out.cell 3
       go_wp2_with fail
       go_ret;exact⟨jB HR.out.symm,AK.out⟩
theorem zSv (css:List (List Value))(h:∀cs ∈ css,cs.length=4):∀(i j:Nat) (hi:i<css.length),j<4→css.flatten[i*4+j]?=(css[i])[j]?:=by
 induction css with
 | nil=>intro i j hi; simp at hi
 | cons a l ih=>
  intro i j hi hj;have ha:=h a (by simp);rw[List.flatten_cons]
  match i,hi with
  | 0,_=>rw[Nat.zero_mul,Nat.zero_add,List.getElem?_append_left (by omega)]; rfl
  | i+1,hi=>
   rw[List.getElem?_append_right (by omega),ha,show(i+1)*4+j-4=i*4+j from by omega];exact ih (fun cs hc=>h cs (by simp[hc])) i j (by simpa using hi) hj
theorem zHc.mem {α β:Type}{R:α→β→Prop}:∀ {l:List α} {m:List β} (h:zHc R l m),∀b ∈ m,∃a,R a b
 | [],[],_=>fun b hb=>by cases hb
 | a::l,c::m,⟨h1,h2⟩=>fun b hb=>by
  rcases List.mem_cons.1 hb with rfl | hb
  ·exact⟨a,h1⟩
  ·exact h2.mem b hb
 | [],_::_,h=>h.elim
 | _::_,[],h=>h.elim
theorem zBF.open_ {w:World}{fs:List JD}{v:Value}(h:zBF w fs v):∃A c,v=.slice A fs.length c∧∀i (hi:i<fs.length),∃g cs,A=some ⟨g,0,none⟩∧g<w.heap.size∧(∀j,j<4→w.cell? ⟨g,i*4+j,none⟩=cs[j]?)∧zDv w fs[i] cs:=by
 rcases h with ⟨h1,h2⟩ | ⟨g,AA,h1,h2,h3⟩
 ·subst h1; exact⟨none,0,h2,fun i hi=>by simp at hi⟩
 ·refine⟨_,_,h1,fun i hi=>?_⟩;obtain⟨cs,hc,hk⟩:=h3.get i hi
  have AB:i<AA.length:=by rw[←h3.len]; exact hi
  refine⟨g,cs,rfl,h2.lt,fun j hj=>?_,hk⟩;rw[h2.cell]
  have:=zSv AA (fun cs AC=>by obtain⟨a,ha⟩:=h3.mem cs AC; exact ha.len) i j AB hj
  rw[yH AB] at hc;injection hc with hc;rw[hc] at this
  simpa using this
theorem any_none {n:Nat}{q:Nat→Bool}(h:∀j,j<n→q j=false):(List.range n).any q=false:=by
 rw[List.any_eq_false];intro j hj;rw[h j (List.mem_range.1 hj)];exact Bool.false_ne_true
theorem any_some {n:Nat}{q:Nat→Bool}(j:Nat)(hj:j<n)(h:q j=true):(List.range n).any q=true:=List.any_eq_true.2 ⟨j,List.mem_range.2 hj,h⟩
theorem zLr {α:Type}(l:List α)(f:α→Bool)(d:α):((List.range l.length).any fun i=>f (l.getD i d))=l.any f:=by
 induction l with
 | nil=>rfl
 | cons x l ih=>
  rw[zJ,List.range_succ_eq_map,List.any_cons,List.any_map,List.any_cons]
  congr 1
def zEY:JD:=⟨[],none,false,0⟩
theorem zPv (b:Bool)(f:JD)(cs:List Value)(L:Option Addr)(ls:List Int)(lc gk gn:Nat)(x:vI)(w:World)(hf:zDv w f cs)(hl:Cells w L (xL ls))(hlen:ls.length≤9000)(hx:x.text.size≤9000)
  (hgk:Blk w gk 22 #[.slice L ls.length lc]) (hgn:Blk w gn 48 (Array.mk x.cells)) (hb:JN f x.num x.text.data.toList ls=b) :
  Calls Tryz.prog 93 #[.agg (Array.mk cs),.pointer (some ⟨gk,0,none⟩),.pointer (some ⟨gn,0,none⟩)] w fun e w'=>e=.returned (.bool b)∧Ext w w':=by
 subst hb;exact zQ0 f cs L ls _ lc gk gn x w rfl hf hl hlen hx hgk hgn
theorem zNU (fs:List JD)(A:Option Addr)(n c:Nat)(L:Option Addr)(ls:List Int)(lc gk gn:Nat)(x:vI)(w:World)(hfs:zBF w fs (.slice A n c))(hfl:fs.length≤10)(hl:Cells w L (xL ls))(hlen:ls.length≤9000)(hx:x.text.size≤9000)
  (hgk:Blk w gk 22 #[.slice L ls.length lc]) (hgn:Blk w gn 48 (Array.mk x.cells)) :
  Calls Tryz.prog 139 #[.slice A n c,.func (.func 93) #[] #[.pointer (some ⟨gk,0,none⟩),.pointer (some ⟨gn,0,none⟩)]] w fun e w'=>∃r:Int,e=.returned (.int .i64 r)∧decide (0≤r)=(List.range fs.length).any (fun i=>JN (fs.getD i zEY) x.num x.text.data.toList ls)∧Ext w w':=by
 obtain⟨A',c',hv,AK⟩:=hfs.open_;injection hv with h1 h2 h3;subst h1 h2 h3;have AP:=yE AK;have HL:=yE hl;have AS:=yE hgk;have AR:=yE hgn;clear AK hl hgk hgn hfs;obtain⟨q,HQ⟩:∃q:Nat→Bool,Hid ((fun i=>JN (fs.getD i zEY) x.num x.text.data.toList ls)=q):=⟨_,yE rfl⟩;rw[HQ.out]
 go_enter Tryz.func139,Tryz.ntmps139
 go_wp2_with fail
 go_loopw [8] (fun i wr=>∃k:Nat,k≤fs.length∧i=.int .i64 k∧Hid (Ext w wr)∧Hid (∀j,j<k→q j=false)) (fun i _=>fs.length-(intOf i).toNat)
 case atStart=>exact⟨0,zT _,rfl,yE (Ext.refl _),yE fun j hj=>by omega⟩
 case round=>
  obtain⟨k,hk,rfl,HX,HR⟩:=hrel;obtain⟨wa,rfl⟩:∃wa:World,wa=wr:=⟨_,rfl⟩
  by_cases AI:k<fs.length
  ·have d0:decide ((k:Int)<(fs.length:Int))=true:=yQ (by omega);obtain⟨g,cs,rfl,hg,AC,AA⟩:=AP.out k AI;obtain⟨b,hb⟩:∃b,q k=b:=⟨_,rfl⟩;have HB:=yE hb
   have AL:fs.getD k zEY=fs[k]:=by simp[yF,AI]
   have AJ:Hid (JN fs[k] x.num x.text.data.toList ls=b):=yE (by rw[←hb,←HQ.out,←AL]);have AB:=yE (AA.kept (Kept.ZN HX.out));obtain⟨ks,mv,rfl,AN,AE⟩:=AA;obtain⟨KA,AM,rfl,-⟩:=AN.open_
   have hmf:mv=.nilFunc∨∃fm lm,mv=.func (.func fm) #[] lm:=by
    cases hm:fs[k].more with
    | none=>rw[hm] at AE; exact .inl AE
    | some q=>rw[hm] at AE; obtain⟨fm,lm,h3,_⟩:=zBB.form AE; exact .inr ⟨fm,lm,h3⟩
   clear AN AE hb AL;generalize fs[k]=f at *;have HC:Hid (∀j,j<4→wa.cell? ⟨g,k*4+j,none⟩=([Value.slice KA f.kids.length AM,mv,.bool f.named,.int .i64 f.most])[j]?):=yE (fun j hj=>(HX.out.cell (p:=⟨g,k*4+j,none⟩) hg).trans (AC j hj));clear AC;have AO:=yE (HL.out.ext HX.out);have AF:=yE (AS.out.ext HX.out);have AG:=yE (AR.out.ext HX.out)
   rcases hmf with rfl | ⟨fm,lm,rfl⟩
   all_goals
    have c0:wa.cell? ⟨g,k*4,none⟩=some (.slice KA f.kids.length AM):=HC.out 0 (by omega);have c1:=HC.out 1 (by omega);have c2:=HC.out 2 (by omega);have c3:=HC.out 3 (by omega)
    cases b with
    | true=>
     go_wp2_with (refine(zPv true f _ L ls lc gk gn x _ AB.out AO.out hlen hx AF.out AG.out AJ.out).mono ?_; rintro e w2 ⟨rfl,AD⟩; have AH:Hid (Ext w w2):=yE (HX.out.trans AD); clear AD)
     go_ret;exact⟨_,rfl,by rw[yQ (by omega)]; exact(any_some k AI HB.out).symm,AH.out⟩
    | false=>
     go_wp2_with (refine(zPv false f _ L ls lc gk gn x _ AB.out AO.out hlen hx AF.out AG.out AJ.out).mono ?_; rintro e w2 ⟨rfl,AD⟩; have AH:Hid (Ext w w2):=yE (HX.out.trans AD); clear AD)
     go_roundw
     case rel=>exact⟨k+1,by omega,by go_num,AH,yE fun j hj=>by
      by_cases AQ:j=k
      ·subst AQ; exact HB.out
      ·exact HR.out j (by omega)⟩
     case measure=>simp[intOf]; omega
  ·obtain rfl:k=fs.length:=by omega
   have d0:decide ((fs.length:Int)<(fs.length:Int))=false:=by simp
   go_wp2_with fail
   go_ret;exact⟨_,rfl,by rw[any_none HR.out]; rfl,HX.out⟩
theorem zMi (fs:List JD)(v:Value)(L:Option Addr)(ls:List Int)(lc gk gn:Nat)(x:vI)(w:World)(hfs:zBF w fs v)(hfl:fs.length≤10)(hl:Cells w L (xL ls))(hlen:ls.length≤9000)(hx:x.text.size≤9000)
  (hgk:Blk w gk 22 #[.slice L ls.length lc]) (hgn:Blk w gn 48 (Array.mk x.cells)) :
  Calls Tryz.prog 91 #[v,.func (.func 93) #[] #[.pointer (some ⟨gk,0,none⟩),.pointer (some ⟨gn,0,none⟩)]] w fun e w'=>e=.returned (.bool (fs.any fun f=>JN f x.num x.text.data.toList ls))∧Ext w w':=by
 have AB:Hid ((List.range fs.length).any (fun i=>JN (fs.getD i zEY) x.num x.text.data.toList ls)=fs.any fun f=>JN f x.num x.text.data.toList ls):=yE (zLr fs (fun f=>JN f x.num x.text.data.toList ls) zEY);obtain⟨A,c,rfl,-⟩:=hfs.open_
 go_enter Tryz.func91,Tryz.ntmps91
 go_wp2_with fail
 refine(zNU fs A _ c L ls lc gk gn x w hfs hfl hl hlen hx hgk hgn).mono ?_;rintro e w2 ⟨r,rfl,hr,AA⟩;have AD:=yE hr;have AC:=yE AA;clear hr AA
 go_wp2_with fail
 go_ret;exact⟨jB (by rw[AD.out,AB.out]),AC.out⟩
end Go.Proofs.YtioffpjajhalaaaGreatDoor.TT
