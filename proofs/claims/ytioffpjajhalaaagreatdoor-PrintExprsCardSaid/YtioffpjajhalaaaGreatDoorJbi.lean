/- tree.Same, walked. (and what follows of it). The conditions stand at each lemma. -/
import Derived.Test.YtioffpjajhalaaaGreatDoorJaa
import Derived.Test.YtioffpjajhalaaaGreatDoorJai
import Derived.Test.YtioffpjajhalaaaGreatDoorJbh
import Derived.Test.YtioffpjajhalaaaGreatDoorJav
import Derived.Lib.ConvBytes
import Derived.Deep.Cut
import Derived.Deep.QuietTactic
set_option linter.unusedVariables false
set_option linter.unusedSimpArgs false
set_option maxRecDepth 100000
set_option maxHeartbeats 16000000
namespace Go.Proofs.YtioffpjajhalaaaGreatDoor.TT
open Go Go.RowKit
structure zTz (w:World)(x:xC):Prop where
 kids:Cells w x.kA (xL x.kids)
structure zE8 (w:World)(A:Option Addr)(l:List xC):Prop where
 cells:Cells w A (zEP l)
 ok:∀x ∈ l,zTz w x
theorem zE8.ext {w w':World}{A:Option Addr}{l:List xC}(h:zE8 w A l)(hx:Ext w w'):zE8 w' A l:=⟨h.cells.ext hx,fun x hm=>⟨(h.ok x hm).kids.ext hx⟩⟩
theorem XU.c {w:World}{A:Option Addr}{l:List xC}(h:XU w A l):zE8 w A l:=⟨h.cells,fun x hm=>⟨(h.ok x hm).kids⟩⟩
theorem zE8.at_ {w:World}{A:Option Addr}{l:List xC}(h:zE8 w A l)(k:Nat)(hk:k<l.length) :
  ∃b AA,A=some ⟨b,AA,none⟩∧b<w.heap.size∧∀j,j<5→w.cell? ⟨b,AA+k*5+j,none⟩=(l[k].cells)[j]?:=by
 obtain⟨b,AA,hA,hb,hc⟩:=h.cells.at_ (by rw[zCM]; omega);exact⟨b,AA,hA,hb,fun j hj=>by rw[Nat.add_assoc,hc _ (by rw[zCM]; omega),zJz l k j hk hj]⟩
theorem zMs {l m:List Int}(h:l.length=m.length)(hh:∀j (h1:j<l.length) (h2:j<m.length),l[j]=m[j]):l=m:=List.ext_getElem h hh
theorem zGK (L M:Option Addr)(ls ms:List Int)(n c m d:Nat)(w:World)(hn:n=ls.length)(hm:m=ms.length)(hl:Cells w L (xL ls))(hw:Cells w M (xL ms))(hlen:ls.length≤9000)(hwl:ms.length≤9000)(b:Bool)(hb:Hid ((ls==ms)=b)) :
  Calls Tryz.prog 50 #[.slice L n c,.slice M m d] w fun e w'=>e=.returned (.bool b)∧Ext w w':=by
 subst hn hm;have HL:=yD hl;have HW:=yD hw;clear hl hw
 by_cases AB:ls.length=ms.length
 ·have e0:((ls.length:Int)==(ms.length:Int))=true:=by rw[AB]; simp
  have e1:((ls.length:Int) != (ms.length:Int))=false:=by rw[AB]; simp
  have AF:=yD AB;clear AB
  go_enter Tryz.func50,Tryz.ntmps50
  go_wp2_with fail
  go_loopw [13] (fun i wr=>∃k:Nat,k≤ls.length∧i=.int .i64 k∧Hid (Ext w wr)∧Hid (∀j (h1:j<ls.length) (h2:j<ms.length),j<k→ls[j]=ms[j])) (fun i _=>ls.length-(intOf i).toNat)
  case atStart=>exact⟨0,zT _,rfl,yD (Ext.refl _),yD fun j h1 h2 hj=>by omega⟩
  case round=>
   obtain⟨k,hk,rfl,HX,HR⟩:=hrel;obtain⟨wa,rfl⟩:∃wa:World,wa=wr:=⟨_,rfl⟩
   by_cases AG:k<ls.length
   ·have d0:decide ((k:Int)<(ls.length:Int))=true:=yP (by omega)
    have AD:k<ms.length:=by have:=AF.out; omega
    obtain⟨b1,AH,rfl,AK,AL⟩:=zCT (HL.out.ext HX.out) k AG;obtain⟨b2,AI,rfl,AM,AN⟩:=zCT (HW.out.ext HX.out) k AD
    have q1:(k:Int)<(ls.length:Int):=by omega
    have q2:(k:Int)<(ms.length:Int):=by omega
    have AE:Hid (ls[k]=ms[k]→∀j (h1:j<ls.length) (h2:j<ms.length),j<k+1→ls[j]=ms[j]):=yD (by
     intro h j h1 h2 h3
     by_cases hj:j=k
     ·subst hj; exact h
     ·exact HR.out j h1 h2 (by omega))
    have AJ:Hid (ls[k]≠ms[k]→b=false):=yD (by
     intro h;rw[←hb.out,yF];rintro rfl
     exact h rfl)
    generalize ls[k]=x at *;generalize ms[k]=y at *
    by_cases AA:x=y
    ·have HY:=yD (AE.out AA)
     have e5:(x==y)=true:=by rw[AA]; simp
     have e6:(x != y)=false:=by rw[AA]; simp
     clear AA
     go_wp2_with fail
     go_quiet (fail)
     rename_i nq;have AC:=yD (Ext.drewN HX.out nq)
     go_wp2_with fail
     go_roundw
     case rel=>exact⟨k+1,by omega,by go_num,AC,HY⟩
     case measure=>simp[intOf]; omega
    ·have HN:=yD (AJ.out AA);have e5:(x==y)=false:=beq_eq_false_iff_ne.2 AA
     have e6:(x != y)=true:=by rw[bne,e5]; rfl
     clear AA
     go_wp2_with fail
     go_quiet (fail)
     rename_i nq;have AC:=yD (Ext.drewN HX.out nq)
     go_wp2_with fail
     go_ret;exact⟨vR HN.out.symm,AC.out⟩
   ·obtain rfl:k=ls.length:=by omega
    have d0:decide ((ls.length:Int)<(ls.length:Int))=false:=by simp
    have HB:Hid (b=true):=yD (by
     rw[←hb.out,zN]
     exact zMs AF.out (fun j h1 h2=>HR.out j h1 h2 h1))
    go_wp2_with fail
    go_ret;exact⟨vR HB.out.symm,HX.out⟩
 ·have e0:((ls.length:Int)==(ms.length:Int))=false:=by rw[yF]; omega
  have e1:((ls.length:Int) != (ms.length:Int))=true:=by rw[bne,e0]; rfl
  have HB:Hid (b=false):=yD (by rw[←hb.out,yF]; rintro rfl; exact AB rfl)
  go_enter Tryz.func50,Tryz.ntmps50
  go_wp2_with fail
  go_ret;exact⟨vR HB.out.symm,Ext.refl _⟩
theorem zRs (x y:xC)(w:World)(hx:Cells w x.kA (xL x.kids))(hy:Cells w y.kA (xL y.kids))(hxl:x.kids.length≤9000)(hyl:y.kids.length≤9000)(b:Bool)(hb:Hid (XI x y=b)) :
  Calls Tryz.prog 49 #[.agg (Array.mk x.cells),.agg (Array.mk y.cells)] w fun e w'=>e=.returned (.bool b)∧Ext w w':=by
 have AM:=yD hx;have AN:=yD hy;clear hx hy;obtain⟨kind,pos,text,num,kA,kc,AD⟩:=x;obtain⟨AB,AF,AC,AE,AH,AG,AA⟩:=y
 simp only at hxl hyl AM AN
 show Calls Tryz.prog 49 #[.agg #[.int .u8 kind,.int .i64 pos,.string text,.int .i64 num,.slice kA AD.length kc],.agg #[.int .u8 AB,.int .i64 AF,.string AC,.int .i64 AE,.slice AH AA.length AG]] w fun e w'=>e=.returned (.bool b)∧Ext w w'
 have HS:Hid ((kind==AB&&(text.toList==AC.toList&&(num==AE&&AD==AA)))=b):=hb;clear hb;have AI:Hid (Ext w ((w.alloc (.cells #[.int .u8 kind,.int .i64 pos,.string text,.int .i64 num,.slice kA AD.length kc] 48)).alloc (.cells #[.int .u8 AB,.int .i64 AF,.string AC,.int .i64 AE,.slice AH AA.length AG] 48))):=yD ((Ext.alloc _ _).trans (Ext.alloc _ _));have AK:Hid (Blk ((w.alloc (.cells #[.int .u8 kind,.int .i64 pos,.string text,.int .i64 num,.slice kA AD.length kc] 48)).alloc (.cells #[.int .u8 AB,.int .i64 AF,.string AC,.int .i64 AE,.slice AH AA.length AG] 48)) w.heap.size 48 #[.int .u8 kind,.int .i64 pos,.string text,.int .i64 num,.slice kA AD.length kc]):=yD ((Blk.new _ _ _).alloc _);have AJ:Hid (Blk ((w.alloc (.cells #[.int .u8 kind,.int .i64 pos,.string text,.int .i64 num,.slice kA AD.length kc] 48)).alloc (.cells #[.int .u8 AB,.int .i64 AF,.string AC,.int .i64 AE,.slice AH AA.length AG] 48)) (w.heap.size+1) 48 #[.int .u8 AB,.int .i64 AF,.string AC,.int .i64 AE,.slice AH AA.length AG]):=yD (Blk.newAt (by simp));have x0:=AK.out.cell 0;have x2:=AK.out.cell 2;have x3:=AK.out.cell 3;have x4:=AK.out.cell 4;have y0:=AJ.out.cell 0;have y2:=AJ.out.cell 2;have y3:=AJ.out.cell 3;have y4:=AJ.out.cell 4;obtain⟨t1,h1⟩:∃t,(kind==AB)=t:=⟨_,rfl⟩;obtain⟨t2,h2⟩:∃t,(text.toList==AC.toList)=t:=⟨_,rfl⟩;obtain⟨t3,h3⟩:∃t,(num==AE)=t:=⟨_,rfl⟩
 obtain⟨t4,AL⟩:∃t,Hid ((AD==AA)=t):=⟨_,yD rfl⟩;rw[h1,h2,h3,AL.out] at HS
 cases t1 with
 | false=>
  go_enter Tryz.func49,Tryz.ntmps49
  go_wp2_with fail
  go_ret;exact⟨vR (by rw[←HS.out]; rfl),AI.out⟩
 | true=>
  cases t2 with
  | false=>
   go_enter Tryz.func49,Tryz.ntmps49
   go_wp2_with fail
   go_ret;exact⟨vR (by rw[←HS.out]; rfl),AI.out⟩
  | true=>
   cases t3 with
   | false=>
    go_enter Tryz.func49,Tryz.ntmps49
    go_wp2_with fail
    go_ret;exact⟨vR (by rw[←HS.out]; rfl),AI.out⟩
   | true=>
    have HB:Hid (t4=b):=yD (by rw[←HS.out]; rfl)
    go_enter Tryz.func49,Tryz.ntmps49
    go_wp2_with fail
    refine(zGK kA AH AD AA _ kc _ AG _ rfl rfl (AM.out.ext AI.out) (AN.out.ext AI.out) hxl hyl t4 AL).mono ?_;rintro e w2 ⟨rfl,AO⟩;have AP:Hid (Ext w w2):=yD (AI.out.trans AO);clear AO x0 x2 x3 x4 y0 y2 y3 y4
    go_wp2_with fail
    go_ret;exact⟨vR HB.out,AP.out⟩
theorem zKg (l m:List xC)(A B:Option Addr)(n c n2 c2:Nat)(w:World)(hn:n=l.length)(hn2:n2=m.length)(hl:zE8 w A l)(hm:zE8 w B m)(hlen:l.length≤9000)(hlen2:m.length≤9000)(hk:∀x ∈ l,x.kids.length≤9000)(hk2:∀x ∈ m,x.kids.length≤9000)(b:Bool)(hb:Hid (zC5 l m=b)) :
  Calls Tryz.prog 48 #[.slice A n c,.slice B n2 c2,.func (.func 49) #[] #[]] w fun e w'=>e=.returned (.bool b)∧Ext w w':=by
 subst hn hn2;have HL:=yD hl;have HM:=yD hm;have HK:=yD hk;have Ag:=yD hk2;clear hl hm hk hk2
 by_cases AR:l.length=m.length
 ·have e0:((l.length:Int)==(m.length:Int))=true:=by rw[AR]; simp
  have e1:((l.length:Int) != (m.length:Int))=false:=by rw[AR]; simp
  have Ad:=yD AR;clear AR
  go_enter Tryz.func48,Tryz.ntmps48
  go_wp2_with fail
  go_loopw [17] (fun i wr=>∃k:Nat,k≤l.length∧i=.int .i64 k∧Hid (Ext w wr)∧Hid (∀j (h1:j<l.length) (h2:j<m.length),j<k→XI l[j] m[j]=true)) (fun i _=>l.length-(intOf i).toNat)
  case atStart=>exact⟨0,zT _,rfl,yD (Ext.refl _),yD fun j h1 h2 hj=>by omega⟩
  case round=>
   obtain⟨k,Aq,rfl,HX,HR⟩:=hrel;obtain⟨wa,rfl⟩:∃wa:World,wa=wr:=⟨_,rfl⟩
   by_cases AT:k<l.length
   ·have d0:decide ((k:Int)<(l.length:Int))=true:=yP (by omega)
    have AK:k<m.length:=by have:=Ad.out; omega
    have q1:(k:Int)<(l.length:Int):=by omega
    have q2:(k:Int)<(m.length:Int):=by omega
    have Ac:=yD (HL.out.ext HX.out);have AY:=yD (HM.out.ext HX.out);obtain⟨b1,AJ,rfl,Ap,AO⟩:=Ac.out.at_ k AT;obtain⟨b2,AD,rfl,Am,AX⟩:=AY.out.at_ k AK;have Aj:Hid (zTz wa l[k]):=yD (Ac.out.ok _ (yL AT));have Ak:Hid (zTz wa m[k]):=yD (AY.out.ok _ (yL AK));have Ab:l[k].kids.length≤9000:=HK.out _ (yL AT);have AZ:m[k].kids.length≤9000:=Ag.out _ (yL AK);have An:=yD Ab;have Al:=yD AZ;clear Ab AZ;obtain⟨t,ht⟩:∃t,XI l[k] m[k]=t:=⟨_,rfl⟩
    have AV:Hid (t=true→∀j (h1:j<l.length) (h2:j<m.length),j<k+1→XI l[j] m[j]=true):=yD (by
     intro h j h1 h2 h3
     by_cases hj:j=k
     ·subst hj; rw[ht]; exact h
     ·exact HR.out j h1 h2 (by omega))
    have Ao:Hid (t=false→b=false):=yD (by
     intro h;rw[←hb.out]
     exact zNK k AT AK (by rw[ht]; exact h))
    have Ai:=yD ht;clear ht;generalize l[k]=x at *;generalize m[k]=y at *;obtain⟨kind,pos,text,num,kA,kc,AG⟩:=x;obtain⟨AA,AE,AB,AF,AM,AL,AC⟩:=y;have x0:wa.cell? ⟨b1,AJ+k*5,none⟩=some (.int .u8 kind):=AO 0 (by omega);have x1:wa.cell? ⟨b1,AJ+k*5+1,none⟩=some (.int .i64 pos):=AO 1 (by omega);have x2:wa.cell? ⟨b1,AJ+k*5+2,none⟩=some (.string text):=AO 2 (by omega);have x3:wa.cell? ⟨b1,AJ+k*5+3,none⟩=some (.int .i64 num):=AO 3 (by omega);have x4:wa.cell? ⟨b1,AJ+k*5+4,none⟩=some (.slice kA AG.length kc):=AO 4 (by omega);have AQ:Hid (∀j,j<5→wa.cell? ⟨b2,AD+k*5+j,none⟩=([Value.int .u8 AA,.int .i64 AE,.string AB,.int .i64 AF,.slice AM AC.length AL])[j]?):=yD AX;have AI:=yD Am;clear AO AX
    go_upto_region 6 with fail
    have AN:Hid (Ext wa (wa.alloc (.cells #[.int .u8 kind,.int .i64 pos,.string text,.int .i64 num,.slice kA AG.length kc] 48))):=yD (Ext.alloc _ _);have Ae:Hid (Blk (wa.alloc (.cells #[.int .u8 kind,.int .i64 pos,.string text,.int .i64 num,.slice kA AG.length kc] 48)) wa.heap.size 48 #[.int .u8 kind,.int .i64 pos,.string text,.int .i64 num,.slice kA AG.length kc]):=yD (Blk.new _ _ _);clear x0 x1 x2 x3 x4;generalize wa.alloc (.cells #[.int .u8 kind,.int .i64 pos,.string text,.int .i64 num,.slice kA AG.length kc] 48)=wb at *;obtain⟨gx,Aa⟩:∃gx,gx=wa.heap.size:=⟨_,rfl⟩;rw[←Aa] at Ae ⊢;clear Aa;have y0:wb.cell? ⟨b2,AD+k*5,none⟩=some (.int .u8 AA):=(AN.out.cell (p:=⟨b2,AD+k*5,none⟩) AI.out).trans (AQ.out 0 (by omega));have y1:wb.cell? ⟨b2,AD+k*5+1,none⟩=some (.int .i64 AE):=(AN.out.cell (p:=⟨b2,AD+k*5+1,none⟩) AI.out).trans (AQ.out 1 (by omega));have y2:wb.cell? ⟨b2,AD+k*5+2,none⟩=some (.string AB):=(AN.out.cell (p:=⟨b2,AD+k*5+2,none⟩) AI.out).trans (AQ.out 2 (by omega));have y3:wb.cell? ⟨b2,AD+k*5+3,none⟩=some (.int .i64 AF):=(AN.out.cell (p:=⟨b2,AD+k*5+3,none⟩) AI.out).trans (AQ.out 3 (by omega));have y4:wb.cell? ⟨b2,AD+k*5+4,none⟩=some (.slice AM AC.length AL):=(AN.out.cell (p:=⟨b2,AD+k*5+4,none⟩) AI.out).trans (AQ.out 4 (by omega))
    go_upto_region 7 with fail
    have AU:Hid (Ext wb (wb.alloc (.cells #[.int .u8 AA,.int .i64 AE,.string AB,.int .i64 AF,.slice AM AC.length AL] 48))):=yD (Ext.alloc _ _);have AS:Hid (Blk (wb.alloc (.cells #[.int .u8 AA,.int .i64 AE,.string AB,.int .i64 AF,.slice AM AC.length AL] 48)) wb.heap.size 48 #[.int .u8 AA,.int .i64 AE,.string AB,.int .i64 AF,.slice AM AC.length AL]):=yD (Blk.new _ _ _);clear y0 y1 y2 y3 y4;have AH:=yD (Ae.out.ext AU.out);have Ah:Hid (Ext w (wb.alloc (.cells #[.int .u8 AA,.int .i64 AE,.string AB,.int .i64 AF,.slice AM AC.length AL] 48))):=yD ((HX.out.trans AN.out).trans AU.out);have AP:=yD (AN.out.trans AU.out);generalize wb.alloc (.cells #[.int .u8 AA,.int .i64 AE,.string AB,.int .i64 AF,.slice AM AC.length AL] 48)=wc at *;generalize wb.heap.size=gy at *;have x0:=AH.out.cell 0;have x1:=AH.out.cell 1;have x2:=AH.out.cell 2;have x3:=AH.out.cell 3;have x4:=AH.out.cell 4;have y0:=AS.out.cell 0;have y1:=AS.out.cell 1;have y2:=AS.out.cell 2;have y3:=AS.out.cell 3;have y4:=AS.out.cell 4
    go_wp2_with fail
    refine(zRs ⟨kind,pos,text,num,kA,kc,AG⟩ ⟨AA,AE,AB,AF,AM,AL,AC⟩ wc (Aj.out.kids.ext AP.out) (Ak.out.kids.ext AP.out) An.out Al.out t Ai).mono ?_;rintro e w2 ⟨rfl,Af⟩;have AW:Hid (Ext w w2):=yD (Ah.out.trans Af);clear Af x0 x1 x2 x3 x4 y0 y1 y2 y3 y4
    cases t with
    | true=>
     go_wp2_with fail
     go_roundw
     case rel=>exact⟨k+1,by omega,by go_num,AW,yD (AV.out (by simp))⟩
     case measure=>simp[intOf]; omega
    | false=>
     go_wp2_with fail
     go_ret;exact⟨vR (Ao.out (by simp)).symm,AW.out⟩
   ·obtain rfl:k=l.length:=by omega
    have d0:decide ((l.length:Int)<(l.length:Int))=false:=by simp
    have HB:Hid (b=true):=yD (by
     rw[←hb.out]
     exact zKL Ad.out (fun j h1 h2=>HR.out j h1 h2 h1))
    go_wp2_with fail
    go_ret;exact⟨vR HB.out.symm,HX.out⟩
 ·have e0:((l.length:Int)==(m.length:Int))=false:=by rw[yF]; omega
  have e1:((l.length:Int) != (m.length:Int))=true:=by rw[bne,e0]; rfl
  have HB:Hid (b=false):=yD (by rw[←hb.out]; exact zLk AR)
  go_enter Tryz.func48,Tryz.ntmps48
  go_wp2_with fail
  go_ret;exact⟨vR HB.out.symm,Ext.refl _⟩
theorem zTt (l m:List xC)(A B:Option Addr)(n c n2 c2:Nat)(w:World)(hn:n=l.length)(hn2:n2=m.length)(hl:zE8 w A l)(hm:zE8 w B m)(hlen:l.length≤9000)(hlen2:m.length≤9000)(hk:∀x ∈ l,x.kids.length≤9000)(hk2:∀x ∈ m,x.kids.length≤9000)(b:Bool)(hb:Hid (zC5 l m=b)) :
  Calls Tryz.prog 18 #[.agg #[.slice A n c],.agg #[.slice B n2 c2]] w fun e w'=>e=.returned (.bool b)∧Ext w w':=by
 subst hn hn2;have HL:=yD hl;have HM:=yD hm;have HK:=yD hk;have AD:=yD hk2;clear hl hm hk hk2;have AA:Hid (Ext w ((w.alloc (.cells #[.slice A l.length c] 39)).alloc (.cells #[.slice B m.length c2] 39))):=yD ((Ext.alloc _ _).trans (Ext.alloc _ _));have x0:((w.alloc (.cells #[.slice A l.length c] 39)).alloc (.cells #[.slice B m.length c2] 39)).cell? ⟨w.heap.size,0,none⟩=some (.slice A l.length c):=((Blk.new _ _ _).alloc _).cell 0;have y0:((w.alloc (.cells #[.slice A l.length c] 39)).alloc (.cells #[.slice B m.length c2] 39)).cell? ⟨w.heap.size+1,0,none⟩=some (.slice B m.length c2):=(Blk.newAt (n:=w.heap.size+1) (by simp)).cell 0
 go_enter Tryz.func18,Tryz.ntmps18
 go_wp2_with fail
 refine(zKg l m A B l.length c m.length c2 _ rfl rfl (HL.out.ext AA.out) (HM.out.ext AA.out) hlen hlen2 HK.out AD.out b hb).mono ?_;rintro e w2 ⟨rfl,AB⟩;have AC:Hid (Ext w w2):=yD (AA.out.trans AB);clear AB x0 y0
 go_wp2_with fail
 go_ret;exact⟨rfl,AC.out⟩
end Go.Proofs.YtioffpjajhalaaaGreatDoor.TT
namespace Go.Proofs.YtioffpjajhalaaaGreatDoor
open Go Go.RowKit
theorem zMO (W:World)(cs:Array Value)(n:Nat)(hn:cs.size=n):(convert 22 22 (.slice (some ⟨W.heap.size,0,none⟩) n n)).run Tryz.prog (W.alloc (.cells cs 5))=.ok (.slice (some ⟨W.heap.size,0,none⟩) n n) ((W.alloc (.cells cs 5)).freeze ⟨W.heap.size,n,none⟩ 1):=by
 subst hn;exact zDo _ _ _ Tryz.underlying22 Tryz.underlying5 _ _ _ (zO _ _)
theorem zQo (W:World)(cs:Array Value)(n:Nat):Ext W ((W.alloc (.cells cs 5)).freeze ⟨W.heap.size,n,none⟩ 1):=
 ⟨rfl,rfl,rfl,by simp[World.freeze],fun k hk=>(zEp _ _ _ _ (by omega)).trans ((Ext.alloc W _).block k hk)⟩
theorem zK1 (W:World)(cs:Array Value)(n:Nat)(l:Bs)(hl:cs.toList=xO l):Cells ((W.alloc (.cells cs 5)).freeze ⟨W.heap.size,n,none⟩ 1) (some ⟨W.heap.size,0,none⟩) (xO l):=by
 obtain⟨fr,AA⟩:=zA3 (W.alloc (.cells cs 5)) W.heap.size n (zO _ _);refine .inr ⟨W.heap.size,0,rfl,(Array.getElem?_eq_some_iff.1 AA).1,fun k hk=>?_⟩;rw[Nat.zero_add,cell_of_row _ _ k _ _ fr AA,←hl]
 simp
theorem zM8 (A:Option Addr)(l:Bs)(n c:Nat)(w:World)(hn:n=l.length)(hbig:l.length≤140737488355328)(hcap:l.length≤c)(hnil:A=none→c=0)(h:Cells w A (xO l))(nd:List Nd)(hr:VU l=.ok nd) :
  Calls Tryz.prog 16 #[.slice A n c] w fun e w'=>∃A' c' nh,e=.returned (.tuple #[.agg #[.slice A' nh.length c'],.nilIface])∧nd=nh.map Prod.fst∧NS w' w.heap.size 48 3 A' c' nh∧Ext w w':=by
 refine(zLj A l n c w hn hbig hcap hnil h).mono ?_;rintro e w' ⟨hx,h⟩;rw[hr] at h;obtain⟨A',c',nh,h1,h2,h3⟩:=h;exact⟨A',c',nh,h1,h2,h3,hx⟩
theorem zTq {w:World}{B:Nat}{t:TypeId}{s n m c:Nat}{A:Option Addr}{xs:List Value}(h:w.ownsRow B t s (.slice A m c) n xs):A=none→c=0:=fun e=>by
 subst e
 rcases h.2 with ⟨hv,_⟩ | ⟨g,_,_,hv,_⟩
 ·injection hv
 ·injection hv with h1; cases h1
def toT (x:Nd × Hd2):TT.xC:=⟨x.1.kind,x.1.pos,yX x.1.text,x.1.num,x.2.1,x.2.2,x.1.kids.map fun (k:Nat)=>(k:Int)⟩
theorem zRk (x:Nd × Hd2):(toT x).cells=YU x:=by simp[toT,TT.xC.cells,YU]
theorem zUl (l:List Nat):ints l=TT.xL (l.map fun (k:Nat)=>(k:Int)):=by simp[ints,TT.xL]
theorem NS.toT {w:World}{B:Nat}{A:Option Addr}{c:Nat}{nh:List (Nd × Hd2)}(h:NS w B 48 3 A c nh)(hk:∀x ∈ nh,x.1.kind<256 ∧ -9223372036854775808≤x.1.num∧x.1.num≤9223372036854775807):TT.XU w A (nh.map Proofs.YtioffpjajhalaaaGreatDoor.toT):=by
 refine⟨?_,fun x hx=>?_⟩
 ·have e:TT.zEP (nh.map Proofs.YtioffpjajhalaaaGreatDoor.toT)=ncs nh:=by
   unfold TT.zEP ncs;rw[List.flatMap_map]
   congr 1
   funext x
   exact zRk x
  rw[e];exact Cells.own h.row
 ·obtain⟨y,hy,rfl⟩:=List.mem_map.1 hx;obtain⟨h1,h2,h3⟩:=hk y hy;refine⟨⟨Int.natCast_nonneg _,by show((y.1.kind:Nat):Int)<256; omega⟩,⟨h2,h3⟩,?_,zTq (h.kids y hy)⟩
  have:=Cells.own (h.kids y hy)
  rw[zUl] at this;exact this
theorem zRq (nh:List (Nd × Hd2)):TT.jT (nh.map toT)=TT.jT ((nh.map Prod.fst).map zAy):=by
 have AB:TT.ZO (nh.map toT)=TT.ZO ((nh.map Prod.fst).map zAy):=by simp[TT.ZO,zAy,toT,Function.comp_def]
 have AA:TT.JI (nh.map toT)=TT.JI ((nh.map Prod.fst).map zAy):=by
  funext k
  unfold TT.JI;rw[zM,zM,zM]
  cases nh[k.toNat]? <;> rfl
 have AC:∀x:Nd × Hd2,TT.zBa (nh.map toT) (toT x)=TT.zBa ((nh.map Prod.fst).map zAy) (zAy x.1):=fun x=>by
  unfold TT.zBa TT.jY;rw[AA]
  rfl
 unfold TT.jT;rw[AB,AA,List.all_map,List.all_map,List.all_map]
 congr 2
 congr 1
 funext x
 exact AC x
def Fo.sm:Fo→Prop
 | .nil=>True
 | .cons k p t x c r=>t.length≤9000∧c.sm∧r.sm
theorem zT9:∀f:Fo,f.z.sm↔f.sm
 | .nil=>Iff.rfl
 | .cons k p t x c r=>by
  show(t.length≤9000∧c.z.sm∧r.z.sm)↔(t.length≤9000∧c.sm∧r.sm)
  rw[zT9 c,zT9 r]
theorem zM4:∀f:Fo,f.sm→f.wt≤9030*f.size
 | .nil,_=>zT _
 | .cons k p t x c r,h=>by
  have h1:=zM4 c h.2.1;have h2:=zM4 r h.2.2;have h0:=h.1
  show t.length+30+c.wt+r.wt≤9030*(1+c.size+r.size)
  omega
theorem zL7:∀(f:Fo) (a:Nat),(∀n ∈ f.flat a,n.text.length≤9000)→f.sm
 | .nil,a,h=>trivial
 | .cons k p t x c r,a,h=>by
  have h:∀n ∈ (⟨k,p,t,x,c.roots (a+1)⟩:Nd)::(c.flat (a+1)++r.flat (a+1+c.size)),n.text.length≤9000:=h;exact⟨h _ (List.mem_cons_self ..),zL7 c _ fun n hn=>h n (List.mem_cons_of_mem _ (List.mem_append_left _ hn)),zL7 r _ fun n hn=>h n (List.mem_cons_of_mem _ (List.mem_append_right _ hn))⟩
theorem zLB {M:Nat}:∀(f:Fo) (a:Nat),f.ok M→f.sm→∀n ∈ f.flat a,n.kind≤26∧0≤n.num∧n.num≤2147483647∧n.text.length≤9000∧n.kids.length≤f.size
 | .nil,a,h,_=>fun n hn=>by cases hn
 | .cons k p t x c r,a,h,hs=>fun n hn=>by
  have hn:n ∈ (⟨k,p,t,x,c.roots (a+1)⟩:Nd)::(c.flat (a+1)++r.flat (a+1+c.size)):=hn;have e:(Fo.cons k p t x c r).size=1+c.size+r.size:=rfl;rw[e]
  rcases List.mem_cons.1 hn with rfl | hn
  ·obtain⟨_,h2,h3,_⟩:=h.1.1;obtain⟨_,_,h4,h5⟩:=vD h3;refine⟨h2,h4,?_,hs.1,?_⟩
   ·show x≤2147483647
    unfold TT.XP at h5
    split at h5
    ·omega
    ·split at h5 <;> omega
   ·show(c.roots (a+1)).length≤_
    have:=zCw c (a+1)
    omega
  ·rcases List.mem_append.1 hn with hn | hn
   ·obtain⟨h1,h2,h3,h4,h5⟩:=zLB c _ h.2.1 hs.2.1 n hn;exact⟨h1,h2,h3,h4,by omega⟩
   ·obtain⟨h1,h2,h3,h4,h5⟩:=zLB r _ h.2.2 hs.2.2 n hn;exact⟨h1,h2,h3,h4,by omega⟩
structure zBe (w:World)(A:Option Addr)(L:List TT.xC)(f:Fo):Prop where
 tree:TT.XU w A L
 len:L.length=1+f.size
 few:L.length≤9000
 sm:∀x ∈ L,TT.zEt x
 right:TT.jT L=true
 lay:VP L 0 (Fo.one 1 0 [] 0 f.z)
 ok:(Fo.one 1 0 [] 0 f.z).ok 0
 wt:f.wt≤1099511627776
theorem zBe.ext {w w':World}{A:Option Addr}{L:List TT.xC}{f:Fo}(h:zBe w A L f)(hx:Ext w w'):zBe w' A L f:=⟨h.tree.ext hx,h.len,h.few,h.sm,h.right,h.lay,h.ok,h.wt⟩
theorem zBe.to {w:World}{A:Option Addr}{L:List TT.xC}{f g:Fo}(h:zBe w A L g)(e:g.z=f.z):zBe w A L f:=⟨h.tree,by rw[h.len,←zBt g,←zBt f,e],h.few,h.sm,h.right,by rw[←e]; exact h.lay,by rw[←e]; exact h.ok,by rw[←zTn f,←e,zTn]; exact h.wt⟩
theorem zMa {w:World}{B:Nat}{A:Option Addr}{c:Nat}{nh:List (Nd × Hd2)}{y:List Nd}{f:Fo}{M p:Nat}(h:NS w B 48 3 A c nh)(hn:y=nh.map Prod.fst)(hy:y=⟨1,p,[],0,f.roots 1⟩::f.flat 1)(hr:TT.jT (y.map zAy)=true)(ho:f.ok M)(hk:xU 1 [] 0 f.kinds)(hs:f.size≤8000)(hB:f.sm):zBe w A (nh.map Proofs.YtioffpjajhalaaaGreatDoor.toT) f:=by
 have AC:(Fo.one 1 p [] 0 f).flat 0=y:=by
  rw[hy]
  show _::(f.flat 1++[])=_
  rw[List.append_nil]
 have AA:∀n ∈ y,n.kind≤26∧0≤n.num∧n.num≤2147483647∧n.text.length≤9000∧n.kids.length≤f.size:=fun n hn=>by
  rw[hy] at hn
  rcases List.mem_cons.1 hn with rfl | hn
  ·exact⟨by show 1≤26; decide,by show(0:Int)≤0; decide,by show(0:Int)≤2147483647; decide,zT _,zCw f 1⟩
  ·exact zLB f 1 ho hB n hn
 have hx:∀x ∈ nh,x.1 ∈ y:=fun x hx=>by rw[hn]; exact List.mem_map.2 ⟨x,hx,rfl⟩
 have AB:(nh.map Proofs.YtioffpjajhalaaaGreatDoor.toT).length=1+f.size:=by
  have:nh.length=y.length:=by rw[hn,yN]
  rw[yN,this,hy,zJ,vK];omega
 refine⟨h.toT fun x AD=>?_,AB,by omega,fun x AD=>?_,by rw[zRq,←hn]; exact hr,?_,⟨⟨by rw[zEQ]; exact hk,zU _⟩,zUH f ho,trivial⟩,?_⟩
 ·obtain⟨h1,h2,h3,_⟩:=AA _ (hx x AD);omega
 ·obtain⟨u,hu,rfl⟩:=List.mem_map.1 AD;obtain⟨h1,h2,h3,h4,h5⟩:=AA _ (hx u hu);refine⟨?_,?_⟩
  ·show(yX u.1.text).size≤9000
   have:(yX u.1.text).size=u.1.text.length:=by simp[yX,ByteArray.size]
   omega
  ·show(u.1.kids.map fun (k:Nat)=>(k:Int)).length≤9000
   rw[yN];omega
 ·have hl:VP (nh.map Proofs.YtioffpjajhalaaaGreatDoor.toT) 0 (Fo.one 1 p [] 0 f):=zO9 _ 0 fun j n hj=>by
   rw[AC,hn,zM] at hj
   cases hq:nh[j]? with
   | none=>rw[hq] at hj; cases hj
   | some u=>
    rw[hq] at hj;injection hj with hj;subst hj;refine⟨Proofs.YtioffpjajhalaaaGreatDoor.toT u,by rw[Nat.zero_add,zM,hq]; rfl,rfl,rfl,by simp[Proofs.YtioffpjajhalaaaGreatDoor.toT,yX],rfl⟩
  exact zI8 _ _ hl
 ·have:=zM4 f hB
  omega
theorem zBp (w:World)(A:Option Addr)(n c:Nat)(L:List TT.xC)(f:Fo)(hn:n=L.length)(h:zBe w A L f)(hpw:PW w)(hl:f.print.length≤65536) :
  Calls Tryz.prog 17 #[.agg #[.slice A n c]] w fun e w'=>∃b k,e=.returned (.tuple #[.slice (some ⟨b,0,none⟩) f.print.length k,.nilIface])∧f.print.length≤k∧Cells w' (some ⟨b,0,none⟩) (xO f.print)∧Ext w w':=by
 have hz:=zUm f;refine(zRz w A n c L hn h.tree h.few h.sm h.right hpw [] 0 f.z h.lay h.ok (by rw[zTn]; exact h.wt) (by rw[zBt]; have:=h.len; have:=h.few; omega) (by rw[hz]; omega)).mono ?_;rintro e w' ⟨_,h2,h3⟩;rw[hz] at h2;obtain⟨b,k,e1,e2,e3⟩:=h2 hl;exact⟨b,k,e1,e2,e3,h3⟩
def zUQ (f:Fo):Prop:=(∃M,f.ok M)∧xU 1 [] 0 f.kinds∧vV f.xP≤64∧f.print.length≤65536∧f.size≤8000∧f.sm
theorem zJQ {f:Fo}(h:xU 1 [] 0 f.kinds):∀j,j<f.kinds.length→f.kinds.getD j 0=2∨f.kinds.getD j 0=3:=fun j hj=>zKN h j hj
theorem zHe (A:Option Addr)(B:Bs)(f:Fo)(hy:∃(g:Fo) (p:Nat),g.z=f.z∧VU B=.ok (⟨1,p,[],0,g.roots 1⟩::g.flat 1))(hl:B.length≤65536)(hk:xU 1 [] 0 f.kinds)(hs:f.size≤8000)(hB:f.sm)(n c:Nat)(w:World)(hn:n=B.length)(hcap:B.length≤c)(hnil:A=none→c=0)(hA:Cells w A (xO B)) :
  Calls Tryz.prog 16 #[.slice A n c] w fun e w'=>∃A' c' L',e=.returned (.tuple #[.agg #[.slice A' L'.length c'],.nilIface])∧zBe w' A' L' f∧Ext w w':=by
 obtain⟨g,p,e,hp⟩:=hy;obtain⟨g2,p2,e2,_,ho,_⟩:=zGX hp hl;injection e2 with e3 e4;injection e3 with _ _ _ _ e5;have eg:=zD8 _ _ _ e4 e5;subst eg;refine(zM8 A B n c w hn (by omega) hcap hnil hA _ hp).mono ?_;rintro e' w' ⟨A',c',nh,rfl,AB,AA,hx⟩;have ht:=zMa AA AB rfl (zDU hp hl).1 ho (by rw[←zEQ g,e,zEQ]; exact hk) (by rw[←zBt g,e,zBt]; exact hs) (by rw[←zT9 g,e,zT9]; exact hB);exact⟨A',c',nh.map Proofs.YtioffpjajhalaaaGreatDoor.toT,by rw[yN],ht.to e,hx⟩
theorem zHn (A:Option Addr)(f:Fo)(h:zUQ f)(n c:Nat)(w:World)(hn:n=f.print.length)(hcap:f.print.length≤c)(hnil:A=none→c=0)(hA:Cells w A (xO f.print)) :
  Calls Tryz.prog 16 #[.slice A n c] w fun e w'=>∃A' c' L',e=.returned (.tuple #[.agg #[.slice A' L'.length c'],.nilIface])∧zBe w' A' L' f∧Ext w w':=by
 obtain⟨⟨M,h1⟩,h2,h3,h4,h5,h6⟩:=h;exact zHe A f.print f (zNI f h1 (zJQ h2) h3 h4) h4 h2 h5 h6 n c w hn hcap hnil hA
theorem zPp.zRX {l:Bs}{y:List Nd}{f:Fo}(hp:VU l=.ok y)(hl:l.length≤1000)(h:zPp l.length y f):zUQ f:=by
 obtain⟨p,e,h1,h2,h3,_,h4,h5⟩:=h;obtain⟨s1,s2⟩:=zML hp (by omega);have hc:=zFl f h2 (zJQ h3) h4;refine⟨⟨_,h2⟩,h3,h4,by omega,?_,zL7 f 1 fun n hn=>?_⟩
 ·rw[e,zJ,vK] at s1;omega
 ·have:=(s2 n (by rw[e]; exact List.mem_cons_of_mem _ hn)).2.2.2.1
  omega
theorem zOj (A:Option Addr)(l:Bs)(n c:Nat)(w:World)(hn:n=l.length)(hl:l.length≤1000)(hcap:l.length≤c)(hnil:A=none→c=0)(h:Cells w A (xO l)) :
  Calls Tryz.prog 16 #[.slice A n c] w fun e w'=>Ext w w'∧((∃g,e=.returned (.tuple #[.agg #[.slice none 0 0],.iface 107 (.pointer (some ⟨g,0,none⟩))]))∨∃A' c' L f,e=.returned (.tuple #[.agg #[.slice A' L.length c'],.nilIface])∧zBe w' A' L f∧zUQ f):=by
 refine(zLj A l n c w hn (by omega) hcap hnil h).mono ?_;rintro e w' ⟨hx,h⟩;refine⟨hx,?_⟩
 cases hr:VU l with
 | err a er=>
  rw[hr] at h;obtain⟨g,rfl,_⟩:=h;exact .inl ⟨g,rfl⟩
 | ok y=>
  rw[hr] at h;obtain⟨A',c',nh,rfl,AB,AA⟩:=h;obtain⟨f,hf⟩:=zGX hr (by omega);have hg:=hf.zRX hr hl;obtain⟨p,hy,_,ho,hk,_⟩:=hf;exact .inr ⟨A',c',nh.map Proofs.YtioffpjajhalaaaGreatDoor.toT,f,by rw[yN],zMa AA AB hy (zDU hr (by omega)).1 ho hk hg.2.2.2.2.1 hg.2.2.2.2.2,hg⟩
theorem zNr:∀(L L':List TT.xC),L.length=L'.length→(∀j,j<L.length→∃m m',L[j]?=some m∧L'[j]?=some m'∧m.kind=m'.kind∧m.num=m'.num∧m.text=m'.text∧m.kids=m'.kids)→TT.zC5 L L'=true
 | [],[],_,_=>rfl
 | [],_::_,h,_=>by cases h
 | _::_,[],h,_=>by cases h
 | x::l,y::m,h,hh=>by
  obtain⟨a,b,h1,h2,h3,h4,h5,h6⟩:=hh 0 (Nat.zero_lt_succ _);injection h1 with h1;injection h2 with h2;subst h1 h2
  have:=zNr l m (Nat.succ.inj h) fun j hj=>hh (j+1) (Nat.succ_lt_succ hj)
  show(TT.XI x y&&TT.zC5 l m)=true
  rw[this];unfold TT.XI;rw[h3,h4,h5,h6]
  simp
theorem zBe.same {w w':World}{A A':Option Addr}{L L':List TT.xC}{f:Fo}(h:zBe w A L f)(h':zBe w' A' L' f):TT.zC5 L L'=true:=zNr _ _ (by rw[h.len,h'.len]) fun j hj=>by
 have hs:(Fo.one 1 0 [] 0 f.z).size=1+f.size:=by
  show 1+f.z.size+0=_
  rw[zBt]
  rfl
 have:=zSb h.lay h'.lay rfl j (by rw[hs,←h.len]; exact hj)
 rw[Nat.zero_add] at this;exact this
theorem zKn (A B:Option Addr)(L L':List TT.xC)(f:Fo)(n c n2 c2:Nat)(w:World)(hn:n=L.length)(hn2:n2=L'.length)(hA:zBe w A L f)(hB:zBe w B L' f) :
  Calls Tryz.prog 18 #[.agg #[.slice A n c],.agg #[.slice B n2 c2]] w fun e w'=>e=.returned (.bool true)∧Ext w w':=
 TT.zTt L L' A B n c n2 c2 w hn hn2 hA.tree.c hB.tree.c hA.few hB.few (fun x hx=>(hA.sm x hx).2) (fun x hx=>(hB.sm x hx).2) true (yD (hA.same hB))
def zP9:Bs:=[112,114,111,99,32,112,40,41,123,101,109,105,116,40,40,49,41,45,40,50,45,51,41,41,42,45,40,97,43,98,41,59,125]
def zP7:Bs:=[116,97,98,108,101,32,116,40,99,44,100,41,59]
def zVi:Bs:=[112,114,111,99,32,112,40,41,32,123,10,9,101,109,105,116,32,40,49,32,45,32,40,50,32,45,32,51,41,41,32,42,32,45,40,97,32,43,32,98,41,59,10,125,10]
def zVo:Bs:=[116,97,98,108,101,32,116,40,99,44,32,100,41,59,10]
def f61:Fo:=.cons 3 0 [112] 0 (.cons 4 7 [] 0 .nil (.cons 6 8 [] 0 (.cons 17 9 [] 0 (.cons 25 15 [] 0 (.cons 24 15 [] 0 (.cons 21 15 [] 1 .nil (.cons 24 19 [] 0 (.cons 21 19 [] 2 .nil (.cons 21 21 [] 3 .nil .nil)) .nil)) (.cons 26 25 [] 0 (.cons 23 27 [] 0 (.cons 22 27 [97] 0 .nil (.cons 22 29 [98] 0 .nil .nil)) .nil) .nil)) .nil) .nil) .nil)) .nil
def f62:Fo:=.cons 2 0 [116] 0 (.cons 5 8 [99] 0 .nil (.cons 5 10 [100] 0 .nil .nil)) .nil
theorem zUq:VU zP9=.ok (⟨1,0,[],0,f61.roots 1⟩::f61.flat 1):=by decide +kernel
theorem zUd:VU zP7=.ok (⟨1,0,[],0,f62.roots 1⟩::f62.flat 1):=by decide +kernel
theorem zP3:f61.print=zVi:=by decide +kernel
theorem zPK:f62.print=zVo:=by decide +kernel
theorem zHw (A:Option Addr)(l:Bs)(f:Fo)(p n c:Nat)(w:World)(hn:n=l.length)(hl:l.length≤1000)(hcap:l.length≤c)(hnil:A=none→c=0)(h:Cells w A (xO l))(hp:VU l=.ok (⟨1,p,[],0,f.roots 1⟩::f.flat 1)) :
  Calls Tryz.prog 16 #[.slice A n c] w fun e w'=>∃A' c' L,e=.returned (.tuple #[.agg #[.slice A' L.length c'],.nilIface])∧zBe w' A' L f∧Ext w w':=by
 refine(zM8 A l n c w hn (by omega) hcap hnil h _ hp).mono ?_;rintro e w' ⟨A',c',nh,rfl,AC,AB,hx⟩;obtain⟨g,hg⟩:=zGX hp (by omega);have AA:=hg.zRX hp hl;obtain⟨q,hy,_,ho,hk,_⟩:=hg;have AD:=hy;injection AD with e3 e4;injection e3 with _ _ _ _ e5;have eg:=zD8 _ _ _ e4 e5;subst eg;exact⟨A',c',nh.map Proofs.YtioffpjajhalaaaGreatDoor.toT,by rw[yN],zMa AB AC hy (zDU hp (by omega)).1 ho hk AA.2.2.2.2.1 AA.2.2.2.2.2,hx⟩
theorem zFc (A B:Option Addr)(a:Bs)(n m c d:Nat)(w:World)(hn:n=a.length)(hm:m=a.length)(hA:Cells w A (xO a))(hB:Cells w B (xO a)) :
  Calls Tryz.prog 19 #[.slice A n c,.slice B m d] w fun e w'=>e=.returned (.bool true)∧w=w':=by
 have h1:=XE (P:=Tryz.prog) (n:=n) (c:=c) Tryz.underlying22 Tryz.underlying5 Tryz.underlying9 hn hA;have h2:=XE (P:=Tryz.prog) (n:=m) (c:=d) Tryz.underlying22 Tryz.underlying5 Tryz.underlying9 hm hB
 have HE:((yX a).toList==(yX a).toList)=true:=by simp
 clear hA hB hn hm
 go_enter Tryz.func19,Tryz.ntmps19
 go_wp2_with fail
 go_ret;exact⟨rfl,rfl⟩
theorem XJ (w:World)(hpw:PW w):Calls Tryz.prog 15 #[] w fun e w'=>e=.returned (.bool true)∧Ext w w':=by
 have HP:=yD hpw;clear hpw;have v1:=fun W=>zMO W #[.int .u8 112,.int .u8 114,.int .u8 111,.int .u8 99,.int .u8 32,.int .u8 112,.int .u8 40,.int .u8 41,.int .u8 123,.int .u8 101,.int .u8 109,.int .u8 105,.int .u8 116,.int .u8 40,.int .u8 40,.int .u8 49,.int .u8 41,.int .u8 45,.int .u8 40,.int .u8 50,.int .u8 45,.int .u8 51,.int .u8 41,.int .u8 41,.int .u8 42,.int .u8 45,.int .u8 40,.int .u8 97,.int .u8 43,.int .u8 98,.int .u8 41,.int .u8 59,.int .u8 125] 33 rfl
 go_enter Tryz.func15,Tryz.ntmps15
 go_wp2_with fail
 have AZ:Hid (Cells ((w.alloc (.cells #[.int .u8 112,.int .u8 114,.int .u8 111,.int .u8 99,.int .u8 32,.int .u8 112,.int .u8 40,.int .u8 41,.int .u8 123,.int .u8 101,.int .u8 109,.int .u8 105,.int .u8 116,.int .u8 40,.int .u8 40,.int .u8 49,.int .u8 41,.int .u8 45,.int .u8 40,.int .u8 50,.int .u8 45,.int .u8 51,.int .u8 41,.int .u8 41,.int .u8 42,.int .u8 45,.int .u8 40,.int .u8 97,.int .u8 43,.int .u8 98,.int .u8 41,.int .u8 59,.int .u8 125] 5)).freeze ⟨w.heap.size,33,none⟩ 1) (some ⟨w.heap.size,0,none⟩) (xO zP9)):=yD (zK1 w _ 33 zP9 rfl);have AT:Hid (Ext w ((w.alloc (.cells #[.int .u8 112,.int .u8 114,.int .u8 111,.int .u8 99,.int .u8 32,.int .u8 112,.int .u8 40,.int .u8 41,.int .u8 123,.int .u8 101,.int .u8 109,.int .u8 105,.int .u8 116,.int .u8 40,.int .u8 40,.int .u8 49,.int .u8 41,.int .u8 45,.int .u8 40,.int .u8 50,.int .u8 45,.int .u8 51,.int .u8 41,.int .u8 41,.int .u8 42,.int .u8 45,.int .u8 40,.int .u8 97,.int .u8 43,.int .u8 98,.int .u8 41,.int .u8 59,.int .u8 125] 5)).freeze ⟨w.heap.size,33,none⟩ 1)):=yD (zQo w _ 33)
 generalize ((w.alloc (.cells #[.int .u8 112,.int .u8 114,.int .u8 111,.int .u8 99,.int .u8 32,.int .u8 112,.int .u8 40,.int .u8 41,.int .u8 123,.int .u8 101,.int .u8 109,.int .u8 105,.int .u8 116,.int .u8 40,.int .u8 40,.int .u8 49,.int .u8 41,.int .u8 45,.int .u8 40,.int .u8 50,.int .u8 45,.int .u8 51,.int .u8 41,.int .u8 41,.int .u8 42,.int .u8 45,.int .u8 40,.int .u8 97,.int .u8 43,.int .u8 98,.int .u8 41,.int .u8 59,.int .u8 125] 5)).freeze ⟨w.heap.size,33,none⟩ 1)=w1 at *;generalize w.heap.size=g1 at *;clear v1;refine(zHw (some ⟨g1,0,none⟩) zP9 f61 0 33 33 w1 rfl (by decide) (by decide) (fun h=>by cases h) AZ.out zUq).mono ?_;rintro e w2 ⟨A2,c2,L2,rfl,Ai,Af⟩;have AY:=yD (AT.out.trans Af);have AJ:=yD Ai;clear Af Ai AZ AT
 go_upto_region 2 with fail
 have AH:Ext w2 (w2.alloc (.cells #[.slice A2 L2.length c2] 39)):=Ext.alloc _ _;have AN:=yD (AY.out.trans AH);have AP:=yD (AJ.out.ext AH);have Ah:=yD (Blk.new w2 39 #[.slice A2 L2.length c2]);clear AH AY AJ;generalize w2.heap.size=g3 at *;generalize w2.alloc (.cells #[.slice A2 L2.length c2] 39)=w3 at *;have v1:=fun W=>zMO W #[.int .u8 116,.int .u8 97,.int .u8 98,.int .u8 108,.int .u8 101,.int .u8 32,.int .u8 116,.int .u8 40,.int .u8 99,.int .u8 44,.int .u8 100,.int .u8 41,.int .u8 59] 13 rfl
 go_wp2_with fail
 have AR:Hid (Cells ((w3.alloc (.cells #[.int .u8 116,.int .u8 97,.int .u8 98,.int .u8 108,.int .u8 101,.int .u8 32,.int .u8 116,.int .u8 40,.int .u8 99,.int .u8 44,.int .u8 100,.int .u8 41,.int .u8 59] 5)).freeze ⟨w3.heap.size,13,none⟩ 1) (some ⟨w3.heap.size,0,none⟩) (xO zP7)):=yD (zK1 w3 _ 13 zP7 rfl);have AE:Ext w3 ((w3.alloc (.cells #[.int .u8 116,.int .u8 97,.int .u8 98,.int .u8 108,.int .u8 101,.int .u8 32,.int .u8 116,.int .u8 40,.int .u8 99,.int .u8 44,.int .u8 100,.int .u8 41,.int .u8 59] 5)).freeze ⟨w3.heap.size,13,none⟩ 1):=zQo w3 _ 13;have AS:=yD (AN.out.trans AE);have AK:=yD (AP.out.ext AE);have Ad:=yD (Ah.out.ext AE);clear AE AN AP Ah;generalize ((w3.alloc (.cells #[.int .u8 116,.int .u8 97,.int .u8 98,.int .u8 108,.int .u8 101,.int .u8 32,.int .u8 116,.int .u8 40,.int .u8 99,.int .u8 44,.int .u8 100,.int .u8 41,.int .u8 59] 5)).freeze ⟨w3.heap.size,13,none⟩ 1)=w4 at *;generalize w3.heap.size=g4 at *;clear v1;refine(zHw (some ⟨g4,0,none⟩) zP7 f62 0 13 13 w4 rfl (by decide) (by decide) (fun h=>by cases h) AR.out zUd).mono ?_;rintro e w5 ⟨A5,c5,L5,rfl,AO,AD⟩;have AL:=yD (AS.out.trans AD);have AM:=yD (AK.out.ext AD);have Ae:=yD (Ad.out.ext AD);have AX:=yD AO;clear AD AO AS AK Ad AR
 go_upto_region 3 with fail
 have AA:Ext w5 (w5.alloc (.cells #[.slice A5 L5.length c5] 39)):=Ext.alloc _ _;have AF:=yD (AL.out.trans AA);have Ac:=yD (AM.out.ext AA);have AU:=yD (AX.out.ext AA);have Ab:=yD (Ae.out.ext AA);have AV:=yD (Blk.new w5 39 #[.slice A5 L5.length c5]);clear AA AL AM AX Ae;generalize w5.heap.size=g6 at *;generalize w5.alloc (.cells #[.slice A5 L5.length c5] 39)=w6 at *;have y0:w6.cell? ⟨g3,0,none⟩=some (.slice A2 L2.length c2):=Ab.out.cell 0
 go_wp2_with fail
 refine(zBp w6 A2 L2.length c2 L2 f61 rfl Ac.out (HP.out.ext AF.out) (by rw[zP3]; decide)).mono ?_;rw[zP3];rintro e w7 ⟨b7,k7,rfl,Al,AB,AC⟩;have AG:=yD (AF.out.trans AC);have Ag:=yD AB;have AW:=yD (AU.out.ext AC);have AQ:=yD (AV.out.ext AC);clear Al AB AC y0 AF Ac AU Ab AV;have y0:w7.cell? ⟨g6,0,none⟩=some (.slice A5 L5.length c5):=AQ.out.cell 0
 go_wp2_with fail
 refine(zBp w7 A5 L5.length c5 L5 f62 rfl AW.out (HP.out.ext AG.out) (by rw[zPK]; decide)).mono ?_;rw[zPK];rintro e w8 ⟨b8,k8,rfl,Aj,Aa,AI⟩;have Ak:=yD (AG.out.trans AI);have AB:=Ag.out.ext AI;clear Aj AI y0 AG AW AQ Ag;have h1:(convert 22 9 (.slice (some ⟨b7,0,none⟩) zVi.length k7)).run Tryz.prog w8=.ok (.string ⟨#[112,114,111,99,32,112,40,41,32,123,10,9,101,109,105,116,32,40,49,32,45,32,40,50,32,45,32,51,41,41,32,42,32,45,40,97,32,43,32,98,41,59,10,125,10]⟩) w8:=XE (P:=Tryz.prog) Tryz.underlying22 Tryz.underlying5 Tryz.underlying9 rfl AB;have h2:(convert 22 9 (.slice (some ⟨b8,0,none⟩) zVo.length k8)).run Tryz.prog w8=.ok (.string ⟨#[116,97,98,108,101,32,116,40,99,44,32,100,41,59,10]⟩) w8:=XE (P:=Tryz.prog) Tryz.underlying22 Tryz.underlying5 Tryz.underlying9 rfl Aa;clear AB Aa
 go_wp2_with fail
 go_ret;exact⟨rfl,Ak.out⟩
theorem zHJ (A:Option Addr)(src:Bs)(n c:Nat)(w:World)(hpw:PW w)(hn:n=src.length)(hcap:src.length≤c)(hnil:A=none→c=0)(hC:Cells w A (xO src)) :
  Calls Tryz.prog 4 #[.slice A n c] w fun e w'=>e=.returned (.bool true)∧Ext w w':=by
 subst hn;have HC:=yD hC;have HP:=yD hpw;clear hC hpw
 by_cases AE:1000<src.length
 ·have d0:decide ((src.length:Int) > 1000)=true:=yP (by omega);have d1:decide ((1000:Int)<(src.length:Int))=true:=d0
  go_enter Tryz.func4,Tryz.ntmps4
  go_wp2_with fail
  refine(XJ w HP.out).mono ?_;rintro e w' ⟨rfl,hx⟩
  go_wp2_with fail
  go_ret;exact⟨rfl,hx⟩
 have d0:decide ((src.length:Int) > 1000)=false:=yO (by omega);have d1:decide ((1000:Int)<(src.length:Int))=false:=d0;have d2:decide (1000<src.length)=false:=yO AE
 go_enter Tryz.func4,Tryz.ntmps4
 go_wp2_with fail
 refine(zOj A src src.length c w rfl (by omega) hcap hnil HC.out).mono ?_;rintro e w2 ⟨AI,⟨g2,rfl⟩ | ⟨A2,c2,L2,f,rfl,AX,hg⟩⟩
 ·have AF:=yD AI;clear AI
  go_upto_region 4 with fail
  have AB:=yD (AF.out.trans (Ext.alloc w2 (.cells #[.slice none 0 0] 39)));generalize w2.alloc (.cells #[.slice none 0 0] 39)=w3 at *
  go_wp2_with fail
  refine(XJ w3 (HP.out.ext AB.out)).mono ?_;rintro e w' ⟨rfl,hx⟩
  go_wp2_with fail
  go_ret;exact⟨rfl,AB.out.trans hx⟩
 have HG:=yD hg;have AF:=yD AI;have Ab:=yD AX;clear hg AI AX
 go_upto_region 4 with fail
 have AM:Ext w2 (w2.alloc (.cells #[.slice A2 L2.length c2] 39)):=Ext.alloc _ _;have AB:=yD (AF.out.trans AM);have AJ:=yD (Ab.out.ext AM);have AN:=yD (Blk.new w2 39 #[.slice A2 L2.length c2]);clear AM AF Ab;generalize w2.heap.size=g3 at *;generalize w2.alloc (.cells #[.slice A2 L2.length c2] 39)=w3 at *;have y0:w3.cell? ⟨g3,0,none⟩=some (.slice A2 L2.length c2):=AN.out.cell 0
 go_wp2_with fail
 refine(zBp w3 A2 L2.length c2 L2 f rfl AJ.out (HP.out.ext AB.out) HG.out.2.2.2.1).mono ?_;rintro e w4 ⟨b4,k4,rfl,Ai,AQ,AG⟩;have Af:=yD (AB.out.trans AG);have AR:=yD (AJ.out.ext AG);have Al:=yD (AN.out.ext AG);have AK:=yD AQ;have Ap:=yD Ai;clear Ai AQ AG y0 AB AJ AN
 go_wp2_with fail
 refine(zHn (some ⟨b4,0,none⟩) f HG.out f.print.length k4 w4 rfl Ap.out (fun h=>by cases h) AK.out).mono ?_;rintro e w5 ⟨A5,c5,L5,rfl,AS,AD⟩;have Ac:=yD (Af.out.trans AD);have Ad:=yD (AR.out.ext AD);have Aa:=yD (Al.out.ext AD);have Ah:=yD (AK.out.ext AD);have AU:=yD AS;clear AD AS Af AR Al AK
 go_upto_region 8 with fail
 have AC:Ext w5 (w5.alloc (.cells #[.slice A5 L5.length c5] 39)):=Ext.alloc _ _;have AO:=yD (Ac.out.trans AC);have Ak:=yD (Ad.out.ext AC);have AP:=yD (AU.out.ext AC);have AY:=yD (Aa.out.ext AC);have Aj:=yD (Ah.out.ext AC);have AL:=yD (Blk.new w5 39 #[.slice A5 L5.length c5]);clear AC Ac Ad AU Aa Ah;generalize w5.heap.size=g6 at *;generalize w5.alloc (.cells #[.slice A5 L5.length c5] 39)=w6 at *;have y0:w6.cell? ⟨g6,0,none⟩=some (.slice A5 L5.length c5):=AL.out.cell 0
 go_wp2_with fail
 refine(zBp w6 A5 L5.length c5 L5 f rfl AP.out (HP.out.ext AO.out) HG.out.2.2.2.1).mono ?_;rintro e w7 ⟨b7,k7,rfl,Aq,AV,AA⟩;have Ae:=yD (AO.out.trans AA);have AZ:=yD (Ak.out.ext AA);have Ag:=yD (AP.out.ext AA);have Am:=yD (Aj.out.ext AA);have AT:=yD AV;clear y0;have y0:w7.cell? ⟨g6,0,none⟩=some (.slice A5 L5.length c5):=(AL.out.ext AA).cell 0;have y1:w7.cell? ⟨g3,0,none⟩=some (.slice A2 L2.length c2):=(AY.out.ext AA).cell 0;clear Aq AV AA AO Ak AP Aj AL AY
 go_wp2_with fail
 refine(zKn A2 A5 L2 L5 f L2.length c2 L5.length c5 w7 rfl rfl AZ.out Ag.out).mono ?_;rintro e w8 ⟨rfl,AH⟩;have AW:=yD (Ae.out.trans AH);have Ao:=yD (Am.out.ext AH);have An:=yD (AT.out.ext AH);clear AH y0 y1 Ae AZ Ag Am AT
 go_wp2_with fail
 refine(zFc (some ⟨b4,0,none⟩) (some ⟨b7,0,none⟩) f.print f.print.length f.print.length k4 k7 w8 rfl rfl Ao.out An.out).mono ?_;rintro e w9 ⟨rfl,rfl⟩
 go_wp2_with fail
 refine(XJ w8 (HP.out.ext AW.out)).mono ?_;rintro e w' ⟨rfl,hx⟩
 go_wp2_with fail
 go_ret;exact⟨rfl,AW.out.trans hx⟩
end Go.Proofs.YtioffpjajhalaaaGreatDoor
