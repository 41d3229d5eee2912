/- interlocklaw06.PrintExprs, walked: always true. Condition: uint64pow10 reads as the program's text lays it. -/
import Derived.Test.YtioffpjajhalaaaGreatDoorJaa
import Derived.Test.YtioffpjajhalaaaGreatDoorJbk
import Derived.RegionTactic
import Derived.Deep.CutRange
set_option linter.unusedVariables false
set_option linter.unusedSimpArgs false
set_option maxRecDepth 100000
set_option maxHeartbeats 16000000
namespace Go.Proofs.YtioffpjajhalaaaGreatDoor
open Go Go.RowKit
structure zRW (L:List TT.xC)(f:Fo):Prop where
 lay:VP L 0 (Fo.one 1 0 [] 0 f.z)
 ok:(Fo.one 1 0 [] 0 f.z).ok 0
 len:1+f.z.size=L.length
 right:TT.jT L=true
 few:L.length≤200
 small:∀x ∈ L,x.kids.length≤200∧x.text.size≤50
 deep:TT.zDn L≤62
theorem zRW.at_ {L:List TT.xC}{f:Fo}(h:zRW L f)(i:Nat)(m:TT.xC)(hm:L[i]?=some m)(hk:21≤m.kind):∃e,QX 0 e∧VP L i (e.fo .nil)∧e.dp≤62∧e.bs.length≤60000∧(e.fo .nil).wt≤1099511627776∧(e.fo .nil).size≤200∧(e.fo .nil).sm∧i+(e.fo .nil).size≤L.length:=by
 have AB:1≤i:=by
  cases i with
  | zero=>
   obtain⟨⟨n,hn,AC,_⟩,_⟩:=h.lay;rw[hn] at hm;injection hm with hm;subst hm;rw[AC] at hk;exact absurd hk (by decide)
  | succ i=>omega
 have AE:=(List.getElem?_eq_some_iff.1 hm).1;have AA:=h.len;obtain⟨e,q,h1,h2,h3,h4⟩:=zSM f.z 1 1 h.ok.2.1 h.lay.2.1 i m AB (by omega) hm hk;have hd:=zPN h.right h.lay h.ok AA;have AF:=h.deep;obtain⟨c1,c2⟩:=zEr (fun x hx=>(h.small x hx).2) f.z 1 h.lay.2.1;obtain⟨c3,c4⟩:=zEr (fun x hx=>(h.small x hx).2) (e.fo .nil) i h1;have hb:=zGI e q;have hw:=zM4 _ c4;have hf:=h.few;have AD:=(zMK e q).1;exact⟨e,q,h1,by omega,by omega,by omega,by omega,c4,by omega⟩
theorem zM7 (a b:Bs):yX (a++b)=yX a++yX b:=by
 apply ByteArray.ext;simp[yX]
theorem zRY (e:Bs):(⟨#[112,114,111,99,32,112,40,41,32,123,32,101,109,105,116,32]⟩:ByteArray)++yX e++⟨#[59,32,125]⟩=yX (exP++(e++exQ)):=by
 rw[zM7,zM7,show(⟨#[112,114,111,99,32,112,40,41,32,123,32,101,109,105,116,32]⟩:ByteArray)=yX exP from rfl,show(⟨#[59,32,125]⟩:ByteArray)=yX exQ from rfl,ByteArray.append_assoc]
theorem zKa (A:Option Addr)(L:List TT.xC)(n c:Nat)(w:World)(hpw:PW w)(hn:n=L.length)(ht:TT.XU w A L) :
  Calls Tryz.prog 5 #[.agg #[.slice A n c]] w fun e w'=>e=.returned (.bool true)∧Ext w w':=by
 subst hn;have HT:=yD ht;have HP:=yD hpw;clear ht hpw
 go_enter Tryz.func5,Tryz.ntmps5
 go_upto_region 1 with fail
 have Am:Hid (Ext w (w.alloc (.cells #[.slice A L.length c] 39))):=yD (Ext.alloc _ _);have A0:Hid (Blk (w.alloc (.cells #[.slice A L.length c] 39)) w.heap.size 39 #[.slice A L.length c]):=yD (Blk.new _ _ _);generalize w.heap.size=g1 at *;generalize w.alloc (.cells #[.slice A L.length c] 39)=w1 at *;have y0:w1.cell? ⟨g1,0,none⟩=some (.slice A L.length c):=A0.out.cell 0
 go_wp2_with fail
 refine(zMC A L L.length c w1 rfl (HT.out.ext Am.out)).mono ?_;rintro e w2 ⟨b,rfl,As,hb⟩;have AL:=yD (Am.out.trans As);have Az:=yD (A0.out.ext As);clear As y0 Am A0
 cases b with
 | false=>
  clear hb
  go_wp2_with fail
  refine(XJ w2 (HP.out.ext AL.out)).mono ?_;rintro e w' ⟨rfl,hx⟩
  go_wp2_with fail
  go_ret;exact⟨rfl,AL.out.trans hx⟩
 | true=>
 obtain⟨AB,HK⟩:Hid (L.length≤200)∧Hid (∀x ∈ L,x.kids.length≤200∧x.text.size≤50):=⟨yD (hb rfl).1,yD (hb rfl).2⟩;have Ad:Hid (∀x ∈ L,TT.zEt x):=yD fun y hy=>⟨by have:=(HK.out y hy).2; omega,by have:=(HK.out y hy).1; omega⟩;clear hb;have y0:w2.cell? ⟨g1,0,none⟩=some (.slice A L.length c):=Az.out.cell 0;obtain⟨d,HD⟩:∃d,Hid (TT.jT L=d):=⟨_,yD rfl⟩
 go_wp2_with fail
 refine(TT.zCq L A L.length c w2 rfl (HT.out.ext AL.out) (by have:=AB.out; omega) Ad.out d HD).mono ?_;rintro e w3 ⟨rfl,Au⟩;have AK:=yD (AL.out.trans Au);have Aj:=yD (Az.out.ext Au);clear Au y0 AL Az
 cases d with
 | false=>
  go_wp2_with fail
  refine(XJ w3 (HP.out.ext AK.out)).mono ?_;rintro e w' ⟨rfl,hx⟩
  go_wp2_with fail
  go_ret;exact⟨rfl,AK.out.trans hx⟩
 | true=>
 have y0:w3.cell? ⟨g1,0,none⟩=some (.slice A L.length c):=Aj.out.cell 0;obtain⟨r,HR⟩:∃r,Hid (TT.zDn L=r):=⟨_,yD rfl⟩
 go_wp2_with fail
 refine(TT.zLn L A L.length c w3 rfl (HT.out.ext AK.out) (by have:=AB.out; omega) Ad.out r HR).mono ?_;rintro e w4 ⟨rfl,Av⟩;have AG:=yD (AK.out.trans Av);have A1:=yD (Aj.out.ext Av);clear Av y0 AK Aj
 by_cases AW:62<r
 ·have d0:decide (r > 62)=true:=yP AW;have d1:decide (62<r)=true:=d0;clear AW
  go_wp2_with fail
  refine(XJ w4 (HP.out.ext AG.out)).mono ?_;rintro e w' ⟨rfl,hx⟩
  go_wp2_with fail
  go_ret;exact⟨rfl,AG.out.trans hx⟩
 have d0:decide (r > 62)=false:=yO AW;have d1:decide (62<r)=false:=d0
 obtain⟨f,HE⟩:∃f,Hid (zRW L f):=by
  obtain⟨f,h1,_⟩:=zKP (HT.out.ext AG.out) HD.out AB.out HK.out (by rw[HR.out]; omega);exact⟨f,yD ⟨h1.lay,h1.ok,by rw[zBt,←h1.len],HD.out,AB.out,HK.out,by rw[HR.out]; omega⟩⟩
 clear AW;have BH:L.length≤200:=HE.out.few;have AU:=yD (HT.out.ext AG.out);have BQ:=yD (HP.out.ext AG.out);clear HT HP HR AB HK
 go_wp2_with fail
 clear d0 d1
 go_loopw [3] (fun i' wr=>∃k:Nat,k≤L.length∧i'=.int .i64 k∧Hid (Ext w4 wr)) (fun i' _=>L.length-(intOf i').toNat)
 case atStart=>exact⟨0,zT _,rfl,yD (Ext.refl _)⟩
 case round=>
  obtain⟨i,hi,rfl,HX⟩:=hrel;obtain⟨w5,rfl⟩:∃w5:World,w5=wr:=⟨_,rfl⟩;have y0:w5.cell? ⟨g1,0,none⟩=some (.slice A L.length c):=(A1.out.ext HX.out).cell 0
  by_cases BE:i<L.length
  rotate_left
  ·obtain rfl:i=L.length:=by omega
   have d0:decide ((L.length:Int)<(L.length:Int))=false:=by simp
   have d1:decide (L.length<L.length)=false:=by simp
   go_wp2_with fail
   refine(XJ w5 (BQ.out.ext HX.out)).mono ?_;rintro e w' ⟨rfl,hx⟩
   go_wp2_with fail
   go_ret;exact⟨rfl,AG.out.trans (HX.out.trans hx)⟩
  have d0:decide ((i:Int)<(L.length:Int))=true:=yP (by omega)
  have q0:(i:Int)<(L.length:Int):=by omega
  obtain⟨tb,tf,hA,Be,hc⟩:=(AU.out.ext HX.out).at_ i BE;obtain⟨m,HM⟩:∃m,Hid (L[i]?=some m∧L[i]=m):=⟨_,yD ⟨yG BE,rfl⟩⟩;rw[HM.out.2] at hc;subst hA;have v0:w5.cell? ⟨tb,tf+i*5,none⟩=some (.int .u8 m.kind):=hc 0 (by decide);clear hc
  by_cases hk:m.kind<21
  ·have d4:decide (m.kind<21)=true:=yP hk;clear hk
   go_wp2_with fail
   go_roundw
   case rel=>exact⟨i+1,by omega,by go_num,HX⟩
   case measure=>simp[intOf]; omega
  have d4:decide (m.kind<21)=false:=yO hk;obtain⟨ex,hq,hl,BP,BK,A9,Ae,AM,A3⟩:=HE.out.at_ i m HM.out.1 (by omega);have HQ:=yD hq;have Ab:=yD hl;have BF:=yD BP;have AV:=yD BK;have BL:=yD A9;have A4:=yD Ae;have A2:=yD AM;have Bg:=yD A3;have Ah:Hid (21≤m.kind):=yD (by omega);clear hq hl BP BK A9 Ae AM A3 hk
  go_wp2_with fail
  refine(zSy w5 (some ⟨tb,tf,none⟩) L.length c L rfl (AU.out.ext HX.out) (by have:=HE.out.few; omega) Ad.out HE.out.right (BQ.out.ext HX.out) i m HM.out.1 Ah.out ex HQ.out Ab.out BL.out).mono ?_;rintro r6 w6 ⟨rfl,A6⟩;have Al:=yD (HX.out.trans A6);clear A6 y0 v0 d4;obtain⟨B,AX⟩:∃B,Hid (exP++(ex.bs++exQ)=B):=⟨_,yD rfl⟩;have Ak:=yD (zRp HQ.out (by have:=BF.out; omega) AV.out)
  have AN:Hid (B.length≤65536):=yD (by
   rw[←AX.out];have h1:exP.length=16:=rfl;have h2:exQ.length=3:=rfl
   have:=AV.out
   rw[yM,yM]
   omega)
  obtain⟨AS,AQ⟩:=zKU w6 B
  have BT:(convert 9 22 (.string ((⟨#[112,114,111,99,32,112,40,41,32,123,32,101,109,105,116,32]⟩:ByteArray)++yX ex.bs++⟨#[59,32,125]⟩))).run Tryz.prog w6=.ok (.slice (some ⟨w6.heap.size,0,none⟩) B.length (grownCap w6 B.length 0 5)) (Lib.bytesWorld w6 5 (yX B)):=by
   rw[zRY,AX.out];exact AS
  clear AS;rw[AX.out] at Ak;have BM:Ext w6 (Lib.bytesWorld w6 5 (yX B)):=Ext.bytesWorld w6 5 (yX B);have BR:=yD (zJw w6 B);have BN:=yD (Al.out.trans BM);have AR:=yD AQ;have BV:=yD (A1.out.ext Al.out);clear BM AQ;generalize grownCap w6 B.length 0 5=c7 at *;generalize hw7:Lib.bytesWorld w6 5 (yX B)=w7 at *;clear hw7;generalize w6.heap.size=g7 at *
  have BA:Hid (¬(9223372036854775807<16+(yX ex.bs).size)∧¬(9223372036854775807<16+(yX ex.bs).size+3)):=yD (by
   have h1:(yX ex.bs).size=ex.bs.length:=by simp[yX,ByteArray.size]
   have:=AV.out
   rw[h1]
   exact⟨by omega,by omega⟩)
  generalize yX ex.bs=sb at *;obtain⟨BS,Bc⟩:=BA.out
  go_wp2_with fail
  clear BS Bc BA;refine(zHe (some ⟨g7,0,none⟩) B (EmF ex) Ak.out AN.out (nk1 fun e he=>by rw[List.mem_singleton.1 (show e ∈ [3] from he)]; exact .inr rfl) (by rw[Ex.size_pos (M:=0)]; have:=A4.out; omega) ⟨by decide,⟨by decide,trivial,⟨by decide,⟨by decide,A2.out,trivial⟩,trivial⟩⟩,trivial⟩ B.length c7 w7 rfl AR.out (fun h=>by cases h) BR.out).mono ?_;rintro r8 w8 ⟨A8,c8,L8,rfl,A7,BJ⟩;have BI:=yD (BN.out.trans BJ);have BG:=yD A7;clear BJ A7 BT BR AR Ak AN AX
  go_upto_region 9 with fail
  have Aw:Ext w8 (w8.alloc (.cells #[.slice A8 L8.length c8] 39)):=Ext.alloc _ _;have Ac:=yD (BI.out.trans Aw);have AZ:=yD (BG.out.ext Aw);have BC:=yD (Blk.new w8 39 #[.slice A8 L8.length c8]);have Ax:=yD (A1.out.ext Ac.out);clear Aw BI BG BN BV Al;generalize w8.heap.size=g9 at *;generalize w8.alloc (.cells #[.slice A8 L8.length c8] 39)=w9 at *;have y0:w9.cell? ⟨g1,0,none⟩=some (.slice (some ⟨tb,tf,none⟩) L.length c):=Ax.out.cell 0;have HZ:Hid (TT.zFL L (i:Int)=(((ex.fo .nil).size:Nat):Int)):=yD (zUG (M:=0) HE.out.right HM.out.1 ex Ab.out);have Bd:Hid (L8.length=5+(ex.fo .nil).size):=yD (by rw[AZ.out.len,Ex.size_pos (M:=0)]; omega);have Af:Hid (∀j,j<(ex.fo .nil).size→∃m m',L[i+j]?=some m∧L8[5+j]?=some m'∧m.kind=m'.kind∧m.num=m'.num∧m.text=m'.text∧m.kids.length=m'.kids.length):=yD fun j hj=>zUb (zI8 _ _ Ab.out) (zT6 AZ.out.lay) j (by rw[zBt]; exact hj);generalize (ex.fo .nil).size=sz at *
  go_wp2_with fail
  refine(TT.zSj L (some ⟨tb,tf,none⟩) L.length c (i:Int) w9 rfl (AU.out.ext Ac.out) (by have:=HE.out.few; omega) Ad.out (sz:Int) HZ).mono ?_;rintro Bf BO ⟨rfl,AC⟩;have AT:=yD (Ac.out.trans AC);have Ap:=yD (AZ.out.ext AC);have AF:=yD (BC.out.ext AC);have AO:=yD (Ax.out.ext AC);clear AC y0 Ac AZ BC Ax HZ Ab HQ BF AV BL A2;have y1:BO.cell? ⟨g9,0,none⟩=some (.slice A8 L8.length c8):=AF.out.cell 0;have Ae:sz≤200:=A4.out
  have An:(L8.length:Int)=5+(sz:Int):=by rw[Bd.out]; omega
  have e0:((L8.length:Int) != 5+(sz:Int))=false:=by rw[An]; simp
  have e1:((L8.length:Int)==5+(sz:Int))=true:=by rw[An]; simp
  clear An
  go_wp2_with fail
  clear e0 e1 y1
  go_loopw [9] (fun i' wr=>∃k:Nat,k≤sz∧i'=.int .i64 k∧Hid (Ext BO wr)) (fun i' _=>sz-(intOf i').toNat)
  case atStart=>exact⟨0,zT _,rfl,yD (Ext.refl _)⟩
  case round=>
   obtain⟨k,Bh,rfl,AD⟩:=hrel;obtain⟨AA,rfl⟩:∃AA:World,AA=wr:=⟨_,rfl⟩
   by_cases BY:k<sz
   rotate_left
   ·obtain rfl:k=sz:=by omega
    have d1:decide ((k:Int)<(k:Int))=false:=by simp
    have d2:decide (k<k)=false:=by simp
    go_wp2_with fail
    go_roundw
    case rel=>exact⟨i+1,by omega,by go_num,yD (AT.out.trans AD.out)⟩
    case measure=>simp[intOf]; omega
   have d1:decide ((k:Int)<(sz:Int))=true:=yP (by omega);have y0:AA.cell? ⟨g1,0,none⟩=some (.slice (some ⟨tb,tf,none⟩) L.length c):=(AO.out.ext AD.out).cell 0;have y1:AA.cell? ⟨g9,0,none⟩=some (.slice A8 L8.length c8):=(AF.out.ext AD.out).cell 0;obtain⟨x,x',hx,Aq,h1,h2,h3,h4⟩:=Af.out k BY;have A5:=(List.getElem?_eq_some_iff.1 hx).1;have AP:=(List.getElem?_eq_some_iff.1 Aq).1;obtain⟨b1,o1,AJ,Ar,Ag⟩:=((AU.out.ext AT.out).ext AD.out).at_ (i+k) A5;injection AJ with AJ;injection AJ with AJ Ay;subst AJ Ay;obtain⟨b2,o2,Ay,At,Ai⟩:=(Ap.out.tree.ext AD.out).at_ (5+k) AP;subst Ay;rw[(List.getElem?_eq_some_iff.1 hx).2] at Ag;rw[(List.getElem?_eq_some_iff.1 Aq).2] at Ai;have AH:=yD Ag;have AI:=yD Ai;have HH:=yD (And.intro h1 (And.intro h2 (And.intro h3 h4)))
   have q1:(i:Int)+(k:Int)<(L.length:Int):=by omega
   have q2:(5:Int)+(k:Int)<(L8.length:Int):=by omega
   clear hx Aq h1 h2 h3 h4 A5 AP Ag Ai;have a0:AA.cell? ⟨tb,tf+(i+k)*5,none⟩=some (.int .u8 x.kind):=AH.out 0 (by decide);have a1:AA.cell? ⟨tb,tf+(i+k)*5+1,none⟩=some (.int .i64 x.pos):=AH.out 1 (by decide);have a2:AA.cell? ⟨tb,tf+(i+k)*5+2,none⟩=some (.string x.text):=AH.out 2 (by decide);have a3:AA.cell? ⟨tb,tf+(i+k)*5+3,none⟩=some (.int .i64 x.num):=AH.out 3 (by decide);have a4:AA.cell? ⟨tb,tf+(i+k)*5+4,none⟩=some (.slice x.kA x.kids.length x.kc):=AH.out 4 (by decide);have b0:AA.cell? ⟨b2,o2+(5+k)*5,none⟩=some (.int .u8 x'.kind):=AI.out 0 (by decide);have BZ:AA.cell? ⟨b2,o2+(5+k)*5+1,none⟩=some (.int .i64 x'.pos):=AI.out 1 (by decide);have BB:AA.cell? ⟨b2,o2+(5+k)*5+2,none⟩=some (.string x'.text):=AI.out 2 (by decide);have b3:AA.cell? ⟨b2,o2+(5+k)*5+3,none⟩=some (.int .i64 x'.num):=AI.out 3 (by decide);have b4:AA.cell? ⟨b2,o2+(5+k)*5+4,none⟩=some (.slice x'.kA x'.kids.length x'.kc):=AI.out 4 (by decide);have BW:g1<AA.heap.size:=((AO.out.ext AD.out)).lt;have Ba:g9<AA.heap.size:=((AF.out.ext AD.out)).lt
   have r1:((i:Int)+(k:Int)).toNat=i+k:=by omega
   have r2:((5:Int)+(k:Int)).toNat=5+k:=by omega
   go_upto_region 15 with fail
   go_cut [10,11] from 76 to 89 (fun sa sb wx=>∃gx gy,sa=.pointer (some ⟨gx,0,none⟩)∧sb=.pointer (some ⟨gy,0,none⟩)∧Hid (Blk wx gx 48 #[.int .u8 x.kind,.int .i64 x.pos,.string x.text,.int .i64 x.num,.slice x.kA x.kids.length x.kc])∧Hid (Blk wx gy 48 #[.int .u8 x'.kind,.int .i64 x'.pos,.string x'.text,.int .i64 x'.num,.slice x'.kA x'.kids.length x'.kc])∧Hid (Ext AA wx))
   case first=>
    go_region
    all_goals
     go_wp2_with fail
     go_meet
     refine⟨_,_,rfl,rfl,?_,?_,?_⟩
     ·first | exact yD (((Blk.new _ _ _).alloc _).ext (Below.drew (Below.refl _ _))) | exact yD ((Blk.zAa (by simp)).ext (Below.drew (Below.refl _ _)))
     ·first | exact yD (((Blk.new _ _ _).alloc _).ext (Below.drew (Below.refl _ _))) | exact yD ((Blk.zAa (by simp)).ext (Below.drew (Below.refl _ _)))
     ·exact yD (Below.drew ((Ext.alloc _ _).trans (Ext.alloc _ _)))
   case rest=>
   obtain⟨gx,gy,rfl,rfl,Aa,AY,Bb⟩:=hcut;have Ao:=yD (AD.out.trans Bb.out);clear y0 y1 a0 a1 a2 a3 a4 b0 BZ BB b3 b4 BW Ba Ar At AH AI AD q0 q1 q2 r1 r2;generalize wc=AE at *;have a0:AE.cell? ⟨gx,0,none⟩=some (.int .u8 x.kind):=Aa.out.cell 0;have a2:AE.cell? ⟨gx,2,none⟩=some (.string x.text):=Aa.out.cell 2;have a3:AE.cell? ⟨gx,3,none⟩=some (.int .i64 x.num):=Aa.out.cell 3;have a4:AE.cell? ⟨gx,4,none⟩=some (.slice x.kA x.kids.length x.kc):=Aa.out.cell 4
   have b0:AE.cell? ⟨gy,0,none⟩=some (.int .u8 x.kind):=by rw[HH.out.1]; exact AY.out.cell 0
   have BB:AE.cell? ⟨gy,2,none⟩=some (.string x.text):=by rw[HH.out.2.2.1]; exact AY.out.cell 2
   have b3:AE.cell? ⟨gy,3,none⟩=some (.int .i64 x.num):=by rw[HH.out.2.1]; exact AY.out.cell 3
   have b4:AE.cell? ⟨gy,4,none⟩=some (.slice x'.kA x.kids.length x'.kc):=by rw[HH.out.2.2.2]; exact AY.out.cell 4
   have e0:(x.kind != x.kind)=false:=by simp
   have e1:(x.num != x.num)=false:=by simp
   have e2:((x.kids.length:Int) != (x.kids.length:Int))=false:=by simp
   have e3:(x.text.toList != x.text.toList)=false:=by simp
   go_wp2_with fail
   go_roundw
   case rel=>exact⟨k+1,by omega,by go_num,Ao⟩
   case measure=>simp[intOf]; omega
end Go.Proofs.YtioffpjajhalaaaGreatDoor
