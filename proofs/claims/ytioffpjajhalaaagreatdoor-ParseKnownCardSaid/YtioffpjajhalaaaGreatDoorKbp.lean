/- interlocklaw05.ParseKnown, walked: true. Condition: errors.errorType reads as the program's text lays it. -/
import Derived.Test.YtioffpjajhalaaaGreatDoorKaa
import Derived.Test.YtioffpjajhalaaaGreatDoorKaz
import Derived.Test.YtioffpjajhalaaaGreatDoorKbn
import Derived.Test.YtioffpjajhalaaaGreatDoorKbo
import Derived.RegionTactic
import Derived.Deep.CutRange
import Derived.Great.BuildSlice
set_option linter.unusedVariables false
set_option linter.unusedSimpArgs false
set_option maxRecDepth 100000
set_option maxHeartbeats 16000000
namespace Go.Proofs.YtioffpjajhalaaaGreatDoor
open Go Go.RowKit
theorem zJG (w:World)(hG:GT w):Calls Tryz.prog 3 #[] w fun e w'=>e=.returned (.bool true)∧Ext w w':=by
 obtain⟨ts,A3,BE,Ax⟩:=zU4;have BX:=yE A3;have Ba:=yE Ax;have HG:=yE hG;have AA:=yE zUX;clear A3 Ax hG
 go_enter Tryz.func3,Tryz.ntmps3
 go_upto_region 1 with fail
 go_cut [1] from 15 to 17 (fun s wx=>∃g,s=.slice (some ⟨g,0,none⟩) 295 295∧Hid (Cells wx (some ⟨g,0,none⟩) (xL JE))∧Hid (Ext w wx))
 case first=>
  have BB:(zsK.map (Value.int .u8)).toArray.size=295:=by kernel_rfl
  have A6:(zsK.map (Value.int .u8)).toArray.toList=xL JE:=zRs;apply wp_region_lit;refine wpList_buildFlat rfl 22 5 295 _ rfl .u8 zsK (by kernel_rfl) (by kernel_rfl) (by kernel_rfl) (by kernel_rfl) (by decide) (by decide) (by kernel_rfl) ?_;generalize (zsK.map (Value.int .u8)).toArray=cs at *;have v1:=zEv w cs 295 BB;have HZ:=yE A6;clear BB A6
  go_wp2_with fail
  go_meet
  exact⟨_,rfl,yE (zFm w _ 295 JE HZ.out),yE (zJa w _ 295)⟩
 case rest=>
 obtain⟨g1,rfl,At,BG⟩:=hcut;generalize wc=w1 at *
 go_wp2_with fail
 refine(zDV (some ⟨g1,0,none⟩) JE 295 295 w1 AA.out.symm (by rw[AA.out]; decide) (by rw[AA.out]; decide) (fun h=>by cases h) At.out).mono ?_;rw[BX.out];rintro e w2 ⟨Ao,A2,c2,rfl,_,BD⟩;have Ad:=yE (BG.out.trans Ao);have AZ:=yE (At.out.ext Ao);have BS:=yE (Cells.own BD);clear Ao BD BG At
 go_wp2_with fail
 go_loopw [4] (fun i' wr=>∃i:Nat,i≤ts.length∧i'=.int .i64 i∧Hid (Ext w2 wr)) (fun i' _=>ts.length-(intOf i').toNat)
 case atStart=>exact⟨0,zT _,rfl,yE (Ext.refl _)⟩
 case round=>
  obtain⟨i,hi,rfl,HX⟩:=hrel;obtain⟨w3,rfl⟩:∃w3:World,w3=wr:=⟨_,rfl⟩
  by_cases AQ:i<ts.length
  ·have d0:decide ((i:Int)<(ts.length:Int))=true:=yQ (by omega)
   have q0:(i:Int)<(ts.length:Int):=by omega
   obtain⟨kb,kf,BT,BH,Al⟩:=(BS.out.ext HX.out).at_ (by rw[XO]; omega);subst BT;obtain⟨ha,he,Bj,BA⟩:=Ba.out i AQ
   have v1:w3.cell? ⟨kb,kf+i*5+1,none⟩=some (.int .i64 (ts[i].at_:Int)):=by
    rw[Nat.add_assoc,Al _ (by rw[XO]; omega),zD2 ts i AQ 1 (by decide)]
    rfl
   have v2:w3.cell? ⟨kb,kf+i*5+2,none⟩=some (.int .i64 (ts[i].en:Int)):=by
    rw[Nat.add_assoc,Al _ (by rw[XO]; omega),zD2 ts i AQ 2 (by decide)]
    rfl
   clear Al;generalize ts[i].at_=a at *;generalize ts[i].en=e0 at *;have BR:=yE BA;have A4:Hid (Cells w3 (some ⟨g1,0,none⟩) (xL (JE.take a))):=yE (by rw[←zEO]; exact(AZ.out.ext HX.out).take _)
   have AV:(JE.take a).length=a:=by rw[List.length_take,AA.out]; omega
   have AW:(JE.drop e0).length=295-e0:=by rw[List.length_drop,AA.out]
   have BL:(a:Int)≤295:=by omega
   have BO:a≤295:=ha
   have BK:(e0:Int)≤295:=by omega
   have BZ:e0≤295:=he
   obtain⟨oe,As⟩:∃oe,Hid ((e0<295→oe=e0)∧(e0=295→oe=0)):=by
    by_cases h:e0=295
    ·exact⟨0,yE ⟨fun h2=>by omega,fun _=>rfl⟩⟩
    ·exact⟨e0,yE ⟨fun _=>rfl,fun h2=>absurd h2 h⟩⟩
   have Az:Hid (Cells w3 (some ⟨g1,oe,none⟩) (xL (JE.drop e0))):=yE (by
    by_cases Bb:e0=295
    ·exact .inl (List.eq_nil_of_length_eq_zero (by rw[xW,AW]; omega))
    rw[As.out.1 (by omega)]
    rcases AZ.out.ext HX.out with h | ⟨b,o,e,hb,hc⟩
    ·exact absurd (congrArg List.length h) (by rw[xW,AA.out]; decide)
    ·injection e with e;injection e with e1 e2;subst e1 e2;refine .inr ⟨g1,e0,rfl,hb,fun j hj=>?_⟩;rw[xW,AW] at hj
     have:=hc (e0+j) (by rw[xW,AA.out]; omega)
     rw[Nat.zero_add] at this;rw[this]
     simp[xL,List.getElem?_drop])
   clear BA
   go_upto_region 8 with fail
   apply jJ 16 (by kernel_rfl) (by kernel_rfl) (by kernel_rfl);dsimp only[List.take_succ_cons,List.take_zero,List.drop_succ_cons,List.drop_zero];apply sP q0 (.slice (some ⟨g1,0,none⟩) 295 295);apply sP q0 (.slice (some ⟨kb,kf,none⟩) ts.length c2);apply sP q0 (.int .i64 (i:Int));apply sP q0 (.pointer (some ⟨kb,kf+i*5,none⟩));apply sP q0 (.pointer (some ⟨kb,kf+i*5+1,none⟩));apply xN (.int .i64 (a:Int)) rfl rfl rfl
   ·intro w' AG hH;clear hH;have z0:=(AG.cell (p:=⟨kb,kf+i*5+1,none⟩) BH).trans v1;simp[xH,go_sem,q0,z0];exact Ext.refl _
   apply xN (.slice (some ⟨g1,0,none⟩) a 295) rfl rfl rfl
   ·intro w' AG hH;clear hH;simp[xH,go_sem,q0,BL,BO];exact Ext.refl _
   apply xN (.string (xE (JE.take a))) rfl rfl rfl
   ·intro w' AG hH;clear hH;have z0:=jZ (P:=Tryz.prog) (n:=a) (c:=295) Tryz.underlying22 Tryz.underlying5 Tryz.underlying9 AV.symm (A4.out.ext AG);simp[xH,go_sem,q0,z0];exact Ext.refl _
   apply ZK (fun v w=>∃g c,v=.slice (some ⟨g,0,none⟩) a c∧zFS w3.heap.size (JE.take a) g c w) (by rintro v w w' ⟨g,c,h1,h2⟩ hx; exact⟨g,c,h1,h2.ext hx⟩) rfl rfl rfl
   ·intro w' AG hH;clear hH;have z0:=(zEz w' (JE.take a)).1;have hz:=zHb w' (JE.take a);have hx:=zGp w' (JE.take a);rw[AV] at z0 hz;simp[xH,go_sem,z0];exact⟨⟨_,_,⟨rfl,rfl⟩,Nat.le_trans AG.size hz.lo,hz.lt,hz.le,hz.cells,hz.room⟩,hx⟩
   intro Bi;apply sP q0 (.slice (some ⟨g1,0,none⟩) 295 295);apply sP q0 (.slice (some ⟨kb,kf,none⟩) ts.length c2);apply sP q0 (.int .i64 (i:Int));apply sP q0 (.pointer (some ⟨kb,kf+i*5,none⟩));apply sP q0 (.pointer (some ⟨kb,kf+i*5+2,none⟩));apply xN (.int .i64 (e0:Int)) rfl rfl rfl
   ·intro w' AG hH;clear hH;have z0:=(AG.cell (p:=⟨kb,kf+i*5+2,none⟩) BH).trans v2;simp[xH,go_sem,q0,z0];exact Ext.refl _
   apply xN (.slice (some ⟨g1,oe,none⟩) (295-e0) (295-e0)) rfl rfl rfl
   ·intro w' AG hH;clear hH;simp[xH,go_sem,q0,BK,BZ];exact⟨zS7 As.out.1 As.out.2 he,Ext.refl _⟩
   apply ZQ;intro w4 Av hH;have hy:∃g c,Bi=.slice (some ⟨g,0,none⟩) a c∧zFS w3.heap.size (JE.take a) g c w4:=hH _ (List.mem_cons_self ..);clear hH;obtain⟨g4,c4,rfl,hF⟩:=hy;obtain⟨g5,c5,w5,AL,AK,A0,A5⟩:=zQ8 hF Av (zU _) 22 g1 oe (295-e0) (295-e0) AW.symm (Az.out.ext Av) (by rw[AV,AW]; omega);rw[AV] at AL AK;have AO:=yE (HX.out.trans A0);have AS:=yE A5;have Ae:Hid ((JE.take a++JE.drop e0).length=a+(295-e0)):=yE (by rw[yN,AV,AW]);have Ai:=yE AK;(try simp only[Act.put,yB,yD,yC]);refine zOg rfl (.tmp 38) (.tmp 45) rfl _ _ _ _ (by kernel_rfl) (by kernel_rfl) AL ?_;clear AL hF Av A0 A5 AK v1 v2 A4 Az
   go_wp2_with fail
   refine(zAy (some ⟨g5,0,none⟩) (JE.take a++JE.drop e0) (a+(295-e0)) c5 w5 (HG.out.ext (Ad.out.trans AO.out)) Ae.out.symm (by rw[Ae.out]; exact Ai.out) (fun h=>by cases h) AS.out).mono ?_;rintro e w6 ⟨rfl,Au⟩;have AH:=yE (AO.out.trans Au);have Aj:=yE (AS.out.ext Au);clear Au AO AS
   go_wp2_with fail
   refine(zIe (some ⟨g1,0,none⟩) JE 295 295 (i:Int) w6 (HG.out.ext (Ad.out.trans AH.out)) AA.out.symm (by rw[AA.out]; decide) (fun h=>by cases h) (AZ.out.ext AH.out)).mono ?_;rintro e w7 ⟨rfl,Ap⟩;have AD:=yE (AH.out.trans Ap);have AJ:=yE (Aj.out.ext Ap);clear Ap AH Aj
   by_cases h4:i % 4=0
   ·have e1:Int.tmod (i:Int) 4=0:=by rw[Int.tmod_eq_emod_of_nonneg (by omega)]; omega
    go_wp2_with fail
    refine(zFB (some ⟨g5,0,none⟩) (JE.take a++JE.drop e0) (a+(295-e0)) c5 w7 (HG.out.ext (Ad.out.trans AD.out)) Ae.out.symm (by rw[Ae.out]; exact Ai.out) (fun h=>by cases h) AJ.out (BR.out h4)).mono ?_;rintro e w8 ⟨rfl,AR⟩;have AF:=yE (AD.out.trans AR);clear AR
    go_wp2_with fail
    go_roundw
    case rel=>exact⟨i+1,by omega,by go_num,AF⟩
    case measure=>simp[intOf]; omega
   ·have e2:¬(Int.tmod (i:Int) 4=0):=by rw[Int.tmod_eq_emod_of_nonneg (by omega)]; omega
    have e1:(Int.tmod (i:Int) 4==0)=false:=beq_eq_false_iff_ne.2 e2
    go_wp2_with fail
    go_roundw
    case rel=>exact⟨i+1,by omega,by go_num,AD⟩
    case measure=>simp[intOf]; omega
  obtain rfl:i=ts.length:=by omega
  have d0:decide ((ts.length:Int)<(ts.length:Int))=false:=by simp
  have d1:decide (ts.length<ts.length)=false:=by simp
  have Ag:=yE (Ad.out.trans HX.out);have Af:=yE (AZ.out.ext HX.out)
  go_wp2_with fail
  clear d0 d1 HX AZ
  go_loopw [6] (fun i' wr=>∃i:Nat,i≤296∧i % 2=0∧i'=.int .i64 i∧Hid (Ext w3 wr)) (fun i' _=>300-(intOf i').toNat)
  case atStart=>exact⟨0,by decide,rfl,rfl,yE (Ext.refl _)⟩
  case round=>
   obtain⟨i,hi,Bq,rfl,HX⟩:=hrel;obtain⟨w5,rfl⟩:∃w5:World,w5=wr:=⟨_,rfl⟩
   by_cases AQ:i<295
   ·have d0:decide ((i:Int)<295)=true:=yQ (by omega);have k1:(convert 22 9 (.slice (some ⟨g1,0,none⟩) 295 295)).run Tryz.prog w5=.ok (.string (xE JE)) w5:=jZ (P:=Tryz.prog) Tryz.underlying22 Tryz.underlying5 Tryz.underlying9 AA.out.symm (Af.out.ext HX.out);have k2:=(zEz w5 JE).1;have AE:=yE (zHb w5 JE);have AH:=yE (zGp w5 JE);rw[AA.out] at k2 AE
    go_upto_region 15 with fail
    clear k1 k2 d0;generalize grownCap w5 295 0 5=c6 at *;generalize Lib.bytesWorld w5 5 (xE JE)=w6 at *;have BM:=yE (show w5.heap.size≤w5.heap.size from zU _);generalize hg6:w5.heap.size=g6 at AE ⊢;have A1:=yE hg6;clear hg6 BM
    have BU:((i / 2 % 8:Nat):Int)<8:=by omega
    have v8:=zEv w6 #[.int .u8 59,.int .u8 123,.int .u8 41,.int .u8 116,.int .u8 61,.int .u8 45,.int .u8 49,.int .u8 32] 8 rfl;have AD:=yE (zJa w6 #[.int .u8 59,.int .u8 123,.int .u8 41,.int .u8 116,.int .u8 61,.int .u8 45,.int .u8 49,.int .u8 32] 8);have AJ:=yE (zFm w6 #[.int .u8 59,.int .u8 123,.int .u8 41,.int .u8 116,.int .u8 61,.int .u8 45,.int .u8 49,.int .u8 32] 8 [59,123,41,116,61,45,49,32] rfl)
    obtain⟨x,hx⟩:∃x:UInt8,((w6.alloc (.cells #[.int .u8 59,.int .u8 123,.int .u8 41,.int .u8 116,.int .u8 61,.int .u8 45,.int .u8 49,.int .u8 32] 5)).freeze ⟨w6.heap.size,8,none⟩ 1).cell? ⟨w6.heap.size,i / 2 % 8,none⟩=some (.int .u8 (x.toNat:Int)):=by
     obtain⟨b,o,e,_,hc⟩:=AJ.out.at_ (by decide);injection e with e;injection e with e1 e2;subst e1 e2;have hj:i / 2 % 8<8:=Nat.mod_lt _ (by decide);have h:=hc (i / 2 % 8) hj;rw[Nat.zero_add] at h;refine⟨([59,123,41,116,61,45,49,32]:Bs)[i / 2 % 8]'hj,h.trans ?_⟩;unfold xL;rw[zM,yH hj]
     rfl
    obtain⟨u,hu⟩:∃u,((w6.alloc (.cells #[.int .u8 59,.int .u8 123,.int .u8 41,.int .u8 116,.int .u8 61,.int .u8 45,.int .u8 49,.int .u8 32] 5)).freeze ⟨w6.heap.size,8,none⟩ 1).cell? ⟨g6,i,none⟩=some u:=by
     rw[World.cell?_of_block (a:=⟨g6,i,none⟩) (AD.out.block g6 AE.out.lt)];exact Option.isSome_iff_exists.1 (AE.out.room i (by have:=AE.out.le; rw[AA.out] at this; omega)).1
    have Be:((w6.alloc (.cells #[.int .u8 59,.int .u8 123,.int .u8 41,.int .u8 116,.int .u8 61,.int .u8 45,.int .u8 49,.int .u8 32] 5)).freeze ⟨w6.heap.size,8,none⟩ 1).frozen? ⟨g6,i,none⟩=false:=by
     rw[World.frozen?_of_block (a:=⟨g6,i,none⟩) (AD.out.block g6 AE.out.lt)];exact(AE.out.room i (by have:=AE.out.le; rw[AA.out] at this; omega)).2
    have Aq:=AE.out.lt
    have BI:(i:Int)<295:=by omega
    go_upto_region 16 with fail
    have AX:Hid (Cells (((w6.alloc (.cells #[.int .u8 59,.int .u8 123,.int .u8 41,.int .u8 116,.int .u8 61,.int .u8 45,.int .u8 49,.int .u8 32] 5)).freeze ⟨w6.heap.size,8,none⟩ 1).setCell ⟨g6,i,none⟩ (.int .u8 (x.toNat:Int))) (some ⟨g6,0,none⟩) (xL (JE.set i x))):=yE (zPN (AE.out.cells.ext AD.out) i (by rw[AA.out]; exact AQ) x);have AF:Hid (Ext w3 (((w6.alloc (.cells #[.int .u8 59,.int .u8 123,.int .u8 41,.int .u8 116,.int .u8 61,.int .u8 45,.int .u8 49,.int .u8 32] 5)).freeze ⟨w6.heap.size,8,none⟩ 1).setCell ⟨g6,i,none⟩ (.int .u8 (x.toNat:Int)))):=yE (((HX.out.trans AH.out).trans AD.out).set (by have:=A1.out; have:=HX.out.size; omega));have Ai:=yE AE.out.le;have A9:Hid ((JE.set i x).length=295):=yE (by rw[zB]; exact AA.out);clear v8 hx hu Be Aq AD AJ AE BU A1;generalize ((w6.alloc (.cells #[.int .u8 59,.int .u8 123,.int .u8 41,.int .u8 116,.int .u8 61,.int .u8 45,.int .u8 49,.int .u8 32] 5)).freeze ⟨w6.heap.size,8,none⟩ 1).setCell ⟨g6,i,none⟩ (.int .u8 (x.toNat:Int))=w8 at *
    go_wp2_with fail
    refine(zAy (some ⟨g6,0,none⟩) (JE.set i x) 295 c6 w8 (HG.out.ext (Ag.out.trans AF.out)) A9.out.symm (by rw[A9.out,←AA.out]; exact Ai.out) (fun h=>by cases h) AX.out).mono ?_;rintro e w9 ⟨rfl,BF⟩;have AM:=yE (AF.out.trans BF);have Bd:Hid (Cells w9 (some ⟨g1,0,none⟩) (xL (JE.take i))):=yE (by rw[←zEO]; exact(Af.out.ext AM.out).take _);have A8:Hid ((JE.take i).length=i):=yE (by rw[List.length_take,AA.out]; omega);clear BF AF AX
    have Bt:(i:Int)≤295:=by omega
    have BV:i≤295:=by omega
    go_wp2_with fail
    refine(zAy (some ⟨g1,0,none⟩) (JE.take i) i 295 w9 (HG.out.ext (Ag.out.trans AM.out)) A8.out.symm (by rw[A8.out]; exact BV) (fun h=>by cases h) Bd.out).mono ?_;rintro e Ar ⟨rfl,AB⟩;have AC:=yE (AM.out.trans AB);clear AB
    go_wp2_with fail
    go_roundw
    case rel=>exact⟨i+2,by omega,by omega,by go_num,AC⟩
    case measure=>simp[intOf]; omega
   have d0:decide ((i:Int)<295)=false:=yP (by omega);have d1:decide (i<295)=false:=yP AQ;have AO:=yE (Ag.out.trans HX.out);have AS:=yE (Af.out.ext HX.out)
   go_upto_region 18 with fail
   clear d0 d1 HX Ag Af
   go_wp2_with fail
   have AH:Hid (Ext w (w5.alloc (.cells #[.int .i64 60,.int .i64 61,.int .i64 62,.int .i64 63,.int .i64 64,.int .i64 65] 3))):=yE (AO.out.trans (Ext.alloc _ _));have Aj:=yE (AS.out.ext (Ext.alloc w5 (.cells #[.int .i64 60,.int .i64 61,.int .i64 62,.int .i64 63,.int .i64 64,.int .i64 65] 3)));have BN:Hid (Blk (w5.alloc (.cells #[.int .i64 60,.int .i64 61,.int .i64 62,.int .i64 63,.int .i64 64,.int .i64 65] 3)) w5.heap.size 3 #[.int .i64 60,.int .i64 61,.int .i64 62,.int .i64 63,.int .i64 64,.int .i64 65]):=yE (Blk.new _ _ _);clear AO AS;generalize w5.alloc (.cells #[.int .i64 60,.int .i64 61,.int .i64 62,.int .i64 63,.int .i64 64,.int .i64 65] 3)=w6 at *;generalize w5.heap.size=g6 at *
   go_loopw [97] (fun i' wr=>∃n:Nat,n≤6∧i'=.int .i64 n∧Hid (Ext w6 wr)) (fun i' _=>6-(intOf i').toNat)
   case atStart=>exact⟨0,by decide,rfl,yE (Ext.refl _)⟩
   case round=>
    obtain⟨n,hn,rfl,AY⟩:=hrel;obtain⟨w7,rfl⟩:∃w7:World,w7=wr:=⟨_,rfl⟩
    by_cases Bk:n<6
    ·have d0:decide ((n:Int)<6)=true:=yQ (by omega)
     have q0:(n:Int)<6:=by omega
     obtain⟨nn,Aw⟩:∃nn,Hid (60+n=nn):=⟨_,yE rfl⟩
     have Br:nn≤65:=by have:=Aw.out; omega
     have y0:w7.cell? ⟨g6,n,none⟩=some (.int .i64 (nn:Int)):=by
      rw[←Aw.out,(BN.out.ext AY.out).cell n]
      have:n=0∨n=1∨n=2∨n=3∨n=4∨n=5:=by omega
      rcases this with rfl | rfl | rfl | rfl | rfl | rfl <;> rfl
     go_upto_region 21 with fail
     clear d0 q0 y0
     go_cut [106,107,108] from 101 to 109 (fun sa sb sc wx=>∃g,sa=.slice (some ⟨g,0,none⟩) 5 5∧sb=.int .i64 5∧sc=.int .i64 0∧Hid (zMG wx g)∧Hid (Ext w7 wx))
     case first=>
      go_wp2_with fail
      go_meet
      exact⟨_,rfl,rfl,rfl,yE (And.left (zM5 rfl rfl rfl rfl rfl rfl (zAE (by decide)) (zAE (by decide)) (zAE (by decide)) (zAE (by decide)) (zAE (by decide)))),yE (And.right (zM5 rfl rfl rfl rfl rfl rfl (zAE (by decide)) (zAE (by decide)) (zAE (by decide)) (zAE (by decide)) (zAE (by decide))))⟩
     case rest=>
     obtain⟨g8,rfl,rfl,rfl,Bf,AF⟩:=hcut;generalize wc=w8 at *
     go_wp2_with fail
     go_loopw [108] (fun i' wr=>∃j:Nat,j≤5∧i'=.int .i64 j∧Hid (Ext w8 wr)) (fun i' _=>5-(intOf i').toNat)
     case atStart=>exact⟨0,by decide,rfl,yE (Ext.refl _)⟩
     case round=>
      obtain⟨j,hj,rfl,Ah⟩:=hrel;obtain⟨w9,rfl⟩:∃w9:World,w9=wr:=⟨_,rfl⟩
      by_cases Bg:j<5
      ·have d0:decide ((j:Int)<5)=true:=yQ (by omega)
       have q0:(j:Int)<5:=by omega
       obtain⟨hh,hs,Bo,AP⟩:=(Bf.out.ext Ah.out).2 j Bg;obtain⟨x0,c0,z0⟩:=AP 0 (by decide);obtain⟨x1,c1,z1⟩:=AP 1 (by decide);obtain⟨x2,Bn,z2⟩:=AP 2 (by decide);obtain⟨x3,c3,z3⟩:=AP 3 (by decide);obtain⟨x4,c4,z4⟩:=AP 4 (by decide);clear AP
       go_wp2_with fail
       clear d0 hs
       go_loopw [12,13] (fun s' i' wr=>∃(k:Nat) (s:ByteArray),k≤nn∧i'=.int .i64 k∧s'=.string s∧s.size≤21+21*k∧Hid (wr=w9)) (fun _ i' _=>nn-(intOf i').toNat)
       case atStart=>exact⟨0,x0,zT _,rfl,rfl,z0,yE rfl⟩
       case round=>
        obtain⟨k,s,hk,rfl,rfl,Bm,HW⟩:=hrel;have hw:w9=_:=HW.out.symm;subst hw
        by_cases Bp:k<nn
        ·have d0:decide ((k:Int)<(nn:Int))=true:=yQ (by omega)
         have Ac:¬(9223372036854775807<s.size+x1.size):=by omega
         go_wp2_with fail
         go_roundw
         case rel=>exact⟨k+1,s++x1,by omega,by go_num,rfl,by rw[ByteArray.size_append]; omega,by first | exact yE rfl | exact yE trivial⟩
         case measure=>simp[intOf]; omega
        obtain rfl:nn=k:=by omega
        have d0:decide ((nn:Int)<(nn:Int))=false:=by simp
        have d1:decide (nn<nn)=false:=by simp
        have Ac:¬(9223372036854775807<s.size+x2.size):=by omega
        go_wp2_with fail
        clear d0 d1 Ac
        go_loopw [12,14] (fun s' i' wr=>∃(k:Nat) (s:ByteArray),k≤nn∧i'=.int .i64 k∧s'=.string s∧s.size≤2000+21*k∧Hid (wr=w9)) (fun _ i' _=>nn-(intOf i').toNat)
        case atStart=>exact⟨0,s++x2,zT _,rfl,rfl,by rw[ByteArray.size_append]; omega,by first | exact yE rfl | exact yE trivial⟩
        case round=>
         obtain⟨k2,s2,Bl,rfl,rfl,Bc,BY⟩:=hrel;have BQ:w9=_:=BY.out.symm;subst BQ
         by_cases BW:k2<nn
         ·have d0:decide ((k2:Int)<(nn:Int))=true:=yQ (by omega)
          have Ac:¬(9223372036854775807<s2.size+x3.size):=by omega
          go_wp2_with fail
          go_roundw
          case rel=>exact⟨k2+1,s2++x3,by omega,by go_num,rfl,by rw[ByteArray.size_append]; omega,by first | exact yE rfl | exact yE trivial⟩
          case measure=>simp[intOf]; omega
         obtain rfl:nn=k2:=by omega
         have d0:decide ((nn:Int)<(nn:Int))=false:=by simp
         have d1:decide (nn<nn)=false:=by simp
         have Ac:¬(9223372036854775807<s2.size+x4.size):=by omega
         obtain⟨B,HB⟩:∃B:Bs,Hid (s2++x4=xE B):=⟨(s2++x4).data.toList,yE (zRN _)⟩
         have BC:(convert 9 22 (.string (s2++x4))).run Tryz.prog w9=.ok (.slice (some ⟨w9.heap.size,0,none⟩) B.length (grownCap w9 B.length 0 5)) (Lib.bytesWorld w9 5 (xE B)):=by rw[HB.out]; exact(zEz w9 B).1
         have HF:=yE (zHb w9 B);have An:=yE (zGp w9 B);generalize grownCap w9 B.length 0 5=cB at *;generalize hwB:Lib.bytesWorld w9 5 (xE B)=wB at *;clear hwB;generalize hgB:w9.heap.size=gB at BC HF
         go_wp2_with fail
         refine(zAy (some ⟨gB,0,none⟩) B B.length cB wB (HG.out.ext (AH.out.trans (AY.out.trans (AF.out.trans (Ah.out.trans An.out))))) rfl HF.out.le (fun h=>by cases h) HF.out.cells).mono ?_;rintro e Ar ⟨rfl,AB⟩;have AC:=yE (Ah.out.trans (An.out.trans AB));clear AB BC HF An hgB d0 d1 Ac
         go_wp2_with fail
         go_roundw
         case rel=>exact⟨j+1,by omega,by go_num,AC⟩
         case measure=>simp[intOf]; omega
      obtain rfl:j=5:=by omega
      go_wp2_with fail
      go_roundw
      case rel=>exact⟨n+1,by omega,by go_num,yE (AY.out.trans (AF.out.trans Ah.out))⟩
      case measure=>simp[intOf]; omega
    obtain rfl:n=6:=by omega
    have AD:=yE (AH.out.trans AY.out);have AJ:=yE (Aj.out.ext AY.out)
    go_wp2_with fail
    refine(zFB (some ⟨g1,0,none⟩) JE 295 295 w7 (HG.out.ext AD.out) AA.out.symm (by rw[AA.out]; decide) (fun h=>by cases h) AJ.out zUZ).mono ?_;rintro e w8 ⟨rfl,AR⟩;have AF:=yE (AD.out.trans AR);have AX:=yE (AJ.out.ext AR);clear AR AD AJ
    go_wp2_with fail
    have Am:Ext w8 (w8.alloc (.cells #[.int .u8 1,.int .u8 2,.int .u8 3,.int .u8 0,.int .u8 3] 5)):=Ext.alloc _ _;have A7:Hid (Cells (w8.alloc (.cells #[.int .u8 1,.int .u8 2,.int .u8 3,.int .u8 0,.int .u8 3] 5)) (some ⟨w8.heap.size,0,none⟩) (xL [1,2,3,0,3])):=yE (Cells.new w8 5 #[.int .u8 1,.int .u8 2,.int .u8 3,.int .u8 0,.int .u8 3]);have AM:=yE (AF.out.trans Am);have Ay:=yE (AX.out.ext Am);clear Am AF AX;generalize w8.alloc (.cells #[.int .u8 1,.int .u8 2,.int .u8 3,.int .u8 0,.int .u8 3] 5)=w9 at *;generalize w8.heap.size=g9 at *;refine(zIx (some ⟨g1,0,none⟩) (some ⟨g9,0,none⟩) JE [1,2,3,0,3] 295 5 295 5 w9 (HG.out.ext AM.out) AA.out.symm rfl (by rw[AA.out]; decide) (fun h=>by cases h) Ay.out A7.out).mono ?_;rintro e Ar ⟨rfl,AB⟩;have AC:=yE (AM.out.trans AB);clear AB AM Ay A7
    go_wp2_with fail
    refine(zAy none [] 0 0 Ar (HG.out.ext AC.out) rfl (zU _) (fun _=>rfl) (.inl rfl)).mono ?_;rintro e AI ⟨rfl,AU⟩;have Ab:=yE (AC.out.trans AU);clear AU AC;have v1:=fun W=>zEv W #[.int .u8 112,.int .u8 114,.int .u8 111,.int .u8 99] 4 rfl
    go_wp2_with fail
    have Ak:Hid (Cells ((AI.alloc (.cells #[.int .u8 112,.int .u8 114,.int .u8 111,.int .u8 99] 5)).freeze ⟨AI.heap.size,4,none⟩ 1) (some ⟨AI.heap.size,0,none⟩) (xL [112,114,111,99])):=yE (zFm AI _ 4 [112,114,111,99] rfl);have AN:=yE (Ab.out.trans (zJa AI #[.int .u8 112,.int .u8 114,.int .u8 111,.int .u8 99] 4));clear v1 Ab;generalize (AI.alloc (.cells #[.int .u8 112,.int .u8 114,.int .u8 111,.int .u8 99] 5)).freeze ⟨AI.heap.size,4,none⟩ 1=BP at *;generalize AI.heap.size=BJ at *;refine(zAy (some ⟨BJ,0,none⟩) [112,114,111,99] 4 4 BP (HG.out.ext AN.out) rfl (by decide) (fun h=>by cases h) Ak.out).mono ?_;rintro e Bh ⟨rfl,Aa⟩;have AT:=yE (AN.out.trans Aa);clear Aa AN
    go_wp2_with fail
    refine(YM Bh (HG.out.ext AT.out)).mono ?_;rintro e w' ⟨rfl,hx⟩
    go_wp2_with fail
    go_ret;exact⟨rfl,AT.out.trans hx⟩
end Go.Proofs.YtioffpjajhalaaaGreatDoor
