/- interlockref06.Print, walked: any tree. (and what follows of it). The conditions stand at each lemma. -/
import Derived.Test.YtioffpjajhalaaaGreatDoorLaa
import Derived.Test.YtioffpjajhalaaaGreatDoorLbe
import Derived.Test.YtioffpjajhalaaaGreatDoorLbf
import Derived.Test.YtioffpjajhalaaaGreatDoorLbi
set_option linter.unusedVariables false
set_option linter.unusedSimpArgs false
set_option maxRecDepth 100000
set_option maxHeartbeats 16000000
namespace Go.Proofs.YtioffpjajhalaaaGreatDoor
open Go Go.RowKit
theorem zHC {k:Nat}{t:Bs}{x:Int}{kk:List Nat}(h:ZY k t x kk)(hk:k=2∨k=4)(j:Nat)(hj:j<kk.length):kk.getD j 0=5:=by
 have hf:TT.zAP (xG kk) 0 5=true:=by
  rcases hk with rfl | rfl
  ·have h9:(decide (0<(xG kk).length)&&TT.zAP (xG kk) 0 5)=true:=h.2.2.2;rw[zF] at h9;exact h9.2
  ·exact h.2.2.2
 unfold TT.zAP at hf;rw[List.drop_zero,zG] at hf
 have hb:TT.zE6 5 ((kk.getD j 0:Nat):Int)=true:=hf _ (by
  unfold xG;rw[yS];refine⟨kk[j],yL hj,?_⟩;rw[yE,yG hj]
  rfl)
 unfold TT.zE6 at hb;rw[if_neg (by decide),if_neg (by decide),zN] at hb;omega
theorem zIF {t:Bs}{x:Int}{kk:List Nat}(h:ZY 3 t x kk):kk.getD 0 0=4:=by
 have hf:TT.isR (kk.map fun (j:Nat)=>(j:Int)) [4,6]=true:=h.2.2.2;have h2:=zCq hf 0 (by decide);rw[JY] at h2;have h2:((kk.getD 0 0:Int)==4)=true:=h2;rw[zN] at h2;omega
theorem zDF (w:World)(A:Option Addr)(n c:Nat)(L:List TT.xB)(hT:TT.vV w A L)(hn:n=L.length)(f:Fo)(a:Nat)(hL:VE L a f)(hok:f.ok 0)(hw:f.wt≤1000000)(hs:f.size≤1000)(h5:∀j,j<f.kinds.length→f.kinds.getD j 0=5)(B:Option Addr)(m d:Nat)(hm:m=(f.roots a).length)(hB:Cells w B (TT.xD (xG (f.roots a)))) :
  ∀w',Ext w w'→Calls Tryz.prog 58 #[.slice A n c,.slice B m d] w' fun e w''=>e=.returned (.string (yX (vB f.txt)))∧Ext w' w'':=fun w' hx=>by
 have h1:=XU f hok;have h2:=jO f a;refine zIf w' A n c L B m d (f.roots a) f.txt hm (hB.ext hx) (YU f a) (fun j hj=>?_) (by omega) (by omega);obtain⟨k',t',x',c2,y,e1,e2,_,e4,_,_,_,_,_,_,AB,_⟩:=zEr f a hL hok j hj;have AA:=h5 j (by rw[ZR f a]; exact hj)
 have h6:k'=5:=by rw[←AB]; exact AA
 rw[zHA f a hL j hj y e1 t' e4 AA];exact(zGX w A n c L hT hn _ y e1 (by rw[e2,h6]; rfl) t' e4).ext hx
theorem zSb {L:List TT.xB}:∀(f:Fo) (a:Nat),VE L a f→f.ok 0→∀j (hj:j<(f.roots a).length) (y:TT.xB),L[(f.roots a)[j]]?=some y→∀t,y.text=yX t→t.length≤f.wt
 | .nil,a,_,_=>fun j hj=>by cases hj
 | .cons k p t0 x c r,a,⟨⟨m,hm,_,_,ht,_⟩,_,hr⟩,hok=>fun j hj y hy t AA=>by
  show t.length≤t0.length+30+c.wt+r.wt
  cases j with
  | zero=>
   have e:L[a]?=some y:=hy;rw[hm] at e;injection e with e;subst e;rw[AA] at ht
   have ht:t=t0:=by simpa [yX] using ht
   subst ht;omega
  | succ j=>
   have:=zSb r _ hr hok.2.2 j (Nat.lt_of_succ_lt_succ hj) y hy t AA
   omega
theorem zNW (w:World)(A:Option Addr)(n c:Nat)(L:List TT.xB)(hn:n=L.length)(hT:TT.vV w A L)(hlen:L.length≤9000)(hsm:∀x ∈ L,TT.zBz x)(hr:TT.JN L=false) :
  Calls Tryz.prog 26 #[.slice A n c] w fun e w'=>e=.returned (.tuple #[.string ⟨#[]⟩,.int .i64 2])∧Ext w w':=by
 have HR:=yD (TT.zG3 L A n c w hn hT hlen hsm false (yD hr));clear hT hn hlen hsm hr
 go_enter Tryz.func26,Tryz.ntmps26
 go_wp2_with fail
 refine HR.out.mono ?_;rintro e w2 ⟨rfl,AA⟩;have AB:=yD AA;clear AA
 go_wp2_with fail
 go_ret2;exact⟨rfl,AB.out⟩
def zG6 (w:World)(out:Bs)(e:Ending)(w':World):Prop:=
 (65536<out.length→e=.returned (.tuple #[.string ⟨#[]⟩,.int .i64 3])) ∧
 (out.length≤65536→e=.returned (.tuple #[.string (yX out),.int .i64 0]))∧Ext w w'
theorem zM2 (w:World)(A:Option Addr)(n c:Nat)(L:List TT.xB)(hn:n=L.length)(hT:TT.vV w A L)(hlen:L.length≤9000)(hsm:∀x ∈ L,TT.zBz x)(hr:TT.JN L=true)(hpw:PW w)(hcap:∀x ∈ L,x.kids.length≤x.kc)
  (t1:Bs) (x1:Int) (f:Fo) (hL:VE L 0 (Fo.one 1 0 t1 x1 f)) (hok:(Fo.one 1 0 t1 x1 f).ok 0) (hwt:f.wt≤1000000) (hsz:f.size≤900) :
  Calls Tryz.prog 26 #[.slice A n c] w (zG6 w f.print):=by
 subst hn;have HR:=yD (TT.zG3 L A L.length c w rfl hT hlen hsm true (yD hr));have A6:Hid (f.print.length≤10000000000):=yD (Nat.le_trans (zH5 f hok.2.1 hsz) (zGN hwt (by omega)));obtain⟨⟨x,AV,Bh,AQ,Bk,Ao⟩,hf,Bg⟩:=hL;have A8:x.kids=xG (f.roots 1):=Ao;clear AQ Bk Ao Bg;have A0:0<L.length:=(List.getElem?_eq_some_iff.1 AV).1
 have BN:L[0]=x:=by rw[yG A0] at AV; exact Option.some.inj AV
 obtain⟨tb,tf,hA,AW,Bn⟩:=hT.at_ 0 A0;have Bl:Hid (Cells w x.kA (TT.xD (xG (f.roots 1)))):=yD (by rw[←A8]; exact(hT.ok x (zY AV)).kids);have HT:=yD hT;have BZ:=yD hpw;have BY:Hid (VE L 1 f):=yD hf;have BQ:Hid (f.ok 0):=yD hok.2.1;have Bc:=yD hwt;have Ax:=yD hsz;have Bb:=yD hcap;have Bi:=yD hok.1.1;have Bf:Hid (x.kids.length=(f.roots 1).length):=yD (by rw[A8]; simp[xG]);have Bj:=yD BN;have BT:=yD AW
 have q0:(0:Int)<(L.length:Int):=by omega
 subst hA;clear hT hlen hsm hr hpw hf hok hwt hsz hcap A8 AV Bh BN AW Bn
 go_enter Tryz.func26,Tryz.ntmps26
 go_wp2_with fail
 refine HR.out.mono ?_;rintro e w0 ⟨rfl,AV⟩;have BV:=yD AV;clear AV HR
 go_wp2_with fail
 go_loopw [4,5] (fun sv iv wr=>∃j:Nat,j≤(f.roots 1).length∧iv=.int .i64 j∧sv=.string (yX (f.top.take j).flatten)∧Hid (Ext w wr)) (fun _ iv _=>(f.roots 1).length-(intOf iv).toNat)
 case atStart=>exact⟨0,zT _,rfl,rfl,BV⟩
 case round=>
  clear BV;obtain⟨j,hj,rfl,rfl,HX⟩:=hrel;obtain⟨wa,rfl⟩:∃wa:World,wa=wr:=⟨_,rfl⟩
  have BK:∀i (hi:i<L.length) z,z<5→wa.cell? ⟨tb,tf+i*5+z,none⟩=(L[i].cells)[z]?:=fun i hi z hz=>by
   obtain⟨Br,Bq,hA,_,hc⟩:=(HT.out.ext HX.out).at_ i hi;injection hA with hA;injection hA with e1 e2;subst e1 e2;exact hc z hz
  have AY:=yD BK;clear BK
  have v4:wa.cell? ⟨tb,tf+4,none⟩=some (.slice x.kA (f.roots 1).length x.kc):=by
   have h9:=AY.out 0 A0 4 (by decide);rw[Bj.out,Nat.zero_mul,Nat.add_zero] at h9;rw[←Bf.out];exact h9
  by_cases AA:j<(f.roots 1).length
  rotate_left
  ·obtain rfl:j=(f.roots 1).length:=by omega
   have d0:decide (((f.roots 1).length:Int)<((f.roots 1).length:Int))=false:=by simp
   have d1:decide ((f.roots 1).length<(f.roots 1).length)=false:=by simp
   have BP:Hid ((f.top.take (f.roots 1).length).flatten=f.print):=yD (by rw[List.take_of_length_le (by rw[zDb f 1]; exact zU _)]; rfl);rw[BP.out];have At:(yX f.print).size=f.print.length:=bsz _;clear BP;generalize f.print=fp at *
   by_cases AT:65536<fp.length
   ·have e0:decide (((yX fp).size:Int) > 65536)=true:=yP (by omega);have e1:decide ((65536:Int)<((yX fp).size:Int))=true:=e0;have Ad:=yD AT;clear AT At
    go_wp2_with fail
    go_ret2;exact⟨fun _=>rfl,fun h=>absurd h (by have:=Ad.out; omega),HX.out⟩
   ·have e0:decide (((yX fp).size:Int) > 65536)=false:=yO (by omega);have e1:decide ((65536:Int)<((yX fp).size:Int))=false:=e0;have Ad:=yD AT;clear AT At
    go_wp2_with fail
    go_ret2;exact⟨fun h=>absurd h Ad.out,fun _=>rfl,HX.out⟩
  have d0:decide ((j:Int)<((f.roots 1).length:Int))=true:=yP (by omega);have d1:decide (j<(f.roots 1).length)=true:=yP AA
  have q1:(j:Int)<((f.roots 1).length:Int):=by omega
  obtain⟨k,t,num,c',y,hy,Bd,Be,BD,BE,BH,BL,BR,BO,BI,Aj,AU,_⟩:=zEr f 1 BY.out BQ.out j AA;have BF:Hid (k=2∨k=3):=yD (by rw[←Aj]; exact zEN Bi.out j (by rw[ZR f 1]; exact AA));obtain⟨xb,xf,BJ,_,BM⟩:=(Bl.out.ext HX.out).at_ (by simp[TT.xD,xG]; omega);rw[BJ] at v4
  have v5:wa.cell? ⟨xb,xf+j,none⟩=some (.int .i64 (((f.roots 1)[j]'AA:Nat):Int)):=by
   rw[BM j (by simp[TT.xD,xG]; exact AA)];simp[TT.xD,xG,AA]
  clear BM BJ;have AE:(f.roots 1)[j]'AA<L.length:=(List.getElem?_eq_some_iff.1 hy).1
  have BU:L[(f.roots 1)[j]'AA]=y:=by rw[yG AE] at hy; exact Option.some.inj hy
  have A3:Hid ((f.top.take (j+1)).flatten=(f.top.take j).flatten++zC3 k t num c'.txt c'.inn ((c'.st 1).map Prod.snd)):=yD (by
   have BW:j<f.top.length:=by rw[zDb f 1]; exact AA
   rw[←AU,List.take_add_one,yG BW,List.flatten_append,yE,yG BW]
   simp)
  have Bo:(yX (f.top.take j).flatten).size≤10000000000:=by
   rw[bsz];refine Nat.le_trans ?_ A6.out;unfold Fo.print
   conv=>rhs; rw[←List.take_append_drop j f.top]
   rw[List.flatten_append,yM];omega
  have Am:y.kids.length=(c'.roots ((f.roots 1)[j]+1)).length:=by rw[BE]; exact yN ..
  have Ay:Hid (Cells w y.kA (TT.xD (xG (c'.roots ((f.roots 1)[j]'AA+1))))):=yD (by rw[←BE]; exact(HT.out.ok y (zY hy)).kids);have z0:=AY.out _ AE 0 (by decide);have z1:=AY.out _ AE 1 (by decide);have z2:=AY.out _ AE 2 (by decide);have z3:=AY.out _ AE 3 (by decide);have z4:=AY.out _ AE 4 (by decide);rw[BU] at z0 z1 z2 z3 z4
  have BA:wa.cell? ⟨tb,tf+(f.roots 1)[j]'AA*5,none⟩=some (.int .u8 (k:Int)):=by rw[←Bd]; exact z0
  have A9:wa.cell? ⟨tb,tf+(f.roots 1)[j]'AA*5+1,none⟩=some (.int .i64 y.pos):=z1
  have A5:wa.cell? ⟨tb,tf+(f.roots 1)[j]'AA*5+2,none⟩=some (.string (yX t)):=by rw[←BD]; exact z2
  have A2:wa.cell? ⟨tb,tf+(f.roots 1)[j]'AA*5+3,none⟩=some (.int .i64 num):=by rw[←Be]; exact z3
  have Af:wa.cell? ⟨tb,tf+(f.roots 1)[j]'AA*5+4,none⟩=some (.slice y.kA (c'.roots ((f.roots 1)[j]'AA+1)).length y.kc):=by rw[←Am]; exact z4
  have q2:(((f.roots 1)[j]'AA:Nat):Int)<(L.length:Int):=by omega
  have Bp:(yX t).size≤1000000:=by
   rw[bsz];have h1:=zSb f 1 BY.out BQ.out j AA y hy t BD
   have:=Bc.out
   omega
  have Aq:=yD BH;have AX:=yD BL;have Ae:=yD BR;have AR:Hid (c'.wt≤1000000):=yD (Nat.le_trans BO Bc.out);have AO:Hid (c'.size≤900):=yD (Nat.le_trans BI Ax.out);have HJ:=yD AA;clear z0 z1 z2 z3 z4 BU hy Bd Be BD BE BH BL BR BO BI Aj AU Am AE;generalize hri:(f.roots 1)[j]'AA=ri at *;clear hri AA;generalize y.kA=kA at *;generalize y.kc=kc at *;generalize y.pos=pos at *;obtain⟨ks,AD⟩:∃ks,Hid (c'.roots (ri+1)=ks):=⟨_,yD rfl⟩;rw[AD.out] at Af Ay
  rcases BF.out with rfl | rfl
  ·have Au:=yD (zDF w _ L.length c L HT.out rfl c' (ri+1) Aq.out AX.out AR.out (by have:=AO.out; omega) (fun i hi=>zHC Ae.out (.inl rfl) i hi) kA ks.length kc (by rw[AD.out]) (by rw[AD.out]; exact Ay.out))
   have BX:(yX (vB c'.txt)).size≤10000000:=by
    rw[bsz];have h1:=YS c'.txt;have h2:=XU c' AX.out;have h3:=YU c' 0;have h4:=jO c' 0;have h5:=zBF c'
    have:=AR.out
    omega
   have AL:Hid (yX (f.top.take (j+1)).flatten=yX (f.top.take j).flatten++yX [116,97,98,108,101,32]++yX t++yX [40]++yX (vB c'.txt)++yX [41,59,10]):=yD (by
    rw[A3.out];simp only[←xZ]
    congr 1
    simp[zC3,xV])
   have AM:Ext wa (wa.alloc (.cells #[.int .u8 2,.int .i64 pos,.string (yX t),.int .i64 num,.slice kA ks.length kc] 100)):=Ext.alloc _ _;have AS:=yD (HX.out.trans AM);have AI:=yD AM;clear AM;have AC:Hid (Blk (wa.alloc (.cells #[.int .u8 2,.int .i64 pos,.string (yX t),.int .i64 num,.slice kA ks.length kc] 100)) wa.heap.size 100 #[.int .u8 2,.int .i64 pos,.string (yX t),.int .i64 num,.slice kA ks.length kc]):=yD (Blk.new _ _ _)
   go_upto_region 8 with fail
   clear v4 v5 BA A9 A5 A2 Af;generalize wa.heap.size=gn at *;generalize wa.alloc (.cells #[.int .u8 2,.int .i64 pos,.string (yX t),.int .i64 num,.slice kA ks.length kc] 100)=w1 at *;have n0:w1.cell? ⟨gn,0,none⟩=some (.int .u8 2):=AC.out.cell 0;have n2:w1.cell? ⟨gn,2,none⟩=some (.string (yX t)):=AC.out.cell 2;have n3:w1.cell? ⟨gn,3,none⟩=some (.int .i64 num):=AC.out.cell 3;have n4:w1.cell? ⟨gn,4,none⟩=some (.slice kA ks.length kc):=AC.out.cell 4;have AF:=AC.out.lt
   have qs:True:=by trivial
   generalize yX (f.top.take j).flatten=sp at *;generalize yX t=tt at *;generalize yX (vB c'.txt)=sl at *
   go_upto_region 9 with fail
   apply xY (by kernel_rfl) (by kernel_rfl) (by kernel_rfl);apply sP qs (.string sp);apply sP (by omega:¬(9223372036854775807<sp.size+6)) (.string (sp++⟨#[116,97,98,108,101,32]⟩));apply sP qs (.pointer (some ⟨gn,2,none⟩));apply sR n2 AF qs (.string tt);apply sP (by omega:¬(9223372036854775807<sp.size+6+tt.size)) (.string (sp++⟨#[116,97,98,108,101,32]⟩++tt));apply sP (by omega:¬(9223372036854775807<sp.size+6+tt.size+1)) (.string (sp++⟨#[116,97,98,108,101,32]⟩++tt++⟨#[40]⟩));apply sP qs (.slice (some ⟨tb,tf,none⟩) L.length c);apply sP qs (.pointer (some ⟨gn,4,none⟩));apply sR n4 AF qs (.slice kA ks.length kc);apply yZ (.string sl) rfl rfl rfl
   ·intro w' AJ hH;clear hH;simp[yY,go_sem];refine(Au.out w' (AS.out.trans AJ)).mono ?_;rintro e w2 ⟨rfl,hx⟩;exact⟨_,rfl,rfl,hx⟩
   apply sP (by omega:¬(9223372036854775807<sp.size+6+tt.size+1+sl.size)) (.string (sp++⟨#[116,97,98,108,101,32]⟩++tt++⟨#[40]⟩++sl));apply sP (by omega:¬(9223372036854775807<sp.size+6+tt.size+1+sl.size+3)) (.string (sp++⟨#[116,97,98,108,101,32]⟩++tt++⟨#[40]⟩++sl++⟨#[41,59,10]⟩));apply sP qs (.string (sp++⟨#[116,97,98,108,101,32]⟩++tt++⟨#[40]⟩++sl++⟨#[41,59,10]⟩));apply xN;intro w9 AQ hH;clear hH
   try simp only[Act.put,yA,yC,yB]
   have Ar:=yD (AS.out.trans AQ);clear AQ n0 n2 n3 n4 AF;have Ba:=HJ.out;have BS:(f.roots 1).length≤900:=Nat.le_trans (jO f 1) Ax.out
   go_wp2_with fail
   go_roundw
   case rel=>exact⟨j+1,by omega,by go_num,by rw[AL.out]; rfl,Ar⟩
   case measure=>simp[intOf]; omega
  ·rcases zJ9 Ae.out with rfl | rfl
   ·have Ac:=zDn Ae.out
    have Av:ks.length=2:=by rw[←AD.out,←ZR c' (ri+1)]; exact Ac.1
    obtain⟨k4,t4,x4,c4,y4,g1,g2,_,g4,g5,g6,g7,g8,g9,A4,Aa,_,Al⟩:=zEr c' (ri+1) Aq.out AX.out 0 (by rw[AD.out]; omega)
    have Aa:k4=4:=by rw[←Aa]; exact zIF Ae.out
    subst Aa
    have An:(c'.roots (ri+1))[0]'(by rw[AD.out]; omega)=ks[0]'(by omega):=by simp only[AD.out]
    rw[An] at g1 g5 g6;have Au:=yD (zDF w _ L.length c L HT.out rfl c4 (ks[0]'(by omega)+1) g6 g7 (Nat.le_trans g9 AR.out) (by have:=AO.out; omega) (fun i hi=>zHC g8 (.inr rfl) i hi) y4.kA y4.kids.length y4.kc (by rw[g5]; exact yN ..) (by rw[←g5]; exact(HT.out.ok y4 (zY g1)).kids))
    have BX:(yX (vB c4.txt)).size≤10000000:=by
     rw[bsz];have h1:=YS c4.txt;have h2:=XU c4 g7;have h3:=YU c4 0;have h4:=jO c4 0;have h5:=zBF c4
     have:=AR.out
     omega
    have AB:=((zEs w L.length c _ L HT.out BZ.out rfl Bb.out c' (ri+1) Aq.out AX.out AR.out (by have:=AO.out; omega) 1 (by have:=AO.out; omega) 1 (by rw[AD.out]; omega)).2 Ac.2);rw[←zBo] at AB
    have Ak:(c'.roots (ri+1))[1]'(by rw[AD.out]; omega)=ks[1]'(by omega):=by simp only[AD.out]
    rw[Ak] at AB;have Ah:=yD AB;unfold RS at Ah;clear AB An Ak
    have Bm:(yX (((c'.st 1).map Prod.snd).getD 1 [])).size≤10000000000:=by
     rw[bsz];have h1:=(zCK c' AX.out 1 (by have:=AO.out; omega)).2;have h2:=jF ((c'.st 1).map Prod.snd) 1;have h3:=zGN AR.out (by have:=AO.out; omega);omega
    have AL:Hid (yX (f.top.take (j+1)).flatten=yX (f.top.take j).flatten++yX [112,114,111,99,32]++yX t++yX [40]++yX (vB c4.txt)++yX [41]++yX []++yX [32,123,10]++yX (((c'.st 1).map Prod.snd).getD 1 [])++yX [125,10]):=yD (by
     rw[A3.out];simp only[←xZ]
     congr 1
     have BB:c'.inn[0]?.getD []=vB c4.txt:=by rw[←yE]; exact Al
     simp[zC3,xV,jU,BB])
    have AG:=AY.out (ks[0]'(by omega)) (List.getElem?_eq_some_iff.1 g1).1 4 (by decide)
    have AN:L[ks[0]'(by omega)]'(List.getElem?_eq_some_iff.1 g1).1=y4:=by have h:=g1; rw[yG (List.getElem?_eq_some_iff.1 g1).1] at h; exact Option.some.inj h
    rw[AN] at AG;have Ai:wa.cell? ⟨tb,tf+ks[0]'(by omega)*5+4,none⟩=some (.slice y4.kA y4.kids.length y4.kc):=AG
    have As:((ks[0]'(by omega):Nat):Int)<(L.length:Int):=by have:=(List.getElem?_eq_some_iff.1 g1).1; omega
    obtain⟨kb,kf,Ap,AK,Ab⟩:=(Ay.out.ext HX.out).at_ (by simp[TT.xD,xG]; omega)
    have Ag:wa.cell? ⟨kb,kf,none⟩=some (.int .i64 ((ks[0]'(by omega):Nat):Int)):=by
     have h:=Ab 0 (by simp[TT.xD,xG]; omega);rw[Nat.add_zero] at h;rw[h]
     have AA:0<ks.length:=by omega
     simp[TT.xD,xG,AA]
    have Aw:wa.cell? ⟨kb,kf+1,none⟩=some (.int .i64 ((ks[1]'(by omega):Nat):Int)):=by
     have h:=Ab 1 (by simp[TT.xD,xG]; omega);rw[h]
     have AA:1<ks.length:=by omega
     simp[TT.xD,xG,AA]
    have BC:=yD Ai;have A7:=yD Ag;have BG:=yD Aw;have A1:=yD As;have AH:=yD AK;have Az:=yD Av;have AP:=yD (yR BT.out HX.out.size);rw[Ap] at Af;clear AG AN Ai As Ag Aw Ab AK g1 g2 g4 g5 g6 g7 g8 g9 A4 Al Ac;generalize ks[0]'(by omega)=k0 at *;generalize ks[1]'(by omega)=k1 at *;clear Av;subst Ap;generalize y4.kA=pA at *;generalize y4.kids.length=pn at *;generalize y4.kc=pc at *;have AM:Ext wa (wa.alloc (.cells #[.int .u8 3,.int .i64 pos,.string (yX t),.int .i64 0,.slice (some ⟨kb,kf,none⟩) ks.length kc] 100)):=Ext.alloc _ _;have AS:=yD (HX.out.trans AM);have AI:=yD AM;clear AM;have AC:Hid (Blk (wa.alloc (.cells #[.int .u8 3,.int .i64 pos,.string (yX t),.int .i64 0,.slice (some ⟨kb,kf,none⟩) ks.length kc] 100)) wa.heap.size 100 #[.int .u8 3,.int .i64 pos,.string (yX t),.int .i64 0,.slice (some ⟨kb,kf,none⟩) ks.length kc]):=yD (Blk.new _ _ _)
    go_upto_region 8 with fail
    clear v4 v5 BA A9 A5 A2 Af;have e0:=(AI.out.cell (p:=⟨kb,kf,none⟩) AH.out).trans A7.out;have e1:=(AI.out.cell (p:=⟨kb,kf+1,none⟩) AH.out).trans BG.out;have p4:=(AI.out.cell (p:=⟨tb,tf+k0*5+4,none⟩) AP.out).trans BC.out;have AZ:=yR AH.out AI.out.size;have AW:=yR AP.out AI.out.size;generalize wa.heap.size=gn at *;generalize wa.alloc (.cells #[.int .u8 3,.int .i64 pos,.string (yX t),.int .i64 0,.slice (some ⟨kb,kf,none⟩) ks.length kc] 100)=w1 at *;have n0:w1.cell? ⟨gn,0,none⟩=some (.int .u8 3):=AC.out.cell 0;have n2:w1.cell? ⟨gn,2,none⟩=some (.string (yX t)):=AC.out.cell 2;have n3:w1.cell? ⟨gn,3,none⟩=some (.int .i64 0):=AC.out.cell 3;have n4:w1.cell? ⟨gn,4,none⟩=some (.slice (some ⟨kb,kf,none⟩) ks.length kc):=AC.out.cell 4;have AF:=AC.out.lt
    have qs:((0:Int)<(ks.length:Int))∧0<ks.length∧((1:Int)<(ks.length:Int))∧1<ks.length∧(k0:Int)<(L.length:Int)∧k0<L.length:=by have:=Az.out; have:=A1.out; omega
    generalize yX (f.top.take j).flatten=sp at *;generalize yX t=tt at *;generalize yX (vB c4.txt)=sl at *;generalize yX (((c'.st 1).map Prod.snd).getD 1 [])=bl at *
    go_upto_region 10 with fail
    apply xY (by kernel_rfl) (by kernel_rfl) (by kernel_rfl);apply sP qs (.string sp);apply sP (by omega:¬(9223372036854775807<sp.size+5)) (.string (sp++⟨#[112,114,111,99,32]⟩));apply sP qs (.pointer (some ⟨gn,2,none⟩));apply sR n2 AF qs (.string tt);apply sP (by omega:¬(9223372036854775807<sp.size+5+tt.size)) (.string (sp++⟨#[112,114,111,99,32]⟩++tt));apply sP (by omega:¬(9223372036854775807<sp.size+5+tt.size+1)) (.string (sp++⟨#[112,114,111,99,32]⟩++tt++⟨#[40]⟩));apply sP qs (.slice (some ⟨tb,tf,none⟩) L.length c);apply sP qs (.slice (some ⟨tb,tf,none⟩) L.length c);apply sP qs (.pointer (some ⟨gn,4,none⟩));apply sR n4 AF qs (.slice (some ⟨kb,kf,none⟩) ks.length kc);apply sP qs (.pointer (some ⟨kb,kf,none⟩));apply sR e0 AZ qs (.int .i64 (k0:Int));apply sP qs (.pointer (some ⟨tb,tf+k0*5,none⟩));apply sP qs (.pointer (some ⟨tb,tf+k0*5+4,none⟩));apply sR p4 AW qs (.slice pA pn pc);apply yZ (.string sl) rfl rfl rfl
    ·intro w' AJ hH;clear hH;simp[yY,go_sem];refine(Au.out w' (AS.out.trans AJ)).mono ?_;rintro e w2 ⟨rfl,hx⟩;exact⟨_,rfl,rfl,hx⟩
    apply sP (by omega:¬(9223372036854775807<sp.size+5+tt.size+1+sl.size)) (.string (sp++⟨#[112,114,111,99,32]⟩++tt++⟨#[40]⟩++sl));apply sP (by omega:¬(9223372036854775807<sp.size+5+tt.size+1+sl.size+1)) (.string (sp++⟨#[112,114,111,99,32]⟩++tt++⟨#[40]⟩++sl++⟨#[41]⟩));apply sP qs (.pointer (some ⟨gn,3,none⟩));apply sR n3 AF qs (.int .i64 0);apply yZ (.string (⟨#[]⟩)) rfl rfl rfl
    ·intro w' AJ hH;clear hH;simp[yY,go_sem];refine(JQ 0 ⟨#[]⟩ ⟨#[32,115,105,110,103,108,101]⟩ w').mono ?_;rintro e w2 ⟨rfl,rfl⟩;exact⟨_,rfl,by first | rfl | decide,Ext.refl _⟩
    apply sP (by omega:¬(9223372036854775807<sp.size+5+tt.size+1+sl.size+1+0)) (.string (sp++⟨#[112,114,111,99,32]⟩++tt++⟨#[40]⟩++sl++⟨#[41]⟩++⟨#[]⟩));apply sP (by omega:¬(9223372036854775807<sp.size+5+tt.size+1+sl.size+1+0+3)) (.string (sp++⟨#[112,114,111,99,32]⟩++tt++⟨#[40]⟩++sl++⟨#[41]⟩++⟨#[]⟩++⟨#[32,123,10]⟩));apply sP qs (.slice (some ⟨tb,tf,none⟩) L.length c);apply sP qs (.pointer (some ⟨gn,4,none⟩));apply sR n4 AF qs (.slice (some ⟨kb,kf,none⟩) ks.length kc);apply sP qs (.pointer (some ⟨kb,kf+1,none⟩));apply sR e1 AZ qs (.int .i64 (k1:Int));apply yZ (.string bl) rfl rfl rfl
    ·intro w' AJ hH;clear hH;simp[yY,go_sem];refine(Ah.out w' (AS.out.trans AJ)).mono ?_;rintro e w2 ⟨rfl,hx⟩;exact⟨_,rfl,rfl,hx⟩
    apply sP (by omega:¬(9223372036854775807<sp.size+5+tt.size+1+sl.size+1+0+3+bl.size)) (.string (sp++⟨#[112,114,111,99,32]⟩++tt++⟨#[40]⟩++sl++⟨#[41]⟩++⟨#[]⟩++⟨#[32,123,10]⟩++bl));apply sP (by omega:¬(9223372036854775807<sp.size+5+tt.size+1+sl.size+1+0+3+bl.size+2)) (.string (sp++⟨#[112,114,111,99,32]⟩++tt++⟨#[40]⟩++sl++⟨#[41]⟩++⟨#[]⟩++⟨#[32,123,10]⟩++bl++⟨#[125,10]⟩));apply sP qs (.string (sp++⟨#[112,114,111,99,32]⟩++tt++⟨#[40]⟩++sl++⟨#[41]⟩++⟨#[]⟩++⟨#[32,123,10]⟩++bl++⟨#[125,10]⟩));apply xN;intro w9 AQ hH;clear hH
    try simp only[Act.put,yA,yC,yB]
    have Ar:=yD (AS.out.trans AQ);clear AQ n0 n2 n3 n4 AF e0 e1 p4 AZ AW;have Ba:=HJ.out;have BS:(f.roots 1).length≤900:=Nat.le_trans (jO f 1) Ax.out
    go_wp2_with fail
    go_roundw
    case rel=>exact⟨j+1,by omega,by go_num,by rw[AL.out]; rfl,Ar⟩
    case measure=>simp[intOf]; omega
   ·have Ac:=zDn Ae.out
    have Av:ks.length=2:=by rw[←AD.out,←ZR c' (ri+1)]; exact Ac.1
    obtain⟨k4,t4,x4,c4,y4,g1,g2,_,g4,g5,g6,g7,g8,g9,A4,Aa,_,Al⟩:=zEr c' (ri+1) Aq.out AX.out 0 (by rw[AD.out]; omega)
    have Aa:k4=4:=by rw[←Aa]; exact zIF Ae.out
    subst Aa
    have An:(c'.roots (ri+1))[0]'(by rw[AD.out]; omega)=ks[0]'(by omega):=by simp only[AD.out]
    rw[An] at g1 g5 g6;have Au:=yD (zDF w _ L.length c L HT.out rfl c4 (ks[0]'(by omega)+1) g6 g7 (Nat.le_trans g9 AR.out) (by have:=AO.out; omega) (fun i hi=>zHC g8 (.inr rfl) i hi) y4.kA y4.kids.length y4.kc (by rw[g5]; exact yN ..) (by rw[←g5]; exact(HT.out.ok y4 (zY g1)).kids))
    have BX:(yX (vB c4.txt)).size≤10000000:=by
     rw[bsz];have h1:=YS c4.txt;have h2:=XU c4 g7;have h3:=YU c4 0;have h4:=jO c4 0;have h5:=zBF c4
     have:=AR.out
     omega
    have AB:=((zEs w L.length c _ L HT.out BZ.out rfl Bb.out c' (ri+1) Aq.out AX.out AR.out (by have:=AO.out; omega) 1 (by have:=AO.out; omega) 1 (by rw[AD.out]; omega)).2 Ac.2);rw[←zBo] at AB
    have Ak:(c'.roots (ri+1))[1]'(by rw[AD.out]; omega)=ks[1]'(by omega):=by simp only[AD.out]
    rw[Ak] at AB;have Ah:=yD AB;unfold RS at Ah;clear AB An Ak
    have Bm:(yX (((c'.st 1).map Prod.snd).getD 1 [])).size≤10000000000:=by
     rw[bsz];have h1:=(zCK c' AX.out 1 (by have:=AO.out; omega)).2;have h2:=jF ((c'.st 1).map Prod.snd) 1;have h3:=zGN AR.out (by have:=AO.out; omega);omega
    have AL:Hid (yX (f.top.take (j+1)).flatten=yX (f.top.take j).flatten++yX [112,114,111,99,32]++yX t++yX [40]++yX (vB c4.txt)++yX [41]++yX [32,115,105,110,103,108,101]++yX [32,123,10]++yX (((c'.st 1).map Prod.snd).getD 1 [])++yX [125,10]):=yD (by
     rw[A3.out];simp only[←xZ]
     congr 1
     have BB:c'.inn[0]?.getD []=vB c4.txt:=by rw[←yE]; exact Al
     simp[zC3,xV,jU,BB])
    have AG:=AY.out (ks[0]'(by omega)) (List.getElem?_eq_some_iff.1 g1).1 4 (by decide)
    have AN:L[ks[0]'(by omega)]'(List.getElem?_eq_some_iff.1 g1).1=y4:=by have h:=g1; rw[yG (List.getElem?_eq_some_iff.1 g1).1] at h; exact Option.some.inj h
    rw[AN] at AG;have Ai:wa.cell? ⟨tb,tf+ks[0]'(by omega)*5+4,none⟩=some (.slice y4.kA y4.kids.length y4.kc):=AG
    have As:((ks[0]'(by omega):Nat):Int)<(L.length:Int):=by have:=(List.getElem?_eq_some_iff.1 g1).1; omega
    obtain⟨kb,kf,Ap,AK,Ab⟩:=(Ay.out.ext HX.out).at_ (by simp[TT.xD,xG]; omega)
    have Ag:wa.cell? ⟨kb,kf,none⟩=some (.int .i64 ((ks[0]'(by omega):Nat):Int)):=by
     have h:=Ab 0 (by simp[TT.xD,xG]; omega);rw[Nat.add_zero] at h;rw[h]
     have AA:0<ks.length:=by omega
     simp[TT.xD,xG,AA]
    have Aw:wa.cell? ⟨kb,kf+1,none⟩=some (.int .i64 ((ks[1]'(by omega):Nat):Int)):=by
     have h:=Ab 1 (by simp[TT.xD,xG]; omega);rw[h]
     have AA:1<ks.length:=by omega
     simp[TT.xD,xG,AA]
    have BC:=yD Ai;have A7:=yD Ag;have BG:=yD Aw;have A1:=yD As;have AH:=yD AK;have Az:=yD Av;have AP:=yD (yR BT.out HX.out.size);rw[Ap] at Af;clear AG AN Ai As Ag Aw Ab AK g1 g2 g4 g5 g6 g7 g8 g9 A4 Al Ac;generalize ks[0]'(by omega)=k0 at *;generalize ks[1]'(by omega)=k1 at *;clear Av;subst Ap;generalize y4.kA=pA at *;generalize y4.kids.length=pn at *;generalize y4.kc=pc at *;have AM:Ext wa (wa.alloc (.cells #[.int .u8 3,.int .i64 pos,.string (yX t),.int .i64 1,.slice (some ⟨kb,kf,none⟩) ks.length kc] 100)):=Ext.alloc _ _;have AS:=yD (HX.out.trans AM);have AI:=yD AM;clear AM;have AC:Hid (Blk (wa.alloc (.cells #[.int .u8 3,.int .i64 pos,.string (yX t),.int .i64 1,.slice (some ⟨kb,kf,none⟩) ks.length kc] 100)) wa.heap.size 100 #[.int .u8 3,.int .i64 pos,.string (yX t),.int .i64 1,.slice (some ⟨kb,kf,none⟩) ks.length kc]):=yD (Blk.new _ _ _)
    go_upto_region 8 with fail
    clear v4 v5 BA A9 A5 A2 Af;have e0:=(AI.out.cell (p:=⟨kb,kf,none⟩) AH.out).trans A7.out;have e1:=(AI.out.cell (p:=⟨kb,kf+1,none⟩) AH.out).trans BG.out;have p4:=(AI.out.cell (p:=⟨tb,tf+k0*5+4,none⟩) AP.out).trans BC.out;have AZ:=yR AH.out AI.out.size;have AW:=yR AP.out AI.out.size;generalize wa.heap.size=gn at *;generalize wa.alloc (.cells #[.int .u8 3,.int .i64 pos,.string (yX t),.int .i64 1,.slice (some ⟨kb,kf,none⟩) ks.length kc] 100)=w1 at *;have n0:w1.cell? ⟨gn,0,none⟩=some (.int .u8 3):=AC.out.cell 0;have n2:w1.cell? ⟨gn,2,none⟩=some (.string (yX t)):=AC.out.cell 2;have n3:w1.cell? ⟨gn,3,none⟩=some (.int .i64 1):=AC.out.cell 3;have n4:w1.cell? ⟨gn,4,none⟩=some (.slice (some ⟨kb,kf,none⟩) ks.length kc):=AC.out.cell 4;have AF:=AC.out.lt
    have qs:((0:Int)<(ks.length:Int))∧0<ks.length∧((1:Int)<(ks.length:Int))∧1<ks.length∧(k0:Int)<(L.length:Int)∧k0<L.length:=by have:=Az.out; have:=A1.out; omega
    generalize yX (f.top.take j).flatten=sp at *;generalize yX t=tt at *;generalize yX (vB c4.txt)=sl at *;generalize yX (((c'.st 1).map Prod.snd).getD 1 [])=bl at *
    go_upto_region 10 with fail
    apply xY (by kernel_rfl) (by kernel_rfl) (by kernel_rfl);apply sP qs (.string sp);apply sP (by omega:¬(9223372036854775807<sp.size+5)) (.string (sp++⟨#[112,114,111,99,32]⟩));apply sP qs (.pointer (some ⟨gn,2,none⟩));apply sR n2 AF qs (.string tt);apply sP (by omega:¬(9223372036854775807<sp.size+5+tt.size)) (.string (sp++⟨#[112,114,111,99,32]⟩++tt));apply sP (by omega:¬(9223372036854775807<sp.size+5+tt.size+1)) (.string (sp++⟨#[112,114,111,99,32]⟩++tt++⟨#[40]⟩));apply sP qs (.slice (some ⟨tb,tf,none⟩) L.length c);apply sP qs (.slice (some ⟨tb,tf,none⟩) L.length c);apply sP qs (.pointer (some ⟨gn,4,none⟩));apply sR n4 AF qs (.slice (some ⟨kb,kf,none⟩) ks.length kc);apply sP qs (.pointer (some ⟨kb,kf,none⟩));apply sR e0 AZ qs (.int .i64 (k0:Int));apply sP qs (.pointer (some ⟨tb,tf+k0*5,none⟩));apply sP qs (.pointer (some ⟨tb,tf+k0*5+4,none⟩));apply sR p4 AW qs (.slice pA pn pc);apply yZ (.string sl) rfl rfl rfl
    ·intro w' AJ hH;clear hH;simp[yY,go_sem];refine(Au.out w' (AS.out.trans AJ)).mono ?_;rintro e w2 ⟨rfl,hx⟩;exact⟨_,rfl,rfl,hx⟩
    apply sP (by omega:¬(9223372036854775807<sp.size+5+tt.size+1+sl.size)) (.string (sp++⟨#[112,114,111,99,32]⟩++tt++⟨#[40]⟩++sl));apply sP (by omega:¬(9223372036854775807<sp.size+5+tt.size+1+sl.size+1)) (.string (sp++⟨#[112,114,111,99,32]⟩++tt++⟨#[40]⟩++sl++⟨#[41]⟩));apply sP qs (.pointer (some ⟨gn,3,none⟩));apply sR n3 AF qs (.int .i64 1);apply yZ (.string (⟨#[32,115,105,110,103,108,101]⟩)) rfl rfl rfl
    ·intro w' AJ hH;clear hH;simp[yY,go_sem];refine(JQ 1 ⟨#[]⟩ ⟨#[32,115,105,110,103,108,101]⟩ w').mono ?_;rintro e w2 ⟨rfl,rfl⟩;exact⟨_,rfl,by first | rfl | decide,Ext.refl _⟩
    apply sP (by omega:¬(9223372036854775807<sp.size+5+tt.size+1+sl.size+1+7)) (.string (sp++⟨#[112,114,111,99,32]⟩++tt++⟨#[40]⟩++sl++⟨#[41]⟩++⟨#[32,115,105,110,103,108,101]⟩));apply sP (by omega:¬(9223372036854775807<sp.size+5+tt.size+1+sl.size+1+7+3)) (.string (sp++⟨#[112,114,111,99,32]⟩++tt++⟨#[40]⟩++sl++⟨#[41]⟩++⟨#[32,115,105,110,103,108,101]⟩++⟨#[32,123,10]⟩));apply sP qs (.slice (some ⟨tb,tf,none⟩) L.length c);apply sP qs (.pointer (some ⟨gn,4,none⟩));apply sR n4 AF qs (.slice (some ⟨kb,kf,none⟩) ks.length kc);apply sP qs (.pointer (some ⟨kb,kf+1,none⟩));apply sR e1 AZ qs (.int .i64 (k1:Int));apply yZ (.string bl) rfl rfl rfl
    ·intro w' AJ hH;clear hH;simp[yY,go_sem];refine(Ah.out w' (AS.out.trans AJ)).mono ?_;rintro e w2 ⟨rfl,hx⟩;exact⟨_,rfl,rfl,hx⟩
    apply sP (by omega:¬(9223372036854775807<sp.size+5+tt.size+1+sl.size+1+7+3+bl.size)) (.string (sp++⟨#[112,114,111,99,32]⟩++tt++⟨#[40]⟩++sl++⟨#[41]⟩++⟨#[32,115,105,110,103,108,101]⟩++⟨#[32,123,10]⟩++bl));apply sP (by omega:¬(9223372036854775807<sp.size+5+tt.size+1+sl.size+1+7+3+bl.size+2)) (.string (sp++⟨#[112,114,111,99,32]⟩++tt++⟨#[40]⟩++sl++⟨#[41]⟩++⟨#[32,115,105,110,103,108,101]⟩++⟨#[32,123,10]⟩++bl++⟨#[125,10]⟩));apply sP qs (.string (sp++⟨#[112,114,111,99,32]⟩++tt++⟨#[40]⟩++sl++⟨#[41]⟩++⟨#[32,115,105,110,103,108,101]⟩++⟨#[32,123,10]⟩++bl++⟨#[125,10]⟩));apply xN;intro w9 AQ hH;clear hH
    try simp only[Act.put,yA,yC,yB]
    have Ar:=yD (AS.out.trans AQ);clear AQ n0 n2 n3 n4 AF e0 e1 p4 AZ AW;have Ba:=HJ.out;have BS:(f.roots 1).length≤900:=Nat.le_trans (jO f 1) Ax.out
    go_wp2_with fail
    go_roundw
    case rel=>exact⟨j+1,by omega,by go_num,by rw[AL.out]; rfl,Ar⟩
    case measure=>simp[intOf]; omega
def Fo.lin:Fo→Nat
 | .nil=>0
 | .cons k p t x c r=>(t.length+235+c.lin)+r.lin
def Fo.zGe:Fo→List Nat
 | .nil=>[]
 | .cons k p t x c r=>(t.length+235+c.lin)::r.zGe
theorem zHB:∀f:Fo,f.zGe.sum=f.lin
 | .nil=>rfl
 | .cons k p t x c r=>by
  show(t.length+235+c.lin)+r.zGe.sum=_
  rw[zHB r]
  rfl
theorem zDH:∀f:Fo,f.lin=f.wt+205*f.size
 | .nil=>rfl
 | .cons k p t x c r=>by
  have h1:=zDH c;have h2:=zDH r
  show(t.length+235+c.lin)+r.lin=(t.length+30+c.wt+r.wt)+205*(1+c.size+r.size)
  omega
theorem zSf:∀(l:List Nat),l.getD 0 0+l.getD 1 0+l.getD 2 0+l.getD 3 0≤l.sum
 | []=>by simp
 | [a]=>by simp
 | [a,b]=>by simp
 | [a,b,c]=>by simp; omega
 | a::b::c::d::r=>by simp; omega
theorem zNf {M:Nat}:∀f:Fo,f.ok M→∀j,j<f.kinds.length→(f.txt.getD j []).length+205≤f.zGe.getD j 0
 | .nil,_=>fun j hj=>by cases hj
 | .cons k p t x c r,hok=>fun j hj=>by
  cases j with
  | zero=>
   have h1:=XU (Fo.cons k p t x c .nil) (M:=M) ⟨hok.1,hok.2.1,trivial⟩;have h1:(YH k t x c.txt c.kinds).length+0≤t.length+30+c.wt+0:=h1;have h2:=zDH c
   show(YH k t x c.txt c.kinds).length+205≤t.length+235+c.lin
   omega
  | succ j=>exact zNf r hok.2.2 j (Nat.lt_of_succ_lt_succ hj)
theorem zNB {M:Nat}:∀f:Fo,f.ok M→∀j,(f.inn.getD j []).length≤f.zGe.getD j 0
 | .nil,_=>fun j=>zU _
 | .cons k p t x c r,hok=>fun j=>by
  cases j with
  | zero=>
   have h1:=YS c.txt;have h2:=XU c hok.2.1;have h3:=YU c 0;have h4:=jO c 0;have h5:=zDH c
   show(vB c.txt).length≤t.length+235+c.lin
   omega
  | succ j=>exact zNB r hok.2.2 j
theorem zPj (d k:Nat)(t:Bs)(x:Int)(ls bk:List Bs)(h14:k≠14)(h15:k≠15):(xP d k t x ls bk).length≤d+30+t.length+vR ls+2*ls.length:=by
 have h1:=zSq ls;have h3:=YS (ls.drop 1)
 have h4:(ls.getD 0 []).length+vR (ls.drop 1)≤vR ls:=by
  cases ls with
  | nil=>simp[vR]
  | cons a r=>simp[vR]
 rw[List.length_drop] at h3;have p1:=zBL x [59] [32,102,111,114,32,117,112,100,97,116,101,59];have p2:=zBL x [32,115,104,97,114,101,100,59] [32,97,108,108,59];simp only[zJ,zK] at p1 p2;unfold xP;rw[if_neg h14,if_neg h15]
 repeat' refine zGI ?_ ?_
 all_goals
  try simp only[XI,yM,List.flatten_cons,List.flatten_nil,zJ,zK]
  omega
theorem zLG (d:Nat)(t:Bs)(x:Int)(ls bk:List Bs):(xP d 14 t x ls bk).length≤3*d+30+(ls.getD 0 []).length+(ls.getD 1 []).length+(bk.getD 2 []).length+(bk.getD 3 []).length:=by
 have p3:=zBL x [32,60,32] [32,61,61,32];simp only[zJ,zK] at p3
 have h5:(if 3<ls.length then xV d [[125,32,101,108,115,101,32,123]]++bk.getD 3 [] else []).length≤d+9+(bk.getD 3 []).length:=zGI (by simp[XI] <;> omega) (by simp)
 show(xV d [[105,102,32],(ls.getD 0 []),(jU x [32,60,32] [32,61,61,32]),(ls.getD 1 []),[32,123]]++(bk.getD 2 []++((if 3<ls.length then xV d [[125,32,101,108,115,101,32,123]]++bk.getD 3 [] else [])++xV d [[125]]))).length≤_
 generalize (if 3<ls.length then xV d [[125,32,101,108,115,101,32,123]]++bk.getD 3 [] else [])=el at *;simp only[XI,yM,List.flatten_cons,List.flatten_nil,zJ,zK];omega
theorem zLL (d:Nat)(t:Bs)(x:Int)(ls bk:List Bs):(xP d 15 t x ls bk).length≤2*d+30+t.length+(ls.getD 0 []).length+(ls.getD 1 []).length+(bk.getD 2 []).length:=by
 show(xV d [[102,111,114,32],t,[32,61,32],(ls.getD 0 []),[32,116,111,32],(ls.getD 1 []),[32,123]]++(bk.getD 2 []++xV d [[125]])).length≤_
 simp only[XI,yM,List.flatten_cons,List.flatten_nil,zJ,zK];omega
theorem zJO:∀(c:Fo) (d:Nat),(∀j,j<c.kinds.length→(((c.st d).getD j ([],[])).1).length≤c.zGe.getD j 0)→((c.st d).map Prod.fst).flatten.length≤c.lin
 | .nil,d,_=>zU _
 | .cons k p t x c r,d,h=>by
  have h0:=h 0 (Nat.zero_lt_succ _);have h1:=zJO r d fun j hj=>h (j+1) (Nat.succ_lt_succ hj);have h0:(xP d k t x c.txt ((c.st (d+1)).map Prod.snd)).length≤t.length+235+c.lin:=h0
  show(xP d k t x c.txt ((c.st (d+1)).map Prod.snd)++((r.st d).map Prod.fst).flatten).length≤(t.length+235+c.lin)+r.lin
  rw[yM];omega
theorem zJi {M:Nat}:∀(f:Fo),f.ok M→∀d,d+f.size≤200→∀j,j<f.kinds.length →
   (7≤f.kinds.getD j 0→f.kinds.getD j 0≤19→(((f.st d).getD j ([],[])).1).length≤f.zGe.getD j 0) ∧
   (f.kinds.getD j 0=6→(((f.st d).getD j ([],[])).2).length+235≤f.zGe.getD j 0)
 | .nil,_,d,_=>fun j hj=>by cases hj
 | .cons k p t x c r,hok,d,hd=>fun j hj=>by
  have hd:d+(1+c.size+r.size)≤200:=hd
  cases j with
  | zero=>
   have hl:=zHB c;have h4:=zSf c.zGe;have hw:=zDH c;refine⟨fun h7 AA=>?_,fun h6=>?_⟩
   ·show(xP d k t x c.txt ((c.st (d+1)).map Prod.snd)).length≤t.length+235+c.lin
    have h7:7≤k:=h7;have AA:k≤19:=AA
    by_cases hk:k=14∨k=15
    ·have h0:=zNf c hok.2.1;have hs:=zJi c hok.2.1 (d+1) (by omega);have hn:=ZK hok.1.1
     have hb:∀j,j<c.kinds.length→c.kinds.getD j 0=6→(((c.st (d+1)).map Prod.snd).getD j []).length+235≤c.zGe.getD j 0:=fun j hj h6=>by
      rw[zBo];exact(hs j hj).2 h6
     rcases hk with rfl | rfl
     ·have h9:=zLG d t x c.txt ((c.st (d+1)).map Prod.snd);obtain⟨g1,g2,g3⟩:=hn.2.2.2.2.2.2.2.1 rfl;have e0:=h0 0 (by omega);have e1:=h0 1 (by omega);have e2:=hb 2 (by omega) g2
      have e3:(((c.st (d+1)).map Prod.snd).getD 3 []).length≤c.zGe.getD 3 0:=by
       by_cases h3:c.kinds.length=4
       ·have:=hb 3 (by omega) (g3 h3)
        omega
       ·have AB:((c.st (d+1)).map Prod.snd).length=3:=by rw[yN,zIU c 0,←ZR c 0]; omega
        rw[yE,zL (by omega)];exact zT _
      omega
     ·have h9:=zLL d t x c.txt ((c.st (d+1)).map Prod.snd);obtain⟨g1,g2⟩:=hn.2.2.2.2.2.2.2.2.1 rfl;have e0:=h0 0 (by omega);have e1:=h0 1 (by omega);have e2:=hb 2 (by omega) g2;omega
    ·have h9:=zPj d k t x c.txt ((c.st (d+1)).map Prod.snd) (by omega) (by omega);have h1:=XU c hok.2.1;have h2:=YU c 0;have h3:=jO c 0;omega
   ·have h6:k=6:=h6;subst h6
    show((c.st d).map Prod.fst).flatten.length+235≤t.length+235+c.lin
    have:=zJO c d fun j hj=>by
     have hb:=zDA hok.1.1 j hj;exact(zJi c hok.2.1 d (by omega) j hj).1 hb.1 hb.2
    omega
  | succ j=>exact zJi r hok.2.2 d (by omega) j (Nat.lt_of_succ_lt_succ hj)
theorem zIj {M:Nat}:∀f:Fo,f.ok M→(∀j,j<f.kinds.length→f.kinds.getD j 0=2∨f.kinds.getD j 0=3)→f.size≤199→f.print.length≤f.lin
 | .nil,_,_,_=>zU _
 | .cons k p t x c r,hok,hk,hs=>by
  have hs:1+c.size+r.size≤199:=hs;have h0:=zIj r hok.2.2 (fun j hj=>hk (j+1) (Nat.succ_lt_succ hj)) (by omega);have h0:r.top.flatten.length≤r.lin:=h0
  show(zC3 k t x c.txt c.inn ((c.st 1).map Prod.snd)++r.top.flatten).length≤(t.length+235+c.lin)+r.lin
  rw[yM];have AA:k=2∨k=3:=hk 0 (Nat.zero_lt_succ _);have hw:=zDH c;have hl:=zHB c;have h4:=zSf c.zGe
  rcases AA with rfl | rfl
  ·have h1:=YS c.txt;have h2:=XU c hok.2.1;have h3:=YU c 0;have h4:=jO c 0
   have h9:(zC3 2 t x c.txt c.inn ((c.st 1).map Prod.snd)).length≤t.length+30+(vB c.txt).length:=by
    show(xV 0 [[116,97,98,108,101,32],t,[40],vB c.txt,[41,59]]).length≤_
    simp only[XI,yM,List.flatten_cons,List.flatten_nil,zJ,zK];omega
   omega
  ·have p1:=zBL x [32,123] [32,115,105,110,103,108,101,32,123];simp only[zJ,zK] at p1
   have h9:(zC3 3 t x c.txt c.inn ((c.st 1).map Prod.snd)).length≤t.length+30+(c.inn.getD 0 []).length+(((c.st 1).map Prod.snd).getD 1 []).length:=by
    show(xV 0 [[112,114,111,99,32],t,[40],c.inn.getD 0 [],[41],jU x [32,123] [32,115,105,110,103,108,101,32,123]]++(((c.st 1).map Prod.snd).getD 1 []++xV 0 [[125]])).length≤_
    simp only[XI,yM,List.flatten_cons,List.flatten_nil,zJ,zK];omega
   obtain⟨g1,g2⟩:=zDn hok.1.1;have e0:=zNB c hok.2.1 0;have e1:=(zJi c hok.2.1 1 (by omega) 1 (by omega)).2 g2;rw[←zBo] at e1;omega
theorem zJe {L:List TT.xB}(hk:∀x ∈ L,x.text.size≤50):∀(f:Fo) (a:Nat),VE L a f→f.wt≤80*f.size
 | .nil,a,_=>zU _
 | .cons k p t x c r,a,⟨⟨n,hn,_,_,ht,_⟩,hc,hr⟩=>by
  have c1:=zJe hk c _ hc;have r1:=zJe hk r _ hr;have h1:=hk n (zY hn)
  have h2:t.length=n.text.size:=by rw[←ht]; exact Array.length_toList
  show t.length+30+c.wt+r.wt≤80*(1+c.size+r.size)
  omega
end Go.Proofs.YtioffpjajhalaaaGreatDoor
