/- What a procedure needs, walked. (and what follows of it). The conditions stand at each lemma. -/
import Derived.Test.YtbadjmmjbpeocaaGreatJaa
import Derived.Test.YtbadjmmjbpeocaaGreatJah
import Derived.Test.YtbadjmmjbpeocaaGreatJbc
import Derived.Test.YtbadjmmjbpeocaaGreatJab
import Derived.Test.YtbadjmmjbpeocaaGreatJaj
import Derived.Test.YtbadjmmjbpeocaaGreatJac
set_option linter.unusedVariables false
set_option linter.unusedSimpArgs false
set_option maxRecDepth 100000
set_option maxHeartbeats 16000000
namespace Go.Proofs.YtbadjmmjbpeocaaGreat
open Go Go.RowKit
theorem zUd (l:List Tx)(of:List Int)(H:zTJ l)(ps:List Pw)(tA a1 Ap Ao:Option Addr)(n1 c1 cp co ct m n:Nat)(way:Int)(h0:0≤way)(h1:way<256)(hn:n<ps.length)(j:Nat)(hr:(ps[n]).1.root<l.length)(hj:(yZ (tN l) (ps[n]).1.root).kids[1]?=some j)(hjl:j<l.length)
  (w:World) (hv:PV w tA l Ao of) (hpr:Cells w Ap (zBy ps)) :
  Calls Tryz.prog 15 #[.agg #[.slice tA l.length ct,.slice a1 n1 c1,.slice Ap ps.length cp,.slice Ao m co],.int .i64 (n:Int),.int .u8 way] w fun e w'=>e=.returned (.tuple #[.agg (zD0 (tN l) l.length way j).1.val,.bool (zD0 (tN l) l.length way j).2])∧Ext w w':=by
 obtain⟨r,Bd⟩:∃r,Hid ((ps[n]).1.root=r):=⟨_,yG rfl⟩;rw[Bd.out] at hr hj;obtain⟨b,AD,rfl,hb,B1⟩:=hv.at_ r hr;have HS:=yG (fun (k:Nat) (hk:k<l.length)=>zMb H of (some ⟨b,AD,none⟩) Ao ct l.length k (by omega) hk);have CM:=yG H.up;have CN:=yG H.kl;have AG:=yG (hv.kid r hr);have Bu:=yG (hv.kid j hjl);have HV:=yG hv
 have B8:Hid (∀(k:Nat),k<l.length→∀j,j<5→w.cell? ⟨b,AD+k*5+j,none⟩=(vT l k).toList[j]?):=yG fun k hk=>by
  obtain⟨b',CH,he,CS,CE⟩:=hv.at_ k hk;injection he with he;injection he with he1 he2;subst he1 he2;exact CE
 obtain⟨pb,po,rfl,Bo,Bt⟩:=hpr.at_ (by rw[zCn]; omega)
 have A2:Hid (w.cell? ⟨pb,po+n*5+4,none⟩=some (.int .i64 (r:Int))∧pb<w.heap.size):=yG ⟨by
  rw[Nat.add_assoc,Bt (n*5+4) (by rw[zCn]; omega),zCI ps n hn 4 (by decide),←Bd.out]
  rfl,Bo⟩
 obtain⟨rk,BD⟩:∃rk,Hid ((yZ (tN l) r).kids=rk):=⟨_,yG rfl⟩;obtain⟨AB,AX⟩:∃AB,Hid ((yZ (tN l) j).kids=AB):=⟨_,yG rfl⟩;have Ak:Hid (w.cell? ⟨b,AD+r*5+4,none⟩=some (.slice (hdN l r).1 rk.length (hdN l r).2)∧b<w.heap.size):=yG ⟨by rw[←BD.out]; exact B1 4 (by decide),hb⟩;have CK:Hid (w.cell? ⟨b,AD+j*5+4,none⟩=some (.slice (hdN l j).1 AB.length (hdN l j).2)):=yG (by rw[←AX.out]; exact B8.out j hjl 4 (by decide));have CC:=H.kl j;have BN:=H.up j;rw[BD.out] at hj AG;rw[AX.out] at Bu CC BN;have CJ:Hid (∀k ∈ AB,k<l.length):=yG fun k hk=>(BN k hk).2;clear hv B1 hb Bt Bo hpr BN H CM CN;generalize (hdN l r).1=rA at *;generalize (hdN l r).2=rc at *;generalize (hdN l j).1=kA at *;generalize (hdN l j).2=kc at *;have CR:1<rk.length:=(List.getElem?_eq_some_iff.1 hj).1;obtain⟨rb,ro,rfl,CA,B2⟩:=AG.out.at_ (by rw[vK]; omega)
 have Aw:Hid (w.cell? ⟨rb,ro+1,none⟩=some (.int .i64 (j:Int))∧rb<w.heap.size):=yG ⟨by
  rw[B2 1 (by rw[vK]; omega)]
  simp[ints,hj],CA⟩
 clear B2 CA AG BD;have HJ:=yG hj;clear hj;obtain⟨W,HW⟩:∃W,Hid ((((((w.alloc (.cells #[.slice (some ⟨b,AD,none⟩) l.length ct,.slice a1 n1 c1,.slice (some ⟨pb,po,none⟩) ps.length cp,.slice Ao m co] 32)).alloc (.cells #[.int .i64 0,.int .i64 0,.int .i64 0] 48)).alloc (.cells #[.int .i64 0,.int .i64 0,.int .i64 0] 48)).alloc (.cells #[.int .i64 0,.int .i64 0,.int .i64 0] 48)).alloc (.cells #[.int .i64 0,.int .i64 0,.int .i64 0] 48))=W):=⟨_,yG rfl⟩;have HX:Hid (Ext w W):=yG (by rw[←HW.out]; exact((((Ext.alloc _ _).trans (Ext.alloc _ _)).trans (Ext.alloc _ _)).trans (Ext.alloc _ _)).trans (Ext.alloc _ _));have HT:Hid (Blk W w.heap.size 32 #[.slice (some ⟨b,AD,none⟩) l.length ct,.slice a1 n1 c1,.slice (some ⟨pb,po,none⟩) ps.length cp,.slice Ao m co]):=yG (by rw[←HW.out]; exact((((Blk.new _ _ _).alloc _).alloc _).alloc _).alloc _)
 have hs:∀(v:World) (q:Nat),v.heap.size=q→Blk (v.alloc (.cells #[.int .i64 0,.int .i64 0,.int .i64 0] 48)) q 48 #[.int .i64 0,.int .i64 0,.int .i64 0]:=fun v q e=>by subst e; exact Blk.new _ _ _
 have HR:Hid (Blk W (w.heap.size+1) 48 #[.int .i64 0,.int .i64 0,.int .i64 0]):=yG (by rw[←HW.out]; exact(((hs _ _ (by simp)).alloc _).alloc _).alloc _);have HA:Hid (Blk W (w.heap.size+1+1) 48 #[.int .i64 0,.int .i64 0,.int .i64 0]):=yG (by rw[←HW.out]; exact((hs _ _ (by simp)).alloc _).alloc _);have HU:Hid (Blk W (w.heap.size+1+1+1) 48 #[.int .i64 0,.int .i64 0,.int .i64 0]):=yG (by rw[←HW.out]; exact(hs _ _ (by simp)).alloc _);have HN:Hid (Blk W (w.heap.size+1+1+1+1) 48 #[.int .i64 0,.int .i64 0,.int .i64 0]):=yG (by rw[←HW.out]; exact hs _ _ (by simp));clear hs;have g0:decide ((n:Int)<0)=false:=yR (by omega);have g1:decide ((ps.length:Int)≤(n:Int))=false:=yR (by omega);have CL:decide (ps.length≤n)=false:=yR (by omega)
 go_enter Tryz.func15,Tryz.ntmps15
 go_upto_region 4 with fail
 rw[HW.out];obtain⟨gp,Az⟩:∃g,Hid (w.heap.size=g):=⟨_,yG rfl⟩;obtain⟨gr,A4⟩:∃g,Hid (w.heap.size+1=g):=⟨_,yG rfl⟩;obtain⟨ga,Ax⟩:∃g,Hid (w.heap.size+1+1=g):=⟨_,yG rfl⟩;obtain⟨gu,As⟩:∃g,Hid (w.heap.size+1+1+1=g):=⟨_,yG rfl⟩;obtain⟨gn,Av⟩:∃g,Hid (w.heap.size+1+1+1+1=g):=⟨_,yG rfl⟩;rw[Av.out] at HN;rw[As.out] at HU;rw[Ax.out] at HA;rw[A4.out] at HR;rw[Az.out] at HT
 try rw[Av.out]
 try rw[As.out]
 try rw[Ax.out]
 try rw[A4.out]
 try rw[Az.out]
 have AC:Hid (w.heap.size≤gp∧gp<gr∧gr<ga∧ga<gu∧gu<gn):=yG (by rw[←A4.out,←Az.out,←Ax.out,←As.out,←Av.out]; omega);clear HW Az A4 Ax As Av g0 g1 CL;have p0:W.cell? ⟨gp,0,none⟩=some (.slice (some ⟨b,AD,none⟩) l.length ct):=HT.out.cell 0;have p2:W.cell? ⟨gp,2,none⟩=some (.slice (some ⟨pb,po,none⟩) ps.length cp):=HT.out.cell 2;have pr:W.cell? ⟨pb,po+n*5+4,none⟩=some (.int .i64 (r:Int)):=(HX.out.cell (p:=⟨pb,_,none⟩) A2.out.2).trans A2.out.1;have nr:W.cell? ⟨b,AD+r*5+4,none⟩=some (.slice (some ⟨rb,ro,none⟩) rk.length rc):=(HX.out.cell (p:=⟨b,_,none⟩) Ak.out.2).trans Ak.out.1;have nj:W.cell? ⟨rb,ro+1,none⟩=some (.int .i64 (j:Int)):=(HX.out.cell (p:=⟨rb,_,none⟩) Aw.out.2).trans Aw.out.1;have BK:=HT.out.lt;have BU:pb<W.heap.size:=yU A2.out.2 HX.out.size;have bl:b<W.heap.size:=yU Ak.out.2 HX.out.size;have Bv:rb<W.heap.size:=yU Aw.out.2 HX.out.size
 have qn:(n:Int)<(ps.length:Int):=by omega
 have qr:(r:Int)<(l.length:Int):=by omega
 have qk:(1:Int)<(rk.length:Int):=by omega
 clear A2 Aw;apply ZP (by kernel_rfl) (by kernel_rfl) (by kernel_rfl);apply xB (.pointer (some ⟨gp,0,none⟩)) rfl rfl rfl
 ·intro w' AA hH;clear hH;simp[xA,go_sem,qn,qr,qk];exact Ext.refl _
 apply xB (.pointer (some ⟨gp,0,none⟩)) rfl rfl rfl
 ·intro w' AA hH;clear hH;simp[xA,go_sem,qn,qr,qk];exact Ext.refl _
 apply xB (.slice (some ⟨b,AD,none⟩) l.length ct) rfl rfl rfl
 ·intro w' AA hH;clear hH;have z0:=(AA.cell (p:=⟨gp,0,none⟩) BK).trans p0;simp[xA,go_sem,z0,qn,qr,qk];exact Ext.refl _
 apply xB (.pointer (some ⟨gp,2,none⟩)) rfl rfl rfl
 ·intro w' AA hH;clear hH;simp[xA,go_sem,qn,qr,qk];exact Ext.refl _
 apply xB (.slice (some ⟨pb,po,none⟩) ps.length cp) rfl rfl rfl
 ·intro w' AA hH;clear hH;have z0:=(AA.cell (p:=⟨gp,2,none⟩) BK).trans p2;simp[xA,go_sem,z0,qn,qr,qk];exact Ext.refl _
 apply xB (.int .i64 (n:Int)) rfl rfl rfl
 ·intro w' AA hH;clear hH;simp[xA,go_sem,qn,qr,qk];exact Ext.refl _
 apply xB (.pointer (some ⟨pb,po+n*5,none⟩)) rfl rfl rfl
 ·intro w' AA hH;clear hH;simp[xA,go_sem,qn,qr,qk];exact Ext.refl _
 apply xB (.pointer (some ⟨pb,po+n*5+4,none⟩)) rfl rfl rfl
 ·intro w' AA hH;clear hH;simp[xA,go_sem,qn,qr,qk];exact Ext.refl _
 apply xB (.int .i64 (r:Int)) rfl rfl rfl
 ·intro w' AA hH;clear hH;have z0:=(AA.cell (p:=⟨pb,po+n*5+4,none⟩) BU).trans pr;simp[xA,go_sem,z0,qn,qr,qk];exact Ext.refl _
 apply xB (.pointer (some ⟨b,AD+r*5,none⟩)) rfl rfl rfl
 ·intro w' AA hH;clear hH;simp[xA,go_sem,qn,qr,qk];exact Ext.refl _
 apply xB (.pointer (some ⟨b,AD+r*5+4,none⟩)) rfl rfl rfl
 ·intro w' AA hH;clear hH;simp[xA,go_sem,qn,qr,qk];exact Ext.refl _
 apply xB (.slice (some ⟨rb,ro,none⟩) rk.length rc) rfl rfl rfl
 ·intro w' AA hH;clear hH;have z0:=(AA.cell (p:=⟨b,AD+r*5+4,none⟩) bl).trans nr;simp[xA,go_sem,z0,qn,qr,qk];exact Ext.refl _
 apply xB (.pointer (some ⟨rb,ro+1,none⟩)) rfl rfl rfl
 ·intro w' AA hH;clear hH;simp[xA,go_sem,qn,qr,qk];exact Ext.refl _
 apply xB (.int .i64 (j:Int)) rfl rfl rfl
 ·intro w' AA hH;clear hH;have z0:=(AA.cell (p:=⟨rb,ro+1,none⟩) Bv).trans nj;simp[xA,go_sem,z0,qn,qr,qk];exact Ext.refl _
 apply xB (.int .i64 (j:Int)) rfl rfl rfl
 ·intro w' AA hH;clear hH;simp[xA,go_sem,qn,qr,qk];exact Ext.refl _
 apply xR;intro w2 AS hH;clear hH p0 p2 pr nr nj BK BU bl Bv qn qr qk;have BE:Hid (Ext w w2):=yG (HX.out.trans AS);have A6:=yG (HT.out.ext AS);have Bk:=yG (HR.out.ext AS);have B4:=yG (HA.out.ext AS);have Bp:=yG (HU.out.ext AS);have BX:=yG (HN.out.ext AS);clear AS HX HT HR HA HU HN;have p0:w2.cell? ⟨gp,0,none⟩=some (.slice (some ⟨b,AD,none⟩) l.length ct):=A6.out.cell 0;have n4:w2.cell? ⟨b,AD+j*5+4,none⟩=some (.slice kA AB.length kc):=(BE.out.cell (p:=⟨b,_,none⟩) Ak.out.2).trans CK.out
 have qj:(j:Int)<(l.length:Int):=by omega
 try simp only[Act.put,yD,yF,yE]
 go_wp2_with fail
 clear p0 n4 qj
 go_loopw [13,14,48] (fun _ _ i_ wr=>∃(k:Nat) (sa su sn:B3),k≤AB.length∧i_=.int .i64 k∧Hid (zOT (tN l) l.length way j k=(sa,su,sn))∧Hid (Blk wr ga 48 sa.val)∧Hid (Blk wr gu 48 su.val)∧Hid (Blk wr gn 48 sn.val)∧Hid (Blk wr gr 48 #[.int .i64 0,.int .i64 0,.int .i64 0])∧Hid (Blk wr gp 32 #[.slice (some ⟨b,AD,none⟩) l.length ct,.slice a1 n1 c1,.slice (some ⟨pb,po,none⟩) ps.length cp,.slice Ao m co])∧Hid (Ext w wr)) (fun _ _ i_ _=>AB.length-(intOf i_).toNat)
 case atStart=>exact⟨0,⟨0,0,0⟩,⟨0,0,0⟩,⟨0,0,0⟩,zW _,rfl,yG rfl,B4,Bp,BX,Bk,A6,BE⟩
 case round=>
  obtain⟨k,sa,su,sn,hk,rfl,AR,Ac,A1,AM,Am,Au,AW⟩:=hrel;obtain⟨wa,rfl⟩:∃wa:World,wa=wr:=⟨_,rfl⟩;clear B4 Bp BX Bk A6 BE;have AE:=yG (zSY (tN l) l.length way j k);rw[AR.out] at AE;obtain⟨al,au,az⟩:=sa;obtain⟨ul,uu,us⟩:=su;obtain⟨nl,nu,ns⟩:=sn;unfold B3.val at Ac A1 AM
  by_cases AN:k<AB.length
  ·obtain⟨kb,ko,rfl,CO,Bx⟩:=(Bu.out.ext AW.out).at_ (by rw[vK]; omega);obtain⟨x,BL⟩:∃x,Hid (AB[k]=x):=⟨_,yG rfl⟩
   have k0:wa.cell? ⟨kb,ko+k,none⟩=some (.int .i64 (x:Int)):=by
    rw[Bx k (by rw[vK]; exact AN),←BL.out];simp[ints,AN]
   have q0:(k:Int)<(AB.length:Int):=by omega
   have B5:x<l.length:=CJ.out x (by rw[←BL.out]; exact yO AN);obtain⟨vc,BC⟩:∃v,Hid (zAN (tN l) l.length x=v):=⟨_,yG rfl⟩;have BM:=yG (zMd (tN l) l.length x);rw[BC.out] at BM
   have AU:Hid (zOT (tN l) l.length way j (k+1)=(JQ xW ⟨al,au,az⟩ vc,if way=1∧(yZ (tN l) x).kind=19 then ⟨0,0,0⟩ else JQ xW ⟨ul,uu,us⟩ vc,zKF ⟨nl,nu,ns⟩ (JQ xW ⟨ul,uu,us⟩ vc))):=yG (by
    have h:=zQq (t:=tN l) (f:=l.length) (way:=way) (j:=j) (k:=k) (by rw[AX.out]; exact AN)
    have hx:(yZ (tN l) j).kids[k]'(by rw[AX.out]; exact AN)=x:=by
     have:(yZ (tN l) j).kids[k]?=AB[k]?:=by rw[AX.out]
     rw[yJ (by rw[AX.out]; exact AN),yJ AN,BL.out] at this;injection this
    rw[h,hx,AR.out];unfold zGC
    rw[BC.out])
   have BT:=yG (B8.out x B5 0 (by decide));obtain⟨nk,A8⟩:∃nk,Hid ((yZ (tN l) x).kind=nk):=⟨_,yG rfl⟩;have BB:Hid (w.cell? ⟨b,AD+x*5,none⟩=some (.int .u8 (nk:Int))):=yG (by rw[←A8.out]; exact BT.out);rw[A8.out] at AU;have p0:wa.cell? ⟨gp,0,none⟩=some (.slice (some ⟨b,AD,none⟩) l.length ct):=Au.out.cell 0;clear Bx CO BT
   go_wp2_with fail
   refine(HS.out x B5 wa (HV.out.ext AW.out)).mono ?_;rintro e w3 ⟨rfl,Ab⟩;rw[BC.out];obtain⟨cl,cu,cs⟩:=vc;unfold B3.val
   go_upto_region 9 with fail
   have Bz:Ext w3 (w3.alloc (.cells #[.int .i64 cl,.int .i64 cu,.int .i64 cs] 48)):=Ext.alloc _ _;have AT:=Ab.trans Bz;have Ah:=yG (Blk.new w3 48 #[.int .i64 cl,.int .i64 cu,.int .i64 cs]);have AZ:=yG (Ac.out.ext AT);have Ae:=yG (A1.out.ext AT);have Be:=yG (AM.out.ext AT);have B9:=yG (Am.out.ext AT);have Bq:=yG (Au.out.ext AT);have Bm:=yG (AW.out.trans AT);clear Ab Bz AT Ac A1 AM Am Au AW k0 q0 p0;generalize w3.heap.size=gc at *;generalize w3.alloc (.cells #[.int .i64 cl,.int .i64 cu,.int .i64 cs] 48)=w4 at *;have a0:w4.cell? ⟨ga,0,none⟩=some (.int .i64 al):=AZ.out.cell 0;have a1:w4.cell? ⟨ga,1,none⟩=some (.int .i64 au):=AZ.out.cell 1;have a2:w4.cell? ⟨ga,2,none⟩=some (.int .i64 az):=AZ.out.cell 2;have u0:w4.cell? ⟨gu,0,none⟩=some (.int .i64 ul):=Ae.out.cell 0;have u1:w4.cell? ⟨gu,1,none⟩=some (.int .i64 uu):=Ae.out.cell 1;have u2:w4.cell? ⟨gu,2,none⟩=some (.int .i64 us):=Ae.out.cell 2;have c0:w4.cell? ⟨gc,0,none⟩=some (.int .i64 cl):=Ah.out.cell 0;have c1:w4.cell? ⟨gc,1,none⟩=some (.int .i64 cu):=Ah.out.cell 1;have c2:w4.cell? ⟨gc,2,none⟩=some (.int .i64 cs):=Ah.out.cell 2;have AO:=AZ.out.lt;have A3:=Ae.out.lt;have AV:=Ah.out.lt;apply xN 6 (by kernel_rfl) (by kernel_rfl) (by kernel_rfl);apply xB (.agg #[.int .i64 al,.int .i64 au,.int .i64 az]) rfl rfl rfl
   ·intro w' AA hH;clear hH;have z0:=(AA.cell (p:=⟨ga,0,none⟩) AO).trans a0;have z1:=(AA.cell (p:=⟨ga,0+1,none⟩) AO).trans a1;have z2:=(AA.cell (p:=⟨ga,0+2,none⟩) AO).trans a2;simp[xA,go_sem,z0,z1,z2];exact Ext.refl _
   apply xB (.agg #[.int .i64 cl,.int .i64 cu,.int .i64 cs]) rfl rfl rfl
   ·intro w' AA hH;clear hH;have z0:=(AA.cell (p:=⟨gc,0,none⟩) AV).trans c0;have z1:=(AA.cell (p:=⟨gc,0+1,none⟩) AV).trans c1;have z2:=(AA.cell (p:=⟨gc,0+2,none⟩) AV).trans c2;simp[xA,go_sem,z0,z1,z2];exact Ext.refl _
   apply xB (.agg #[.int .i64 (xW al cl),.int .i64 (xW au cu),.int .i64 (xW az cs)]) rfl rfl rfl
   ·intro w' AA hH;clear hH;simp[xA,go_sem];refine(zCj 17 xW zDy JE ⟨al,au,az⟩ ⟨cl,cu,cs⟩ AE.out.1 BM.out w').mono ?_;rintro e w3 ⟨rfl,Ab⟩;exact⟨_,rfl,rfl,Ab⟩
   apply xB (.agg #[.int .i64 ul,.int .i64 uu,.int .i64 us]) rfl rfl rfl
   ·intro w' AA hH;clear hH;have z0:=(AA.cell (p:=⟨gu,0,none⟩) A3).trans u0;have z1:=(AA.cell (p:=⟨gu,0+1,none⟩) A3).trans u1;have z2:=(AA.cell (p:=⟨gu,0+2,none⟩) A3).trans u2;simp[xA,go_sem,z0,z1,z2];exact Ext.refl _
   apply xB (.agg #[.int .i64 cl,.int .i64 cu,.int .i64 cs]) rfl rfl rfl
   ·intro w' AA hH;clear hH;have z0:=(AA.cell (p:=⟨gc,0,none⟩) AV).trans c0;have z1:=(AA.cell (p:=⟨gc,0+1,none⟩) AV).trans c1;have z2:=(AA.cell (p:=⟨gc,0+2,none⟩) AV).trans c2;simp[xA,go_sem,z0,z1,z2];exact Ext.refl _
   apply xB (.agg #[.int .i64 (xW ul cl),.int .i64 (xW uu cu),.int .i64 (xW us cs)]) rfl rfl rfl
   ·intro w' AA hH;clear hH;simp[xA,go_sem];refine(zCj 17 xW zDy JE ⟨ul,uu,us⟩ ⟨cl,cu,cs⟩ AE.out.2.1 BM.out w').mono ?_;rintro e w3 ⟨rfl,Ab⟩;exact⟨_,rfl,rfl,Ab⟩
   apply xR;intro w5 AH hH;clear hH a0 a1 a2 u0 u1 u2 c0 c1 c2 AO A3 AV;have Br:=yG (AZ.out.ext AH);have Bb:=yG (Ae.out.ext AH);have Bw:=yG (Be.out.ext AH);have Aq:=yG (B9.out.ext AH);have BY:=yG (Bq.out.ext AH);have Ag:=yG (Bm.out.trans AH);clear AH AZ Ae Be B9 Bq Bm Ah;refine(show wpList Tryz.prog _ _ [_,_] _ _ from ?_)
   try simp only[Act.put,yD,yF,yE]
   refine xQ rfl 48 (.tmp 8) (.tmp 58) rfl ga #[.int .i64 (xW al cl),.int .i64 (xW au cu),.int .i64 (xW az cs)] rfl rfl 48 _ Br.out (by kernel_rfl) rfl rfl ?_;intro w6 AJ AP;have B7:=yG AP;have Bg:=yG (AJ.blk Bb.out (by have:=AC.out; omega));have Bh:=yG (AJ.blk Bw.out (by have:=AC.out; omega));have An:=yG (AJ.blk Aq.out (by have:=AC.out; omega));have BV:=yG (AJ.blk BY.out (by have:=AC.out; omega));have Al:=yG (AJ.ext Ag.out (by have:=AC.out; omega));clear AJ AP Br Bb Bw Aq BY Ag;refine xQ rfl 48 (.tmp 9) (.tmp 61) rfl gu #[.int .i64 (xW ul cl),.int .i64 (xW uu cu),.int .i64 (xW us cs)] rfl rfl 48 _ Bg.out (by kernel_rfl) rfl rfl ?_;intro w7 AK Aa;have Ai:=yG Aa;have Bn:=yG (AK.blk B7.out (by have:=AC.out; omega));have Aj:=yG (AK.blk Bh.out (by have:=AC.out; omega));have Bl:=yG (AK.blk An.out (by have:=AC.out; omega));have BS:=yG (AK.blk BV.out (by have:=AC.out; omega));have Bi:=yG (AK.ext Al.out (by have:=AC.out; omega));clear AK Aa B7 Bg Bh An BV Al;have u0:w7.cell? ⟨gu,0,none⟩=some (.int .i64 (xW ul cl)):=Ai.out.cell 0;have u1:w7.cell? ⟨gu,1,none⟩=some (.int .i64 (xW uu cu)):=Ai.out.cell 1;have u2:w7.cell? ⟨gu,2,none⟩=some (.int .i64 (xW us cs)):=Ai.out.cell 2;have n0:w7.cell? ⟨gn,0,none⟩=some (.int .i64 nl):=Aj.out.cell 0;have n1:w7.cell? ⟨gn,1,none⟩=some (.int .i64 nu):=Aj.out.cell 1;have n2:w7.cell? ⟨gn,2,none⟩=some (.int .i64 ns):=Aj.out.cell 2;have CI:=yG (VA ⟨ul,uu,us⟩ ⟨cl,cu,cs⟩)
   go_wp2_with fail
   refine(zRL ⟨nl,nu,ns⟩ ⟨(xW ul cl),(xW uu cu),(xW us cs)⟩ AE.out.2.2 CI.out w7).mono ?_;rintro e w8 ⟨rfl,AQ⟩;have B0:=yG (Bn.out.ext AQ);have By:=yG (Ai.out.ext AQ);have BQ:=yG (Aj.out.ext AQ);have BR:=yG (Bl.out.ext AQ);have Bc:=yG (BS.out.ext AQ);have Bf:=yG (Bi.out.trans AQ);clear AQ Bn Ai Aj Bl BS Bi u0 u1 u2 n0 n1 n2;unfold zKF JQ B3.val
   dsimp only
   go_upto_region 11 with (refine xQ rfl 48 (.tmp 10) (.tmp 64) rfl gn #[.int .i64 (max nl (xW ul cl)),.int .i64 (max nu (xW uu cu)),.int .i64 (max ns (xW us cs))] rfl rfl 48 _ BQ.out (by kernel_rfl) rfl rfl ?_; intro w9 Ad BW)
   have BA:=yG BW;have BF:=yG (Ad.blk B0.out (by have:=AC.out; omega));have BO:=yG (Ad.blk By.out (by have:=AC.out; omega));have BJ:=yG (Ad.blk BR.out (by have:=AC.out; omega));have Ar:=yG (Ad.blk Bc.out (by have:=AC.out; omega));have Ay:=yG (Ad.ext Bf.out (by have:=AC.out; omega));clear Ad BW B0 By BQ BR Bc Bf
   by_cases AY:way=1
   ·have gw:(way==1)=true:=by rw[AY]; rfl
    have p0:w9.cell? ⟨gp,0,none⟩=some (.slice (some ⟨b,AD,none⟩) l.length ct):=Ar.out.cell 0;have y0:w9.cell? ⟨b,AD+x*5,none⟩=some (.int .u8 (nk:Int)):=(Ay.out.cell (p:=⟨b,_,none⟩) Ak.out.2).trans BB.out
    have qx:(x:Int)<(l.length:Int):=by omega
    by_cases A0:nk=19
    ·have CF:((nk:Int)==19)=true:=by rw[A0]; rfl
     rw[if_pos ⟨AY,A0⟩] at AU;clear A0 AY A8
     go_wp2_with (refine xQ rfl 48 (.tmp 9) (.tmp 77) rfl gu #[.int .i64 0,.int .i64 0,.int .i64 0] rfl rfl 48 _ BO.out (by kernel_rfl) rfl rfl ?_; intro CP AF Af)
     have A9:=yG (AF.blk BF.out (by have:=AC.out; omega));have A5:=yG (AF.blk BA.out (by have:=AC.out; omega));have A7:=yG (AF.blk BJ.out (by have:=AC.out; omega));have BH:=yG (AF.blk Ar.out (by have:=AC.out; omega));have BG:=yG (AF.ext Ay.out (by have:=AC.out; omega));have BP:=yG Af;clear AF Af
     go_wp2_with fail
     go_roundw
     case rel=>exact⟨k+1,_,_,_,by omega,by go_num,AU,A9,BP,A5,A7,BH,BG⟩
     case measure=>simp[intOf]; omega
    ·have CF:((nk:Int)==19)=false:=beq_eq_false_iff_ne.2 (by omega);rw[if_neg (fun h=>A0 h.2)] at AU;clear AY
     go_wp2_with fail
     go_roundw
     case rel=>exact⟨k+1,_,_,_,by omega,by go_num,AU,BF,BO,BA,BJ,Ar,Ay⟩
     case measure=>simp[intOf]; omega
   ·have gw:(way==1)=false:=beq_eq_false_iff_ne.2 AY;rw[if_neg (fun h=>AY h.1)] at AU
    go_wp2_with fail
    go_roundw
    case rel=>exact⟨k+1,_,_,_,by omega,by go_num,AU,BF,BO,BA,BJ,Ar,Ay⟩
    case measure=>simp[intOf]; omega
  ·obtain rfl:k=AB.length:=by omega
   have d0:decide ((AB.length:Int)<(AB.length:Int))=false:=by simp
   have AI:Hid (zD0 (tN l) l.length way j=if 4611686018427387904<max (max nl nu) (xW (xW az 2) nu) then (⟨0,0,0⟩,false) else (⟨nl,nu,xW (xW az 2) nu⟩,true)):=yG (by
    unfold zD0;rw[AX.out,AR.out]
    rfl)
   go_upto_region 14 with fail
   have a2:wa.cell? ⟨ga,2,none⟩=some (.int .i64 az):=Ac.out.cell 2;have n0:wa.cell? ⟨gn,0,none⟩=some (.int .i64 nl):=AM.out.cell 0;have n1:wa.cell? ⟨gn,1,none⟩=some (.int .i64 nu):=AM.out.cell 1;have AO:=Ac.out.lt;have At:=AM.out.lt;apply xN 12 (by kernel_rfl) (by kernel_rfl) (by kernel_rfl);apply sQ (.pointer (some ⟨gn,0,none⟩));apply sL n0 At (.int .i64 nl);apply sQ (.pointer (some ⟨gn,1,none⟩));apply sL n1 At (.int .i64 nu);apply sQ (.pointer (some ⟨ga,2,none⟩));apply sL a2 AO (.int .i64 az);apply xB (.int .i64 (xW az 2)) rfl rfl rfl
   ·intro w' AA hH;clear hH;simp[xA,go_sem];refine(JE az 2 AE.out.1.2.2 ⟨by omega,by omega⟩ w').mono ?_;rintro e w3 ⟨rfl,rfl⟩;exact⟨_,rfl,rfl,Ext.refl _⟩
   apply sQ (.pointer (some ⟨gn,1,none⟩));apply sL n1 At (.int .i64 nu);apply xB (.int .i64 (xW (xW az 2) nu)) rfl rfl rfl
   ·intro w' AA hH;clear hH;simp[xA,go_sem];refine(JE (xW az 2) nu (zDY _ _) AE.out.2.2.2.1 w').mono ?_;rintro e w3 ⟨rfl,rfl⟩;exact⟨_,rfl,rfl,Ext.refl _⟩
   apply sQ (.agg #[.int .i64 nl,.int .i64 nu,.int .i64 (xW (xW az 2) nu)]);apply xZ (fun v w'=>∃g,v=.pointer (some ⟨g,0,none⟩)∧Blk w' g 48 #[.int .i64 0,.int .i64 0,.int .i64 0]∧wa.heap.size≤g) (by rintro v w w' ⟨g,h1,h2,h3⟩ hx; exact⟨g,h1,h2.ext hx,h3⟩) rfl rfl rfl
   ·intro w' AA hH;clear hH;simp[xA,go_sem];exact⟨⟨Blk.new w' _ _,AA.size⟩,Ext.alloc _ _⟩
   intro CQ;apply xR;intro w5 AH hH;obtain⟨ge,rfl,BZ,CD⟩:=hH _ (List.mem_cons_self ..)
   have Bj:Hid (ge≠gr∧w.heap.size≤ge):=yG (by
    have h1:=Am.out.lt;have h2:=AW.out.size
    omega)
   have Ag:=yG (AW.out.trans AH);have Aq:=yG (Am.out.ext AH);have B6:=yG BZ;clear hH a2 n0 n1 AO At CD AH BZ Ac A1 AM Am Au AW;refine(show wpList Tryz.prog _ _ [_] _ _ from ?_)
   try simp only[Act.put,yD,yF,yE]
   refine xQ rfl 48 (.tmp 15) (.tmp 89) rfl ge #[.int .i64 nl,.int .i64 nu,.int .i64 (xW (xW az 2) nu)] rfl rfl 48 _ B6.out (by kernel_rfl) rfl rfl ?_;intro w6 AJ AP;have Al:=yG (AJ.ext Ag.out Bj.out.2);have An:=yG (AJ.blk Aq.out (Ne.symm Bj.out.1));have e0:w6.cell? ⟨ge,0,none⟩=some (.int .i64 nl):=AP.cell 0;have e1:w6.cell? ⟨ge,1,none⟩=some (.int .i64 nu):=AP.cell 1;have e2:w6.cell? ⟨ge,2,none⟩=some (.int .i64 (xW (xW az 2) nu)):=AP.cell 2;clear AJ AP Ag Aq B6;generalize xW (xW az 2) nu=os at *;obtain⟨m1,CB⟩:∃m,(if nl<nu then nu else nl)=m:=⟨_,rfl⟩;obtain⟨m2,CG⟩:∃m,(if m1<os then os else m1)=m:=⟨_,rfl⟩
   have Ba:max (max nl nu) os=m2:=by
    have e1:max nl nu=m1:=by rw[←CB]; split <;> omega
    rw[e1,←CG]
    split <;> omega
   rw[Ba] at AI;clear Ba
   by_cases AL:4611686018427387904<m2
   ·have gb:decide ((4611686018427387904:Int)<m2)=true:=yS AL;rw[if_pos AL] at AI
    go_wp2_with (refine xQ rfl 48 (.tmp 6) (.tmp 98) rfl gr #[.int .i64 0,.int .i64 0,.int .i64 0] rfl rfl 48 _ An.out (by kernel_rfl) rfl rfl ?_; intro w7 AK Aa)
    go_wp2_with fail
    refine bodyPost_ret (VG rfl _ _ gr 48 #[.int .i64 0,.int .i64 0,.int .i64 0] _ rfl Aa Tryz.underlying48 rfl (by kernel_rfl)) rfl ?_;exact⟨by rw[AI.out]; rfl,AK.ext Al.out (by have:=AC.out; omega)⟩
   ·have gb:decide ((4611686018427387904:Int)<m2)=false:=yR AL;rw[if_neg AL] at AI
    go_wp2_with (refine xQ rfl 48 (.tmp 6) (.tmp 99) rfl gr #[.int .i64 nl,.int .i64 nu,.int .i64 os] rfl rfl 48 _ An.out (by kernel_rfl) rfl rfl ?_; intro w7 AK Aa)
    go_wp2_with fail
    refine bodyPost_ret (VG rfl _ _ gr 48 #[.int .i64 nl,.int .i64 nu,.int .i64 os] _ rfl Aa Tryz.underlying48 rfl (by kernel_rfl)) rfl ?_;exact⟨by rw[AI.out]; rfl,AK.ext Al.out (by have:=AC.out; omega)⟩
theorem zMN (a b:Bs):xG a++xG b=xG (a++b):=by
 apply ByteArray.ext;simp[xG,ByteArray.data_append]
theorem zN1 (w:World)(l:Bs):Cells (Lib.bytesWorld w 5 (xG l)) (some ⟨w.heap.size,0,none⟩) (vE l):=by
 have AA:(xG l).size=l.length:=by simp[xG,ByteArray.size]
 exact .inr ⟨w.heap.size,0,rfl,by rw[Lib.bytesWorld_size]; omega,fun k hk=>by
  rw[jU] at hk;rw[Nat.zero_add,Lib.bytesWorld_cell w 5 (xG l) k (by rw[AA]; exact hk),VZ l k hk]
  simp[xG,hk]⟩
theorem zPO (w:World)(l:Bs):(convert 9 22 (.string (xG l))).run Tryz.prog w=.ok (.slice (some ⟨w.heap.size,0,none⟩) l.length (grownCap w l.length 0 5)) (Lib.bytesWorld w 5 (xG l))∧l.length≤grownCap w l.length 0 5:=by
 have AB:(xG l).size=l.length:=by simp[xG,ByteArray.size]
 have h:=Lib.run_convert_string_bytes (P:=Tryz.prog) w 9 22 5 (xG l) Tryz.underlying9 Tryz.underlying22 Tryz.underlying5;have AA:=grownCap_ge w (xG l).size 0 5;rw[AB] at h AA;exact⟨h,AA⟩
theorem zEN (x:Bs)(way:Int)(h0:0≤way)(h1:way<256)(v:B3)(hx:x.length≤1000)(hrun:zGO (zBZ x) way=some v)(w:World) :
  Calls Tryz.prog 26 #[.string (xG x),.int .u8 way] w fun e w'=>e=.returned (.agg v.val)∧Ext w w':=by
 obtain⟨nd,s,p,j,hp,hr,hq,An,As,Al,AG,Ai,rfl⟩:=zRN hrun;clear hrun;have AZ:=yG (show(xG x).size=x.length by simp[xG,ByteArray.size])
 have A2:¬(9223372036854775807<23+(xG x).size):=by rw[AZ.out]; omega
 have A6:¬(9223372036854775807<23+(xG x).size+2):=by rw[AZ.out]; omega
 have AF:(zBZ x).length≤1500:=by
  simp only[zBZ,yP,zT3,zT7,zK,zL];omega
 have e1:xG (zBZ x)=(⟨#[116,97,98,108,101,32,116,40,99,41,59,32,112,114,111,99,32,112,40,41,32,123,32]⟩:ByteArray)++xG x++⟨#[32,125]⟩:=by
  unfold zBZ;rw[←zMN,←zMN]
  rfl
 obtain⟨w0,AM⟩:∃w0,Hid (w.alloc (.cells #[.int .i64 0,.int .i64 0,.int .i64 0] 48)=w0):=⟨_,yG rfl⟩;have Ac:Hid (Ext w w0):=yG (by rw[←AM.out]; exact Ext.alloc _ _);have Aa:Hid (Blk w0 w.heap.size 48 #[.int .i64 0,.int .i64 0,.int .i64 0]):=yG (by rw[←AM.out]; exact Blk.new _ _ _);obtain⟨gr,AS⟩:∃g,Hid (w.heap.size=g):=⟨_,yG rfl⟩;rw[AS.out] at Aa;have A5:Hid (w.heap.size≤gr):=yG (by rw[←AS.out]; omega);obtain⟨AY,AE⟩:=zPO w0 (zBZ x);have AR:Ext w0 (Lib.bytesWorld w0 5 (xG (zBZ x))):=Ext.bytesWorld w0 5 (xG (zBZ x));have AT:=zN1 w0 (zBZ x);obtain⟨w1,Ag⟩:∃w1,Hid (Lib.bytesWorld w0 5 (xG (zBZ x))=w1):=⟨_,yG rfl⟩;rw[Ag.out] at AY AR AT;rw[e1] at AY;have Af:=yG AT;have Ap:=yG (Ac.out.trans AR);have Ak:=yG (Aa.out.ext AR);have AV:=yG AE;have AK:=yG AF;have HP:=yG hp;have Am:=yG hr;have HQ:=yG hq;have HS:=yG (show s.procs[0]?=some p∧(yZ nd p.root).kids[1]?=some j∧zSn nd=true∧p.root<nd.length∧j<nd.length from⟨An,As,Al,AG,Ai⟩);clear AR AT AE AF e1 hp hr hq An As Al AG Ai AZ Ac Aa Ag;generalize zBZ x=L at *;generalize grownCap w0 L.length 0 5=c1 at *
 have A0:Hid (∀(P:World→Prop),P w0→P (w.alloc (.cells #[.int .i64 0,.int .i64 0,.int .i64 0] 48))):=yG fun P h=>by rw[AM.out]; exact h
 go_enter Tryz.func26,Tryz.ntmps26
 go_upto_region 1 with fail
 try rw[AM.out]
 try rw[AS.out]
 clear AM AS A0
 go_wp2_with fail
 refine(zMg _ L _ c1 w1 rfl AK.out AV.out (fun h=>by cases h) Af.out).mono ?_;rintro e w2 ⟨AU,AN⟩;have Aw:=yG (Ap.out.trans AU);have Ax:=yG (Ak.out.ext AU);clear AU AY A2 A6 Af Ap Ak
 rcases AN with ⟨rfl,Ay⟩ | ⟨nh,s',v',Aj,AG,AL,rfl,AB⟩
 ·exfalso
  rcases Ay with ⟨a,er,h⟩ | ⟨nh,h,h'⟩
  ·rw[HP.out] at h; cases h
  ·rw[HP.out] at h;injection h with h;subst h
   rcases h' with h' | ⟨i,er,h'⟩
   ·rw[zQv,Am.out] at h'; cases h'
   ·rw[HQ.out] at h'; cases h'
 ·rw[HP.out] at Aj;injection Aj with hnd;subst hnd;rw[HQ.out] at AL;injection AL with hss;subst hss;obtain⟨pA,pT,pP,l,ps,bo,ct,nT,cT,cP,co,rfl,Au,Ae,AC,AD,Ar⟩:=AB.pvp;have Aq:zTJ l:=zTA HP.out AK.out AG HS.out.2.2.1 AD;rw[zOB] at AD
  have AJ:(nh.map Prod.fst).length=l.length:=by rw[←AD,JO]
  have At:0<ps.length:=by
   have:=(List.getElem?_eq_some_iff.1 HS.out.1).1
   rwa [←AC,yQ] at this
  have AA:(ps[0]).1=p:=by
   have h:=HS.out.1;rw[←AC,zN,yJ At] at h;injection h
  have AH:Hid (∀W,Ext w2 W→Calls Tryz.prog 15 #[.agg #[.slice pA l.length ct,.slice pT nT cT,.slice pP ps.length cP,.slice (some ⟨bo,0,none⟩) l.length co],.int .i64 0,.int .u8 way] W fun e w'=>e=.returned (.tuple #[.agg (zD0 (nh.map Prod.fst) (nh.map Prod.fst).length way j).1.val,.bool (zD0 (nh.map Prod.fst) (nh.map Prod.fst).length way j).2])∧Ext W w'):=yG fun W hW=>by
   have h:=zUd l s.of Aq ps pA pT pP (some ⟨bo,0,none⟩) nT cT cP co ct l.length 0 way h0 h1 At j (by rw[AA,←AJ]; exact HS.out.2.2.2.1) (by rw[AA,AD]; exact HS.out.2.1) (by rw[←AJ]; exact HS.out.2.2.2.2) W (Au.ext hW) (Ae.ext hW);rw[AD,←AJ] at h;rw[←AJ];exact h
  rw[←Ar];clear Au Ae AC AD Ar Aq AJ AA AG AB HP HQ Am HS;obtain⟨vb,Ab⟩:∃v,Hid ((zD0 (nh.map Prod.fst) (nh.map Prod.fst).length way j)=v):=⟨_,yG rfl⟩;rw[Ab.out] at AH;obtain⟨⟨bl,bu,bs⟩,bb⟩:=vb;unfold B3.val at AH
  dsimp only at AH
  go_upto_region 4 with fail
  have AQ:Ext w2 (w2.alloc (.cells #[.slice pA l.length ct,.slice pT nT cT,.slice pP ps.length cP,.slice (some ⟨bo,0,none⟩) l.length co] 32)):=Ext.alloc _ _;have Ah:=yG (Aw.out.trans AQ);have Ao:=yG (Ax.out.ext AQ);have AO:=yG (AH.out _ AQ);have AI:=Blk.new w2 32 #[.slice pA l.length ct,.slice pT nT cT,.slice pP ps.length cP,.slice (some ⟨bo,0,none⟩) l.length co];clear AQ Aw Ax AH;generalize w2.heap.size=g2 at *;generalize w2.alloc (.cells #[.slice pA l.length ct,.slice pT nT cT,.slice pP ps.length cP,.slice (some ⟨bo,0,none⟩) l.length co] 32)=w3 at *;have y0:w3.cell? ⟨g2,0,none⟩=some (.slice pA l.length ct):=AI.cell 0;have y1:w3.cell? ⟨g2,1,none⟩=some (.slice pT nT cT):=AI.cell 1;have y2:w3.cell? ⟨g2,2,none⟩=some (.slice pP ps.length cP):=AI.cell 2;have y3:w3.cell? ⟨g2,3,none⟩=some (.slice (some ⟨bo,0,none⟩) l.length co):=AI.cell 3;clear AI
  go_wp2_with fail
  refine AO.out.mono ?_;rintro e w4 ⟨rfl,AX⟩;have Ad:=yG (Ah.out.trans AX);have Av:=yG (Ao.out.ext AX);clear AX Ah Ao AO y0 y1 y2 y3
  go_upto_region 5 with fail
  have AW:Ext w4 (w4.alloc (.cells #[.int .i64 bl,.int .i64 bu,.int .i64 bs] 48)):=Ext.alloc _ _;have Az:=yG (Ad.out.trans AW);have A4:=yG (Av.out.ext AW);have AP:=Blk.new w4 48 #[.int .i64 bl,.int .i64 bu,.int .i64 bs];clear AW Ad Av;generalize w4.heap.size=g4 at *;generalize w4.alloc (.cells #[.int .i64 bl,.int .i64 bu,.int .i64 bs] 48)=w5 at *;have y0:w5.cell? ⟨g4,0,none⟩=some (.int .i64 bl):=AP.cell 0;have y1:w5.cell? ⟨g4,1,none⟩=some (.int .i64 bu):=AP.cell 1;have y2:w5.cell? ⟨g4,2,none⟩=some (.int .i64 bs):=AP.cell 2;clear AP
  go_wp2_with (refine xQ rfl 48 (.tmp 4) (.tmp 26) rfl gr #[.int .i64 bl,.int .i64 bu,.int .i64 bs] rfl rfl 48 _ A4.out (by kernel_rfl) rfl rfl ?_; intro w6 A3 A1)
  refine JH gr 48 _ _ rfl rfl rfl A1 Tryz.underlying48 rfl (by kernel_rfl) ?_;exact⟨by rw[Ab.out]; rfl,A3.ext Az.out A5.out⟩
theorem zPh (w:World):Calls Tryz.prog 12 #[] w fun e w'=>e=.returned (.bool true)∧Ext w w':=by
 have Ha:Hid (∀w,Calls Tryz.prog 26 #[.string ⟨#[]⟩,.int .u8 0] w fun e w'=>e=.returned (.agg #[.int .i64 0,.int .i64 0,.int .i64 2])∧Ext w w'):=yG fun w=>zEN zUQ 0 (by decide) (by decide) _ (by decide) zU0 w;have Hb:Hid (∀w,Calls Tryz.prog 26 #[.string ⟨#[115,101,116,32,116,91,49,93,46,99,32,61,32,49,59]⟩,.int .u8 0] w fun e w'=>e=.returned (.agg #[.int .i64 2,.int .i64 1,.int .i64 8])∧Ext w w'):=yG fun w=>zEN zUR 0 (by decide) (by decide) _ (by decide) zU4 w;have Hc:Hid (∀w,Calls Tryz.prog 26 #[.string ⟨#[102,111,114,32,105,32,61,32,49,32,116,111,32,51,32,123,32,115,99,97,110,32,120,32,61,32,116,46,99,59,32,125]⟩,.int .u8 0] w fun e w'=>e=.returned (.agg #[.int .i64 3,.int .i64 0,.int .i64 15])∧Ext w w'):=yG fun w=>zEN zU3 0 (by decide) (by decide) _ (by decide) zUW w;have Hd:Hid (∀w,Calls Tryz.prog 26 #[.string ⟨#[115,99,97,110,32,120,32,61,32,116,46,99,59,32,99,104,111,112,59,32,115,101,116,32,116,91,49,93,46,99,32,61,32,49,59]⟩,.int .u8 0] w fun e w'=>e=.returned (.agg #[.int .i64 3,.int .i64 1,.int .i64 12])∧Ext w w'):=yG fun w=>zEN zTV 0 (by decide) (by decide) _ (by decide) zUU w;have He:Hid (∀w,Calls Tryz.prog 26 #[.string ⟨#[115,99,97,110,32,120,32,61,32,116,46,99,59,32,99,104,111,112,59,32,115,101,116,32,116,91,49,93,46,99,32,61,32,49,59]⟩,.int .u8 1] w fun e w'=>e=.returned (.agg #[.int .i64 2,.int .i64 1,.int .i64 12])∧Ext w w'):=yG fun w=>zEN zTV 1 (by decide) (by decide) _ (by decide) zUP w
 go_enter Tryz.func12,Tryz.ntmps12
 go_wp2_with fail
 refine(Ha.out _).mono ?_;rintro e w1 ⟨rfl,AA⟩
 go_wp2_with fail
 refine(Hb.out _).mono ?_;rintro e w2 ⟨rfl,AB⟩
 go_wp2_with fail
 refine(Hc.out _).mono ?_;rintro e w3 ⟨rfl,AC⟩
 go_wp2_with fail
 refine(Hd.out _).mono ?_;rintro e w4 ⟨rfl,AD⟩
 go_wp2_with fail
 refine(He.out _).mono ?_;rintro e w5 ⟨rfl,AE⟩
 go_wp2_with fail
 have AF:Hid (Ext w w5):=yG ((((AA.trans AB).trans AC).trans AD).trans AE);clear AA AB AC AD AE Ha Hb Hc Hd He;go_ret;exact⟨rfl,AF.out.trans (((((Ext.alloc _ _).trans (Ext.alloc _ _)).trans (Ext.alloc _ _)).trans (Ext.alloc _ _)).trans (Ext.alloc _ _))⟩
theorem zI6 (a b:Int)(w:World)(ha:w64 a)(hb:w64 b):Calls Tryz.prog 5 #[.int .i64 a,.int .i64 b] w fun e w'=>e=.returned (.bool true)∧Ext w w':=by
 go_enter Tryz.func5,Tryz.ntmps5
 go_wp2_with fail
 refine(JE a b ha hb _).mono ?_;rintro e _ ⟨rfl,rfl⟩
 go_wp2_with fail
 refine(zFO a b ha hb _).mono ?_;rintro e _ ⟨rfl,rfl⟩
 go_wp2_with fail
 refine(JI a b ha hb _).mono ?_;rintro e _ ⟨rfl,rfl⟩
 go_wp2_with fail
 refine(zNS a b ha hb _).mono ?_;rintro e _ ⟨rfl,rfl⟩
 go_wp2_with fail
 refine(JE a b ha hb _).mono ?_;rintro e _ ⟨rfl,rfl⟩
 go_wp2_with fail
 refine(JE b a hb ha _).mono ?_;rintro e _ ⟨rfl,rfl⟩;rw[zPv b a]
 go_wp2_with fail
 refine(JI a b ha hb _).mono ?_;rintro e _ ⟨rfl,rfl⟩
 go_wp2_with fail
 refine(JI b a hb ha _).mono ?_;rintro e _ ⟨rfl,rfl⟩;rw[zNx b a]
 go_wp2_with fail
 refine(zPh w).mono ?_;rintro e w' ⟨rfl,hx⟩
 go_wp2_with fail
 go_ret;exact⟨rfl,hx⟩
theorem zGE (a b c:Int)(w:World)(ha:w64 a)(hb:w64 b)(hc:w64 c):Calls Tryz.prog 6 #[.int .i64 a,.int .i64 b,.int .i64 c] w fun e w'=>e=.returned (.bool true)∧Ext w w':=by
 go_enter Tryz.func6,Tryz.ntmps6
 go_wp2_with fail
 refine(JE a b ha hb _).mono ?_;rintro e _ ⟨rfl,rfl⟩
 go_wp2_with fail
 refine(JE (xW a b) c (zDY _ _) hc _).mono ?_;rintro e _ ⟨rfl,rfl⟩
 go_wp2_with fail
 refine(JE b c hb hc _).mono ?_;rintro e _ ⟨rfl,rfl⟩
 go_wp2_with fail
 refine(JE a (xW b c) ha (zDY _ _) _).mono ?_;rintro e _ ⟨rfl,rfl⟩;rw[←zNZ]
 go_wp2_with fail
 refine(JI a b ha hb _).mono ?_;rintro e _ ⟨rfl,rfl⟩
 go_wp2_with fail
 refine(JI (vC a b) c (zA4 _ _) hc _).mono ?_;rintro e _ ⟨rfl,rfl⟩
 go_wp2_with fail
 refine(JI b c hb hc _).mono ?_;rintro e _ ⟨rfl,rfl⟩
 go_wp2_with fail
 refine(JI a (vC b c) ha (zA4 _ _) _).mono ?_;rintro e _ ⟨rfl,rfl⟩;rw[←zL4]
 go_wp2_with fail
 refine(JE b c hb hc _).mono ?_;rintro e _ ⟨rfl,rfl⟩
 go_wp2_with fail
 refine(JI a (xW b c) ha (zDY _ _) _).mono ?_;rintro e _ ⟨rfl,rfl⟩
 go_wp2_with fail
 refine(JI a b ha hb _).mono ?_;rintro e _ ⟨rfl,rfl⟩
 go_wp2_with fail
 refine(JI a c ha hc _).mono ?_;rintro e _ ⟨rfl,rfl⟩
 go_wp2_with fail
 refine(JE (vC a b) (vC a c) (zA4 _ _) (zA4 _ _) _).mono ?_;rintro e _ ⟨rfl,rfl⟩;rw[←zNv]
 go_wp2_with fail
 refine(zPh w).mono ?_;rintro e w' ⟨rfl,hx⟩
 go_wp2_with fail
 go_ret;exact⟨rfl,hx⟩
end Go.Proofs.YtbadjmmjbpeocaaGreat
namespace Go.Proofs.YtbadjmmjbpeocaaGreat
open Go Go.RowKit Go.Deep Go.ChangeShapes Go.WideShapes

end Go.Proofs.YtbadjmmjbpeocaaGreat
