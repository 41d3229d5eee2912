/- What a statement costs, walked: given that what its block costs is known. (and what follows of it). The conditions stand at each lemma. -/
import Derived.Test.YtbadjmmjbpeocaaGreatJaa
import Derived.Test.YtbadjmmjbpeocaaGreatJag
import Derived.Test.YtbadjmmjbpeocaaGreatJae
set_option linter.unusedVariables false
set_option linter.unusedSimpArgs false
set_option maxRecDepth 100000
set_option maxHeartbeats 16000000
namespace Go.Proofs.YtbadjmmjbpeocaaGreat
open Go Go.RowKit
theorem zMa (args:Array Value)(w:World):(callFunc 19 args).run Tryz.prog w=.ok (.enter 19 args) w:=by simp[go_sem]
def BOk (l:List Tx)(of:List Int)(tA Ao:Option Addr)(ct f k:Nat):Prop:=∀w,PV w tA l Ao of→Calls Tryz.prog 63 #[.agg #[.slice tA l.length ct],.int .i64 (k:Int)] w fun e w'=>e=.returned (.agg (zEP (tN l) f k).val)∧Ext w w'
theorem zS1 (l:List Tx)(of:List Int)(tA Ao:Option Addr)(ct f i:Nat)(hi:i<l.length)(hkk:(yZ (tN l) i).kind<256)(h14:(yZ (tN l) i).kind≠14)
  (AI:(yZ (tN l) i).kind=15→∃x y z,(yZ (tN l) i).kids=[x,y,z]∧x<l.length∧y<l.length∧w64 (yZ (tN l) x).num∧w64 (yZ (tN l) y).num∧BOk l of tA Ao ct f z) (w:World) (hv:PV w tA l Ao of) :
  Calls Tryz.prog 30 #[.agg #[.slice tA l.length ct],.int .i64 (i:Int)] w fun e w'=>e=.returned (.agg (zAN (tN l) (f+1) i).val)∧Ext w w':=by
 obtain⟨b,AB,rfl,hb,hc⟩:=hv.at_ i hi;have Ae:=yG (hv.kid i hi);have HV:=yG hv
 have AF:Hid (∀(k:Nat),k<l.length→∀w',Ext w w'→w'.cell? ⟨b,AB+k*5+3,none⟩=some (.int .i64 (yZ (tN l) k).num)):=yG fun k hk w' hx=>by
  obtain⟨b',Aq,he,A8,BG⟩:=hv.at_ k hk;injection he with he;injection he with he1 he2;subst he1 he2;exact(hx.cell (p:=⟨b,_,none⟩) hb).trans (BG 3 (by decide))
 have AR:=yG AI;clear AI;obtain⟨AC,Aj⟩:∃AC,Hid ((yZ (tN l) i).kids=AC):=⟨_,yG rfl⟩;obtain⟨nk,AZ⟩:∃nk,Hid ((yZ (tN l) i).kind=nk):=⟨_,yG rfl⟩;obtain⟨nn,BB⟩:∃nn,Hid ((yZ (tN l) i).num=nn):=⟨_,yG rfl⟩
 have HC:Hid ((∀j,j<5→w.cell? ⟨b,AB+i*5+j,none⟩=[Value.int .u8 (nk:Int),.int .i64 (YT l i),.string (xG (yZ (tN l) i).text),.int .i64 nn,.slice (hdN l i).1 AC.length (hdN l i).2][j]?)∧b<w.heap.size):=yG ⟨by
  rw[←AZ.out,←BB.out,←Aj.out]
  exact hc,hb⟩
 rw[Aj.out] at Ae AR;rw[AZ.out] at hkk h14 AR;clear hv hc hb;generalize YT l i=np at *;generalize (yZ (tN l) i).text=nt at *;generalize (hdN l i).1=kA at *;generalize (hdN l i).2=kc at *;obtain⟨W,HW⟩:∃W,Hid ((w.alloc (.cells #[.slice (some ⟨b,AB,none⟩) l.length ct] 27)).alloc (.cells #[.int .i64 0,.int .i64 0,.int .i64 0] 48)=W):=⟨_,yG rfl⟩;have HX:Hid (Ext w W):=yG (by rw[←HW.out]; exact(Ext.alloc _ _).trans (Ext.alloc _ _));have HT:Hid (Blk W w.heap.size 27 #[.slice (some ⟨b,AB,none⟩) l.length ct]):=yG (by rw[←HW.out]; exact(Blk.new _ _ _).alloc _)
 have HR:Hid (Blk W (w.heap.size+1) 48 #[.int .i64 0,.int .i64 0,.int .i64 0]):=yG (by
  have h:=Blk.new (w.alloc (.cells #[.slice (some ⟨b,AB,none⟩) l.length ct] 27)) 48 #[.int .i64 0,.int .i64 0,.int .i64 0];rw[yT] at h;rw[←HW.out]
  exact h)
 have q0:(i:Int)<(l.length:Int):=by omega
 go_enter Tryz.func30,Tryz.ntmps30
 go_upto_region 1 with fail
 rw[HW.out];obtain⟨gp,Ai⟩:∃g,Hid (w.heap.size=g):=⟨_,yG rfl⟩;obtain⟨gr,AX⟩:∃g,Hid (w.heap.size+1=g):=⟨_,yG rfl⟩;rw[AX.out] at HR;rw[Ai.out] at HT
 try rw[AX.out]
 try rw[Ai.out]
 have As:Hid (w.heap.size≤gr∧gp≠gr∧gr<W.heap.size):=yG ⟨by rw[←AX.out]; omega,by rw[←AX.out,←Ai.out]; omega,HR.out.lt⟩;have p0:W.cell? ⟨gp,0,none⟩=some (.slice (some ⟨b,AB,none⟩) l.length ct):=HT.out.cell 0;have e0:W.cell? ⟨b,AB+i*5,none⟩=some (.int .u8 (nk:Int)):=(HX.out.cell (p:=⟨b,_,none⟩) HC.out.2).trans (HC.out.1 0 (by decide));have e1:W.cell? ⟨b,AB+i*5+1,none⟩=some (.int .i64 np):=(HX.out.cell (p:=⟨b,_,none⟩) HC.out.2).trans (HC.out.1 1 (by decide));have e2:W.cell? ⟨b,AB+i*5+2,none⟩=some (.string (xG nt)):=(HX.out.cell (p:=⟨b,_,none⟩) HC.out.2).trans (HC.out.1 2 (by decide));have e3:W.cell? ⟨b,AB+i*5+3,none⟩=some (.int .i64 nn):=(HX.out.cell (p:=⟨b,_,none⟩) HC.out.2).trans (HC.out.1 3 (by decide));have e4:W.cell? ⟨b,AB+i*5+4,none⟩=some (.slice kA AC.length kc):=(HX.out.cell (p:=⟨b,_,none⟩) HC.out.2).trans (HC.out.1 4 (by decide));clear HW Ai AX
 go_upto_region 3 with fail
 clear p0 e0 e1 e2 e3 e4 q0;obtain⟨W2,AS⟩:∃W2,Hid ((W.alloc (.cells #[.int .u8 (nk:Int),.int .i64 np,.string (xG nt),.int .i64 nn,.slice kA AC.length kc] 38)).alloc (.cells #[.int .i64 0,.int .i64 0,.int .i64 1] 48)=W2):=⟨_,yG rfl⟩
 have Af:Ext W W2:=by rw[←AS.out]; exact(Ext.alloc _ _).trans (Ext.alloc _ _)
 have AH:Hid (Ext w W2):=yG (HX.out.trans Af);have AY:=yG (HT.out.ext Af);have Au:=yG (HR.out.ext Af);have AL:Hid (Blk W2 W.heap.size 38 #[.int .u8 (nk:Int),.int .i64 np,.string (xG nt),.int .i64 nn,.slice kA AC.length kc]):=yG (by rw[←AS.out]; exact(Blk.new _ _ _).alloc _)
 have Av:Hid (Blk W2 (W.heap.size+1) 48 #[.int .i64 0,.int .i64 0,.int .i64 1]):=yG (by
  have h:=Blk.new (W.alloc (.cells #[.int .u8 (nk:Int),.int .i64 np,.string (xG nt),.int .i64 nn,.slice kA AC.length kc] 38)) 48 #[.int .i64 0,.int .i64 0,.int .i64 1];rw[yT] at h;rw[←AS.out]
  exact h)
 try rw[AS.out]
 obtain⟨gn,Ad⟩:∃g,Hid (W.heap.size=g):=⟨_,yG rfl⟩;obtain⟨g1,Al⟩:∃g,Hid (W.heap.size+1=g):=⟨_,yG rfl⟩;rw[Al.out] at Av;rw[Ad.out] at AL
 try rw[Al.out]
 try rw[Ad.out]
 have BJ:Hid (gr≠gn∧gr≠g1):=yG (by have:=As.out.2.2; rw[←Ad.out,←Al.out]; omega);clear HX HT HR AS Af Ad Al HC;have y0:W2.cell? ⟨gn,0,none⟩=some (.int .u8 (nk:Int)):=AL.out.cell 0;have y4:W2.cell? ⟨gn,4,none⟩=some (.slice kA AC.length kc):=AL.out.cell 4;have BM:((nk:Int)==14)=false:=beq_eq_false_iff_ne.2 (by omega)
 by_cases AI:nk=15
 ·have A7:((nk:Int)==15)=true:=by rw[AI]; rfl
  obtain⟨x,y,z,BH,BQ,BO,BS,BU,Az⟩:=AR.out AI;subst BH
  have AU:Hid (zAN (tN l) (f+1) i=JQ xW zF5 (JQ vC (JQ xW (zEP (tN l) f z) zF5) ⟨zC4 (yZ (tN l) x).num (yZ (tN l) y).num,zC4 (yZ (tN l) x).num (yZ (tN l) y).num,zC4 (yZ (tN l) x).num (yZ (tN l) y).num⟩)):=yG (by
   rw[zAN,AZ.out,if_pos AI];unfold VQ;rw[Aj.out]
   rfl)
  have A9:=yG (AF.out x BQ);have A3:=yG (AF.out y BO);have A1:=yG Az;obtain⟨kb,ko,rfl,AW,Ah⟩:=(Ae.out.ext AH.out).at_ (by simp[ints]);have k0:W2.cell? ⟨kb,ko,none⟩=some (.int .i64 (x:Int)):=Ah 0 (by simp[ints]);have k1:W2.cell? ⟨kb,ko+1,none⟩=some (.int .i64 (y:Int)):=Ah 1 (by simp[ints]);have k2:W2.cell? ⟨kb,ko+2,none⟩=some (.int .i64 (z:Int)):=Ah 2 (by simp[ints]);have nx:W2.cell? ⟨b,AB+x*5+3,none⟩=some (.int .i64 (yZ (tN l) x).num):=A9.out W2 AH.out;have ny:W2.cell? ⟨b,AB+y*5+3,none⟩=some (.int .i64 (yZ (tN l) y).num):=A3.out W2 AH.out
  have Ar:b<W2.heap.size:=by
   obtain⟨b',Aq,he,A8,_⟩:=(HV.out.ext AH.out).at_ i hi;injection he with he;injection he with he1 he2;subst he1;exact A8
  have AV:=yG (zQz (tN l) f z);clear Ah Az AR AF Ae Aj A9 A3;generalize (yZ (tN l) x).num=xn at *;generalize (yZ (tN l) y).num=yn at *;have p0:W2.cell? ⟨gp,0,none⟩=some (.slice (some ⟨b,AB,none⟩) l.length ct):=AY.out.cell 0;have AO:=AY.out.lt;have AJ:=AL.out.lt
  have qx:(x:Int)<(l.length:Int):=by omega
  have qy:(y:Int)<(l.length:Int):=by omega
  have Ab:=yG (zQw xn yn);obtain⟨tn,Ap⟩:∃v,Hid (zC4 xn yn=v):=⟨_,yG rfl⟩;rw[Ap.out] at AU Ab
  go_upto_region 10 with fail
  apply ZP (by kernel_rfl) (by kernel_rfl) (by kernel_rfl);apply xB (.pointer (some ⟨gp,0,none⟩)) rfl rfl rfl
  ·intro w' AA hH;clear hH;simp[xA,go_sem,qx,qy];exact Ext.refl _
  apply xB (.slice (some ⟨b,AB,none⟩) l.length ct) rfl rfl rfl
  ·intro w' AA hH;clear hH;have z0:=(AA.cell (p:=⟨gp,0,none⟩) AO).trans p0;simp[xA,go_sem,z0,qx,qy];exact Ext.refl _
  apply xB (.pointer (some ⟨gn,4,none⟩)) rfl rfl rfl
  ·intro w' AA hH;clear hH;simp[xA,go_sem,qx,qy];exact Ext.refl _
  apply xB (.slice (some ⟨kb,ko,none⟩) 3 kc) rfl rfl rfl
  ·intro w' AA hH;clear hH;have z0:=(AA.cell (p:=⟨gn,4,none⟩) AJ).trans y4;simp[xA,go_sem,z0,qx,qy];exact Ext.refl _
  apply xB (.pointer (some ⟨kb,ko+1,none⟩)) rfl rfl rfl
  ·intro w' AA hH;clear hH;simp[xA,go_sem,qx,qy];exact Ext.refl _
  apply xB (.int .i64 (y:Int)) rfl rfl rfl
  ·intro w' AA hH;clear hH;have z0:=(AA.cell (p:=⟨kb,ko+1,none⟩) AW).trans k1;simp[xA,go_sem,z0,qx,qy];exact Ext.refl _
  apply xB (.pointer (some ⟨b,AB+y*5,none⟩)) rfl rfl rfl
  ·intro w' AA hH;clear hH;simp[xA,go_sem,qx,qy];exact Ext.refl _
  apply xB (.pointer (some ⟨b,AB+y*5+3,none⟩)) rfl rfl rfl
  ·intro w' AA hH;clear hH;simp[xA,go_sem,qx,qy];exact Ext.refl _
  apply xB (.int .i64 yn) rfl rfl rfl
  ·intro w' AA hH;clear hH;have z0:=(AA.cell (p:=⟨b,AB+y*5+3,none⟩) Ar).trans ny;simp[xA,go_sem,z0,qx,qy];exact Ext.refl _
  apply xB (.pointer (some ⟨gp,0,none⟩)) rfl rfl rfl
  ·intro w' AA hH;clear hH;simp[xA,go_sem,qx,qy];exact Ext.refl _
  apply xB (.slice (some ⟨b,AB,none⟩) l.length ct) rfl rfl rfl
  ·intro w' AA hH;clear hH;have z0:=(AA.cell (p:=⟨gp,0,none⟩) AO).trans p0;simp[xA,go_sem,z0,qx,qy];exact Ext.refl _
  apply xB (.pointer (some ⟨gn,4,none⟩)) rfl rfl rfl
  ·intro w' AA hH;clear hH;simp[xA,go_sem,qx,qy];exact Ext.refl _
  apply xB (.slice (some ⟨kb,ko,none⟩) 3 kc) rfl rfl rfl
  ·intro w' AA hH;clear hH;have z0:=(AA.cell (p:=⟨gn,4,none⟩) AJ).trans y4;simp[xA,go_sem,z0,qx,qy];exact Ext.refl _
  apply xB (.pointer (some ⟨kb,ko,none⟩)) rfl rfl rfl
  ·intro w' AA hH;clear hH;simp[xA,go_sem,qx,qy];exact Ext.refl _
  apply xB (.int .i64 (x:Int)) rfl rfl rfl
  ·intro w' AA hH;clear hH;have z0:=(AA.cell (p:=⟨kb,ko,none⟩) AW).trans k0;simp[xA,go_sem,z0,qx,qy];exact Ext.refl _
  apply xB (.pointer (some ⟨b,AB+x*5,none⟩)) rfl rfl rfl
  ·intro w' AA hH;clear hH;simp[xA,go_sem,qx,qy];exact Ext.refl _
  apply xB (.pointer (some ⟨b,AB+x*5+3,none⟩)) rfl rfl rfl
  ·intro w' AA hH;clear hH;simp[xA,go_sem,qx,qy];exact Ext.refl _
  apply xB (.int .i64 xn) rfl rfl rfl
  ·intro w' AA hH;clear hH;have z0:=(AA.cell (p:=⟨b,AB+x*5+3,none⟩) Ar).trans nx;simp[xA,go_sem,z0,qx,qy];exact Ext.refl _
  apply xB (.int .i64 (wrap64 (yn-xn))) rfl rfl rfl
  ·intro w' AA hH;clear hH;simp[xA,go_sem];exact⟨IntWalk.i64_left _,Ext.refl _⟩
  apply xB (.int .i64 (wrap64 (wrap64 (yn-xn)+1))) rfl rfl rfl
  ·intro w' AA hH;clear hH;simp[xA,go_sem];exact⟨IntWalk.i64_left _,Ext.refl _⟩
  apply xB (.int .i64 tn) rfl rfl rfl
  ·intro w' AA hH;clear hH;rw[←Ap.out];unfold zC4;simp[xA,go_sem];exact Ext.refl _
  apply xB (.int .i64 tn) rfl rfl rfl
  ·intro w' AA hH;clear hH;simp[xA,go_sem,qx,qy];exact Ext.refl _
  apply xR;intro w2 AG hH;clear hH k0 k1 nx ny Ar p0 AO AJ qx qy y0 y4 Ap BM A7;have AK:Hid (Ext w w2):=yG (AH.out.trans AG);have An:=yG (AY.out.ext AG);have AQ:=yG (Au.out.ext AG);have AM:=yG (Av.out.ext AG);have Ax:=AL.out.ext AG;have y4:w2.cell? ⟨gn,4,none⟩=some (.slice (some ⟨kb,ko,none⟩) 3 kc):=Ax.cell 4;have A2:w2.cell? ⟨kb,ko+2,none⟩=some (.int .i64 (z:Int)):=(AG.cell (p:=⟨kb,_,none⟩) AW).trans k2;have AP:kb<w2.heap.size:=yU AW AG.size;have AJ:=Ax.lt;have p0:w2.cell? ⟨gp,0,none⟩=some (.slice (some ⟨b,AB,none⟩) l.length ct):=An.out.cell 0;have AO:=An.out.lt;have o0:w2.cell? ⟨g1,0,none⟩=some (.int .i64 0):=AM.out.cell 0;have o1:w2.cell? ⟨g1,1,none⟩=some (.int .i64 0):=AM.out.cell 1;have o2:w2.cell? ⟨g1,2,none⟩=some (.int .i64 1):=AM.out.cell 2;have AE:=AM.out.lt;clear AG Ax AW k2 AL AH AY Au Av;obtain⟨vb,Am⟩:∃v,Hid (zEP (tN l) f z=v):=⟨_,yG rfl⟩
  have Ay:Hid (∀w',Ext w2 w'→Calls Tryz.prog 63 #[.agg #[.slice (some ⟨b,AB,none⟩) l.length ct],.int .i64 (z:Int)] w' fun e w3=>e=.returned (.agg vb.val)∧Ext w' w3):=yG fun w' AA=>by
   rw[←Am.out];exact A1.out w' (HV.out.ext (AK.out.trans AA))
  rw[Am.out] at AU AV;obtain⟨bl,bu,bs⟩:=vb;unfold B3.val at Ay;clear Am A1 HV
  try simp only[Act.put,yD,yF,yE]
  go_upto_region 11 with fail
  apply xN 9 (by kernel_rfl) (by kernel_rfl) (by kernel_rfl);apply sL p0 AO (.agg #[.slice (some ⟨b,AB,none⟩) l.length ct]);apply sQ (.pointer (some ⟨gn,4,none⟩));apply sL y4 AJ (.slice (some ⟨kb,ko,none⟩) 3 kc);apply sQ (.pointer (some ⟨kb,ko+2,none⟩));apply sL A2 AP (.int .i64 (z:Int));apply xB (.agg #[.int .i64 bl,.int .i64 bu,.int .i64 bs]) rfl rfl rfl
  ·intro w' AA hH;clear hH;simp[xA,go_sem];refine(Ay.out w' AA).mono ?_;rintro e w3 ⟨rfl,AD⟩;exact⟨_,rfl,rfl,AD⟩
  apply xB (.agg #[.int .i64 0,.int .i64 0,.int .i64 1]) rfl rfl rfl
  ·intro w' AA hH;clear hH;have z0:=(AA.cell (p:=⟨g1,0,none⟩) AE).trans o0;have z1:=(AA.cell (p:=⟨g1,0+1,none⟩) AE).trans o1;have z2:=(AA.cell (p:=⟨g1,0+2,none⟩) AE).trans o2;simp[xA,go_sem,z0,z1,z2];exact Ext.refl _
  apply xB (.agg #[.int .i64 (xW bl 0),.int .i64 (xW bu 0),.int .i64 (xW bs 1)]) rfl rfl rfl
  ·intro w' AA hH;clear hH;simp[xA,go_sem];refine(zCj 17 xW zDy JE ⟨bl,bu,bs⟩ zF5 AV.out zMI w').mono ?_;rintro e w3 ⟨rfl,AD⟩;exact⟨_,rfl,rfl,AD⟩
  apply xZ (fun v w'=>∃g,v=.pointer (some ⟨g,0,none⟩)∧Blk w' g 48 #[.int .i64 0,.int .i64 0,.int .i64 0]∧w2.heap.size≤g) (by rintro v w w' ⟨g,h1,h2,h3⟩ hx; exact⟨g,h1,h2.ext hx,h3⟩) rfl rfl rfl
  ·intro w' AA hH;clear hH;simp[xA,go_sem];exact⟨⟨Blk.new w' _ _,AA.size⟩,Ext.alloc _ _⟩
  intro BT;apply xR;intro w3 Ac hH;obtain⟨ge,rfl,A0,BE⟩:=hH _ (List.mem_cons_self ..)
  have At:Hid (ge≠gr∧ge≠g1∧ge≠gp∧w.heap.size≤ge):=yG (by
   have h1:=AQ.out.lt;have h2:=AK.out.size
   omega)
  clear hH o0 o1 o2 y4 p0 A2 AP AJ AO AE BE;have A6:=yG A0;have A5:Hid (Ext w w3):=yG (AK.out.trans Ac);have BA:=yG (AQ.out.ext Ac);have A4:=yG (AM.out.ext Ac);clear Ac AQ An AM AK A0;refine(show wpList Tryz.prog _ _ [_] _ _ from ?_)
  try simp only[Act.put,yD,yF,yE]
  refine xQ rfl 48 (.tmp 10) (.tmp 76) rfl ge #[.int .i64 (xW bl 0),.int .i64 (xW bu 0),.int .i64 (xW bs 1)] rfl rfl 48 _ A6.out (by kernel_rfl) rfl rfl ?_;intro w4 AN Aa;have Ak:=yG Aa;have BC:=yG (AN.ext A5.out At.out.2.2.2);have BR:=yG (AN.blk BA.out (by have:=At.out; omega));have AT:=AN.blk A4.out (by have:=At.out; omega);have o0:w4.cell? ⟨g1,0,none⟩=some (.int .i64 0):=AT.cell 0;have o1:w4.cell? ⟨g1,1,none⟩=some (.int .i64 0):=AT.cell 1;have o2:w4.cell? ⟨g1,2,none⟩=some (.int .i64 1):=AT.cell 2;have AE:=AT.lt;have c0:w4.cell? ⟨ge,0,none⟩=some (.int .i64 (xW bl 0)):=Ak.out.cell 0;have c1:w4.cell? ⟨ge,1,none⟩=some (.int .i64 (xW bu 0)):=Ak.out.cell 1;have c2:w4.cell? ⟨ge,2,none⟩=some (.int .i64 (xW bs 1)):=Ak.out.cell 2;have Ag:=Ak.out.lt;clear AN Aa BA A4 A5 A6 AT;have BF:=yG (VA ⟨bl,bu,bs⟩ zF5);have BN:=yG (zHU (JQ xW ⟨bl,bu,bs⟩ zF5) ⟨tn,tn,tn⟩)
  go_upto_region 12 with fail
  apply xN 8 (by kernel_rfl) (by kernel_rfl) (by kernel_rfl);apply xB (.agg #[.int .i64 0,.int .i64 0,.int .i64 1]) rfl rfl rfl
  ·intro w' AA hH;clear hH;have z0:=(AA.cell (p:=⟨g1,0,none⟩) AE).trans o0;have z1:=(AA.cell (p:=⟨g1,0+1,none⟩) AE).trans o1;have z2:=(AA.cell (p:=⟨g1,0+2,none⟩) AE).trans o2;simp[xA,go_sem,z0,z1,z2];exact Ext.refl _
  apply xB (.agg #[.int .i64 (xW bl 0),.int .i64 (xW bu 0),.int .i64 (xW bs 1)]) rfl rfl rfl
  ·intro w' AA hH;clear hH;have z0:=(AA.cell (p:=⟨ge,0,none⟩) Ag).trans c0;have z1:=(AA.cell (p:=⟨ge,0+1,none⟩) Ag).trans c1;have z2:=(AA.cell (p:=⟨ge,0+2,none⟩) Ag).trans c2;simp[xA,go_sem,z0,z1,z2];exact Ext.refl _
  apply sQ (.int .i64 tn);apply sQ (.int .i64 tn);apply sQ (.int .i64 tn);apply sQ (.agg #[.int .i64 tn,.int .i64 tn,.int .i64 tn]);apply xB (.agg #[.int .i64 (vC (xW bl 0) tn),.int .i64 (vC (xW bu 0) tn),.int .i64 (vC (xW bs 1) tn)]) rfl rfl rfl
  ·intro w' AA hH;clear hH;simp[xA,go_sem];refine(zCj 19 vC zMa JI ⟨(xW bl 0),(xW bu 0),(xW bs 1)⟩ ⟨tn,tn,tn⟩ BF.out ⟨Ab.out,Ab.out,Ab.out⟩ w').mono ?_;rintro e w3 ⟨rfl,AD⟩;exact⟨_,rfl,rfl,AD⟩
  apply xB (.agg #[.int .i64 (xW 0 (vC (xW bl 0) tn)),.int .i64 (xW 0 (vC (xW bu 0) tn)),.int .i64 (xW 1 (vC (xW bs 1) tn))]) rfl rfl rfl
  ·intro w' AA hH;clear hH;simp[xA,go_sem];refine(zCj 17 xW zDy JE zF5 ⟨(vC (xW bl 0) tn),(vC (xW bu 0) tn),(vC (xW bs 1) tn)⟩ zMI BN.out w').mono ?_;rintro e w3 ⟨rfl,AD⟩;exact⟨_,rfl,rfl,AD⟩
  apply xR;intro w5 Aw hH;clear hH o0 o1 o2 c0 c1 c2 AE Ag;have BL:Hid (Ext w w5):=yG (BC.out.trans Aw);have BP:=yG (BR.out.ext Aw);clear Aw;refine(show wpList Tryz.prog _ _ [_] _ _ from ?_)
  try simp only[Act.put,yD,yF,yE]
  refine xQ rfl 48 (.tmp 4) (.tmp 84) rfl gr #[.int .i64 (xW 0 (vC (xW bl 0) tn)),.int .i64 (xW 0 (vC (xW bu 0) tn)),.int .i64 (xW 1 (vC (xW bs 1) tn))] rfl rfl 48 _ BP.out (by kernel_rfl) rfl rfl ?_;intro w6 BK BD
  go_wp2_with fail
  refine JH gr 48 _ _ rfl rfl rfl BD Tryz.underlying48 rfl (by kernel_rfl) ?_;exact⟨by rw[AU.out]; rfl,BK.ext BL.out As.out.1⟩
 ·have A7:((nk:Int)==15)=false:=beq_eq_false_iff_ne.2 (by omega);have AU:Hid (zAN (tN l) (f+1) i=zCY (nk:Int)):=yG (by rw[zAN,AZ.out,if_neg AI]);clear y4 AR AF Ae
  go_wp2_with fail
  refine(zQM (nk:Int) (by omega) (by omega) W2).mono ?_;rintro e w3 ⟨rfl,AD⟩;have AK:=yG (AH.out.trans AD);have AQ:=yG (Au.out.ext AD);clear AD y0;generalize zCY (nk:Int)=vb at *;obtain⟨bl,bu,bs⟩:=vb;unfold B3.val
  go_wp2_with (refine xQ rfl 48 (.tmp 4) (.tmp 87) rfl gr #[.int .i64 bl,.int .i64 bu,.int .i64 bs] rfl rfl 48 _ AQ.out (by kernel_rfl) rfl rfl ?_; intro w4 AN Aa)
  refine JH gr 48 _ _ rfl rfl rfl Aa Tryz.underlying48 rfl (by kernel_rfl) ?_;exact⟨by rw[AU.out]; rfl,AN.ext AK.out As.out.1⟩
structure zTJ (l:List Tx):Prop where
 up:∀i,∀k ∈ (yZ (tN l) i).kids,i<k∧k<l.length
 kk:∀i,(yZ (tN l) i).kind<256
 n14:∀i,(yZ (tN l) i).kind≠14
 f15:∀i,(yZ (tN l) i).kind=15→∃x y z,(yZ (tN l) i).kids=[x,y,z]
 num:∀i,w64 (yZ (tN l) i).num
 kl:∀i,(yZ (tN l) i).kids.length≤9000
theorem zMb {l:List Tx}(H:zTJ l)(of:List Int)(tA Ao:Option Addr)(ct:Nat):∀(f i:Nat),l.length≤f+i→i<l.length→SOk l of tA Ao ct f i
 | 0,i,h,hi=>absurd hi (by omega)
 | f+1,i,h,hi=>fun w hv=>zS1 l of tA Ao ct f i hi (H.kk i) (H.n14 i) (fun AB=>by
   obtain⟨x,y,z,hk⟩:=H.f15 i AB;have hx:=H.up i x (by rw[hk]; simp);have hy:=H.up i y (by rw[hk]; simp);have hz:=H.up i z (by rw[hk]; simp)
   exact⟨x,y,z,hk,hx.2,hy.2,H.num x,H.num y,fun w hv=>zRw l of tA Ao ct f z hz.2 (H.kl z) (fun k AA=>zMb H of tA Ao ct f k (by have:=(H.up z k AA).1; omega) (H.up z k AA).2) w hv⟩) w hv
def zGC (t:List Nd)(f:Nat)(way:Int)(s:B3 × B3 × B3)(k:Nat):B3 × B3 × B3:=
 (JQ xW s.1 (zAN t f k),if way=1∧(yZ t k).kind=19 then ⟨0,0,0⟩ else JQ xW s.2.1 (zAN t f k),zKF s.2.2 (JQ xW s.2.1 (zAN t f k)))
def zOT (t:List Nd)(f:Nat)(way:Int)(j k:Nat):B3 × B3 × B3:=((yZ t j).kids.take k).foldl (zGC t f way) (⟨0,0,0⟩,⟨0,0,0⟩,⟨0,0,0⟩)
theorem zQq {t:List Nd}{f:Nat}{way:Int}{j k:Nat}(hk:k<(yZ t j).kids.length):zOT t f way j (k+1)=zGC t f way (zOT t f way j k) (yZ t j).kids[k]:=by
 unfold zOT;rw[zZ hk,yA]
 rfl
def ok3 (s:B3 × B3 × B3):Prop:=s.1.ok∧s.2.1.ok∧s.2.2.ok
theorem zSc {a b:B3}(ha:a.ok)(hb:b.ok):(zKF a b).ok:=by
 obtain⟨h1,h2,h3⟩:=ha;obtain⟨k1,k2,k3⟩:=hb;unfold w64 at *
 refine⟨?_,?_,?_⟩ <;> (unfold zKF JQ w64; simp only; omega)
theorem zQd {t:List Nd}{f:Nat}{way:Int}{s:B3 × B3 × B3}(k:Nat)(h:ok3 s):ok3 (zGC t f way s k):=by
 refine⟨VA _ _,?_,zSc h.2.2 (VA _ _)⟩;unfold zGC
 dsimp only
 split
 ·exact zCg
 ·exact VA _ _
theorem zKD {t:List Nd}{f:Nat}{way:Int}:∀(l:List Nat) (s:B3 × B3 × B3),ok3 s→ok3 (l.foldl (zGC t f way) s)
 | [],s,h=>h
 | k::l,s,h=>zKD l _ (zQd k h)
theorem zSY (t:List Nd)(f:Nat)(way:Int)(j k:Nat):ok3 (zOT t f way j k):=zKD _ _ ⟨zCg,zCg,zCg⟩
def zU7 (s:B3 × B3 × B3):B3:=⟨s.2.2.l,s.2.2.u,xW (xW s.1.s 2) s.2.2.u⟩
def zD0 (t:List Nd)(f:Nat)(way:Int)(j:Nat):B3 × Bool:=
 let b:=zU7 (zOT t f way j (yZ t j).kids.length)
 if 4611686018427387904<max (max b.l b.u) b.s then (⟨0,0,0⟩,false) else (b,true)
structure xX where
 bt:Nat
 ot:Nat
 ct:Nat
 A:Option Addr
 c:Nat
 nh:List (Nd × Hd2)
structure PS (w:World)(p B:Nat)(s:Ps)(R:xX):Prop where
 blk:Blk w p 101 #[.slice (some ⟨R.bt,R.ot,none⟩) s.ts.length R.ct,.slice R.A R.nh.length R.c,.int .i64 (s.deep:Int)]
 zMX:∀k,k<s.ts.length*5→w.cell? ⟨R.bt,R.ot+k,none⟩=(jP s.ts)[k]?
 zIr:s.ts.length≤R.ct
 zE9:R.bt<B
 nodes:s.nd=R.nh.map Prod.fst
 ns:NS w B 38 3 R.A R.c R.nh
 pB:B≤p
 xV:zEz s
def xK (p:Nat)(R:xX)(b:Nat):Prop:=b=p∨zG3 R.A R.nh b
theorem PS.ext {w w':World}{p B:Nat}{s:Ps}{R:xX}(h:PS w p B s R)(hx:Ext w w'):PS w' p B s R:=
 ⟨h.blk.ext hx,fun k hk=>(hx.cell (p:=⟨R.bt,R.ot+k,none⟩) (yU h.zE9 (Nat.le_trans h.pB (zV h.blk.lt)))).trans (h.zMX k hk),h.zIr,h.zE9,h.nodes,h.ns.ext hx,h.pB,h.xV⟩
theorem PS.len {w:World}{p B:Nat}{s:Ps}{R:xX}(h:PS w p B s R):s.nd.length=R.nh.length:=by rw[h.nodes,yQ]
theorem PS.tok {w:World}{p B:Nat}{s:Ps}{R:xX}(h:PS w p B s R)(j:Nat)(hj:j<5):w.cell? ⟨R.bt,R.ot+j,none⟩=(ZY s.hd)[j]?:=by
 obtain⟨t,r,hs,ht⟩:=h.xV.hd;have hp:=h.xV.pos;rw[h.zMX j (by omega),hs,ht]
 show(ZY t++jP r)[j]?=_
 rw[List.getElem?_append_left (by show j<5; exact hj)]
theorem PS.x0 {w:World}{p B:Nat}{s:Ps}{R:xX}(h:PS w p B s R):w.cell? ⟨p,0,none⟩=some (.slice (some ⟨R.bt,R.ot,none⟩) s.ts.length R.ct):=h.blk.cell 0
theorem PS.x1 {w:World}{p B:Nat}{s:Ps}{R:xX}(h:PS w p B s R):w.cell? ⟨p,1,none⟩=some (.slice R.A R.nh.length R.c):=h.blk.cell 1
theorem PS.x2 {w:World}{p B:Nat}{s:Ps}{R:xX}(h:PS w p B s R):w.cell? ⟨p,2,none⟩=some (.int .i64 (s.deep:Int)):=h.blk.cell 2
theorem PS.t0 {w:World}{p B:Nat}{s:Ps}{R:xX}(h:PS w p B s R):w.cell? ⟨R.bt,R.ot,none⟩=some (.int .u8 (s.hd.kind:Int)):=h.tok 0 (by decide)
theorem PS.t1 {w:World}{p B:Nat}{s:Ps}{R:xX}(h:PS w p B s R):w.cell? ⟨R.bt,R.ot+1,none⟩=some (.int .i64 (s.hd.at_:Int)):=h.tok 1 (by decide)
theorem PS.t2 {w:World}{p B:Nat}{s:Ps}{R:xX}(h:PS w p B s R):w.cell? ⟨R.bt,R.ot+2,none⟩=some (.int .i64 (s.hd.en:Int)):=h.tok 2 (by decide)
theorem PS.t3 {w:World}{p B:Nat}{s:Ps}{R:xX}(h:PS w p B s R):w.cell? ⟨R.bt,R.ot+3,none⟩=some (.string (xG s.hd.text)):=h.tok 3 (by decide)
theorem PS.t4 {w:World}{p B:Nat}{s:Ps}{R:xX}(h:PS w p B s R):w.cell? ⟨R.bt,R.ot+4,none⟩=some (.int .i64 s.hd.n):=h.tok 4 (by decide)
theorem PS.btl {w:World}{p B:Nat}{s:Ps}{R:xX}(h:PS w p B s R):R.bt<w.heap.size:=yU h.zE9 (Nat.le_trans h.pB (zV h.blk.lt))
structure TS (w:World)(p:Nat)(s:Ps)(R:xX):Prop where
 blk:Blk w p 101 #[.slice (some ⟨R.bt,R.ot,none⟩) s.ts.length R.ct,.slice R.A R.nh.length R.c,.int .i64 (s.deep:Int)]
 tok:∀j,j<5→w.cell? ⟨R.bt,R.ot+j,none⟩=(ZY s.hd)[j]?
 btl:R.bt<w.heap.size
 pos:0<s.ts.length
theorem PS.ts {w:World}{p B:Nat}{s:Ps}{R:xX}(h:PS w p B s R):TS w p s R:=⟨h.blk,h.tok,h.btl,h.xV.pos⟩
theorem TS.grown {w w':World}{p:Nat}{s:Ps}{R:xX}{o:Option Nat}(h:TS w p s R)(hg:w.grownBy w' o)(h1:some p≠o)(h2:some R.bt≠o):TS w' p s R:=
 ⟨(hg.block p h.blk.lt h1).trans h.blk,fun j hj=>(World.cell?_of_block (w:=w) (hg.block R.bt h.btl h2)).trans (h.tok j hj),yU h.btl hg.size,h.pos⟩
theorem ZC (w:World)(p:Nat)(s:Ps)(R:xX)(h:TS w p s R) :
  Calls Tryz.prog 43 #[.pointer (some ⟨p,0,none⟩)] w fun e w'=>e=.returned (.agg (ZY s.hd).toArray)∧Ext w w':=by
 have x0:w.cell? ⟨p,0,none⟩=some (.slice (some ⟨R.bt,R.ot,none⟩) s.ts.length R.ct):=h.blk.cell 0;have t0:w.cell? ⟨R.bt,R.ot,none⟩=some (.int .u8 (s.hd.kind:Int)):=h.tok 0 (by decide);have t1:w.cell? ⟨R.bt,R.ot+1,none⟩=some (.int .i64 (s.hd.at_:Int)):=h.tok 1 (by decide);have t2:w.cell? ⟨R.bt,R.ot+2,none⟩=some (.int .i64 (s.hd.en:Int)):=h.tok 2 (by decide);have t3:w.cell? ⟨R.bt,R.ot+3,none⟩=some (.string (xG s.hd.text)):=h.tok 3 (by decide);have t4:w.cell? ⟨R.bt,R.ot+4,none⟩=some (.int .i64 s.hd.n):=h.tok 4 (by decide);have AA:=h.pos
 have q0:(0:Int)<(s.ts.length:Int):=by omega
 have AB:=h.blk.lt;have AC:=h.btl;clear h;unfold ZY;generalize s.hd=t at *;generalize s.ts.length=n at *
 go_enter Tryz.func43,Tryz.ntmps43
 go_wp2
 refine bodyPost_ret (v:=.agg #[.int .u8 (t.kind:Int),.int .i64 (t.at_:Int),.int .i64 (t.en:Int),.string (xG t.text),.int .i64 t.n]) (by simp[results,Tryz.results43,go_sem]) rfl ⟨rfl,?_⟩;exact Ext.alloc _ _
theorem zUe (t:Bs)(s:Ps):isP t s=((s.hd.kind != 4&&s.hd.kind != 2)&&s.hd.text==t):=rfl
theorem XP (w:World)(p B:Nat)(s:Ps)(R:xX)(t:Bs)(b:Bool)(hb:Hid (isP t s=b))(h:PS w p B s R) :
  Calls Tryz.prog 73 #[.pointer (some ⟨p,0,none⟩),.string (xG t)] w fun e w'=>e=.returned (.bool b)∧Ext w w':=by
 have HP:=yG h;clear h;obtain⟨k,hk⟩:∃k,k=s.hd.kind:=⟨_,rfl⟩;obtain⟨x,hx⟩:∃x,x=s.hd.text:=⟨_,rfl⟩;have HB:Hid (((k != 4&&k != 2)&&x==t)=b):=yG (by rw[←hb.out,zUe,hk,hx])
 go_enter Tryz.func73,Tryz.ntmps73
 go_wp2_with fail
 refine(ZC w p s R HP.out.ts).mono ?_;rintro e w1 ⟨rfl,AA⟩;have HX:=yG AA;unfold ZY;rw[←hk,←hx];clear AA hk hx
 by_cases h4:k=4
 ·subst h4
  go_wp2_with fail
  go_ret;exact⟨zCo (by rw[←HB.out]; rfl),HX.out.trans (Ext.alloc _ _)⟩
 ·by_cases h2:k=2
  ·subst h2
   go_wp2_with fail
   go_ret;exact⟨zCo (by rw[←HB.out]; rfl),HX.out.trans (Ext.alloc _ _)⟩
  ·have i4:¬(k:Int)=4:=by omega
   have i2:¬(k:Int)=2:=by omega
   have HK:=yG (And.intro h4 h2);clear h4 h2
   go_wp2_with fail
   go_ret;refine⟨zCo ?_,HX.out.trans (Ext.alloc _ _)⟩;rw[←HB.out];simp only[VV];have h4:=HK.out.1;have h2:=HK.out.2
   have a4:((k:Int) != 4)=true:=by rw[zE]; omega
   have a2:((k:Int) != 2)=true:=by rw[zE]; omega
   have b4:(k != 4)=true:=by rw[zE]; omega
   have b2:(k != 2)=true:=by rw[zE]; omega
   rw[a4,a2,b4,b2]
theorem xC.set {w:World}{M:Nat→Prop}{g i:Nat}{u:Value}(h:M g):xC w M (w.setCell ⟨g,i,none⟩ u) M:=
 ⟨rfl,rfl,rfl,by simp[World.setCell],fun b hb hM=>zS w ⟨g,i,none⟩ u b (fun e=>hM (by rw[e]; exact h)),fun b h=>.inl h⟩
def jV (er:Int):Ending:=.panicked [{ v:=.iface 75 (.int .i64 er),recovered:=false }]
theorem xD {P:Program}{fn:Func}{R:Ending→World→Prop}{a:Act}{w:World}{er:Int}(hd:a.defers=[])(h:R (jV er) w):bodyPost P fn R (Exit.panic [{ v:=.iface 75 (.int .i64 er),recovered:=false }]) a w:=⟨hd,h⟩
def OkP (w:World)(p B:Nat)(R:xX)(s':Ps)(w':World):Prop:=∃R',PS w' p B s' R'∧xC w (xK p R) w' (xK p R')
def VF (w:World)(p B:Nat)(R:xX)(er:Int)(at_:Nat)(e:Ending)(w':World):Prop:=e=jV er∧∃s',s'.hd.at_=at_∧OkP w p B R s' w'
def xM (w:World)(p B:Nat)(R:xX)(r:Res Unit)(e:Ending)(w':World):Prop:=
 match r with
 | .ok _ s'=>e=.returned (.tuple #[])∧OkP w p B R s' w'
 | .err er a=>VF w p B R er a e w'
theorem xM.ok {w:World}{p B:Nat}{R:xX}{s':Ps}{w':World}(h:OkP w p B R s' w'):xM w p B R (.ok () s') (.returned (.tuple #[])) w':=⟨rfl,h⟩
theorem xM.err {w:World}{p B:Nat}{R:xX}{er:Int}{a:Nat}{e:Ending}{w':World}(h:VF w p B R er a e w'):xM w p B R (.err er a) e w':=h
theorem OkP.trans {w w1 w2:World}{p B:Nat}{R R1:xX}{s:Ps}(h:xC w (xK p R) w1 (xK p R1))(k:OkP w1 p B R1 s w2):OkP w p B R s w2:=let ⟨R2,a,b⟩:=k; ⟨R2,a,h.trans b⟩
theorem VF.trans {w w1 w2:World}{p B:Nat}{R R1:xX}{er:Int}{a:Nat}{e:Ending}(h:xC w (xK p R) w1 (xK p R1))(k:VF w1 p B R1 er a e w2):VF w p B R er a e w2:=let ⟨x,s,y,z⟩:=k; ⟨x,s,y,OkP.trans h z⟩
theorem xM.trans {w w1 w2:World}{p B:Nat}{R R1:xX}{r:Res Unit}{e:Ending}(h:xC w (xK p R) w1 (xK p R1))(k:xM w1 p B R1 r e w2):xM w p B R r e w2:=by
 cases r with
 | ok a s=>exact⟨k.1,OkP.trans h k.2⟩
 | err er a=>exact VF.trans h k
theorem PS.zTD {w:World}{p B:Nat}{s:Ps}{R:xX}(h:PS w p B s R)(hk:s.hd.kind≠4) :
  PS (w.setCell ⟨p,0,none⟩ (.slice (some ⟨R.bt,R.ot+5,none⟩) (s.ts.length-1) (R.ct-1))) p B s.adv { R with ot:=R.ot+5,ct:=R.ct-1 }:=by
 have AB:=jW (s:=s);obtain⟨t,r,hs,ht⟩:=h.xV.hd;have AC:=h.xV.pos
 have AE:s.adv.ts=r:=by show s.ts.tail=r; rw[hs]; rfl
 refine⟨?_,fun k AD=>?_,?_,h.zE9,h.nodes,?_,h.pB,h.xV.adv hk⟩
 ·have:=h.blk.put 0 (.slice (some ⟨R.bt,R.ot+5,none⟩) (s.ts.length-1) (R.ct-1))
  rw[AB]
  show Blk _ p 101 #[_,_,.int .i64 (s.deep:Int)]
  simpa using this
 ·rw[AE] at AD ⊢
  have AA:R.bt≠p:=by have:=h.zE9; have:=h.pB; omega
  rw[World.cell?_of_block (w:=w) (zS w ⟨p,0,none⟩ _ R.bt AA)]
  show w.cell? ⟨R.bt,R.ot+5+k,none⟩=_
  rw[Nat.add_assoc,h.zMX (5+k) (by rw[hs]; simp only[zK]; omega),hs]
  show(ZY t++jP r)[5+k]?=_
  rw[List.getElem?_append_right (by show 5≤_; omega)]
  show(jP r)[5+k-5]?=_
  rw[show 5+k-5=k by omega]
 ·have:=h.zIr
  show s.adv.ts.length≤R.ct-1
  omega
 ·refine h.ns.jL fun b hb=>zS w ⟨p,0,none⟩ _ b fun e=>?_;rw[e] at hb;exact h.ns.zDr h.blk (by decide) (by decide) hb
theorem zBj (w:World)(p:Nat)(er:Int):Calls Tryz.prog 76 #[.pointer (some ⟨p,0,none⟩),.int .i64 er] w fun e w'=>e=jV er∧w=w':=by
 go_enter Tryz.func76,Tryz.ntmps76
 go_wp2
 exact⟨rfl,rfl,rfl⟩
theorem zAP (w:World)(p B:Nat)(s:Ps)(R:xX)(t:Bs)(hb:Hid (isP t s=false))(h:PS w p B s R) :
  Calls Tryz.prog 110 #[.pointer (some ⟨p,0,none⟩),.string (xG t)] w fun e w'=>e=.returned (.bool false)∧Ext w w':=by
 have HP:=yG h;clear h
 go_enter Tryz.func110,Tryz.ntmps110
 go_wp2_with fail
 refine(XP w p B s R t false hb HP.out).mono ?_;rintro e w1 ⟨rfl,AA⟩;have HX:=yG AA;clear AA
 go_wp2_with fail
 go_ret;exact⟨rfl,HX.out⟩
theorem VJ (w:World)(p B:Nat)(s:Ps)(R:xX)(t:Bs)(hb:Hid (isP t s=true))(h:PS w p B s R) :
  Calls Tryz.prog 110 #[.pointer (some ⟨p,0,none⟩),.string (xG t)] w fun e w'=>e=.returned (.bool true)∧OkP w p B R s.adv w':=by
 have HP:=yG h;clear h
 go_enter Tryz.func110,Tryz.ntmps110
 go_wp2_with fail
 refine(XP w p B s R t true hb HP.out).mono ?_;rintro e w1 ⟨rfl,AB⟩;have HX:=yG AB;have AA:=yG (HP.out.ext AB);have hk:=(vO hb.out).1;have HF:Hid (OkP w p B R s.adv (w1.setCell ⟨p,0,none⟩ (.slice (some ⟨R.bt,R.ot+5,none⟩) (s.ts.length-1) (R.ct-1)))):=yG ⟨_,AA.out.zTD hk,(xC.ext AB).trans (xC.set (.inl rfl))⟩
 have h2:2≤s.ts.length:=by
  have hg:=(AA.out.xV.adv hk).pos;rw[jW] at hg;omega
 have h3:=AA.out.zIr;have x0:=AA.out.x0;have z0:=AA.out.blk.frozen 0;clear AB hk;generalize s.ts.length=n at *;generalize R.ct=ct at *
 go_wp2_with fail
 go_ret;exact⟨rfl,HF.out⟩
theorem PS.okp {w w':World}{p B:Nat}{s:Ps}{R:xX}(h:PS w p B s R)(hx:Ext w w'):OkP w p B R s w':=⟨R,h.ext hx,xC.ext hx⟩
theorem jG (w:World)(p B:Nat)(s:Ps)(R:xX)(t:Bs)(h:PS w p B s R) :
  Calls Tryz.prog 105 #[.pointer (some ⟨p,0,none⟩),.string (xG t)] w (xM w p B R (vX t s)):=by
 have HP:=yG h;clear h
 cases hi:isP t s with
 | true=>
  have HI:=yG hi;have HT:Hid (vX t s=.ok () s.adv):=yG (by unfold vX; rw[if_pos hi]);clear hi
  go_enter Tryz.func105,Tryz.ntmps105
  go_wp2_with fail
  refine(VJ w p B s R t HI HP.out).mono ?_;rintro e w1 ⟨rfl,ho⟩;have HO:=yG ho;clear ho
  go_wp2_with fail
  go_end0;rw[HT.out];exact xM.ok HO.out
 | false=>
  have HI:=yG hi;have HT:Hid (vX t s=.err 50 s.hd.at_):=yG (by unfold vX; rw[hi]; rfl);clear hi
  go_enter Tryz.func105,Tryz.ntmps105
  go_wp2_with fail
  refine(zAP w p B s R t HI HP.out).mono ?_;rintro e w1 ⟨rfl,hx⟩;have HX:=yG hx;clear hx
  go_wp2_with fail
  refine(zBj w1 p 50).mono ?_;rintro e w2 ⟨rfl,rfl⟩;have HE:Hid (xM w p B R (vX t s) (jV 50) w1):=yG (by rw[HT.out]; exact⟨rfl,s,rfl,HP.out.okp HX.out⟩);exact xD rfl HE.out
def zD3 (w:World)(p B:Nat)(R:xX)(v:Value)(r:Res Unit)(e:Ending)(w':World):Prop:=
 match r with
 | .ok _ s'=>e=.returned v∧OkP w p B R s' w'
 | .err er a=>VF w p B R er a e w'
theorem PS.jL {w w':World}{p B:Nat}{s:Ps}{R:xX}(h:PS w p B s R)(hk:∀b,b<B∨xK p R b→w'.heap[b]?=w.heap[b]?):PS w' p B s R:=
 ⟨(hk p (.inr (.inl rfl))).trans h.blk,fun k AA=>(World.cell?_of_block (w:=w) (hk R.bt (.inl h.zE9))).trans (h.zMX k AA),h.zIr,h.zE9,h.nodes,h.ns.jL fun b hb=>hk b (.inr (.inr hb)),h.pB,h.xV⟩
theorem PS.zDr {w:World}{p B:Nat}{s:Ps}{R:xX}(h:PS w p B s R){g:Nat}{t:TypeId}{cs:Array Value}(hg:Blk w g t cs)(h1:t≠38)(h2:t≠3)(h3:t≠101):¬xK p R g:=by
 rintro (hb | hb)
 ·subst hb; exact Blk.differ hg h.blk h3 rfl
 ·exact h.ns.zDr hg h1 h2 hb
def xX.adv (R:xX):xX:={ R with ot:=R.ot+5,ct:=R.ct-1 }
def OkR (w:World)(p B:Nat)(R R':xX)(s':Ps)(w':World):Prop:=PS w' p B s' R'∧xC w (xK p R) w' (xK p R')
theorem OkR.okp {w:World}{p B:Nat}{R R':xX}{s':Ps}{w':World}(h:OkR w p B R R' s' w'):OkP w p B R s' w':=⟨R',h⟩
theorem OkR.ext {w:World}{p B:Nat}{R R':xX}{s':Ps}{w' w2:World}(h:OkR w p B R R' s' w')(hx:Ext w' w2):OkR w p B R R' s' w2:=⟨h.1.ext hx,h.2.trans (xC.ext hx)⟩
theorem OkR.jQ {w W w':World}{p B g:Nat}{R R':xX}{s:Ps}(h:OkR w p B R R' s W)(ht:Touch g W w')(hg:w.heap.size≤g)(hB:B≤w.heap.size)(hn':¬xK p R' g):OkR w p B R R' s w':=by
 obtain⟨a,b⟩:=h;refine⟨a.jL fun k hk=>ht.other k fun e=>?_,?_⟩
 ·subst e
  rcases hk with hk | hk
  ·omega
  ·exact hn' hk
 ·exact⟨ht.os.trans b.os,ht.tape.trans b.tape,ht.output.trans b.output,by rw[ht.size]; exact b.size,fun k hk hM=>(ht.other k (by omega)).trans (b.jL k hk hM),b.zDI⟩
theorem OkP.jQ {w W w':World}{p B g:Nat}{R:xX}{s:Ps}(h:OkP w p B R s W)(ht:Touch g W w')(hg:w.heap.size≤g)(hB:B≤w.heap.size)(hn:∀R',PS W p B s R'→¬xK p R' g):OkP w p B R s w':=
 let ⟨R',a⟩:=h
 ⟨R',OkR.jQ a ht hg hB (hn R' a.1)⟩
theorem PS.okr {w W:World}{p B:Nat}{s:Ps}{R:xX}(h:PS W p B s R)(hx:Ext w W)(hk:s.hd.kind≠4):OkR w p B R R.adv s.adv (W.setCell ⟨p,0,none⟩ (.slice (some ⟨R.bt,R.ot+5,none⟩) (s.ts.length-1) (R.ct-1))):=
 ⟨h.zTD hk,(xC.ext hx).trans (xC.set (.inl rfl))⟩
theorem zHy (w:World)(p B:Nat)(s:Ps)(R:xX)(k:Nat)(hk:Hid (s.hd.kind=k))(h4:k≠4)(h:PS w p B s R) :
  Calls Tryz.prog 139 #[.pointer (some ⟨p,0,none⟩),.int .u8 (k:Int)] w fun e w'=>e=.returned (.agg (ZY s.hd).toArray)∧OkR w p B R R.adv s.adv w':=by
 have HP:=yG h;clear h
 go_enter Tryz.func139,Tryz.ntmps139
 go_wp2_with fail
 have AL:=yG (Blk.new w 104 #[.int .u8 0,.int .i64 0,.int .i64 0,.string ⟨#[]⟩,.int .i64 0]);refine(ZC _ p s R (HP.out.ext (Ext.alloc _ _)).ts).mono ?_;rintro e w1 ⟨rfl,AB⟩;have AK:=yG (AL.out.ext AB);have HX:=yG ((Ext.alloc _ _).trans AB)
 have AH:(s.hd.kind:Int)=(k:Int):=by rw[hk.out]
 have AC:s.hd.kind≠4:=by rw[hk.out]; exact h4
 have AA:=yG (HP.out.ext HX.out);have HO:=yG (AA.out.okr HX.out AC);have AG:p≠w.heap.size:=Nat.ne_of_lt HP.out.blk.lt;have AF:Hid (Blk (w1.setCell ⟨p,0,none⟩ (.slice (some ⟨R.bt,R.ot+5,none⟩) (s.ts.length-1) (R.ct-1))) w.heap.size 104 #[.int .u8 0,.int .i64 0,.int .i64 0,.string ⟨#[]⟩,.int .i64 0]):=yG (AK.out.far (p:=⟨p,0,none⟩) (Ne.symm AG) _);have AI:Hid (B≤w.heap.size):=yG (Nat.le_trans HP.out.pB (zV HP.out.blk.lt))
 have h2:2≤s.ts.length:=by
  have hg:=(AA.out.xV.adv AC).pos;rw[jW] at hg;omega
 have h3:=AA.out.zIr;have x0:=AA.out.x0;have z0:=AA.out.blk.frozen 0;have AM:p<w1.heap.size:=AA.out.blk.lt;unfold ZY at *;clear AB AC
 go_wp2_with (refine xQ rfl 104 (.tmp 4) (.tmp 22) rfl w.heap.size #[.int .u8 (k:Int),.int .i64 (s.hd.at_:Int),.int .i64 (s.hd.en:Int),.string (xG s.hd.text),.int .i64 s.hd.n] (by rfl) (by rfl) 104 _ (AF.out.ext (Ext.alloc _ _)) (by kernel_rfl) rfl rfl ?_; intro w3 AD AE)
 have HF:=yG ((HO.out.ext (Ext.alloc _ _)).jQ AD (zX _) AI.out (HO.out.1.zDr AF.out (by decide) (by decide) (by decide)));have AJ:=yG AE;clear AD AE
 go_wp2_with fail
 exact JH w.heap.size 104 _ _ Tryz.results139 rfl rfl AJ.out Tryz.underlying104 rfl (by kernel_rfl) ⟨by unfold ZY; rw[AH],HF.out⟩
theorem zSz (w:World)(p B:Nat)(s:Ps)(R:xX)(k:Nat)(hk:Hid (s.hd.kind≠k))(h:PS w p B s R) :
  Calls Tryz.prog 139 #[.pointer (some ⟨p,0,none⟩),.int .u8 (k:Int)] w (VF w p B R 50 s.hd.at_):=by
 have HP:=yG h;clear h
 go_enter Tryz.func139,Tryz.ntmps139
 go_wp2_with fail
 refine(ZC _ p s R (HP.out.ext (Ext.alloc _ _)).ts).mono ?_;rintro e w1 ⟨rfl,AA⟩;have HX:=yG ((Ext.alloc _ _).trans AA)
 have AB:¬(s.hd.kind:Int)=(k:Int):=by have:=hk.out; omega
 have HF:Hid (∀o,VF w p B R 50 s.hd.at_ (jV 50) (w1.alloc o)):=yG fun o=>⟨rfl,s,rfl,HP.out.okp (HX.out.trans (Ext.alloc _ _))⟩;unfold ZY;clear AA
 go_wp2_with fail
 refine(zBj _ p 50).mono ?_;rintro e w2 ⟨rfl,rfl⟩;exact xD rfl (HF.out _)
end Go.Proofs.YtbadjmmjbpeocaaGreat
