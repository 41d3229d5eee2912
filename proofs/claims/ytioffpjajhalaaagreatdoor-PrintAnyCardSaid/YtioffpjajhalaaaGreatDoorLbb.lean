/- printer.stmt, walked at one node, kind by kind. (and what follows of it). The conditions stand at each lemma. -/
import Derived.Test.YtioffpjajhalaaaGreatDoorLaa
import Derived.Test.YtioffpjajhalaaaGreatDoorLaz
import Derived.Test.YtioffpjajhalaaaGreatDoorLba
set_option linter.unusedVariables false
set_option linter.unusedSimpArgs false
set_option maxRecDepth 100000
set_option maxHeartbeats 16000000
namespace Go.Proofs.YtioffpjajhalaaaGreatDoor
open Go Go.RowKit
theorem zQj (w0:World)(B g n c:Nat)(A:Option Addr)(L:List TT.xB)(hB:VD w0 B n A L)(x:TT.xB)(hx:Cells w0 x.kA (TT.xD x.kids))(k:Nat)(t:Bs)(num:Int)(ks kk:List Nat)(ls:List Bs)(hk:x.kind=(k:Int))(ht:x.text=yX t)(hnum:x.num=num)(hks:x.kids=xG ks)(hnk:ZY k t num kk)(hl1:kk.length=ks.length)(hl2:ls.length=ks.length)(hkb:ks.length≤100000)(hsz:vR ls≤1099511627776)
  (HT:∀(w:World) (v:Value) (bs:Bs) (d:Nat),Ext w0 w→PrS w B g A n c v bs d→∀j (hj:j<ks.length),zCf w g L ks[j] (kk.getD j 0) (ls.getD j []))
  (D:Nat) (bks:Nat→List Bs) (HBK:∀j (hj:j<ks.length),kk.getD j 0=6→∃y,L[ks[j]]?=some y∧XX w0 B g n c A y D fun d=>(bks d).getD j []) (h14:k=14) :
  zAk w0 B g n c A x (D+1) fun d=>xP d k t num ls (bks (d+1)):=by
 intro w v bs d BT hS hd AP;subst h14;obtain⟨A9,Ba⟩:∃b,Hid (bks (d+1)=b):=⟨_,yD rfl⟩;obtain⟨AV,AD⟩:∃b,Hid (xP d 14 t num ls A9=b):=⟨_,yD rfl⟩
 show Calls Tryz.prog 89 #[.pointer (some ⟨g,0,none⟩),vZ x] w fun e w'=>e=.returned (.tuple #[])∧zBC w B g A n c (bs++xP d 14 t num ls (bks (d+1))) d w'
 replace AP:bs.length+(xP d 14 t num ls (bks (d+1))).length≤140737488355328:=AP
 rw[Ba.out,AD.out] at AP ⊢;have AC:Hid ((bs++AV).length≤140737488355328):=yD (by rw[yM]; exact AP);have AT:=yD hB;have BQ:=yD hx;have BN:=yD hks;have B5:=yD hnk;have As:=yD hl1;have B8:=yD hl2;have CB:=yD hkb;have B3:=yD HT;have A3:=yD HBK;have Ag:=yD BT;have AO:=yD hS.lo;have AX:=yD hd;have CC:=yD hsz;have Ak:=yD (ZK hnk);have At:Hid (B≤w.heap.size):=yD (by rw[←hB.size]; exact BT.size);have Aq:Hid (x.kids.length=ks.length):=yD (by rw[hks]; simp[xG]);obtain⟨CF,A7⟩:=hS.any;have Bu:=yD A7.lt;clear hB hx hks hnk hl1 hl2 hkb HT HBK BT AP hd hsz A7;have Bj:Hid (Ext w ((w.alloc (.cells #[.pointer (some ⟨g,0,none⟩)] 77)).alloc (.cells #[.int .u8 14,.int .i64 x.pos,.string (yX t),.int .i64 num,.slice x.kA x.kids.length x.kc] 48))):=yD ((Ext.alloc _ _).trans (Ext.alloc _ _));have AS:Hid (Blk ((w.alloc (.cells #[.pointer (some ⟨g,0,none⟩)] 77)).alloc (.cells #[.int .u8 14,.int .i64 x.pos,.string (yX t),.int .i64 num,.slice x.kA x.kids.length x.kc] 48)) w.heap.size 77 #[.pointer (some ⟨g,0,none⟩)]):=yD ((Blk.new _ _ _).alloc _)
 have AL:Hid (Blk ((w.alloc (.cells #[.pointer (some ⟨g,0,none⟩)] 77)).alloc (.cells #[.int .u8 14,.int .i64 x.pos,.string (yX t),.int .i64 num,.slice x.kA x.kids.length x.kc] 48)) (w.heap.size+1) 48 #[.int .u8 14,.int .i64 x.pos,.string (yX t),.int .i64 num,.slice x.kA x.kids.length x.kc]):=yD (Blk.VV (by simp));have Ar:=yD (hS.ext Bj.out);have BO:Hid (vS w ((w.alloc (.cells #[.pointer (some ⟨g,0,none⟩)] 77)).alloc (.cells #[.int .u8 14,.int .i64 x.pos,.string (yX t),.int .i64 num,.slice x.kA x.kids.length x.kc] 48)) B g):=yD (vS.ext Bj.out);have HE:Hid (∀args w,(callFunc 138 args).run Tryz.prog w=.ok (.enter 138 args) w):=yD (enters_of Tryz.func138 (by kernel_rfl) rfl);clear hS;unfold vZ;rw[hk,ht,hnum]
 go_enter Tryz.func89,Tryz.ntmps89
 go_upto_region 1 with fail
 try simp only[size_alloc]
 have AF:Hid (w.heap.size≠g):=yD (by have:=Bu.out; omega);have AE:Hid (w.heap.size+1≠g):=yD (by have:=Bu.out; omega);generalize w.heap.size+1=gn at AL AE ⊢;generalize w.heap.size=gp at AS AF ⊢;generalize ((w.alloc (.cells #[.pointer (some ⟨g,0,none⟩)] 77)).alloc (.cells #[.int .u8 14,.int .i64 x.pos,.string (yX t),.int .i64 num,.slice x.kA x.kids.length x.kc] 48))=w1 at *;have BY:=yD (Ag.out.trans Bj.out);have A2:=yD (BQ.out.ext BY.out);have By:Hid (Blk w1 gn 48 #[.int .u8 x.kind,.int .i64 x.pos,.string x.text,.int .i64 x.num,.slice x.kA x.kids.length x.kc]):=yD (by rw[hk,ht,hnum]; exact AL.out);have HGP:=yD AS.out.lt;have HGN:=yD AL.out.lt;have B0:=yD (AT.out.prT BY.out Ar.out);have Bw:=yD (B3.out w1 v bs d BY.out Ar.out);have he:=HE.out;have Bi:Hid (0<ks.length):=yD (by have:=Ak.out; have:=As.out; omega)
 have BH:Hid (∀w',Ext w1 w'→Calls Tryz.prog 138 #[.int .i64 0,.pointer (some ⟨gp,0,none⟩),.pointer (some ⟨gn,0,none⟩)] w' fun e AJ=>e=.returned (.string (yX (ls.getD 0 [])))∧Ext w' AJ):=yD fun w' hx=>by
  obtain⟨y,h1,h2,h3⟩:=Bw.out 0 Bi.out;exact ZC w' g n c gp gn A L (B0.out.ext hx) x (AS.out.ext hx) (By.out.ext hx) (A2.out.ext hx) 0 (ks[0]'Bi.out) (kk.getD 0 0) (by rw[Aq.out]; exact Bi.out) (by simp only[BN.out,xG,zA]) (ls.getD 0 []) ⟨y,h1,h2,fun w2 AB=>h3 w2 (hx.trans AB)⟩
 have BU:Hid (1<ks.length):=yD (by have:=Ak.out; have:=As.out; omega)
 have Av:Hid (∀w',Ext w1 w'→Calls Tryz.prog 138 #[.int .i64 1,.pointer (some ⟨gp,0,none⟩),.pointer (some ⟨gn,0,none⟩)] w' fun e AJ=>e=.returned (.string (yX (ls.getD 1 [])))∧Ext w' AJ):=yD fun w' hx=>by
  obtain⟨y,h1,h2,h3⟩:=Bw.out 1 BU.out;exact ZC w' g n c gp gn A L (B0.out.ext hx) x (AS.out.ext hx) (By.out.ext hx) (A2.out.ext hx) 1 (ks[1]'BU.out) (kk.getD 1 0) (by rw[Aq.out]; exact BU.out) (by simp only[BN.out,xG,zA]) (ls.getD 1 []) ⟨y,h1,h2,fun w2 AB=>h3 w2 (hx.trans AB)⟩
 have Bh:=yD (zDm B5.out (by decide))
 have Bv:Hid (∀w' lb,Ext w1 w'→Blk w' lb 9 #[.string (yX [32,60,32]),.string (yX [32,61,61,32])]→Calls Tryz.prog 43 #[.agg #[.int .u8 14,.int .i64 x.pos,.string (yX t),.int .i64 num,.slice x.kA x.kids.length x.kc],.slice (some ⟨lb,0,none⟩) 2 2] w' fun e AJ=>e=.returned (.string (yX (jU num [32,60,32] [32,61,61,32])))∧Ext w' AJ):=yD fun w' lb hx hb=>by
  have:=zEb w' x (by rw[hnum]; exact Bh.out) [32,60,32] [32,61,61,32] lb hb
  unfold vZ at this;rw[hk,ht,hnum] at this;exact this
 replace AD:Hid (xV d [[105,102,32],(ls.getD 0 []),(jU num [32,60,32] [32,61,61,32]),(ls.getD 1 []),[32,123]]++(A9.getD 2 []++((if 3<ls.length then xV d [[125,32,101,108,115,101,32,123]]++A9.getD 3 [] else [])++xV d [[125]]))=AV):=AD
 have BX:Hid (2<ks.length):=yD (by have:=Ak.out; have:=As.out; omega);have BZ:Hid (kk.getD 2 0=6):=yD (by have:=Ak.out; omega);obtain⟨y2,Bo,Ay⟩:=A3.out 2 BX.out BZ.out;have Au:=yD Ay
 have BJ:Hid (∀(w':World) (v':Value) (BL:Bs),Ext w0 w'→PrS w' B g A n c v' BL d→Calls Tryz.prog 40 #[.pointer (some ⟨g,0,none⟩),.agg #[.int .u8 14,.int .i64 x.pos,.string (yX t),.int .i64 num,.slice x.kA x.kids.length x.kc],.int .i64 2] w' fun e AJ=>e=.returned (vZ y2)∧Ext w' AJ):=yD fun w' v' BL hx hs=>by
  have hp:=AT.out.prT hx hs
  have:=zAl w' g n c A L hp.tree hp.len hp.at0 hp.lt x (BQ.out.ext hx) 2 (ks[2]'BX.out) (by rw[Aq.out]; exact BX.out) (by simp only[BN.out,xG,zA]) (List.getElem?_eq_some_iff.1 Bo).1 y2 Bo
  unfold vZ at this ⊢;rw[hk,ht,hnum] at this;exact this
 clear Ay;have Bz:Hid (3<ls.length↔ks.length=4):=yD (by have:=Ak.out; have:=As.out; have:=B8.out; omega);obtain⟨G2,Ad⟩:∃b,Hid (A9.getD 2 []=b):=⟨_,yD rfl⟩;have BP:Hid ((bks (d+1)).getD 2 []=G2):=yD (by rw[Ba.out]; exact Ad.out);rw[Ad.out] at AD;clear Ad;obtain⟨T9,BB⟩:∃b,Hid (xV d [[125]]=b):=⟨_,yD rfl⟩;rw[BB.out] at AD;obtain⟨T5,BV⟩:∃b,Hid (xV d [[125,32,101,108,115,101,32,123]]=b):=⟨_,yD rfl⟩;obtain⟨G3,Ae⟩:∃b,Hid (A9.getD 3 []=b):=⟨_,yD rfl⟩;have B2:Hid ((bks (d+1)).getD 3 []=G3):=yD (by rw[Ba.out]; exact Ae.out);rw[BV.out,Ae.out] at AD;clear Ae;generalize ls.getD 0 []=l0 at *;generalize ls.getD 1 []=l1 at *;generalize jU num [32,60,32] [32,61,61,32]=lp at *;obtain⟨T1,Az⟩:∃b,Hid (xV d [[105,102,32],l0,lp,l1,[32,123]]=b):=⟨_,yD rfl⟩;rw[Az.out] at AD;have n0:w1.cell? ⟨gn,0,none⟩=some (.int .u8 14):=AL.out.cell 0;have n1:w1.cell? ⟨gn,1,none⟩=some (.int .i64 x.pos):=AL.out.cell 1;have n2:w1.cell? ⟨gn,2,none⟩=some (.string (yX t)):=AL.out.cell 2;have n3:w1.cell? ⟨gn,3,none⟩=some (.int .i64 num):=AL.out.cell 3;have n4:w1.cell? ⟨gn,4,none⟩=some (.slice x.kA x.kids.length x.kc):=AL.out.cell 4;have p0:w1.cell? ⟨gp,0,none⟩=some (.pointer (some ⟨g,0,none⟩)):=AS.out.cell 0
 by_cases h4:ks.length=4
 ·have h3:3<ls.length:=Bz.out.2 h4;rw[if_pos h3,List.append_assoc] at AD;have BS:Hid (3<ks.length):=yD (by omega);have Be:Hid (kk.getD 3 0=6):=yD (by have:=Ak.out; have:=As.out; omega);obtain⟨y3,Br,BI⟩:=A3.out 3 BS.out Be.out;have Bm:=yD BI
  have Bk:Hid (∀(w':World) (v':Value) (BL:Bs),Ext w0 w'→PrS w' B g A n c v' BL d→Calls Tryz.prog 40 #[.pointer (some ⟨g,0,none⟩),.agg #[.int .u8 14,.int .i64 x.pos,.string (yX t),.int .i64 num,.slice x.kA x.kids.length x.kc],.int .i64 3] w' fun e AJ=>e=.returned (vZ y3)∧Ext w' AJ):=yD fun w' v' BL hx hs=>by
   have hp:=AT.out.prT hx hs
   have:=zAl w' g n c A L hp.tree hp.len hp.at0 hp.lt x (BQ.out.ext hx) 3 (ks[3]'BS.out) (by rw[Aq.out]; exact BS.out) (by simp only[BN.out,xG,zA]) (List.getElem?_eq_some_iff.1 Br).1 y3 Br
   unfold vZ at this ⊢;rw[hk,ht,hnum] at this;exact this
  clear BI;have e4:decide ((x.kids.length:Int) > 3)=true:=yP (by rw[Aq.out,h4]; decide);have B4:decide ((3:Int)<(x.kids.length:Int))=true:=e4;clear h3 h4;have HR:Hid (bs++(T1++(G2++(T5++(G3++(T9++[])))))=bs++AV):=yD (by rw[List.append_nil,AD.out])
  go_upto_region 18 with fail
  apply xI 9 (by kernel_rfl) (by kernel_rfl) (by kernel_rfl);apply yZ (.pointer (some ⟨g,0,none⟩)) rfl rfl rfl
  ·intro w' AA hH;clear hH;have yp:=(AA.cell (p:=⟨gp,0,none⟩) HGP.out).trans p0;simp[yY,go_sem,yp];exact Ext.refl _
  apply sQ (.func (.func 138) #[] #[.pointer (some ⟨gp,0,none⟩),.pointer (some ⟨gn,0,none⟩)]);apply yZ (.string (yX l0)) rfl rfl rfl
  ·intro w' AA hH;clear hH;simp[yY,go_sem,he];refine(BH.out w' AA).mono ?_;rintro e w2 ⟨rfl,AB⟩;exact⟨_,rfl,rfl,AB⟩
  apply yZ (.agg #[.int .u8 14,.int .i64 x.pos,.string (yX t),.int .i64 num,.slice x.kA x.kids.length x.kc]) rfl rfl rfl
  ·intro w' AA hH;clear hH;have y0:=(AA.cell (p:=⟨gn,0,none⟩) HGN.out).trans n0;have y1:=(AA.cell (p:=⟨gn,1,none⟩) HGN.out).trans n1;have y2:=(AA.cell (p:=⟨gn,2,none⟩) HGN.out).trans n2;have y3:=(AA.cell (p:=⟨gn,3,none⟩) HGN.out).trans n3;have y4:=(AA.cell (p:=⟨gn,4,none⟩) HGN.out).trans n4;simp[yY,go_sem,y0,y1,y2,y3,y4];exact Ext.refl _
  apply vA (XJ 9 2 #[.string (yX [32,60,32]),.string (yX [32,61,61,32])]) (fun v a b h k=>XJ.ext v a b h k) rfl rfl rfl
  ·intro w' AA hH;clear hH;simp[yY,go_sem];exact⟨⟨_,rfl,Blk.new w' _ _⟩,Ext.alloc _ _⟩
  intro CA;apply yZ (.string (yX lp)) rfl rfl rfl
  ·intro w' AA hH;obtain⟨lb,rfl,Bl⟩:=hH _ (List.mem_cons_self ..) ⟨84,rfl,by decide⟩;clear hH;simp[yY,go_sem,he];refine(Bv.out w' lb AA Bl).mono ?_;rintro e w2 ⟨rfl,AB⟩;exact⟨_,rfl,rfl,AB⟩
  apply sQ (.func (.func 138) #[] #[.pointer (some ⟨gp,0,none⟩),.pointer (some ⟨gn,0,none⟩)]);apply yZ (.string (yX l1)) rfl rfl rfl
  ·intro w' AA hH;clear hH;simp[yY,go_sem,he];refine(Av.out w' AA).mono ?_;rintro e w2 ⟨rfl,AB⟩;exact⟨_,rfl,rfl,AB⟩
  apply vA (XJ 9 5 (JM [[105,102,32],l0,lp,l1,[32,123]])) (fun v a b h k=>XJ.ext v a b h k) rfl rfl rfl
  ·intro w' AA hH;clear hH;simp[yY,go_sem];exact⟨⟨_,rfl,Blk.new w' _ _⟩,Ext.alloc _ _⟩
  intro B6;apply xN;intro w2 AB hH;obtain⟨pb,rfl,AG⟩:=hH _ (List.mem_cons_self ..);clear hH p0 n0 n1 n2 n3 n4
  try simp only[Act.put,yA,yC,yB]
  have Ab:=yD (Ar.out.ext AB);have Aj:=yD (BO.out.trans (vS.ext AB));have BG:=yD (AS.out.ext AB);have BF:=yD (AL.out.ext AB);clear AB Ar BO AS AL
  go_wp2_with fail
  refine(jV w2 B g A n c _ bs d [[105,102,32],l0,lp,l1,[32,123]] pb 5 Ab.out rfl (by have:=AX.out; omega) (by simp) AG (fun e=>by obtain⟨ad,hb⟩:=Ab.out.any; subst e; exact Blk.differ AG hb (by decide) rfl) (by
   have h8:=congrArg List.length HR.out;have h9:=AC.out;rw[Az.out];simp only[yM,zK] at h8 h9 ⊢
   omega) (Nat.le_trans At.out Aj.out.size)).mono ?_
  rintro e w3 ⟨rfl,⟨v3,hu⟩,hm⟩
  replace hu:=hu.prS AO.out
  rw[Az.out] at hu;clear AG;have Al:=yD (Aj.out.trans hm);have AU:=yD (hm.blk BG.out AF.out (by decide));have AI:=yD (hm.blk BF.out AE.out (by decide))
  replace HR:=yD ((List.append_assoc _ _ _).trans HR.out)
  have An:=yD hu;clear hu hm Aj BG BF Ab;generalize bs++T1=b1 at *;have Am:=yD (AT.out.ext Ag.out Al.out AO.out);have AQ:Hid (∀w',Ext w3 w'→Calls Tryz.prog 40 #[.pointer (some ⟨g,0,none⟩),.agg #[.int .u8 14,.int .i64 x.pos,.string (yX t),.int .i64 num,.slice x.kA x.kids.length x.kc],.int .i64 2] w' fun e AJ=>e=.returned (vZ y2)∧Ext w' AJ):=yD fun w' hx=>BJ.out w' _ _ (Am.out.trans hx) (An.out.ext hx)
  replace HGP:=yD AU.out.lt
  replace HGN:=yD AI.out.lt
  have n0:w3.cell? ⟨gn,0,none⟩=some (.int .u8 14):=AI.out.cell 0;have n1:w3.cell? ⟨gn,1,none⟩=some (.int .i64 x.pos):=AI.out.cell 1;have n2:w3.cell? ⟨gn,2,none⟩=some (.string (yX t)):=AI.out.cell 2;have n3:w3.cell? ⟨gn,3,none⟩=some (.int .i64 num):=AI.out.cell 3;have n4:w3.cell? ⟨gn,4,none⟩=some (.slice x.kA x.kids.length x.kc):=AI.out.cell 4;have p0:w3.cell? ⟨gp,0,none⟩=some (.pointer (some ⟨g,0,none⟩)):=AU.out.cell 0
  go_upto_region 19 with fail
  apply xI 4 (by kernel_rfl) (by kernel_rfl) (by kernel_rfl);apply yZ (.pointer (some ⟨g,0,none⟩)) rfl rfl rfl
  ·intro w' AA hH;clear hH;have yp:=(AA.cell (p:=⟨gp,0,none⟩) HGP.out).trans p0;simp[yY,go_sem,yp];exact Ext.refl _
  apply yZ (.pointer (some ⟨g,0,none⟩)) rfl rfl rfl
  ·intro w' AA hH;clear hH;have yp:=(AA.cell (p:=⟨gp,0,none⟩) HGP.out).trans p0;simp[yY,go_sem,yp];exact Ext.refl _
  apply yZ (.agg #[.int .u8 14,.int .i64 x.pos,.string (yX t),.int .i64 num,.slice x.kA x.kids.length x.kc]) rfl rfl rfl
  ·intro w' AA hH;clear hH;have y0:=(AA.cell (p:=⟨gn,0,none⟩) HGN.out).trans n0;have y1:=(AA.cell (p:=⟨gn,1,none⟩) HGN.out).trans n1;have y2:=(AA.cell (p:=⟨gn,2,none⟩) HGN.out).trans n2;have y3:=(AA.cell (p:=⟨gn,3,none⟩) HGN.out).trans n3;have y4:=(AA.cell (p:=⟨gn,4,none⟩) HGN.out).trans n4;simp[yY,go_sem,y0,y1,y2,y3,y4];exact Ext.refl _
  apply yZ (vZ y2) rfl rfl rfl
  ·intro w' AA hH;clear hH;simp[yY,go_sem,he];refine(AQ.out w' AA).mono ?_;rintro e w2 ⟨rfl,AB⟩;exact⟨_,rfl,rfl,AB⟩
  apply xN;intro w4 AN hH;clear hH p0 n0 n1 n2 n3 n4
  try simp only[Act.put,yA,yC,yB]
  have A4:=yD (An.out.ext AN);have AY:=yD (Al.out.trans (vS.ext AN));have BD:=yD (AU.out.ext AN);have A5:=yD (AI.out.ext AN);clear AN An Al AU AI
  go_wp2_with fail
  have AZ:=yD (AT.out.ext Ag.out AY.out AO.out)
  refine(Au.out w4 _ b1 d AZ.out A4.out (by have:=AX.out; omega) (by
   have h8:=congrArg List.length HR.out;have h9:=AC.out
   show _+((bks (d+1)).getD 2 []).length≤_
   rw[BP.out];simp only[yM,zK] at h8 h9 ⊢
   omega)).mono ?_
  rintro e w5 ⟨rfl,⟨v5,hu⟩,hm⟩
  replace hu:PrS w5 B g A n c v5 (b1++(bks (d+1)).getD 2 []) d:=hu
  rw[BP.out] at hu;clear AQ;have BE:=yD (AY.out.trans hm);have Aa:=yD (hm.blk BD.out AF.out (by decide));have AK:=yD (hm.blk A5.out AE.out (by decide))
  replace HR:=yD ((List.append_assoc _ _ _).trans HR.out)
  have Ax:=yD hu;clear hu hm AY BD A5 A4;generalize b1++G2=b2 at *;have n0:w5.cell? ⟨gn,0,none⟩=some (.int .u8 14):=AK.out.cell 0;have n1:w5.cell? ⟨gn,1,none⟩=some (.int .i64 x.pos):=AK.out.cell 1;have n2:w5.cell? ⟨gn,2,none⟩=some (.string (yX t)):=AK.out.cell 2;have n3:w5.cell? ⟨gn,3,none⟩=some (.int .i64 num):=AK.out.cell 3;have n4:w5.cell? ⟨gn,4,none⟩=some (.slice x.kA x.kids.length x.kc):=AK.out.cell 4;have p0:w5.cell? ⟨gp,0,none⟩=some (.pointer (some ⟨g,0,none⟩)):=Aa.out.cell 0
  go_upto_region 21 with fail
  have AW:Hid (Ext w5 (w5.alloc (.cells #[.string ⟨#[125,32,101,108,115,101,32,123]⟩] 9))):=yD (Ext.alloc _ _);have AM:Hid (Blk (w5.alloc (.cells #[.string ⟨#[125,32,101,108,115,101,32,123]⟩] 9)) w5.heap.size 9 #[.string ⟨#[125,32,101,108,115,101,32,123]⟩]):=yD (Blk.new _ _ _)
  go_wp2_with fail
  clear p0 n0 n1 n2 n3 n4;generalize w5.heap.size=pb at AM ⊢;generalize w5.alloc (.cells #[.string ⟨#[125,32,101,108,115,101,32,123]⟩] 9)=w6 at *;have AG:Blk w6 pb 9 (JM [[125,32,101,108,115,101,32,123]]):=AM.out;have AH:=AW.out;clear AM AW;have Ap:=yD (Ax.out.ext AH);have Ac:=yD (BE.out.trans (vS.ext AH));have A0:=yD (Aa.out.ext AH);have BC:=yD (AK.out.ext AH);clear AH Ax BE Aa AK
  refine(jV w6 B g A n c _ b2 d [[125,32,101,108,115,101,32,123]] pb 1 Ap.out rfl (by have:=AX.out; omega) (by simp) AG (fun e=>by obtain⟨ad,hb⟩:=Ap.out.any; subst e; exact Blk.differ AG hb (by decide) rfl) (by
   have h8:=congrArg List.length HR.out;have h9:=AC.out;rw[BV.out];simp only[yM,zK] at h8 h9 ⊢
   omega) (Nat.le_trans At.out Ac.out.size)).mono ?_
  rintro e w7 ⟨rfl,⟨v7,hu⟩,hm⟩
  replace hu:=hu.prS AO.out
  rw[BV.out] at hu;clear AG;have BA:=yD (Ac.out.trans hm);have A1:=yD (hm.blk A0.out AF.out (by decide));have AR:=yD (hm.blk BC.out AE.out (by decide))
  replace HR:=yD ((List.append_assoc _ _ _).trans HR.out)
  have BM:=yD hu;clear hu hm Ac A0 BC Ap;generalize b2++T5=b3 at *;have Bd:=yD (AT.out.ext Ag.out BA.out AO.out);have A8:Hid (∀w',Ext w7 w'→Calls Tryz.prog 40 #[.pointer (some ⟨g,0,none⟩),.agg #[.int .u8 14,.int .i64 x.pos,.string (yX t),.int .i64 num,.slice x.kA x.kids.length x.kc],.int .i64 3] w' fun e AJ=>e=.returned (vZ y3)∧Ext w' AJ):=yD fun w' hx=>Bk.out w' _ _ (Bd.out.trans hx) (BM.out.ext hx)
  replace HGP:=yD A1.out.lt
  replace HGN:=yD AR.out.lt
  have n0:w7.cell? ⟨gn,0,none⟩=some (.int .u8 14):=AR.out.cell 0;have n1:w7.cell? ⟨gn,1,none⟩=some (.int .i64 x.pos):=AR.out.cell 1;have n2:w7.cell? ⟨gn,2,none⟩=some (.string (yX t)):=AR.out.cell 2;have n3:w7.cell? ⟨gn,3,none⟩=some (.int .i64 num):=AR.out.cell 3;have n4:w7.cell? ⟨gn,4,none⟩=some (.slice x.kA x.kids.length x.kc):=AR.out.cell 4;have p0:w7.cell? ⟨gp,0,none⟩=some (.pointer (some ⟨g,0,none⟩)):=A1.out.cell 0
  go_upto_region 22 with fail
  apply xI 4 (by kernel_rfl) (by kernel_rfl) (by kernel_rfl);apply yZ (.pointer (some ⟨g,0,none⟩)) rfl rfl rfl
  ·intro w' AA hH;clear hH;have yp:=(AA.cell (p:=⟨gp,0,none⟩) HGP.out).trans p0;simp[yY,go_sem,yp];exact Ext.refl _
  apply yZ (.pointer (some ⟨g,0,none⟩)) rfl rfl rfl
  ·intro w' AA hH;clear hH;have yp:=(AA.cell (p:=⟨gp,0,none⟩) HGP.out).trans p0;simp[yY,go_sem,yp];exact Ext.refl _
  apply yZ (.agg #[.int .u8 14,.int .i64 x.pos,.string (yX t),.int .i64 num,.slice x.kA x.kids.length x.kc]) rfl rfl rfl
  ·intro w' AA hH;clear hH;have y0:=(AA.cell (p:=⟨gn,0,none⟩) HGN.out).trans n0;have y1:=(AA.cell (p:=⟨gn,1,none⟩) HGN.out).trans n1;have y2:=(AA.cell (p:=⟨gn,2,none⟩) HGN.out).trans n2;have y3:=(AA.cell (p:=⟨gn,3,none⟩) HGN.out).trans n3;have y4:=(AA.cell (p:=⟨gn,4,none⟩) HGN.out).trans n4;simp[yY,go_sem,y0,y1,y2,y3,y4];exact Ext.refl _
  apply yZ (vZ y3) rfl rfl rfl
  ·intro w' AA hH;clear hH;simp[yY,go_sem,he];refine(A8.out w' AA).mono ?_;rintro e w2 ⟨rfl,AB⟩;exact⟨_,rfl,rfl,AB⟩
  apply xN;intro w8 BK hH;clear hH p0 n0 n1 n2 n3 n4
  try simp only[Act.put,yA,yC,yB]
  have Bt:=yD (BM.out.ext BK);have Bb:=yD (BA.out.trans (vS.ext BK));have Bn:=yD (A1.out.ext BK);have Bq:=yD (AR.out.ext BK);clear BK BM BA A1 AR
  go_wp2_with fail
  have Bf:=yD (AT.out.ext Ag.out Bb.out AO.out)
  refine(Bm.out w8 _ b3 d Bf.out Bt.out (by have:=AX.out; omega) (by
   have h8:=congrArg List.length HR.out;have h9:=AC.out
   show _+((bks (d+1)).getD 3 []).length≤_
   rw[B2.out];simp only[yM,zK] at h8 h9 ⊢
   omega)).mono ?_
  rintro e w9 ⟨rfl,⟨v9,hu⟩,hm⟩
  replace hu:PrS w9 B g A n c v9 (b3++(bks (d+1)).getD 3 []) d:=hu
  rw[B2.out] at hu;clear A8;have Bx:=yD (Bb.out.trans hm);have Bg:=yD (hm.blk Bn.out AF.out (by decide));have Ah:=yD (hm.blk Bq.out AE.out (by decide))
  replace HR:=yD ((List.append_assoc _ _ _).trans HR.out)
  have Bp:=yD hu;clear hu hm Bb Bn Bq Bt;generalize b3++G3=b4 at *;have n0:w9.cell? ⟨gn,0,none⟩=some (.int .u8 14):=Ah.out.cell 0;have n1:w9.cell? ⟨gn,1,none⟩=some (.int .i64 x.pos):=Ah.out.cell 1;have n2:w9.cell? ⟨gn,2,none⟩=some (.string (yX t)):=Ah.out.cell 2;have n3:w9.cell? ⟨gn,3,none⟩=some (.int .i64 num):=Ah.out.cell 3;have n4:w9.cell? ⟨gn,4,none⟩=some (.slice x.kA x.kids.length x.kc):=Ah.out.cell 4;have p0:w9.cell? ⟨gp,0,none⟩=some (.pointer (some ⟨g,0,none⟩)):=Bg.out.cell 0
  go_upto_region 23 with fail
  have AW:Hid (Ext w9 (w9.alloc (.cells #[.string ⟨#[125]⟩] 9))):=yD (Ext.alloc _ _);have AM:Hid (Blk (w9.alloc (.cells #[.string ⟨#[125]⟩] 9)) w9.heap.size 9 #[.string ⟨#[125]⟩]):=yD (Blk.new _ _ _)
  go_wp2_with fail
  clear p0 n0 n1 n2 n3 n4;generalize w9.heap.size=pb at AM ⊢;generalize w9.alloc (.cells #[.string ⟨#[125]⟩] 9)=B1 at *;have AG:Blk B1 pb 9 (JM [[125]]):=AM.out;have AH:=AW.out;clear AM AW;have Ai:=yD (Bp.out.ext AH);have Ao:=yD (Bx.out.trans (vS.ext AH));have A6:=yD (Bg.out.ext AH);have Aw:=yD (Ah.out.ext AH);clear AH Bp Bx Bg Ah
  refine(jV B1 B g A n c _ b4 d [[125]] pb 1 Ai.out rfl (by have:=AX.out; omega) (by simp) AG (fun e=>by obtain⟨ad,hb⟩:=Ai.out.any; subst e; exact Blk.differ AG hb (by decide) rfl) (by
   have h8:=congrArg List.length HR.out;have h9:=AC.out;rw[BB.out];simp only[yM,zK] at h8 h9 ⊢
   omega) (Nat.le_trans At.out Ao.out.size)).mono ?_
  rintro e CD ⟨rfl,⟨CE,hu⟩,hm⟩
  replace hu:=hu.prS AO.out
  rw[BB.out] at hu;clear AG;have BR:=yD (Ao.out.trans hm);have B9:=yD (hm.blk A6.out AF.out (by decide));have B7:=yD (hm.blk Aw.out AE.out (by decide))
  replace HR:=yD ((List.append_assoc _ _ _).trans HR.out)
  have BW:=yD hu;clear hu hm Ao A6 Aw Ai;generalize b4++T9=b5 at *
  replace HR:=yD ((List.append_nil _).symm.trans HR.out)
  have Bc:=BR.out;have Af:=BW.out
  go_wp2_with fail
  go_end0;have h8:=HR.out;exact⟨rfl,⟨_,by rw[←h8]; exact Af⟩,Bc⟩
 ·have h3:¬3<ls.length:=fun h=>h4 (Bz.out.1 h);rw[if_neg h3,List.nil_append] at AD;have e4:decide ((x.kids.length:Int) > 3)=false:=yO (by rw[Aq.out]; have:=Ak.out; have:=As.out; omega);have B4:decide ((3:Int)<(x.kids.length:Int))=false:=e4;clear h3 h4;have HR:Hid (bs++(T1++(G2++(T9++[])))=bs++AV):=yD (by rw[List.append_nil,AD.out])
  go_upto_region 18 with fail
  apply xI 9 (by kernel_rfl) (by kernel_rfl) (by kernel_rfl);apply yZ (.pointer (some ⟨g,0,none⟩)) rfl rfl rfl
  ·intro w' AA hH;clear hH;have yp:=(AA.cell (p:=⟨gp,0,none⟩) HGP.out).trans p0;simp[yY,go_sem,yp];exact Ext.refl _
  apply sQ (.func (.func 138) #[] #[.pointer (some ⟨gp,0,none⟩),.pointer (some ⟨gn,0,none⟩)]);apply yZ (.string (yX l0)) rfl rfl rfl
  ·intro w' AA hH;clear hH;simp[yY,go_sem,he];refine(BH.out w' AA).mono ?_;rintro e w2 ⟨rfl,AB⟩;exact⟨_,rfl,rfl,AB⟩
  apply yZ (.agg #[.int .u8 14,.int .i64 x.pos,.string (yX t),.int .i64 num,.slice x.kA x.kids.length x.kc]) rfl rfl rfl
  ·intro w' AA hH;clear hH;have y0:=(AA.cell (p:=⟨gn,0,none⟩) HGN.out).trans n0;have y1:=(AA.cell (p:=⟨gn,1,none⟩) HGN.out).trans n1;have y2:=(AA.cell (p:=⟨gn,2,none⟩) HGN.out).trans n2;have y3:=(AA.cell (p:=⟨gn,3,none⟩) HGN.out).trans n3;have y4:=(AA.cell (p:=⟨gn,4,none⟩) HGN.out).trans n4;simp[yY,go_sem,y0,y1,y2,y3,y4];exact Ext.refl _
  apply vA (XJ 9 2 #[.string (yX [32,60,32]),.string (yX [32,61,61,32])]) (fun v a b h k=>XJ.ext v a b h k) rfl rfl rfl
  ·intro w' AA hH;clear hH;simp[yY,go_sem];exact⟨⟨_,rfl,Blk.new w' _ _⟩,Ext.alloc _ _⟩
  intro CA;apply yZ (.string (yX lp)) rfl rfl rfl
  ·intro w' AA hH;obtain⟨lb,rfl,Bl⟩:=hH _ (List.mem_cons_self ..) ⟨84,rfl,by decide⟩;clear hH;simp[yY,go_sem,he];refine(Bv.out w' lb AA Bl).mono ?_;rintro e w2 ⟨rfl,AB⟩;exact⟨_,rfl,rfl,AB⟩
  apply sQ (.func (.func 138) #[] #[.pointer (some ⟨gp,0,none⟩),.pointer (some ⟨gn,0,none⟩)]);apply yZ (.string (yX l1)) rfl rfl rfl
  ·intro w' AA hH;clear hH;simp[yY,go_sem,he];refine(Av.out w' AA).mono ?_;rintro e w2 ⟨rfl,AB⟩;exact⟨_,rfl,rfl,AB⟩
  apply vA (XJ 9 5 (JM [[105,102,32],l0,lp,l1,[32,123]])) (fun v a b h k=>XJ.ext v a b h k) rfl rfl rfl
  ·intro w' AA hH;clear hH;simp[yY,go_sem];exact⟨⟨_,rfl,Blk.new w' _ _⟩,Ext.alloc _ _⟩
  intro B6;apply xN;intro w2 AB hH;obtain⟨pb,rfl,AG⟩:=hH _ (List.mem_cons_self ..);clear hH p0 n0 n1 n2 n3 n4
  try simp only[Act.put,yA,yC,yB]
  have Ab:=yD (Ar.out.ext AB);have Aj:=yD (BO.out.trans (vS.ext AB));have BG:=yD (AS.out.ext AB);have BF:=yD (AL.out.ext AB);clear AB Ar BO AS AL
  go_wp2_with fail
  refine(jV w2 B g A n c _ bs d [[105,102,32],l0,lp,l1,[32,123]] pb 5 Ab.out rfl (by have:=AX.out; omega) (by simp) AG (fun e=>by obtain⟨ad,hb⟩:=Ab.out.any; subst e; exact Blk.differ AG hb (by decide) rfl) (by
   have h8:=congrArg List.length HR.out;have h9:=AC.out;rw[Az.out];simp only[yM,zK] at h8 h9 ⊢
   omega) (Nat.le_trans At.out Aj.out.size)).mono ?_
  rintro e w3 ⟨rfl,⟨v3,hu⟩,hm⟩
  replace hu:=hu.prS AO.out
  rw[Az.out] at hu;clear AG;have Al:=yD (Aj.out.trans hm);have AU:=yD (hm.blk BG.out AF.out (by decide));have AI:=yD (hm.blk BF.out AE.out (by decide))
  replace HR:=yD ((List.append_assoc _ _ _).trans HR.out)
  have An:=yD hu;clear hu hm Aj BG BF Ab;generalize bs++T1=b1 at *;have Am:=yD (AT.out.ext Ag.out Al.out AO.out);have AQ:Hid (∀w',Ext w3 w'→Calls Tryz.prog 40 #[.pointer (some ⟨g,0,none⟩),.agg #[.int .u8 14,.int .i64 x.pos,.string (yX t),.int .i64 num,.slice x.kA x.kids.length x.kc],.int .i64 2] w' fun e AJ=>e=.returned (vZ y2)∧Ext w' AJ):=yD fun w' hx=>BJ.out w' _ _ (Am.out.trans hx) (An.out.ext hx)
  replace HGP:=yD AU.out.lt
  replace HGN:=yD AI.out.lt
  have n0:w3.cell? ⟨gn,0,none⟩=some (.int .u8 14):=AI.out.cell 0;have n1:w3.cell? ⟨gn,1,none⟩=some (.int .i64 x.pos):=AI.out.cell 1;have n2:w3.cell? ⟨gn,2,none⟩=some (.string (yX t)):=AI.out.cell 2;have n3:w3.cell? ⟨gn,3,none⟩=some (.int .i64 num):=AI.out.cell 3;have n4:w3.cell? ⟨gn,4,none⟩=some (.slice x.kA x.kids.length x.kc):=AI.out.cell 4;have p0:w3.cell? ⟨gp,0,none⟩=some (.pointer (some ⟨g,0,none⟩)):=AU.out.cell 0
  go_upto_region 19 with fail
  apply xI 4 (by kernel_rfl) (by kernel_rfl) (by kernel_rfl);apply yZ (.pointer (some ⟨g,0,none⟩)) rfl rfl rfl
  ·intro w' AA hH;clear hH;have yp:=(AA.cell (p:=⟨gp,0,none⟩) HGP.out).trans p0;simp[yY,go_sem,yp];exact Ext.refl _
  apply yZ (.pointer (some ⟨g,0,none⟩)) rfl rfl rfl
  ·intro w' AA hH;clear hH;have yp:=(AA.cell (p:=⟨gp,0,none⟩) HGP.out).trans p0;simp[yY,go_sem,yp];exact Ext.refl _
  apply yZ (.agg #[.int .u8 14,.int .i64 x.pos,.string (yX t),.int .i64 num,.slice x.kA x.kids.length x.kc]) rfl rfl rfl
  ·intro w' AA hH;clear hH;have y0:=(AA.cell (p:=⟨gn,0,none⟩) HGN.out).trans n0;have y1:=(AA.cell (p:=⟨gn,1,none⟩) HGN.out).trans n1;have y2:=(AA.cell (p:=⟨gn,2,none⟩) HGN.out).trans n2;have y3:=(AA.cell (p:=⟨gn,3,none⟩) HGN.out).trans n3;have y4:=(AA.cell (p:=⟨gn,4,none⟩) HGN.out).trans n4;simp[yY,go_sem,y0,y1,y2,y3,y4];exact Ext.refl _
  apply yZ (vZ y2) rfl rfl rfl
  ·intro w' AA hH;clear hH;simp[yY,go_sem,he];refine(AQ.out w' AA).mono ?_;rintro e w2 ⟨rfl,AB⟩;exact⟨_,rfl,rfl,AB⟩
  apply xN;intro w4 AN hH;clear hH p0 n0 n1 n2 n3 n4
  try simp only[Act.put,yA,yC,yB]
  have A4:=yD (An.out.ext AN);have AY:=yD (Al.out.trans (vS.ext AN));have BD:=yD (AU.out.ext AN);have A5:=yD (AI.out.ext AN);clear AN An Al AU AI
  go_wp2_with fail
  have AZ:=yD (AT.out.ext Ag.out AY.out AO.out)
  refine(Au.out w4 _ b1 d AZ.out A4.out (by have:=AX.out; omega) (by
   have h8:=congrArg List.length HR.out;have h9:=AC.out
   show _+((bks (d+1)).getD 2 []).length≤_
   rw[BP.out];simp only[yM,zK] at h8 h9 ⊢
   omega)).mono ?_
  rintro e w5 ⟨rfl,⟨v5,hu⟩,hm⟩
  replace hu:PrS w5 B g A n c v5 (b1++(bks (d+1)).getD 2 []) d:=hu
  rw[BP.out] at hu;clear AQ;have BE:=yD (AY.out.trans hm);have Aa:=yD (hm.blk BD.out AF.out (by decide));have AK:=yD (hm.blk A5.out AE.out (by decide))
  replace HR:=yD ((List.append_assoc _ _ _).trans HR.out)
  have Ax:=yD hu;clear hu hm AY BD A5 A4;generalize b1++G2=b2 at *;have n0:w5.cell? ⟨gn,0,none⟩=some (.int .u8 14):=AK.out.cell 0;have n1:w5.cell? ⟨gn,1,none⟩=some (.int .i64 x.pos):=AK.out.cell 1;have n2:w5.cell? ⟨gn,2,none⟩=some (.string (yX t)):=AK.out.cell 2;have n3:w5.cell? ⟨gn,3,none⟩=some (.int .i64 num):=AK.out.cell 3;have n4:w5.cell? ⟨gn,4,none⟩=some (.slice x.kA x.kids.length x.kc):=AK.out.cell 4;have p0:w5.cell? ⟨gp,0,none⟩=some (.pointer (some ⟨g,0,none⟩)):=Aa.out.cell 0
  go_upto_region 23 with fail
  have AW:Hid (Ext w5 (w5.alloc (.cells #[.string ⟨#[125]⟩] 9))):=yD (Ext.alloc _ _);have AM:Hid (Blk (w5.alloc (.cells #[.string ⟨#[125]⟩] 9)) w5.heap.size 9 #[.string ⟨#[125]⟩]):=yD (Blk.new _ _ _)
  go_wp2_with fail
  clear p0 n0 n1 n2 n3 n4;generalize w5.heap.size=pb at AM ⊢;generalize w5.alloc (.cells #[.string ⟨#[125]⟩] 9)=w6 at *;have AG:Blk w6 pb 9 (JM [[125]]):=AM.out;have AH:=AW.out;clear AM AW;have Ap:=yD (Ax.out.ext AH);have Ac:=yD (BE.out.trans (vS.ext AH));have A0:=yD (Aa.out.ext AH);have BC:=yD (AK.out.ext AH);clear AH Ax BE Aa AK
  refine(jV w6 B g A n c _ b2 d [[125]] pb 1 Ap.out rfl (by have:=AX.out; omega) (by simp) AG (fun e=>by obtain⟨ad,hb⟩:=Ap.out.any; subst e; exact Blk.differ AG hb (by decide) rfl) (by
   have h8:=congrArg List.length HR.out;have h9:=AC.out;rw[BB.out];simp only[yM,zK] at h8 h9 ⊢
   omega) (Nat.le_trans At.out Ac.out.size)).mono ?_
  rintro e w7 ⟨rfl,⟨v7,hu⟩,hm⟩
  replace hu:=hu.prS AO.out
  rw[BB.out] at hu;clear AG;have BA:=yD (Ac.out.trans hm);have A1:=yD (hm.blk A0.out AF.out (by decide));have AR:=yD (hm.blk BC.out AE.out (by decide))
  replace HR:=yD ((List.append_assoc _ _ _).trans HR.out)
  have BM:=yD hu;clear hu hm Ac A0 BC Ap;generalize b2++T9=b3 at *
  replace HR:=yD ((List.append_nil _).symm.trans HR.out)
  have Bc:=BA.out;have Af:=BM.out
  go_wp2_with fail
  go_end0;have h8:=HR.out;exact⟨rfl,⟨_,by rw[←h8]; exact Af⟩,Bc⟩
def Fo.st:Fo→Nat→List (Bs × Bs)
 | .nil,_=>[]
 | .cons k p t x c r,d=>(xP d k t x c.txt ((c.st (d+1)).map Prod.snd),((c.st d).map Prod.fst).flatten)::r.st d
theorem zIU:∀(f:Fo) (a d:Nat),(f.st d).length=(f.roots a).length
 | .nil,a,d=>rfl
 | .cons k p t x c r,a,d=>by
  show(r.st d).length+1=(r.roots _).length+1
  rw[zIU r (a+1+c.size) d]
theorem zKv (l:List (Bs × Bs))(j:Nat):(l.map Prod.fst).getD j []=(l.getD j ([],[])).1:=by
 rw[yE,yE,zM]
 cases l[j]? <;> rfl
theorem zBo (l:List (Bs × Bs))(j:Nat):(l.map Prod.snd).getD j []=(l.getD j ([],[])).2:=by
 rw[yE,yE,zM]
 cases l[j]? <;> rfl
theorem zAk.mono {w0:World}{B g n c:Nat}{A:Option Addr}{y:TT.xB}{m M:Nat}{out:Nat→Bs}(h:zAk w0 B g n c A y m out)(hm:m≤M):zAk w0 B g n c A y M out:=
 fun w v bs d hx hs hd hl=>h w v bs d hx hs (by omega) hl
theorem XX.mono {w0:World}{B g n c:Nat}{A:Option Addr}{y:TT.xB}{m M:Nat}{out:Nat→Bs}(h:XX w0 B g n c A y m out)(hm:m≤M):XX w0 B g n c A y M out:=
 fun w v bs d hx hs hd hl=>h w v bs d hx hs (by omega) hl
theorem zOv (w0:World)(B g n c:Nat)(A:Option Addr)(L:List TT.xB)(hB:VD w0 B n A L)(x:TT.xB)(hx:Cells w0 x.kA (TT.xD x.kids))(k:Nat)(t:Bs)(num:Int)(ks kk:List Nat)(ls:List Bs)(hk:x.kind=(k:Int))(ht:x.text=yX t)(hnum:x.num=num)(hks:x.kids=xG ks)(hnk:ZY k t num kk)(hl1:kk.length=ks.length)(hl2:ls.length=ks.length)(hkb:ks.length≤100000)(hsz:vR ls≤1099511627776)
  (HT:∀(w:World) (v:Value) (bs:Bs) (d:Nat),Ext w0 w→PrS w B g A n c v bs d→∀j (hj:j<ks.length),zCf w g L ks[j] (kk.getD j 0) (ls.getD j []))
  (D:Nat) (bks:Nat→List Bs) (HBK:∀j (hj:j<ks.length),kk.getD j 0=6→∃y,L[ks[j]]?=some y∧XX w0 B g n c A y D fun d=>(bks d).getD j []) (h7:7≤k) (h19:k≤19) :
  zAk w0 B g n c A x (D+1) fun d=>xP d k t num ls (bks (d+1)):=by
 have hc:k=7∨k=8∨k=9∨k=10∨k=11∨k=12∨k=13∨k=14∨k=15∨k=16∨k=17∨k=18∨k=19:=by omega
 rcases hc with h | h | h | h | h | h | h | h | h | h | h | h | h
 ·exact zRn w0 B g n c A L hB x hx k t num ks kk ls hk ht hnum hks hnk hl1 hl2 hkb hsz HT D bks HBK h
 ·exact zRj w0 B g n c A L hB x hx k t num ks kk ls hk ht hnum hks hnk hl1 hl2 hkb hsz HT D bks HBK h
 ·exact zRB w0 B g n c A L hB x hx k t num ks kk ls hk ht hnum hks hnk hl1 hl2 hkb hsz HT D bks HBK h
 ·exact zPZ w0 B g n c A L hB x hx k t num ks kk ls hk ht hnum hks hnk hl1 hl2 hkb hsz HT D bks HBK h
 ·exact zPF w0 B g n c A L hB x hx k t num ks kk ls hk ht hnum hks hnk hl1 hl2 hkb hsz HT D bks HBK h
 ·exact zPG w0 B g n c A L hB x hx k t num ks kk ls hk ht hnum hks hnk hl1 hl2 hkb hsz HT D bks HBK h
 ·exact zQv w0 B g n c A L hB x hx k t num ks kk ls hk ht hnum hks hnk hl1 hl2 hkb hsz HT D bks HBK h
 ·exact zQj w0 B g n c A L hB x hx k t num ks kk ls hk ht hnum hks hnk hl1 hl2 hkb hsz HT D bks HBK h
 ·exact zPC w0 B g n c A L hB x hx k t num ks kk ls hk ht hnum hks hnk hl1 hl2 hkb hsz HT D bks HBK h
 ·exact zQY w0 B g n c A L hB x hx k t num ks kk ls hk ht hnum hks hnk hl1 hl2 hkb hsz HT D bks HBK h
 ·exact zQ6 w0 B g n c A L hB x hx k t num ks kk ls hk ht hnum hks hnk hl1 hl2 hkb hsz HT D bks HBK h
 ·exact zPL w0 B g n c A L hB x hx k t num ks kk ls hk ht hnum hks hnk hl1 hl2 hkb hsz HT D bks HBK h
 ·exact zQC w0 B g n c A L hB x hx k t num ks kk ls hk ht hnum hks hnk hl1 hl2 hkb hsz HT D bks HBK h
theorem jO:∀(f:Fo) (a:Nat),(f.roots a).length≤f.size
 | .nil,a=>zU _
 | .cons k p t x c r,a=>by
  show(r.roots _).length+1≤1+c.size+r.size
  have:=jO r (a+1+c.size)
  omega
theorem zDA {t:Bs}{x:Int}{kk:List Nat}(h:ZY 6 t x kk)(j:Nat)(hj:j<kk.length):7≤kk.getD j 0∧kk.getD j 0≤19:=by
 have hf:TT.zAP (kk.map fun (j:Nat)=>(j:Int)) 0 1=true:=h.2.2.2;unfold TT.zAP at hf;rw[List.drop_zero,zG] at hf
 have hb:TT.JP ((kk.getD j 0:Nat):Int)=true:=hf _ (by
  rw[yS];refine⟨kk[j],yL hj,?_⟩;rw[yE,yG hj]
  rfl)
 unfold TT.JP at hb;simp only[zF,zE] at hb;omega
theorem zMT (w0:World)(B g n c:Nat)(A:Option Addr)(L:List TT.xB)(hB:VD w0 B n A L):∀(f:Fo) (a:Nat),VE L a f→f.ok 0→f.wt≤1099511627776→f.size≤100000→∀j (hj:j<(f.roots a).length),∃y,L[(f.roots a)[j]]?=some y ∧
   (7≤f.kinds.getD j 0→f.kinds.getD j 0≤19→zAk w0 B g n c A y f.size fun d=>((f.st d).getD j ([],[])).1) ∧
   (f.kinds.getD j 0=6→XX w0 B g n c A y f.size fun d=>((f.st d).getD j ([],[])).2)
 | .nil,a,_,_,_,_=>fun j hj=>by cases hj
 | .cons k p t x c' r,a,hL,hok,hwt,hsz=>fun j hj=>by
  have hw:t.length+30+c'.wt+r.wt≤1099511627776:=hwt;have hs:1+c'.size+r.size≤100000:=hsz;obtain⟨⟨m,hm,hk,hx,ht,AC⟩,hc,hr⟩:=hL
  cases j with
  | zero=>
   have AA:m ∈ L:=zY hm;have AD:=(hB.tree.ok m AA).kids;have AB:=zMT w0 B g n c A L hB c' (a+1) hc hok.2.1 (by omega) (by omega);have AF:=jO c' (a+1);refine⟨m,hm,fun h7 AE=>?_,fun h6=>?_⟩
   ·have hT:=XU c' hok.2.1
    have:=zOv w0 B g n c A L hB m AD k t x (c'.roots (a+1)) c'.kinds c'.txt hk (zCk ht) hx AC hok.1.1 (ZR c' _) (YU c' _) (by omega) (by omega)
     (fun w v bs d hx hs=>zCj w g n c A L (hB.prT hx hs) c' (a+1) hc hok.2.1 (by omega)) c'.size (fun d=>(c'.st d).map Prod.snd) (fun i hi h6=>by
      obtain⟨y,h1,_,h3⟩:=AB i hi;refine⟨y,h1,?_⟩
      have:=h3 h6
      simp only[zBo]
      exact this) h7 AE
    exact this.mono (by show c'.size+1≤1+c'.size+r.size; omega)
   ·have h6:k=6:=h6;subst h6
    have:=zLt w0 B g n c A L hB m AD (c'.roots (a+1)) AC (by omega) c'.size (fun d=>(c'.st d).map Prod.fst) (fun d=>by rw[yN,zIU c' (a+1) d]) (fun i hi=>by
     obtain⟨y,h1,h2,_⟩:=AB i hi;have hb:=zDA hok.1.1 i (by rw[ZR c' (a+1)]; exact hi);refine⟨y,h1,?_⟩
     have:=h2 hb.1 hb.2
     simp only[zKv]
     exact this)
    exact this.mono (by show c'.size+1≤1+c'.size+r.size; omega)
  | succ j=>
   obtain⟨y,h1,h2,h3⟩:=zMT w0 B g n c A L hB r (a+1+c'.size) hr hok.2.2 (by omega) (by omega) j (Nat.lt_of_succ_lt_succ hj);exact⟨y,h1,fun a b=>(h2 a b).mono (by show r.size≤1+c'.size+r.size; omega),fun a=>(h3 a).mono (by show r.size≤1+c'.size+r.size; omega)⟩
end Go.Proofs.YtioffpjajhalaaaGreatDoor
