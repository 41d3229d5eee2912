/- printer.stmt, walked at one node, kind by kind. (and what follows of it). The conditions stand at each lemma. -/
import Derived.Test.YtioffpjajhalaaaGreatDoorJaa
import Derived.Test.YtioffpjajhalaaaGreatDoorJay
import Derived.Test.YtioffpjajhalaaaGreatDoorJaz
set_option linter.unusedVariables false
set_option linter.unusedSimpArgs false
set_option maxRecDepth 100000
set_option maxHeartbeats 16000000
namespace Go.Proofs.YtioffpjajhalaaaGreatDoor
open Go Go.RowKit
theorem zSS (w0:World)(B g n c:Nat)(A:Option Addr)(L:List TT.xC)(hB:zAp w0 B n A L)(x:TT.xC)(hx:Cells w0 x.kA (TT.xL x.kids))(k:Nat)(t:Bs)(num:Int)(ks kk:List Nat)(ls:List Bs)(hk:x.kind=(k:Int))(ht:x.text=yX t)(hnum:x.num=num)(hks:x.kids=xK ks)(hnk:xU k t num kk)(hl1:kk.length=ks.length)(hl2:ls.length=ks.length)(hkb:ks.length≤100000)(hsz:zAD ls≤1099511627776)
  (HT:∀(w:World) (v:Value) (bs:Bs) (d:Nat),Ext w0 w→PrS w B g A n c v bs d→∀j (hj:j<ks.length),zDr w g L ks[j] (kk.getD j 0) (ls.getD j []))
  (D:Nat) (bks:Nat→List Bs) (HBK:∀j (hj:j<ks.length),kk.getD j 0=6→∃y,L[ks[j]]?=some y∧VE w0 B g n c A y D fun d=>(bks d).getD j []) (h14:k=14) :
  zAY w0 B g n c A x (D+1) fun d=>xW d k t num ls (bks (d+1)):=by
 intro w v bs d BW hS hd AO;subst h14;obtain⟨Az,BZ⟩:∃b,Hid (bks (d+1)=b):=⟨_,yD rfl⟩;obtain⟨AS,AD⟩:∃b,Hid (xW d 14 t num ls Az=b):=⟨_,yD rfl⟩
 show Calls Tryz.prog 89 #[.pointer (some ⟨g,0,none⟩),jF x] w fun e w'=>e=.returned (.tuple #[])∧zCh w B g A n c (bs++xW d 14 t num ls (bks (d+1))) d w'
 replace AO:bs.length+(xW d 14 t num ls (bks (d+1))).length≤140737488355328:=AO
 rw[BZ.out,AD.out] at AO ⊢;have AC:Hid ((bs++AS).length≤140737488355328):=yD (by rw[yM]; exact AO);have AR:=yD hB;have Bf:=yD hx;have BP:=yD hks;have B6:=yD hnk;have Aq:=yD hl1;have CC:=yD hl2;have CI:=yD hkb;have CB:=yD HT;have BM:=yD HBK;have AZ:=yD BW;have AN:=yD hS.lo;have AX:=yD hd;have CG:=yD hsz;have Ah:=yD (XG hnk);have A9:Hid (B≤w.heap.size):=yD (by rw[←hB.size]; exact BW.size);have Ar:Hid (x.kids.length=ks.length):=yD (by rw[hks]; simp[xK]);obtain⟨CH,A7⟩:=hS.any;have Bw:=yD A7.lt;clear hB hx hks hnk hl1 hl2 hkb HT HBK BW AO hd hsz A7;have BY:Hid (Ext w ((w.alloc (.cells #[.pointer (some ⟨g,0,none⟩)] 77)).alloc (.cells #[.int .u8 14,.int .i64 x.pos,.string (yX t),.int .i64 num,.slice x.kA x.kids.length x.kc] 48))):=yD ((Ext.alloc _ _).trans (Ext.alloc _ _));have AV:Hid (Blk ((w.alloc (.cells #[.pointer (some ⟨g,0,none⟩)] 77)).alloc (.cells #[.int .u8 14,.int .i64 x.pos,.string (yX t),.int .i64 num,.slice x.kA x.kids.length x.kc] 48)) w.heap.size 77 #[.pointer (some ⟨g,0,none⟩)]):=yD ((Blk.new _ _ _).alloc _)
 have AL:Hid (Blk ((w.alloc (.cells #[.pointer (some ⟨g,0,none⟩)] 77)).alloc (.cells #[.int .u8 14,.int .i64 x.pos,.string (yX t),.int .i64 num,.slice x.kA x.kids.length x.kc] 48)) (w.heap.size+1) 48 #[.int .u8 14,.int .i64 x.pos,.string (yX t),.int .i64 num,.slice x.kA x.kids.length x.kc]):=yD (Blk.zAa (by simp));have As:=yD (hS.ext BY.out);have BQ:Hid (vU w ((w.alloc (.cells #[.pointer (some ⟨g,0,none⟩)] 77)).alloc (.cells #[.int .u8 14,.int .i64 x.pos,.string (yX t),.int .i64 num,.slice x.kA x.kids.length x.kc] 48)) B g):=yD (vU.ext BY.out);have HE:Hid (∀args w,(callFunc 138 args).run Tryz.prog w=.ok (.enter 138 args) w):=yD (enters_of Tryz.func138 (by kernel_rfl) rfl);clear hS;unfold jF;rw[hk,ht,hnum]
 go_enter Tryz.func89,Tryz.ntmps89
 go_upto_region 1 with fail
 try simp only[size_alloc]
 have AG:Hid (w.heap.size≠g):=yD (by have:=Bw.out; omega);have AE:Hid (w.heap.size+1≠g):=yD (by have:=Bw.out; omega);generalize w.heap.size+1=gn at AL AE ⊢;generalize w.heap.size=gp at AV AG ⊢;generalize ((w.alloc (.cells #[.pointer (some ⟨g,0,none⟩)] 77)).alloc (.cells #[.int .u8 14,.int .i64 x.pos,.string (yX t),.int .i64 num,.slice x.kA x.kids.length x.kc] 48))=w1 at *;have Bg:=yD (AZ.out.trans BY.out);have A0:=yD (Bf.out.ext Bg.out);have B4:Hid (Blk w1 gn 48 #[.int .u8 x.kind,.int .i64 x.pos,.string x.text,.int .i64 x.num,.slice x.kA x.kids.length x.kc]):=yD (by rw[hk,ht,hnum]; exact AL.out);have HGP:=yD AV.out.lt;have HGN:=yD AL.out.lt;have Bt:=yD (AR.out.prT Bg.out As.out);have Bx:=yD (CB.out w1 v bs d Bg.out As.out);have he:=HE.out;have Bm:Hid (0<ks.length):=yD (by have:=Ah.out; have:=Aq.out; omega)
 have BE:Hid (∀w',Ext w1 w'→Calls Tryz.prog 138 #[.int .i64 0,.pointer (some ⟨gp,0,none⟩),.pointer (some ⟨gn,0,none⟩)] w' fun e AK=>e=.returned (.string (yX (ls.getD 0 [])))∧Ext w' AK):=yD fun w' hx=>by
  obtain⟨y,h1,h2,h3⟩:=Bx.out 0 Bm.out;exact ZV w' g n c gp gn A L (Bt.out.ext hx) x (AV.out.ext hx) (B4.out.ext hx) (A0.out.ext hx) 0 (ks[0]'Bm.out) (kk.getD 0 0) (by rw[Ar.out]; exact Bm.out) (by simp only[BP.out,xK,zA]) (ls.getD 0 []) ⟨y,h1,h2,fun w2 AB=>h3 w2 (hx.trans AB)⟩
 have Bk:Hid (1<ks.length):=yD (by have:=Ah.out; have:=Aq.out; omega)
 have A6:Hid (∀w',Ext w1 w'→Calls Tryz.prog 138 #[.int .i64 1,.pointer (some ⟨gp,0,none⟩),.pointer (some ⟨gn,0,none⟩)] w' fun e AK=>e=.returned (.string (yX (ls.getD 1 [])))∧Ext w' AK):=yD fun w' hx=>by
  obtain⟨y,h1,h2,h3⟩:=Bx.out 1 Bk.out;exact ZV w' g n c gp gn A L (Bt.out.ext hx) x (AV.out.ext hx) (B4.out.ext hx) (A0.out.ext hx) 1 (ks[1]'Bk.out) (kk.getD 1 0) (by rw[Ar.out]; exact Bk.out) (by simp only[BP.out,xK,zA]) (ls.getD 1 []) ⟨y,h1,h2,fun w2 AB=>h3 w2 (hx.trans AB)⟩
 have BV:=yD (zGU B6.out (by decide))
 have Bq:Hid (∀w' lb,Ext w1 w'→Blk w' lb 9 #[.string (yX [32,60,32]),.string (yX [32,61,61,32])]→Calls Tryz.prog 43 #[.agg #[.int .u8 14,.int .i64 x.pos,.string (yX t),.int .i64 num,.slice x.kA x.kids.length x.kc],.slice (some ⟨lb,0,none⟩) 2 2] w' fun e AK=>e=.returned (.string (yX (JB num [32,60,32] [32,61,61,32])))∧Ext w' AK):=yD fun w' lb hx hb=>by
  have:=zFV w' x (by rw[hnum]; exact BV.out) [32,60,32] [32,61,61,32] lb hb
  unfold jF at this;rw[hk,ht,hnum] at this;exact this
 replace AD:Hid (xR d [[105,102,32],(ls.getD 0 []),(JB num [32,60,32] [32,61,61,32]),(ls.getD 1 []),[32,123]]++(Az.getD 2 []++((if 3<ls.length then xR d [[125,32,101,108,115,101,32,123]]++Az.getD 3 [] else [])++xR d [[125]]))=AS):=AD
 have Bp:Hid (2<ks.length):=yD (by have:=Ah.out; have:=Aq.out; omega);have Bn:Hid (kk.getD 2 0=6):=yD (by have:=Ah.out; omega);obtain⟨y2,B2,BI⟩:=BM.out 2 Bp.out Bn.out;have BH:=yD BI
 have Au:Hid (∀(w':World) (v':Value) (A8:Bs),Ext w0 w'→PrS w' B g A n c v' A8 d→Calls Tryz.prog 40 #[.pointer (some ⟨g,0,none⟩),.agg #[.int .u8 14,.int .i64 x.pos,.string (yX t),.int .i64 num,.slice x.kA x.kids.length x.kc],.int .i64 2] w' fun e AK=>e=.returned (jF y2)∧Ext w' AK):=yD fun w' v' A8 hx hs=>by
  have hp:=AR.out.prT hx hs
  have:=zA0 w' g n c A L hp.tree hp.len hp.at0 hp.lt x (Bf.out.ext hx) 2 (ks[2]'Bp.out) (by rw[Ar.out]; exact Bp.out) (by simp only[BP.out,xK,zA]) (List.getElem?_eq_some_iff.1 B2).1 y2 B2
  unfold jF at this ⊢;rw[hk,ht,hnum] at this;exact this
 clear BI;have Bv:Hid (3<ls.length↔ks.length=4):=yD (by have:=Ah.out; have:=Aq.out; have:=CC.out; omega);obtain⟨G2,Am⟩:∃b,Hid (Az.getD 2 []=b):=⟨_,yD rfl⟩;have BO:Hid ((bks (d+1)).getD 2 []=G2):=yD (by rw[BZ.out]; exact Am.out);rw[Am.out] at AD;clear Am;obtain⟨T9,A1⟩:∃b,Hid (xR d [[125]]=b):=⟨_,yD rfl⟩;rw[A1.out] at AD;obtain⟨T5,Ba⟩:∃b,Hid (xR d [[125,32,101,108,115,101,32,123]]=b):=⟨_,yD rfl⟩;obtain⟨G3,Ae⟩:∃b,Hid (Az.getD 3 []=b):=⟨_,yD rfl⟩;have Bu:Hid ((bks (d+1)).getD 3 []=G3):=yD (by rw[BZ.out]; exact Ae.out);rw[Ba.out,Ae.out] at AD;clear Ae;generalize ls.getD 0 []=l0 at *;generalize ls.getD 1 []=l1 at *;generalize JB num [32,60,32] [32,61,61,32]=lp at *;obtain⟨T1,BA⟩:∃b,Hid (xR d [[105,102,32],l0,lp,l1,[32,123]]=b):=⟨_,yD rfl⟩;rw[BA.out] at AD;have n0:w1.cell? ⟨gn,0,none⟩=some (.int .u8 14):=AL.out.cell 0;have n1:w1.cell? ⟨gn,1,none⟩=some (.int .i64 x.pos):=AL.out.cell 1;have n2:w1.cell? ⟨gn,2,none⟩=some (.string (yX t)):=AL.out.cell 2;have n3:w1.cell? ⟨gn,3,none⟩=some (.int .i64 num):=AL.out.cell 3;have n4:w1.cell? ⟨gn,4,none⟩=some (.slice x.kA x.kids.length x.kc):=AL.out.cell 4;have p0:w1.cell? ⟨gp,0,none⟩=some (.pointer (some ⟨g,0,none⟩)):=AV.out.cell 0
 by_cases h4:ks.length=4
 ·have h3:3<ls.length:=Bv.out.2 h4;rw[if_pos h3,List.append_assoc] at AD;have BT:Hid (3<ks.length):=yD (by omega);have Bb:Hid (kk.getD 3 0=6):=yD (by have:=Ah.out; have:=Aq.out; omega);obtain⟨y3,By,BJ⟩:=BM.out 3 BT.out Bb.out;have Bc:=yD BJ
  have Be:Hid (∀(w':World) (v':Value) (A8:Bs),Ext w0 w'→PrS w' B g A n c v' A8 d→Calls Tryz.prog 40 #[.pointer (some ⟨g,0,none⟩),.agg #[.int .u8 14,.int .i64 x.pos,.string (yX t),.int .i64 num,.slice x.kA x.kids.length x.kc],.int .i64 3] w' fun e AK=>e=.returned (jF y3)∧Ext w' AK):=yD fun w' v' A8 hx hs=>by
   have hp:=AR.out.prT hx hs
   have:=zA0 w' g n c A L hp.tree hp.len hp.at0 hp.lt x (Bf.out.ext hx) 3 (ks[3]'BT.out) (by rw[Ar.out]; exact BT.out) (by simp only[BP.out,xK,zA]) (List.getElem?_eq_some_iff.1 By).1 y3 By
   unfold jF at this ⊢;rw[hk,ht,hnum] at this;exact this
  clear BJ;have e4:decide ((x.kids.length:Int) > 3)=true:=yP (by rw[Ar.out,h4]; decide);have B7:decide ((3:Int)<(x.kids.length:Int))=true:=e4;clear h3 h4;have HR:Hid (bs++(T1++(G2++(T5++(G3++(T9++[])))))=bs++AS):=yD (by rw[List.append_nil,AD.out])
  go_upto_region 18 with fail
  apply xE 9 (by kernel_rfl) (by kernel_rfl) (by kernel_rfl);apply xA (.pointer (some ⟨g,0,none⟩)) rfl rfl rfl
  ·intro w' AA hH;clear hH;have yp:=(AA.cell (p:=⟨gp,0,none⟩) HGP.out).trans p0;simp[yY,go_sem,yp];exact Ext.refl _
  apply sQ (.func (.func 138) #[] #[.pointer (some ⟨gp,0,none⟩),.pointer (some ⟨gn,0,none⟩)]);apply xA (.string (yX l0)) rfl rfl rfl
  ·intro w' AA hH;clear hH;simp[yY,go_sem,he];refine(BE.out w' AA).mono ?_;rintro e w2 ⟨rfl,AB⟩;exact⟨_,rfl,rfl,AB⟩
  apply xA (.agg #[.int .u8 14,.int .i64 x.pos,.string (yX t),.int .i64 num,.slice x.kA x.kids.length x.kc]) rfl rfl rfl
  ·intro w' AA hH;clear hH;have y0:=(AA.cell (p:=⟨gn,0,none⟩) HGN.out).trans n0;have y1:=(AA.cell (p:=⟨gn,1,none⟩) HGN.out).trans n1;have y2:=(AA.cell (p:=⟨gn,2,none⟩) HGN.out).trans n2;have y3:=(AA.cell (p:=⟨gn,3,none⟩) HGN.out).trans n3;have y4:=(AA.cell (p:=⟨gn,4,none⟩) HGN.out).trans n4;simp[yY,go_sem,y0,y1,y2,y3,y4];exact Ext.refl _
  apply vF (JJ 9 2 #[.string (yX [32,60,32]),.string (yX [32,61,61,32])]) (fun v a b h k=>JJ.ext v a b h k) rfl rfl rfl
  ·intro w' AA hH;clear hH;simp[yY,go_sem];exact⟨⟨_,rfl,Blk.new w' _ _⟩,Ext.alloc _ _⟩
  intro CD;apply xA (.string (yX lp)) rfl rfl rfl
  ·intro w' AA hH;obtain⟨lb,rfl,BS⟩:=hH _ (List.mem_cons_self ..) ⟨84,rfl,by decide⟩;clear hH;simp[yY,go_sem,he];refine(Bq.out w' lb AA BS).mono ?_;rintro e w2 ⟨rfl,AB⟩;exact⟨_,rfl,rfl,AB⟩
  apply sQ (.func (.func 138) #[] #[.pointer (some ⟨gp,0,none⟩),.pointer (some ⟨gn,0,none⟩)]);apply xA (.string (yX l1)) rfl rfl rfl
  ·intro w' AA hH;clear hH;simp[yY,go_sem,he];refine(A6.out w' AA).mono ?_;rintro e w2 ⟨rfl,AB⟩;exact⟨_,rfl,rfl,AB⟩
  apply vF (JJ 9 5 (VS [[105,102,32],l0,lp,l1,[32,123]])) (fun v a b h k=>JJ.ext v a b h k) rfl rfl rfl
  ·intro w' AA hH;clear hH;simp[yY,go_sem];exact⟨⟨_,rfl,Blk.new w' _ _⟩,Ext.alloc _ _⟩
  intro B9;apply vA;intro w2 AB hH;obtain⟨pb,rfl,AF⟩:=hH _ (List.mem_cons_self ..);clear hH p0 n0 n1 n2 n3 n4
  try simp only[Act.put,yA,yC,yB]
  have Ac:=yD (As.out.ext AB);have Ad:=yD (BQ.out.trans (vU.ext AB));have BG:=yD (AV.out.ext AB);have BF:=yD (AL.out.ext AB);clear AB As BQ AV AL
  go_wp2_with fail
  refine(ZK w2 B g A n c _ bs d [[105,102,32],l0,lp,l1,[32,123]] pb 5 Ac.out rfl (by have:=AX.out; omega) (by simp) AF (fun e=>by obtain⟨ad,hb⟩:=Ac.out.any; subst e; exact Blk.differ AF hb (by decide) rfl) (by
   have h8:=congrArg List.length HR.out;have h9:=AC.out;rw[BA.out];simp only[yM,zK] at h8 h9 ⊢
   omega) (Nat.le_trans A9.out Ad.out.size)).mono ?_
  rintro e w3 ⟨rfl,⟨v3,hu⟩,hm⟩
  replace hu:=hu.prS AN.out
  rw[BA.out] at hu;clear AF;have Al:=yD (Ad.out.trans hm);have AT:=yD (hm.blk BG.out AG.out (by decide));have AI:=yD (hm.blk BF.out AE.out (by decide))
  replace HR:=yD ((List.append_assoc _ _ _).trans HR.out)
  have Ag:=yD hu;clear hu hm Ad BG BF Ac;generalize bs++T1=b1 at *;have Ai:=yD (AR.out.ext AZ.out Al.out AN.out);have AQ:Hid (∀w',Ext w3 w'→Calls Tryz.prog 40 #[.pointer (some ⟨g,0,none⟩),.agg #[.int .u8 14,.int .i64 x.pos,.string (yX t),.int .i64 num,.slice x.kA x.kids.length x.kc],.int .i64 2] w' fun e AK=>e=.returned (jF y2)∧Ext w' AK):=yD fun w' hx=>Au.out w' _ _ (Ai.out.trans hx) (Ag.out.ext hx)
  replace HGP:=yD AT.out.lt
  replace HGN:=yD AI.out.lt
  have n0:w3.cell? ⟨gn,0,none⟩=some (.int .u8 14):=AI.out.cell 0;have n1:w3.cell? ⟨gn,1,none⟩=some (.int .i64 x.pos):=AI.out.cell 1;have n2:w3.cell? ⟨gn,2,none⟩=some (.string (yX t)):=AI.out.cell 2;have n3:w3.cell? ⟨gn,3,none⟩=some (.int .i64 num):=AI.out.cell 3;have n4:w3.cell? ⟨gn,4,none⟩=some (.slice x.kA x.kids.length x.kc):=AI.out.cell 4;have p0:w3.cell? ⟨gp,0,none⟩=some (.pointer (some ⟨g,0,none⟩)):=AT.out.cell 0
  go_upto_region 19 with fail
  apply xE 4 (by kernel_rfl) (by kernel_rfl) (by kernel_rfl);apply xA (.pointer (some ⟨g,0,none⟩)) rfl rfl rfl
  ·intro w' AA hH;clear hH;have yp:=(AA.cell (p:=⟨gp,0,none⟩) HGP.out).trans p0;simp[yY,go_sem,yp];exact Ext.refl _
  apply xA (.pointer (some ⟨g,0,none⟩)) rfl rfl rfl
  ·intro w' AA hH;clear hH;have yp:=(AA.cell (p:=⟨gp,0,none⟩) HGP.out).trans p0;simp[yY,go_sem,yp];exact Ext.refl _
  apply xA (.agg #[.int .u8 14,.int .i64 x.pos,.string (yX t),.int .i64 num,.slice x.kA x.kids.length x.kc]) rfl rfl rfl
  ·intro w' AA hH;clear hH;have y0:=(AA.cell (p:=⟨gn,0,none⟩) HGN.out).trans n0;have y1:=(AA.cell (p:=⟨gn,1,none⟩) HGN.out).trans n1;have y2:=(AA.cell (p:=⟨gn,2,none⟩) HGN.out).trans n2;have y3:=(AA.cell (p:=⟨gn,3,none⟩) HGN.out).trans n3;have y4:=(AA.cell (p:=⟨gn,4,none⟩) HGN.out).trans n4;simp[yY,go_sem,y0,y1,y2,y3,y4];exact Ext.refl _
  apply xA (jF y2) rfl rfl rfl
  ·intro w' AA hH;clear hH;simp[yY,go_sem,he];refine(AQ.out w' AA).mono ?_;rintro e w2 ⟨rfl,AB⟩;exact⟨_,rfl,rfl,AB⟩
  apply vA;intro w4 AP hH;clear hH p0 n0 n1 n2 n3 n4
  try simp only[Act.put,yA,yC,yB]
  have BB:=yD (Ag.out.ext AP);have Aj:=yD (Al.out.trans (vU.ext AP));have BL:=yD (AT.out.ext AP);have A4:=yD (AI.out.ext AP);clear AP Ag Al AT AI
  go_wp2_with fail
  have Ak:=yD (AR.out.ext AZ.out Aj.out AN.out)
  refine(BH.out w4 _ b1 d Ak.out BB.out (by have:=AX.out; omega) (by
   have h8:=congrArg List.length HR.out;have h9:=AC.out
   show _+((bks (d+1)).getD 2 []).length≤_
   rw[BO.out];simp only[yM,zK] at h8 h9 ⊢
   omega)).mono ?_
  rintro e w5 ⟨rfl,⟨v5,hu⟩,hm⟩
  replace hu:PrS w5 B g A n c v5 (b1++(bks (d+1)).getD 2 []) d:=hu
  rw[BO.out] at hu;clear AQ;have A2:=yD (Aj.out.trans hm);have Af:=yD (hm.blk BL.out AG.out (by decide));have AJ:=yD (hm.blk A4.out AE.out (by decide))
  replace HR:=yD ((List.append_assoc _ _ _).trans HR.out)
  have At:=yD hu;clear hu hm Aj BL A4 BB;generalize b1++G2=b2 at *;have n0:w5.cell? ⟨gn,0,none⟩=some (.int .u8 14):=AJ.out.cell 0;have n1:w5.cell? ⟨gn,1,none⟩=some (.int .i64 x.pos):=AJ.out.cell 1;have n2:w5.cell? ⟨gn,2,none⟩=some (.string (yX t)):=AJ.out.cell 2;have n3:w5.cell? ⟨gn,3,none⟩=some (.int .i64 num):=AJ.out.cell 3;have n4:w5.cell? ⟨gn,4,none⟩=some (.slice x.kA x.kids.length x.kc):=AJ.out.cell 4;have p0:w5.cell? ⟨gp,0,none⟩=some (.pointer (some ⟨g,0,none⟩)):=Af.out.cell 0
  go_upto_region 21 with fail
  have AW:Hid (Ext w5 (w5.alloc (.cells #[.string ⟨#[125,32,101,108,115,101,32,123]⟩] 9))):=yD (Ext.alloc _ _);have AM:Hid (Blk (w5.alloc (.cells #[.string ⟨#[125,32,101,108,115,101,32,123]⟩] 9)) w5.heap.size 9 #[.string ⟨#[125,32,101,108,115,101,32,123]⟩]):=yD (Blk.new _ _ _)
  go_wp2_with fail
  clear p0 n0 n1 n2 n3 n4;generalize w5.heap.size=pb at AM ⊢;generalize w5.alloc (.cells #[.string ⟨#[125,32,101,108,115,101,32,123]⟩] 9)=w6 at *;have AF:Blk w6 pb 9 (VS [[125,32,101,108,115,101,32,123]]):=AM.out;have AH:=AW.out;clear AM AW;have Ao:=yD (At.out.ext AH);have Ap:=yD (A2.out.trans (vU.ext AH));have Aw:=yD (Af.out.ext AH);have A5:=yD (AJ.out.ext AH);clear AH At A2 Af AJ
  refine(ZK w6 B g A n c _ b2 d [[125,32,101,108,115,101,32,123]] pb 1 Ao.out rfl (by have:=AX.out; omega) (by simp) AF (fun e=>by obtain⟨ad,hb⟩:=Ao.out.any; subst e; exact Blk.differ AF hb (by decide) rfl) (by
   have h8:=congrArg List.length HR.out;have h9:=AC.out;rw[Ba.out];simp only[yM,zK] at h8 h9 ⊢
   omega) (Nat.le_trans A9.out Ap.out.size)).mono ?_
  rintro e w7 ⟨rfl,⟨v7,hu⟩,hm⟩
  replace hu:=hu.prS AN.out
  rw[Ba.out] at hu;clear AF;have BK:=yD (Ap.out.trans hm);have Av:=yD (hm.blk Aw.out AG.out (by decide));have AU:=yD (hm.blk A5.out AE.out (by decide))
  replace HR:=yD ((List.append_assoc _ _ _).trans HR.out)
  have Ax:=yD hu;clear hu hm Ap Aw A5 Ao;generalize b2++T5=b3 at *;have Bl:=yD (AR.out.ext AZ.out BK.out AN.out);have Ay:Hid (∀w',Ext w7 w'→Calls Tryz.prog 40 #[.pointer (some ⟨g,0,none⟩),.agg #[.int .u8 14,.int .i64 x.pos,.string (yX t),.int .i64 num,.slice x.kA x.kids.length x.kc],.int .i64 3] w' fun e AK=>e=.returned (jF y3)∧Ext w' AK):=yD fun w' hx=>Be.out w' _ _ (Bl.out.trans hx) (Ax.out.ext hx)
  replace HGP:=yD Av.out.lt
  replace HGN:=yD AU.out.lt
  have n0:w7.cell? ⟨gn,0,none⟩=some (.int .u8 14):=AU.out.cell 0;have n1:w7.cell? ⟨gn,1,none⟩=some (.int .i64 x.pos):=AU.out.cell 1;have n2:w7.cell? ⟨gn,2,none⟩=some (.string (yX t)):=AU.out.cell 2;have n3:w7.cell? ⟨gn,3,none⟩=some (.int .i64 num):=AU.out.cell 3;have n4:w7.cell? ⟨gn,4,none⟩=some (.slice x.kA x.kids.length x.kc):=AU.out.cell 4;have p0:w7.cell? ⟨gp,0,none⟩=some (.pointer (some ⟨g,0,none⟩)):=Av.out.cell 0
  go_upto_region 22 with fail
  apply xE 4 (by kernel_rfl) (by kernel_rfl) (by kernel_rfl);apply xA (.pointer (some ⟨g,0,none⟩)) rfl rfl rfl
  ·intro w' AA hH;clear hH;have yp:=(AA.cell (p:=⟨gp,0,none⟩) HGP.out).trans p0;simp[yY,go_sem,yp];exact Ext.refl _
  apply xA (.pointer (some ⟨g,0,none⟩)) rfl rfl rfl
  ·intro w' AA hH;clear hH;have yp:=(AA.cell (p:=⟨gp,0,none⟩) HGP.out).trans p0;simp[yY,go_sem,yp];exact Ext.refl _
  apply xA (.agg #[.int .u8 14,.int .i64 x.pos,.string (yX t),.int .i64 num,.slice x.kA x.kids.length x.kc]) rfl rfl rfl
  ·intro w' AA hH;clear hH;have y0:=(AA.cell (p:=⟨gn,0,none⟩) HGN.out).trans n0;have y1:=(AA.cell (p:=⟨gn,1,none⟩) HGN.out).trans n1;have y2:=(AA.cell (p:=⟨gn,2,none⟩) HGN.out).trans n2;have y3:=(AA.cell (p:=⟨gn,3,none⟩) HGN.out).trans n3;have y4:=(AA.cell (p:=⟨gn,4,none⟩) HGN.out).trans n4;simp[yY,go_sem,y0,y1,y2,y3,y4];exact Ext.refl _
  apply xA (jF y3) rfl rfl rfl
  ·intro w' AA hH;clear hH;simp[yY,go_sem,he];refine(Ay.out w' AA).mono ?_;rintro e w2 ⟨rfl,AB⟩;exact⟨_,rfl,rfl,AB⟩
  apply vA;intro w8 BC hH;clear hH p0 n0 n1 n2 n3 n4
  try simp only[Act.put,yA,yC,yB]
  have B0:=yD (Ax.out.ext BC);have BR:=yD (BK.out.trans (vU.ext BC));have Bz:=yD (Av.out.ext BC);have B5:=yD (AU.out.ext BC);clear BC Ax BK Av AU
  go_wp2_with fail
  have Bh:=yD (AR.out.ext AZ.out BR.out AN.out)
  refine(Bc.out w8 _ b3 d Bh.out B0.out (by have:=AX.out; omega) (by
   have h8:=congrArg List.length HR.out;have h9:=AC.out
   show _+((bks (d+1)).getD 3 []).length≤_
   rw[Bu.out];simp only[yM,zK] at h8 h9 ⊢
   omega)).mono ?_
  rintro e w9 ⟨rfl,⟨v9,hu⟩,hm⟩
  replace hu:PrS w9 B g A n c v9 (b3++(bks (d+1)).getD 3 []) d:=hu
  rw[Bu.out] at hu;clear Ay;have Br:=yD (BR.out.trans hm);have Bi:=yD (hm.blk Bz.out AG.out (by decide));have AY:=yD (hm.blk B5.out AE.out (by decide))
  replace HR:=yD ((List.append_assoc _ _ _).trans HR.out)
  have B1:=yD hu;clear hu hm BR Bz B5 B0;generalize b3++G3=b4 at *;have n0:w9.cell? ⟨gn,0,none⟩=some (.int .u8 14):=AY.out.cell 0;have n1:w9.cell? ⟨gn,1,none⟩=some (.int .i64 x.pos):=AY.out.cell 1;have n2:w9.cell? ⟨gn,2,none⟩=some (.string (yX t)):=AY.out.cell 2;have n3:w9.cell? ⟨gn,3,none⟩=some (.int .i64 num):=AY.out.cell 3;have n4:w9.cell? ⟨gn,4,none⟩=some (.slice x.kA x.kids.length x.kc):=AY.out.cell 4;have p0:w9.cell? ⟨gp,0,none⟩=some (.pointer (some ⟨g,0,none⟩)):=Bi.out.cell 0
  go_upto_region 23 with fail
  have AW:Hid (Ext w9 (w9.alloc (.cells #[.string ⟨#[125]⟩] 9))):=yD (Ext.alloc _ _);have AM:Hid (Blk (w9.alloc (.cells #[.string ⟨#[125]⟩] 9)) w9.heap.size 9 #[.string ⟨#[125]⟩]):=yD (Blk.new _ _ _)
  go_wp2_with fail
  clear p0 n0 n1 n2 n3 n4;generalize w9.heap.size=pb at AM ⊢;generalize w9.alloc (.cells #[.string ⟨#[125]⟩] 9)=B3 at *;have AF:Blk B3 pb 9 (VS [[125]]):=AM.out;have AH:=AW.out;clear AM AW;have An:=yD (B1.out.ext AH);have Ab:=yD (Br.out.trans (vU.ext AH));have A3:=yD (Bi.out.ext AH);have BN:=yD (AY.out.ext AH);clear AH B1 Br Bi AY
  refine(ZK B3 B g A n c _ b4 d [[125]] pb 1 An.out rfl (by have:=AX.out; omega) (by simp) AF (fun e=>by obtain⟨ad,hb⟩:=An.out.any; subst e; exact Blk.differ AF hb (by decide) rfl) (by
   have h8:=congrArg List.length HR.out;have h9:=AC.out;rw[A1.out];simp only[yM,zK] at h8 h9 ⊢
   omega) (Nat.le_trans A9.out Ab.out.size)).mono ?_
  rintro e CE ⟨rfl,⟨CF,hu⟩,hm⟩
  replace hu:=hu.prS AN.out
  rw[A1.out] at hu;clear AF;have Bo:=yD (Ab.out.trans hm);have B8:=yD (hm.blk A3.out AG.out (by decide));have CA:=yD (hm.blk BN.out AE.out (by decide))
  replace HR:=yD ((List.append_assoc _ _ _).trans HR.out)
  have Bj:=yD hu;clear hu hm Ab A3 BN An;generalize b4++T9=b5 at *
  replace HR:=yD ((List.append_nil _).symm.trans HR.out)
  have Bd:=Bo.out;have Aa:=Bj.out
  go_wp2_with fail
  go_end0;have h8:=HR.out;exact⟨rfl,⟨_,by rw[←h8]; exact Aa⟩,Bd⟩
 ·have h3:¬3<ls.length:=fun h=>h4 (Bv.out.1 h);rw[if_neg h3,List.nil_append] at AD;have e4:decide ((x.kids.length:Int) > 3)=false:=yO (by rw[Ar.out]; have:=Ah.out; have:=Aq.out; omega);have B7:decide ((3:Int)<(x.kids.length:Int))=false:=e4;clear h3 h4;have HR:Hid (bs++(T1++(G2++(T9++[])))=bs++AS):=yD (by rw[List.append_nil,AD.out])
  go_upto_region 18 with fail
  apply xE 9 (by kernel_rfl) (by kernel_rfl) (by kernel_rfl);apply xA (.pointer (some ⟨g,0,none⟩)) rfl rfl rfl
  ·intro w' AA hH;clear hH;have yp:=(AA.cell (p:=⟨gp,0,none⟩) HGP.out).trans p0;simp[yY,go_sem,yp];exact Ext.refl _
  apply sQ (.func (.func 138) #[] #[.pointer (some ⟨gp,0,none⟩),.pointer (some ⟨gn,0,none⟩)]);apply xA (.string (yX l0)) rfl rfl rfl
  ·intro w' AA hH;clear hH;simp[yY,go_sem,he];refine(BE.out w' AA).mono ?_;rintro e w2 ⟨rfl,AB⟩;exact⟨_,rfl,rfl,AB⟩
  apply xA (.agg #[.int .u8 14,.int .i64 x.pos,.string (yX t),.int .i64 num,.slice x.kA x.kids.length x.kc]) rfl rfl rfl
  ·intro w' AA hH;clear hH;have y0:=(AA.cell (p:=⟨gn,0,none⟩) HGN.out).trans n0;have y1:=(AA.cell (p:=⟨gn,1,none⟩) HGN.out).trans n1;have y2:=(AA.cell (p:=⟨gn,2,none⟩) HGN.out).trans n2;have y3:=(AA.cell (p:=⟨gn,3,none⟩) HGN.out).trans n3;have y4:=(AA.cell (p:=⟨gn,4,none⟩) HGN.out).trans n4;simp[yY,go_sem,y0,y1,y2,y3,y4];exact Ext.refl _
  apply vF (JJ 9 2 #[.string (yX [32,60,32]),.string (yX [32,61,61,32])]) (fun v a b h k=>JJ.ext v a b h k) rfl rfl rfl
  ·intro w' AA hH;clear hH;simp[yY,go_sem];exact⟨⟨_,rfl,Blk.new w' _ _⟩,Ext.alloc _ _⟩
  intro CD;apply xA (.string (yX lp)) rfl rfl rfl
  ·intro w' AA hH;obtain⟨lb,rfl,BS⟩:=hH _ (List.mem_cons_self ..) ⟨84,rfl,by decide⟩;clear hH;simp[yY,go_sem,he];refine(Bq.out w' lb AA BS).mono ?_;rintro e w2 ⟨rfl,AB⟩;exact⟨_,rfl,rfl,AB⟩
  apply sQ (.func (.func 138) #[] #[.pointer (some ⟨gp,0,none⟩),.pointer (some ⟨gn,0,none⟩)]);apply xA (.string (yX l1)) rfl rfl rfl
  ·intro w' AA hH;clear hH;simp[yY,go_sem,he];refine(A6.out w' AA).mono ?_;rintro e w2 ⟨rfl,AB⟩;exact⟨_,rfl,rfl,AB⟩
  apply vF (JJ 9 5 (VS [[105,102,32],l0,lp,l1,[32,123]])) (fun v a b h k=>JJ.ext v a b h k) rfl rfl rfl
  ·intro w' AA hH;clear hH;simp[yY,go_sem];exact⟨⟨_,rfl,Blk.new w' _ _⟩,Ext.alloc _ _⟩
  intro B9;apply vA;intro w2 AB hH;obtain⟨pb,rfl,AF⟩:=hH _ (List.mem_cons_self ..);clear hH p0 n0 n1 n2 n3 n4
  try simp only[Act.put,yA,yC,yB]
  have Ac:=yD (As.out.ext AB);have Ad:=yD (BQ.out.trans (vU.ext AB));have BG:=yD (AV.out.ext AB);have BF:=yD (AL.out.ext AB);clear AB As BQ AV AL
  go_wp2_with fail
  refine(ZK w2 B g A n c _ bs d [[105,102,32],l0,lp,l1,[32,123]] pb 5 Ac.out rfl (by have:=AX.out; omega) (by simp) AF (fun e=>by obtain⟨ad,hb⟩:=Ac.out.any; subst e; exact Blk.differ AF hb (by decide) rfl) (by
   have h8:=congrArg List.length HR.out;have h9:=AC.out;rw[BA.out];simp only[yM,zK] at h8 h9 ⊢
   omega) (Nat.le_trans A9.out Ad.out.size)).mono ?_
  rintro e w3 ⟨rfl,⟨v3,hu⟩,hm⟩
  replace hu:=hu.prS AN.out
  rw[BA.out] at hu;clear AF;have Al:=yD (Ad.out.trans hm);have AT:=yD (hm.blk BG.out AG.out (by decide));have AI:=yD (hm.blk BF.out AE.out (by decide))
  replace HR:=yD ((List.append_assoc _ _ _).trans HR.out)
  have Ag:=yD hu;clear hu hm Ad BG BF Ac;generalize bs++T1=b1 at *;have Ai:=yD (AR.out.ext AZ.out Al.out AN.out);have AQ:Hid (∀w',Ext w3 w'→Calls Tryz.prog 40 #[.pointer (some ⟨g,0,none⟩),.agg #[.int .u8 14,.int .i64 x.pos,.string (yX t),.int .i64 num,.slice x.kA x.kids.length x.kc],.int .i64 2] w' fun e AK=>e=.returned (jF y2)∧Ext w' AK):=yD fun w' hx=>Au.out w' _ _ (Ai.out.trans hx) (Ag.out.ext hx)
  replace HGP:=yD AT.out.lt
  replace HGN:=yD AI.out.lt
  have n0:w3.cell? ⟨gn,0,none⟩=some (.int .u8 14):=AI.out.cell 0;have n1:w3.cell? ⟨gn,1,none⟩=some (.int .i64 x.pos):=AI.out.cell 1;have n2:w3.cell? ⟨gn,2,none⟩=some (.string (yX t)):=AI.out.cell 2;have n3:w3.cell? ⟨gn,3,none⟩=some (.int .i64 num):=AI.out.cell 3;have n4:w3.cell? ⟨gn,4,none⟩=some (.slice x.kA x.kids.length x.kc):=AI.out.cell 4;have p0:w3.cell? ⟨gp,0,none⟩=some (.pointer (some ⟨g,0,none⟩)):=AT.out.cell 0
  go_upto_region 19 with fail
  apply xE 4 (by kernel_rfl) (by kernel_rfl) (by kernel_rfl);apply xA (.pointer (some ⟨g,0,none⟩)) rfl rfl rfl
  ·intro w' AA hH;clear hH;have yp:=(AA.cell (p:=⟨gp,0,none⟩) HGP.out).trans p0;simp[yY,go_sem,yp];exact Ext.refl _
  apply xA (.pointer (some ⟨g,0,none⟩)) rfl rfl rfl
  ·intro w' AA hH;clear hH;have yp:=(AA.cell (p:=⟨gp,0,none⟩) HGP.out).trans p0;simp[yY,go_sem,yp];exact Ext.refl _
  apply xA (.agg #[.int .u8 14,.int .i64 x.pos,.string (yX t),.int .i64 num,.slice x.kA x.kids.length x.kc]) rfl rfl rfl
  ·intro w' AA hH;clear hH;have y0:=(AA.cell (p:=⟨gn,0,none⟩) HGN.out).trans n0;have y1:=(AA.cell (p:=⟨gn,1,none⟩) HGN.out).trans n1;have y2:=(AA.cell (p:=⟨gn,2,none⟩) HGN.out).trans n2;have y3:=(AA.cell (p:=⟨gn,3,none⟩) HGN.out).trans n3;have y4:=(AA.cell (p:=⟨gn,4,none⟩) HGN.out).trans n4;simp[yY,go_sem,y0,y1,y2,y3,y4];exact Ext.refl _
  apply xA (jF y2) rfl rfl rfl
  ·intro w' AA hH;clear hH;simp[yY,go_sem,he];refine(AQ.out w' AA).mono ?_;rintro e w2 ⟨rfl,AB⟩;exact⟨_,rfl,rfl,AB⟩
  apply vA;intro w4 AP hH;clear hH p0 n0 n1 n2 n3 n4
  try simp only[Act.put,yA,yC,yB]
  have BB:=yD (Ag.out.ext AP);have Aj:=yD (Al.out.trans (vU.ext AP));have BL:=yD (AT.out.ext AP);have A4:=yD (AI.out.ext AP);clear AP Ag Al AT AI
  go_wp2_with fail
  have Ak:=yD (AR.out.ext AZ.out Aj.out AN.out)
  refine(BH.out w4 _ b1 d Ak.out BB.out (by have:=AX.out; omega) (by
   have h8:=congrArg List.length HR.out;have h9:=AC.out
   show _+((bks (d+1)).getD 2 []).length≤_
   rw[BO.out];simp only[yM,zK] at h8 h9 ⊢
   omega)).mono ?_
  rintro e w5 ⟨rfl,⟨v5,hu⟩,hm⟩
  replace hu:PrS w5 B g A n c v5 (b1++(bks (d+1)).getD 2 []) d:=hu
  rw[BO.out] at hu;clear AQ;have A2:=yD (Aj.out.trans hm);have Af:=yD (hm.blk BL.out AG.out (by decide));have AJ:=yD (hm.blk A4.out AE.out (by decide))
  replace HR:=yD ((List.append_assoc _ _ _).trans HR.out)
  have At:=yD hu;clear hu hm Aj BL A4 BB;generalize b1++G2=b2 at *;have n0:w5.cell? ⟨gn,0,none⟩=some (.int .u8 14):=AJ.out.cell 0;have n1:w5.cell? ⟨gn,1,none⟩=some (.int .i64 x.pos):=AJ.out.cell 1;have n2:w5.cell? ⟨gn,2,none⟩=some (.string (yX t)):=AJ.out.cell 2;have n3:w5.cell? ⟨gn,3,none⟩=some (.int .i64 num):=AJ.out.cell 3;have n4:w5.cell? ⟨gn,4,none⟩=some (.slice x.kA x.kids.length x.kc):=AJ.out.cell 4;have p0:w5.cell? ⟨gp,0,none⟩=some (.pointer (some ⟨g,0,none⟩)):=Af.out.cell 0
  go_upto_region 23 with fail
  have AW:Hid (Ext w5 (w5.alloc (.cells #[.string ⟨#[125]⟩] 9))):=yD (Ext.alloc _ _);have AM:Hid (Blk (w5.alloc (.cells #[.string ⟨#[125]⟩] 9)) w5.heap.size 9 #[.string ⟨#[125]⟩]):=yD (Blk.new _ _ _)
  go_wp2_with fail
  clear p0 n0 n1 n2 n3 n4;generalize w5.heap.size=pb at AM ⊢;generalize w5.alloc (.cells #[.string ⟨#[125]⟩] 9)=w6 at *;have AF:Blk w6 pb 9 (VS [[125]]):=AM.out;have AH:=AW.out;clear AM AW;have Ao:=yD (At.out.ext AH);have Ap:=yD (A2.out.trans (vU.ext AH));have Aw:=yD (Af.out.ext AH);have A5:=yD (AJ.out.ext AH);clear AH At A2 Af AJ
  refine(ZK w6 B g A n c _ b2 d [[125]] pb 1 Ao.out rfl (by have:=AX.out; omega) (by simp) AF (fun e=>by obtain⟨ad,hb⟩:=Ao.out.any; subst e; exact Blk.differ AF hb (by decide) rfl) (by
   have h8:=congrArg List.length HR.out;have h9:=AC.out;rw[A1.out];simp only[yM,zK] at h8 h9 ⊢
   omega) (Nat.le_trans A9.out Ap.out.size)).mono ?_
  rintro e w7 ⟨rfl,⟨v7,hu⟩,hm⟩
  replace hu:=hu.prS AN.out
  rw[A1.out] at hu;clear AF;have BK:=yD (Ap.out.trans hm);have Av:=yD (hm.blk Aw.out AG.out (by decide));have AU:=yD (hm.blk A5.out AE.out (by decide))
  replace HR:=yD ((List.append_assoc _ _ _).trans HR.out)
  have Ax:=yD hu;clear hu hm Ap Aw A5 Ao;generalize b2++T9=b3 at *
  replace HR:=yD ((List.append_nil _).symm.trans HR.out)
  have Bd:=BK.out;have Aa:=Ax.out
  go_wp2_with fail
  go_end0;have h8:=HR.out;exact⟨rfl,⟨_,by rw[←h8]; exact Aa⟩,Bd⟩
def Fo.st:Fo→Nat→List (Bs × Bs)
 | .nil,_=>[]
 | .cons k p t x c r,d=>(xW d k t x c.txt ((c.st (d+1)).map Prod.snd),((c.st d).map Prod.fst).flatten)::r.st d
theorem zR0:∀(f:Fo) (a d:Nat),(f.st d).length=(f.roots a).length
 | .nil,a,d=>rfl
 | .cons k p t x c r,a,d=>by
  show(r.st d).length+1=(r.roots _).length+1
  rw[zR0 r (a+1+c.size) d]
theorem zS2 (l:List (Bs × Bs))(j:Nat):(l.map Prod.fst).getD j []=(l.getD j ([],[])).1:=by
 rw[yE,yE,zM]
 cases l[j]? <;> rfl
theorem zFM (l:List (Bs × Bs))(j:Nat):(l.map Prod.snd).getD j []=(l.getD j ([],[])).2:=by
 rw[yE,yE,zM]
 cases l[j]? <;> rfl
theorem zAY.mono {w0:World}{B g n c:Nat}{A:Option Addr}{y:TT.xC}{m M:Nat}{out:Nat→Bs}(h:zAY w0 B g n c A y m out)(hm:m≤M):zAY w0 B g n c A y M out:=
 fun w v bs d hx hs hd hl=>h w v bs d hx hs (by omega) hl
theorem VE.mono {w0:World}{B g n c:Nat}{A:Option Addr}{y:TT.xC}{m M:Nat}{out:Nat→Bs}(h:VE w0 B g n c A y m out)(hm:m≤M):VE w0 B g n c A y M out:=
 fun w v bs d hx hs hd hl=>h w v bs d hx hs (by omega) hl
theorem zQ9 (w0:World)(B g n c:Nat)(A:Option Addr)(L:List TT.xC)(hB:zAp w0 B n A L)(x:TT.xC)(hx:Cells w0 x.kA (TT.xL x.kids))(k:Nat)(t:Bs)(num:Int)(ks kk:List Nat)(ls:List Bs)(hk:x.kind=(k:Int))(ht:x.text=yX t)(hnum:x.num=num)(hks:x.kids=xK ks)(hnk:xU k t num kk)(hl1:kk.length=ks.length)(hl2:ls.length=ks.length)(hkb:ks.length≤100000)(hsz:zAD ls≤1099511627776)
  (HT:∀(w:World) (v:Value) (bs:Bs) (d:Nat),Ext w0 w→PrS w B g A n c v bs d→∀j (hj:j<ks.length),zDr w g L ks[j] (kk.getD j 0) (ls.getD j []))
  (D:Nat) (bks:Nat→List Bs) (HBK:∀j (hj:j<ks.length),kk.getD j 0=6→∃y,L[ks[j]]?=some y∧VE w0 B g n c A y D fun d=>(bks d).getD j []) (h7:7≤k) (h19:k≤19) :
  zAY w0 B g n c A x (D+1) fun d=>xW d k t num ls (bks (d+1)):=by
 have hc:k=7∨k=8∨k=9∨k=10∨k=11∨k=12∨k=13∨k=14∨k=15∨k=16∨k=17∨k=18∨k=19:=by omega
 rcases hc with h | h | h | h | h | h | h | h | h | h | h | h | h
 ·exact zUf w0 B g n c A L hB x hx k t num ks kk ls hk ht hnum hks hnk hl1 hl2 hkb hsz HT D bks HBK h
 ·exact zT5 w0 B g n c A L hB x hx k t num ks kk ls hk ht hnum hks hnk hl1 hl2 hkb hsz HT D bks HBK h
 ·exact zUB w0 B g n c A L hB x hx k t num ks kk ls hk ht hnum hks hnk hl1 hl2 hkb hsz HT D bks HBK h
 ·exact zSt w0 B g n c A L hB x hx k t num ks kk ls hk ht hnum hks hnk hl1 hl2 hkb hsz HT D bks HBK h
 ·exact zR6 w0 B g n c A L hB x hx k t num ks kk ls hk ht hnum hks hnk hl1 hl2 hkb hsz HT D bks HBK h
 ·exact zR7 w0 B g n c A L hB x hx k t num ks kk ls hk ht hnum hks hnk hl1 hl2 hkb hsz HT D bks HBK h
 ·exact zS6 w0 B g n c A L hB x hx k t num ks kk ls hk ht hnum hks hnk hl1 hl2 hkb hsz HT D bks HBK h
 ·exact zSS w0 B g n c A L hB x hx k t num ks kk ls hk ht hnum hks hnk hl1 hl2 hkb hsz HT D bks HBK h
 ·exact zR2 w0 B g n c A L hB x hx k t num ks kk ls hk ht hnum hks hnk hl1 hl2 hkb hsz HT D bks HBK h
 ·exact zTA w0 B g n c A L hB x hx k t num ks kk ls hk ht hnum hks hnk hl1 hl2 hkb hsz HT D bks HBK h
 ·exact zTO w0 B g n c A L hB x hx k t num ks kk ls hk ht hnum hks hnk hl1 hl2 hkb hsz HT D bks HBK h
 ·exact zSc w0 B g n c A L hB x hx k t num ks kk ls hk ht hnum hks hnk hl1 hl2 hkb hsz HT D bks HBK h
 ·exact zTe w0 B g n c A L hB x hx k t num ks kk ls hk ht hnum hks hnk hl1 hl2 hkb hsz HT D bks HBK h
theorem zCw:∀(f:Fo) (a:Nat),(f.roots a).length≤f.size
 | .nil,a=>zU _
 | .cons k p t x c r,a=>by
  show(r.roots _).length+1≤1+c.size+r.size
  have:=zCw r (a+1+c.size)
  omega
theorem zI0 {t:Bs}{x:Int}{kk:List Nat}(h:xU 6 t x kk)(j:Nat)(hj:j<kk.length):7≤kk.getD j 0∧kk.getD j 0≤19:=by
 have hf:TT.zCY (kk.map fun (j:Nat)=>(j:Int)) 0 1=true:=h.2.2.2;unfold TT.zCY at hf;rw[List.drop_zero,zG] at hf
 have hb:TT.zA5 ((kk.getD j 0:Nat):Int)=true:=hf _ (by
  rw[yS];refine⟨kk[j],yL hj,?_⟩;rw[yE,yG hj]
  rfl)
 unfold TT.zA5 at hb;simp only[zF,zE] at hb;omega
theorem zPs (w0:World)(B g n c:Nat)(A:Option Addr)(L:List TT.xC)(hB:zAp w0 B n A L):∀(f:Fo) (a:Nat),VP L a f→f.ok 0→f.wt≤1099511627776→f.size≤100000→∀j (hj:j<(f.roots a).length),∃y,L[(f.roots a)[j]]?=some y ∧
   (7≤f.kinds.getD j 0→f.kinds.getD j 0≤19→zAY w0 B g n c A y f.size fun d=>((f.st d).getD j ([],[])).1) ∧
   (f.kinds.getD j 0=6→VE w0 B g n c A y f.size fun d=>((f.st d).getD j ([],[])).2)
 | .nil,a,_,_,_,_=>fun j hj=>by cases hj
 | .cons k p t x c' r,a,hL,hok,hwt,hsz=>fun j hj=>by
  have hw:t.length+30+c'.wt+r.wt≤1099511627776:=hwt;have hs:1+c'.size+r.size≤100000:=hsz;obtain⟨⟨m,hm,hk,hx,ht,AB⟩,hc,hr⟩:=hL
  cases j with
  | zero=>
   have AA:m ∈ L:=zY hm;have AC:=(hB.tree.ok m AA).kids;have AD:=zPs w0 B g n c A L hB c' (a+1) hc hok.2.1 (by omega) (by omega);have AF:=zCw c' (a+1);refine⟨m,hm,fun h7 AE=>?_,fun h6=>?_⟩
   ·have hT:=zGH c' hok.2.1
    have:=zQ9 w0 B g n c A L hB m AC k t x (c'.roots (a+1)) c'.kinds c'.txt hk (zDw ht) hx AB hok.1.1 (zBi c' _) (zEZ c' _) (by omega) (by omega)
     (fun w v bs d hx hs=>zDu w g n c A L (hB.prT hx hs) c' (a+1) hc hok.2.1 (by omega)) c'.size (fun d=>(c'.st d).map Prod.snd) (fun i hi h6=>by
      obtain⟨y,h1,_,h3⟩:=AD i hi;refine⟨y,h1,?_⟩
      have:=h3 h6
      simp only[zFM]
      exact this) h7 AE
    exact this.mono (by show c'.size+1≤1+c'.size+r.size; omega)
   ·have h6:k=6:=h6;subst h6
    have:=zOt w0 B g n c A L hB m AC (c'.roots (a+1)) AB (by omega) c'.size (fun d=>(c'.st d).map Prod.fst) (fun d=>by rw[yN,zR0 c' (a+1) d]) (fun i hi=>by
     obtain⟨y,h1,h2,_⟩:=AD i hi;have hb:=zI0 hok.1.1 i (by rw[zBi c' (a+1)]; exact hi);refine⟨y,h1,?_⟩
     have:=h2 hb.1 hb.2
     simp only[zS2]
     exact this)
    exact this.mono (by show c'.size+1≤1+c'.size+r.size; omega)
  | succ j=>
   obtain⟨y,h1,h2,h3⟩:=zPs w0 B g n c A L hB r (a+1+c'.size) hr hok.2.2 (by omega) (by omega) j (Nat.lt_of_succ_lt_succ hj);exact⟨y,h1,fun a b=>(h2 a b).mono (by show r.size≤1+c'.size+r.size; omega),fun a=>(h3 a).mono (by show r.size≤1+c'.size+r.size; omega)⟩
def Fo.inn:Fo→List Bs
 | .nil=>[]
 | .cons k p t x c r=>jD c.txt::r.inn
def zJN (k:Nat)(t:Bs)(x:Int)(ls inn bk:List Bs):Bs:=
 if k=2 then xR 0 [[116,97,98,108,101,32],t,[40],jD ls,[41,59]]
 else xR 0 [[112,114,111,99,32],t,[40],inn.getD 0 [],[41],JB x [32,123] [32,115,105,110,103,108,101,32,123]]++(bk.getD 1 []++xR 0 [[125]])
def Fo.top:Fo→List Bs
 | .nil=>[]
 | .cons k p t x c r=>zJN k t x c.txt c.inn ((c.st 1).map Prod.snd)::r.top
theorem zIJ:∀(f:Fo) (a:Nat),f.top.length=(f.roots a).length
 | .nil,a=>rfl
 | .cons k p t x c r,a=>by
  show r.top.length+1=(r.roots _).length+1
  rw[zIJ r (a+1+c.size)]
def Fo.print (c:Fo):Bs:=c.top.flatten
theorem zQg {L:List TT.xC}:∀(f:Fo) (a:Nat),VP L a f→f.ok 0→∀j (hj:j<(f.roots a).length),∃(k:Nat) (t:Bs) (x:Int) (c':Fo) (m:TT.xC),L[(f.roots a)[j]]?=some m∧m.kind=(k:Int)∧m.num=x∧m.text=yX t∧m.kids=xK (c'.roots ((f.roots a)[j]+1))∧VP L ((f.roots a)[j]+1) c'∧c'.ok 0∧xU k t x c'.kinds∧c'.wt≤f.wt∧c'.size≤f.size∧f.kinds.getD j 0=k∧f.top.getD j []=zJN k t x c'.txt c'.inn ((c'.st 1).map Prod.snd)∧f.inn.getD j []=jD c'.txt
 | .nil,a,_,_=>fun j hj=>by cases hj
 | .cons k p t x c r,a,hL,hok=>fun j hj=>by
  obtain⟨⟨m,hm,hk,hx,ht,AC⟩,hc,hr⟩:=hL
  cases j with
  | zero=>exact⟨k,t,x,c,m,hm,hk,hx,zDw ht,AC,hc,hok.2.1,hok.1.1,by show c.wt≤t.length+30+c.wt+r.wt; omega,by show c.size≤1+c.size+r.size; omega,rfl,rfl,rfl⟩
  | succ j=>
   obtain⟨k',t',x',c',m',h1,h2,h3,h4,h5,h6,h7,h8,h9,AE,AD,AA,AB⟩:=zQg r (a+1+c.size) hr hok.2.2 j (Nat.lt_of_succ_lt_succ hj);exact⟨k',t',x',c',m',h1,h2,h3,h4,h5,h6,h7,h8,by show c'.wt≤t.length+30+c.wt+r.wt; omega,by show c'.size≤1+c.size+r.size; omega,AD,AA,AB⟩
theorem zP1 (d:Nat)(ps:List Bs)(b:Bs):xR d ps++b≠[]:=fun h=>by
 have:=congrArg List.length h
 rw[yM,zKE] at this
 simp at this
theorem zVE (k:Nat)(t:Bs)(x:Int)(ls inn bk:List Bs):zJN k t x ls inn bk≠[]:=by
 unfold zJN
 split
 ·have:=zP1 0 [[116,97,98,108,101,32],t,[40],jD ls,[41,59]] []
  rwa [List.append_nil] at this
 ·exact zP1 _ _ _
end Go.Proofs.YtioffpjajhalaaaGreatDoor
