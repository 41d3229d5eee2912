/- printer.stmt, walked at one node, kind by kind. Condition: what the kids print is known. -/
import Derived.Test.YtioffpjajhalaaaGreatDoorLaa
import Derived.Test.YtioffpjajhalaaaGreatDoorLaz
set_option linter.unusedVariables false
set_option linter.unusedSimpArgs false
set_option maxRecDepth 100000
set_option maxHeartbeats 16000000
namespace Go.Proofs.YtioffpjajhalaaaGreatDoor
open Go Go.RowKit
theorem zQY (w0:World)(B g n c:Nat)(A:Option Addr)(L:List TT.xB)(hB:VD w0 B n A L)(x:TT.xB)(hx:Cells w0 x.kA (TT.xD x.kids))(k:Nat)(t:Bs)(num:Int)(ks kk:List Nat)(ls:List Bs)(hk:x.kind=(k:Int))(ht:x.text=yX t)(hnum:x.num=num)(hks:x.kids=xG ks)(hnk:ZY k t num kk)(hl1:kk.length=ks.length)(hl2:ls.length=ks.length)(hkb:ks.length≤100000)(hsz:vR ls≤1099511627776)
  (HT:∀(w:World) (v:Value) (bs:Bs) (d:Nat),Ext w0 w→PrS w B g A n c v bs d→∀j (hj:j<ks.length),zCf w g L ks[j] (kk.getD j 0) (ls.getD j []))
  (D:Nat) (bks:Nat→List Bs) (HBK:∀j (hj:j<ks.length),kk.getD j 0=6→∃y,L[ks[j]]?=some y∧XX w0 B g n c A y D fun d=>(bks d).getD j []) (h16:k=16) :
  zAk w0 B g n c A x (D+1) fun d=>xP d k t num ls (bks (d+1)):=by
 intro w v bs d AM hS hd AB;subst h16;obtain⟨Af,Ag⟩:∃b,Hid (bks (d+1)=b):=⟨_,yD rfl⟩;obtain⟨AE,AA⟩:∃b,Hid (xP d 16 t num ls Af=b):=⟨_,yD rfl⟩
 show Calls Tryz.prog 89 #[.pointer (some ⟨g,0,none⟩),vZ x] w fun e w'=>e=.returned (.tuple #[])∧zBC w B g A n c (bs++xP d 16 t num ls (bks (d+1))) d w'
 replace AB:bs.length+(xP d 16 t num ls (bks (d+1))).length≤140737488355328:=AB
 rw[Ag.out,AA.out] at AB ⊢;have AK:Hid ((bs++AE).length≤140737488355328):=yD (by rw[yM]; exact AB);have Ay:=yD hB;have Ah:=yD hx;have An:=yD hks;have A3:=yD hnk;have At:=yD hl1;have A0:=yD hl2;have Az:=yD hkb;have Ai:=yD HT;have Ax:=yD HBK;have Al:=yD AM;have Au:=yD hS.lo;have Ae:=yD hd;have A1:=yD hsz;have Ap:=yD (ZK hnk);have Ab:Hid (B≤w.heap.size):=yD (by rw[←hB.size]; exact AM.size);have Ad:Hid (x.kids.length=ks.length):=yD (by rw[hks]; simp[xG]);obtain⟨A2,AH⟩:=hS.any;have AX:=yD AH.lt;clear hB hx hks hnk hl1 hl2 hkb HT HBK AM AB hd hsz AH;have AU:Hid (Ext w ((w.alloc (.cells #[.pointer (some ⟨g,0,none⟩)] 77)).alloc (.cells #[.int .u8 16,.int .i64 x.pos,.string (yX t),.int .i64 num,.slice x.kA x.kids.length x.kc] 48))):=yD ((Ext.alloc _ _).trans (Ext.alloc _ _));have AG:Hid (Blk ((w.alloc (.cells #[.pointer (some ⟨g,0,none⟩)] 77)).alloc (.cells #[.int .u8 16,.int .i64 x.pos,.string (yX t),.int .i64 num,.slice x.kA x.kids.length x.kc] 48)) w.heap.size 77 #[.pointer (some ⟨g,0,none⟩)]):=yD ((Blk.new _ _ _).alloc _)
 have AC:Hid (Blk ((w.alloc (.cells #[.pointer (some ⟨g,0,none⟩)] 77)).alloc (.cells #[.int .u8 16,.int .i64 x.pos,.string (yX t),.int .i64 num,.slice x.kA x.kids.length x.kc] 48)) (w.heap.size+1) 48 #[.int .u8 16,.int .i64 x.pos,.string (yX t),.int .i64 num,.slice x.kA x.kids.length x.kc]):=yD (Blk.VV (by simp));have AL:=yD (hS.ext AU.out);have Aa:Hid (vS w ((w.alloc (.cells #[.pointer (some ⟨g,0,none⟩)] 77)).alloc (.cells #[.int .u8 16,.int .i64 x.pos,.string (yX t),.int .i64 num,.slice x.kA x.kids.length x.kc] 48)) B g):=yD (vS.ext AU.out);have HE:Hid (∀args w,(callFunc 138 args).run Tryz.prog w=.ok (.enter 138 args) w):=yD (enters_of Tryz.func138 (by kernel_rfl) rfl);clear hS;unfold vZ;rw[hk,ht,hnum]
 go_enter Tryz.func89,Tryz.ntmps89
 go_upto_region 1 with fail
 try simp only[size_alloc]
 have AJ:Hid (w.heap.size≠g):=yD (by have:=AX.out; omega);have AI:Hid (w.heap.size+1≠g):=yD (by have:=AX.out; omega);generalize w.heap.size+1=gn at AC AI ⊢;generalize w.heap.size=gp at AG AJ ⊢;generalize ((w.alloc (.cells #[.pointer (some ⟨g,0,none⟩)] 77)).alloc (.cells #[.int .u8 16,.int .i64 x.pos,.string (yX t),.int .i64 num,.slice x.kA x.kids.length x.kc] 48))=w1 at *;have AW:=yD (Al.out.trans AU.out);have AV:=yD (Ah.out.ext AW.out);have Ao:Hid (Blk w1 gn 48 #[.int .u8 x.kind,.int .i64 x.pos,.string x.text,.int .i64 x.num,.slice x.kA x.kids.length x.kc]):=yD (by rw[hk,ht,hnum]; exact AC.out);have Aq:=yD AG.out.lt;have Aj:=yD AC.out.lt;have Ar:=yD (Ay.out.prT AW.out AL.out);have Am:=yD (Ai.out w1 v bs d AW.out AL.out);have he:=HE.out;have AT:Hid (0<ks.length):=yD (by have:=Ap.out; have:=At.out; omega)
 have AR:Hid (∀w',Ext w1 w'→Calls Tryz.prog 138 #[.int .i64 0,.pointer (some ⟨gp,0,none⟩),.pointer (some ⟨gn,0,none⟩)] w' fun e Ac=>e=.returned (.string (yX (ls.getD 0 [])))∧Ext w' Ac):=yD fun w' hx=>by
  obtain⟨y,h1,h2,h3⟩:=Am.out 0 AT.out;exact ZC w' g n c gp gn A L (Ar.out.ext hx) x (AG.out.ext hx) (Ao.out.ext hx) (AV.out.ext hx) 0 (ks[0]'AT.out) (kk.getD 0 0) (by rw[Ad.out]; exact AT.out) (by simp only[An.out,xG,zA]) (ls.getD 0 []) ⟨y,h1,h2,fun w2 AD=>h3 w2 (hx.trans AD)⟩
 replace AA:Hid (xV d [[108,101,116,32],t,[32,61,32],(ls.getD 0 []),[59]]=AE):=AA
 generalize ls.getD 0 []=l0 at *;obtain⟨T1,AO⟩:∃b,Hid (xV d [[108,101,116,32],t,[32,61,32],l0,[59]]=b):=⟨_,yD rfl⟩;rw[AO.out] at AA;have n0:w1.cell? ⟨gn,0,none⟩=some (.int .u8 16):=AC.out.cell 0;have n1:w1.cell? ⟨gn,1,none⟩=some (.int .i64 x.pos):=AC.out.cell 1;have n2:w1.cell? ⟨gn,2,none⟩=some (.string (yX t)):=AC.out.cell 2;have n3:w1.cell? ⟨gn,3,none⟩=some (.int .i64 num):=AC.out.cell 3;have n4:w1.cell? ⟨gn,4,none⟩=some (.slice x.kA x.kids.length x.kc):=AC.out.cell 4;have p0:w1.cell? ⟨gp,0,none⟩=some (.pointer (some ⟨g,0,none⟩)):=AG.out.cell 0;have HR:Hid (bs++(T1++[])=bs++AE):=yD (by rw[List.append_nil,AA.out])
 go_upto_region 29 with fail
 apply xI 6 (by kernel_rfl) (by kernel_rfl) (by kernel_rfl);apply yZ (.pointer (some ⟨g,0,none⟩)) rfl rfl rfl
 ·intro w' AF hH;clear hH;have yp:=(AF.cell (p:=⟨gp,0,none⟩) Aq.out).trans p0;simp[yY,go_sem,yp];exact Ext.refl _
 apply sQ (.pointer (some ⟨gn,2,none⟩));apply yZ (.string (yX t)) rfl rfl rfl
 ·intro w' AF hH;clear hH;have y2:=(AF.cell (p:=⟨gn,2,none⟩) Aj.out).trans n2;simp[yY,go_sem,y2];exact Ext.refl _
 apply sQ (.func (.func 138) #[] #[.pointer (some ⟨gp,0,none⟩),.pointer (some ⟨gn,0,none⟩)]);apply yZ (.string (yX l0)) rfl rfl rfl
 ·intro w' AF hH;clear hH;simp[yY,go_sem,he];refine(AR.out w' AF).mono ?_;rintro e w2 ⟨rfl,AD⟩;exact⟨_,rfl,rfl,AD⟩
 apply vA (XJ 9 5 (JM [[108,101,116,32],t,[32,61,32],l0,[59]])) (fun v a b h k=>XJ.ext v a b h k) rfl rfl rfl
 ·intro w' AF hH;clear hH;simp[yY,go_sem];exact⟨⟨_,rfl,Blk.new w' _ _⟩,Ext.alloc _ _⟩
 intro Av;apply xN;intro w2 AD hH;obtain⟨pb,rfl,AS⟩:=hH _ (List.mem_cons_self ..);clear hH p0 n0 n1 n2 n3 n4
 try simp only[Act.put,yA,yC,yB]
 have AP:=yD (AL.out.ext AD);have AQ:=yD (Aa.out.trans (vS.ext AD));have AZ:=yD (AG.out.ext AD);have AY:=yD (AC.out.ext AD);clear AD AL Aa AG AC
 go_wp2_with fail
 refine(jV w2 B g A n c _ bs d [[108,101,116,32],t,[32,61,32],l0,[59]] pb 5 AP.out rfl (by have:=Ae.out; omega) (by simp) AS (fun e=>by obtain⟨ad,hb⟩:=AP.out.any; subst e; exact Blk.differ AS hb (by decide) rfl) (by
  have h8:=congrArg List.length HR.out;have h9:=AK.out;rw[AO.out];simp only[yM,zK] at h8 h9 ⊢
  omega) (Nat.le_trans Ab.out AQ.out.size)).mono ?_
 rintro e w3 ⟨rfl,⟨v3,hu⟩,hm⟩
 replace hu:=hu.prS Au.out
 rw[AO.out] at hu;clear AS;have As:=yD (AQ.out.trans hm);have A4:=yD (hm.blk AZ.out AJ.out (by decide));have A5:=yD (hm.blk AY.out AI.out (by decide))
 replace HR:=yD ((List.append_assoc _ _ _).trans HR.out)
 have Aw:=yD hu;clear hu hm AQ AZ AY AP;generalize bs++T1=b1 at *
 replace HR:=yD ((List.append_nil _).symm.trans HR.out)
 have Ak:=As.out;have AN:=Aw.out
 go_wp2_with fail
 go_end0;have h8:=HR.out;exact⟨rfl,⟨_,by rw[←h8]; exact AN⟩,Ak⟩
theorem zQ6 (w0:World)(B g n c:Nat)(A:Option Addr)(L:List TT.xB)(hB:VD w0 B n A L)(x:TT.xB)(hx:Cells w0 x.kA (TT.xD x.kids))(k:Nat)(t:Bs)(num:Int)(ks kk:List Nat)(ls:List Bs)(hk:x.kind=(k:Int))(ht:x.text=yX t)(hnum:x.num=num)(hks:x.kids=xG ks)(hnk:ZY k t num kk)(hl1:kk.length=ks.length)(hl2:ls.length=ks.length)(hkb:ks.length≤100000)(hsz:vR ls≤1099511627776)
  (HT:∀(w:World) (v:Value) (bs:Bs) (d:Nat),Ext w0 w→PrS w B g A n c v bs d→∀j (hj:j<ks.length),zCf w g L ks[j] (kk.getD j 0) (ls.getD j []))
  (D:Nat) (bks:Nat→List Bs) (HBK:∀j (hj:j<ks.length),kk.getD j 0=6→∃y,L[ks[j]]?=some y∧XX w0 B g n c A y D fun d=>(bks d).getD j []) (h17:k=17) :
  zAk w0 B g n c A x (D+1) fun d=>xP d k t num ls (bks (d+1)):=by
 intro w v bs d AM hS hd AB;subst h17;obtain⟨Af,Ag⟩:∃b,Hid (bks (d+1)=b):=⟨_,yD rfl⟩;obtain⟨AE,AA⟩:∃b,Hid (xP d 17 t num ls Af=b):=⟨_,yD rfl⟩
 show Calls Tryz.prog 89 #[.pointer (some ⟨g,0,none⟩),vZ x] w fun e w'=>e=.returned (.tuple #[])∧zBC w B g A n c (bs++xP d 17 t num ls (bks (d+1))) d w'
 replace AB:bs.length+(xP d 17 t num ls (bks (d+1))).length≤140737488355328:=AB
 rw[Ag.out,AA.out] at AB ⊢;have AJ:Hid ((bs++AE).length≤140737488355328):=yD (by rw[yM]; exact AB);have Ax:=yD hB;have Ah:=yD hx;have An:=yD hks;have A3:=yD hnk;have At:=yD hl1;have Az:=yD hl2;have Ay:=yD hkb;have Aj:=yD HT;have Aw:=yD HBK;have Al:=yD AM;have Au:=yD hS.lo;have Ae:=yD hd;have A0:=yD hsz;have Ap:=yD (ZK hnk);have Ab:Hid (B≤w.heap.size):=yD (by rw[←hB.size]; exact AM.size);have Ad:Hid (x.kids.length=ks.length):=yD (by rw[hks]; simp[xG]);obtain⟨A1,AG⟩:=hS.any;have AX:=yD AG.lt;clear hB hx hks hnk hl1 hl2 hkb HT HBK AM AB hd hsz AG;have AU:Hid (Ext w ((w.alloc (.cells #[.pointer (some ⟨g,0,none⟩)] 77)).alloc (.cells #[.int .u8 17,.int .i64 x.pos,.string (yX t),.int .i64 num,.slice x.kA x.kids.length x.kc] 48))):=yD ((Ext.alloc _ _).trans (Ext.alloc _ _));have AF:Hid (Blk ((w.alloc (.cells #[.pointer (some ⟨g,0,none⟩)] 77)).alloc (.cells #[.int .u8 17,.int .i64 x.pos,.string (yX t),.int .i64 num,.slice x.kA x.kids.length x.kc] 48)) w.heap.size 77 #[.pointer (some ⟨g,0,none⟩)]):=yD ((Blk.new _ _ _).alloc _)
 have AC:Hid (Blk ((w.alloc (.cells #[.pointer (some ⟨g,0,none⟩)] 77)).alloc (.cells #[.int .u8 17,.int .i64 x.pos,.string (yX t),.int .i64 num,.slice x.kA x.kids.length x.kc] 48)) (w.heap.size+1) 48 #[.int .u8 17,.int .i64 x.pos,.string (yX t),.int .i64 num,.slice x.kA x.kids.length x.kc]):=yD (Blk.VV (by simp));have AL:=yD (hS.ext AU.out);have Aa:Hid (vS w ((w.alloc (.cells #[.pointer (some ⟨g,0,none⟩)] 77)).alloc (.cells #[.int .u8 17,.int .i64 x.pos,.string (yX t),.int .i64 num,.slice x.kA x.kids.length x.kc] 48)) B g):=yD (vS.ext AU.out);have HE:Hid (∀args w,(callFunc 138 args).run Tryz.prog w=.ok (.enter 138 args) w):=yD (enters_of Tryz.func138 (by kernel_rfl) rfl);clear hS;unfold vZ;rw[hk,ht,hnum]
 go_enter Tryz.func89,Tryz.ntmps89
 go_upto_region 1 with fail
 try simp only[size_alloc]
 have AI:Hid (w.heap.size≠g):=yD (by have:=AX.out; omega);have AH:Hid (w.heap.size+1≠g):=yD (by have:=AX.out; omega);generalize w.heap.size+1=gn at AC AH ⊢;generalize w.heap.size=gp at AF AI ⊢;generalize ((w.alloc (.cells #[.pointer (some ⟨g,0,none⟩)] 77)).alloc (.cells #[.int .u8 17,.int .i64 x.pos,.string (yX t),.int .i64 num,.slice x.kA x.kids.length x.kc] 48))=w1 at *;have AW:=yD (Al.out.trans AU.out);have AV:=yD (Ah.out.ext AW.out);have Ao:Hid (Blk w1 gn 48 #[.int .u8 x.kind,.int .i64 x.pos,.string x.text,.int .i64 x.num,.slice x.kA x.kids.length x.kc]):=yD (by rw[hk,ht,hnum]; exact AC.out);have Aq:=yD AF.out.lt;have A2:=yD AC.out.lt;have Ar:=yD (Ax.out.prT AW.out AL.out);have Am:=yD (Aj.out w1 v bs d AW.out AL.out);have he:=HE.out;have AT:Hid (0<ks.length):=yD (by have:=Ap.out; have:=At.out; omega)
 have AR:Hid (∀w',Ext w1 w'→Calls Tryz.prog 138 #[.int .i64 0,.pointer (some ⟨gp,0,none⟩),.pointer (some ⟨gn,0,none⟩)] w' fun e Ac=>e=.returned (.string (yX (ls.getD 0 [])))∧Ext w' Ac):=yD fun w' hx=>by
  obtain⟨y,h1,h2,h3⟩:=Am.out 0 AT.out;exact ZC w' g n c gp gn A L (Ar.out.ext hx) x (AF.out.ext hx) (Ao.out.ext hx) (AV.out.ext hx) 0 (ks[0]'AT.out) (kk.getD 0 0) (by rw[Ad.out]; exact AT.out) (by simp only[An.out,xG,zA]) (ls.getD 0 []) ⟨y,h1,h2,fun w2 AD=>h3 w2 (hx.trans AD)⟩
 replace AA:Hid (xV d [[101,109,105,116,32],(ls.getD 0 []),[59]]=AE):=AA
 generalize ls.getD 0 []=l0 at *;obtain⟨T1,AO⟩:∃b,Hid (xV d [[101,109,105,116,32],l0,[59]]=b):=⟨_,yD rfl⟩;rw[AO.out] at AA;have n0:w1.cell? ⟨gn,0,none⟩=some (.int .u8 17):=AC.out.cell 0;have n1:w1.cell? ⟨gn,1,none⟩=some (.int .i64 x.pos):=AC.out.cell 1;have n2:w1.cell? ⟨gn,2,none⟩=some (.string (yX t)):=AC.out.cell 2;have n3:w1.cell? ⟨gn,3,none⟩=some (.int .i64 num):=AC.out.cell 3;have n4:w1.cell? ⟨gn,4,none⟩=some (.slice x.kA x.kids.length x.kc):=AC.out.cell 4;have p0:w1.cell? ⟨gp,0,none⟩=some (.pointer (some ⟨g,0,none⟩)):=AF.out.cell 0;have HR:Hid (bs++(T1++[])=bs++AE):=yD (by rw[List.append_nil,AA.out])
 go_upto_region 31 with fail
 apply xI 4 (by kernel_rfl) (by kernel_rfl) (by kernel_rfl);apply yZ (.pointer (some ⟨g,0,none⟩)) rfl rfl rfl
 ·intro w' AK hH;clear hH;have yp:=(AK.cell (p:=⟨gp,0,none⟩) Aq.out).trans p0;simp[yY,go_sem,yp];exact Ext.refl _
 apply sQ (.func (.func 138) #[] #[.pointer (some ⟨gp,0,none⟩),.pointer (some ⟨gn,0,none⟩)]);apply yZ (.string (yX l0)) rfl rfl rfl
 ·intro w' AK hH;clear hH;simp[yY,go_sem,he];refine(AR.out w' AK).mono ?_;rintro e w2 ⟨rfl,AD⟩;exact⟨_,rfl,rfl,AD⟩
 apply vA (XJ 9 3 (JM [[101,109,105,116,32],l0,[59]])) (fun v a b h k=>XJ.ext v a b h k) rfl rfl rfl
 ·intro w' AK hH;clear hH;simp[yY,go_sem];exact⟨⟨_,rfl,Blk.new w' _ _⟩,Ext.alloc _ _⟩
 intro Ai;apply xN;intro w2 AD hH;obtain⟨pb,rfl,AS⟩:=hH _ (List.mem_cons_self ..);clear hH p0 n0 n1 n2 n3 n4
 try simp only[Act.put,yA,yC,yB]
 have AP:=yD (AL.out.ext AD);have AQ:=yD (Aa.out.trans (vS.ext AD));have AZ:=yD (AF.out.ext AD);have AY:=yD (AC.out.ext AD);clear AD AL Aa AF AC
 go_wp2_with fail
 refine(jV w2 B g A n c _ bs d [[101,109,105,116,32],l0,[59]] pb 3 AP.out rfl (by have:=Ae.out; omega) (by simp) AS (fun e=>by obtain⟨ad,hb⟩:=AP.out.any; subst e; exact Blk.differ AS hb (by decide) rfl) (by
  have h8:=congrArg List.length HR.out;have h9:=AJ.out;rw[AO.out];simp only[yM,zK] at h8 h9 ⊢
  omega) (Nat.le_trans Ab.out AQ.out.size)).mono ?_
 rintro e w3 ⟨rfl,⟨v3,hu⟩,hm⟩
 replace hu:=hu.prS Au.out
 rw[AO.out] at hu;clear AS;have As:=yD (AQ.out.trans hm);have A4:=yD (hm.blk AZ.out AI.out (by decide));have A5:=yD (hm.blk AY.out AH.out (by decide))
 replace HR:=yD ((List.append_assoc _ _ _).trans HR.out)
 have Av:=yD hu;clear hu hm AQ AZ AY AP;generalize bs++T1=b1 at *
 replace HR:=yD ((List.append_nil _).symm.trans HR.out)
 have Ak:=As.out;have AN:=Av.out
 go_wp2_with fail
 go_end0;have h8:=HR.out;exact⟨rfl,⟨_,by rw[←h8]; exact AN⟩,Ak⟩
theorem zPL (w0:World)(B g n c:Nat)(A:Option Addr)(L:List TT.xB)(hB:VD w0 B n A L)(x:TT.xB)(hx:Cells w0 x.kA (TT.xD x.kids))(k:Nat)(t:Bs)(num:Int)(ks kk:List Nat)(ls:List Bs)(hk:x.kind=(k:Int))(ht:x.text=yX t)(hnum:x.num=num)(hks:x.kids=xG ks)(hnk:ZY k t num kk)(hl1:kk.length=ks.length)(hl2:ls.length=ks.length)(hkb:ks.length≤100000)(hsz:vR ls≤1099511627776)
  (HT:∀(w:World) (v:Value) (bs:Bs) (d:Nat),Ext w0 w→PrS w B g A n c v bs d→∀j (hj:j<ks.length),zCf w g L ks[j] (kk.getD j 0) (ls.getD j []))
  (D:Nat) (bks:Nat→List Bs) (HBK:∀j (hj:j<ks.length),kk.getD j 0=6→∃y,L[ks[j]]?=some y∧XX w0 B g n c A y D fun d=>(bks d).getD j []) (h18:k=18) :
  zAk w0 B g n c A x (D+1) fun d=>xP d k t num ls (bks (d+1)):=by
 intro w v bs d AM hS hd AB;subst h18;obtain⟨Ab,Ac⟩:∃b,Hid (bks (d+1)=b):=⟨_,yD rfl⟩;obtain⟨AD,AA⟩:∃b,Hid (xP d 18 t num ls Ab=b):=⟨_,yD rfl⟩
 show Calls Tryz.prog 89 #[.pointer (some ⟨g,0,none⟩),vZ x] w fun e w'=>e=.returned (.tuple #[])∧zBC w B g A n c (bs++xP d 18 t num ls (bks (d+1))) d w'
 replace AB:bs.length+(xP d 18 t num ls (bks (d+1))).length≤140737488355328:=AB
 rw[Ac.out,AA.out] at AB ⊢;have AJ:Hid ((bs++AD).length≤140737488355328):=yD (by rw[yM]; exact AB);have Am:=yD hB;have Ad:=yD hx;have Au:=yD hks;have Az:=yD hnk;have A0:=yD hl1;have Ap:=yD hl2;have Ao:=yD hkb;have Ae:=yD HT;have Al:=yD HBK;have Ag:=yD AM;have Ai:=yD hS.lo;have Aa:=yD hd;have Aq:=yD hsz;have Aw:=yD (ZK hnk);have AZ:Hid (B≤w.heap.size):=yD (by rw[←hB.size]; exact AM.size);have An:Hid (x.kids.length=ks.length):=yD (by rw[hks]; simp[xG]);obtain⟨Ar,AE⟩:=hS.any;have AU:=yD AE.lt;clear hB hx hks hnk hl1 hl2 hkb HT HBK AM AB hd hsz AE;have AS:Hid (Ext w ((w.alloc (.cells #[.pointer (some ⟨g,0,none⟩)] 77)).alloc (.cells #[.int .u8 18,.int .i64 x.pos,.string (yX t),.int .i64 num,.slice x.kA x.kids.length x.kc] 48))):=yD ((Ext.alloc _ _).trans (Ext.alloc _ _));have AI:Hid (Blk ((w.alloc (.cells #[.pointer (some ⟨g,0,none⟩)] 77)).alloc (.cells #[.int .u8 18,.int .i64 x.pos,.string (yX t),.int .i64 num,.slice x.kA x.kids.length x.kc] 48)) w.heap.size 77 #[.pointer (some ⟨g,0,none⟩)]):=yD ((Blk.new _ _ _).alloc _)
 have AC:Hid (Blk ((w.alloc (.cells #[.pointer (some ⟨g,0,none⟩)] 77)).alloc (.cells #[.int .u8 18,.int .i64 x.pos,.string (yX t),.int .i64 num,.slice x.kA x.kids.length x.kc] 48)) (w.heap.size+1) 48 #[.int .u8 18,.int .i64 x.pos,.string (yX t),.int .i64 num,.slice x.kA x.kids.length x.kc]):=yD (Blk.VV (by simp));have AK:=yD (hS.ext AS.out);have AY:Hid (vS w ((w.alloc (.cells #[.pointer (some ⟨g,0,none⟩)] 77)).alloc (.cells #[.int .u8 18,.int .i64 x.pos,.string (yX t),.int .i64 num,.slice x.kA x.kids.length x.kc] 48)) B g):=yD (vS.ext AS.out);have HE:Hid (∀args w,(callFunc 138 args).run Tryz.prog w=.ok (.enter 138 args) w):=yD (enters_of Tryz.func138 (by kernel_rfl) rfl);clear hS;unfold vZ;rw[hk,ht,hnum]
 go_enter Tryz.func89,Tryz.ntmps89
 go_upto_region 1 with fail
 try simp only[size_alloc]
 have AH:Hid (w.heap.size≠g):=yD (by have:=AU.out; omega);have AG:Hid (w.heap.size+1≠g):=yD (by have:=AU.out; omega);generalize w.heap.size+1=gn at AC AG ⊢;generalize w.heap.size=gp at AI AH ⊢;generalize ((w.alloc (.cells #[.pointer (some ⟨g,0,none⟩)] 77)).alloc (.cells #[.int .u8 18,.int .i64 x.pos,.string (yX t),.int .i64 num,.slice x.kA x.kids.length x.kc] 48))=w1 at *;have AT:=yD (Ag.out.trans AS.out);have Aj:=yD (Ad.out.ext AT.out);have Av:Hid (Blk w1 gn 48 #[.int .u8 x.kind,.int .i64 x.pos,.string x.text,.int .i64 x.num,.slice x.kA x.kids.length x.kc]):=yD (by rw[hk,ht,hnum]; exact AC.out);have Ax:=yD AI.out.lt;have As:=yD AC.out.lt;have Ay:=yD (Am.out.prT AT.out AK.out);have At:=yD (Ae.out w1 v bs d AT.out AK.out);have he:=HE.out
 replace AA:Hid (xV d [[114,111,108,108,98,97,99,107,59]]=AD):=AA
 obtain⟨T1,AO⟩:∃b,Hid (xV d [[114,111,108,108,98,97,99,107,59]]=b):=⟨_,yD rfl⟩;rw[AO.out] at AA;have n0:w1.cell? ⟨gn,0,none⟩=some (.int .u8 18):=AC.out.cell 0;have n1:w1.cell? ⟨gn,1,none⟩=some (.int .i64 x.pos):=AC.out.cell 1;have n2:w1.cell? ⟨gn,2,none⟩=some (.string (yX t)):=AC.out.cell 2;have n3:w1.cell? ⟨gn,3,none⟩=some (.int .i64 num):=AC.out.cell 3;have n4:w1.cell? ⟨gn,4,none⟩=some (.slice x.kA x.kids.length x.kc):=AC.out.cell 4;have p0:w1.cell? ⟨gp,0,none⟩=some (.pointer (some ⟨g,0,none⟩)):=AI.out.cell 0;have HR:Hid (bs++(T1++[])=bs++AD):=yD (by rw[List.append_nil,AA.out])
 go_upto_region 33 with fail
 have AV:Hid (Ext w1 (w1.alloc (.cells #[.string ⟨#[114,111,108,108,98,97,99,107,59]⟩] 9))):=yD (Ext.alloc _ _);have AL:Hid (Blk (w1.alloc (.cells #[.string ⟨#[114,111,108,108,98,97,99,107,59]⟩] 9)) w1.heap.size 9 #[.string ⟨#[114,111,108,108,98,97,99,107,59]⟩]):=yD (Blk.new _ _ _)
 go_wp2_with fail
 clear p0 n0 n1 n2 n3 n4;generalize w1.heap.size=pb at AL ⊢;generalize w1.alloc (.cells #[.string ⟨#[114,111,108,108,98,97,99,107,59]⟩] 9)=w2 at *;have AR:Blk w2 pb 9 (JM [[114,111,108,108,98,97,99,107,59]]):=AL.out;have AF:=AV.out;clear AL AV;have AP:=yD (AK.out.ext AF);have AQ:=yD (AY.out.trans (vS.ext AF));have AX:=yD (AI.out.ext AF);have AW:=yD (AC.out.ext AF);clear AF AK AY AI AC
 refine(jV w2 B g A n c _ bs d [[114,111,108,108,98,97,99,107,59]] pb 1 AP.out rfl (by have:=Aa.out; omega) (by simp) AR (fun e=>by obtain⟨ad,hb⟩:=AP.out.any; subst e; exact Blk.differ AR hb (by decide) rfl) (by
  have h8:=congrArg List.length HR.out;have h9:=AJ.out;rw[AO.out];simp only[yM,zK] at h8 h9 ⊢
  omega) (Nat.le_trans AZ.out AQ.out.size)).mono ?_
 rintro e w3 ⟨rfl,⟨v3,hu⟩,hm⟩
 replace hu:=hu.prS Ai.out
 rw[AO.out] at hu;clear AR;have Ah:=yD (AQ.out.trans hm);have A1:=yD (hm.blk AX.out AH.out (by decide));have A2:=yD (hm.blk AW.out AG.out (by decide))
 replace HR:=yD ((List.append_assoc _ _ _).trans HR.out)
 have Ak:=yD hu;clear hu hm AQ AX AW AP;generalize bs++T1=b1 at *
 replace HR:=yD ((List.append_nil _).symm.trans HR.out)
 have Af:=Ah.out;have AN:=Ak.out
 go_wp2_with fail
 go_end0;have h8:=HR.out;exact⟨rfl,⟨_,by rw[←h8]; exact AN⟩,Af⟩
theorem zQC (w0:World)(B g n c:Nat)(A:Option Addr)(L:List TT.xB)(hB:VD w0 B n A L)(x:TT.xB)(hx:Cells w0 x.kA (TT.xD x.kids))(k:Nat)(t:Bs)(num:Int)(ks kk:List Nat)(ls:List Bs)(hk:x.kind=(k:Int))(ht:x.text=yX t)(hnum:x.num=num)(hks:x.kids=xG ks)(hnk:ZY k t num kk)(hl1:kk.length=ks.length)(hl2:ls.length=ks.length)(hkb:ks.length≤100000)(hsz:vR ls≤1099511627776)
  (HT:∀(w:World) (v:Value) (bs:Bs) (d:Nat),Ext w0 w→PrS w B g A n c v bs d→∀j (hj:j<ks.length),zCf w g L ks[j] (kk.getD j 0) (ls.getD j []))
  (D:Nat) (bks:Nat→List Bs) (HBK:∀j (hj:j<ks.length),kk.getD j 0=6→∃y,L[ks[j]]?=some y∧XX w0 B g n c A y D fun d=>(bks d).getD j []) (h19:k=19) :
  zAk w0 B g n c A x (D+1) fun d=>xP d k t num ls (bks (d+1)):=by
 intro w v bs d AM hS hd AB;subst h19;obtain⟨Ab,Ac⟩:∃b,Hid (bks (d+1)=b):=⟨_,yD rfl⟩;obtain⟨AD,AA⟩:∃b,Hid (xP d 19 t num ls Ab=b):=⟨_,yD rfl⟩
 show Calls Tryz.prog 89 #[.pointer (some ⟨g,0,none⟩),vZ x] w fun e w'=>e=.returned (.tuple #[])∧zBC w B g A n c (bs++xP d 19 t num ls (bks (d+1))) d w'
 replace AB:bs.length+(xP d 19 t num ls (bks (d+1))).length≤140737488355328:=AB
 rw[Ac.out,AA.out] at AB ⊢;have AJ:Hid ((bs++AD).length≤140737488355328):=yD (by rw[yM]; exact AB);have Am:=yD hB;have Ad:=yD hx;have Au:=yD hks;have Az:=yD hnk;have A0:=yD hl1;have Ap:=yD hl2;have Ao:=yD hkb;have Ae:=yD HT;have Al:=yD HBK;have Ag:=yD AM;have Ai:=yD hS.lo;have Aa:=yD hd;have Aq:=yD hsz;have Aw:=yD (ZK hnk);have AZ:Hid (B≤w.heap.size):=yD (by rw[←hB.size]; exact AM.size);have An:Hid (x.kids.length=ks.length):=yD (by rw[hks]; simp[xG]);obtain⟨Ar,AE⟩:=hS.any;have AU:=yD AE.lt;clear hB hx hks hnk hl1 hl2 hkb HT HBK AM AB hd hsz AE;have AS:Hid (Ext w ((w.alloc (.cells #[.pointer (some ⟨g,0,none⟩)] 77)).alloc (.cells #[.int .u8 19,.int .i64 x.pos,.string (yX t),.int .i64 num,.slice x.kA x.kids.length x.kc] 48))):=yD ((Ext.alloc _ _).trans (Ext.alloc _ _));have AI:Hid (Blk ((w.alloc (.cells #[.pointer (some ⟨g,0,none⟩)] 77)).alloc (.cells #[.int .u8 19,.int .i64 x.pos,.string (yX t),.int .i64 num,.slice x.kA x.kids.length x.kc] 48)) w.heap.size 77 #[.pointer (some ⟨g,0,none⟩)]):=yD ((Blk.new _ _ _).alloc _)
 have AC:Hid (Blk ((w.alloc (.cells #[.pointer (some ⟨g,0,none⟩)] 77)).alloc (.cells #[.int .u8 19,.int .i64 x.pos,.string (yX t),.int .i64 num,.slice x.kA x.kids.length x.kc] 48)) (w.heap.size+1) 48 #[.int .u8 19,.int .i64 x.pos,.string (yX t),.int .i64 num,.slice x.kA x.kids.length x.kc]):=yD (Blk.VV (by simp));have AK:=yD (hS.ext AS.out);have AY:Hid (vS w ((w.alloc (.cells #[.pointer (some ⟨g,0,none⟩)] 77)).alloc (.cells #[.int .u8 19,.int .i64 x.pos,.string (yX t),.int .i64 num,.slice x.kA x.kids.length x.kc] 48)) B g):=yD (vS.ext AS.out);have HE:Hid (∀args w,(callFunc 138 args).run Tryz.prog w=.ok (.enter 138 args) w):=yD (enters_of Tryz.func138 (by kernel_rfl) rfl);clear hS;unfold vZ;rw[hk,ht,hnum]
 go_enter Tryz.func89,Tryz.ntmps89
 go_upto_region 1 with fail
 try simp only[size_alloc]
 have AH:Hid (w.heap.size≠g):=yD (by have:=AU.out; omega);have AG:Hid (w.heap.size+1≠g):=yD (by have:=AU.out; omega);generalize w.heap.size+1=gn at AC AG ⊢;generalize w.heap.size=gp at AI AH ⊢;generalize ((w.alloc (.cells #[.pointer (some ⟨g,0,none⟩)] 77)).alloc (.cells #[.int .u8 19,.int .i64 x.pos,.string (yX t),.int .i64 num,.slice x.kA x.kids.length x.kc] 48))=w1 at *;have AT:=yD (Ag.out.trans AS.out);have Aj:=yD (Ad.out.ext AT.out);have Av:Hid (Blk w1 gn 48 #[.int .u8 x.kind,.int .i64 x.pos,.string x.text,.int .i64 x.num,.slice x.kA x.kids.length x.kc]):=yD (by rw[hk,ht,hnum]; exact AC.out);have Ax:=yD AI.out.lt;have As:=yD AC.out.lt;have Ay:=yD (Am.out.prT AT.out AK.out);have At:=yD (Ae.out w1 v bs d AT.out AK.out);have he:=HE.out
 replace AA:Hid (xV d [[99,104,111,112,59]]=AD):=AA
 obtain⟨T1,AO⟩:∃b,Hid (xV d [[99,104,111,112,59]]=b):=⟨_,yD rfl⟩;rw[AO.out] at AA;have n0:w1.cell? ⟨gn,0,none⟩=some (.int .u8 19):=AC.out.cell 0;have n1:w1.cell? ⟨gn,1,none⟩=some (.int .i64 x.pos):=AC.out.cell 1;have n2:w1.cell? ⟨gn,2,none⟩=some (.string (yX t)):=AC.out.cell 2;have n3:w1.cell? ⟨gn,3,none⟩=some (.int .i64 num):=AC.out.cell 3;have n4:w1.cell? ⟨gn,4,none⟩=some (.slice x.kA x.kids.length x.kc):=AC.out.cell 4;have p0:w1.cell? ⟨gp,0,none⟩=some (.pointer (some ⟨g,0,none⟩)):=AI.out.cell 0;have HR:Hid (bs++(T1++[])=bs++AD):=yD (by rw[List.append_nil,AA.out])
 go_upto_region 35 with fail
 have AV:Hid (Ext w1 (w1.alloc (.cells #[.string ⟨#[99,104,111,112,59]⟩] 9))):=yD (Ext.alloc _ _);have AL:Hid (Blk (w1.alloc (.cells #[.string ⟨#[99,104,111,112,59]⟩] 9)) w1.heap.size 9 #[.string ⟨#[99,104,111,112,59]⟩]):=yD (Blk.new _ _ _)
 go_wp2_with fail
 clear p0 n0 n1 n2 n3 n4;generalize w1.heap.size=pb at AL ⊢;generalize w1.alloc (.cells #[.string ⟨#[99,104,111,112,59]⟩] 9)=w2 at *;have AR:Blk w2 pb 9 (JM [[99,104,111,112,59]]):=AL.out;have AF:=AV.out;clear AL AV;have AP:=yD (AK.out.ext AF);have AQ:=yD (AY.out.trans (vS.ext AF));have AX:=yD (AI.out.ext AF);have AW:=yD (AC.out.ext AF);clear AF AK AY AI AC
 refine(jV w2 B g A n c _ bs d [[99,104,111,112,59]] pb 1 AP.out rfl (by have:=Aa.out; omega) (by simp) AR (fun e=>by obtain⟨ad,hb⟩:=AP.out.any; subst e; exact Blk.differ AR hb (by decide) rfl) (by
  have h8:=congrArg List.length HR.out;have h9:=AJ.out;rw[AO.out];simp only[yM,zK] at h8 h9 ⊢
  omega) (Nat.le_trans AZ.out AQ.out.size)).mono ?_
 rintro e w3 ⟨rfl,⟨v3,hu⟩,hm⟩
 replace hu:=hu.prS Ai.out
 rw[AO.out] at hu;clear AR;have Ah:=yD (AQ.out.trans hm);have A1:=yD (hm.blk AX.out AH.out (by decide));have A2:=yD (hm.blk AW.out AG.out (by decide))
 replace HR:=yD ((List.append_assoc _ _ _).trans HR.out)
 have Ak:=yD hu;clear hu hm AQ AX AW AP;generalize bs++T1=b1 at *
 replace HR:=yD ((List.append_nil _).symm.trans HR.out)
 have Af:=Ah.out;have AN:=Ak.out
 go_wp2_with fail
 go_end0;have h8:=HR.out;exact⟨rfl,⟨_,by rw[←h8]; exact AN⟩,Af⟩
theorem zPC (w0:World)(B g n c:Nat)(A:Option Addr)(L:List TT.xB)(hB:VD w0 B n A L)(x:TT.xB)(hx:Cells w0 x.kA (TT.xD x.kids))(k:Nat)(t:Bs)(num:Int)(ks kk:List Nat)(ls:List Bs)(hk:x.kind=(k:Int))(ht:x.text=yX t)(hnum:x.num=num)(hks:x.kids=xG ks)(hnk:ZY k t num kk)(hl1:kk.length=ks.length)(hl2:ls.length=ks.length)(hkb:ks.length≤100000)(hsz:vR ls≤1099511627776)
  (HT:∀(w:World) (v:Value) (bs:Bs) (d:Nat),Ext w0 w→PrS w B g A n c v bs d→∀j (hj:j<ks.length),zCf w g L ks[j] (kk.getD j 0) (ls.getD j []))
  (D:Nat) (bks:Nat→List Bs) (HBK:∀j (hj:j<ks.length),kk.getD j 0=6→∃y,L[ks[j]]?=some y∧XX w0 B g n c A y D fun d=>(bks d).getD j []) (h15:k=15) :
  zAk w0 B g n c A x (D+1) fun d=>xP d k t num ls (bks (d+1)):=by
 intro w v bs d Af hS hd AE;subst h15;obtain⟨As,BF⟩:∃b,Hid (bks (d+1)=b):=⟨_,yD rfl⟩;obtain⟨AO,AB⟩:∃b,Hid (xP d 15 t num ls As=b):=⟨_,yD rfl⟩
 show Calls Tryz.prog 89 #[.pointer (some ⟨g,0,none⟩),vZ x] w fun e w'=>e=.returned (.tuple #[])∧zBC w B g A n c (bs++xP d 15 t num ls (bks (d+1))) d w'
 replace AE:bs.length+(xP d 15 t num ls (bks (d+1))).length≤140737488355328:=AE
 rw[BF.out,AB.out] at AE ⊢;have AD:Hid ((bs++AO).length≤140737488355328):=yD (by rw[yM]; exact AE);have AX:=yD hB;have A7:=yD hx;have Al:=yD hks;have BZ:=yD hnk;have Az:=yD hl1;have Bb:=yD hl2;have BW:=yD hkb;have BR:=yD HT;have Ao:=yD HBK;have Av:=yD Af;have AW:=yD hS.lo;have Ar:=yD hd;have BY:=yD hsz;have AY:=yD (ZK hnk);have A6:Hid (B≤w.heap.size):=yD (by rw[←hB.size]; exact Af.size);have Ab:Hid (x.kids.length=ks.length):=yD (by rw[hks]; simp[xG]);obtain⟨Bc,AS⟩:=hS.any;have BG:=yD AS.lt;clear hB hx hks hnk hl1 hl2 hkb HT HBK Af AE hd hsz AS;have A1:Hid (Ext w ((w.alloc (.cells #[.pointer (some ⟨g,0,none⟩)] 77)).alloc (.cells #[.int .u8 15,.int .i64 x.pos,.string (yX t),.int .i64 num,.slice x.kA x.kids.length x.kc] 48))):=yD ((Ext.alloc _ _).trans (Ext.alloc _ _));have AJ:Hid (Blk ((w.alloc (.cells #[.pointer (some ⟨g,0,none⟩)] 77)).alloc (.cells #[.int .u8 15,.int .i64 x.pos,.string (yX t),.int .i64 num,.slice x.kA x.kids.length x.kc] 48)) w.heap.size 77 #[.pointer (some ⟨g,0,none⟩)]):=yD ((Blk.new _ _ _).alloc _)
 have AF:Hid (Blk ((w.alloc (.cells #[.pointer (some ⟨g,0,none⟩)] 77)).alloc (.cells #[.int .u8 15,.int .i64 x.pos,.string (yX t),.int .i64 num,.slice x.kA x.kids.length x.kc] 48)) (w.heap.size+1) 48 #[.int .u8 15,.int .i64 x.pos,.string (yX t),.int .i64 num,.slice x.kA x.kids.length x.kc]):=yD (Blk.VV (by simp));have AV:=yD (hS.ext A1.out);have BB:Hid (vS w ((w.alloc (.cells #[.pointer (some ⟨g,0,none⟩)] 77)).alloc (.cells #[.int .u8 15,.int .i64 x.pos,.string (yX t),.int .i64 num,.slice x.kA x.kids.length x.kc] 48)) B g):=yD (vS.ext A1.out);have HE:Hid (∀args w,(callFunc 138 args).run Tryz.prog w=.ok (.enter 138 args) w):=yD (enters_of Tryz.func138 (by kernel_rfl) rfl);clear hS;unfold vZ;rw[hk,ht,hnum]
 go_enter Tryz.func89,Tryz.ntmps89
 go_upto_region 1 with fail
 try simp only[size_alloc]
 have AH:Hid (w.heap.size≠g):=yD (by have:=BG.out; omega);have AG:Hid (w.heap.size+1≠g):=yD (by have:=BG.out; omega);generalize w.heap.size+1=gn at AF AG ⊢;generalize w.heap.size=gp at AJ AH ⊢;generalize ((w.alloc (.cells #[.pointer (some ⟨g,0,none⟩)] 77)).alloc (.cells #[.int .u8 15,.int .i64 x.pos,.string (yX t),.int .i64 num,.slice x.kA x.kids.length x.kc] 48))=w1 at *;have Ap:=yD (Av.out.trans A1.out);have AR:=yD (A7.out.ext Ap.out);have BN:Hid (Blk w1 gn 48 #[.int .u8 x.kind,.int .i64 x.pos,.string x.text,.int .i64 x.num,.slice x.kA x.kids.length x.kc]):=yD (by rw[hk,ht,hnum]; exact AF.out);have HGP:=yD AJ.out.lt;have HGN:=yD AF.out.lt;have BP:=yD (AX.out.prT Ap.out AV.out);have BK:=yD (BR.out w1 v bs d Ap.out AV.out);have he:=HE.out;have A0:Hid (0<ks.length):=yD (by have:=AY.out; have:=Az.out; omega)
 have Ax:Hid (∀w',Ext w1 w'→Calls Tryz.prog 138 #[.int .i64 0,.pointer (some ⟨gp,0,none⟩),.pointer (some ⟨gn,0,none⟩)] w' fun e AK=>e=.returned (.string (yX (ls.getD 0 [])))∧Ext w' AK):=yD fun w' hx=>by
  obtain⟨y,h1,h2,h3⟩:=BK.out 0 A0.out;exact ZC w' g n c gp gn A L (BP.out.ext hx) x (AJ.out.ext hx) (BN.out.ext hx) (AR.out.ext hx) 0 (ks[0]'A0.out) (kk.getD 0 0) (by rw[Ab.out]; exact A0.out) (by simp only[Al.out,xG,zA]) (ls.getD 0 []) ⟨y,h1,h2,fun w2 AC=>h3 w2 (hx.trans AC)⟩
 have Ah:Hid (1<ks.length):=yD (by have:=AY.out; have:=Az.out; omega)
 have Ad:Hid (∀w',Ext w1 w'→Calls Tryz.prog 138 #[.int .i64 1,.pointer (some ⟨gp,0,none⟩),.pointer (some ⟨gn,0,none⟩)] w' fun e AK=>e=.returned (.string (yX (ls.getD 1 [])))∧Ext w' AK):=yD fun w' hx=>by
  obtain⟨y,h1,h2,h3⟩:=BK.out 1 Ah.out;exact ZC w' g n c gp gn A L (BP.out.ext hx) x (AJ.out.ext hx) (BN.out.ext hx) (AR.out.ext hx) 1 (ks[1]'Ah.out) (kk.getD 1 0) (by rw[Ab.out]; exact Ah.out) (by simp only[Al.out,xG,zA]) (ls.getD 1 []) ⟨y,h1,h2,fun w2 AC=>h3 w2 (hx.trans AC)⟩
 replace AB:Hid (xV d [[102,111,114,32],t,[32,61,32],(ls.getD 0 []),[32,116,111,32],(ls.getD 1 []),[32,123]]++(As.getD 2 []++xV d [[125]])=AO):=AB
 have Am:Hid (2<ks.length):=yD (by have:=AY.out; have:=Az.out; omega);have Aq:Hid (kk.getD 2 0=6):=yD (by have:=AY.out; omega);obtain⟨y2,A8,AP⟩:=Ao.out 2 Am.out Aq.out;have Ac:=yD AP
 have A2:Hid (∀(w':World) (v':Value) (BQ:Bs),Ext w0 w'→PrS w' B g A n c v' BQ d→Calls Tryz.prog 40 #[.pointer (some ⟨g,0,none⟩),.agg #[.int .u8 15,.int .i64 x.pos,.string (yX t),.int .i64 num,.slice x.kA x.kids.length x.kc],.int .i64 2] w' fun e AK=>e=.returned (vZ y2)∧Ext w' AK):=yD fun w' v' BQ hx hs=>by
  have hp:=AX.out.prT hx hs
  have:=zAl w' g n c A L hp.tree hp.len hp.at0 hp.lt x (A7.out.ext hx) 2 (ks[2]'Am.out) (by rw[Ab.out]; exact Am.out) (by simp only[Al.out,xG,zA]) (List.getElem?_eq_some_iff.1 A8).1 y2 A8
  unfold vZ at this ⊢;rw[hk,ht,hnum] at this;exact this
 clear AP;obtain⟨G2,AL⟩:∃b,Hid (As.getD 2 []=b):=⟨_,yD rfl⟩;have BH:Hid ((bks (d+1)).getD 2 []=G2):=yD (by rw[BF.out]; exact AL.out);rw[AL.out] at AB;clear AL;obtain⟨T9,At⟩:∃b,Hid (xV d [[125]]=b):=⟨_,yD rfl⟩;rw[At.out] at AB;generalize ls.getD 0 []=l0 at *;generalize ls.getD 1 []=l1 at *;obtain⟨T1,Aj⟩:∃b,Hid (xV d [[102,111,114,32],t,[32,61,32],l0,[32,116,111,32],l1,[32,123]]=b):=⟨_,yD rfl⟩;rw[Aj.out] at AB;have n0:w1.cell? ⟨gn,0,none⟩=some (.int .u8 15):=AF.out.cell 0;have n1:w1.cell? ⟨gn,1,none⟩=some (.int .i64 x.pos):=AF.out.cell 1;have n2:w1.cell? ⟨gn,2,none⟩=some (.string (yX t)):=AF.out.cell 2;have n3:w1.cell? ⟨gn,3,none⟩=some (.int .i64 num):=AF.out.cell 3;have n4:w1.cell? ⟨gn,4,none⟩=some (.slice x.kA x.kids.length x.kc):=AF.out.cell 4;have p0:w1.cell? ⟨gp,0,none⟩=some (.pointer (some ⟨g,0,none⟩)):=AJ.out.cell 0;have HR:Hid (bs++(T1++(G2++(T9++[])))=bs++AO):=yD (by rw[List.append_nil,AB.out])
 go_upto_region 25 with fail
 apply xI 8 (by kernel_rfl) (by kernel_rfl) (by kernel_rfl);apply yZ (.pointer (some ⟨g,0,none⟩)) rfl rfl rfl
 ·intro w' AA hH;clear hH;have yp:=(AA.cell (p:=⟨gp,0,none⟩) HGP.out).trans p0;simp[yY,go_sem,yp];exact Ext.refl _
 apply sQ (.pointer (some ⟨gn,2,none⟩));apply yZ (.string (yX t)) rfl rfl rfl
 ·intro w' AA hH;clear hH;have y2:=(AA.cell (p:=⟨gn,2,none⟩) HGN.out).trans n2;simp[yY,go_sem,y2];exact Ext.refl _
 apply sQ (.func (.func 138) #[] #[.pointer (some ⟨gp,0,none⟩),.pointer (some ⟨gn,0,none⟩)]);apply yZ (.string (yX l0)) rfl rfl rfl
 ·intro w' AA hH;clear hH;simp[yY,go_sem,he];refine(Ax.out w' AA).mono ?_;rintro e w2 ⟨rfl,AC⟩;exact⟨_,rfl,rfl,AC⟩
 apply sQ (.func (.func 138) #[] #[.pointer (some ⟨gp,0,none⟩),.pointer (some ⟨gn,0,none⟩)]);apply yZ (.string (yX l1)) rfl rfl rfl
 ·intro w' AA hH;clear hH;simp[yY,go_sem,he];refine(Ad.out w' AA).mono ?_;rintro e w2 ⟨rfl,AC⟩;exact⟨_,rfl,rfl,AC⟩
 apply vA (XJ 9 7 (JM [[102,111,114,32],t,[32,61,32],l0,[32,116,111,32],l1,[32,123]])) (fun v a b h k=>XJ.ext v a b h k) rfl rfl rfl
 ·intro w' AA hH;clear hH;simp[yY,go_sem];exact⟨⟨_,rfl,Blk.new w' _ _⟩,Ext.alloc _ _⟩
 intro BU;apply xN;intro w2 AC hH;obtain⟨pb,rfl,AN⟩:=hH _ (List.mem_cons_self ..);clear hH p0 n0 n1 n2 n3 n4
 try simp only[Act.put,yA,yC,yB]
 have Ak:=yD (AV.out.ext AC);have Aw:=yD (BB.out.trans (vS.ext AC));have BO:=yD (AJ.out.ext AC);have BM:=yD (AF.out.ext AC);clear AC AV BB AJ AF
 go_wp2_with fail
 refine(jV w2 B g A n c _ bs d [[102,111,114,32],t,[32,61,32],l0,[32,116,111,32],l1,[32,123]] pb 7 Ak.out rfl (by have:=Ar.out; omega) (by simp) AN (fun e=>by obtain⟨ad,hb⟩:=Ak.out.any; subst e; exact Blk.differ AN hb (by decide) rfl) (by
  have h8:=congrArg List.length HR.out;have h9:=AD.out;rw[Aj.out];simp only[yM,zK] at h8 h9 ⊢
  omega) (Nat.le_trans A6.out Aw.out.size)).mono ?_
 rintro e w3 ⟨rfl,⟨v3,hu⟩,hm⟩
 replace hu:=hu.prS AW.out
 rw[Aj.out] at hu;clear AN;have Ay:=yD (Aw.out.trans hm);have AZ:=yD (hm.blk BO.out AH.out (by decide));have AI:=yD (hm.blk BM.out AG.out (by decide))
 replace HR:=yD ((List.append_assoc _ _ _).trans HR.out)
 have A4:=yD hu;clear hu hm Aw BO BM Ak;generalize bs++T1=b1 at *;have A3:=yD (AX.out.ext Av.out Ay.out AW.out);have AU:Hid (∀w',Ext w3 w'→Calls Tryz.prog 40 #[.pointer (some ⟨g,0,none⟩),.agg #[.int .u8 15,.int .i64 x.pos,.string (yX t),.int .i64 num,.slice x.kA x.kids.length x.kc],.int .i64 2] w' fun e AK=>e=.returned (vZ y2)∧Ext w' AK):=yD fun w' hx=>A2.out w' _ _ (A3.out.trans hx) (A4.out.ext hx)
 replace HGP:=yD AZ.out.lt
 replace HGN:=yD AI.out.lt
 have n0:w3.cell? ⟨gn,0,none⟩=some (.int .u8 15):=AI.out.cell 0;have n1:w3.cell? ⟨gn,1,none⟩=some (.int .i64 x.pos):=AI.out.cell 1;have n2:w3.cell? ⟨gn,2,none⟩=some (.string (yX t)):=AI.out.cell 2;have n3:w3.cell? ⟨gn,3,none⟩=some (.int .i64 num):=AI.out.cell 3;have n4:w3.cell? ⟨gn,4,none⟩=some (.slice x.kA x.kids.length x.kc):=AI.out.cell 4;have p0:w3.cell? ⟨gp,0,none⟩=some (.pointer (some ⟨g,0,none⟩)):=AZ.out.cell 0
 go_upto_region 26 with fail
 apply xI 4 (by kernel_rfl) (by kernel_rfl) (by kernel_rfl);apply yZ (.pointer (some ⟨g,0,none⟩)) rfl rfl rfl
 ·intro w' AA hH;clear hH;have yp:=(AA.cell (p:=⟨gp,0,none⟩) HGP.out).trans p0;simp[yY,go_sem,yp];exact Ext.refl _
 apply yZ (.pointer (some ⟨g,0,none⟩)) rfl rfl rfl
 ·intro w' AA hH;clear hH;have yp:=(AA.cell (p:=⟨gp,0,none⟩) HGP.out).trans p0;simp[yY,go_sem,yp];exact Ext.refl _
 apply yZ (.agg #[.int .u8 15,.int .i64 x.pos,.string (yX t),.int .i64 num,.slice x.kA x.kids.length x.kc]) rfl rfl rfl
 ·intro w' AA hH;clear hH;have y0:=(AA.cell (p:=⟨gn,0,none⟩) HGN.out).trans n0;have y1:=(AA.cell (p:=⟨gn,1,none⟩) HGN.out).trans n1;have y2:=(AA.cell (p:=⟨gn,2,none⟩) HGN.out).trans n2;have y3:=(AA.cell (p:=⟨gn,3,none⟩) HGN.out).trans n3;have y4:=(AA.cell (p:=⟨gn,4,none⟩) HGN.out).trans n4;simp[yY,go_sem,y0,y1,y2,y3,y4];exact Ext.refl _
 apply yZ (vZ y2) rfl rfl rfl
 ·intro w' AA hH;clear hH;simp[yY,go_sem,he];refine(AU.out w' AA).mono ?_;rintro e w2 ⟨rfl,AC⟩;exact⟨_,rfl,rfl,AC⟩
 apply xN;intro w4 AQ hH;clear hH p0 n0 n1 n2 n3 n4
 try simp only[Act.put,yA,yC,yB]
 have BD:=yD (A4.out.ext AQ);have Ae:=yD (Ay.out.trans (vS.ext AQ));have BJ:=yD (AZ.out.ext AQ);have BE:=yD (AI.out.ext AQ);clear AQ A4 Ay AZ AI
 go_wp2_with fail
 have Ag:=yD (AX.out.ext Av.out Ae.out AW.out)
 refine(Ac.out w4 _ b1 d Ag.out BD.out (by have:=Ar.out; omega) (by
  have h8:=congrArg List.length HR.out;have h9:=AD.out
  show _+((bks (d+1)).getD 2 []).length≤_
  rw[BH.out];simp only[yM,zK] at h8 h9 ⊢
  omega)).mono ?_
 rintro e w5 ⟨rfl,⟨v5,hu⟩,hm⟩
 replace hu:PrS w5 B g A n c v5 (b1++(bks (d+1)).getD 2 []) d:=hu
 rw[BH.out] at hu;clear AU;have BL:=yD (Ae.out.trans hm);have Ai:=yD (hm.blk BJ.out AH.out (by decide));have AM:=yD (hm.blk BE.out AG.out (by decide))
 replace HR:=yD ((List.append_assoc _ _ _).trans HR.out)
 have A9:=yD hu;clear hu hm Ae BJ BE BD;generalize b1++G2=b2 at *;have n0:w5.cell? ⟨gn,0,none⟩=some (.int .u8 15):=AM.out.cell 0;have n1:w5.cell? ⟨gn,1,none⟩=some (.int .i64 x.pos):=AM.out.cell 1;have n2:w5.cell? ⟨gn,2,none⟩=some (.string (yX t)):=AM.out.cell 2;have n3:w5.cell? ⟨gn,3,none⟩=some (.int .i64 num):=AM.out.cell 3;have n4:w5.cell? ⟨gn,4,none⟩=some (.slice x.kA x.kids.length x.kc):=AM.out.cell 4;have p0:w5.cell? ⟨gp,0,none⟩=some (.pointer (some ⟨g,0,none⟩)):=Ai.out.cell 0
 go_upto_region 27 with fail
 have BA:Hid (Ext w5 (w5.alloc (.cells #[.string ⟨#[125]⟩] 9))):=yD (Ext.alloc _ _);have Aa:Hid (Blk (w5.alloc (.cells #[.string ⟨#[125]⟩] 9)) w5.heap.size 9 #[.string ⟨#[125]⟩]):=yD (Blk.new _ _ _)
 go_wp2_with fail
 clear p0 n0 n1 n2 n3 n4;generalize w5.heap.size=pb at Aa ⊢;generalize w5.alloc (.cells #[.string ⟨#[125]⟩] 9)=w6 at *;have AN:Blk w6 pb 9 (JM [[125]]):=Aa.out;have AT:=BA.out;clear Aa BA;have A5:=yD (A9.out.ext AT);have An:=yD (BL.out.trans (vS.ext AT));have BC:=yD (Ai.out.ext AT);have BI:=yD (AM.out.ext AT);clear AT A9 BL Ai AM
 refine(jV w6 B g A n c _ b2 d [[125]] pb 1 A5.out rfl (by have:=Ar.out; omega) (by simp) AN (fun e=>by obtain⟨ad,hb⟩:=A5.out.any; subst e; exact Blk.differ AN hb (by decide) rfl) (by
  have h8:=congrArg List.length HR.out;have h9:=AD.out;rw[At.out];simp only[yM,zK] at h8 h9 ⊢
  omega) (Nat.le_trans A6.out An.out.size)).mono ?_
 rintro e w7 ⟨rfl,⟨v7,hu⟩,hm⟩
 replace hu:=hu.prS AW.out
 rw[At.out] at hu;clear AN;have BS:=yD (An.out.trans hm);have Ba:=yD (hm.blk BC.out AH.out (by decide));have BX:=yD (hm.blk BI.out AG.out (by decide))
 replace HR:=yD ((List.append_assoc _ _ _).trans HR.out)
 have BV:=yD hu;clear hu hm An BC BI A5;generalize b2++T9=b3 at *
 replace HR:=yD ((List.append_nil _).symm.trans HR.out)
 have BT:=BS.out;have Au:=BV.out
 go_wp2_with fail
 go_end0;have h8:=HR.out;exact⟨rfl,⟨_,by rw[←h8]; exact Au⟩,BT⟩
end Go.Proofs.YtioffpjajhalaaaGreatDoor
