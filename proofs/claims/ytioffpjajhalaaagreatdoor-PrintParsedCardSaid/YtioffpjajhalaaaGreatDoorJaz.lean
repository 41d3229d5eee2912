/- printer.stmt, walked at one node, kind by kind. Condition: what the kids print is known. -/
import Derived.Test.YtioffpjajhalaaaGreatDoorJaa
import Derived.Test.YtioffpjajhalaaaGreatDoorJay
set_option linter.unusedVariables false
set_option linter.unusedSimpArgs false
set_option maxRecDepth 100000
set_option maxHeartbeats 16000000
namespace Go.Proofs.YtioffpjajhalaaaGreatDoor
open Go Go.RowKit
theorem zTA (w0:World)(B g n c:Nat)(A:Option Addr)(L:List TT.xC)(hB:zAp w0 B n A L)(x:TT.xC)(hx:Cells w0 x.kA (TT.xL x.kids))(k:Nat)(t:Bs)(num:Int)(ks kk:List Nat)(ls:List Bs)(hk:x.kind=(k:Int))(ht:x.text=yX t)(hnum:x.num=num)(hks:x.kids=xK ks)(hnk:xU k t num kk)(hl1:kk.length=ks.length)(hl2:ls.length=ks.length)(hkb:ks.length≤100000)(hsz:zAD ls≤1099511627776)
  (HT:∀(w:World) (v:Value) (bs:Bs) (d:Nat),Ext w0 w→PrS w B g A n c v bs d→∀j (hj:j<ks.length),zDr w g L ks[j] (kk.getD j 0) (ls.getD j []))
  (D:Nat) (bks:Nat→List Bs) (HBK:∀j (hj:j<ks.length),kk.getD j 0=6→∃y,L[ks[j]]?=some y∧VE w0 B g n c A y D fun d=>(bks d).getD j []) (h16:k=16) :
  zAY w0 B g n c A x (D+1) fun d=>xW d k t num ls (bks (d+1)):=by
 intro w v bs d AT hS hd AA;subst h16;obtain⟨Au,Ao⟩:∃b,Hid (bks (d+1)=b):=⟨_,yD rfl⟩;obtain⟨AE,AB⟩:∃b,Hid (xW d 16 t num ls Au=b):=⟨_,yD rfl⟩
 show Calls Tryz.prog 89 #[.pointer (some ⟨g,0,none⟩),jF x] w fun e w'=>e=.returned (.tuple #[])∧zCh w B g A n c (bs++xW d 16 t num ls (bks (d+1))) d w'
 replace AA:bs.length+(xW d 16 t num ls (bks (d+1))).length≤140737488355328:=AA
 rw[Ao.out,AB.out] at AA ⊢;have AJ:Hid ((bs++AE).length≤140737488355328):=yD (by rw[yM]; exact AA);have Ab:=yD hB;have Ad:=yD hx;have Ak:=yD hks;have A0:=yD hnk;have Ap:=yD hl1;have A2:=yD hl2;have A1:=yD hkb;have Ai:=yD HT;have Aw:=yD HBK;have Ae:=yD AT;have Ay:=yD hS.lo;have Aq:=yD hd;have Az:=yD hsz;have At:=yD (XG hnk);have Ag:Hid (B≤w.heap.size):=yD (by rw[←hB.size]; exact AT.size);have Av:Hid (x.kids.length=ks.length):=yD (by rw[hks]; simp[xK]);obtain⟨A5,AI⟩:=hS.any;have Aa:=yD AI.lt;clear hB hx hks hnk hl1 hl2 hkb HT HBK AT AA hd hsz AI;have AU:Hid (Ext w ((w.alloc (.cells #[.pointer (some ⟨g,0,none⟩)] 77)).alloc (.cells #[.int .u8 16,.int .i64 x.pos,.string (yX t),.int .i64 num,.slice x.kA x.kids.length x.kc] 48))):=yD ((Ext.alloc _ _).trans (Ext.alloc _ _));have AF:Hid (Blk ((w.alloc (.cells #[.pointer (some ⟨g,0,none⟩)] 77)).alloc (.cells #[.int .u8 16,.int .i64 x.pos,.string (yX t),.int .i64 num,.slice x.kA x.kids.length x.kc] 48)) w.heap.size 77 #[.pointer (some ⟨g,0,none⟩)]):=yD ((Blk.new _ _ _).alloc _)
 have AC:Hid (Blk ((w.alloc (.cells #[.pointer (some ⟨g,0,none⟩)] 77)).alloc (.cells #[.int .u8 16,.int .i64 x.pos,.string (yX t),.int .i64 num,.slice x.kA x.kids.length x.kc] 48)) (w.heap.size+1) 48 #[.int .u8 16,.int .i64 x.pos,.string (yX t),.int .i64 num,.slice x.kA x.kids.length x.kc]):=yD (Blk.zAa (by simp));have AL:=yD (hS.ext AU.out);have AX:Hid (vU w ((w.alloc (.cells #[.pointer (some ⟨g,0,none⟩)] 77)).alloc (.cells #[.int .u8 16,.int .i64 x.pos,.string (yX t),.int .i64 num,.slice x.kA x.kids.length x.kc] 48)) B g):=yD (vU.ext AU.out);have HE:Hid (∀args w,(callFunc 138 args).run Tryz.prog w=.ok (.enter 138 args) w):=yD (enters_of Tryz.func138 (by kernel_rfl) rfl);clear hS;unfold jF;rw[hk,ht,hnum]
 go_enter Tryz.func89,Tryz.ntmps89
 go_upto_region 1 with fail
 try simp only[size_alloc]
 have AK:Hid (w.heap.size≠g):=yD (by have:=Aa.out; omega);have AH:Hid (w.heap.size+1≠g):=yD (by have:=Aa.out; omega);generalize w.heap.size+1=gn at AC AH ⊢;generalize w.heap.size=gp at AF AK ⊢;generalize ((w.alloc (.cells #[.pointer (some ⟨g,0,none⟩)] 77)).alloc (.cells #[.int .u8 16,.int .i64 x.pos,.string (yX t),.int .i64 num,.slice x.kA x.kids.length x.kc] 48))=w1 at *;have AN:=yD (Ae.out.trans AU.out);have AW:=yD (Ad.out.ext AN.out);have Ax:Hid (Blk w1 gn 48 #[.int .u8 x.kind,.int .i64 x.pos,.string x.text,.int .i64 x.num,.slice x.kA x.kids.length x.kc]):=yD (by rw[hk,ht,hnum]; exact AC.out);have Ac:=yD AF.out.lt;have Af:=yD AC.out.lt;have Aj:=yD (Ab.out.prT AN.out AL.out);have Ar:=yD (Ai.out w1 v bs d AN.out AL.out);have he:=HE.out;have AV:Hid (0<ks.length):=yD (by have:=At.out; have:=Ap.out; omega)
 have AS:Hid (∀w',Ext w1 w'→Calls Tryz.prog 138 #[.int .i64 0,.pointer (some ⟨gp,0,none⟩),.pointer (some ⟨gn,0,none⟩)] w' fun e Ah=>e=.returned (.string (yX (ls.getD 0 [])))∧Ext w' Ah):=yD fun w' hx=>by
  obtain⟨y,h1,h2,h3⟩:=Ar.out 0 AV.out;exact ZV w' g n c gp gn A L (Aj.out.ext hx) x (AF.out.ext hx) (Ax.out.ext hx) (AW.out.ext hx) 0 (ks[0]'AV.out) (kk.getD 0 0) (by rw[Av.out]; exact AV.out) (by simp only[Ak.out,xK,zA]) (ls.getD 0 []) ⟨y,h1,h2,fun w2 AD=>h3 w2 (hx.trans AD)⟩
 replace AB:Hid (xR d [[108,101,116,32],t,[32,61,32],(ls.getD 0 []),[59]]=AE):=AB
 generalize ls.getD 0 []=l0 at *;obtain⟨T1,AP⟩:∃b,Hid (xR d [[108,101,116,32],t,[32,61,32],l0,[59]]=b):=⟨_,yD rfl⟩;rw[AP.out] at AB;have n0:w1.cell? ⟨gn,0,none⟩=some (.int .u8 16):=AC.out.cell 0;have n1:w1.cell? ⟨gn,1,none⟩=some (.int .i64 x.pos):=AC.out.cell 1;have n2:w1.cell? ⟨gn,2,none⟩=some (.string (yX t)):=AC.out.cell 2;have n3:w1.cell? ⟨gn,3,none⟩=some (.int .i64 num):=AC.out.cell 3;have n4:w1.cell? ⟨gn,4,none⟩=some (.slice x.kA x.kids.length x.kc):=AC.out.cell 4;have p0:w1.cell? ⟨gp,0,none⟩=some (.pointer (some ⟨g,0,none⟩)):=AF.out.cell 0;have HR:Hid (bs++(T1++[])=bs++AE):=yD (by rw[List.append_nil,AB.out])
 go_upto_region 29 with fail
 apply xE 6 (by kernel_rfl) (by kernel_rfl) (by kernel_rfl);apply xA (.pointer (some ⟨g,0,none⟩)) rfl rfl rfl
 ·intro w' AG hH;clear hH;have yp:=(AG.cell (p:=⟨gp,0,none⟩) Ac.out).trans p0;simp[yY,go_sem,yp];exact Ext.refl _
 apply sQ (.pointer (some ⟨gn,2,none⟩));apply xA (.string (yX t)) rfl rfl rfl
 ·intro w' AG hH;clear hH;have y2:=(AG.cell (p:=⟨gn,2,none⟩) Af.out).trans n2;simp[yY,go_sem,y2];exact Ext.refl _
 apply sQ (.func (.func 138) #[] #[.pointer (some ⟨gp,0,none⟩),.pointer (some ⟨gn,0,none⟩)]);apply xA (.string (yX l0)) rfl rfl rfl
 ·intro w' AG hH;clear hH;simp[yY,go_sem,he];refine(AS.out w' AG).mono ?_;rintro e w2 ⟨rfl,AD⟩;exact⟨_,rfl,rfl,AD⟩
 apply vF (JJ 9 5 (VS [[108,101,116,32],t,[32,61,32],l0,[59]])) (fun v a b h k=>JJ.ext v a b h k) rfl rfl rfl
 ·intro w' AG hH;clear hH;simp[yY,go_sem];exact⟨⟨_,rfl,Blk.new w' _ _⟩,Ext.alloc _ _⟩
 intro An;apply vA;intro w2 AD hH;obtain⟨pb,rfl,AO⟩:=hH _ (List.mem_cons_self ..);clear hH p0 n0 n1 n2 n3 n4
 try simp only[Act.put,yA,yC,yB]
 have AQ:=yD (AL.out.ext AD);have AR:=yD (AX.out.trans (vU.ext AD));have AZ:=yD (AF.out.ext AD);have AY:=yD (AC.out.ext AD);clear AD AL AX AF AC
 go_wp2_with fail
 refine(ZK w2 B g A n c _ bs d [[108,101,116,32],t,[32,61,32],l0,[59]] pb 5 AQ.out rfl (by have:=Aq.out; omega) (by simp) AO (fun e=>by obtain⟨ad,hb⟩:=AQ.out.any; subst e; exact Blk.differ AO hb (by decide) rfl) (by
  have h8:=congrArg List.length HR.out;have h9:=AJ.out;rw[AP.out];simp only[yM,zK] at h8 h9 ⊢
  omega) (Nat.le_trans Ag.out AR.out.size)).mono ?_
 rintro e w3 ⟨rfl,⟨v3,hu⟩,hm⟩
 replace hu:=hu.prS Ay.out
 rw[AP.out] at hu;clear AO;have Am:=yD (AR.out.trans hm);have A3:=yD (hm.blk AZ.out AK.out (by decide));have A4:=yD (hm.blk AY.out AH.out (by decide))
 replace HR:=yD ((List.append_assoc _ _ _).trans HR.out)
 have Al:=yD hu;clear hu hm AR AZ AY AQ;generalize bs++T1=b1 at *
 replace HR:=yD ((List.append_nil _).symm.trans HR.out)
 have As:=Am.out;have AM:=Al.out
 go_wp2_with fail
 go_end0;have h8:=HR.out;exact⟨rfl,⟨_,by rw[←h8]; exact AM⟩,As⟩
theorem zTO (w0:World)(B g n c:Nat)(A:Option Addr)(L:List TT.xC)(hB:zAp w0 B n A L)(x:TT.xC)(hx:Cells w0 x.kA (TT.xL x.kids))(k:Nat)(t:Bs)(num:Int)(ks kk:List Nat)(ls:List Bs)(hk:x.kind=(k:Int))(ht:x.text=yX t)(hnum:x.num=num)(hks:x.kids=xK ks)(hnk:xU k t num kk)(hl1:kk.length=ks.length)(hl2:ls.length=ks.length)(hkb:ks.length≤100000)(hsz:zAD ls≤1099511627776)
  (HT:∀(w:World) (v:Value) (bs:Bs) (d:Nat),Ext w0 w→PrS w B g A n c v bs d→∀j (hj:j<ks.length),zDr w g L ks[j] (kk.getD j 0) (ls.getD j []))
  (D:Nat) (bks:Nat→List Bs) (HBK:∀j (hj:j<ks.length),kk.getD j 0=6→∃y,L[ks[j]]?=some y∧VE w0 B g n c A y D fun d=>(bks d).getD j []) (h17:k=17) :
  zAY w0 B g n c A x (D+1) fun d=>xW d k t num ls (bks (d+1)):=by
 intro w v bs d AT hS hd AA;subst h17;obtain⟨At,An⟩:∃b,Hid (bks (d+1)=b):=⟨_,yD rfl⟩;obtain⟨AE,AB⟩:∃b,Hid (xW d 17 t num ls At=b):=⟨_,yD rfl⟩
 show Calls Tryz.prog 89 #[.pointer (some ⟨g,0,none⟩),jF x] w fun e w'=>e=.returned (.tuple #[])∧zCh w B g A n c (bs++xW d 17 t num ls (bks (d+1))) d w'
 replace AA:bs.length+(xW d 17 t num ls (bks (d+1))).length≤140737488355328:=AA
 rw[An.out,AB.out] at AA ⊢;have AI:Hid ((bs++AE).length≤140737488355328):=yD (by rw[yM]; exact AA);have Ab:=yD hB;have Ad:=yD hx;have Ak:=yD hks;have A0:=yD hnk;have Ao:=yD hl1;have A2:=yD hl2;have A1:=yD hkb;have Ah:=yD HT;have Av:=yD HBK;have Ae:=yD AT;have Ax:=yD hS.lo;have Ap:=yD hd;have Az:=yD hsz;have As:=yD (XG hnk);have Af:Hid (B≤w.heap.size):=yD (by rw[←hB.size]; exact AT.size);have Au:Hid (x.kids.length=ks.length):=yD (by rw[hks]; simp[xK]);obtain⟨A5,AH⟩:=hS.any;have Aa:=yD AH.lt;clear hB hx hks hnk hl1 hl2 hkb HT HBK AT AA hd hsz AH;have AU:Hid (Ext w ((w.alloc (.cells #[.pointer (some ⟨g,0,none⟩)] 77)).alloc (.cells #[.int .u8 17,.int .i64 x.pos,.string (yX t),.int .i64 num,.slice x.kA x.kids.length x.kc] 48))):=yD ((Ext.alloc _ _).trans (Ext.alloc _ _));have AF:Hid (Blk ((w.alloc (.cells #[.pointer (some ⟨g,0,none⟩)] 77)).alloc (.cells #[.int .u8 17,.int .i64 x.pos,.string (yX t),.int .i64 num,.slice x.kA x.kids.length x.kc] 48)) w.heap.size 77 #[.pointer (some ⟨g,0,none⟩)]):=yD ((Blk.new _ _ _).alloc _)
 have AC:Hid (Blk ((w.alloc (.cells #[.pointer (some ⟨g,0,none⟩)] 77)).alloc (.cells #[.int .u8 17,.int .i64 x.pos,.string (yX t),.int .i64 num,.slice x.kA x.kids.length x.kc] 48)) (w.heap.size+1) 48 #[.int .u8 17,.int .i64 x.pos,.string (yX t),.int .i64 num,.slice x.kA x.kids.length x.kc]):=yD (Blk.zAa (by simp));have AK:=yD (hS.ext AU.out);have AX:Hid (vU w ((w.alloc (.cells #[.pointer (some ⟨g,0,none⟩)] 77)).alloc (.cells #[.int .u8 17,.int .i64 x.pos,.string (yX t),.int .i64 num,.slice x.kA x.kids.length x.kc] 48)) B g):=yD (vU.ext AU.out);have HE:Hid (∀args w,(callFunc 138 args).run Tryz.prog w=.ok (.enter 138 args) w):=yD (enters_of Tryz.func138 (by kernel_rfl) rfl);clear hS;unfold jF;rw[hk,ht,hnum]
 go_enter Tryz.func89,Tryz.ntmps89
 go_upto_region 1 with fail
 try simp only[size_alloc]
 have AJ:Hid (w.heap.size≠g):=yD (by have:=Aa.out; omega);have AG:Hid (w.heap.size+1≠g):=yD (by have:=Aa.out; omega);generalize w.heap.size+1=gn at AC AG ⊢;generalize w.heap.size=gp at AF AJ ⊢;generalize ((w.alloc (.cells #[.pointer (some ⟨g,0,none⟩)] 77)).alloc (.cells #[.int .u8 17,.int .i64 x.pos,.string (yX t),.int .i64 num,.slice x.kA x.kids.length x.kc] 48))=w1 at *;have AN:=yD (Ae.out.trans AU.out);have AW:=yD (Ad.out.ext AN.out);have Aw:Hid (Blk w1 gn 48 #[.int .u8 x.kind,.int .i64 x.pos,.string x.text,.int .i64 x.num,.slice x.kA x.kids.length x.kc]):=yD (by rw[hk,ht,hnum]; exact AC.out);have Ac:=yD AF.out.lt;have Ay:=yD AC.out.lt;have Ai:=yD (Ab.out.prT AN.out AK.out);have Aq:=yD (Ah.out w1 v bs d AN.out AK.out);have he:=HE.out;have AV:Hid (0<ks.length):=yD (by have:=As.out; have:=Ao.out; omega)
 have AS:Hid (∀w',Ext w1 w'→Calls Tryz.prog 138 #[.int .i64 0,.pointer (some ⟨gp,0,none⟩),.pointer (some ⟨gn,0,none⟩)] w' fun e Ag=>e=.returned (.string (yX (ls.getD 0 [])))∧Ext w' Ag):=yD fun w' hx=>by
  obtain⟨y,h1,h2,h3⟩:=Aq.out 0 AV.out;exact ZV w' g n c gp gn A L (Ai.out.ext hx) x (AF.out.ext hx) (Aw.out.ext hx) (AW.out.ext hx) 0 (ks[0]'AV.out) (kk.getD 0 0) (by rw[Au.out]; exact AV.out) (by simp only[Ak.out,xK,zA]) (ls.getD 0 []) ⟨y,h1,h2,fun w2 AD=>h3 w2 (hx.trans AD)⟩
 replace AB:Hid (xR d [[101,109,105,116,32],(ls.getD 0 []),[59]]=AE):=AB
 generalize ls.getD 0 []=l0 at *;obtain⟨T1,AP⟩:∃b,Hid (xR d [[101,109,105,116,32],l0,[59]]=b):=⟨_,yD rfl⟩;rw[AP.out] at AB;have n0:w1.cell? ⟨gn,0,none⟩=some (.int .u8 17):=AC.out.cell 0;have n1:w1.cell? ⟨gn,1,none⟩=some (.int .i64 x.pos):=AC.out.cell 1;have n2:w1.cell? ⟨gn,2,none⟩=some (.string (yX t)):=AC.out.cell 2;have n3:w1.cell? ⟨gn,3,none⟩=some (.int .i64 num):=AC.out.cell 3;have n4:w1.cell? ⟨gn,4,none⟩=some (.slice x.kA x.kids.length x.kc):=AC.out.cell 4;have p0:w1.cell? ⟨gp,0,none⟩=some (.pointer (some ⟨g,0,none⟩)):=AF.out.cell 0;have HR:Hid (bs++(T1++[])=bs++AE):=yD (by rw[List.append_nil,AB.out])
 go_upto_region 31 with fail
 apply xE 4 (by kernel_rfl) (by kernel_rfl) (by kernel_rfl);apply xA (.pointer (some ⟨g,0,none⟩)) rfl rfl rfl
 ·intro w' AL hH;clear hH;have yp:=(AL.cell (p:=⟨gp,0,none⟩) Ac.out).trans p0;simp[yY,go_sem,yp];exact Ext.refl _
 apply sQ (.func (.func 138) #[] #[.pointer (some ⟨gp,0,none⟩),.pointer (some ⟨gn,0,none⟩)]);apply xA (.string (yX l0)) rfl rfl rfl
 ·intro w' AL hH;clear hH;simp[yY,go_sem,he];refine(AS.out w' AL).mono ?_;rintro e w2 ⟨rfl,AD⟩;exact⟨_,rfl,rfl,AD⟩
 apply vF (JJ 9 3 (VS [[101,109,105,116,32],l0,[59]])) (fun v a b h k=>JJ.ext v a b h k) rfl rfl rfl
 ·intro w' AL hH;clear hH;simp[yY,go_sem];exact⟨⟨_,rfl,Blk.new w' _ _⟩,Ext.alloc _ _⟩
 intro Aj;apply vA;intro w2 AD hH;obtain⟨pb,rfl,AO⟩:=hH _ (List.mem_cons_self ..);clear hH p0 n0 n1 n2 n3 n4
 try simp only[Act.put,yA,yC,yB]
 have AQ:=yD (AK.out.ext AD);have AR:=yD (AX.out.trans (vU.ext AD));have AZ:=yD (AF.out.ext AD);have AY:=yD (AC.out.ext AD);clear AD AK AX AF AC
 go_wp2_with fail
 refine(ZK w2 B g A n c _ bs d [[101,109,105,116,32],l0,[59]] pb 3 AQ.out rfl (by have:=Ap.out; omega) (by simp) AO (fun e=>by obtain⟨ad,hb⟩:=AQ.out.any; subst e; exact Blk.differ AO hb (by decide) rfl) (by
  have h8:=congrArg List.length HR.out;have h9:=AI.out;rw[AP.out];simp only[yM,zK] at h8 h9 ⊢
  omega) (Nat.le_trans Af.out AR.out.size)).mono ?_
 rintro e w3 ⟨rfl,⟨v3,hu⟩,hm⟩
 replace hu:=hu.prS Ax.out
 rw[AP.out] at hu;clear AO;have Am:=yD (AR.out.trans hm);have A3:=yD (hm.blk AZ.out AJ.out (by decide));have A4:=yD (hm.blk AY.out AG.out (by decide))
 replace HR:=yD ((List.append_assoc _ _ _).trans HR.out)
 have Al:=yD hu;clear hu hm AR AZ AY AQ;generalize bs++T1=b1 at *
 replace HR:=yD ((List.append_nil _).symm.trans HR.out)
 have Ar:=Am.out;have AM:=Al.out
 go_wp2_with fail
 go_end0;have h8:=HR.out;exact⟨rfl,⟨_,by rw[←h8]; exact AM⟩,Ar⟩
theorem zSc (w0:World)(B g n c:Nat)(A:Option Addr)(L:List TT.xC)(hB:zAp w0 B n A L)(x:TT.xC)(hx:Cells w0 x.kA (TT.xL x.kids))(k:Nat)(t:Bs)(num:Int)(ks kk:List Nat)(ls:List Bs)(hk:x.kind=(k:Int))(ht:x.text=yX t)(hnum:x.num=num)(hks:x.kids=xK ks)(hnk:xU k t num kk)(hl1:kk.length=ks.length)(hl2:ls.length=ks.length)(hkb:ks.length≤100000)(hsz:zAD ls≤1099511627776)
  (HT:∀(w:World) (v:Value) (bs:Bs) (d:Nat),Ext w0 w→PrS w B g A n c v bs d→∀j (hj:j<ks.length),zDr w g L ks[j] (kk.getD j 0) (ls.getD j []))
  (D:Nat) (bks:Nat→List Bs) (HBK:∀j (hj:j<ks.length),kk.getD j 0=6→∃y,L[ks[j]]?=some y∧VE w0 B g n c A y D fun d=>(bks d).getD j []) (h18:k=18) :
  zAY w0 B g n c A x (D+1) fun d=>xW d k t num ls (bks (d+1)):=by
 intro w v bs d AR hS hd AA;subst h18;obtain⟨Aj,Ag⟩:∃b,Hid (bks (d+1)=b):=⟨_,yD rfl⟩;obtain⟨AD,AB⟩:∃b,Hid (xW d 18 t num ls Aj=b):=⟨_,yD rfl⟩
 show Calls Tryz.prog 89 #[.pointer (some ⟨g,0,none⟩),jF x] w fun e w'=>e=.returned (.tuple #[])∧zCh w B g A n c (bs++xW d 18 t num ls (bks (d+1))) d w'
 replace AA:bs.length+(xW d 18 t num ls (bks (d+1))).length≤140737488355328:=AA
 rw[Ag.out,AB.out] at AA ⊢;have AG:Hid ((bs++AD).length≤140737488355328):=yD (by rw[yM]; exact AA);have AZ:=yD hB;have Aa:=yD hx;have Av:=yD hks;have Aq:=yD hnk;have Aw:=yD hl1;have At:=yD hl2;have Ar:=yD hkb;have Ad:=yD HT;have Al:=yD HBK;have Ab:=yD AR;have Am:=yD hS.lo;have Ah:=yD hd;have Ap:=yD hsz;have A0:=yD (XG hnk);have Ac:Hid (B≤w.heap.size):=yD (by rw[←hB.size]; exact AR.size);have A1:Hid (x.kids.length=ks.length):=yD (by rw[hks]; simp[xK]);obtain⟨Ay,AF⟩:=hS.any;have AY:=yD AF.lt;clear hB hx hks hnk hl1 hl2 hkb HT HBK AR AA hd hsz AF;have AT:Hid (Ext w ((w.alloc (.cells #[.pointer (some ⟨g,0,none⟩)] 77)).alloc (.cells #[.int .u8 18,.int .i64 x.pos,.string (yX t),.int .i64 num,.slice x.kA x.kids.length x.kc] 48))):=yD ((Ext.alloc _ _).trans (Ext.alloc _ _));have AI:Hid (Blk ((w.alloc (.cells #[.pointer (some ⟨g,0,none⟩)] 77)).alloc (.cells #[.int .u8 18,.int .i64 x.pos,.string (yX t),.int .i64 num,.slice x.kA x.kids.length x.kc] 48)) w.heap.size 77 #[.pointer (some ⟨g,0,none⟩)]):=yD ((Blk.new _ _ _).alloc _)
 have AC:Hid (Blk ((w.alloc (.cells #[.pointer (some ⟨g,0,none⟩)] 77)).alloc (.cells #[.int .u8 18,.int .i64 x.pos,.string (yX t),.int .i64 num,.slice x.kA x.kids.length x.kc] 48)) (w.heap.size+1) 48 #[.int .u8 18,.int .i64 x.pos,.string (yX t),.int .i64 num,.slice x.kA x.kids.length x.kc]):=yD (Blk.zAa (by simp));have AK:=yD (hS.ext AT.out);have AV:Hid (vU w ((w.alloc (.cells #[.pointer (some ⟨g,0,none⟩)] 77)).alloc (.cells #[.int .u8 18,.int .i64 x.pos,.string (yX t),.int .i64 num,.slice x.kA x.kids.length x.kc] 48)) B g):=yD (vU.ext AT.out);have HE:Hid (∀args w,(callFunc 138 args).run Tryz.prog w=.ok (.enter 138 args) w):=yD (enters_of Tryz.func138 (by kernel_rfl) rfl);clear hS;unfold jF;rw[hk,ht,hnum]
 go_enter Tryz.func89,Tryz.ntmps89
 go_upto_region 1 with fail
 try simp only[size_alloc]
 have AJ:Hid (w.heap.size≠g):=yD (by have:=AY.out; omega);have AE:Hid (w.heap.size+1≠g):=yD (by have:=AY.out; omega);generalize w.heap.size+1=gn at AC AE ⊢;generalize w.heap.size=gp at AI AJ ⊢;generalize ((w.alloc (.cells #[.pointer (some ⟨g,0,none⟩)] 77)).alloc (.cells #[.int .u8 18,.int .i64 x.pos,.string (yX t),.int .i64 num,.slice x.kA x.kids.length x.kc] 48))=w1 at *;have AM:=yD (Ab.out.trans AT.out);have Ak:=yD (Aa.out.ext AM.out);have A2:Hid (Blk w1 gn 48 #[.int .u8 x.kind,.int .i64 x.pos,.string x.text,.int .i64 x.num,.slice x.kA x.kids.length x.kc]):=yD (by rw[hk,ht,hnum]; exact AC.out);have An:=yD AI.out.lt;have Ao:=yD AC.out.lt;have As:=yD (AZ.out.prT AM.out AK.out);have Az:=yD (Ad.out w1 v bs d AM.out AK.out);have he:=HE.out
 replace AB:Hid (xR d [[114,111,108,108,98,97,99,107,59]]=AD):=AB
 obtain⟨T1,AO⟩:∃b,Hid (xR d [[114,111,108,108,98,97,99,107,59]]=b):=⟨_,yD rfl⟩;rw[AO.out] at AB;have n0:w1.cell? ⟨gn,0,none⟩=some (.int .u8 18):=AC.out.cell 0;have n1:w1.cell? ⟨gn,1,none⟩=some (.int .i64 x.pos):=AC.out.cell 1;have n2:w1.cell? ⟨gn,2,none⟩=some (.string (yX t)):=AC.out.cell 2;have n3:w1.cell? ⟨gn,3,none⟩=some (.int .i64 num):=AC.out.cell 3;have n4:w1.cell? ⟨gn,4,none⟩=some (.slice x.kA x.kids.length x.kc):=AC.out.cell 4;have p0:w1.cell? ⟨gp,0,none⟩=some (.pointer (some ⟨g,0,none⟩)):=AI.out.cell 0;have HR:Hid (bs++(T1++[])=bs++AD):=yD (by rw[List.append_nil,AB.out])
 go_upto_region 33 with fail
 have AU:Hid (Ext w1 (w1.alloc (.cells #[.string ⟨#[114,111,108,108,98,97,99,107,59]⟩] 9))):=yD (Ext.alloc _ _);have AS:Hid (Blk (w1.alloc (.cells #[.string ⟨#[114,111,108,108,98,97,99,107,59]⟩] 9)) w1.heap.size 9 #[.string ⟨#[114,111,108,108,98,97,99,107,59]⟩]):=yD (Blk.new _ _ _)
 go_wp2_with fail
 clear p0 n0 n1 n2 n3 n4;generalize w1.heap.size=pb at AS ⊢;generalize w1.alloc (.cells #[.string ⟨#[114,111,108,108,98,97,99,107,59]⟩] 9)=w2 at *;have AN:Blk w2 pb 9 (VS [[114,111,108,108,98,97,99,107,59]]):=AS.out;have AH:=AU.out;clear AS AU;have AP:=yD (AK.out.ext AH);have AQ:=yD (AV.out.trans (vU.ext AH));have AX:=yD (AI.out.ext AH);have AW:=yD (AC.out.ext AH);clear AH AK AV AI AC
 refine(ZK w2 B g A n c _ bs d [[114,111,108,108,98,97,99,107,59]] pb 1 AP.out rfl (by have:=Ah.out; omega) (by simp) AN (fun e=>by obtain⟨ad,hb⟩:=AP.out.any; subst e; exact Blk.differ AN hb (by decide) rfl) (by
  have h8:=congrArg List.length HR.out;have h9:=AG.out;rw[AO.out];simp only[yM,zK] at h8 h9 ⊢
  omega) (Nat.le_trans Ac.out AQ.out.size)).mono ?_
 rintro e w3 ⟨rfl,⟨v3,hu⟩,hm⟩
 replace hu:=hu.prS Am.out
 rw[AO.out] at hu;clear AN;have Af:=yD (AQ.out.trans hm);have Au:=yD (hm.blk AX.out AJ.out (by decide));have Ax:=yD (hm.blk AW.out AE.out (by decide))
 replace HR:=yD ((List.append_assoc _ _ _).trans HR.out)
 have Ae:=yD hu;clear hu hm AQ AX AW AP;generalize bs++T1=b1 at *
 replace HR:=yD ((List.append_nil _).symm.trans HR.out)
 have Ai:=Af.out;have AL:=Ae.out
 go_wp2_with fail
 go_end0;have h8:=HR.out;exact⟨rfl,⟨_,by rw[←h8]; exact AL⟩,Ai⟩
theorem zTe (w0:World)(B g n c:Nat)(A:Option Addr)(L:List TT.xC)(hB:zAp w0 B n A L)(x:TT.xC)(hx:Cells w0 x.kA (TT.xL x.kids))(k:Nat)(t:Bs)(num:Int)(ks kk:List Nat)(ls:List Bs)(hk:x.kind=(k:Int))(ht:x.text=yX t)(hnum:x.num=num)(hks:x.kids=xK ks)(hnk:xU k t num kk)(hl1:kk.length=ks.length)(hl2:ls.length=ks.length)(hkb:ks.length≤100000)(hsz:zAD ls≤1099511627776)
  (HT:∀(w:World) (v:Value) (bs:Bs) (d:Nat),Ext w0 w→PrS w B g A n c v bs d→∀j (hj:j<ks.length),zDr w g L ks[j] (kk.getD j 0) (ls.getD j []))
  (D:Nat) (bks:Nat→List Bs) (HBK:∀j (hj:j<ks.length),kk.getD j 0=6→∃y,L[ks[j]]?=some y∧VE w0 B g n c A y D fun d=>(bks d).getD j []) (h19:k=19) :
  zAY w0 B g n c A x (D+1) fun d=>xW d k t num ls (bks (d+1)):=by
 intro w v bs d AR hS hd AA;subst h19;obtain⟨Aj,Ag⟩:∃b,Hid (bks (d+1)=b):=⟨_,yD rfl⟩;obtain⟨AD,AB⟩:∃b,Hid (xW d 19 t num ls Aj=b):=⟨_,yD rfl⟩
 show Calls Tryz.prog 89 #[.pointer (some ⟨g,0,none⟩),jF x] w fun e w'=>e=.returned (.tuple #[])∧zCh w B g A n c (bs++xW d 19 t num ls (bks (d+1))) d w'
 replace AA:bs.length+(xW d 19 t num ls (bks (d+1))).length≤140737488355328:=AA
 rw[Ag.out,AB.out] at AA ⊢;have AG:Hid ((bs++AD).length≤140737488355328):=yD (by rw[yM]; exact AA);have AZ:=yD hB;have Aa:=yD hx;have Av:=yD hks;have Aq:=yD hnk;have Aw:=yD hl1;have At:=yD hl2;have Ar:=yD hkb;have Ad:=yD HT;have Al:=yD HBK;have Ab:=yD AR;have Am:=yD hS.lo;have Ah:=yD hd;have Ap:=yD hsz;have A0:=yD (XG hnk);have Ac:Hid (B≤w.heap.size):=yD (by rw[←hB.size]; exact AR.size);have A1:Hid (x.kids.length=ks.length):=yD (by rw[hks]; simp[xK]);obtain⟨Ay,AF⟩:=hS.any;have AY:=yD AF.lt;clear hB hx hks hnk hl1 hl2 hkb HT HBK AR AA hd hsz AF;have AT:Hid (Ext w ((w.alloc (.cells #[.pointer (some ⟨g,0,none⟩)] 77)).alloc (.cells #[.int .u8 19,.int .i64 x.pos,.string (yX t),.int .i64 num,.slice x.kA x.kids.length x.kc] 48))):=yD ((Ext.alloc _ _).trans (Ext.alloc _ _));have AI:Hid (Blk ((w.alloc (.cells #[.pointer (some ⟨g,0,none⟩)] 77)).alloc (.cells #[.int .u8 19,.int .i64 x.pos,.string (yX t),.int .i64 num,.slice x.kA x.kids.length x.kc] 48)) w.heap.size 77 #[.pointer (some ⟨g,0,none⟩)]):=yD ((Blk.new _ _ _).alloc _)
 have AC:Hid (Blk ((w.alloc (.cells #[.pointer (some ⟨g,0,none⟩)] 77)).alloc (.cells #[.int .u8 19,.int .i64 x.pos,.string (yX t),.int .i64 num,.slice x.kA x.kids.length x.kc] 48)) (w.heap.size+1) 48 #[.int .u8 19,.int .i64 x.pos,.string (yX t),.int .i64 num,.slice x.kA x.kids.length x.kc]):=yD (Blk.zAa (by simp));have AK:=yD (hS.ext AT.out);have AV:Hid (vU w ((w.alloc (.cells #[.pointer (some ⟨g,0,none⟩)] 77)).alloc (.cells #[.int .u8 19,.int .i64 x.pos,.string (yX t),.int .i64 num,.slice x.kA x.kids.length x.kc] 48)) B g):=yD (vU.ext AT.out);have HE:Hid (∀args w,(callFunc 138 args).run Tryz.prog w=.ok (.enter 138 args) w):=yD (enters_of Tryz.func138 (by kernel_rfl) rfl);clear hS;unfold jF;rw[hk,ht,hnum]
 go_enter Tryz.func89,Tryz.ntmps89
 go_upto_region 1 with fail
 try simp only[size_alloc]
 have AJ:Hid (w.heap.size≠g):=yD (by have:=AY.out; omega);have AE:Hid (w.heap.size+1≠g):=yD (by have:=AY.out; omega);generalize w.heap.size+1=gn at AC AE ⊢;generalize w.heap.size=gp at AI AJ ⊢;generalize ((w.alloc (.cells #[.pointer (some ⟨g,0,none⟩)] 77)).alloc (.cells #[.int .u8 19,.int .i64 x.pos,.string (yX t),.int .i64 num,.slice x.kA x.kids.length x.kc] 48))=w1 at *;have AM:=yD (Ab.out.trans AT.out);have Ak:=yD (Aa.out.ext AM.out);have A2:Hid (Blk w1 gn 48 #[.int .u8 x.kind,.int .i64 x.pos,.string x.text,.int .i64 x.num,.slice x.kA x.kids.length x.kc]):=yD (by rw[hk,ht,hnum]; exact AC.out);have An:=yD AI.out.lt;have Ao:=yD AC.out.lt;have As:=yD (AZ.out.prT AM.out AK.out);have Az:=yD (Ad.out w1 v bs d AM.out AK.out);have he:=HE.out
 replace AB:Hid (xR d [[99,104,111,112,59]]=AD):=AB
 obtain⟨T1,AO⟩:∃b,Hid (xR d [[99,104,111,112,59]]=b):=⟨_,yD rfl⟩;rw[AO.out] at AB;have n0:w1.cell? ⟨gn,0,none⟩=some (.int .u8 19):=AC.out.cell 0;have n1:w1.cell? ⟨gn,1,none⟩=some (.int .i64 x.pos):=AC.out.cell 1;have n2:w1.cell? ⟨gn,2,none⟩=some (.string (yX t)):=AC.out.cell 2;have n3:w1.cell? ⟨gn,3,none⟩=some (.int .i64 num):=AC.out.cell 3;have n4:w1.cell? ⟨gn,4,none⟩=some (.slice x.kA x.kids.length x.kc):=AC.out.cell 4;have p0:w1.cell? ⟨gp,0,none⟩=some (.pointer (some ⟨g,0,none⟩)):=AI.out.cell 0;have HR:Hid (bs++(T1++[])=bs++AD):=yD (by rw[List.append_nil,AB.out])
 go_upto_region 35 with fail
 have AU:Hid (Ext w1 (w1.alloc (.cells #[.string ⟨#[99,104,111,112,59]⟩] 9))):=yD (Ext.alloc _ _);have AS:Hid (Blk (w1.alloc (.cells #[.string ⟨#[99,104,111,112,59]⟩] 9)) w1.heap.size 9 #[.string ⟨#[99,104,111,112,59]⟩]):=yD (Blk.new _ _ _)
 go_wp2_with fail
 clear p0 n0 n1 n2 n3 n4;generalize w1.heap.size=pb at AS ⊢;generalize w1.alloc (.cells #[.string ⟨#[99,104,111,112,59]⟩] 9)=w2 at *;have AN:Blk w2 pb 9 (VS [[99,104,111,112,59]]):=AS.out;have AH:=AU.out;clear AS AU;have AP:=yD (AK.out.ext AH);have AQ:=yD (AV.out.trans (vU.ext AH));have AX:=yD (AI.out.ext AH);have AW:=yD (AC.out.ext AH);clear AH AK AV AI AC
 refine(ZK w2 B g A n c _ bs d [[99,104,111,112,59]] pb 1 AP.out rfl (by have:=Ah.out; omega) (by simp) AN (fun e=>by obtain⟨ad,hb⟩:=AP.out.any; subst e; exact Blk.differ AN hb (by decide) rfl) (by
  have h8:=congrArg List.length HR.out;have h9:=AG.out;rw[AO.out];simp only[yM,zK] at h8 h9 ⊢
  omega) (Nat.le_trans Ac.out AQ.out.size)).mono ?_
 rintro e w3 ⟨rfl,⟨v3,hu⟩,hm⟩
 replace hu:=hu.prS Am.out
 rw[AO.out] at hu;clear AN;have Af:=yD (AQ.out.trans hm);have Au:=yD (hm.blk AX.out AJ.out (by decide));have Ax:=yD (hm.blk AW.out AE.out (by decide))
 replace HR:=yD ((List.append_assoc _ _ _).trans HR.out)
 have Ae:=yD hu;clear hu hm AQ AX AW AP;generalize bs++T1=b1 at *
 replace HR:=yD ((List.append_nil _).symm.trans HR.out)
 have Ai:=Af.out;have AL:=Ae.out
 go_wp2_with fail
 go_end0;have h8:=HR.out;exact⟨rfl,⟨_,by rw[←h8]; exact AL⟩,Ai⟩
theorem zR2 (w0:World)(B g n c:Nat)(A:Option Addr)(L:List TT.xC)(hB:zAp w0 B n A L)(x:TT.xC)(hx:Cells w0 x.kA (TT.xL x.kids))(k:Nat)(t:Bs)(num:Int)(ks kk:List Nat)(ls:List Bs)(hk:x.kind=(k:Int))(ht:x.text=yX t)(hnum:x.num=num)(hks:x.kids=xK ks)(hnk:xU k t num kk)(hl1:kk.length=ks.length)(hl2:ls.length=ks.length)(hkb:ks.length≤100000)(hsz:zAD ls≤1099511627776)
  (HT:∀(w:World) (v:Value) (bs:Bs) (d:Nat),Ext w0 w→PrS w B g A n c v bs d→∀j (hj:j<ks.length),zDr w g L ks[j] (kk.getD j 0) (ls.getD j []))
  (D:Nat) (bks:Nat→List Bs) (HBK:∀j (hj:j<ks.length),kk.getD j 0=6→∃y,L[ks[j]]?=some y∧VE w0 B g n c A y D fun d=>(bks d).getD j []) (h15:k=15) :
  zAY w0 B g n c A x (D+1) fun d=>xW d k t num ls (bks (d+1)):=by
 intro w v bs d Ag hS hd AD;subst h15;obtain⟨Am,BB⟩:∃b,Hid (bks (d+1)=b):=⟨_,yD rfl⟩;obtain⟨AK,AC⟩:∃b,Hid (xW d 15 t num ls Am=b):=⟨_,yD rfl⟩
 show Calls Tryz.prog 89 #[.pointer (some ⟨g,0,none⟩),jF x] w fun e w'=>e=.returned (.tuple #[])∧zCh w B g A n c (bs++xW d 15 t num ls (bks (d+1))) d w'
 replace AD:bs.length+(xW d 15 t num ls (bks (d+1))).length≤140737488355328:=AD
 rw[BB.out,AC.out] at AD ⊢;have AE:Hid ((bs++AK).length≤140737488355328):=yD (by rw[yM]; exact AD);have AV:=yD hB;have BI:=yD hx;have Ai:=yD hks;have Bb:=yD hnk;have Al:=yD hl1;have Bf:=yD hl2;have Be:=yD hkb;have BW:=yD HT;have A5:=yD HBK;have Aa:=yD Ag;have AY:=yD hS.lo;have Ay:=yD hd;have Ba:=yD hsz;have AX:=yD (XG hnk);have BK:Hid (B≤w.heap.size):=yD (by rw[←hB.size]; exact Ag.size);have An:Hid (x.kids.length=ks.length):=yD (by rw[hks]; simp[xK]);obtain⟨Bc,AR⟩:=hS.any;have BC:=yD AR.lt;clear hB hx hks hnk hl1 hl2 hkb HT HBK Ag AD hd hsz AR;have Aj:Hid (Ext w ((w.alloc (.cells #[.pointer (some ⟨g,0,none⟩)] 77)).alloc (.cells #[.int .u8 15,.int .i64 x.pos,.string (yX t),.int .i64 num,.slice x.kA x.kids.length x.kc] 48))):=yD ((Ext.alloc _ _).trans (Ext.alloc _ _));have AN:Hid (Blk ((w.alloc (.cells #[.pointer (some ⟨g,0,none⟩)] 77)).alloc (.cells #[.int .u8 15,.int .i64 x.pos,.string (yX t),.int .i64 num,.slice x.kA x.kids.length x.kc] 48)) w.heap.size 77 #[.pointer (some ⟨g,0,none⟩)]):=yD ((Blk.new _ _ _).alloc _)
 have AF:Hid (Blk ((w.alloc (.cells #[.pointer (some ⟨g,0,none⟩)] 77)).alloc (.cells #[.int .u8 15,.int .i64 x.pos,.string (yX t),.int .i64 num,.slice x.kA x.kids.length x.kc] 48)) (w.heap.size+1) 48 #[.int .u8 15,.int .i64 x.pos,.string (yX t),.int .i64 num,.slice x.kA x.kids.length x.kc]):=yD (Blk.zAa (by simp));have AZ:=yD (hS.ext Aj.out);have BM:Hid (vU w ((w.alloc (.cells #[.pointer (some ⟨g,0,none⟩)] 77)).alloc (.cells #[.int .u8 15,.int .i64 x.pos,.string (yX t),.int .i64 num,.slice x.kA x.kids.length x.kc] 48)) B g):=yD (vU.ext Aj.out);have HE:Hid (∀args w,(callFunc 138 args).run Tryz.prog w=.ok (.enter 138 args) w):=yD (enters_of Tryz.func138 (by kernel_rfl) rfl);clear hS;unfold jF;rw[hk,ht,hnum]
 go_enter Tryz.func89,Tryz.ntmps89
 go_upto_region 1 with fail
 try simp only[size_alloc]
 have AH:Hid (w.heap.size≠g):=yD (by have:=BC.out; omega);have AG:Hid (w.heap.size+1≠g):=yD (by have:=BC.out; omega);generalize w.heap.size+1=gn at AF AG ⊢;generalize w.heap.size=gp at AN AH ⊢;generalize ((w.alloc (.cells #[.pointer (some ⟨g,0,none⟩)] 77)).alloc (.cells #[.int .u8 15,.int .i64 x.pos,.string (yX t),.int .i64 num,.slice x.kA x.kids.length x.kc] 48))=w1 at *;have At:=yD (Aa.out.trans Aj.out);have AQ:=yD (BI.out.ext At.out);have BR:Hid (Blk w1 gn 48 #[.int .u8 x.kind,.int .i64 x.pos,.string x.text,.int .i64 x.num,.slice x.kA x.kids.length x.kc]):=yD (by rw[hk,ht,hnum]; exact AF.out);have HGP:=yD AN.out.lt;have HGN:=yD AF.out.lt;have BA:=yD (AV.out.prT At.out AZ.out);have BE:=yD (BW.out w1 v bs d At.out AZ.out);have he:=HE.out;have A1:Hid (0<ks.length):=yD (by have:=AX.out; have:=Al.out; omega)
 have Av:Hid (∀w',Ext w1 w'→Calls Tryz.prog 138 #[.int .i64 0,.pointer (some ⟨gp,0,none⟩),.pointer (some ⟨gn,0,none⟩)] w' fun e AM=>e=.returned (.string (yX (ls.getD 0 [])))∧Ext w' AM):=yD fun w' hx=>by
  obtain⟨y,h1,h2,h3⟩:=BE.out 0 A1.out;exact ZV w' g n c gp gn A L (BA.out.ext hx) x (AN.out.ext hx) (BR.out.ext hx) (AQ.out.ext hx) 0 (ks[0]'A1.out) (kk.getD 0 0) (by rw[An.out]; exact A1.out) (by simp only[Ai.out,xK,zA]) (ls.getD 0 []) ⟨y,h1,h2,fun w2 AB=>h3 w2 (hx.trans AB)⟩
 have Ax:Hid (1<ks.length):=yD (by have:=AX.out; have:=Al.out; omega)
 have As:Hid (∀w',Ext w1 w'→Calls Tryz.prog 138 #[.int .i64 1,.pointer (some ⟨gp,0,none⟩),.pointer (some ⟨gn,0,none⟩)] w' fun e AM=>e=.returned (.string (yX (ls.getD 1 [])))∧Ext w' AM):=yD fun w' hx=>by
  obtain⟨y,h1,h2,h3⟩:=BE.out 1 Ax.out;exact ZV w' g n c gp gn A L (BA.out.ext hx) x (AN.out.ext hx) (BR.out.ext hx) (AQ.out.ext hx) 1 (ks[1]'Ax.out) (kk.getD 1 0) (by rw[An.out]; exact Ax.out) (by simp only[Ai.out,xK,zA]) (ls.getD 1 []) ⟨y,h1,h2,fun w2 AB=>h3 w2 (hx.trans AB)⟩
 replace AC:Hid (xR d [[102,111,114,32],t,[32,61,32],(ls.getD 0 []),[32,116,111,32],(ls.getD 1 []),[32,123]]++(Am.getD 2 []++xR d [[125]])=AK):=AC
 have A4:Hid (2<ks.length):=yD (by have:=AX.out; have:=Al.out; omega);have A2:Hid (kk.getD 2 0=6):=yD (by have:=AX.out; omega);obtain⟨y2,BP,AT⟩:=A5.out 2 A4.out A2.out;have Az:=yD AT
 have Ac:Hid (∀(w':World) (v':Value) (BJ:Bs),Ext w0 w'→PrS w' B g A n c v' BJ d→Calls Tryz.prog 40 #[.pointer (some ⟨g,0,none⟩),.agg #[.int .u8 15,.int .i64 x.pos,.string (yX t),.int .i64 num,.slice x.kA x.kids.length x.kc],.int .i64 2] w' fun e AM=>e=.returned (jF y2)∧Ext w' AM):=yD fun w' v' BJ hx hs=>by
  have hp:=AV.out.prT hx hs
  have:=zA0 w' g n c A L hp.tree hp.len hp.at0 hp.lt x (BI.out.ext hx) 2 (ks[2]'A4.out) (by rw[An.out]; exact A4.out) (by simp only[Ai.out,xK,zA]) (List.getElem?_eq_some_iff.1 BP).1 y2 BP
  unfold jF at this ⊢;rw[hk,ht,hnum] at this;exact this
 clear AT;obtain⟨G2,AO⟩:∃b,Hid (Am.getD 2 []=b):=⟨_,yD rfl⟩;have A9:Hid ((bks (d+1)).getD 2 []=G2):=yD (by rw[BB.out]; exact AO.out);rw[AO.out] at AC;clear AO;obtain⟨T9,Ao⟩:∃b,Hid (xR d [[125]]=b):=⟨_,yD rfl⟩;rw[Ao.out] at AC;generalize ls.getD 0 []=l0 at *;generalize ls.getD 1 []=l1 at *;obtain⟨T1,Au⟩:∃b,Hid (xR d [[102,111,114,32],t,[32,61,32],l0,[32,116,111,32],l1,[32,123]]=b):=⟨_,yD rfl⟩;rw[Au.out] at AC;have n0:w1.cell? ⟨gn,0,none⟩=some (.int .u8 15):=AF.out.cell 0;have n1:w1.cell? ⟨gn,1,none⟩=some (.int .i64 x.pos):=AF.out.cell 1;have n2:w1.cell? ⟨gn,2,none⟩=some (.string (yX t)):=AF.out.cell 2;have n3:w1.cell? ⟨gn,3,none⟩=some (.int .i64 num):=AF.out.cell 3;have n4:w1.cell? ⟨gn,4,none⟩=some (.slice x.kA x.kids.length x.kc):=AF.out.cell 4;have p0:w1.cell? ⟨gp,0,none⟩=some (.pointer (some ⟨g,0,none⟩)):=AN.out.cell 0;have HR:Hid (bs++(T1++(G2++(T9++[])))=bs++AK):=yD (by rw[List.append_nil,AC.out])
 go_upto_region 25 with fail
 apply xE 8 (by kernel_rfl) (by kernel_rfl) (by kernel_rfl);apply xA (.pointer (some ⟨g,0,none⟩)) rfl rfl rfl
 ·intro w' AA hH;clear hH;have yp:=(AA.cell (p:=⟨gp,0,none⟩) HGP.out).trans p0;simp[yY,go_sem,yp];exact Ext.refl _
 apply sQ (.pointer (some ⟨gn,2,none⟩));apply xA (.string (yX t)) rfl rfl rfl
 ·intro w' AA hH;clear hH;have y2:=(AA.cell (p:=⟨gn,2,none⟩) HGN.out).trans n2;simp[yY,go_sem,y2];exact Ext.refl _
 apply sQ (.func (.func 138) #[] #[.pointer (some ⟨gp,0,none⟩),.pointer (some ⟨gn,0,none⟩)]);apply xA (.string (yX l0)) rfl rfl rfl
 ·intro w' AA hH;clear hH;simp[yY,go_sem,he];refine(Av.out w' AA).mono ?_;rintro e w2 ⟨rfl,AB⟩;exact⟨_,rfl,rfl,AB⟩
 apply sQ (.func (.func 138) #[] #[.pointer (some ⟨gp,0,none⟩),.pointer (some ⟨gn,0,none⟩)]);apply xA (.string (yX l1)) rfl rfl rfl
 ·intro w' AA hH;clear hH;simp[yY,go_sem,he];refine(As.out w' AA).mono ?_;rintro e w2 ⟨rfl,AB⟩;exact⟨_,rfl,rfl,AB⟩
 apply vF (JJ 9 7 (VS [[102,111,114,32],t,[32,61,32],l0,[32,116,111,32],l1,[32,123]])) (fun v a b h k=>JJ.ext v a b h k) rfl rfl rfl
 ·intro w' AA hH;clear hH;simp[yY,go_sem];exact⟨⟨_,rfl,Blk.new w' _ _⟩,Ext.alloc _ _⟩
 intro BS;apply vA;intro w2 AB hH;obtain⟨pb,rfl,AL⟩:=hH _ (List.mem_cons_self ..);clear hH p0 n0 n1 n2 n3 n4
 try simp only[Act.put,yA,yC,yB]
 have Ad:=yD (AZ.out.ext AB);have Ae:=yD (BM.out.trans (vU.ext AB));have BO:=yD (AN.out.ext AB);have BN:=yD (AF.out.ext AB);clear AB AZ BM AN AF
 go_wp2_with fail
 refine(ZK w2 B g A n c _ bs d [[102,111,114,32],t,[32,61,32],l0,[32,116,111,32],l1,[32,123]] pb 7 Ad.out rfl (by have:=Ay.out; omega) (by simp) AL (fun e=>by obtain⟨ad,hb⟩:=Ad.out.any; subst e; exact Blk.differ AL hb (by decide) rfl) (by
  have h8:=congrArg List.length HR.out;have h9:=AE.out;rw[Au.out];simp only[yM,zK] at h8 h9 ⊢
  omega) (Nat.le_trans BK.out Ae.out.size)).mono ?_
 rintro e w3 ⟨rfl,⟨v3,hu⟩,hm⟩
 replace hu:=hu.prS AY.out
 rw[Au.out] at hu;clear AL;have Aw:=yD (Ae.out.trans hm);have AW:=yD (hm.blk BO.out AH.out (by decide));have AI:=yD (hm.blk BN.out AG.out (by decide))
 replace HR:=yD ((List.append_assoc _ _ _).trans HR.out)
 have Ak:=yD hu;clear hu hm Ae BO BN Ad;generalize bs++T1=b1 at *;have Ap:=yD (AV.out.ext Aa.out Aw.out AY.out);have AU:Hid (∀w',Ext w3 w'→Calls Tryz.prog 40 #[.pointer (some ⟨g,0,none⟩),.agg #[.int .u8 15,.int .i64 x.pos,.string (yX t),.int .i64 num,.slice x.kA x.kids.length x.kc],.int .i64 2] w' fun e AM=>e=.returned (jF y2)∧Ext w' AM):=yD fun w' hx=>Ac.out w' _ _ (Ap.out.trans hx) (Ak.out.ext hx)
 replace HGP:=yD AW.out.lt
 replace HGN:=yD AI.out.lt
 have n0:w3.cell? ⟨gn,0,none⟩=some (.int .u8 15):=AI.out.cell 0;have n1:w3.cell? ⟨gn,1,none⟩=some (.int .i64 x.pos):=AI.out.cell 1;have n2:w3.cell? ⟨gn,2,none⟩=some (.string (yX t)):=AI.out.cell 2;have n3:w3.cell? ⟨gn,3,none⟩=some (.int .i64 num):=AI.out.cell 3;have n4:w3.cell? ⟨gn,4,none⟩=some (.slice x.kA x.kids.length x.kc):=AI.out.cell 4;have p0:w3.cell? ⟨gp,0,none⟩=some (.pointer (some ⟨g,0,none⟩)):=AW.out.cell 0
 go_upto_region 26 with fail
 apply xE 4 (by kernel_rfl) (by kernel_rfl) (by kernel_rfl);apply xA (.pointer (some ⟨g,0,none⟩)) rfl rfl rfl
 ·intro w' AA hH;clear hH;have yp:=(AA.cell (p:=⟨gp,0,none⟩) HGP.out).trans p0;simp[yY,go_sem,yp];exact Ext.refl _
 apply xA (.pointer (some ⟨g,0,none⟩)) rfl rfl rfl
 ·intro w' AA hH;clear hH;have yp:=(AA.cell (p:=⟨gp,0,none⟩) HGP.out).trans p0;simp[yY,go_sem,yp];exact Ext.refl _
 apply xA (.agg #[.int .u8 15,.int .i64 x.pos,.string (yX t),.int .i64 num,.slice x.kA x.kids.length x.kc]) rfl rfl rfl
 ·intro w' AA hH;clear hH;have y0:=(AA.cell (p:=⟨gn,0,none⟩) HGN.out).trans n0;have y1:=(AA.cell (p:=⟨gn,1,none⟩) HGN.out).trans n1;have y2:=(AA.cell (p:=⟨gn,2,none⟩) HGN.out).trans n2;have y3:=(AA.cell (p:=⟨gn,3,none⟩) HGN.out).trans n3;have y4:=(AA.cell (p:=⟨gn,4,none⟩) HGN.out).trans n4;simp[yY,go_sem,y0,y1,y2,y3,y4];exact Ext.refl _
 apply xA (jF y2) rfl rfl rfl
 ·intro w' AA hH;clear hH;simp[yY,go_sem,he];refine(AU.out w' AA).mono ?_;rintro e w2 ⟨rfl,AB⟩;exact⟨_,rfl,rfl,AB⟩
 apply vA;intro w4 AS hH;clear hH p0 n0 n1 n2 n3 n4
 try simp only[Act.put,yA,yC,yB]
 have BL:=yD (Ak.out.ext AS);have Aq:=yD (Aw.out.trans (vU.ext AS));have BQ:=yD (AW.out.ext AS);have BG:=yD (AI.out.ext AS);clear AS Ak Aw AW AI
 go_wp2_with fail
 have Ar:=yD (AV.out.ext Aa.out Aq.out AY.out)
 refine(Az.out w4 _ b1 d Ar.out BL.out (by have:=Ay.out; omega) (by
  have h8:=congrArg List.length HR.out;have h9:=AE.out
  show _+((bks (d+1)).getD 2 []).length≤_
  rw[A9.out];simp only[yM,zK] at h8 h9 ⊢
  omega)).mono ?_
 rintro e w5 ⟨rfl,⟨v5,hu⟩,hm⟩
 replace hu:PrS w5 B g A n c v5 (b1++(bks (d+1)).getD 2 []) d:=hu
 rw[A9.out] at hu;clear AU;have BF:=yD (Aq.out.trans hm);have Af:=yD (hm.blk BQ.out AH.out (by decide));have AJ:=yD (hm.blk BG.out AG.out (by decide))
 replace HR:=yD ((List.append_assoc _ _ _).trans HR.out)
 have A6:=yD hu;clear hu hm Aq BQ BG BL;generalize b1++G2=b2 at *;have n0:w5.cell? ⟨gn,0,none⟩=some (.int .u8 15):=AJ.out.cell 0;have n1:w5.cell? ⟨gn,1,none⟩=some (.int .i64 x.pos):=AJ.out.cell 1;have n2:w5.cell? ⟨gn,2,none⟩=some (.string (yX t)):=AJ.out.cell 2;have n3:w5.cell? ⟨gn,3,none⟩=some (.int .i64 num):=AJ.out.cell 3;have n4:w5.cell? ⟨gn,4,none⟩=some (.slice x.kA x.kids.length x.kc):=AJ.out.cell 4;have p0:w5.cell? ⟨gp,0,none⟩=some (.pointer (some ⟨g,0,none⟩)):=Af.out.cell 0
 go_upto_region 27 with fail
 have A7:Hid (Ext w5 (w5.alloc (.cells #[.string ⟨#[125]⟩] 9))):=yD (Ext.alloc _ _);have Ah:Hid (Blk (w5.alloc (.cells #[.string ⟨#[125]⟩] 9)) w5.heap.size 9 #[.string ⟨#[125]⟩]):=yD (Blk.new _ _ _)
 go_wp2_with fail
 clear p0 n0 n1 n2 n3 n4;generalize w5.heap.size=pb at Ah ⊢;generalize w5.alloc (.cells #[.string ⟨#[125]⟩] 9)=w6 at *;have AL:Blk w6 pb 9 (VS [[125]]):=Ah.out;have AP:=A7.out;clear Ah A7;have A0:=yD (A6.out.ext AP);have A3:=yD (BF.out.trans (vU.ext AP));have A8:=yD (Af.out.ext AP);have BH:=yD (AJ.out.ext AP);clear AP A6 BF Af AJ
 refine(ZK w6 B g A n c _ b2 d [[125]] pb 1 A0.out rfl (by have:=Ay.out; omega) (by simp) AL (fun e=>by obtain⟨ad,hb⟩:=A0.out.any; subst e; exact Blk.differ AL hb (by decide) rfl) (by
  have h8:=congrArg List.length HR.out;have h9:=AE.out;rw[Ao.out];simp only[yM,zK] at h8 h9 ⊢
  omega) (Nat.le_trans BK.out A3.out.size)).mono ?_
 rintro e w7 ⟨rfl,⟨v7,hu⟩,hm⟩
 replace hu:=hu.prS AY.out
 rw[Ao.out] at hu;clear AL;have BY:=yD (A3.out.trans hm);have BZ:=yD (hm.blk A8.out AH.out (by decide));have Bd:=yD (hm.blk BH.out AG.out (by decide))
 replace HR:=yD ((List.append_assoc _ _ _).trans HR.out)
 have BT:=yD hu;clear hu hm A3 A8 BH A0;generalize b2++T9=b3 at *
 replace HR:=yD ((List.append_nil _).symm.trans HR.out)
 have BV:=BY.out;have Ab:=BT.out
 go_wp2_with fail
 go_end0;have h8:=HR.out;exact⟨rfl,⟨_,by rw[←h8]; exact Ab⟩,BV⟩
end Go.Proofs.YtioffpjajhalaaaGreatDoor
