/- printer.stmt, walked at one node, kind by kind. Condition: what the kids print is known. -/
import Derived.Test.YtioffpjajhalaaaGreatDoorLaa
import Derived.Test.YtioffpjajhalaaaGreatDoorLay
set_option linter.unusedVariables false
set_option linter.unusedSimpArgs false
set_option maxRecDepth 100000
set_option maxHeartbeats 16000000
namespace Go.Proofs.YtioffpjajhalaaaGreatDoor
open Go Go.RowKit
def xP (d k:Nat)(t:Bs)(num:Int)(ls bk:List Bs):Bs:=
 if k=7 then xV d [[114,101,97,100,32],t,[32,61,32],(ls.getD 0 []),[46],(ls.getD 1 []),(jU num [59] [32,102,111,114,32,117,112,100,97,116,101,59])]
 else if k=8 then xV d [[115,101,116,32],(ls.getD 0 []),[46],(ls.getD 1 []),[32,61,32],(ls.getD 2 []),[59]]
 else if k=9 then xV d [[112,117,116,32],(ls.getD 0 []),[40],(vB (ls.drop 1)),[41,59]]
 else if k=10 then xV d [[100,101,108,101,116,101,32],(ls.getD 0 []),[59]]
 else if k=11 then xV d [[115,99,97,110,32],t,[32,61,32],(ls.getD 0 []),[46],(ls.getD 1 []),[59]]
 else if k=12 then xV d [[108,111,99,107,32],(ls.getD 0 []),(jU num [32,115,104,97,114,101,100,59] [32,97,108,108,59])]
 else if k=13 then xV d [[114,101,108,101,97,115,101,32],(ls.getD 0 []),[59]]
 else if k=14 then xV d [[105,102,32],(ls.getD 0 []),(jU num [32,60,32] [32,61,61,32]),(ls.getD 1 []),[32,123]]++(bk.getD 2 []++((if 3<ls.length then xV d [[125,32,101,108,115,101,32,123]]++bk.getD 3 [] else [])++xV d [[125]]))
 else if k=15 then xV d [[102,111,114,32],t,[32,61,32],(ls.getD 0 []),[32,116,111,32],(ls.getD 1 []),[32,123]]++(bk.getD 2 []++xV d [[125]])
 else if k=16 then xV d [[108,101,116,32],t,[32,61,32],(ls.getD 0 []),[59]]
 else if k=17 then xV d [[101,109,105,116,32],(ls.getD 0 []),[59]]
 else if k=18 then xV d [[114,111,108,108,98,97,99,107,59]]
 else if k=19 then xV d [[99,104,111,112,59]]
 else []
def XJ (e:TypeId)(m:Nat)(cs:Array Value)(v:Value)(w:World):Prop:=∃g,v=.slice (some ⟨g,0,none⟩) m m∧Blk w g e cs
theorem XJ.ext {e:TypeId}{m:Nat}{cs:Array Value}(v:Value)(w w':World)(h:XJ e m cs v w)(hx:Ext w w'):XJ e m cs v w':=let ⟨g,a,b⟩:=h; ⟨g,a,b.ext hx⟩
theorem zDm {k:Nat}{t:Bs}{x:Int}{kk:List Nat}(h:ZY k t x kk)(hk:k=7∨k=12∨k=14):x=0∨x=1:=by
 have:=h.2.2.1
 unfold TT.vL at this;simp only[zF,zE] at this
 have hm:TT.zBB (k:Int)=1:=by rcases hk with rfl | rfl | rfl <;> rfl
 have:=this.2.2
 omega
theorem zCq {l want:List Int}(h:TT.isR l want=true)(i:Nat)(hi:i<want.length):TT.YD (want.getD i 0) (l.getD i 0)=true:=by
 have hl:=ZF h;unfold TT.isR at h;rw[zF,zG] at h;exact h.2 i (List.mem_range.2 (by omega))
theorem JY (kk:List Nat)(i:Nat):(kk.map fun (j:Nat)=>(j:Int)).getD i 0=((kk.getD i 0:Nat):Int):=by
 rw[yE,yE,zM]
 cases kk[i]? <;> rfl
theorem ZK {k:Nat}{t:Bs}{x:Int}{kk:List Nat}(h:ZY k t x kk):(k=7→kk.length=2)∧(k=8→kk.length=3)∧(k=9→2≤kk.length)∧(k=10→kk.length=1)∧(k=11→kk.length=2)∧(k=12→kk.length=1)∧(k=13→kk.length=1)∧(k=14→(kk.length=3∨kk.length=4)∧kk.getD 2 0=6∧(kk.length=4→kk.getD 3 0=6))∧(k=15→kk.length=3∧kk.getD 2 0=6)∧(k=16→kk.length=1)∧(k=17→kk.length=1):=by
 have hf:=h.2.2.2
 refine⟨?_,?_,?_,?_,?_,?_,?_,?_,?_,?_,?_⟩ <;> rintro rfl
 ·simpa using ZF (want:=[20,5]) hf
 ·simpa using ZF (want:=[20,5,0]) hf
 ·have hf:(decide (1<(kk.map fun (j:Nat)=>(j:Int)).length)&&_)=true:=hf;rw[zF,zE,yN] at hf;exact hf.1
 ·simpa using ZF (want:=[20]) hf
 ·simpa using ZF (want:=[5,5]) hf
 ·simpa using ZF (want:=[5]) hf
 ·have hf:(TT.isR (kk.map fun (j:Nat)=>(j:Int)) [5]||TT.isR (kk.map fun (j:Nat)=>(j:Int)) [20])=true:=hf;rw[Bool.or_eq_true] at hf
  rcases hf with hf | hf
  ·simpa using ZF hf
  ·simpa using ZF hf
 ·have hf:(TT.isR (kk.map fun (j:Nat)=>(j:Int)) [0,0,6]||TT.isR (kk.map fun (j:Nat)=>(j:Int)) [0,0,6,6])=true:=hf;rw[Bool.or_eq_true] at hf
  rcases hf with hf | hf
  ·have h1:=ZF hf;have h2:=zCq hf 2 (by decide);rw[JY] at h2;have h2:((kk.getD 2 0:Int)==6)=true:=h2;rw[zN] at h2
   simp at h1
   exact⟨.inl h1,by omega,fun h=>by omega⟩
  ·have h1:=ZF hf;have h2:=zCq hf 2 (by decide);have h3:=zCq hf 3 (by decide);rw[JY] at h2 h3;have h2:((kk.getD 2 0:Int)==6)=true:=h2;have h3:((kk.getD 3 0:Int)==6)=true:=h3;rw[zN] at h2 h3
   simp at h1
   exact⟨.inr h1,by omega,fun _=>by omega⟩
 ·have h1:=ZF (want:=[21,21,6]) hf;have h2:=zCq (want:=[21,21,6]) hf 2 (by decide);rw[JY] at h2;have h2:((kk.getD 2 0:Int)==6)=true:=h2;rw[zN] at h2
  simp at h1
  exact⟨h1,by omega⟩
 ·simpa using ZF (want:=[0]) hf
 ·simpa using ZF (want:=[0]) hf
theorem XI (d:Nat)(ps:List Bs):(xV d ps).length=d+ps.flatten.length+1:=by
 unfold xV;simp only[yM,zC,zJ,zK];omega
theorem zRn (w0:World)(B g n c:Nat)(A:Option Addr)(L:List TT.xB)(hB:VD w0 B n A L)(x:TT.xB)(hx:Cells w0 x.kA (TT.xD x.kids))(k:Nat)(t:Bs)(num:Int)(ks kk:List Nat)(ls:List Bs)(hk:x.kind=(k:Int))(ht:x.text=yX t)(hnum:x.num=num)(hks:x.kids=xG ks)(hnk:ZY k t num kk)(hl1:kk.length=ks.length)(hl2:ls.length=ks.length)(hkb:ks.length≤100000)(hsz:vR ls≤1099511627776)
  (HT:∀(w:World) (v:Value) (bs:Bs) (d:Nat),Ext w0 w→PrS w B g A n c v bs d→∀j (hj:j<ks.length),zCf w g L ks[j] (kk.getD j 0) (ls.getD j []))
  (D:Nat) (bks:Nat→List Bs) (HBK:∀j (hj:j<ks.length),kk.getD j 0=6→∃y,L[ks[j]]?=some y∧XX w0 B g n c A y D fun d=>(bks d).getD j []) (h7:k=7) :
  zAk w0 B g n c A x (D+1) fun d=>xP d k t num ls (bks (d+1)):=by
 intro w v bs d AQ hS hd AD;subst h7;obtain⟨Ap,Aq⟩:∃b,Hid (bks (d+1)=b):=⟨_,yD rfl⟩;obtain⟨AG,AC⟩:∃b,Hid (xP d 7 t num ls Ap=b):=⟨_,yD rfl⟩
 show Calls Tryz.prog 89 #[.pointer (some ⟨g,0,none⟩),vZ x] w fun e w'=>e=.returned (.tuple #[])∧zBC w B g A n c (bs++xP d 7 t num ls (bks (d+1))) d w'
 replace AD:bs.length+(xP d 7 t num ls (bks (d+1))).length≤140737488355328:=AD
 rw[Aq.out,AC.out] at AD ⊢;have AN:Hid ((bs++AG).length≤140737488355328):=yD (by rw[yM]; exact AD);have A3:=yD hB;have Ar:=yD hx;have Ag:=yD hks;have Ax:=yD hnk;have Al:=yD hl1;have A5:=yD hl2;have A4:=yD hkb;have At:=yD HT;have A2:=yD HBK;have Av:=yD AQ;have Az:=yD hS.lo;have Ao:=yD hd;have A6:=yD hsz;have Ai:=yD (ZK hnk);have An:Hid (B≤w.heap.size):=yD (by rw[←hB.size]; exact AQ.size);have Ac:Hid (x.kids.length=ks.length):=yD (by rw[hks]; simp[xG]);obtain⟨A7,AJ⟩:=hS.any;have Ad:=yD AJ.lt;clear hB hx hks hnk hl1 hl2 hkb HT HBK AQ AD hd hsz AJ;have Aa:Hid (Ext w ((w.alloc (.cells #[.pointer (some ⟨g,0,none⟩)] 77)).alloc (.cells #[.int .u8 7,.int .i64 x.pos,.string (yX t),.int .i64 num,.slice x.kA x.kids.length x.kc] 48))):=yD ((Ext.alloc _ _).trans (Ext.alloc _ _));have AF:Hid (Blk ((w.alloc (.cells #[.pointer (some ⟨g,0,none⟩)] 77)).alloc (.cells #[.int .u8 7,.int .i64 x.pos,.string (yX t),.int .i64 num,.slice x.kA x.kids.length x.kc] 48)) w.heap.size 77 #[.pointer (some ⟨g,0,none⟩)]):=yD ((Blk.new _ _ _).alloc _)
 have AE:Hid (Blk ((w.alloc (.cells #[.pointer (some ⟨g,0,none⟩)] 77)).alloc (.cells #[.int .u8 7,.int .i64 x.pos,.string (yX t),.int .i64 num,.slice x.kA x.kids.length x.kc] 48)) (w.heap.size+1) 48 #[.int .u8 7,.int .i64 x.pos,.string (yX t),.int .i64 num,.slice x.kA x.kids.length x.kc]):=yD (Blk.VV (by simp));have AO:=yD (hS.ext Aa.out);have Am:Hid (vS w ((w.alloc (.cells #[.pointer (some ⟨g,0,none⟩)] 77)).alloc (.cells #[.int .u8 7,.int .i64 x.pos,.string (yX t),.int .i64 num,.slice x.kA x.kids.length x.kc] 48)) B g):=yD (vS.ext Aa.out);have HE:Hid (∀args w,(callFunc 138 args).run Tryz.prog w=.ok (.enter 138 args) w):=yD (enters_of Tryz.func138 (by kernel_rfl) rfl);clear hS;unfold vZ;rw[hk,ht,hnum]
 go_enter Tryz.func89,Tryz.ntmps89
 go_upto_region 1 with fail
 try simp only[size_alloc]
 have AL:Hid (w.heap.size≠g):=yD (by have:=Ad.out; omega);have AK:Hid (w.heap.size+1≠g):=yD (by have:=Ad.out; omega);generalize w.heap.size+1=gn at AE AK ⊢;generalize w.heap.size=gp at AF AL ⊢;generalize ((w.alloc (.cells #[.pointer (some ⟨g,0,none⟩)] 77)).alloc (.cells #[.int .u8 7,.int .i64 x.pos,.string (yX t),.int .i64 num,.slice x.kA x.kids.length x.kc] 48))=w1 at *;have Ab:=yD (Av.out.trans Aa.out);have AM:=yD (Ar.out.ext Ab.out);have Ah:Hid (Blk w1 gn 48 #[.int .u8 x.kind,.int .i64 x.pos,.string x.text,.int .i64 x.num,.slice x.kA x.kids.length x.kc]):=yD (by rw[hk,ht,hnum]; exact AE.out);have Aw:=yD AF.out.lt;have AH:=yD AE.out.lt;have Ak:=yD (A3.out.prT Ab.out AO.out);have Ae:=yD (At.out w1 v bs d Ab.out AO.out);have he:=HE.out;have AZ:Hid (0<ks.length):=yD (by have:=Ai.out; have:=Al.out; omega)
 have AW:Hid (∀w',Ext w1 w'→Calls Tryz.prog 138 #[.int .i64 0,.pointer (some ⟨gp,0,none⟩),.pointer (some ⟨gn,0,none⟩)] w' fun e AI=>e=.returned (.string (yX (ls.getD 0 [])))∧Ext w' AI):=yD fun w' hx=>by
  obtain⟨y,h1,h2,h3⟩:=Ae.out 0 AZ.out;exact ZC w' g n c gp gn A L (Ak.out.ext hx) x (AF.out.ext hx) (Ah.out.ext hx) (AM.out.ext hx) 0 (ks[0]'AZ.out) (kk.getD 0 0) (by rw[Ac.out]; exact AZ.out) (by simp only[Ag.out,xG,zA]) (ls.getD 0 []) ⟨y,h1,h2,fun w2 AB=>h3 w2 (hx.trans AB)⟩
 have AS:Hid (1<ks.length):=yD (by have:=Ai.out; have:=Al.out; omega)
 have AP:Hid (∀w',Ext w1 w'→Calls Tryz.prog 138 #[.int .i64 1,.pointer (some ⟨gp,0,none⟩),.pointer (some ⟨gn,0,none⟩)] w' fun e AI=>e=.returned (.string (yX (ls.getD 1 [])))∧Ext w' AI):=yD fun w' hx=>by
  obtain⟨y,h1,h2,h3⟩:=Ae.out 1 AS.out;exact ZC w' g n c gp gn A L (Ak.out.ext hx) x (AF.out.ext hx) (Ah.out.ext hx) (AM.out.ext hx) 1 (ks[1]'AS.out) (kk.getD 1 0) (by rw[Ac.out]; exact AS.out) (by simp only[Ag.out,xG,zA]) (ls.getD 1 []) ⟨y,h1,h2,fun w2 AB=>h3 w2 (hx.trans AB)⟩
 have AY:=yD (zDm Ax.out (by decide))
 have As:Hid (∀w' lb,Ext w1 w'→Blk w' lb 9 #[.string (yX [59]),.string (yX [32,102,111,114,32,117,112,100,97,116,101,59])]→Calls Tryz.prog 43 #[.agg #[.int .u8 7,.int .i64 x.pos,.string (yX t),.int .i64 num,.slice x.kA x.kids.length x.kc],.slice (some ⟨lb,0,none⟩) 2 2] w' fun e AI=>e=.returned (.string (yX (jU num [59] [32,102,111,114,32,117,112,100,97,116,101,59])))∧Ext w' AI):=yD fun w' lb hx hb=>by
  have:=zEb w' x (by rw[hnum]; exact AY.out) [59] [32,102,111,114,32,117,112,100,97,116,101,59] lb hb
  unfold vZ at this;rw[hk,ht,hnum] at this;exact this
 replace AC:Hid (xV d [[114,101,97,100,32],t,[32,61,32],(ls.getD 0 []),[46],(ls.getD 1 []),(jU num [59] [32,102,111,114,32,117,112,100,97,116,101,59])]=AG):=AC
 generalize ls.getD 0 []=l0 at *;generalize ls.getD 1 []=l1 at *;generalize jU num [59] [32,102,111,114,32,117,112,100,97,116,101,59]=lp at *;obtain⟨T1,AT⟩:∃b,Hid (xV d [[114,101,97,100,32],t,[32,61,32],l0,[46],l1,lp]=b):=⟨_,yD rfl⟩;rw[AT.out] at AC;have n0:w1.cell? ⟨gn,0,none⟩=some (.int .u8 7):=AE.out.cell 0;have n1:w1.cell? ⟨gn,1,none⟩=some (.int .i64 x.pos):=AE.out.cell 1;have n2:w1.cell? ⟨gn,2,none⟩=some (.string (yX t)):=AE.out.cell 2;have n3:w1.cell? ⟨gn,3,none⟩=some (.int .i64 num):=AE.out.cell 3;have n4:w1.cell? ⟨gn,4,none⟩=some (.slice x.kA x.kids.length x.kc):=AE.out.cell 4;have p0:w1.cell? ⟨gp,0,none⟩=some (.pointer (some ⟨g,0,none⟩)):=AF.out.cell 0;have HR:Hid (bs++(T1++[])=bs++AG):=yD (by rw[List.append_nil,AC.out])
 go_upto_region 4 with fail
 apply xI 11 (by kernel_rfl) (by kernel_rfl) (by kernel_rfl);apply yZ (.pointer (some ⟨g,0,none⟩)) rfl rfl rfl
 ·intro w' AA hH;clear hH;have yp:=(AA.cell (p:=⟨gp,0,none⟩) Aw.out).trans p0;simp[yY,go_sem,yp];exact Ext.refl _
 apply sQ (.pointer (some ⟨gn,2,none⟩));apply yZ (.string (yX t)) rfl rfl rfl
 ·intro w' AA hH;clear hH;have y2:=(AA.cell (p:=⟨gn,2,none⟩) AH.out).trans n2;simp[yY,go_sem,y2];exact Ext.refl _
 apply sQ (.func (.func 138) #[] #[.pointer (some ⟨gp,0,none⟩),.pointer (some ⟨gn,0,none⟩)]);apply yZ (.string (yX l0)) rfl rfl rfl
 ·intro w' AA hH;clear hH;simp[yY,go_sem,he];refine(AW.out w' AA).mono ?_;rintro e w2 ⟨rfl,AB⟩;exact⟨_,rfl,rfl,AB⟩
 apply sQ (.func (.func 138) #[] #[.pointer (some ⟨gp,0,none⟩),.pointer (some ⟨gn,0,none⟩)]);apply yZ (.string (yX l1)) rfl rfl rfl
 ·intro w' AA hH;clear hH;simp[yY,go_sem,he];refine(AP.out w' AA).mono ?_;rintro e w2 ⟨rfl,AB⟩;exact⟨_,rfl,rfl,AB⟩
 apply yZ (.agg #[.int .u8 7,.int .i64 x.pos,.string (yX t),.int .i64 num,.slice x.kA x.kids.length x.kc]) rfl rfl rfl
 ·intro w' AA hH;clear hH;have y0:=(AA.cell (p:=⟨gn,0,none⟩) AH.out).trans n0;have y1:=(AA.cell (p:=⟨gn,1,none⟩) AH.out).trans n1;have y2:=(AA.cell (p:=⟨gn,2,none⟩) AH.out).trans n2;have y3:=(AA.cell (p:=⟨gn,3,none⟩) AH.out).trans n3;have y4:=(AA.cell (p:=⟨gn,4,none⟩) AH.out).trans n4;simp[yY,go_sem,y0,y1,y2,y3,y4];exact Ext.refl _
 apply vA (XJ 9 2 #[.string (yX [59]),.string (yX [32,102,111,114,32,117,112,100,97,116,101,59])]) (fun v a b h k=>XJ.ext v a b h k) rfl rfl rfl
 ·intro w' AA hH;clear hH;simp[yY,go_sem];exact⟨⟨_,rfl,Blk.new w' _ _⟩,Ext.alloc _ _⟩
 intro A8;apply yZ (.string (yX lp)) rfl rfl rfl
 ·intro w' AA hH;obtain⟨lb,rfl,A0⟩:=hH _ (List.mem_cons_self ..) ⟨18,rfl,by decide⟩;clear hH;simp[yY,go_sem,he];refine(As.out w' lb AA A0).mono ?_;rintro e w2 ⟨rfl,AB⟩;exact⟨_,rfl,rfl,AB⟩
 apply vA (XJ 9 7 (JM [[114,101,97,100,32],t,[32,61,32],l0,[46],l1,lp])) (fun v a b h k=>XJ.ext v a b h k) rfl rfl rfl
 ·intro w' AA hH;clear hH;simp[yY,go_sem];exact⟨⟨_,rfl,Blk.new w' _ _⟩,Ext.alloc _ _⟩
 intro A9;apply xN;intro w2 AB hH;obtain⟨pb,rfl,AX⟩:=hH _ (List.mem_cons_self ..);clear hH p0 n0 n1 n2 n3 n4
 try simp only[Act.put,yA,yC,yB]
 have AU:=yD (AO.out.ext AB);have AV:=yD (Am.out.trans (vS.ext AB));have Aj:=yD (AF.out.ext AB);have Af:=yD (AE.out.ext AB);clear AB AO Am AF AE
 go_wp2_with fail
 refine(jV w2 B g A n c _ bs d [[114,101,97,100,32],t,[32,61,32],l0,[46],l1,lp] pb 7 AU.out rfl (by have:=Ao.out; omega) (by simp) AX (fun e=>by obtain⟨ad,hb⟩:=AU.out.any; subst e; exact Blk.differ AX hb (by decide) rfl) (by
  have h8:=congrArg List.length HR.out;have h9:=AN.out;rw[AT.out];simp only[yM,zK] at h8 h9 ⊢
  omega) (Nat.le_trans An.out AV.out.size)).mono ?_
 rintro e w3 ⟨rfl,⟨v3,hu⟩,hm⟩
 replace hu:=hu.prS Az.out
 rw[AT.out] at hu;clear AX;have Ay:=yD (AV.out.trans hm);have BA:=yD (hm.blk Aj.out AL.out (by decide));have BB:=yD (hm.blk Af.out AK.out (by decide))
 replace HR:=yD ((List.append_assoc _ _ _).trans HR.out)
 have A1:=yD hu;clear hu hm AV Aj Af AU;generalize bs++T1=b1 at *
 replace HR:=yD ((List.append_nil _).symm.trans HR.out)
 have Au:=Ay.out;have AR:=A1.out
 go_wp2_with fail
 go_end0;have h8:=HR.out;exact⟨rfl,⟨_,by rw[←h8]; exact AR⟩,Au⟩
theorem zRj (w0:World)(B g n c:Nat)(A:Option Addr)(L:List TT.xB)(hB:VD w0 B n A L)(x:TT.xB)(hx:Cells w0 x.kA (TT.xD x.kids))(k:Nat)(t:Bs)(num:Int)(ks kk:List Nat)(ls:List Bs)(hk:x.kind=(k:Int))(ht:x.text=yX t)(hnum:x.num=num)(hks:x.kids=xG ks)(hnk:ZY k t num kk)(hl1:kk.length=ks.length)(hl2:ls.length=ks.length)(hkb:ks.length≤100000)(hsz:vR ls≤1099511627776)
  (HT:∀(w:World) (v:Value) (bs:Bs) (d:Nat),Ext w0 w→PrS w B g A n c v bs d→∀j (hj:j<ks.length),zCf w g L ks[j] (kk.getD j 0) (ls.getD j []))
  (D:Nat) (bks:Nat→List Bs) (HBK:∀j (hj:j<ks.length),kk.getD j 0=6→∃y,L[ks[j]]?=some y∧XX w0 B g n c A y D fun d=>(bks d).getD j []) (h8:k=8) :
  zAk w0 B g n c A x (D+1) fun d=>xP d k t num ls (bks (d+1)):=by
 intro w v bs d AR hS hd AC;subst h8;obtain⟨Ap,Aq⟩:∃b,Hid (bks (d+1)=b):=⟨_,yD rfl⟩;obtain⟨AH,AB⟩:∃b,Hid (xP d 8 t num ls Ap=b):=⟨_,yD rfl⟩
 show Calls Tryz.prog 89 #[.pointer (some ⟨g,0,none⟩),vZ x] w fun e w'=>e=.returned (.tuple #[])∧zBC w B g A n c (bs++xP d 8 t num ls (bks (d+1))) d w'
 replace AC:bs.length+(xP d 8 t num ls (bks (d+1))).length≤140737488355328:=AC
 rw[Aq.out,AB.out] at AC ⊢;have AM:Hid ((bs++AH).length≤140737488355328):=yD (by rw[yM]; exact AC);have A0:=yD hB;have Ar:=yD hx;have AX:=yD hks;have A7:=yD hnk;have Ae:=yD hl1;have A2:=yD hl2;have A1:=yD hkb;have As:=yD HT;have Az:=yD HBK;have Au:=yD AR;have Ax:=yD hS.lo;have Ao:=yD hd;have A3:=yD hsz;have Aa:=yD (ZK hnk);have An:Hid (B≤w.heap.size):=yD (by rw[←hB.size]; exact AR.size);have AO:Hid (x.kids.length=ks.length):=yD (by rw[hks]; simp[xG]);obtain⟨A4,AJ⟩:=hS.any;have Aj:=yD AJ.lt;clear hB hx hks hnk hl1 hl2 hkb HT HBK AR AC hd hsz AJ;have Ag:Hid (Ext w ((w.alloc (.cells #[.pointer (some ⟨g,0,none⟩)] 77)).alloc (.cells #[.int .u8 8,.int .i64 x.pos,.string (yX t),.int .i64 num,.slice x.kA x.kids.length x.kc] 48))):=yD ((Ext.alloc _ _).trans (Ext.alloc _ _));have AF:Hid (Blk ((w.alloc (.cells #[.pointer (some ⟨g,0,none⟩)] 77)).alloc (.cells #[.int .u8 8,.int .i64 x.pos,.string (yX t),.int .i64 num,.slice x.kA x.kids.length x.kc] 48)) w.heap.size 77 #[.pointer (some ⟨g,0,none⟩)]):=yD ((Blk.new _ _ _).alloc _)
 have AD:Hid (Blk ((w.alloc (.cells #[.pointer (some ⟨g,0,none⟩)] 77)).alloc (.cells #[.int .u8 8,.int .i64 x.pos,.string (yX t),.int .i64 num,.slice x.kA x.kids.length x.kc] 48)) (w.heap.size+1) 48 #[.int .u8 8,.int .i64 x.pos,.string (yX t),.int .i64 num,.slice x.kA x.kids.length x.kc]):=yD (Blk.VV (by simp));have AN:=yD (hS.ext Ag.out);have Am:Hid (vS w ((w.alloc (.cells #[.pointer (some ⟨g,0,none⟩)] 77)).alloc (.cells #[.int .u8 8,.int .i64 x.pos,.string (yX t),.int .i64 num,.slice x.kA x.kids.length x.kc] 48)) B g):=yD (vS.ext Ag.out);have HE:Hid (∀args w,(callFunc 138 args).run Tryz.prog w=.ok (.enter 138 args) w):=yD (enters_of Tryz.func138 (by kernel_rfl) rfl);clear hS;unfold vZ;rw[hk,ht,hnum]
 go_enter Tryz.func89,Tryz.ntmps89
 go_upto_region 1 with fail
 try simp only[size_alloc]
 have AL:Hid (w.heap.size≠g):=yD (by have:=Aj.out; omega);have AK:Hid (w.heap.size+1≠g):=yD (by have:=Aj.out; omega);generalize w.heap.size+1=gn at AD AK ⊢;generalize w.heap.size=gp at AF AL ⊢;generalize ((w.alloc (.cells #[.pointer (some ⟨g,0,none⟩)] 77)).alloc (.cells #[.int .u8 8,.int .i64 x.pos,.string (yX t),.int .i64 num,.slice x.kA x.kids.length x.kc] 48))=w1 at *;have Ai:=yD (Au.out.trans Ag.out);have AG:=yD (Ar.out.ext Ai.out);have AY:Hid (Blk w1 gn 48 #[.int .u8 x.kind,.int .i64 x.pos,.string x.text,.int .i64 x.num,.slice x.kA x.kids.length x.kc]):=yD (by rw[hk,ht,hnum]; exact AD.out);have Av:=yD AF.out.lt;have A5:=yD AD.out.lt;have Ad:=yD (A0.out.prT Ai.out AN.out);have AT:=yD (As.out w1 v bs d Ai.out AN.out);have he:=HE.out;have Af:Hid (0<ks.length):=yD (by have:=Aa.out; have:=Ae.out; omega)
 have Ab:Hid (∀w',Ext w1 w'→Calls Tryz.prog 138 #[.int .i64 0,.pointer (some ⟨gp,0,none⟩),.pointer (some ⟨gn,0,none⟩)] w' fun e AI=>e=.returned (.string (yX (ls.getD 0 [])))∧Ext w' AI):=yD fun w' hx=>by
  obtain⟨y,h1,h2,h3⟩:=AT.out 0 Af.out;exact ZC w' g n c gp gn A L (Ad.out.ext hx) x (AF.out.ext hx) (AY.out.ext hx) (AG.out.ext hx) 0 (ks[0]'Af.out) (kk.getD 0 0) (by rw[AO.out]; exact Af.out) (by simp only[AX.out,xG,zA]) (ls.getD 0 []) ⟨y,h1,h2,fun w2 AA=>h3 w2 (hx.trans AA)⟩
 have AU:Hid (1<ks.length):=yD (by have:=Aa.out; have:=Ae.out; omega)
 have AQ:Hid (∀w',Ext w1 w'→Calls Tryz.prog 138 #[.int .i64 1,.pointer (some ⟨gp,0,none⟩),.pointer (some ⟨gn,0,none⟩)] w' fun e AI=>e=.returned (.string (yX (ls.getD 1 [])))∧Ext w' AI):=yD fun w' hx=>by
  obtain⟨y,h1,h2,h3⟩:=AT.out 1 AU.out;exact ZC w' g n c gp gn A L (Ad.out.ext hx) x (AF.out.ext hx) (AY.out.ext hx) (AG.out.ext hx) 1 (ks[1]'AU.out) (kk.getD 1 0) (by rw[AO.out]; exact AU.out) (by simp only[AX.out,xG,zA]) (ls.getD 1 []) ⟨y,h1,h2,fun w2 AA=>h3 w2 (hx.trans AA)⟩
 have Ah:Hid (2<ks.length):=yD (by have:=Aa.out; have:=Ae.out; omega)
 have AP:Hid (∀w',Ext w1 w'→Calls Tryz.prog 138 #[.int .i64 2,.pointer (some ⟨gp,0,none⟩),.pointer (some ⟨gn,0,none⟩)] w' fun e AI=>e=.returned (.string (yX (ls.getD 2 [])))∧Ext w' AI):=yD fun w' hx=>by
  obtain⟨y,h1,h2,h3⟩:=AT.out 2 Ah.out;exact ZC w' g n c gp gn A L (Ad.out.ext hx) x (AF.out.ext hx) (AY.out.ext hx) (AG.out.ext hx) 2 (ks[2]'Ah.out) (kk.getD 2 0) (by rw[AO.out]; exact Ah.out) (by simp only[AX.out,xG,zA]) (ls.getD 2 []) ⟨y,h1,h2,fun w2 AA=>h3 w2 (hx.trans AA)⟩
 replace AB:Hid (xV d [[115,101,116,32],(ls.getD 0 []),[46],(ls.getD 1 []),[32,61,32],(ls.getD 2 []),[59]]=AH):=AB
 generalize ls.getD 0 []=l0 at *;generalize ls.getD 1 []=l1 at *;generalize ls.getD 2 []=l2 at *;obtain⟨T1,AV⟩:∃b,Hid (xV d [[115,101,116,32],l0,[46],l1,[32,61,32],l2,[59]]=b):=⟨_,yD rfl⟩;rw[AV.out] at AB;have n0:w1.cell? ⟨gn,0,none⟩=some (.int .u8 8):=AD.out.cell 0;have n1:w1.cell? ⟨gn,1,none⟩=some (.int .i64 x.pos):=AD.out.cell 1;have n2:w1.cell? ⟨gn,2,none⟩=some (.string (yX t)):=AD.out.cell 2;have n3:w1.cell? ⟨gn,3,none⟩=some (.int .i64 num):=AD.out.cell 3;have n4:w1.cell? ⟨gn,4,none⟩=some (.slice x.kA x.kids.length x.kc):=AD.out.cell 4;have p0:w1.cell? ⟨gp,0,none⟩=some (.pointer (some ⟨g,0,none⟩)):=AF.out.cell 0;have HR:Hid (bs++(T1++[])=bs++AH):=yD (by rw[List.append_nil,AB.out])
 go_upto_region 6 with fail
 apply xI 8 (by kernel_rfl) (by kernel_rfl) (by kernel_rfl);apply yZ (.pointer (some ⟨g,0,none⟩)) rfl rfl rfl
 ·intro w' AE hH;clear hH;have yp:=(AE.cell (p:=⟨gp,0,none⟩) Av.out).trans p0;simp[yY,go_sem,yp];exact Ext.refl _
 apply sQ (.func (.func 138) #[] #[.pointer (some ⟨gp,0,none⟩),.pointer (some ⟨gn,0,none⟩)]);apply yZ (.string (yX l0)) rfl rfl rfl
 ·intro w' AE hH;clear hH;simp[yY,go_sem,he];refine(Ab.out w' AE).mono ?_;rintro e w2 ⟨rfl,AA⟩;exact⟨_,rfl,rfl,AA⟩
 apply sQ (.func (.func 138) #[] #[.pointer (some ⟨gp,0,none⟩),.pointer (some ⟨gn,0,none⟩)]);apply yZ (.string (yX l1)) rfl rfl rfl
 ·intro w' AE hH;clear hH;simp[yY,go_sem,he];refine(AQ.out w' AE).mono ?_;rintro e w2 ⟨rfl,AA⟩;exact⟨_,rfl,rfl,AA⟩
 apply sQ (.func (.func 138) #[] #[.pointer (some ⟨gp,0,none⟩),.pointer (some ⟨gn,0,none⟩)]);apply yZ (.string (yX l2)) rfl rfl rfl
 ·intro w' AE hH;clear hH;simp[yY,go_sem,he];refine(AP.out w' AE).mono ?_;rintro e w2 ⟨rfl,AA⟩;exact⟨_,rfl,rfl,AA⟩
 apply vA (XJ 9 7 (JM [[115,101,116,32],l0,[46],l1,[32,61,32],l2,[59]])) (fun v a b h k=>XJ.ext v a b h k) rfl rfl rfl
 ·intro w' AE hH;clear hH;simp[yY,go_sem];exact⟨⟨_,rfl,Blk.new w' _ _⟩,Ext.alloc _ _⟩
 intro A6;apply xN;intro w2 AA hH;obtain⟨pb,rfl,Ac⟩:=hH _ (List.mem_cons_self ..);clear hH p0 n0 n1 n2 n3 n4
 try simp only[Act.put,yA,yC,yB]
 have AW:=yD (AN.out.ext AA);have AZ:=yD (Am.out.trans (vS.ext AA));have Al:=yD (AF.out.ext AA);have Ak:=yD (AD.out.ext AA);clear AA AN Am AF AD
 go_wp2_with fail
 refine(jV w2 B g A n c _ bs d [[115,101,116,32],l0,[46],l1,[32,61,32],l2,[59]] pb 7 AW.out rfl (by have:=Ao.out; omega) (by simp) Ac (fun e=>by obtain⟨ad,hb⟩:=AW.out.any; subst e; exact Blk.differ Ac hb (by decide) rfl) (by
  have h8:=congrArg List.length HR.out;have h9:=AM.out;rw[AV.out];simp only[yM,zK] at h8 h9 ⊢
  omega) (Nat.le_trans An.out AZ.out.size)).mono ?_
 rintro e w3 ⟨rfl,⟨v3,hu⟩,hm⟩
 replace hu:=hu.prS Ax.out
 rw[AV.out] at hu;clear Ac;have Aw:=yD (AZ.out.trans hm);have A8:=yD (hm.blk Al.out AL.out (by decide));have A9:=yD (hm.blk Ak.out AK.out (by decide))
 replace HR:=yD ((List.append_assoc _ _ _).trans HR.out)
 have Ay:=yD hu;clear hu hm AZ Al Ak AW;generalize bs++T1=b1 at *
 replace HR:=yD ((List.append_nil _).symm.trans HR.out)
 have At:=Aw.out;have AS:=Ay.out
 go_wp2_with fail
 go_end0;have h8:=HR.out;exact⟨rfl,⟨_,by rw[←h8]; exact AS⟩,At⟩
theorem zRB (w0:World)(B g n c:Nat)(A:Option Addr)(L:List TT.xB)(hB:VD w0 B n A L)(x:TT.xB)(hx:Cells w0 x.kA (TT.xD x.kids))(k:Nat)(t:Bs)(num:Int)(ks kk:List Nat)(ls:List Bs)(hk:x.kind=(k:Int))(ht:x.text=yX t)(hnum:x.num=num)(hks:x.kids=xG ks)(hnk:ZY k t num kk)(hl1:kk.length=ks.length)(hl2:ls.length=ks.length)(hkb:ks.length≤100000)(hsz:vR ls≤1099511627776)
  (HT:∀(w:World) (v:Value) (bs:Bs) (d:Nat),Ext w0 w→PrS w B g A n c v bs d→∀j (hj:j<ks.length),zCf w g L ks[j] (kk.getD j 0) (ls.getD j []))
  (D:Nat) (bks:Nat→List Bs) (HBK:∀j (hj:j<ks.length),kk.getD j 0=6→∃y,L[ks[j]]?=some y∧XX w0 B g n c A y D fun d=>(bks d).getD j []) (h9:k=9) :
  zAk w0 B g n c A x (D+1) fun d=>xP d k t num ls (bks (d+1)):=by
 intro w v bs d AQ hS hd AD;subst h9;obtain⟨Ak,Al⟩:∃b,Hid (bks (d+1)=b):=⟨_,yD rfl⟩;obtain⟨AF,AC⟩:∃b,Hid (xP d 9 t num ls Ak=b):=⟨_,yD rfl⟩
 show Calls Tryz.prog 89 #[.pointer (some ⟨g,0,none⟩),vZ x] w fun e w'=>e=.returned (.tuple #[])∧zBC w B g A n c (bs++xP d 9 t num ls (bks (d+1))) d w'
 replace AD:bs.length+(xP d 9 t num ls (bks (d+1))).length≤140737488355328:=AD
 rw[Al.out,AC.out] at AD ⊢;have AM:Hid ((bs++AF).length≤140737488355328):=yD (by rw[yM]; exact AD);have A1:=yD hB;have An:=yD hx;have Ac:=yD hks;have A4:=yD hnk;have Ax:=yD hl1;have Ap:=yD hl2;have Am:=yD hkb;have Ao:=yD HT;have A0:=yD HBK;have As:=yD AQ;have Ay:=yD hS.lo;have Aj:=yD hd;have Aq:=yD hsz;have Av:=yD (ZK hnk);have Ah:Hid (B≤w.heap.size):=yD (by rw[←hB.size]; exact AQ.size);have Ai:Hid (x.kids.length=ks.length):=yD (by rw[hks]; simp[xG]);obtain⟨A2,AH⟩:=hS.any;have AZ:=yD AH.lt;clear hB hx hks hnk hl1 hl2 hkb HT HBK AQ AD hd hsz AH;have AX:Hid (Ext w ((w.alloc (.cells #[.pointer (some ⟨g,0,none⟩)] 77)).alloc (.cells #[.int .u8 9,.int .i64 x.pos,.string (yX t),.int .i64 num,.slice x.kA x.kids.length x.kc] 48))):=yD ((Ext.alloc _ _).trans (Ext.alloc _ _));have AG:Hid (Blk ((w.alloc (.cells #[.pointer (some ⟨g,0,none⟩)] 77)).alloc (.cells #[.int .u8 9,.int .i64 x.pos,.string (yX t),.int .i64 num,.slice x.kA x.kids.length x.kc] 48)) w.heap.size 77 #[.pointer (some ⟨g,0,none⟩)]):=yD ((Blk.new _ _ _).alloc _)
 have AE:Hid (Blk ((w.alloc (.cells #[.pointer (some ⟨g,0,none⟩)] 77)).alloc (.cells #[.int .u8 9,.int .i64 x.pos,.string (yX t),.int .i64 num,.slice x.kA x.kids.length x.kc] 48)) (w.heap.size+1) 48 #[.int .u8 9,.int .i64 x.pos,.string (yX t),.int .i64 num,.slice x.kA x.kids.length x.kc]):=yD (Blk.VV (by simp));have AN:=yD (hS.ext AX.out);have Ag:Hid (vS w ((w.alloc (.cells #[.pointer (some ⟨g,0,none⟩)] 77)).alloc (.cells #[.int .u8 9,.int .i64 x.pos,.string (yX t),.int .i64 num,.slice x.kA x.kids.length x.kc] 48)) B g):=yD (vS.ext AX.out);have HE:Hid (∀args w,(callFunc 138 args).run Tryz.prog w=.ok (.enter 138 args) w):=yD (enters_of Tryz.func138 (by kernel_rfl) rfl);clear hS;unfold vZ;rw[hk,ht,hnum]
 go_enter Tryz.func89,Tryz.ntmps89
 go_upto_region 1 with fail
 try simp only[size_alloc]
 have AK:Hid (w.heap.size≠g):=yD (by have:=AZ.out; omega);have AI:Hid (w.heap.size+1≠g):=yD (by have:=AZ.out; omega);generalize w.heap.size+1=gn at AE AI ⊢;generalize w.heap.size=gp at AG AK ⊢;generalize ((w.alloc (.cells #[.pointer (some ⟨g,0,none⟩)] 77)).alloc (.cells #[.int .u8 9,.int .i64 x.pos,.string (yX t),.int .i64 num,.slice x.kA x.kids.length x.kc] 48))=w1 at *;have AY:=yD (As.out.trans AX.out);have AL:=yD (An.out.ext AY.out);have At:Hid (Blk w1 gn 48 #[.int .u8 x.kind,.int .i64 x.pos,.string x.text,.int .i64 x.num,.slice x.kA x.kids.length x.kc]):=yD (by rw[hk,ht,hnum]; exact AE.out);have Ad:=yD AG.out.lt;have AJ:=yD AE.out.lt;have Af:=yD (A1.out.prT AY.out AN.out);have Aa:=yD (Ao.out w1 v bs d AY.out AN.out);have he:=HE.out;have AO:Hid (0<ks.length):=yD (by have:=Av.out; have:=Ax.out; omega)
 have AV:Hid (∀w',Ext w1 w'→Calls Tryz.prog 138 #[.int .i64 0,.pointer (some ⟨gp,0,none⟩),.pointer (some ⟨gn,0,none⟩)] w' fun e AP=>e=.returned (.string (yX (ls.getD 0 [])))∧Ext w' AP):=yD fun w' hx=>by
  obtain⟨y,h1,h2,h3⟩:=Aa.out 0 AO.out;exact ZC w' g n c gp gn A L (Af.out.ext hx) x (AG.out.ext hx) (At.out.ext hx) (AL.out.ext hx) 0 (ks[0]'AO.out) (kk.getD 0 0) (by rw[Ai.out]; exact AO.out) (by simp only[Ac.out,xG,zA]) (ls.getD 0 []) ⟨y,h1,h2,fun w2 AB=>h3 w2 (hx.trans AB)⟩
 have Au:Hid (∀w',Ext w1 w'→Calls Tryz.prog 42 #[.pointer (some ⟨g,0,none⟩),.agg #[.int .u8 9,.int .i64 x.pos,.string (yX t),.int .i64 num,.slice x.kA x.kids.length x.kc],.int .i64 1] w' fun e AP=>e=.returned (.string (yX (vB (ls.drop 1))))∧Ext w' AP):=yD fun w' hx=>by
  have:=zHG w' g n c A L (Af.out.ext hx) x (AL.out.ext hx) ks kk ls Ac.out Ap.out Am.out (fun j hj=>by
   obtain⟨y,h1,h2,h3⟩:=Aa.out j hj
   exact⟨y,h1,h2,fun w2 AB=>h3 w2 (hx.trans AB)⟩) Aq.out 1 (by have:=AO.out; omega)
  unfold vZ at this;rw[hk,ht,hnum] at this;exact this
 replace AC:Hid (xV d [[112,117,116,32],(ls.getD 0 []),[40],(vB (ls.drop 1)),[41,59]]=AF):=AC
 generalize ls.getD 0 []=l0 at *;generalize vB (ls.drop 1)=lq at *;obtain⟨T1,AS⟩:∃b,Hid (xV d [[112,117,116,32],l0,[40],lq,[41,59]]=b):=⟨_,yD rfl⟩;rw[AS.out] at AC;have n0:w1.cell? ⟨gn,0,none⟩=some (.int .u8 9):=AE.out.cell 0;have n1:w1.cell? ⟨gn,1,none⟩=some (.int .i64 x.pos):=AE.out.cell 1;have n2:w1.cell? ⟨gn,2,none⟩=some (.string (yX t)):=AE.out.cell 2;have n3:w1.cell? ⟨gn,3,none⟩=some (.int .i64 num):=AE.out.cell 3;have n4:w1.cell? ⟨gn,4,none⟩=some (.slice x.kA x.kids.length x.kc):=AE.out.cell 4;have p0:w1.cell? ⟨gp,0,none⟩=some (.pointer (some ⟨g,0,none⟩)):=AG.out.cell 0;have HR:Hid (bs++(T1++[])=bs++AF):=yD (by rw[List.append_nil,AC.out])
 go_upto_region 8 with fail
 apply xI 7 (by kernel_rfl) (by kernel_rfl) (by kernel_rfl);apply yZ (.pointer (some ⟨g,0,none⟩)) rfl rfl rfl
 ·intro w' AA hH;clear hH;have yp:=(AA.cell (p:=⟨gp,0,none⟩) Ad.out).trans p0;simp[yY,go_sem,yp];exact Ext.refl _
 apply sQ (.func (.func 138) #[] #[.pointer (some ⟨gp,0,none⟩),.pointer (some ⟨gn,0,none⟩)]);apply yZ (.string (yX l0)) rfl rfl rfl
 ·intro w' AA hH;clear hH;simp[yY,go_sem,he];refine(AV.out w' AA).mono ?_;rintro e w2 ⟨rfl,AB⟩;exact⟨_,rfl,rfl,AB⟩
 apply yZ (.pointer (some ⟨g,0,none⟩)) rfl rfl rfl
 ·intro w' AA hH;clear hH;have yp:=(AA.cell (p:=⟨gp,0,none⟩) Ad.out).trans p0;simp[yY,go_sem,yp];exact Ext.refl _
 apply yZ (.agg #[.int .u8 9,.int .i64 x.pos,.string (yX t),.int .i64 num,.slice x.kA x.kids.length x.kc]) rfl rfl rfl
 ·intro w' AA hH;clear hH;have y0:=(AA.cell (p:=⟨gn,0,none⟩) AJ.out).trans n0;have y1:=(AA.cell (p:=⟨gn,1,none⟩) AJ.out).trans n1;have y2:=(AA.cell (p:=⟨gn,2,none⟩) AJ.out).trans n2;have y3:=(AA.cell (p:=⟨gn,3,none⟩) AJ.out).trans n3;have y4:=(AA.cell (p:=⟨gn,4,none⟩) AJ.out).trans n4;simp[yY,go_sem,y0,y1,y2,y3,y4];exact Ext.refl _
 apply yZ (.string (yX lq)) rfl rfl rfl
 ·intro w' AA hH;clear hH;simp[yY,go_sem,he];refine(Au.out w' AA).mono ?_;rintro e w2 ⟨rfl,AB⟩;exact⟨_,rfl,rfl,AB⟩
 apply vA (XJ 9 5 (JM [[112,117,116,32],l0,[40],lq,[41,59]])) (fun v a b h k=>XJ.ext v a b h k) rfl rfl rfl
 ·intro w' AA hH;clear hH;simp[yY,go_sem];exact⟨⟨_,rfl,Blk.new w' _ _⟩,Ext.alloc _ _⟩
 intro A3;apply xN;intro w2 AB hH;obtain⟨pb,rfl,AW⟩:=hH _ (List.mem_cons_self ..);clear hH p0 n0 n1 n2 n3 n4
 try simp only[Act.put,yA,yC,yB]
 have AT:=yD (AN.out.ext AB);have AU:=yD (Ag.out.trans (vS.ext AB));have Ae:=yD (AG.out.ext AB);have Ab:=yD (AE.out.ext AB);clear AB AN Ag AG AE
 go_wp2_with fail
 refine(jV w2 B g A n c _ bs d [[112,117,116,32],l0,[40],lq,[41,59]] pb 5 AT.out rfl (by have:=Aj.out; omega) (by simp) AW (fun e=>by obtain⟨ad,hb⟩:=AT.out.any; subst e; exact Blk.differ AW hb (by decide) rfl) (by
  have h8:=congrArg List.length HR.out;have h9:=AM.out;rw[AS.out];simp only[yM,zK] at h8 h9 ⊢
  omega) (Nat.le_trans Ah.out AU.out.size)).mono ?_
 rintro e w3 ⟨rfl,⟨v3,hu⟩,hm⟩
 replace hu:=hu.prS Ay.out
 rw[AS.out] at hu;clear AW;have Aw:=yD (AU.out.trans hm);have A5:=yD (hm.blk Ae.out AK.out (by decide));have A6:=yD (hm.blk Ab.out AI.out (by decide))
 replace HR:=yD ((List.append_assoc _ _ _).trans HR.out)
 have Az:=yD hu;clear hu hm AU Ae Ab AT;generalize bs++T1=b1 at *
 replace HR:=yD ((List.append_nil _).symm.trans HR.out)
 have Ar:=Aw.out;have AR:=Az.out
 go_wp2_with fail
 go_end0;have h8:=HR.out;exact⟨rfl,⟨_,by rw[←h8]; exact AR⟩,Ar⟩
theorem zPZ (w0:World)(B g n c:Nat)(A:Option Addr)(L:List TT.xB)(hB:VD w0 B n A L)(x:TT.xB)(hx:Cells w0 x.kA (TT.xD x.kids))(k:Nat)(t:Bs)(num:Int)(ks kk:List Nat)(ls:List Bs)(hk:x.kind=(k:Int))(ht:x.text=yX t)(hnum:x.num=num)(hks:x.kids=xG ks)(hnk:ZY k t num kk)(hl1:kk.length=ks.length)(hl2:ls.length=ks.length)(hkb:ks.length≤100000)(hsz:vR ls≤1099511627776)
  (HT:∀(w:World) (v:Value) (bs:Bs) (d:Nat),Ext w0 w→PrS w B g A n c v bs d→∀j (hj:j<ks.length),zCf w g L ks[j] (kk.getD j 0) (ls.getD j []))
  (D:Nat) (bks:Nat→List Bs) (HBK:∀j (hj:j<ks.length),kk.getD j 0=6→∃y,L[ks[j]]?=some y∧XX w0 B g n c A y D fun d=>(bks d).getD j []) (h10:k=10) :
  zAk w0 B g n c A x (D+1) fun d=>xP d k t num ls (bks (d+1)):=by
 intro w v bs d AM hS hd AB;subst h10;obtain⟨Af,Ag⟩:∃b,Hid (bks (d+1)=b):=⟨_,yD rfl⟩;obtain⟨AE,AA⟩:∃b,Hid (xP d 10 t num ls Af=b):=⟨_,yD rfl⟩
 show Calls Tryz.prog 89 #[.pointer (some ⟨g,0,none⟩),vZ x] w fun e w'=>e=.returned (.tuple #[])∧zBC w B g A n c (bs++xP d 10 t num ls (bks (d+1))) d w'
 replace AB:bs.length+(xP d 10 t num ls (bks (d+1))).length≤140737488355328:=AB
 rw[Ag.out,AA.out] at AB ⊢;have AJ:Hid ((bs++AE).length≤140737488355328):=yD (by rw[yM]; exact AB);have Aw:=yD hB;have Ah:=yD hx;have Am:=yD hks;have A3:=yD hnk;have As:=yD hl1;have Az:=yD hl2;have Ay:=yD hkb;have Ai:=yD HT;have Av:=yD HBK;have Ak:=yD AM;have At:=yD hS.lo;have Ae:=yD hd;have A0:=yD hsz;have Ao:=yD (ZK hnk);have Ab:Hid (B≤w.heap.size):=yD (by rw[←hB.size]; exact AM.size);have Ad:Hid (x.kids.length=ks.length):=yD (by rw[hks]; simp[xG]);obtain⟨A1,AG⟩:=hS.any;have AX:=yD AG.lt;clear hB hx hks hnk hl1 hl2 hkb HT HBK AM AB hd hsz AG;have AU:Hid (Ext w ((w.alloc (.cells #[.pointer (some ⟨g,0,none⟩)] 77)).alloc (.cells #[.int .u8 10,.int .i64 x.pos,.string (yX t),.int .i64 num,.slice x.kA x.kids.length x.kc] 48))):=yD ((Ext.alloc _ _).trans (Ext.alloc _ _));have AF:Hid (Blk ((w.alloc (.cells #[.pointer (some ⟨g,0,none⟩)] 77)).alloc (.cells #[.int .u8 10,.int .i64 x.pos,.string (yX t),.int .i64 num,.slice x.kA x.kids.length x.kc] 48)) w.heap.size 77 #[.pointer (some ⟨g,0,none⟩)]):=yD ((Blk.new _ _ _).alloc _)
 have AC:Hid (Blk ((w.alloc (.cells #[.pointer (some ⟨g,0,none⟩)] 77)).alloc (.cells #[.int .u8 10,.int .i64 x.pos,.string (yX t),.int .i64 num,.slice x.kA x.kids.length x.kc] 48)) (w.heap.size+1) 48 #[.int .u8 10,.int .i64 x.pos,.string (yX t),.int .i64 num,.slice x.kA x.kids.length x.kc]):=yD (Blk.VV (by simp));have AL:=yD (hS.ext AU.out);have Aa:Hid (vS w ((w.alloc (.cells #[.pointer (some ⟨g,0,none⟩)] 77)).alloc (.cells #[.int .u8 10,.int .i64 x.pos,.string (yX t),.int .i64 num,.slice x.kA x.kids.length x.kc] 48)) B g):=yD (vS.ext AU.out);have HE:Hid (∀args w,(callFunc 138 args).run Tryz.prog w=.ok (.enter 138 args) w):=yD (enters_of Tryz.func138 (by kernel_rfl) rfl);clear hS;unfold vZ;rw[hk,ht,hnum]
 go_enter Tryz.func89,Tryz.ntmps89
 go_upto_region 1 with fail
 try simp only[size_alloc]
 have AI:Hid (w.heap.size≠g):=yD (by have:=AX.out; omega);have AH:Hid (w.heap.size+1≠g):=yD (by have:=AX.out; omega);generalize w.heap.size+1=gn at AC AH ⊢;generalize w.heap.size=gp at AF AI ⊢;generalize ((w.alloc (.cells #[.pointer (some ⟨g,0,none⟩)] 77)).alloc (.cells #[.int .u8 10,.int .i64 x.pos,.string (yX t),.int .i64 num,.slice x.kA x.kids.length x.kc] 48))=w1 at *;have AW:=yD (Ak.out.trans AU.out);have AV:=yD (Ah.out.ext AW.out);have An:Hid (Blk w1 gn 48 #[.int .u8 x.kind,.int .i64 x.pos,.string x.text,.int .i64 x.num,.slice x.kA x.kids.length x.kc]):=yD (by rw[hk,ht,hnum]; exact AC.out);have Ap:=yD AF.out.lt;have A2:=yD AC.out.lt;have Aq:=yD (Aw.out.prT AW.out AL.out);have Al:=yD (Ai.out w1 v bs d AW.out AL.out);have he:=HE.out;have AT:Hid (0<ks.length):=yD (by have:=Ao.out; have:=As.out; omega)
 have AR:Hid (∀w',Ext w1 w'→Calls Tryz.prog 138 #[.int .i64 0,.pointer (some ⟨gp,0,none⟩),.pointer (some ⟨gn,0,none⟩)] w' fun e Ac=>e=.returned (.string (yX (ls.getD 0 [])))∧Ext w' Ac):=yD fun w' hx=>by
  obtain⟨y,h1,h2,h3⟩:=Al.out 0 AT.out;exact ZC w' g n c gp gn A L (Aq.out.ext hx) x (AF.out.ext hx) (An.out.ext hx) (AV.out.ext hx) 0 (ks[0]'AT.out) (kk.getD 0 0) (by rw[Ad.out]; exact AT.out) (by simp only[Am.out,xG,zA]) (ls.getD 0 []) ⟨y,h1,h2,fun w2 AD=>h3 w2 (hx.trans AD)⟩
 replace AA:Hid (xV d [[100,101,108,101,116,101,32],(ls.getD 0 []),[59]]=AE):=AA
 generalize ls.getD 0 []=l0 at *;obtain⟨T1,AO⟩:∃b,Hid (xV d [[100,101,108,101,116,101,32],l0,[59]]=b):=⟨_,yD rfl⟩;rw[AO.out] at AA;have n0:w1.cell? ⟨gn,0,none⟩=some (.int .u8 10):=AC.out.cell 0;have n1:w1.cell? ⟨gn,1,none⟩=some (.int .i64 x.pos):=AC.out.cell 1;have n2:w1.cell? ⟨gn,2,none⟩=some (.string (yX t)):=AC.out.cell 2;have n3:w1.cell? ⟨gn,3,none⟩=some (.int .i64 num):=AC.out.cell 3;have n4:w1.cell? ⟨gn,4,none⟩=some (.slice x.kA x.kids.length x.kc):=AC.out.cell 4;have p0:w1.cell? ⟨gp,0,none⟩=some (.pointer (some ⟨g,0,none⟩)):=AF.out.cell 0;have HR:Hid (bs++(T1++[])=bs++AE):=yD (by rw[List.append_nil,AA.out])
 go_upto_region 10 with fail
 apply xI 4 (by kernel_rfl) (by kernel_rfl) (by kernel_rfl);apply yZ (.pointer (some ⟨g,0,none⟩)) rfl rfl rfl
 ·intro w' AK hH;clear hH;have yp:=(AK.cell (p:=⟨gp,0,none⟩) Ap.out).trans p0;simp[yY,go_sem,yp];exact Ext.refl _
 apply sQ (.func (.func 138) #[] #[.pointer (some ⟨gp,0,none⟩),.pointer (some ⟨gn,0,none⟩)]);apply yZ (.string (yX l0)) rfl rfl rfl
 ·intro w' AK hH;clear hH;simp[yY,go_sem,he];refine(AR.out w' AK).mono ?_;rintro e w2 ⟨rfl,AD⟩;exact⟨_,rfl,rfl,AD⟩
 apply vA (XJ 9 3 (JM [[100,101,108,101,116,101,32],l0,[59]])) (fun v a b h k=>XJ.ext v a b h k) rfl rfl rfl
 ·intro w' AK hH;clear hH;simp[yY,go_sem];exact⟨⟨_,rfl,Blk.new w' _ _⟩,Ext.alloc _ _⟩
 intro Ax;apply xN;intro w2 AD hH;obtain⟨pb,rfl,AS⟩:=hH _ (List.mem_cons_self ..);clear hH p0 n0 n1 n2 n3 n4
 try simp only[Act.put,yA,yC,yB]
 have AP:=yD (AL.out.ext AD);have AQ:=yD (Aa.out.trans (vS.ext AD));have AZ:=yD (AF.out.ext AD);have AY:=yD (AC.out.ext AD);clear AD AL Aa AF AC
 go_wp2_with fail
 refine(jV w2 B g A n c _ bs d [[100,101,108,101,116,101,32],l0,[59]] pb 3 AP.out rfl (by have:=Ae.out; omega) (by simp) AS (fun e=>by obtain⟨ad,hb⟩:=AP.out.any; subst e; exact Blk.differ AS hb (by decide) rfl) (by
  have h8:=congrArg List.length HR.out;have h9:=AJ.out;rw[AO.out];simp only[yM,zK] at h8 h9 ⊢
  omega) (Nat.le_trans Ab.out AQ.out.size)).mono ?_
 rintro e w3 ⟨rfl,⟨v3,hu⟩,hm⟩
 replace hu:=hu.prS At.out
 rw[AO.out] at hu;clear AS;have Ar:=yD (AQ.out.trans hm);have A4:=yD (hm.blk AZ.out AI.out (by decide));have A5:=yD (hm.blk AY.out AH.out (by decide))
 replace HR:=yD ((List.append_assoc _ _ _).trans HR.out)
 have Au:=yD hu;clear hu hm AQ AZ AY AP;generalize bs++T1=b1 at *
 replace HR:=yD ((List.append_nil _).symm.trans HR.out)
 have Aj:=Ar.out;have AN:=Au.out
 go_wp2_with fail
 go_end0;have h8:=HR.out;exact⟨rfl,⟨_,by rw[←h8]; exact AN⟩,Aj⟩
theorem zPF (w0:World)(B g n c:Nat)(A:Option Addr)(L:List TT.xB)(hB:VD w0 B n A L)(x:TT.xB)(hx:Cells w0 x.kA (TT.xD x.kids))(k:Nat)(t:Bs)(num:Int)(ks kk:List Nat)(ls:List Bs)(hk:x.kind=(k:Int))(ht:x.text=yX t)(hnum:x.num=num)(hks:x.kids=xG ks)(hnk:ZY k t num kk)(hl1:kk.length=ks.length)(hl2:ls.length=ks.length)(hkb:ks.length≤100000)(hsz:vR ls≤1099511627776)
  (HT:∀(w:World) (v:Value) (bs:Bs) (d:Nat),Ext w0 w→PrS w B g A n c v bs d→∀j (hj:j<ks.length),zCf w g L ks[j] (kk.getD j 0) (ls.getD j []))
  (D:Nat) (bks:Nat→List Bs) (HBK:∀j (hj:j<ks.length),kk.getD j 0=6→∃y,L[ks[j]]?=some y∧XX w0 B g n c A y D fun d=>(bks d).getD j []) (h11:k=11) :
  zAk w0 B g n c A x (D+1) fun d=>xP d k t num ls (bks (d+1)):=by
 intro w v bs d AP hS hd AC;subst h11;obtain⟨An,Ao⟩:∃b,Hid (bks (d+1)=b):=⟨_,yD rfl⟩;obtain⟨AG,AB⟩:∃b,Hid (xP d 11 t num ls An=b):=⟨_,yD rfl⟩
 show Calls Tryz.prog 89 #[.pointer (some ⟨g,0,none⟩),vZ x] w fun e w'=>e=.returned (.tuple #[])∧zBC w B g A n c (bs++xP d 11 t num ls (bks (d+1))) d w'
 replace AC:bs.length+(xP d 11 t num ls (bks (d+1))).length≤140737488355328:=AC
 rw[Ao.out,AB.out] at AC ⊢;have AL:Hid ((bs++AG).length≤140737488355328):=yD (by rw[yM]; exact AC);have Az:=yD hB;have Ap:=yD hx;have Ae:=yD hks;have A5:=yD hnk;have Aj:=yD hl1;have A2:=yD hl2;have A0:=yD hkb;have Aq:=yD HT;have Ay:=yD HBK;have At:=yD AP;have Aw:=yD hS.lo;have Am:=yD hd;have A3:=yD hsz;have Ag:=yD (ZK hnk);have Al:Hid (B≤w.heap.size):=yD (by rw[←hB.size]; exact AP.size);have Aa:Hid (x.kids.length=ks.length):=yD (by rw[hks]; simp[xG]);obtain⟨A4,AH⟩:=hS.any;have Ab:=yD AH.lt;clear hB hx hks hnk hl1 hl2 hkb HT HBK AP AC hd hsz AH;have AY:Hid (Ext w ((w.alloc (.cells #[.pointer (some ⟨g,0,none⟩)] 77)).alloc (.cells #[.int .u8 11,.int .i64 x.pos,.string (yX t),.int .i64 num,.slice x.kA x.kids.length x.kc] 48))):=yD ((Ext.alloc _ _).trans (Ext.alloc _ _));have AF:Hid (Blk ((w.alloc (.cells #[.pointer (some ⟨g,0,none⟩)] 77)).alloc (.cells #[.int .u8 11,.int .i64 x.pos,.string (yX t),.int .i64 num,.slice x.kA x.kids.length x.kc] 48)) w.heap.size 77 #[.pointer (some ⟨g,0,none⟩)]):=yD ((Blk.new _ _ _).alloc _)
 have AD:Hid (Blk ((w.alloc (.cells #[.pointer (some ⟨g,0,none⟩)] 77)).alloc (.cells #[.int .u8 11,.int .i64 x.pos,.string (yX t),.int .i64 num,.slice x.kA x.kids.length x.kc] 48)) (w.heap.size+1) 48 #[.int .u8 11,.int .i64 x.pos,.string (yX t),.int .i64 num,.slice x.kA x.kids.length x.kc]):=yD (Blk.VV (by simp));have AM:=yD (hS.ext AY.out);have Ak:Hid (vS w ((w.alloc (.cells #[.pointer (some ⟨g,0,none⟩)] 77)).alloc (.cells #[.int .u8 11,.int .i64 x.pos,.string (yX t),.int .i64 num,.slice x.kA x.kids.length x.kc] 48)) B g):=yD (vS.ext AY.out);have HE:Hid (∀args w,(callFunc 138 args).run Tryz.prog w=.ok (.enter 138 args) w):=yD (enters_of Tryz.func138 (by kernel_rfl) rfl);clear hS;unfold vZ;rw[hk,ht,hnum]
 go_enter Tryz.func89,Tryz.ntmps89
 go_upto_region 1 with fail
 try simp only[size_alloc]
 have AJ:Hid (w.heap.size≠g):=yD (by have:=Ab.out; omega);have AI:Hid (w.heap.size+1≠g):=yD (by have:=Ab.out; omega);generalize w.heap.size+1=gn at AD AI ⊢;generalize w.heap.size=gp at AF AJ ⊢;generalize ((w.alloc (.cells #[.pointer (some ⟨g,0,none⟩)] 77)).alloc (.cells #[.int .u8 11,.int .i64 x.pos,.string (yX t),.int .i64 num,.slice x.kA x.kids.length x.kc] 48))=w1 at *;have AZ:=yD (At.out.trans AY.out);have AK:=yD (Ap.out.ext AZ.out);have Af:Hid (Blk w1 gn 48 #[.int .u8 x.kind,.int .i64 x.pos,.string x.text,.int .i64 x.num,.slice x.kA x.kids.length x.kc]):=yD (by rw[hk,ht,hnum]; exact AD.out);have Au:=yD AF.out.lt;have Ar:=yD AD.out.lt;have Ai:=yD (Az.out.prT AZ.out AM.out);have Ac:=yD (Aq.out w1 v bs d AZ.out AM.out);have he:=HE.out;have AX:Hid (0<ks.length):=yD (by have:=Ag.out; have:=Aj.out; omega)
 have AV:Hid (∀w',Ext w1 w'→Calls Tryz.prog 138 #[.int .i64 0,.pointer (some ⟨gp,0,none⟩),.pointer (some ⟨gn,0,none⟩)] w' fun e AN=>e=.returned (.string (yX (ls.getD 0 [])))∧Ext w' AN):=yD fun w' hx=>by
  obtain⟨y,h1,h2,h3⟩:=Ac.out 0 AX.out;exact ZC w' g n c gp gn A L (Ai.out.ext hx) x (AF.out.ext hx) (Af.out.ext hx) (AK.out.ext hx) 0 (ks[0]'AX.out) (kk.getD 0 0) (by rw[Aa.out]; exact AX.out) (by simp only[Ae.out,xG,zA]) (ls.getD 0 []) ⟨y,h1,h2,fun w2 AA=>h3 w2 (hx.trans AA)⟩
 have AR:Hid (1<ks.length):=yD (by have:=Ag.out; have:=Aj.out; omega)
 have AO:Hid (∀w',Ext w1 w'→Calls Tryz.prog 138 #[.int .i64 1,.pointer (some ⟨gp,0,none⟩),.pointer (some ⟨gn,0,none⟩)] w' fun e AN=>e=.returned (.string (yX (ls.getD 1 [])))∧Ext w' AN):=yD fun w' hx=>by
  obtain⟨y,h1,h2,h3⟩:=Ac.out 1 AR.out;exact ZC w' g n c gp gn A L (Ai.out.ext hx) x (AF.out.ext hx) (Af.out.ext hx) (AK.out.ext hx) 1 (ks[1]'AR.out) (kk.getD 1 0) (by rw[Aa.out]; exact AR.out) (by simp only[Ae.out,xG,zA]) (ls.getD 1 []) ⟨y,h1,h2,fun w2 AA=>h3 w2 (hx.trans AA)⟩
 replace AB:Hid (xV d [[115,99,97,110,32],t,[32,61,32],(ls.getD 0 []),[46],(ls.getD 1 []),[59]]=AG):=AB
 generalize ls.getD 0 []=l0 at *;generalize ls.getD 1 []=l1 at *;obtain⟨T1,AS⟩:∃b,Hid (xV d [[115,99,97,110,32],t,[32,61,32],l0,[46],l1,[59]]=b):=⟨_,yD rfl⟩;rw[AS.out] at AB;have n0:w1.cell? ⟨gn,0,none⟩=some (.int .u8 11):=AD.out.cell 0;have n1:w1.cell? ⟨gn,1,none⟩=some (.int .i64 x.pos):=AD.out.cell 1;have n2:w1.cell? ⟨gn,2,none⟩=some (.string (yX t)):=AD.out.cell 2;have n3:w1.cell? ⟨gn,3,none⟩=some (.int .i64 num):=AD.out.cell 3;have n4:w1.cell? ⟨gn,4,none⟩=some (.slice x.kA x.kids.length x.kc):=AD.out.cell 4;have p0:w1.cell? ⟨gp,0,none⟩=some (.pointer (some ⟨g,0,none⟩)):=AF.out.cell 0;have HR:Hid (bs++(T1++[])=bs++AG):=yD (by rw[List.append_nil,AB.out])
 go_upto_region 12 with fail
 apply xI 8 (by kernel_rfl) (by kernel_rfl) (by kernel_rfl);apply yZ (.pointer (some ⟨g,0,none⟩)) rfl rfl rfl
 ·intro w' AE hH;clear hH;have yp:=(AE.cell (p:=⟨gp,0,none⟩) Au.out).trans p0;simp[yY,go_sem,yp];exact Ext.refl _
 apply sQ (.pointer (some ⟨gn,2,none⟩));apply yZ (.string (yX t)) rfl rfl rfl
 ·intro w' AE hH;clear hH;have y2:=(AE.cell (p:=⟨gn,2,none⟩) Ar.out).trans n2;simp[yY,go_sem,y2];exact Ext.refl _
 apply sQ (.func (.func 138) #[] #[.pointer (some ⟨gp,0,none⟩),.pointer (some ⟨gn,0,none⟩)]);apply yZ (.string (yX l0)) rfl rfl rfl
 ·intro w' AE hH;clear hH;simp[yY,go_sem,he];refine(AV.out w' AE).mono ?_;rintro e w2 ⟨rfl,AA⟩;exact⟨_,rfl,rfl,AA⟩
 apply sQ (.func (.func 138) #[] #[.pointer (some ⟨gp,0,none⟩),.pointer (some ⟨gn,0,none⟩)]);apply yZ (.string (yX l1)) rfl rfl rfl
 ·intro w' AE hH;clear hH;simp[yY,go_sem,he];refine(AO.out w' AE).mono ?_;rintro e w2 ⟨rfl,AA⟩;exact⟨_,rfl,rfl,AA⟩
 apply vA (XJ 9 7 (JM [[115,99,97,110,32],t,[32,61,32],l0,[46],l1,[59]])) (fun v a b h k=>XJ.ext v a b h k) rfl rfl rfl
 ·intro w' AE hH;clear hH;simp[yY,go_sem];exact⟨⟨_,rfl,Blk.new w' _ _⟩,Ext.alloc _ _⟩
 intro A1;apply xN;intro w2 AA hH;obtain⟨pb,rfl,AW⟩:=hH _ (List.mem_cons_self ..);clear hH p0 n0 n1 n2 n3 n4
 try simp only[Act.put,yA,yC,yB]
 have AT:=yD (AM.out.ext AA);have AU:=yD (Ak.out.trans (vS.ext AA));have Ah:=yD (AF.out.ext AA);have Ad:=yD (AD.out.ext AA);clear AA AM Ak AF AD
 go_wp2_with fail
 refine(jV w2 B g A n c _ bs d [[115,99,97,110,32],t,[32,61,32],l0,[46],l1,[59]] pb 7 AT.out rfl (by have:=Am.out; omega) (by simp) AW (fun e=>by obtain⟨ad,hb⟩:=AT.out.any; subst e; exact Blk.differ AW hb (by decide) rfl) (by
  have h8:=congrArg List.length HR.out;have h9:=AL.out;rw[AS.out];simp only[yM,zK] at h8 h9 ⊢
  omega) (Nat.le_trans Al.out AU.out.size)).mono ?_
 rintro e w3 ⟨rfl,⟨v3,hu⟩,hm⟩
 replace hu:=hu.prS Aw.out
 rw[AS.out] at hu;clear AW;have Av:=yD (AU.out.trans hm);have A6:=yD (hm.blk Ah.out AJ.out (by decide));have A7:=yD (hm.blk Ad.out AI.out (by decide))
 replace HR:=yD ((List.append_assoc _ _ _).trans HR.out)
 have Ax:=yD hu;clear hu hm AU Ah Ad AT;generalize bs++T1=b1 at *
 replace HR:=yD ((List.append_nil _).symm.trans HR.out)
 have As:=Av.out;have AQ:=Ax.out
 go_wp2_with fail
 go_end0;have h8:=HR.out;exact⟨rfl,⟨_,by rw[←h8]; exact AQ⟩,As⟩
theorem zPG (w0:World)(B g n c:Nat)(A:Option Addr)(L:List TT.xB)(hB:VD w0 B n A L)(x:TT.xB)(hx:Cells w0 x.kA (TT.xD x.kids))(k:Nat)(t:Bs)(num:Int)(ks kk:List Nat)(ls:List Bs)(hk:x.kind=(k:Int))(ht:x.text=yX t)(hnum:x.num=num)(hks:x.kids=xG ks)(hnk:ZY k t num kk)(hl1:kk.length=ks.length)(hl2:ls.length=ks.length)(hkb:ks.length≤100000)(hsz:vR ls≤1099511627776)
  (HT:∀(w:World) (v:Value) (bs:Bs) (d:Nat),Ext w0 w→PrS w B g A n c v bs d→∀j (hj:j<ks.length),zCf w g L ks[j] (kk.getD j 0) (ls.getD j []))
  (D:Nat) (bks:Nat→List Bs) (HBK:∀j (hj:j<ks.length),kk.getD j 0=6→∃y,L[ks[j]]?=some y∧XX w0 B g n c A y D fun d=>(bks d).getD j []) (h12:k=12) :
  zAk w0 B g n c A x (D+1) fun d=>xP d k t num ls (bks (d+1)):=by
 intro w v bs d AO hS hd AC;subst h12;obtain⟨Ah,Ai⟩:∃b,Hid (bks (d+1)=b):=⟨_,yD rfl⟩;obtain⟨AF,AB⟩:∃b,Hid (xP d 12 t num ls Ah=b):=⟨_,yD rfl⟩
 show Calls Tryz.prog 89 #[.pointer (some ⟨g,0,none⟩),vZ x] w fun e w'=>e=.returned (.tuple #[])∧zBC w B g A n c (bs++xP d 12 t num ls (bks (d+1))) d w'
 replace AC:bs.length+(xP d 12 t num ls (bks (d+1))).length≤140737488355328:=AC
 rw[Ai.out,AB.out] at AC ⊢;have AL:Hid ((bs++AF).length≤140737488355328):=yD (by rw[yM]; exact AC);have A1:=yD hB;have Aj:=yD hx;have Ap:=yD hks;have Au:=yD hnk;have Aw:=yD hl1;have A5:=yD hl2;have A2:=yD hkb;have Al:=yD HT;have A0:=yD HBK;have An:=yD AO;have Ax:=yD hS.lo;have Ag:=yD hd;have A6:=yD hsz;have Ar:=yD (ZK hnk);have Ae:Hid (B≤w.heap.size):=yD (by rw[←hB.size]; exact AO.size);have Af:Hid (x.kids.length=ks.length):=yD (by rw[hks]; simp[xG]);obtain⟨A7,AH⟩:=hS.any;have Aa:=yD AH.lt;clear hB hx hks hnk hl1 hl2 hkb HT HBK AO AC hd hsz AH;have AX:Hid (Ext w ((w.alloc (.cells #[.pointer (some ⟨g,0,none⟩)] 77)).alloc (.cells #[.int .u8 12,.int .i64 x.pos,.string (yX t),.int .i64 num,.slice x.kA x.kids.length x.kc] 48))):=yD ((Ext.alloc _ _).trans (Ext.alloc _ _));have AG:Hid (Blk ((w.alloc (.cells #[.pointer (some ⟨g,0,none⟩)] 77)).alloc (.cells #[.int .u8 12,.int .i64 x.pos,.string (yX t),.int .i64 num,.slice x.kA x.kids.length x.kc] 48)) w.heap.size 77 #[.pointer (some ⟨g,0,none⟩)]):=yD ((Blk.new _ _ _).alloc _)
 have AE:Hid (Blk ((w.alloc (.cells #[.pointer (some ⟨g,0,none⟩)] 77)).alloc (.cells #[.int .u8 12,.int .i64 x.pos,.string (yX t),.int .i64 num,.slice x.kA x.kids.length x.kc] 48)) (w.heap.size+1) 48 #[.int .u8 12,.int .i64 x.pos,.string (yX t),.int .i64 num,.slice x.kA x.kids.length x.kc]):=yD (Blk.VV (by simp));have AM:=yD (hS.ext AX.out);have Ad:Hid (vS w ((w.alloc (.cells #[.pointer (some ⟨g,0,none⟩)] 77)).alloc (.cells #[.int .u8 12,.int .i64 x.pos,.string (yX t),.int .i64 num,.slice x.kA x.kids.length x.kc] 48)) B g):=yD (vS.ext AX.out);have HE:Hid (∀args w,(callFunc 138 args).run Tryz.prog w=.ok (.enter 138 args) w):=yD (enters_of Tryz.func138 (by kernel_rfl) rfl);clear hS;unfold vZ;rw[hk,ht,hnum]
 go_enter Tryz.func89,Tryz.ntmps89
 go_upto_region 1 with fail
 try simp only[size_alloc]
 have AK:Hid (w.heap.size≠g):=yD (by have:=Aa.out; omega);have AI:Hid (w.heap.size+1≠g):=yD (by have:=Aa.out; omega);generalize w.heap.size+1=gn at AE AI ⊢;generalize w.heap.size=gp at AG AK ⊢;generalize ((w.alloc (.cells #[.pointer (some ⟨g,0,none⟩)] 77)).alloc (.cells #[.int .u8 12,.int .i64 x.pos,.string (yX t),.int .i64 num,.slice x.kA x.kids.length x.kc] 48))=w1 at *;have AZ:=yD (An.out.trans AX.out);have AY:=yD (Aj.out.ext AZ.out);have Aq:Hid (Blk w1 gn 48 #[.int .u8 x.kind,.int .i64 x.pos,.string x.text,.int .i64 x.num,.slice x.kA x.kids.length x.kc]):=yD (by rw[hk,ht,hnum]; exact AE.out);have As:=yD AG.out.lt;have AJ:=yD AE.out.lt;have At:=yD (A1.out.prT AZ.out AM.out);have Ao:=yD (Al.out w1 v bs d AZ.out AM.out);have he:=HE.out;have AW:Hid (0<ks.length):=yD (by have:=Ar.out; have:=Aw.out; omega)
 have AT:Hid (∀w',Ext w1 w'→Calls Tryz.prog 138 #[.int .i64 0,.pointer (some ⟨gp,0,none⟩),.pointer (some ⟨gn,0,none⟩)] w' fun e AN=>e=.returned (.string (yX (ls.getD 0 [])))∧Ext w' AN):=yD fun w' hx=>by
  obtain⟨y,h1,h2,h3⟩:=Ao.out 0 AW.out;exact ZC w' g n c gp gn A L (At.out.ext hx) x (AG.out.ext hx) (Aq.out.ext hx) (AY.out.ext hx) 0 (ks[0]'AW.out) (kk.getD 0 0) (by rw[Af.out]; exact AW.out) (by simp only[Ap.out,xG,zA]) (ls.getD 0 []) ⟨y,h1,h2,fun w2 AD=>h3 w2 (hx.trans AD)⟩
 have AV:=yD (zDm Au.out (by decide))
 have Ak:Hid (∀w' lb,Ext w1 w'→Blk w' lb 9 #[.string (yX [32,115,104,97,114,101,100,59]),.string (yX [32,97,108,108,59])]→Calls Tryz.prog 43 #[.agg #[.int .u8 12,.int .i64 x.pos,.string (yX t),.int .i64 num,.slice x.kA x.kids.length x.kc],.slice (some ⟨lb,0,none⟩) 2 2] w' fun e AN=>e=.returned (.string (yX (jU num [32,115,104,97,114,101,100,59] [32,97,108,108,59])))∧Ext w' AN):=yD fun w' lb hx hb=>by
  have:=zEb w' x (by rw[hnum]; exact AV.out) [32,115,104,97,114,101,100,59] [32,97,108,108,59] lb hb
  unfold vZ at this;rw[hk,ht,hnum] at this;exact this
 replace AB:Hid (xV d [[108,111,99,107,32],(ls.getD 0 []),(jU num [32,115,104,97,114,101,100,59] [32,97,108,108,59])]=AF):=AB
 generalize ls.getD 0 []=l0 at *;generalize jU num [32,115,104,97,114,101,100,59] [32,97,108,108,59]=lp at *;obtain⟨T1,AQ⟩:∃b,Hid (xV d [[108,111,99,107,32],l0,lp]=b):=⟨_,yD rfl⟩;rw[AQ.out] at AB;have n0:w1.cell? ⟨gn,0,none⟩=some (.int .u8 12):=AE.out.cell 0;have n1:w1.cell? ⟨gn,1,none⟩=some (.int .i64 x.pos):=AE.out.cell 1;have n2:w1.cell? ⟨gn,2,none⟩=some (.string (yX t)):=AE.out.cell 2;have n3:w1.cell? ⟨gn,3,none⟩=some (.int .i64 num):=AE.out.cell 3;have n4:w1.cell? ⟨gn,4,none⟩=some (.slice x.kA x.kids.length x.kc):=AE.out.cell 4;have p0:w1.cell? ⟨gp,0,none⟩=some (.pointer (some ⟨g,0,none⟩)):=AG.out.cell 0;have HR:Hid (bs++(T1++[])=bs++AF):=yD (by rw[List.append_nil,AB.out])
 go_upto_region 14 with fail
 apply xI 7 (by kernel_rfl) (by kernel_rfl) (by kernel_rfl);apply yZ (.pointer (some ⟨g,0,none⟩)) rfl rfl rfl
 ·intro w' AA hH;clear hH;have yp:=(AA.cell (p:=⟨gp,0,none⟩) As.out).trans p0;simp[yY,go_sem,yp];exact Ext.refl _
 apply sQ (.func (.func 138) #[] #[.pointer (some ⟨gp,0,none⟩),.pointer (some ⟨gn,0,none⟩)]);apply yZ (.string (yX l0)) rfl rfl rfl
 ·intro w' AA hH;clear hH;simp[yY,go_sem,he];refine(AT.out w' AA).mono ?_;rintro e w2 ⟨rfl,AD⟩;exact⟨_,rfl,rfl,AD⟩
 apply yZ (.agg #[.int .u8 12,.int .i64 x.pos,.string (yX t),.int .i64 num,.slice x.kA x.kids.length x.kc]) rfl rfl rfl
 ·intro w' AA hH;clear hH;have y0:=(AA.cell (p:=⟨gn,0,none⟩) AJ.out).trans n0;have y1:=(AA.cell (p:=⟨gn,1,none⟩) AJ.out).trans n1;have y2:=(AA.cell (p:=⟨gn,2,none⟩) AJ.out).trans n2;have y3:=(AA.cell (p:=⟨gn,3,none⟩) AJ.out).trans n3;have y4:=(AA.cell (p:=⟨gn,4,none⟩) AJ.out).trans n4;simp[yY,go_sem,y0,y1,y2,y3,y4];exact Ext.refl _
 apply vA (XJ 9 2 #[.string (yX [32,115,104,97,114,101,100,59]),.string (yX [32,97,108,108,59])]) (fun v a b h k=>XJ.ext v a b h k) rfl rfl rfl
 ·intro w' AA hH;clear hH;simp[yY,go_sem];exact⟨⟨_,rfl,Blk.new w' _ _⟩,Ext.alloc _ _⟩
 intro A3;apply yZ (.string (yX lp)) rfl rfl rfl
 ·intro w' AA hH;obtain⟨lb,rfl,Ay⟩:=hH _ (List.mem_cons_self ..) ⟨67,rfl,by decide⟩;clear hH;simp[yY,go_sem,he];refine(Ak.out w' lb AA Ay).mono ?_;rintro e w2 ⟨rfl,AD⟩;exact⟨_,rfl,rfl,AD⟩
 apply vA (XJ 9 3 (JM [[108,111,99,107,32],l0,lp])) (fun v a b h k=>XJ.ext v a b h k) rfl rfl rfl
 ·intro w' AA hH;clear hH;simp[yY,go_sem];exact⟨⟨_,rfl,Blk.new w' _ _⟩,Ext.alloc _ _⟩
 intro A4;apply xN;intro w2 AD hH;obtain⟨pb,rfl,AU⟩:=hH _ (List.mem_cons_self ..);clear hH p0 n0 n1 n2 n3 n4
 try simp only[Act.put,yA,yC,yB]
 have AR:=yD (AM.out.ext AD);have AS:=yD (Ad.out.trans (vS.ext AD));have Ac:=yD (AG.out.ext AD);have Ab:=yD (AE.out.ext AD);clear AD AM Ad AG AE
 go_wp2_with fail
 refine(jV w2 B g A n c _ bs d [[108,111,99,107,32],l0,lp] pb 3 AR.out rfl (by have:=Ag.out; omega) (by simp) AU (fun e=>by obtain⟨ad,hb⟩:=AR.out.any; subst e; exact Blk.differ AU hb (by decide) rfl) (by
  have h8:=congrArg List.length HR.out;have h9:=AL.out;rw[AQ.out];simp only[yM,zK] at h8 h9 ⊢
  omega) (Nat.le_trans Ae.out AS.out.size)).mono ?_
 rintro e w3 ⟨rfl,⟨v3,hu⟩,hm⟩
 replace hu:=hu.prS Ax.out
 rw[AQ.out] at hu;clear AU;have Av:=yD (AS.out.trans hm);have A8:=yD (hm.blk Ac.out AK.out (by decide));have A9:=yD (hm.blk Ab.out AI.out (by decide))
 replace HR:=yD ((List.append_assoc _ _ _).trans HR.out)
 have Az:=yD hu;clear hu hm AS Ac Ab AR;generalize bs++T1=b1 at *
 replace HR:=yD ((List.append_nil _).symm.trans HR.out)
 have Am:=Av.out;have AP:=Az.out
 go_wp2_with fail
 go_end0;have h8:=HR.out;exact⟨rfl,⟨_,by rw[←h8]; exact AP⟩,Am⟩
theorem zQv (w0:World)(B g n c:Nat)(A:Option Addr)(L:List TT.xB)(hB:VD w0 B n A L)(x:TT.xB)(hx:Cells w0 x.kA (TT.xD x.kids))(k:Nat)(t:Bs)(num:Int)(ks kk:List Nat)(ls:List Bs)(hk:x.kind=(k:Int))(ht:x.text=yX t)(hnum:x.num=num)(hks:x.kids=xG ks)(hnk:ZY k t num kk)(hl1:kk.length=ks.length)(hl2:ls.length=ks.length)(hkb:ks.length≤100000)(hsz:vR ls≤1099511627776)
  (HT:∀(w:World) (v:Value) (bs:Bs) (d:Nat),Ext w0 w→PrS w B g A n c v bs d→∀j (hj:j<ks.length),zCf w g L ks[j] (kk.getD j 0) (ls.getD j []))
  (D:Nat) (bks:Nat→List Bs) (HBK:∀j (hj:j<ks.length),kk.getD j 0=6→∃y,L[ks[j]]?=some y∧XX w0 B g n c A y D fun d=>(bks d).getD j []) (h13:k=13) :
  zAk w0 B g n c A x (D+1) fun d=>xP d k t num ls (bks (d+1)):=by
 intro w v bs d AM hS hd AB;subst h13;obtain⟨Af,Ag⟩:∃b,Hid (bks (d+1)=b):=⟨_,yD rfl⟩;obtain⟨AE,AA⟩:∃b,Hid (xP d 13 t num ls Af=b):=⟨_,yD rfl⟩
 show Calls Tryz.prog 89 #[.pointer (some ⟨g,0,none⟩),vZ x] w fun e w'=>e=.returned (.tuple #[])∧zBC w B g A n c (bs++xP d 13 t num ls (bks (d+1))) d w'
 replace AB:bs.length+(xP d 13 t num ls (bks (d+1))).length≤140737488355328:=AB
 rw[Ag.out,AA.out] at AB ⊢;have AJ:Hid ((bs++AE).length≤140737488355328):=yD (by rw[yM]; exact AB);have Aw:=yD hB;have Ah:=yD hx;have Am:=yD hks;have A3:=yD hnk;have As:=yD hl1;have Ay:=yD hl2;have Ax:=yD hkb;have Ai:=yD HT;have Av:=yD HBK;have Ak:=yD AM;have At:=yD hS.lo;have Ae:=yD hd;have Az:=yD hsz;have Ao:=yD (ZK hnk);have Ab:Hid (B≤w.heap.size):=yD (by rw[←hB.size]; exact AM.size);have Ad:Hid (x.kids.length=ks.length):=yD (by rw[hks]; simp[xG]);obtain⟨A0,AG⟩:=hS.any;have AX:=yD AG.lt;clear hB hx hks hnk hl1 hl2 hkb HT HBK AM AB hd hsz AG;have AU:Hid (Ext w ((w.alloc (.cells #[.pointer (some ⟨g,0,none⟩)] 77)).alloc (.cells #[.int .u8 13,.int .i64 x.pos,.string (yX t),.int .i64 num,.slice x.kA x.kids.length x.kc] 48))):=yD ((Ext.alloc _ _).trans (Ext.alloc _ _));have AF:Hid (Blk ((w.alloc (.cells #[.pointer (some ⟨g,0,none⟩)] 77)).alloc (.cells #[.int .u8 13,.int .i64 x.pos,.string (yX t),.int .i64 num,.slice x.kA x.kids.length x.kc] 48)) w.heap.size 77 #[.pointer (some ⟨g,0,none⟩)]):=yD ((Blk.new _ _ _).alloc _)
 have AC:Hid (Blk ((w.alloc (.cells #[.pointer (some ⟨g,0,none⟩)] 77)).alloc (.cells #[.int .u8 13,.int .i64 x.pos,.string (yX t),.int .i64 num,.slice x.kA x.kids.length x.kc] 48)) (w.heap.size+1) 48 #[.int .u8 13,.int .i64 x.pos,.string (yX t),.int .i64 num,.slice x.kA x.kids.length x.kc]):=yD (Blk.VV (by simp));have AL:=yD (hS.ext AU.out);have Aa:Hid (vS w ((w.alloc (.cells #[.pointer (some ⟨g,0,none⟩)] 77)).alloc (.cells #[.int .u8 13,.int .i64 x.pos,.string (yX t),.int .i64 num,.slice x.kA x.kids.length x.kc] 48)) B g):=yD (vS.ext AU.out);have HE:Hid (∀args w,(callFunc 138 args).run Tryz.prog w=.ok (.enter 138 args) w):=yD (enters_of Tryz.func138 (by kernel_rfl) rfl);clear hS;unfold vZ;rw[hk,ht,hnum]
 go_enter Tryz.func89,Tryz.ntmps89
 go_upto_region 1 with fail
 try simp only[size_alloc]
 have AI:Hid (w.heap.size≠g):=yD (by have:=AX.out; omega);have AH:Hid (w.heap.size+1≠g):=yD (by have:=AX.out; omega);generalize w.heap.size+1=gn at AC AH ⊢;generalize w.heap.size=gp at AF AI ⊢;generalize ((w.alloc (.cells #[.pointer (some ⟨g,0,none⟩)] 77)).alloc (.cells #[.int .u8 13,.int .i64 x.pos,.string (yX t),.int .i64 num,.slice x.kA x.kids.length x.kc] 48))=w1 at *;have AW:=yD (Ak.out.trans AU.out);have AV:=yD (Ah.out.ext AW.out);have An:Hid (Blk w1 gn 48 #[.int .u8 x.kind,.int .i64 x.pos,.string x.text,.int .i64 x.num,.slice x.kA x.kids.length x.kc]):=yD (by rw[hk,ht,hnum]; exact AC.out);have Ap:=yD AF.out.lt;have A1:=yD AC.out.lt;have Aq:=yD (Aw.out.prT AW.out AL.out);have Al:=yD (Ai.out w1 v bs d AW.out AL.out);have he:=HE.out;have AT:Hid (0<ks.length):=yD (by have:=Ao.out; have:=As.out; omega)
 have AR:Hid (∀w',Ext w1 w'→Calls Tryz.prog 138 #[.int .i64 0,.pointer (some ⟨gp,0,none⟩),.pointer (some ⟨gn,0,none⟩)] w' fun e Ac=>e=.returned (.string (yX (ls.getD 0 [])))∧Ext w' Ac):=yD fun w' hx=>by
  obtain⟨y,h1,h2,h3⟩:=Al.out 0 AT.out;exact ZC w' g n c gp gn A L (Aq.out.ext hx) x (AF.out.ext hx) (An.out.ext hx) (AV.out.ext hx) 0 (ks[0]'AT.out) (kk.getD 0 0) (by rw[Ad.out]; exact AT.out) (by simp only[Am.out,xG,zA]) (ls.getD 0 []) ⟨y,h1,h2,fun w2 AD=>h3 w2 (hx.trans AD)⟩
 replace AA:Hid (xV d [[114,101,108,101,97,115,101,32],(ls.getD 0 []),[59]]=AE):=AA
 generalize ls.getD 0 []=l0 at *;obtain⟨T1,AO⟩:∃b,Hid (xV d [[114,101,108,101,97,115,101,32],l0,[59]]=b):=⟨_,yD rfl⟩;rw[AO.out] at AA;have n0:w1.cell? ⟨gn,0,none⟩=some (.int .u8 13):=AC.out.cell 0;have n1:w1.cell? ⟨gn,1,none⟩=some (.int .i64 x.pos):=AC.out.cell 1;have n2:w1.cell? ⟨gn,2,none⟩=some (.string (yX t)):=AC.out.cell 2;have n3:w1.cell? ⟨gn,3,none⟩=some (.int .i64 num):=AC.out.cell 3;have n4:w1.cell? ⟨gn,4,none⟩=some (.slice x.kA x.kids.length x.kc):=AC.out.cell 4;have p0:w1.cell? ⟨gp,0,none⟩=some (.pointer (some ⟨g,0,none⟩)):=AF.out.cell 0;have HR:Hid (bs++(T1++[])=bs++AE):=yD (by rw[List.append_nil,AA.out])
 go_upto_region 16 with fail
 apply xI 4 (by kernel_rfl) (by kernel_rfl) (by kernel_rfl);apply yZ (.pointer (some ⟨g,0,none⟩)) rfl rfl rfl
 ·intro w' AK hH;clear hH;have yp:=(AK.cell (p:=⟨gp,0,none⟩) Ap.out).trans p0;simp[yY,go_sem,yp];exact Ext.refl _
 apply sQ (.func (.func 138) #[] #[.pointer (some ⟨gp,0,none⟩),.pointer (some ⟨gn,0,none⟩)]);apply yZ (.string (yX l0)) rfl rfl rfl
 ·intro w' AK hH;clear hH;simp[yY,go_sem,he];refine(AR.out w' AK).mono ?_;rintro e w2 ⟨rfl,AD⟩;exact⟨_,rfl,rfl,AD⟩
 apply vA (XJ 9 3 (JM [[114,101,108,101,97,115,101,32],l0,[59]])) (fun v a b h k=>XJ.ext v a b h k) rfl rfl rfl
 ·intro w' AK hH;clear hH;simp[yY,go_sem];exact⟨⟨_,rfl,Blk.new w' _ _⟩,Ext.alloc _ _⟩
 intro A2;apply xN;intro w2 AD hH;obtain⟨pb,rfl,AS⟩:=hH _ (List.mem_cons_self ..);clear hH p0 n0 n1 n2 n3 n4
 try simp only[Act.put,yA,yC,yB]
 have AP:=yD (AL.out.ext AD);have AQ:=yD (Aa.out.trans (vS.ext AD));have AZ:=yD (AF.out.ext AD);have AY:=yD (AC.out.ext AD);clear AD AL Aa AF AC
 go_wp2_with fail
 refine(jV w2 B g A n c _ bs d [[114,101,108,101,97,115,101,32],l0,[59]] pb 3 AP.out rfl (by have:=Ae.out; omega) (by simp) AS (fun e=>by obtain⟨ad,hb⟩:=AP.out.any; subst e; exact Blk.differ AS hb (by decide) rfl) (by
  have h8:=congrArg List.length HR.out;have h9:=AJ.out;rw[AO.out];simp only[yM,zK] at h8 h9 ⊢
  omega) (Nat.le_trans Ab.out AQ.out.size)).mono ?_
 rintro e w3 ⟨rfl,⟨v3,hu⟩,hm⟩
 replace hu:=hu.prS At.out
 rw[AO.out] at hu;clear AS;have Ar:=yD (AQ.out.trans hm);have A4:=yD (hm.blk AZ.out AI.out (by decide));have A5:=yD (hm.blk AY.out AH.out (by decide))
 replace HR:=yD ((List.append_assoc _ _ _).trans HR.out)
 have Au:=yD hu;clear hu hm AQ AZ AY AP;generalize bs++T1=b1 at *
 replace HR:=yD ((List.append_nil _).symm.trans HR.out)
 have Aj:=Ar.out;have AN:=Au.out
 go_wp2_with fail
 go_end0;have h8:=HR.out;exact⟨rfl,⟨_,by rw[←h8]; exact AN⟩,Aj⟩
end Go.Proofs.YtioffpjajhalaaaGreatDoor
