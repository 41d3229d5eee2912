/- printer.stmt, walked at one node, kind by kind. Condition: what the kids print is known. -/
import Derived.Test.YtioffpjajhalaaaGreatDoorJaa
import Derived.Test.YtioffpjajhalaaaGreatDoorJax
set_option linter.unusedVariables false
set_option linter.unusedSimpArgs false
set_option maxRecDepth 100000
set_option maxHeartbeats 16000000
namespace Go.Proofs.YtioffpjajhalaaaGreatDoor
open Go Go.RowKit
def xW (d k:Nat)(t:Bs)(num:Int)(ls bk:List Bs):Bs:=
 if k=7 then xR d [[114,101,97,100,32],t,[32,61,32],(ls.getD 0 []),[46],(ls.getD 1 []),(JB num [59] [32,102,111,114,32,117,112,100,97,116,101,59])]
 else if k=8 then xR d [[115,101,116,32],(ls.getD 0 []),[46],(ls.getD 1 []),[32,61,32],(ls.getD 2 []),[59]]
 else if k=9 then xR d [[112,117,116,32],(ls.getD 0 []),[40],(jD (ls.drop 1)),[41,59]]
 else if k=10 then xR d [[100,101,108,101,116,101,32],(ls.getD 0 []),[59]]
 else if k=11 then xR d [[115,99,97,110,32],t,[32,61,32],(ls.getD 0 []),[46],(ls.getD 1 []),[59]]
 else if k=12 then xR d [[108,111,99,107,32],(ls.getD 0 []),(JB num [32,115,104,97,114,101,100,59] [32,97,108,108,59])]
 else if k=13 then xR d [[114,101,108,101,97,115,101,32],(ls.getD 0 []),[59]]
 else if k=14 then xR d [[105,102,32],(ls.getD 0 []),(JB num [32,60,32] [32,61,61,32]),(ls.getD 1 []),[32,123]]++(bk.getD 2 []++((if 3<ls.length then xR d [[125,32,101,108,115,101,32,123]]++bk.getD 3 [] else [])++xR d [[125]]))
 else if k=15 then xR d [[102,111,114,32],t,[32,61,32],(ls.getD 0 []),[32,116,111,32],(ls.getD 1 []),[32,123]]++(bk.getD 2 []++xR d [[125]])
 else if k=16 then xR d [[108,101,116,32],t,[32,61,32],(ls.getD 0 []),[59]]
 else if k=17 then xR d [[101,109,105,116,32],(ls.getD 0 []),[59]]
 else if k=18 then xR d [[114,111,108,108,98,97,99,107,59]]
 else if k=19 then xR d [[99,104,111,112,59]]
 else []
def JJ (e:TypeId)(m:Nat)(cs:Array Value)(v:Value)(w:World):Prop:=∃g,v=.slice (some ⟨g,0,none⟩) m m∧Blk w g e cs
theorem JJ.ext {e:TypeId}{m:Nat}{cs:Array Value}(v:Value)(w w':World)(h:JJ e m cs v w)(hx:Ext w w'):JJ e m cs v w':=let ⟨g,a,b⟩:=h; ⟨g,a,b.ext hx⟩
theorem zGU {k:Nat}{t:Bs}{x:Int}{kk:List Nat}(h:xU k t x kk)(hk:k=7∨k=12∨k=14):x=0∨x=1:=by
 have:=h.2.2.1
 unfold TT.JR at this;simp only[zF,zE] at this
 have hm:TT.XP (k:Int)=1:=by rcases hk with rfl | rfl | rfl <;> rfl
 have:=this.2.2
 omega
theorem VV {l want:List Int}(h:TT.isR l want=true)(i:Nat)(hi:i<want.length):TT.jH (want.getD i 0) (l.getD i 0)=true:=by
 have hl:=ZP h;unfold TT.isR at h;rw[zF,zG] at h;exact h.2 i (List.mem_range.2 (by omega))
theorem VM (kk:List Nat)(i:Nat):(kk.map fun (j:Nat)=>(j:Int)).getD i 0=((kk.getD i 0:Nat):Int):=by
 rw[yE,yE,zM]
 cases kk[i]? <;> rfl
theorem XG {k:Nat}{t:Bs}{x:Int}{kk:List Nat}(h:xU k t x kk):(k=7→kk.length=2)∧(k=8→kk.length=3)∧(k=9→2≤kk.length)∧(k=10→kk.length=1)∧(k=11→kk.length=2)∧(k=12→kk.length=1)∧(k=13→kk.length=1)∧(k=14→(kk.length=3∨kk.length=4)∧kk.getD 2 0=6∧(kk.length=4→kk.getD 3 0=6))∧(k=15→kk.length=3∧kk.getD 2 0=6)∧(k=16→kk.length=1)∧(k=17→kk.length=1):=by
 have hf:=h.2.2.2
 refine⟨?_,?_,?_,?_,?_,?_,?_,?_,?_,?_,?_⟩ <;> rintro rfl
 ·simpa using ZP (want:=[20,5]) hf
 ·simpa using ZP (want:=[20,5,0]) hf
 ·have hf:(decide (1<(kk.map fun (j:Nat)=>(j:Int)).length)&&_)=true:=hf;rw[zF,zE,yN] at hf;exact hf.1
 ·simpa using ZP (want:=[20]) hf
 ·simpa using ZP (want:=[5,5]) hf
 ·simpa using ZP (want:=[5]) hf
 ·have hf:(TT.isR (kk.map fun (j:Nat)=>(j:Int)) [5]||TT.isR (kk.map fun (j:Nat)=>(j:Int)) [20])=true:=hf;rw[Bool.or_eq_true] at hf
  rcases hf with hf | hf
  ·simpa using ZP hf
  ·simpa using ZP hf
 ·have hf:(TT.isR (kk.map fun (j:Nat)=>(j:Int)) [0,0,6]||TT.isR (kk.map fun (j:Nat)=>(j:Int)) [0,0,6,6])=true:=hf;rw[Bool.or_eq_true] at hf
  rcases hf with hf | hf
  ·have h1:=ZP hf;have h2:=VV hf 2 (by decide);rw[VM] at h2;have h2:((kk.getD 2 0:Int)==6)=true:=h2;rw[zN] at h2
   simp at h1
   exact⟨.inl h1,by omega,fun h=>by omega⟩
  ·have h1:=ZP hf;have h2:=VV hf 2 (by decide);have h3:=VV hf 3 (by decide);rw[VM] at h2 h3;have h2:((kk.getD 2 0:Int)==6)=true:=h2;have h3:((kk.getD 3 0:Int)==6)=true:=h3;rw[zN] at h2 h3
   simp at h1
   exact⟨.inr h1,by omega,fun _=>by omega⟩
 ·have h1:=ZP (want:=[21,21,6]) hf;have h2:=VV (want:=[21,21,6]) hf 2 (by decide);rw[VM] at h2;have h2:((kk.getD 2 0:Int)==6)=true:=h2;rw[zN] at h2
  simp at h1
  exact⟨h1,by omega⟩
 ·simpa using ZP (want:=[0]) hf
 ·simpa using ZP (want:=[0]) hf
theorem zKE (d:Nat)(ps:List Bs):(xR d ps).length=d+ps.flatten.length+1:=by
 unfold xR;simp only[yM,zC,zJ,zK];omega
theorem zUf (w0:World)(B g n c:Nat)(A:Option Addr)(L:List TT.xC)(hB:zAp w0 B n A L)(x:TT.xC)(hx:Cells w0 x.kA (TT.xL x.kids))(k:Nat)(t:Bs)(num:Int)(ks kk:List Nat)(ls:List Bs)(hk:x.kind=(k:Int))(ht:x.text=yX t)(hnum:x.num=num)(hks:x.kids=xK ks)(hnk:xU k t num kk)(hl1:kk.length=ks.length)(hl2:ls.length=ks.length)(hkb:ks.length≤100000)(hsz:zAD ls≤1099511627776)
  (HT:∀(w:World) (v:Value) (bs:Bs) (d:Nat),Ext w0 w→PrS w B g A n c v bs d→∀j (hj:j<ks.length),zDr w g L ks[j] (kk.getD j 0) (ls.getD j []))
  (D:Nat) (bks:Nat→List Bs) (HBK:∀j (hj:j<ks.length),kk.getD j 0=6→∃y,L[ks[j]]?=some y∧VE w0 B g n c A y D fun d=>(bks d).getD j []) (h7:k=7) :
  zAY w0 B g n c A x (D+1) fun d=>xW d k t num ls (bks (d+1)):=by
 intro w v bs d AY hS hd AC;subst h7;obtain⟨A1,Ay⟩:∃b,Hid (bks (d+1)=b):=⟨_,yD rfl⟩;obtain⟨AF,AD⟩:∃b,Hid (xW d 7 t num ls A1=b):=⟨_,yD rfl⟩
 show Calls Tryz.prog 89 #[.pointer (some ⟨g,0,none⟩),jF x] w fun e w'=>e=.returned (.tuple #[])∧zCh w B g A n c (bs++xW d 7 t num ls (bks (d+1))) d w'
 replace AC:bs.length+(xW d 7 t num ls (bks (d+1))).length≤140737488355328:=AC
 rw[Ay.out,AD.out] at AC ⊢;have AK:Hid ((bs++AF).length≤140737488355328):=yD (by rw[yM]; exact AC);have An:=yD hB;have Ar:=yD hx;have Ae:=yD hks;have Au:=yD hnk;have Ah:=yD hl1;have A6:=yD hl2;have A5:=yD hkb;have Av:=yD HT;have A2:=yD HBK;have As:=yD AY;have A3:=yD hS.lo;have Az:=yD hd;have A4:=yD hsz;have Ak:=yD (XG hnk);have At:Hid (B≤w.heap.size):=yD (by rw[←hB.size]; exact AY.size);have Al:Hid (x.kids.length=ks.length):=yD (by rw[hks]; simp[xK]);obtain⟨BB,AJ⟩:=hS.any;have Ai:=yD AJ.lt;clear hB hx hks hnk hl1 hl2 hkb HT HBK AY AC hd hsz AJ;have AZ:Hid (Ext w ((w.alloc (.cells #[.pointer (some ⟨g,0,none⟩)] 77)).alloc (.cells #[.int .u8 7,.int .i64 x.pos,.string (yX t),.int .i64 num,.slice x.kA x.kids.length x.kc] 48))):=yD ((Ext.alloc _ _).trans (Ext.alloc _ _));have AG:Hid (Blk ((w.alloc (.cells #[.pointer (some ⟨g,0,none⟩)] 77)).alloc (.cells #[.int .u8 7,.int .i64 x.pos,.string (yX t),.int .i64 num,.slice x.kA x.kids.length x.kc] 48)) w.heap.size 77 #[.pointer (some ⟨g,0,none⟩)]):=yD ((Blk.new _ _ _).alloc _)
 have AE:Hid (Blk ((w.alloc (.cells #[.pointer (some ⟨g,0,none⟩)] 77)).alloc (.cells #[.int .u8 7,.int .i64 x.pos,.string (yX t),.int .i64 num,.slice x.kA x.kids.length x.kc] 48)) (w.heap.size+1) 48 #[.int .u8 7,.int .i64 x.pos,.string (yX t),.int .i64 num,.slice x.kA x.kids.length x.kc]):=yD (Blk.zAa (by simp));have AO:=yD (hS.ext AZ.out);have Ad:Hid (vU w ((w.alloc (.cells #[.pointer (some ⟨g,0,none⟩)] 77)).alloc (.cells #[.int .u8 7,.int .i64 x.pos,.string (yX t),.int .i64 num,.slice x.kA x.kids.length x.kc] 48)) B g):=yD (vU.ext AZ.out);have HE:Hid (∀args w,(callFunc 138 args).run Tryz.prog w=.ok (.enter 138 args) w):=yD (enters_of Tryz.func138 (by kernel_rfl) rfl);clear hS;unfold jF;rw[hk,ht,hnum]
 go_enter Tryz.func89,Tryz.ntmps89
 go_upto_region 1 with fail
 try simp only[size_alloc]
 have AN:Hid (w.heap.size≠g):=yD (by have:=Ai.out; omega);have AI:Hid (w.heap.size+1≠g):=yD (by have:=Ai.out; omega);generalize w.heap.size+1=gn at AE AI ⊢;generalize w.heap.size=gp at AG AN ⊢;generalize ((w.alloc (.cells #[.pointer (some ⟨g,0,none⟩)] 77)).alloc (.cells #[.int .u8 7,.int .i64 x.pos,.string (yX t),.int .i64 num,.slice x.kA x.kids.length x.kc] 48))=w1 at *;have AR:=yD (As.out.trans AZ.out);have AM:=yD (Ar.out.ext AR.out);have Am:Hid (Blk w1 gn 48 #[.int .u8 x.kind,.int .i64 x.pos,.string x.text,.int .i64 x.num,.slice x.kA x.kids.length x.kc]):=yD (by rw[hk,ht,hnum]; exact AE.out);have Ap:=yD AG.out.lt;have AH:=yD AE.out.lt;have Ac:=yD (An.out.prT AR.out AO.out);have Aj:=yD (Av.out w1 v bs d AR.out AO.out);have he:=HE.out;have Ab:Hid (0<ks.length):=yD (by have:=Ak.out; have:=Ah.out; omega)
 have AW:Hid (∀w',Ext w1 w'→Calls Tryz.prog 138 #[.int .i64 0,.pointer (some ⟨gp,0,none⟩),.pointer (some ⟨gn,0,none⟩)] w' fun e AL=>e=.returned (.string (yX (ls.getD 0 [])))∧Ext w' AL):=yD fun w' hx=>by
  obtain⟨y,h1,h2,h3⟩:=Aj.out 0 Ab.out;exact ZV w' g n c gp gn A L (Ac.out.ext hx) x (AG.out.ext hx) (Am.out.ext hx) (AM.out.ext hx) 0 (ks[0]'Ab.out) (kk.getD 0 0) (by rw[Al.out]; exact Ab.out) (by simp only[Ae.out,xK,zA]) (ls.getD 0 []) ⟨y,h1,h2,fun w2 AB=>h3 w2 (hx.trans AB)⟩
 have Aa:Hid (1<ks.length):=yD (by have:=Ak.out; have:=Ah.out; omega)
 have AP:Hid (∀w',Ext w1 w'→Calls Tryz.prog 138 #[.int .i64 1,.pointer (some ⟨gp,0,none⟩),.pointer (some ⟨gn,0,none⟩)] w' fun e AL=>e=.returned (.string (yX (ls.getD 1 [])))∧Ext w' AL):=yD fun w' hx=>by
  obtain⟨y,h1,h2,h3⟩:=Aj.out 1 Aa.out;exact ZV w' g n c gp gn A L (Ac.out.ext hx) x (AG.out.ext hx) (Am.out.ext hx) (AM.out.ext hx) 1 (ks[1]'Aa.out) (kk.getD 1 0) (by rw[Al.out]; exact Aa.out) (by simp only[Ae.out,xK,zA]) (ls.getD 1 []) ⟨y,h1,h2,fun w2 AB=>h3 w2 (hx.trans AB)⟩
 have AX:=yD (zGU Au.out (by decide))
 have Ao:Hid (∀w' lb,Ext w1 w'→Blk w' lb 9 #[.string (yX [59]),.string (yX [32,102,111,114,32,117,112,100,97,116,101,59])]→Calls Tryz.prog 43 #[.agg #[.int .u8 7,.int .i64 x.pos,.string (yX t),.int .i64 num,.slice x.kA x.kids.length x.kc],.slice (some ⟨lb,0,none⟩) 2 2] w' fun e AL=>e=.returned (.string (yX (JB num [59] [32,102,111,114,32,117,112,100,97,116,101,59])))∧Ext w' AL):=yD fun w' lb hx hb=>by
  have:=zFV w' x (by rw[hnum]; exact AX.out) [59] [32,102,111,114,32,117,112,100,97,116,101,59] lb hb
  unfold jF at this;rw[hk,ht,hnum] at this;exact this
 replace AD:Hid (xR d [[114,101,97,100,32],t,[32,61,32],(ls.getD 0 []),[46],(ls.getD 1 []),(JB num [59] [32,102,111,114,32,117,112,100,97,116,101,59])]=AF):=AD
 generalize ls.getD 0 []=l0 at *;generalize ls.getD 1 []=l1 at *;generalize JB num [59] [32,102,111,114,32,117,112,100,97,116,101,59]=lp at *;obtain⟨T1,AT⟩:∃b,Hid (xR d [[114,101,97,100,32],t,[32,61,32],l0,[46],l1,lp]=b):=⟨_,yD rfl⟩;rw[AT.out] at AD;have n0:w1.cell? ⟨gn,0,none⟩=some (.int .u8 7):=AE.out.cell 0;have n1:w1.cell? ⟨gn,1,none⟩=some (.int .i64 x.pos):=AE.out.cell 1;have n2:w1.cell? ⟨gn,2,none⟩=some (.string (yX t)):=AE.out.cell 2;have n3:w1.cell? ⟨gn,3,none⟩=some (.int .i64 num):=AE.out.cell 3;have n4:w1.cell? ⟨gn,4,none⟩=some (.slice x.kA x.kids.length x.kc):=AE.out.cell 4;have p0:w1.cell? ⟨gp,0,none⟩=some (.pointer (some ⟨g,0,none⟩)):=AG.out.cell 0;have HR:Hid (bs++(T1++[])=bs++AF):=yD (by rw[List.append_nil,AD.out])
 go_upto_region 4 with fail
 apply xE 11 (by kernel_rfl) (by kernel_rfl) (by kernel_rfl);apply xA (.pointer (some ⟨g,0,none⟩)) rfl rfl rfl
 ·intro w' AA hH;clear hH;have yp:=(AA.cell (p:=⟨gp,0,none⟩) Ap.out).trans p0;simp[yY,go_sem,yp];exact Ext.refl _
 apply sQ (.pointer (some ⟨gn,2,none⟩));apply xA (.string (yX t)) rfl rfl rfl
 ·intro w' AA hH;clear hH;have y2:=(AA.cell (p:=⟨gn,2,none⟩) AH.out).trans n2;simp[yY,go_sem,y2];exact Ext.refl _
 apply sQ (.func (.func 138) #[] #[.pointer (some ⟨gp,0,none⟩),.pointer (some ⟨gn,0,none⟩)]);apply xA (.string (yX l0)) rfl rfl rfl
 ·intro w' AA hH;clear hH;simp[yY,go_sem,he];refine(AW.out w' AA).mono ?_;rintro e w2 ⟨rfl,AB⟩;exact⟨_,rfl,rfl,AB⟩
 apply sQ (.func (.func 138) #[] #[.pointer (some ⟨gp,0,none⟩),.pointer (some ⟨gn,0,none⟩)]);apply xA (.string (yX l1)) rfl rfl rfl
 ·intro w' AA hH;clear hH;simp[yY,go_sem,he];refine(AP.out w' AA).mono ?_;rintro e w2 ⟨rfl,AB⟩;exact⟨_,rfl,rfl,AB⟩
 apply xA (.agg #[.int .u8 7,.int .i64 x.pos,.string (yX t),.int .i64 num,.slice x.kA x.kids.length x.kc]) rfl rfl rfl
 ·intro w' AA hH;clear hH;have y0:=(AA.cell (p:=⟨gn,0,none⟩) AH.out).trans n0;have y1:=(AA.cell (p:=⟨gn,1,none⟩) AH.out).trans n1;have y2:=(AA.cell (p:=⟨gn,2,none⟩) AH.out).trans n2;have y3:=(AA.cell (p:=⟨gn,3,none⟩) AH.out).trans n3;have y4:=(AA.cell (p:=⟨gn,4,none⟩) AH.out).trans n4;simp[yY,go_sem,y0,y1,y2,y3,y4];exact Ext.refl _
 apply vF (JJ 9 2 #[.string (yX [59]),.string (yX [32,102,111,114,32,117,112,100,97,116,101,59])]) (fun v a b h k=>JJ.ext v a b h k) rfl rfl rfl
 ·intro w' AA hH;clear hH;simp[yY,go_sem];exact⟨⟨_,rfl,Blk.new w' _ _⟩,Ext.alloc _ _⟩
 intro A9;apply xA (.string (yX lp)) rfl rfl rfl
 ·intro w' AA hH;obtain⟨lb,rfl,Aq⟩:=hH _ (List.mem_cons_self ..) ⟨18,rfl,by decide⟩;clear hH;simp[yY,go_sem,he];refine(Ao.out w' lb AA Aq).mono ?_;rintro e w2 ⟨rfl,AB⟩;exact⟨_,rfl,rfl,AB⟩
 apply vF (JJ 9 7 (VS [[114,101,97,100,32],t,[32,61,32],l0,[46],l1,lp])) (fun v a b h k=>JJ.ext v a b h k) rfl rfl rfl
 ·intro w' AA hH;clear hH;simp[yY,go_sem];exact⟨⟨_,rfl,Blk.new w' _ _⟩,Ext.alloc _ _⟩
 intro A8;apply vA;intro w2 AB hH;obtain⟨pb,rfl,AS⟩:=hH _ (List.mem_cons_self ..);clear hH p0 n0 n1 n2 n3 n4
 try simp only[Act.put,yA,yC,yB]
 have AU:=yD (AO.out.ext AB);have AV:=yD (Ad.out.trans (vU.ext AB));have Ag:=yD (AG.out.ext AB);have Af:=yD (AE.out.ext AB);clear AB AO Ad AG AE
 go_wp2_with fail
 refine(ZK w2 B g A n c _ bs d [[114,101,97,100,32],t,[32,61,32],l0,[46],l1,lp] pb 7 AU.out rfl (by have:=Az.out; omega) (by simp) AS (fun e=>by obtain⟨ad,hb⟩:=AU.out.any; subst e; exact Blk.differ AS hb (by decide) rfl) (by
  have h8:=congrArg List.length HR.out;have h9:=AK.out;rw[AT.out];simp only[yM,zK] at h8 h9 ⊢
  omega) (Nat.le_trans At.out AV.out.size)).mono ?_
 rintro e w3 ⟨rfl,⟨v3,hu⟩,hm⟩
 replace hu:=hu.prS A3.out
 rw[AT.out] at hu;clear AS;have Ax:=yD (AV.out.trans hm);have A7:=yD (hm.blk Ag.out AN.out (by decide));have BA:=yD (hm.blk Af.out AI.out (by decide))
 replace HR:=yD ((List.append_assoc _ _ _).trans HR.out)
 have Aw:=yD hu;clear hu hm AV Ag Af AU;generalize bs++T1=b1 at *
 replace HR:=yD ((List.append_nil _).symm.trans HR.out)
 have A0:=Ax.out;have AQ:=Aw.out
 go_wp2_with fail
 go_end0;have h8:=HR.out;exact⟨rfl,⟨_,by rw[←h8]; exact AQ⟩,A0⟩
theorem zT5 (w0:World)(B g n c:Nat)(A:Option Addr)(L:List TT.xC)(hB:zAp w0 B n A L)(x:TT.xC)(hx:Cells w0 x.kA (TT.xL x.kids))(k:Nat)(t:Bs)(num:Int)(ks kk:List Nat)(ls:List Bs)(hk:x.kind=(k:Int))(ht:x.text=yX t)(hnum:x.num=num)(hks:x.kids=xK ks)(hnk:xU k t num kk)(hl1:kk.length=ks.length)(hl2:ls.length=ks.length)(hkb:ks.length≤100000)(hsz:zAD ls≤1099511627776)
  (HT:∀(w:World) (v:Value) (bs:Bs) (d:Nat),Ext w0 w→PrS w B g A n c v bs d→∀j (hj:j<ks.length),zDr w g L ks[j] (kk.getD j 0) (ls.getD j []))
  (D:Nat) (bks:Nat→List Bs) (HBK:∀j (hj:j<ks.length),kk.getD j 0=6→∃y,L[ks[j]]?=some y∧VE w0 B g n c A y D fun d=>(bks d).getD j []) (h8:k=8) :
  zAY w0 B g n c A x (D+1) fun d=>xW d k t num ls (bks (d+1)):=by
 intro w v bs d AX hS hd AB;subst h8;obtain⟨Ay,Av⟩:∃b,Hid (bks (d+1)=b):=⟨_,yD rfl⟩;obtain⟨AG,AC⟩:∃b,Hid (xW d 8 t num ls Ay=b):=⟨_,yD rfl⟩
 show Calls Tryz.prog 89 #[.pointer (some ⟨g,0,none⟩),jF x] w fun e w'=>e=.returned (.tuple #[])∧zCh w B g A n c (bs++xW d 8 t num ls (bks (d+1))) d w'
 replace AB:bs.length+(xW d 8 t num ls (bks (d+1))).length≤140737488355328:=AB
 rw[Av.out,AC.out] at AB ⊢;have AK:Hid ((bs++AG).length≤140737488355328):=yD (by rw[yM]; exact AB);have An:=yD hB;have Ap:=yD hx;have AY:=yD hks;have A3:=yD hnk;have Aa:=yD hl1;have A5:=yD hl2;have A4:=yD hkb;have As:=yD HT;have Az:=yD HBK;have Aq:=yD AX;have A0:=yD hS.lo;have Aw:=yD hd;have A2:=yD hsz;have Ae:=yD (XG hnk);have Ar:Hid (B≤w.heap.size):=yD (by rw[←hB.size]; exact AX.size);have Ah:Hid (x.kids.length=ks.length):=yD (by rw[hks]; simp[xK]);obtain⟨A8,AJ⟩:=hS.any;have Am:=yD AJ.lt;clear hB hx hks hnk hl1 hl2 hkb HT HBK AX AB hd hsz AJ;have AZ:Hid (Ext w ((w.alloc (.cells #[.pointer (some ⟨g,0,none⟩)] 77)).alloc (.cells #[.int .u8 8,.int .i64 x.pos,.string (yX t),.int .i64 num,.slice x.kA x.kids.length x.kc] 48))):=yD ((Ext.alloc _ _).trans (Ext.alloc _ _));have AE:Hid (Blk ((w.alloc (.cells #[.pointer (some ⟨g,0,none⟩)] 77)).alloc (.cells #[.int .u8 8,.int .i64 x.pos,.string (yX t),.int .i64 num,.slice x.kA x.kids.length x.kc] 48)) w.heap.size 77 #[.pointer (some ⟨g,0,none⟩)]):=yD ((Blk.new _ _ _).alloc _)
 have AD:Hid (Blk ((w.alloc (.cells #[.pointer (some ⟨g,0,none⟩)] 77)).alloc (.cells #[.int .u8 8,.int .i64 x.pos,.string (yX t),.int .i64 num,.slice x.kA x.kids.length x.kc] 48)) (w.heap.size+1) 48 #[.int .u8 8,.int .i64 x.pos,.string (yX t),.int .i64 num,.slice x.kA x.kids.length x.kc]):=yD (Blk.zAa (by simp));have AN:=yD (hS.ext AZ.out);have Aj:Hid (vU w ((w.alloc (.cells #[.pointer (some ⟨g,0,none⟩)] 77)).alloc (.cells #[.int .u8 8,.int .i64 x.pos,.string (yX t),.int .i64 num,.slice x.kA x.kids.length x.kc] 48)) B g):=yD (vU.ext AZ.out);have HE:Hid (∀args w,(callFunc 138 args).run Tryz.prog w=.ok (.enter 138 args) w):=yD (enters_of Tryz.func138 (by kernel_rfl) rfl);clear hS;unfold jF;rw[hk,ht,hnum]
 go_enter Tryz.func89,Tryz.ntmps89
 go_upto_region 1 with fail
 try simp only[size_alloc]
 have AM:Hid (w.heap.size≠g):=yD (by have:=Am.out; omega);have AI:Hid (w.heap.size+1≠g):=yD (by have:=Am.out; omega);generalize w.heap.size+1=gn at AD AI ⊢;generalize w.heap.size=gp at AE AM ⊢;generalize ((w.alloc (.cells #[.pointer (some ⟨g,0,none⟩)] 77)).alloc (.cells #[.int .u8 8,.int .i64 x.pos,.string (yX t),.int .i64 num,.slice x.kA x.kids.length x.kc] 48))=w1 at *;have AQ:=yD (Aq.out.trans AZ.out);have AH:=yD (Ap.out.ext AQ.out);have Ai:Hid (Blk w1 gn 48 #[.int .u8 x.kind,.int .i64 x.pos,.string x.text,.int .i64 x.num,.slice x.kA x.kids.length x.kc]):=yD (by rw[hk,ht,hnum]; exact AD.out);have Ao:=yD AE.out.lt;have A1:=yD AD.out.lt;have AW:=yD (An.out.prT AQ.out AN.out);have Ad:=yD (As.out w1 v bs d AQ.out AN.out);have he:=HE.out;have Ac:Hid (0<ks.length):=yD (by have:=Ae.out; have:=Aa.out; omega)
 have AV:Hid (∀w',Ext w1 w'→Calls Tryz.prog 138 #[.int .i64 0,.pointer (some ⟨gp,0,none⟩),.pointer (some ⟨gn,0,none⟩)] w' fun e AL=>e=.returned (.string (yX (ls.getD 0 [])))∧Ext w' AL):=yD fun w' hx=>by
  obtain⟨y,h1,h2,h3⟩:=Ad.out 0 Ac.out;exact ZV w' g n c gp gn A L (AW.out.ext hx) x (AE.out.ext hx) (Ai.out.ext hx) (AH.out.ext hx) 0 (ks[0]'Ac.out) (kk.getD 0 0) (by rw[Ah.out]; exact Ac.out) (by simp only[AY.out,xK,zA]) (ls.getD 0 []) ⟨y,h1,h2,fun w2 AA=>h3 w2 (hx.trans AA)⟩
 have Ab:Hid (1<ks.length):=yD (by have:=Ae.out; have:=Aa.out; omega)
 have AO:Hid (∀w',Ext w1 w'→Calls Tryz.prog 138 #[.int .i64 1,.pointer (some ⟨gp,0,none⟩),.pointer (some ⟨gn,0,none⟩)] w' fun e AL=>e=.returned (.string (yX (ls.getD 1 [])))∧Ext w' AL):=yD fun w' hx=>by
  obtain⟨y,h1,h2,h3⟩:=Ad.out 1 Ab.out;exact ZV w' g n c gp gn A L (AW.out.ext hx) x (AE.out.ext hx) (Ai.out.ext hx) (AH.out.ext hx) 1 (ks[1]'Ab.out) (kk.getD 1 0) (by rw[Ah.out]; exact Ab.out) (by simp only[AY.out,xK,zA]) (ls.getD 1 []) ⟨y,h1,h2,fun w2 AA=>h3 w2 (hx.trans AA)⟩
 have Af:Hid (2<ks.length):=yD (by have:=Ae.out; have:=Aa.out; omega)
 have Ag:Hid (∀w',Ext w1 w'→Calls Tryz.prog 138 #[.int .i64 2,.pointer (some ⟨gp,0,none⟩),.pointer (some ⟨gn,0,none⟩)] w' fun e AL=>e=.returned (.string (yX (ls.getD 2 [])))∧Ext w' AL):=yD fun w' hx=>by
  obtain⟨y,h1,h2,h3⟩:=Ad.out 2 Af.out;exact ZV w' g n c gp gn A L (AW.out.ext hx) x (AE.out.ext hx) (Ai.out.ext hx) (AH.out.ext hx) 2 (ks[2]'Af.out) (kk.getD 2 0) (by rw[Ah.out]; exact Af.out) (by simp only[AY.out,xK,zA]) (ls.getD 2 []) ⟨y,h1,h2,fun w2 AA=>h3 w2 (hx.trans AA)⟩
 replace AC:Hid (xR d [[115,101,116,32],(ls.getD 0 []),[46],(ls.getD 1 []),[32,61,32],(ls.getD 2 []),[59]]=AG):=AC
 generalize ls.getD 0 []=l0 at *;generalize ls.getD 1 []=l1 at *;generalize ls.getD 2 []=l2 at *;obtain⟨T1,AS⟩:∃b,Hid (xR d [[115,101,116,32],l0,[46],l1,[32,61,32],l2,[59]]=b):=⟨_,yD rfl⟩;rw[AS.out] at AC;have n0:w1.cell? ⟨gn,0,none⟩=some (.int .u8 8):=AD.out.cell 0;have n1:w1.cell? ⟨gn,1,none⟩=some (.int .i64 x.pos):=AD.out.cell 1;have n2:w1.cell? ⟨gn,2,none⟩=some (.string (yX t)):=AD.out.cell 2;have n3:w1.cell? ⟨gn,3,none⟩=some (.int .i64 num):=AD.out.cell 3;have n4:w1.cell? ⟨gn,4,none⟩=some (.slice x.kA x.kids.length x.kc):=AD.out.cell 4;have p0:w1.cell? ⟨gp,0,none⟩=some (.pointer (some ⟨g,0,none⟩)):=AE.out.cell 0;have HR:Hid (bs++(T1++[])=bs++AG):=yD (by rw[List.append_nil,AC.out])
 go_upto_region 6 with fail
 apply xE 8 (by kernel_rfl) (by kernel_rfl) (by kernel_rfl);apply xA (.pointer (some ⟨g,0,none⟩)) rfl rfl rfl
 ·intro w' AF hH;clear hH;have yp:=(AF.cell (p:=⟨gp,0,none⟩) Ao.out).trans p0;simp[yY,go_sem,yp];exact Ext.refl _
 apply sQ (.func (.func 138) #[] #[.pointer (some ⟨gp,0,none⟩),.pointer (some ⟨gn,0,none⟩)]);apply xA (.string (yX l0)) rfl rfl rfl
 ·intro w' AF hH;clear hH;simp[yY,go_sem,he];refine(AV.out w' AF).mono ?_;rintro e w2 ⟨rfl,AA⟩;exact⟨_,rfl,rfl,AA⟩
 apply sQ (.func (.func 138) #[] #[.pointer (some ⟨gp,0,none⟩),.pointer (some ⟨gn,0,none⟩)]);apply xA (.string (yX l1)) rfl rfl rfl
 ·intro w' AF hH;clear hH;simp[yY,go_sem,he];refine(AO.out w' AF).mono ?_;rintro e w2 ⟨rfl,AA⟩;exact⟨_,rfl,rfl,AA⟩
 apply sQ (.func (.func 138) #[] #[.pointer (some ⟨gp,0,none⟩),.pointer (some ⟨gn,0,none⟩)]);apply xA (.string (yX l2)) rfl rfl rfl
 ·intro w' AF hH;clear hH;simp[yY,go_sem,he];refine(Ag.out w' AF).mono ?_;rintro e w2 ⟨rfl,AA⟩;exact⟨_,rfl,rfl,AA⟩
 apply vF (JJ 9 7 (VS [[115,101,116,32],l0,[46],l1,[32,61,32],l2,[59]])) (fun v a b h k=>JJ.ext v a b h k) rfl rfl rfl
 ·intro w' AF hH;clear hH;simp[yY,go_sem];exact⟨⟨_,rfl,Blk.new w' _ _⟩,Ext.alloc _ _⟩
 intro A9;apply vA;intro w2 AA hH;obtain⟨pb,rfl,AR⟩:=hH _ (List.mem_cons_self ..);clear hH p0 n0 n1 n2 n3 n4
 try simp only[Act.put,yA,yC,yB]
 have AT:=yD (AN.out.ext AA);have AU:=yD (Aj.out.trans (vU.ext AA));have Al:=yD (AE.out.ext AA);have Ak:=yD (AD.out.ext AA);clear AA AN Aj AE AD
 go_wp2_with fail
 refine(ZK w2 B g A n c _ bs d [[115,101,116,32],l0,[46],l1,[32,61,32],l2,[59]] pb 7 AT.out rfl (by have:=Aw.out; omega) (by simp) AR (fun e=>by obtain⟨ad,hb⟩:=AT.out.any; subst e; exact Blk.differ AR hb (by decide) rfl) (by
  have h8:=congrArg List.length HR.out;have h9:=AK.out;rw[AS.out];simp only[yM,zK] at h8 h9 ⊢
  omega) (Nat.le_trans Ar.out AU.out.size)).mono ?_
 rintro e w3 ⟨rfl,⟨v3,hu⟩,hm⟩
 replace hu:=hu.prS A0.out
 rw[AS.out] at hu;clear AR;have Au:=yD (AU.out.trans hm);have A6:=yD (hm.blk Al.out AM.out (by decide));have A7:=yD (hm.blk Ak.out AI.out (by decide))
 replace HR:=yD ((List.append_assoc _ _ _).trans HR.out)
 have At:=yD hu;clear hu hm AU Al Ak AT;generalize bs++T1=b1 at *
 replace HR:=yD ((List.append_nil _).symm.trans HR.out)
 have Ax:=Au.out;have AP:=At.out
 go_wp2_with fail
 go_end0;have h8:=HR.out;exact⟨rfl,⟨_,by rw[←h8]; exact AP⟩,Ax⟩
theorem zUB (w0:World)(B g n c:Nat)(A:Option Addr)(L:List TT.xC)(hB:zAp w0 B n A L)(x:TT.xC)(hx:Cells w0 x.kA (TT.xL x.kids))(k:Nat)(t:Bs)(num:Int)(ks kk:List Nat)(ls:List Bs)(hk:x.kind=(k:Int))(ht:x.text=yX t)(hnum:x.num=num)(hks:x.kids=xK ks)(hnk:xU k t num kk)(hl1:kk.length=ks.length)(hl2:ls.length=ks.length)(hkb:ks.length≤100000)(hsz:zAD ls≤1099511627776)
  (HT:∀(w:World) (v:Value) (bs:Bs) (d:Nat),Ext w0 w→PrS w B g A n c v bs d→∀j (hj:j<ks.length),zDr w g L ks[j] (kk.getD j 0) (ls.getD j []))
  (D:Nat) (bks:Nat→List Bs) (HBK:∀j (hj:j<ks.length),kk.getD j 0=6→∃y,L[ks[j]]?=some y∧VE w0 B g n c A y D fun d=>(bks d).getD j []) (h9:k=9) :
  zAY w0 B g n c A x (D+1) fun d=>xW d k t num ls (bks (d+1)):=by
 intro w v bs d AX hS hd AC;subst h9;obtain⟨Ax,Ar⟩:∃b,Hid (bks (d+1)=b):=⟨_,yD rfl⟩;obtain⟨AF,AD⟩:∃b,Hid (xW d 9 t num ls Ax=b):=⟨_,yD rfl⟩
 show Calls Tryz.prog 89 #[.pointer (some ⟨g,0,none⟩),jF x] w fun e w'=>e=.returned (.tuple #[])∧zCh w B g A n c (bs++xW d 9 t num ls (bks (d+1))) d w'
 replace AC:bs.length+(xW d 9 t num ls (bks (d+1))).length≤140737488355328:=AC
 rw[Ar.out,AD.out] at AC ⊢;have AK:Hid ((bs++AF).length≤140737488355328):=yD (by rw[yM]; exact AC);have Ah:=yD hB;have Ai:=yD hx;have Ac:=yD hks;have A3:=yD hnk;have As:=yD hl1;have Ao:=yD hl2;have Am:=yD hkb;have An:=yD HT;have Az:=yD HBK;have Aj:=yD AX;have A1:=yD hS.lo;have At:=yD hd;have Al:=yD hsz;have Aw:=yD (XG hnk);have Ak:Hid (B≤w.heap.size):=yD (by rw[←hB.size]; exact AX.size);have Ay:Hid (x.kids.length=ks.length):=yD (by rw[hks]; simp[xK]);obtain⟨A6,AI⟩:=hS.any;have Af:=yD AI.lt;clear hB hx hks hnk hl1 hl2 hkb HT HBK AX AC hd hsz AI;have AY:Hid (Ext w ((w.alloc (.cells #[.pointer (some ⟨g,0,none⟩)] 77)).alloc (.cells #[.int .u8 9,.int .i64 x.pos,.string (yX t),.int .i64 num,.slice x.kA x.kids.length x.kc] 48))):=yD ((Ext.alloc _ _).trans (Ext.alloc _ _));have AG:Hid (Blk ((w.alloc (.cells #[.pointer (some ⟨g,0,none⟩)] 77)).alloc (.cells #[.int .u8 9,.int .i64 x.pos,.string (yX t),.int .i64 num,.slice x.kA x.kids.length x.kc] 48)) w.heap.size 77 #[.pointer (some ⟨g,0,none⟩)]):=yD ((Blk.new _ _ _).alloc _)
 have AE:Hid (Blk ((w.alloc (.cells #[.pointer (some ⟨g,0,none⟩)] 77)).alloc (.cells #[.int .u8 9,.int .i64 x.pos,.string (yX t),.int .i64 num,.slice x.kA x.kids.length x.kc] 48)) (w.heap.size+1) 48 #[.int .u8 9,.int .i64 x.pos,.string (yX t),.int .i64 num,.slice x.kA x.kids.length x.kc]):=yD (Blk.zAa (by simp));have AN:=yD (hS.ext AY.out);have Ab:Hid (vU w ((w.alloc (.cells #[.pointer (some ⟨g,0,none⟩)] 77)).alloc (.cells #[.int .u8 9,.int .i64 x.pos,.string (yX t),.int .i64 num,.slice x.kA x.kids.length x.kc] 48)) B g):=yD (vU.ext AY.out);have HE:Hid (∀args w,(callFunc 138 args).run Tryz.prog w=.ok (.enter 138 args) w):=yD (enters_of Tryz.func138 (by kernel_rfl) rfl);clear hS;unfold jF;rw[hk,ht,hnum]
 go_enter Tryz.func89,Tryz.ntmps89
 go_upto_region 1 with fail
 try simp only[size_alloc]
 have AM:Hid (w.heap.size≠g):=yD (by have:=Af.out; omega);have AH:Hid (w.heap.size+1≠g):=yD (by have:=Af.out; omega);generalize w.heap.size+1=gn at AE AH ⊢;generalize w.heap.size=gp at AG AM ⊢;generalize ((w.alloc (.cells #[.pointer (some ⟨g,0,none⟩)] 77)).alloc (.cells #[.int .u8 9,.int .i64 x.pos,.string (yX t),.int .i64 num,.slice x.kA x.kids.length x.kc] 48))=w1 at *;have AQ:=yD (Aj.out.trans AY.out);have AL:=yD (Ai.out.ext AQ.out);have A0:Hid (Blk w1 gn 48 #[.int .u8 x.kind,.int .i64 x.pos,.string x.text,.int .i64 x.num,.slice x.kA x.kids.length x.kc]):=yD (by rw[hk,ht,hnum]; exact AE.out);have AZ:=yD AG.out.lt;have AJ:=yD AE.out.lt;have Aa:=yD (Ah.out.prT AQ.out AN.out);have Ag:=yD (An.out w1 v bs d AQ.out AN.out);have he:=HE.out;have AO:Hid (0<ks.length):=yD (by have:=Aw.out; have:=As.out; omega)
 have AW:Hid (∀w',Ext w1 w'→Calls Tryz.prog 138 #[.int .i64 0,.pointer (some ⟨gp,0,none⟩),.pointer (some ⟨gn,0,none⟩)] w' fun e AS=>e=.returned (.string (yX (ls.getD 0 [])))∧Ext w' AS):=yD fun w' hx=>by
  obtain⟨y,h1,h2,h3⟩:=Ag.out 0 AO.out;exact ZV w' g n c gp gn A L (Aa.out.ext hx) x (AG.out.ext hx) (A0.out.ext hx) (AL.out.ext hx) 0 (ks[0]'AO.out) (kk.getD 0 0) (by rw[Ay.out]; exact AO.out) (by simp only[Ac.out,xK,zA]) (ls.getD 0 []) ⟨y,h1,h2,fun w2 AB=>h3 w2 (hx.trans AB)⟩
 have Av:Hid (∀w',Ext w1 w'→Calls Tryz.prog 42 #[.pointer (some ⟨g,0,none⟩),.agg #[.int .u8 9,.int .i64 x.pos,.string (yX t),.int .i64 num,.slice x.kA x.kids.length x.kc],.int .i64 1] w' fun e AS=>e=.returned (.string (yX (jD (ls.drop 1))))∧Ext w' AS):=yD fun w' hx=>by
  have:=zJT w' g n c A L (Aa.out.ext hx) x (AL.out.ext hx) ks kk ls Ac.out Ao.out Am.out (fun j hj=>by
   obtain⟨y,h1,h2,h3⟩:=Ag.out j hj
   exact⟨y,h1,h2,fun w2 AB=>h3 w2 (hx.trans AB)⟩) Al.out 1 (by have:=AO.out; omega)
  unfold jF at this;rw[hk,ht,hnum] at this;exact this
 replace AD:Hid (xR d [[112,117,116,32],(ls.getD 0 []),[40],(jD (ls.drop 1)),[41,59]]=AF):=AD
 generalize ls.getD 0 []=l0 at *;generalize jD (ls.drop 1)=lq at *;obtain⟨T1,AT⟩:∃b,Hid (xR d [[112,117,116,32],l0,[40],lq,[41,59]]=b):=⟨_,yD rfl⟩;rw[AT.out] at AD;have n0:w1.cell? ⟨gn,0,none⟩=some (.int .u8 9):=AE.out.cell 0;have n1:w1.cell? ⟨gn,1,none⟩=some (.int .i64 x.pos):=AE.out.cell 1;have n2:w1.cell? ⟨gn,2,none⟩=some (.string (yX t)):=AE.out.cell 2;have n3:w1.cell? ⟨gn,3,none⟩=some (.int .i64 num):=AE.out.cell 3;have n4:w1.cell? ⟨gn,4,none⟩=some (.slice x.kA x.kids.length x.kc):=AE.out.cell 4;have p0:w1.cell? ⟨gp,0,none⟩=some (.pointer (some ⟨g,0,none⟩)):=AG.out.cell 0;have HR:Hid (bs++(T1++[])=bs++AF):=yD (by rw[List.append_nil,AD.out])
 go_upto_region 8 with fail
 apply xE 7 (by kernel_rfl) (by kernel_rfl) (by kernel_rfl);apply xA (.pointer (some ⟨g,0,none⟩)) rfl rfl rfl
 ·intro w' AA hH;clear hH;have yp:=(AA.cell (p:=⟨gp,0,none⟩) AZ.out).trans p0;simp[yY,go_sem,yp];exact Ext.refl _
 apply sQ (.func (.func 138) #[] #[.pointer (some ⟨gp,0,none⟩),.pointer (some ⟨gn,0,none⟩)]);apply xA (.string (yX l0)) rfl rfl rfl
 ·intro w' AA hH;clear hH;simp[yY,go_sem,he];refine(AW.out w' AA).mono ?_;rintro e w2 ⟨rfl,AB⟩;exact⟨_,rfl,rfl,AB⟩
 apply xA (.pointer (some ⟨g,0,none⟩)) rfl rfl rfl
 ·intro w' AA hH;clear hH;have yp:=(AA.cell (p:=⟨gp,0,none⟩) AZ.out).trans p0;simp[yY,go_sem,yp];exact Ext.refl _
 apply xA (.agg #[.int .u8 9,.int .i64 x.pos,.string (yX t),.int .i64 num,.slice x.kA x.kids.length x.kc]) rfl rfl rfl
 ·intro w' AA hH;clear hH;have y0:=(AA.cell (p:=⟨gn,0,none⟩) AJ.out).trans n0;have y1:=(AA.cell (p:=⟨gn,1,none⟩) AJ.out).trans n1;have y2:=(AA.cell (p:=⟨gn,2,none⟩) AJ.out).trans n2;have y3:=(AA.cell (p:=⟨gn,3,none⟩) AJ.out).trans n3;have y4:=(AA.cell (p:=⟨gn,4,none⟩) AJ.out).trans n4;simp[yY,go_sem,y0,y1,y2,y3,y4];exact Ext.refl _
 apply xA (.string (yX lq)) rfl rfl rfl
 ·intro w' AA hH;clear hH;simp[yY,go_sem,he];refine(Av.out w' AA).mono ?_;rintro e w2 ⟨rfl,AB⟩;exact⟨_,rfl,rfl,AB⟩
 apply vF (JJ 9 5 (VS [[112,117,116,32],l0,[40],lq,[41,59]])) (fun v a b h k=>JJ.ext v a b h k) rfl rfl rfl
 ·intro w' AA hH;clear hH;simp[yY,go_sem];exact⟨⟨_,rfl,Blk.new w' _ _⟩,Ext.alloc _ _⟩
 intro A2;apply vA;intro w2 AB hH;obtain⟨pb,rfl,AR⟩:=hH _ (List.mem_cons_self ..);clear hH p0 n0 n1 n2 n3 n4
 try simp only[Act.put,yA,yC,yB]
 have AU:=yD (AN.out.ext AB);have AV:=yD (Ab.out.trans (vU.ext AB));have Ae:=yD (AG.out.ext AB);have Ad:=yD (AE.out.ext AB);clear AB AN Ab AG AE
 go_wp2_with fail
 refine(ZK w2 B g A n c _ bs d [[112,117,116,32],l0,[40],lq,[41,59]] pb 5 AU.out rfl (by have:=At.out; omega) (by simp) AR (fun e=>by obtain⟨ad,hb⟩:=AU.out.any; subst e; exact Blk.differ AR hb (by decide) rfl) (by
  have h8:=congrArg List.length HR.out;have h9:=AK.out;rw[AT.out];simp only[yM,zK] at h8 h9 ⊢
  omega) (Nat.le_trans Ak.out AV.out.size)).mono ?_
 rintro e w3 ⟨rfl,⟨v3,hu⟩,hm⟩
 replace hu:=hu.prS A1.out
 rw[AT.out] at hu;clear AR;have Aq:=yD (AV.out.trans hm);have A4:=yD (hm.blk Ae.out AM.out (by decide));have A5:=yD (hm.blk Ad.out AH.out (by decide))
 replace HR:=yD ((List.append_assoc _ _ _).trans HR.out)
 have Ap:=yD hu;clear hu hm AV Ae Ad AU;generalize bs++T1=b1 at *
 replace HR:=yD ((List.append_nil _).symm.trans HR.out)
 have Au:=Aq.out;have AP:=Ap.out
 go_wp2_with fail
 go_end0;have h8:=HR.out;exact⟨rfl,⟨_,by rw[←h8]; exact AP⟩,Au⟩
theorem zSt (w0:World)(B g n c:Nat)(A:Option Addr)(L:List TT.xC)(hB:zAp w0 B n A L)(x:TT.xC)(hx:Cells w0 x.kA (TT.xL x.kids))(k:Nat)(t:Bs)(num:Int)(ks kk:List Nat)(ls:List Bs)(hk:x.kind=(k:Int))(ht:x.text=yX t)(hnum:x.num=num)(hks:x.kids=xK ks)(hnk:xU k t num kk)(hl1:kk.length=ks.length)(hl2:ls.length=ks.length)(hkb:ks.length≤100000)(hsz:zAD ls≤1099511627776)
  (HT:∀(w:World) (v:Value) (bs:Bs) (d:Nat),Ext w0 w→PrS w B g A n c v bs d→∀j (hj:j<ks.length),zDr w g L ks[j] (kk.getD j 0) (ls.getD j []))
  (D:Nat) (bks:Nat→List Bs) (HBK:∀j (hj:j<ks.length),kk.getD j 0=6→∃y,L[ks[j]]?=some y∧VE w0 B g n c A y D fun d=>(bks d).getD j []) (h10:k=10) :
  zAY w0 B g n c A x (D+1) fun d=>xW d k t num ls (bks (d+1)):=by
 intro w v bs d AT hS hd AA;subst h10;obtain⟨As,Am⟩:∃b,Hid (bks (d+1)=b):=⟨_,yD rfl⟩;obtain⟨AE,AB⟩:∃b,Hid (xW d 10 t num ls As=b):=⟨_,yD rfl⟩
 show Calls Tryz.prog 89 #[.pointer (some ⟨g,0,none⟩),jF x] w fun e w'=>e=.returned (.tuple #[])∧zCh w B g A n c (bs++xW d 10 t num ls (bks (d+1))) d w'
 replace AA:bs.length+(xW d 10 t num ls (bks (d+1))).length≤140737488355328:=AA
 rw[Am.out,AB.out] at AA ⊢;have AI:Hid ((bs++AE).length≤140737488355328):=yD (by rw[yM]; exact AA);have Ab:=yD hB;have Ad:=yD hx;have Aj:=yD hks;have Az:=yD hnk;have An:=yD hl1;have A1:=yD hl2;have A0:=yD hkb;have Ah:=yD HT;have Au:=yD HBK;have Ae:=yD AT;have Aw:=yD hS.lo;have Ao:=yD hd;have Ay:=yD hsz;have Ar:=yD (XG hnk);have Af:Hid (B≤w.heap.size):=yD (by rw[←hB.size]; exact AT.size);have At:Hid (x.kids.length=ks.length):=yD (by rw[hks]; simp[xK]);obtain⟨A5,AH⟩:=hS.any;have Aa:=yD AH.lt;clear hB hx hks hnk hl1 hl2 hkb HT HBK AT AA hd hsz AH;have AU:Hid (Ext w ((w.alloc (.cells #[.pointer (some ⟨g,0,none⟩)] 77)).alloc (.cells #[.int .u8 10,.int .i64 x.pos,.string (yX t),.int .i64 num,.slice x.kA x.kids.length x.kc] 48))):=yD ((Ext.alloc _ _).trans (Ext.alloc _ _));have AF:Hid (Blk ((w.alloc (.cells #[.pointer (some ⟨g,0,none⟩)] 77)).alloc (.cells #[.int .u8 10,.int .i64 x.pos,.string (yX t),.int .i64 num,.slice x.kA x.kids.length x.kc] 48)) w.heap.size 77 #[.pointer (some ⟨g,0,none⟩)]):=yD ((Blk.new _ _ _).alloc _)
 have AC:Hid (Blk ((w.alloc (.cells #[.pointer (some ⟨g,0,none⟩)] 77)).alloc (.cells #[.int .u8 10,.int .i64 x.pos,.string (yX t),.int .i64 num,.slice x.kA x.kids.length x.kc] 48)) (w.heap.size+1) 48 #[.int .u8 10,.int .i64 x.pos,.string (yX t),.int .i64 num,.slice x.kA x.kids.length x.kc]):=yD (Blk.zAa (by simp));have AK:=yD (hS.ext AU.out);have AX:Hid (vU w ((w.alloc (.cells #[.pointer (some ⟨g,0,none⟩)] 77)).alloc (.cells #[.int .u8 10,.int .i64 x.pos,.string (yX t),.int .i64 num,.slice x.kA x.kids.length x.kc] 48)) B g):=yD (vU.ext AU.out);have HE:Hid (∀args w,(callFunc 138 args).run Tryz.prog w=.ok (.enter 138 args) w):=yD (enters_of Tryz.func138 (by kernel_rfl) rfl);clear hS;unfold jF;rw[hk,ht,hnum]
 go_enter Tryz.func89,Tryz.ntmps89
 go_upto_region 1 with fail
 try simp only[size_alloc]
 have AJ:Hid (w.heap.size≠g):=yD (by have:=Aa.out; omega);have AG:Hid (w.heap.size+1≠g):=yD (by have:=Aa.out; omega);generalize w.heap.size+1=gn at AC AG ⊢;generalize w.heap.size=gp at AF AJ ⊢;generalize ((w.alloc (.cells #[.pointer (some ⟨g,0,none⟩)] 77)).alloc (.cells #[.int .u8 10,.int .i64 x.pos,.string (yX t),.int .i64 num,.slice x.kA x.kids.length x.kc] 48))=w1 at *;have AN:=yD (Ae.out.trans AU.out);have AW:=yD (Ad.out.ext AN.out);have Av:Hid (Blk w1 gn 48 #[.int .u8 x.kind,.int .i64 x.pos,.string x.text,.int .i64 x.num,.slice x.kA x.kids.length x.kc]):=yD (by rw[hk,ht,hnum]; exact AC.out);have Ac:=yD AF.out.lt;have Ax:=yD AC.out.lt;have Ai:=yD (Ab.out.prT AN.out AK.out);have Ap:=yD (Ah.out w1 v bs d AN.out AK.out);have he:=HE.out;have AV:Hid (0<ks.length):=yD (by have:=Ar.out; have:=An.out; omega)
 have AS:Hid (∀w',Ext w1 w'→Calls Tryz.prog 138 #[.int .i64 0,.pointer (some ⟨gp,0,none⟩),.pointer (some ⟨gn,0,none⟩)] w' fun e Ag=>e=.returned (.string (yX (ls.getD 0 [])))∧Ext w' Ag):=yD fun w' hx=>by
  obtain⟨y,h1,h2,h3⟩:=Ap.out 0 AV.out;exact ZV w' g n c gp gn A L (Ai.out.ext hx) x (AF.out.ext hx) (Av.out.ext hx) (AW.out.ext hx) 0 (ks[0]'AV.out) (kk.getD 0 0) (by rw[At.out]; exact AV.out) (by simp only[Aj.out,xK,zA]) (ls.getD 0 []) ⟨y,h1,h2,fun w2 AD=>h3 w2 (hx.trans AD)⟩
 replace AB:Hid (xR d [[100,101,108,101,116,101,32],(ls.getD 0 []),[59]]=AE):=AB
 generalize ls.getD 0 []=l0 at *;obtain⟨T1,AP⟩:∃b,Hid (xR d [[100,101,108,101,116,101,32],l0,[59]]=b):=⟨_,yD rfl⟩;rw[AP.out] at AB;have n0:w1.cell? ⟨gn,0,none⟩=some (.int .u8 10):=AC.out.cell 0;have n1:w1.cell? ⟨gn,1,none⟩=some (.int .i64 x.pos):=AC.out.cell 1;have n2:w1.cell? ⟨gn,2,none⟩=some (.string (yX t)):=AC.out.cell 2;have n3:w1.cell? ⟨gn,3,none⟩=some (.int .i64 num):=AC.out.cell 3;have n4:w1.cell? ⟨gn,4,none⟩=some (.slice x.kA x.kids.length x.kc):=AC.out.cell 4;have p0:w1.cell? ⟨gp,0,none⟩=some (.pointer (some ⟨g,0,none⟩)):=AF.out.cell 0;have HR:Hid (bs++(T1++[])=bs++AE):=yD (by rw[List.append_nil,AB.out])
 go_upto_region 10 with fail
 apply xE 4 (by kernel_rfl) (by kernel_rfl) (by kernel_rfl);apply xA (.pointer (some ⟨g,0,none⟩)) rfl rfl rfl
 ·intro w' AL hH;clear hH;have yp:=(AL.cell (p:=⟨gp,0,none⟩) Ac.out).trans p0;simp[yY,go_sem,yp];exact Ext.refl _
 apply sQ (.func (.func 138) #[] #[.pointer (some ⟨gp,0,none⟩),.pointer (some ⟨gn,0,none⟩)]);apply xA (.string (yX l0)) rfl rfl rfl
 ·intro w' AL hH;clear hH;simp[yY,go_sem,he];refine(AS.out w' AL).mono ?_;rintro e w2 ⟨rfl,AD⟩;exact⟨_,rfl,rfl,AD⟩
 apply vF (JJ 9 3 (VS [[100,101,108,101,116,101,32],l0,[59]])) (fun v a b h k=>JJ.ext v a b h k) rfl rfl rfl
 ·intro w' AL hH;clear hH;simp[yY,go_sem];exact⟨⟨_,rfl,Blk.new w' _ _⟩,Ext.alloc _ _⟩
 intro A3;apply vA;intro w2 AD hH;obtain⟨pb,rfl,AO⟩:=hH _ (List.mem_cons_self ..);clear hH p0 n0 n1 n2 n3 n4
 try simp only[Act.put,yA,yC,yB]
 have AQ:=yD (AK.out.ext AD);have AR:=yD (AX.out.trans (vU.ext AD));have AZ:=yD (AF.out.ext AD);have AY:=yD (AC.out.ext AD);clear AD AK AX AF AC
 go_wp2_with fail
 refine(ZK w2 B g A n c _ bs d [[100,101,108,101,116,101,32],l0,[59]] pb 3 AQ.out rfl (by have:=Ao.out; omega) (by simp) AO (fun e=>by obtain⟨ad,hb⟩:=AQ.out.any; subst e; exact Blk.differ AO hb (by decide) rfl) (by
  have h8:=congrArg List.length HR.out;have h9:=AI.out;rw[AP.out];simp only[yM,zK] at h8 h9 ⊢
  omega) (Nat.le_trans Af.out AR.out.size)).mono ?_
 rintro e w3 ⟨rfl,⟨v3,hu⟩,hm⟩
 replace hu:=hu.prS Aw.out
 rw[AP.out] at hu;clear AO;have Al:=yD (AR.out.trans hm);have A2:=yD (hm.blk AZ.out AJ.out (by decide));have A4:=yD (hm.blk AY.out AG.out (by decide))
 replace HR:=yD ((List.append_assoc _ _ _).trans HR.out)
 have Ak:=yD hu;clear hu hm AR AZ AY AQ;generalize bs++T1=b1 at *
 replace HR:=yD ((List.append_nil _).symm.trans HR.out)
 have Aq:=Al.out;have AM:=Ak.out
 go_wp2_with fail
 go_end0;have h8:=HR.out;exact⟨rfl,⟨_,by rw[←h8]; exact AM⟩,Aq⟩
theorem zR6 (w0:World)(B g n c:Nat)(A:Option Addr)(L:List TT.xC)(hB:zAp w0 B n A L)(x:TT.xC)(hx:Cells w0 x.kA (TT.xL x.kids))(k:Nat)(t:Bs)(num:Int)(ks kk:List Nat)(ls:List Bs)(hk:x.kind=(k:Int))(ht:x.text=yX t)(hnum:x.num=num)(hks:x.kids=xK ks)(hnk:xU k t num kk)(hl1:kk.length=ks.length)(hl2:ls.length=ks.length)(hkb:ks.length≤100000)(hsz:zAD ls≤1099511627776)
  (HT:∀(w:World) (v:Value) (bs:Bs) (d:Nat),Ext w0 w→PrS w B g A n c v bs d→∀j (hj:j<ks.length),zDr w g L ks[j] (kk.getD j 0) (ls.getD j []))
  (D:Nat) (bks:Nat→List Bs) (HBK:∀j (hj:j<ks.length),kk.getD j 0=6→∃y,L[ks[j]]?=some y∧VE w0 B g n c A y D fun d=>(bks d).getD j []) (h11:k=11) :
  zAY w0 B g n c A x (D+1) fun d=>xW d k t num ls (bks (d+1)):=by
 intro w v bs d AW hS hd AB;subst h11;obtain⟨Ax,Au⟩:∃b,Hid (bks (d+1)=b):=⟨_,yD rfl⟩;obtain⟨AF,AC⟩:∃b,Hid (xW d 11 t num ls Ax=b):=⟨_,yD rfl⟩
 show Calls Tryz.prog 89 #[.pointer (some ⟨g,0,none⟩),jF x] w fun e w'=>e=.returned (.tuple #[])∧zCh w B g A n c (bs++xW d 11 t num ls (bks (d+1))) d w'
 replace AB:bs.length+(xW d 11 t num ls (bks (d+1))).length≤140737488355328:=AB
 rw[Au.out,AC.out] at AB ⊢;have AJ:Hid ((bs++AF).length≤140737488355328):=yD (by rw[yM]; exact AB);have Al:=yD hB;have An:=yD hx;have Ac:=yD hks;have A2:=yD hnk;have Af:=yD hl1;have A4:=yD hl2;have A3:=yD hkb;have Ar:=yD HT;have Ay:=yD HBK;have Ao:=yD AW;have Az:=yD hS.lo;have Av:=yD hd;have A1:=yD hsz;have Ai:=yD (XG hnk);have Aq:Hid (B≤w.heap.size):=yD (by rw[←hB.size]; exact AW.size);have Aj:Hid (x.kids.length=ks.length):=yD (by rw[hks]; simp[xK]);obtain⟨A7,AI⟩:=hS.any;have Ag:=yD AI.lt;clear hB hx hks hnk hl1 hl2 hkb HT HBK AW AB hd hsz AI;have AX:Hid (Ext w ((w.alloc (.cells #[.pointer (some ⟨g,0,none⟩)] 77)).alloc (.cells #[.int .u8 11,.int .i64 x.pos,.string (yX t),.int .i64 num,.slice x.kA x.kids.length x.kc] 48))):=yD ((Ext.alloc _ _).trans (Ext.alloc _ _));have AG:Hid (Blk ((w.alloc (.cells #[.pointer (some ⟨g,0,none⟩)] 77)).alloc (.cells #[.int .u8 11,.int .i64 x.pos,.string (yX t),.int .i64 num,.slice x.kA x.kids.length x.kc] 48)) w.heap.size 77 #[.pointer (some ⟨g,0,none⟩)]):=yD ((Blk.new _ _ _).alloc _)
 have AD:Hid (Blk ((w.alloc (.cells #[.pointer (some ⟨g,0,none⟩)] 77)).alloc (.cells #[.int .u8 11,.int .i64 x.pos,.string (yX t),.int .i64 num,.slice x.kA x.kids.length x.kc] 48)) (w.heap.size+1) 48 #[.int .u8 11,.int .i64 x.pos,.string (yX t),.int .i64 num,.slice x.kA x.kids.length x.kc]):=yD (Blk.zAa (by simp));have AM:=yD (hS.ext AX.out);have Ab:Hid (vU w ((w.alloc (.cells #[.pointer (some ⟨g,0,none⟩)] 77)).alloc (.cells #[.int .u8 11,.int .i64 x.pos,.string (yX t),.int .i64 num,.slice x.kA x.kids.length x.kc] 48)) B g):=yD (vU.ext AX.out);have HE:Hid (∀args w,(callFunc 138 args).run Tryz.prog w=.ok (.enter 138 args) w):=yD (enters_of Tryz.func138 (by kernel_rfl) rfl);clear hS;unfold jF;rw[hk,ht,hnum]
 go_enter Tryz.func89,Tryz.ntmps89
 go_upto_region 1 with fail
 try simp only[size_alloc]
 have AL:Hid (w.heap.size≠g):=yD (by have:=Ag.out; omega);have AH:Hid (w.heap.size+1≠g):=yD (by have:=Ag.out; omega);generalize w.heap.size+1=gn at AD AH ⊢;generalize w.heap.size=gp at AG AL ⊢;generalize ((w.alloc (.cells #[.pointer (some ⟨g,0,none⟩)] 77)).alloc (.cells #[.int .u8 11,.int .i64 x.pos,.string (yX t),.int .i64 num,.slice x.kA x.kids.length x.kc] 48))=w1 at *;have AP:=yD (Ao.out.trans AX.out);have AK:=yD (An.out.ext AP.out);have Ak:Hid (Blk w1 gn 48 #[.int .u8 x.kind,.int .i64 x.pos,.string x.text,.int .i64 x.num,.slice x.kA x.kids.length x.kc]):=yD (by rw[hk,ht,hnum]; exact AD.out);have Am:=yD AG.out.lt;have Ap:=yD AD.out.lt;have Aa:=yD (Al.out.prT AP.out AM.out);have Ah:=yD (Ar.out w1 v bs d AP.out AM.out);have he:=HE.out;have AZ:Hid (0<ks.length):=yD (by have:=Ai.out; have:=Af.out; omega)
 have AV:Hid (∀w',Ext w1 w'→Calls Tryz.prog 138 #[.int .i64 0,.pointer (some ⟨gp,0,none⟩),.pointer (some ⟨gn,0,none⟩)] w' fun e AR=>e=.returned (.string (yX (ls.getD 0 [])))∧Ext w' AR):=yD fun w' hx=>by
  obtain⟨y,h1,h2,h3⟩:=Ah.out 0 AZ.out;exact ZV w' g n c gp gn A L (Aa.out.ext hx) x (AG.out.ext hx) (Ak.out.ext hx) (AK.out.ext hx) 0 (ks[0]'AZ.out) (kk.getD 0 0) (by rw[Aj.out]; exact AZ.out) (by simp only[Ac.out,xK,zA]) (ls.getD 0 []) ⟨y,h1,h2,fun w2 AA=>h3 w2 (hx.trans AA)⟩
 have AY:Hid (1<ks.length):=yD (by have:=Ai.out; have:=Af.out; omega)
 have AN:Hid (∀w',Ext w1 w'→Calls Tryz.prog 138 #[.int .i64 1,.pointer (some ⟨gp,0,none⟩),.pointer (some ⟨gn,0,none⟩)] w' fun e AR=>e=.returned (.string (yX (ls.getD 1 [])))∧Ext w' AR):=yD fun w' hx=>by
  obtain⟨y,h1,h2,h3⟩:=Ah.out 1 AY.out;exact ZV w' g n c gp gn A L (Aa.out.ext hx) x (AG.out.ext hx) (Ak.out.ext hx) (AK.out.ext hx) 1 (ks[1]'AY.out) (kk.getD 1 0) (by rw[Aj.out]; exact AY.out) (by simp only[Ac.out,xK,zA]) (ls.getD 1 []) ⟨y,h1,h2,fun w2 AA=>h3 w2 (hx.trans AA)⟩
 replace AC:Hid (xR d [[115,99,97,110,32],t,[32,61,32],(ls.getD 0 []),[46],(ls.getD 1 []),[59]]=AF):=AC
 generalize ls.getD 0 []=l0 at *;generalize ls.getD 1 []=l1 at *;obtain⟨T1,AS⟩:∃b,Hid (xR d [[115,99,97,110,32],t,[32,61,32],l0,[46],l1,[59]]=b):=⟨_,yD rfl⟩;rw[AS.out] at AC;have n0:w1.cell? ⟨gn,0,none⟩=some (.int .u8 11):=AD.out.cell 0;have n1:w1.cell? ⟨gn,1,none⟩=some (.int .i64 x.pos):=AD.out.cell 1;have n2:w1.cell? ⟨gn,2,none⟩=some (.string (yX t)):=AD.out.cell 2;have n3:w1.cell? ⟨gn,3,none⟩=some (.int .i64 num):=AD.out.cell 3;have n4:w1.cell? ⟨gn,4,none⟩=some (.slice x.kA x.kids.length x.kc):=AD.out.cell 4;have p0:w1.cell? ⟨gp,0,none⟩=some (.pointer (some ⟨g,0,none⟩)):=AG.out.cell 0;have HR:Hid (bs++(T1++[])=bs++AF):=yD (by rw[List.append_nil,AC.out])
 go_upto_region 12 with fail
 apply xE 8 (by kernel_rfl) (by kernel_rfl) (by kernel_rfl);apply xA (.pointer (some ⟨g,0,none⟩)) rfl rfl rfl
 ·intro w' AE hH;clear hH;have yp:=(AE.cell (p:=⟨gp,0,none⟩) Am.out).trans p0;simp[yY,go_sem,yp];exact Ext.refl _
 apply sQ (.pointer (some ⟨gn,2,none⟩));apply xA (.string (yX t)) rfl rfl rfl
 ·intro w' AE hH;clear hH;have y2:=(AE.cell (p:=⟨gn,2,none⟩) Ap.out).trans n2;simp[yY,go_sem,y2];exact Ext.refl _
 apply sQ (.func (.func 138) #[] #[.pointer (some ⟨gp,0,none⟩),.pointer (some ⟨gn,0,none⟩)]);apply xA (.string (yX l0)) rfl rfl rfl
 ·intro w' AE hH;clear hH;simp[yY,go_sem,he];refine(AV.out w' AE).mono ?_;rintro e w2 ⟨rfl,AA⟩;exact⟨_,rfl,rfl,AA⟩
 apply sQ (.func (.func 138) #[] #[.pointer (some ⟨gp,0,none⟩),.pointer (some ⟨gn,0,none⟩)]);apply xA (.string (yX l1)) rfl rfl rfl
 ·intro w' AE hH;clear hH;simp[yY,go_sem,he];refine(AN.out w' AE).mono ?_;rintro e w2 ⟨rfl,AA⟩;exact⟨_,rfl,rfl,AA⟩
 apply vF (JJ 9 7 (VS [[115,99,97,110,32],t,[32,61,32],l0,[46],l1,[59]])) (fun v a b h k=>JJ.ext v a b h k) rfl rfl rfl
 ·intro w' AE hH;clear hH;simp[yY,go_sem];exact⟨⟨_,rfl,Blk.new w' _ _⟩,Ext.alloc _ _⟩
 intro A0;apply vA;intro w2 AA hH;obtain⟨pb,rfl,AQ⟩:=hH _ (List.mem_cons_self ..);clear hH p0 n0 n1 n2 n3 n4
 try simp only[Act.put,yA,yC,yB]
 have AT:=yD (AM.out.ext AA);have AU:=yD (Ab.out.trans (vU.ext AA));have Ae:=yD (AG.out.ext AA);have Ad:=yD (AD.out.ext AA);clear AA AM Ab AG AD
 go_wp2_with fail
 refine(ZK w2 B g A n c _ bs d [[115,99,97,110,32],t,[32,61,32],l0,[46],l1,[59]] pb 7 AT.out rfl (by have:=Av.out; omega) (by simp) AQ (fun e=>by obtain⟨ad,hb⟩:=AT.out.any; subst e; exact Blk.differ AQ hb (by decide) rfl) (by
  have h8:=congrArg List.length HR.out;have h9:=AJ.out;rw[AS.out];simp only[yM,zK] at h8 h9 ⊢
  omega) (Nat.le_trans Aq.out AU.out.size)).mono ?_
 rintro e w3 ⟨rfl,⟨v3,hu⟩,hm⟩
 replace hu:=hu.prS Az.out
 rw[AS.out] at hu;clear AQ;have At:=yD (AU.out.trans hm);have A5:=yD (hm.blk Ae.out AL.out (by decide));have A6:=yD (hm.blk Ad.out AH.out (by decide))
 replace HR:=yD ((List.append_assoc _ _ _).trans HR.out)
 have As:=yD hu;clear hu hm AU Ae Ad AT;generalize bs++T1=b1 at *
 replace HR:=yD ((List.append_nil _).symm.trans HR.out)
 have Aw:=At.out;have AO:=As.out
 go_wp2_with fail
 go_end0;have h8:=HR.out;exact⟨rfl,⟨_,by rw[←h8]; exact AO⟩,Aw⟩
theorem zR7 (w0:World)(B g n c:Nat)(A:Option Addr)(L:List TT.xC)(hB:zAp w0 B n A L)(x:TT.xC)(hx:Cells w0 x.kA (TT.xL x.kids))(k:Nat)(t:Bs)(num:Int)(ks kk:List Nat)(ls:List Bs)(hk:x.kind=(k:Int))(ht:x.text=yX t)(hnum:x.num=num)(hks:x.kids=xK ks)(hnk:xU k t num kk)(hl1:kk.length=ks.length)(hl2:ls.length=ks.length)(hkb:ks.length≤100000)(hsz:zAD ls≤1099511627776)
  (HT:∀(w:World) (v:Value) (bs:Bs) (d:Nat),Ext w0 w→PrS w B g A n c v bs d→∀j (hj:j<ks.length),zDr w g L ks[j] (kk.getD j 0) (ls.getD j []))
  (D:Nat) (bks:Nat→List Bs) (HBK:∀j (hj:j<ks.length),kk.getD j 0=6→∃y,L[ks[j]]?=some y∧VE w0 B g n c A y D fun d=>(bks d).getD j []) (h12:k=12) :
  zAY w0 B g n c A x (D+1) fun d=>xW d k t num ls (bks (d+1)):=by
 intro w v bs d AW hS hd AB;subst h12;obtain⟨Ax,Ar⟩:∃b,Hid (bks (d+1)=b):=⟨_,yD rfl⟩;obtain⟨AF,AC⟩:∃b,Hid (xW d 12 t num ls Ax=b):=⟨_,yD rfl⟩
 show Calls Tryz.prog 89 #[.pointer (some ⟨g,0,none⟩),jF x] w fun e w'=>e=.returned (.tuple #[])∧zCh w B g A n c (bs++xW d 12 t num ls (bks (d+1))) d w'
 replace AB:bs.length+(xW d 12 t num ls (bks (d+1))).length≤140737488355328:=AB
 rw[Ar.out,AC.out] at AB ⊢;have AK:Hid ((bs++AF).length≤140737488355328):=yD (by rw[yM]; exact AB);have Ae:=yD hB;have Ai:=yD hx;have Ao:=yD hks;have Al:=yD hnk;have As:=yD hl1;have A6:=yD hl2;have A5:=yD hkb;have Am:=yD HT;have Az:=yD HBK;have Aj:=yD AW;have A1:=yD hS.lo;have At:=yD hd;have A4:=yD hsz;have Aw:=yD (XG hnk);have Ak:Hid (B≤w.heap.size):=yD (by rw[←hB.size]; exact AW.size);have Ay:Hid (x.kids.length=ks.length):=yD (by rw[hks]; simp[xK]);obtain⟨A9,AI⟩:=hS.any;have Ad:=yD AI.lt;clear hB hx hks hnk hl1 hl2 hkb HT HBK AW AB hd hsz AI;have AX:Hid (Ext w ((w.alloc (.cells #[.pointer (some ⟨g,0,none⟩)] 77)).alloc (.cells #[.int .u8 12,.int .i64 x.pos,.string (yX t),.int .i64 num,.slice x.kA x.kids.length x.kc] 48))):=yD ((Ext.alloc _ _).trans (Ext.alloc _ _));have AG:Hid (Blk ((w.alloc (.cells #[.pointer (some ⟨g,0,none⟩)] 77)).alloc (.cells #[.int .u8 12,.int .i64 x.pos,.string (yX t),.int .i64 num,.slice x.kA x.kids.length x.kc] 48)) w.heap.size 77 #[.pointer (some ⟨g,0,none⟩)]):=yD ((Blk.new _ _ _).alloc _)
 have AE:Hid (Blk ((w.alloc (.cells #[.pointer (some ⟨g,0,none⟩)] 77)).alloc (.cells #[.int .u8 12,.int .i64 x.pos,.string (yX t),.int .i64 num,.slice x.kA x.kids.length x.kc] 48)) (w.heap.size+1) 48 #[.int .u8 12,.int .i64 x.pos,.string (yX t),.int .i64 num,.slice x.kA x.kids.length x.kc]):=yD (Blk.zAa (by simp));have AM:=yD (hS.ext AX.out);have Aa:Hid (vU w ((w.alloc (.cells #[.pointer (some ⟨g,0,none⟩)] 77)).alloc (.cells #[.int .u8 12,.int .i64 x.pos,.string (yX t),.int .i64 num,.slice x.kA x.kids.length x.kc] 48)) B g):=yD (vU.ext AX.out);have HE:Hid (∀args w,(callFunc 138 args).run Tryz.prog w=.ok (.enter 138 args) w):=yD (enters_of Tryz.func138 (by kernel_rfl) rfl);clear hS;unfold jF;rw[hk,ht,hnum]
 go_enter Tryz.func89,Tryz.ntmps89
 go_upto_region 1 with fail
 try simp only[size_alloc]
 have AL:Hid (w.heap.size≠g):=yD (by have:=Ad.out; omega);have AH:Hid (w.heap.size+1≠g):=yD (by have:=Ad.out; omega);generalize w.heap.size+1=gn at AE AH ⊢;generalize w.heap.size=gp at AG AL ⊢;generalize ((w.alloc (.cells #[.pointer (some ⟨g,0,none⟩)] 77)).alloc (.cells #[.int .u8 12,.int .i64 x.pos,.string (yX t),.int .i64 num,.slice x.kA x.kids.length x.kc] 48))=w1 at *;have AO:=yD (Aj.out.trans AX.out);have AZ:=yD (Ai.out.ext AO.out);have A0:Hid (Blk w1 gn 48 #[.int .u8 x.kind,.int .i64 x.pos,.string x.text,.int .i64 x.num,.slice x.kA x.kids.length x.kc]):=yD (by rw[hk,ht,hnum]; exact AE.out);have Ag:=yD AG.out.lt;have AJ:=yD AE.out.lt;have An:=yD (Ae.out.prT AO.out AM.out);have Au:=yD (Am.out w1 v bs d AO.out AM.out);have he:=HE.out;have AY:Hid (0<ks.length):=yD (by have:=Aw.out; have:=As.out; omega)
 have AU:Hid (∀w',Ext w1 w'→Calls Tryz.prog 138 #[.int .i64 0,.pointer (some ⟨gp,0,none⟩),.pointer (some ⟨gn,0,none⟩)] w' fun e AQ=>e=.returned (.string (yX (ls.getD 0 [])))∧Ext w' AQ):=yD fun w' hx=>by
  obtain⟨y,h1,h2,h3⟩:=Au.out 0 AY.out;exact ZV w' g n c gp gn A L (An.out.ext hx) x (AG.out.ext hx) (A0.out.ext hx) (AZ.out.ext hx) 0 (ks[0]'AY.out) (kk.getD 0 0) (by rw[Ay.out]; exact AY.out) (by simp only[Ao.out,xK,zA]) (ls.getD 0 []) ⟨y,h1,h2,fun w2 AD=>h3 w2 (hx.trans AD)⟩
 have AV:=yD (zGU Al.out (by decide))
 have Af:Hid (∀w' lb,Ext w1 w'→Blk w' lb 9 #[.string (yX [32,115,104,97,114,101,100,59]),.string (yX [32,97,108,108,59])]→Calls Tryz.prog 43 #[.agg #[.int .u8 12,.int .i64 x.pos,.string (yX t),.int .i64 num,.slice x.kA x.kids.length x.kc],.slice (some ⟨lb,0,none⟩) 2 2] w' fun e AQ=>e=.returned (.string (yX (JB num [32,115,104,97,114,101,100,59] [32,97,108,108,59])))∧Ext w' AQ):=yD fun w' lb hx hb=>by
  have:=zFV w' x (by rw[hnum]; exact AV.out) [32,115,104,97,114,101,100,59] [32,97,108,108,59] lb hb
  unfold jF at this;rw[hk,ht,hnum] at this;exact this
 replace AC:Hid (xR d [[108,111,99,107,32],(ls.getD 0 []),(JB num [32,115,104,97,114,101,100,59] [32,97,108,108,59])]=AF):=AC
 generalize ls.getD 0 []=l0 at *;generalize JB num [32,115,104,97,114,101,100,59] [32,97,108,108,59]=lp at *;obtain⟨T1,AR⟩:∃b,Hid (xR d [[108,111,99,107,32],l0,lp]=b):=⟨_,yD rfl⟩;rw[AR.out] at AC;have n0:w1.cell? ⟨gn,0,none⟩=some (.int .u8 12):=AE.out.cell 0;have n1:w1.cell? ⟨gn,1,none⟩=some (.int .i64 x.pos):=AE.out.cell 1;have n2:w1.cell? ⟨gn,2,none⟩=some (.string (yX t)):=AE.out.cell 2;have n3:w1.cell? ⟨gn,3,none⟩=some (.int .i64 num):=AE.out.cell 3;have n4:w1.cell? ⟨gn,4,none⟩=some (.slice x.kA x.kids.length x.kc):=AE.out.cell 4;have p0:w1.cell? ⟨gp,0,none⟩=some (.pointer (some ⟨g,0,none⟩)):=AG.out.cell 0;have HR:Hid (bs++(T1++[])=bs++AF):=yD (by rw[List.append_nil,AC.out])
 go_upto_region 14 with fail
 apply xE 7 (by kernel_rfl) (by kernel_rfl) (by kernel_rfl);apply xA (.pointer (some ⟨g,0,none⟩)) rfl rfl rfl
 ·intro w' AA hH;clear hH;have yp:=(AA.cell (p:=⟨gp,0,none⟩) Ag.out).trans p0;simp[yY,go_sem,yp];exact Ext.refl _
 apply sQ (.func (.func 138) #[] #[.pointer (some ⟨gp,0,none⟩),.pointer (some ⟨gn,0,none⟩)]);apply xA (.string (yX l0)) rfl rfl rfl
 ·intro w' AA hH;clear hH;simp[yY,go_sem,he];refine(AU.out w' AA).mono ?_;rintro e w2 ⟨rfl,AD⟩;exact⟨_,rfl,rfl,AD⟩
 apply xA (.agg #[.int .u8 12,.int .i64 x.pos,.string (yX t),.int .i64 num,.slice x.kA x.kids.length x.kc]) rfl rfl rfl
 ·intro w' AA hH;clear hH;have y0:=(AA.cell (p:=⟨gn,0,none⟩) AJ.out).trans n0;have y1:=(AA.cell (p:=⟨gn,1,none⟩) AJ.out).trans n1;have y2:=(AA.cell (p:=⟨gn,2,none⟩) AJ.out).trans n2;have y3:=(AA.cell (p:=⟨gn,3,none⟩) AJ.out).trans n3;have y4:=(AA.cell (p:=⟨gn,4,none⟩) AJ.out).trans n4;simp[yY,go_sem,y0,y1,y2,y3,y4];exact Ext.refl _
 apply vF (JJ 9 2 #[.string (yX [32,115,104,97,114,101,100,59]),.string (yX [32,97,108,108,59])]) (fun v a b h k=>JJ.ext v a b h k) rfl rfl rfl
 ·intro w' AA hH;clear hH;simp[yY,go_sem];exact⟨⟨_,rfl,Blk.new w' _ _⟩,Ext.alloc _ _⟩
 intro A3;apply xA (.string (yX lp)) rfl rfl rfl
 ·intro w' AA hH;obtain⟨lb,rfl,Ah⟩:=hH _ (List.mem_cons_self ..) ⟨67,rfl,by decide⟩;clear hH;simp[yY,go_sem,he];refine(Af.out w' lb AA Ah).mono ?_;rintro e w2 ⟨rfl,AD⟩;exact⟨_,rfl,rfl,AD⟩
 apply vF (JJ 9 3 (VS [[108,111,99,107,32],l0,lp])) (fun v a b h k=>JJ.ext v a b h k) rfl rfl rfl
 ·intro w' AA hH;clear hH;simp[yY,go_sem];exact⟨⟨_,rfl,Blk.new w' _ _⟩,Ext.alloc _ _⟩
 intro A2;apply vA;intro w2 AD hH;obtain⟨pb,rfl,AP⟩:=hH _ (List.mem_cons_self ..);clear hH p0 n0 n1 n2 n3 n4
 try simp only[Act.put,yA,yC,yB]
 have AS:=yD (AM.out.ext AD);have AT:=yD (Aa.out.trans (vU.ext AD));have Ac:=yD (AG.out.ext AD);have Ab:=yD (AE.out.ext AD);clear AD AM Aa AG AE
 go_wp2_with fail
 refine(ZK w2 B g A n c _ bs d [[108,111,99,107,32],l0,lp] pb 3 AS.out rfl (by have:=At.out; omega) (by simp) AP (fun e=>by obtain⟨ad,hb⟩:=AS.out.any; subst e; exact Blk.differ AP hb (by decide) rfl) (by
  have h8:=congrArg List.length HR.out;have h9:=AK.out;rw[AR.out];simp only[yM,zK] at h8 h9 ⊢
  omega) (Nat.le_trans Ak.out AT.out.size)).mono ?_
 rintro e w3 ⟨rfl,⟨v3,hu⟩,hm⟩
 replace hu:=hu.prS A1.out
 rw[AR.out] at hu;clear AP;have Aq:=yD (AT.out.trans hm);have A7:=yD (hm.blk Ac.out AL.out (by decide));have A8:=yD (hm.blk Ab.out AH.out (by decide))
 replace HR:=yD ((List.append_assoc _ _ _).trans HR.out)
 have Ap:=yD hu;clear hu hm AT Ac Ab AS;generalize bs++T1=b1 at *
 replace HR:=yD ((List.append_nil _).symm.trans HR.out)
 have Av:=Aq.out;have AN:=Ap.out
 go_wp2_with fail
 go_end0;have h8:=HR.out;exact⟨rfl,⟨_,by rw[←h8]; exact AN⟩,Av⟩
theorem zS6 (w0:World)(B g n c:Nat)(A:Option Addr)(L:List TT.xC)(hB:zAp w0 B n A L)(x:TT.xC)(hx:Cells w0 x.kA (TT.xL x.kids))(k:Nat)(t:Bs)(num:Int)(ks kk:List Nat)(ls:List Bs)(hk:x.kind=(k:Int))(ht:x.text=yX t)(hnum:x.num=num)(hks:x.kids=xK ks)(hnk:xU k t num kk)(hl1:kk.length=ks.length)(hl2:ls.length=ks.length)(hkb:ks.length≤100000)(hsz:zAD ls≤1099511627776)
  (HT:∀(w:World) (v:Value) (bs:Bs) (d:Nat),Ext w0 w→PrS w B g A n c v bs d→∀j (hj:j<ks.length),zDr w g L ks[j] (kk.getD j 0) (ls.getD j []))
  (D:Nat) (bks:Nat→List Bs) (HBK:∀j (hj:j<ks.length),kk.getD j 0=6→∃y,L[ks[j]]?=some y∧VE w0 B g n c A y D fun d=>(bks d).getD j []) (h13:k=13) :
  zAY w0 B g n c A x (D+1) fun d=>xW d k t num ls (bks (d+1)):=by
 intro w v bs d AT hS hd AA;subst h13;obtain⟨As,Am⟩:∃b,Hid (bks (d+1)=b):=⟨_,yD rfl⟩;obtain⟨AE,AB⟩:∃b,Hid (xW d 13 t num ls As=b):=⟨_,yD rfl⟩
 show Calls Tryz.prog 89 #[.pointer (some ⟨g,0,none⟩),jF x] w fun e w'=>e=.returned (.tuple #[])∧zCh w B g A n c (bs++xW d 13 t num ls (bks (d+1))) d w'
 replace AA:bs.length+(xW d 13 t num ls (bks (d+1))).length≤140737488355328:=AA
 rw[Am.out,AB.out] at AA ⊢;have AI:Hid ((bs++AE).length≤140737488355328):=yD (by rw[yM]; exact AA);have Ab:=yD hB;have Ad:=yD hx;have Aj:=yD hks;have A0:=yD hnk;have An:=yD hl1;have A2:=yD hl2;have A1:=yD hkb;have Ah:=yD HT;have Au:=yD HBK;have Ae:=yD AT;have Aw:=yD hS.lo;have Ao:=yD hd;have Az:=yD hsz;have Ar:=yD (XG hnk);have Af:Hid (B≤w.heap.size):=yD (by rw[←hB.size]; exact AT.size);have At:Hid (x.kids.length=ks.length):=yD (by rw[hks]; simp[xK]);obtain⟨A5,AH⟩:=hS.any;have Aa:=yD AH.lt;clear hB hx hks hnk hl1 hl2 hkb HT HBK AT AA hd hsz AH;have AU:Hid (Ext w ((w.alloc (.cells #[.pointer (some ⟨g,0,none⟩)] 77)).alloc (.cells #[.int .u8 13,.int .i64 x.pos,.string (yX t),.int .i64 num,.slice x.kA x.kids.length x.kc] 48))):=yD ((Ext.alloc _ _).trans (Ext.alloc _ _));have AF:Hid (Blk ((w.alloc (.cells #[.pointer (some ⟨g,0,none⟩)] 77)).alloc (.cells #[.int .u8 13,.int .i64 x.pos,.string (yX t),.int .i64 num,.slice x.kA x.kids.length x.kc] 48)) w.heap.size 77 #[.pointer (some ⟨g,0,none⟩)]):=yD ((Blk.new _ _ _).alloc _)
 have AC:Hid (Blk ((w.alloc (.cells #[.pointer (some ⟨g,0,none⟩)] 77)).alloc (.cells #[.int .u8 13,.int .i64 x.pos,.string (yX t),.int .i64 num,.slice x.kA x.kids.length x.kc] 48)) (w.heap.size+1) 48 #[.int .u8 13,.int .i64 x.pos,.string (yX t),.int .i64 num,.slice x.kA x.kids.length x.kc]):=yD (Blk.zAa (by simp));have AK:=yD (hS.ext AU.out);have AX:Hid (vU w ((w.alloc (.cells #[.pointer (some ⟨g,0,none⟩)] 77)).alloc (.cells #[.int .u8 13,.int .i64 x.pos,.string (yX t),.int .i64 num,.slice x.kA x.kids.length x.kc] 48)) B g):=yD (vU.ext AU.out);have HE:Hid (∀args w,(callFunc 138 args).run Tryz.prog w=.ok (.enter 138 args) w):=yD (enters_of Tryz.func138 (by kernel_rfl) rfl);clear hS;unfold jF;rw[hk,ht,hnum]
 go_enter Tryz.func89,Tryz.ntmps89
 go_upto_region 1 with fail
 try simp only[size_alloc]
 have AJ:Hid (w.heap.size≠g):=yD (by have:=Aa.out; omega);have AG:Hid (w.heap.size+1≠g):=yD (by have:=Aa.out; omega);generalize w.heap.size+1=gn at AC AG ⊢;generalize w.heap.size=gp at AF AJ ⊢;generalize ((w.alloc (.cells #[.pointer (some ⟨g,0,none⟩)] 77)).alloc (.cells #[.int .u8 13,.int .i64 x.pos,.string (yX t),.int .i64 num,.slice x.kA x.kids.length x.kc] 48))=w1 at *;have AN:=yD (Ae.out.trans AU.out);have AW:=yD (Ad.out.ext AN.out);have Av:Hid (Blk w1 gn 48 #[.int .u8 x.kind,.int .i64 x.pos,.string x.text,.int .i64 x.num,.slice x.kA x.kids.length x.kc]):=yD (by rw[hk,ht,hnum]; exact AC.out);have Ac:=yD AF.out.lt;have Ay:=yD AC.out.lt;have Ai:=yD (Ab.out.prT AN.out AK.out);have Ap:=yD (Ah.out w1 v bs d AN.out AK.out);have he:=HE.out;have AV:Hid (0<ks.length):=yD (by have:=Ar.out; have:=An.out; omega)
 have AS:Hid (∀w',Ext w1 w'→Calls Tryz.prog 138 #[.int .i64 0,.pointer (some ⟨gp,0,none⟩),.pointer (some ⟨gn,0,none⟩)] w' fun e Ag=>e=.returned (.string (yX (ls.getD 0 [])))∧Ext w' Ag):=yD fun w' hx=>by
  obtain⟨y,h1,h2,h3⟩:=Ap.out 0 AV.out;exact ZV w' g n c gp gn A L (Ai.out.ext hx) x (AF.out.ext hx) (Av.out.ext hx) (AW.out.ext hx) 0 (ks[0]'AV.out) (kk.getD 0 0) (by rw[At.out]; exact AV.out) (by simp only[Aj.out,xK,zA]) (ls.getD 0 []) ⟨y,h1,h2,fun w2 AD=>h3 w2 (hx.trans AD)⟩
 replace AB:Hid (xR d [[114,101,108,101,97,115,101,32],(ls.getD 0 []),[59]]=AE):=AB
 generalize ls.getD 0 []=l0 at *;obtain⟨T1,AP⟩:∃b,Hid (xR d [[114,101,108,101,97,115,101,32],l0,[59]]=b):=⟨_,yD rfl⟩;rw[AP.out] at AB;have n0:w1.cell? ⟨gn,0,none⟩=some (.int .u8 13):=AC.out.cell 0;have n1:w1.cell? ⟨gn,1,none⟩=some (.int .i64 x.pos):=AC.out.cell 1;have n2:w1.cell? ⟨gn,2,none⟩=some (.string (yX t)):=AC.out.cell 2;have n3:w1.cell? ⟨gn,3,none⟩=some (.int .i64 num):=AC.out.cell 3;have n4:w1.cell? ⟨gn,4,none⟩=some (.slice x.kA x.kids.length x.kc):=AC.out.cell 4;have p0:w1.cell? ⟨gp,0,none⟩=some (.pointer (some ⟨g,0,none⟩)):=AF.out.cell 0;have HR:Hid (bs++(T1++[])=bs++AE):=yD (by rw[List.append_nil,AB.out])
 go_upto_region 16 with fail
 apply xE 4 (by kernel_rfl) (by kernel_rfl) (by kernel_rfl);apply xA (.pointer (some ⟨g,0,none⟩)) rfl rfl rfl
 ·intro w' AL hH;clear hH;have yp:=(AL.cell (p:=⟨gp,0,none⟩) Ac.out).trans p0;simp[yY,go_sem,yp];exact Ext.refl _
 apply sQ (.func (.func 138) #[] #[.pointer (some ⟨gp,0,none⟩),.pointer (some ⟨gn,0,none⟩)]);apply xA (.string (yX l0)) rfl rfl rfl
 ·intro w' AL hH;clear hH;simp[yY,go_sem,he];refine(AS.out w' AL).mono ?_;rintro e w2 ⟨rfl,AD⟩;exact⟨_,rfl,rfl,AD⟩
 apply vF (JJ 9 3 (VS [[114,101,108,101,97,115,101,32],l0,[59]])) (fun v a b h k=>JJ.ext v a b h k) rfl rfl rfl
 ·intro w' AL hH;clear hH;simp[yY,go_sem];exact⟨⟨_,rfl,Blk.new w' _ _⟩,Ext.alloc _ _⟩
 intro Ax;apply vA;intro w2 AD hH;obtain⟨pb,rfl,AO⟩:=hH _ (List.mem_cons_self ..);clear hH p0 n0 n1 n2 n3 n4
 try simp only[Act.put,yA,yC,yB]
 have AQ:=yD (AK.out.ext AD);have AR:=yD (AX.out.trans (vU.ext AD));have AZ:=yD (AF.out.ext AD);have AY:=yD (AC.out.ext AD);clear AD AK AX AF AC
 go_wp2_with fail
 refine(ZK w2 B g A n c _ bs d [[114,101,108,101,97,115,101,32],l0,[59]] pb 3 AQ.out rfl (by have:=Ao.out; omega) (by simp) AO (fun e=>by obtain⟨ad,hb⟩:=AQ.out.any; subst e; exact Blk.differ AO hb (by decide) rfl) (by
  have h8:=congrArg List.length HR.out;have h9:=AI.out;rw[AP.out];simp only[yM,zK] at h8 h9 ⊢
  omega) (Nat.le_trans Af.out AR.out.size)).mono ?_
 rintro e w3 ⟨rfl,⟨v3,hu⟩,hm⟩
 replace hu:=hu.prS Aw.out
 rw[AP.out] at hu;clear AO;have Al:=yD (AR.out.trans hm);have A3:=yD (hm.blk AZ.out AJ.out (by decide));have A4:=yD (hm.blk AY.out AG.out (by decide))
 replace HR:=yD ((List.append_assoc _ _ _).trans HR.out)
 have Ak:=yD hu;clear hu hm AR AZ AY AQ;generalize bs++T1=b1 at *
 replace HR:=yD ((List.append_nil _).symm.trans HR.out)
 have Aq:=Al.out;have AM:=Ak.out
 go_wp2_with fail
 go_end0;have h8:=HR.out;exact⟨rfl,⟨_,by rw[←h8]; exact AM⟩,Aq⟩
end Go.Proofs.YtioffpjajhalaaaGreatDoor
