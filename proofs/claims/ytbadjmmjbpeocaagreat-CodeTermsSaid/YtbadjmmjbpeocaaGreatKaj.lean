/- The reader of names: ask, node, of, column. (and what follows of it). The conditions stand at each lemma. -/
import Derived.Test.YtbadjmmjbpeocaaGreatKaa
import Derived.Test.YtbadjmmjbpeocaaGreatKai
import Derived.Deep.Cut
import Derived.Test.YtbadjmmjbpeocaaGreatKaf
set_option linter.unusedVariables false
set_option linter.unusedSimpArgs false
set_option maxRecDepth 100000
set_option maxHeartbeats 16000000
namespace Go.Proofs.YtbadjmmjbpeocaaGreat
open Go Go.RowKit
def XJ (p:Int)(er:Int):Ending:=.panicked [{ v:=.iface 117 (.agg #[.int .i64 p,.int .i64 er]),recovered:=false }]
theorem xJ {P:Program}{fn:Func}{R:Ending→World→Prop}{a:Act}{w:World}{p er:Int}(hd:a.defers=[])(h:R (XJ p er) w):bodyPost P fn R (Exit.panic [{ v:=.iface 117 (.agg #[.int .i64 p,.int .i64 er]),recovered:=false }]) a w:=⟨hd,h⟩
structure RdS (w:World)(a p:Nat)(A:Option Addr)(ct:Nat)(l:List Tx):Prop where
 r0:w.cell? ⟨a,0,none⟩=some (.pointer (some ⟨p,0,none⟩))
 p0:w.cell? ⟨p,0,none⟩=some (.slice A l.length ct)
 row:Cells w A (tcs l)
 al:a<w.heap.size
 pl:p<w.heap.size
theorem RdS.ext {w w':World}{a p:Nat}{A:Option Addr}{ct:Nat}{l:List Tx}(h:RdS w a p A ct l)(hx:Ext w w'):RdS w' a p A ct l:=
 ⟨(hx.cell (p:=⟨a,0,none⟩) h.al).trans h.r0,(hx.cell (p:=⟨p,0,none⟩) h.pl).trans h.p0,h.row.ext hx,yU h.al hx.size,yU h.pl hx.size⟩
theorem RdS.at_ {w:World}{a p:Nat}{A:Option Addr}{ct:Nat}{l:List Tx}(h:RdS w a p A ct l)(k:Nat)(hk:k<l.length) :
  ∃b off,A=some ⟨b,off,none⟩∧b<w.heap.size∧∀j,j<5→w.cell? ⟨b,off+k*5+j,none⟩=(vT l k).toList[j]?:=by
 obtain⟨b,off,hA,hb,hcc⟩:=h.row.at_ (by rw[zE1]; omega);refine⟨b,off,hA,hb,fun j hj=>?_⟩;rw[Nat.add_assoc,hcc _ (by rw[zE1]; omega),zOe l k hk j hj,zIP hk]
theorem XG (w:World)(a:Value)(i er:Int):Calls Tryz.prog 83 #[a,.bool true,.int .i64 i,.int .i64 er] w fun e w'=>e=.returned (.tuple #[])∧w=w':=by
 go_enter Tryz.func83,Tryz.ntmps83
 go_wp2
 go_end0;exact⟨rfl,rfl⟩
theorem JS (w:World)(a p:Nat)(A:Option Addr)(ct:Nat)(l:List Tx)(i:Nat)(er:Int)(h:RdS w a p A ct l)(hi:i<l.length) :
  Calls Tryz.prog 83 #[.pointer (some ⟨a,0,none⟩),.bool false,.int .i64 (i:Int),.int .i64 er] w fun e w'=>e=XJ (YQ l i) er∧w=w':=by
 obtain⟨b,off,rfl,hb,hc⟩:=h.at_ i hi;have r0:=h.r0;have p0:=h.p0;have c1:w.cell? ⟨b,off+i*5+1,none⟩=some (.int .i64 (YQ l i)):=hc 1 (by decide)
 have q0:(i:Int)<(l.length:Int):=by omega
 clear h hc
 go_enter Tryz.func83,Tryz.ntmps83
 go_wp2
 exact⟨rfl,rfl,rfl⟩
theorem vW (w:World)(a p:Nat)(A:Option Addr)(ct:Nat)(l:List Tx)(i:Nat)(h:RdS w a p A ct l)(hi:i<l.length) :
  Calls Tryz.prog 48 #[.pointer (some ⟨a,0,none⟩),.int .i64 (i:Int)] w fun e w'=>e=.returned (.agg (vT l i))∧Ext w w':=by
 obtain⟨b,off,rfl,hb,hc⟩:=h.at_ i hi;have r0:=h.r0;have p0:=h.p0;have al:=h.al;have pl:=h.pl;unfold vT at *;generalize (xB (tN l) i).kind=nk at *;generalize YQ l i=np at *;generalize (xB (tN l) i).text=nt at *;generalize (xB (tN l) i).num=nn at *;generalize (xB (tN l) i).kids.length=kn at *;generalize (hdN l i).1=kA at *;generalize (hdN l i).2=kc at *;have c0:w.cell? ⟨b,off+i*5,none⟩=some (.int .u8 (nk:Int)):=hc 0 (by decide);have c1:w.cell? ⟨b,off+i*5+1,none⟩=some (.int .i64 np):=hc 1 (by decide);have c2:w.cell? ⟨b,off+i*5+2,none⟩=some (.string (xH nt)):=hc 2 (by decide);have c3:w.cell? ⟨b,off+i*5+3,none⟩=some (.int .i64 nn):=hc 3 (by decide);have c4:w.cell? ⟨b,off+i*5+4,none⟩=some (.slice kA kn kc):=hc 4 (by decide)
 have q0:(i:Int)<(l.length:Int):=by omega
 clear h hc
 go_enter Tryz.func48,Tryz.ntmps48
 go_wp2
 refine bodyPost_ret (v:=.agg #[.int .u8 (nk:Int),.int .i64 np,.string (xH nt),.int .i64 nn,.slice kA kn kc]) (by simp[results,Tryz.results48,go_sem]) rfl ⟨rfl,?_⟩;exact Ext.alloc _ _
structure ZQ (R R':DyN):Prop where
 j:R'.j=R.j
 sz:R'.pc.size=R.pc.size
 pc:∀i,i≠R.j*5+2→R'.pc[i]?=R.pc[i]?
theorem ZQ.refl (R:DyN):ZQ R R:=⟨rfl,rfl,fun _ _=>rfl⟩
theorem ZQ.trans {R R1 R2:DyN}(h:ZQ R R1)(k:ZQ R1 R2):ZQ R R2:=⟨k.j.trans h.j,k.sz.trans h.sz,fun i hi=>(k.pc i (by rw[h.j]; exact hi)).trans (h.pc i hi)⟩
def OkN (w:World)(S:StN)(R:DyN)(s':Nr)(w':World):Prop:=∃R',ZQ R R'∧NB w' S s' R'∧xC w (xL S R) w' (xL S R')
def jS (w:World)(S:StN)(R:DyN)(r:YU Nr)(v:Nr→Value)(e:Ending)(w':World):Prop:=
 match r with
 | .ok s'=>e=.returned (v s')∧OkN w S R s' w'
 | .err i er=>e=XJ (YQ S.l i) er∧i<S.l.length∧∃M',xC w (xL S R) w' M'
def vU:Nr→Value:=fun _=>.tuple #[]
theorem OkN.trans {w w1 w2:World}{S:StN}{R R1:DyN}{s:Nr}(hs:ZQ R R1)(h:xC w (xL S R) w1 (xL S R1))(k:OkN w1 S R1 s w2):OkN w S R s w2:=let ⟨R2,a,b,c⟩:=k; ⟨R2,hs.trans a,b,h.trans c⟩
theorem jS.trans {w w1 w2:World}{S:StN}{R R1:DyN}{r:YU Nr}{v:Nr→Value}{e:Ending}(hs:ZQ R R1)(h:xC w (xL S R) w1 (xL S R1))(k:jS w1 S R1 r v e w2):jS w S R r v e w2:=by
 cases r with
 | ok s=>exact⟨k.1,OkN.trans hs h k.2⟩
 | err i er=>obtain⟨a,b,M,c⟩:=k; exact⟨a,b,M,h.trans c⟩
theorem jS.err {w w':World}{S:StN}{R:DyN}{r:YU Nr}{v:Nr→Value}{i:Nat}{er:Int}(hr:r=.err i er)(hi:i<S.l.length)(hx:Ext w w'):jS w S R r v (XJ (YQ S.l i) er) w':=by
 rw[hr];exact⟨rfl,hi,_,xC.ext (M:=xL S R) hx⟩
theorem NB.zRA {w w1:World}{S:StN}{s:Nr}{R:DyN}(h:NB w1 S s R)(hx:Ext w w1)(i:Nat)(x:Int):OkN w S R (s.set i x) (w1.setCell ⟨S.bo,i,none⟩ (.int .i64 x)):=
 let k:=h.setOf i x
 ⟨R,ZQ.refl R,k.1,(xC.ext hx).trans k.2⟩
theorem NB.rds {w:World}{S:StN}{s:Nr}{R:DyN}(h:NB w S s R):RdS w S.a S.p S.A S.ct S.l:=⟨h.rd.cell 0,h.st.prog.1.cell 0,h.st.tree.row.cells,h.rd.lt,h.st.prog.1.lt⟩
theorem NB.x1 {w:World}{S:StN}{s:Nr}{R:DyN}(h:NB w S s R):w.cell? ⟨S.a,1,none⟩=some (.map (some S.mt)):=h.rd.cell 1
theorem NB.x2 {w:World}{S:StN}{s:Nr}{R:DyN}(h:NB w S s R):w.cell? ⟨S.a,2,none⟩=some (.slice S.Ac s.xG.length S.cc):=h.rd.cell 2
theorem NB.x3 {w:World}{S:StN}{s:Nr}{R:DyN}(h:NB w S s R):w.cell? ⟨S.a,3,none⟩=some (.pointer (some ⟨S.bp,R.j*5,none⟩)):=h.rd.cell 3
theorem NB.x4 {w:World}{S:StN}{s:Nr}{R:DyN}(h:NB w S s R):w.cell? ⟨S.a,4,none⟩=some (.slice R.Ab s.blocks.length R.cb):=h.rd.cell 4
theorem NB.p1 {w:World}{S:StN}{s:Nr}{R:DyN}(h:NB w S s R):w.cell? ⟨S.p,1,none⟩=some (.slice S.At s.xG.length S.cT):=h.st.prog.1.cell 1
theorem NB.p3 {w:World}{S:StN}{s:Nr}{R:DyN}(h:NB w S s R):w.cell? ⟨S.p,3,none⟩=some (.slice (some ⟨S.bo,0,none⟩) S.l.length S.co):=h.st.prog.1.cell 3
theorem NB.zBR {w:World}{S:StN}{s:Nr}{R:DyN}(h:NB w S s R)(i:Nat)(hi:i<S.l.length):w.cell? ⟨S.bo,i,none⟩=some (.int .i64 (zAL s i)):=by
 rw[h.of.cell i]
 show(ofc s.of).toArray[i]?=_
 rw[yL,zOC _ _ (by rw[h.len]; exact hi)]
 rfl
theorem NB.ofz {w:World}{S:StN}{s:Nr}{R:DyN}(h:NB w S s R)(i:Nat):w.frozen? ⟨S.bo,i,none⟩=false:=h.of.frozen i
theorem zDP (l:List Tx)(i:Nat)(w:World):(Instr.field 38 (.agg (vT l i)) 0).run Tryz.prog w=.ok (.int .u8 ((xB (tN l) i).kind:Int)) w:=by kernel_rfl
theorem JB (l:List Tx)(i:Nat)(w:World):(Instr.field 38 (.agg (vT l i)) 2).run Tryz.prog w=.ok (.string (xH (xB (tN l) i).text)) w:=by kernel_rfl
theorem zFq (l:List Tx)(i:Nat)(w:World):(Instr.field 38 (.agg (vT l i)) 4).run Tryz.prog w=.ok (.slice (hdN l i).1 (xB (tN l) i).kids.length (hdN l i).2) w:=by kernel_rfl
theorem zFS (w:World)(S:StN)(s:Nr)(R:DyN)(i:Nat)(h:NB w S s R)(hi:i<S.l.length) :
  Calls Tryz.prog 152 #[.pointer (some ⟨S.a,0,none⟩),.int .i64 (i:Int)] w (jS w S R (ofN (tN S.l) i s) (fun s'=>.int .i64 (zAL s' i))):=by
 have HNB:=yG h;have HRD:=yG h.rds;have HIL:=yG hi;have HTX:Hid ((xB (tN S.l) i).text.length≤maxLen):=yG (h.st.tree.txt i);have HMT:Hid (MF Tryz.prog 9 w S.mt 64 fun n=>zBo (zB0 s n)):=yG h.st.mt.1;have x1:=h.x1;have al:=h.rd.lt;clear h hi
 cases hk:zB0 s (xB (tN S.l) i).text with
 | none=>
  have HK:=yG hk;have HR:Hid (ofN (tN S.l) i s=.err i 70):=yG (by unfold ofN; rw[hk]);clear hk
  go_enter Tryz.func152,Tryz.ntmps152
  go_wp2_with fail
  apply ZP (by kernel_rfl) (by kernel_rfl) (by kernel_rfl);apply yZ (.pointer (some ⟨S.a,0,none⟩)) rfl rfl rfl
  ·intro w' hw' hH;clear hH;simp[xA,go_sem];exact Ext.refl _
  apply yZ (.pointer (some ⟨S.a,0,none⟩)) rfl rfl rfl
  ·intro w' hw' hH;clear hH;simp[xA,go_sem];exact Ext.refl _
  apply yZ (.pointer (some ⟨S.a,1,none⟩)) rfl rfl rfl
  ·intro w' hw' hH;clear hH;simp[xA,go_sem];exact Ext.refl _
  apply yZ (.map (some S.mt)) rfl rfl rfl
  ·intro w' hw' hH;clear hH;have z0:=(hw'.cell (p:=⟨S.a,1,none⟩) al).trans x1;simp[xA,go_sem,z0];exact Ext.refl _
  apply yZ (.pointer (some ⟨S.a,0,none⟩)) rfl rfl rfl
  ·intro w' hw' hH;clear hH;simp[xA,go_sem];exact Ext.refl _
  apply yZ (.int .i64 (i:Int)) rfl rfl rfl
  ·intro w' hw' hH;clear hH;simp[xA,go_sem];exact Ext.refl _
  apply yZ (.agg (vT S.l i)) rfl rfl rfl
  ·intro w' hw' hH;clear hH;simp[xA,go_sem];refine(vW w' S.a S.p S.A S.ct S.l i (HRD.out.ext hw') HIL.out).mono ?_;rintro e w2 ⟨rfl,hx⟩;exact⟨_,rfl,rfl,hx⟩
  apply yZ (.string (xH (xB (tN S.l) i).text)) rfl rfl rfl
  ·intro w' hw' hH;clear hH;simp[xA,go_sem,JB];exact Ext.refl _
  apply yZ (.tuple #[.int .i64 0,.bool false]) rfl rfl rfl
  ·intro w' hw' hH;clear hH;have hlk:=(HMT.out.ext hw').get (t:=110) (e:=3) (z:=.int .i64 0) Tryz.underlying9 Tryz.underlying110 (by rfl) (xB (tN S.l) i).text HTX.out;rw[HK.out] at hlk;simp only[zBo,Option.map_some,Option.map_none,Option.getD_some,Option.getD_none,Option.isSome_some,Option.isSome_none] at hlk;simp[xA,go_sem,hlk];exact Ext.refl _
  apply yZ (.tuple #[.int .i64 0,.bool false]) rfl rfl rfl
  ·intro w' hw' hH;clear hH;simp[xA,go_sem];exact Ext.refl _
  apply yZ (.int .i64 0) rfl rfl rfl
  ·intro w' hw' hH;clear hH;simp[xA,go_sem];exact Ext.refl _
  apply yZ (.bool false) rfl rfl rfl
  ·intro w' hw' hH;clear hH;simp[xA,go_sem];exact Ext.refl _
  apply yZ (.int .i64 0) rfl rfl rfl
  ·intro w' hw' hH;clear hH;simp[xA,go_sem];exact Ext.refl _
  apply yZ (.bool false) rfl rfl rfl
  ·intro w' hw' hH;clear hH;simp[xA,go_sem];exact Ext.refl _
  apply xX;intro w1 hx1 hH;simp only[Act.put,yD,yF,yE];have HX:=yG hx1;clear hx1 hH x1 al
  go_wp2_with fail
  refine(JS w1 S.a S.p S.A S.ct S.l i 70 (HRD.out.ext HX.out) HIL.out).mono ?_;rintro e w2 ⟨rfl,rfl⟩;exact xJ (P:=Tryz.prog) (fn:=Tryz.f152) rfl (jS.err HR.out HIL.out HX.out)
 | some k=>
  have HK:=yG hk;have HR:Hid (ofN (tN S.l) i s=.ok (s.set i k)):=yG (by unfold ofN; rw[hk]);clear hk
  go_enter Tryz.func152,Tryz.ntmps152
  go_wp2_with fail
  apply ZP (by kernel_rfl) (by kernel_rfl) (by kernel_rfl);apply yZ (.pointer (some ⟨S.a,0,none⟩)) rfl rfl rfl
  ·intro w' hw' hH;clear hH;simp[xA,go_sem];exact Ext.refl _
  apply yZ (.pointer (some ⟨S.a,0,none⟩)) rfl rfl rfl
  ·intro w' hw' hH;clear hH;simp[xA,go_sem];exact Ext.refl _
  apply yZ (.pointer (some ⟨S.a,1,none⟩)) rfl rfl rfl
  ·intro w' hw' hH;clear hH;simp[xA,go_sem];exact Ext.refl _
  apply yZ (.map (some S.mt)) rfl rfl rfl
  ·intro w' hw' hH;clear hH;have z0:=(hw'.cell (p:=⟨S.a,1,none⟩) al).trans x1;simp[xA,go_sem,z0];exact Ext.refl _
  apply yZ (.pointer (some ⟨S.a,0,none⟩)) rfl rfl rfl
  ·intro w' hw' hH;clear hH;simp[xA,go_sem];exact Ext.refl _
  apply yZ (.int .i64 (i:Int)) rfl rfl rfl
  ·intro w' hw' hH;clear hH;simp[xA,go_sem];exact Ext.refl _
  apply yZ (.agg (vT S.l i)) rfl rfl rfl
  ·intro w' hw' hH;clear hH;simp[xA,go_sem];refine(vW w' S.a S.p S.A S.ct S.l i (HRD.out.ext hw') HIL.out).mono ?_;rintro e w2 ⟨rfl,hx⟩;exact⟨_,rfl,rfl,hx⟩
  apply yZ (.string (xH (xB (tN S.l) i).text)) rfl rfl rfl
  ·intro w' hw' hH;clear hH;simp[xA,go_sem,JB];exact Ext.refl _
  apply yZ (.tuple #[.int .i64 (k:Int),.bool true]) rfl rfl rfl
  ·intro w' hw' hH;clear hH;have hlk:=(HMT.out.ext hw').get (t:=110) (e:=3) (z:=.int .i64 0) Tryz.underlying9 Tryz.underlying110 (by rfl) (xB (tN S.l) i).text HTX.out;rw[HK.out] at hlk;simp only[zBo,Option.map_some,Option.map_none,Option.getD_some,Option.getD_none,Option.isSome_some,Option.isSome_none] at hlk;simp[xA,go_sem,hlk];exact Ext.refl _
  apply yZ (.tuple #[.int .i64 (k:Int),.bool true]) rfl rfl rfl
  ·intro w' hw' hH;clear hH;simp[xA,go_sem];exact Ext.refl _
  apply yZ (.int .i64 (k:Int)) rfl rfl rfl
  ·intro w' hw' hH;clear hH;simp[xA,go_sem];exact Ext.refl _
  apply yZ (.bool true) rfl rfl rfl
  ·intro w' hw' hH;clear hH;simp[xA,go_sem];exact Ext.refl _
  apply yZ (.int .i64 (k:Int)) rfl rfl rfl
  ·intro w' hw' hH;clear hH;simp[xA,go_sem];exact Ext.refl _
  apply yZ (.bool true) rfl rfl rfl
  ·intro w' hw' hH;clear hH;simp[xA,go_sem];exact Ext.refl _
  apply xX;intro w1 hx1 hH;simp only[Act.put,yD,yF,yE];have HX:=yG hx1;clear hx1 hH x1 al
  go_wp2_with fail
  refine(XG w1 (.pointer (some ⟨S.a,0,none⟩)) (i:Int) 70).mono ?_;rintro e w2 ⟨rfl,rfl⟩;have HN1:=yG (HNB.out.ext HX.out);have r0:=HN1.out.rds.r0;have p3:=HN1.out.p3;have co:=HN1.out.zBR i HIL.out;have cz:=HN1.out.ofz i
  have q0:(i:Int)<(S.l.length:Int):=by have:=HIL.out; omega
  have HOK:=yG (HN1.out.zRA HX.out i (k:Int))
  go_wp2_with fail
  go_ret;rw[HR.out];refine⟨?_,HOK.out⟩;have hg:zAL (s.set i (k:Int)) i=(k:Int):=zAm (by rw[HNB.out.len]; exact HIL.out)
  show Ending.returned (.int .i64 (k:Int))=Ending.returned (.int .i64 (zAL (s.set i (k:Int)) i))
  rw[hg]
theorem NB.zUm {w:World}{S:StN}{s:Nr}{R:DyN}(h:NB w S s R)(t:Nat)(x:Nt)(ht:s.xG[t]?=some x) :
  ∃cb co mb,S.Ac=some ⟨cb,co,none⟩∧cb<w.heap.size∧w.cell? ⟨cb,co+t,none⟩=some (.map (some mb))∧MF Tryz.prog 9 w mb 64 fun n=>zBo (x.zAX.findIdx? fun c=>c==n):=by
 obtain⟨hlt,_⟩:=List.getElem?_eq_some_iff.1 ht;have hcl:=h.st.cml;obtain⟨b,off,hA,hb,hcc⟩:=h.st.zAX.cells.at_ (by rw[zCb]; omega)
 have hk:t<S.cm.length:=by omega
 exact⟨b,off,S.cm[t],hA,hb,by rw[hcc t (by rw[zCb]; omega)]; exact zMs _ _ hk,(h.st.zEg t _ x ht (yJ hk)).1⟩
theorem zEb (w:World)(S:StN)(s:Nr)(R:DyN)(i t:Nat)(x:Nt)(ht:s.xG[t]?=some x)(h:NB w S s R)(hi:i<S.l.length) :
  Calls Tryz.prog 151 #[.pointer (some ⟨S.a,0,none⟩),.int .i64 (i:Int),.int .i64 (t:Int)] w (jS w S R (ZI (tN S.l) i (t:Int) s) vU):=by
 have HNB:=yG h;have HRD:=yG h.rds;have HIL:=yG hi;have HTX:Hid ((xB (tN S.l) i).text.length≤maxLen):=yG (h.st.tree.txt i);obtain⟨cb,co,mb,hAc,hcb,hmc,hmf⟩:=h.zUm t x ht;have HMT:=yG hmf;have HCO:Hid (zSC s (t:Int).toNat (xB (tN S.l) i).text=x.zAX.findIdx? fun c=>c==(xB (tN S.l) i).text):=yG (by unfold zSC; rw[zI,ht]; rfl);have htl:=(List.getElem?_eq_some_iff.1 ht).1
 have q1:(t:Int)<(s.xG.length:Int):=by omega
 have x2:=h.x2;rw[hAc] at x2;have al:=h.rd.lt;have xm:=hmc;have cbl:=hcb;clear h hi ht hmf hmc hcb hAc htl
 cases hk:(x.zAX.findIdx? fun c=>c==(xB (tN S.l) i).text) with
 | none=>
  have HK:=yG hk;have HR:Hid (ZI (tN S.l) i (t:Int) s=.err i 70):=yG (by unfold ZI; rw[HCO.out,hk]);clear hk
  go_enter Tryz.func151,Tryz.ntmps151
  go_upto_region 0 with fail
  apply ZP (by kernel_rfl) (by kernel_rfl) (by kernel_rfl);apply yZ (.pointer (some ⟨S.a,0,none⟩)) rfl rfl rfl
  ·intro w' hw' hH;clear hH;simp[xA,go_sem];exact Ext.refl _
  apply yZ (.pointer (some ⟨S.a,0,none⟩)) rfl rfl rfl
  ·intro w' hw' hH;clear hH;simp[xA,go_sem];exact Ext.refl _
  apply yZ (.pointer (some ⟨S.a,2,none⟩)) rfl rfl rfl
  ·intro w' hw' hH;clear hH;simp[xA,go_sem];exact Ext.refl _
  apply yZ (.slice (some ⟨cb,co,none⟩) s.xG.length S.cc) rfl rfl rfl
  ·intro w' hw' hH;clear hH;have z0:=(hw'.cell (p:=⟨S.a,2,none⟩) al).trans x2;simp[xA,go_sem,z0];exact Ext.refl _
  apply yZ (.int .i64 (t:Int)) rfl rfl rfl
  ·intro w' hw' hH;clear hH;simp[xA,go_sem];exact Ext.refl _
  apply yZ (.pointer (some ⟨cb,co+t,none⟩)) rfl rfl rfl
  ·intro w' hw' hH;clear hH;simp[xA,go_sem,q1];exact Ext.refl _
  apply yZ (.map (some mb)) rfl rfl rfl
  ·intro w' hw' hH;clear hH;have z0:=(hw'.cell (p:=⟨cb,co+t,none⟩) cbl).trans xm;simp[xA,go_sem,z0];exact Ext.refl _
  apply yZ (.pointer (some ⟨S.a,0,none⟩)) rfl rfl rfl
  ·intro w' hw' hH;clear hH;simp[xA,go_sem];exact Ext.refl _
  apply yZ (.int .i64 (i:Int)) rfl rfl rfl
  ·intro w' hw' hH;clear hH;simp[xA,go_sem];exact Ext.refl _
  apply yZ (.agg (vT S.l i)) rfl rfl rfl
  ·intro w' hw' hH;clear hH;simp[xA,go_sem];refine(vW w' S.a S.p S.A S.ct S.l i (HRD.out.ext hw') HIL.out).mono ?_;rintro e w2 ⟨rfl,hx⟩;exact⟨_,rfl,rfl,hx⟩
  apply yZ (.string (xH (xB (tN S.l) i).text)) rfl rfl rfl
  ·intro w' hw' hH;clear hH;simp[xA,go_sem,JB];exact Ext.refl _
  apply yZ (.tuple #[.int .i64 0,.bool false]) rfl rfl rfl
  ·intro w' hw' hH;clear hH;have hlk:=(HMT.out.ext hw').get (t:=110) (e:=3) (z:=.int .i64 0) Tryz.underlying9 Tryz.underlying110 (by rfl) (xB (tN S.l) i).text HTX.out;rw[HK.out] at hlk;simp only[zBo,Option.map_some,Option.map_none,Option.getD_some,Option.getD_none,Option.isSome_some,Option.isSome_none] at hlk;simp[xA,go_sem,hlk];exact Ext.refl _
  apply yZ (.tuple #[.int .i64 0,.bool false]) rfl rfl rfl
  ·intro w' hw' hH;clear hH;simp[xA,go_sem];exact Ext.refl _
  apply yZ (.int .i64 0) rfl rfl rfl
  ·intro w' hw' hH;clear hH;simp[xA,go_sem];exact Ext.refl _
  apply yZ (.bool false) rfl rfl rfl
  ·intro w' hw' hH;clear hH;simp[xA,go_sem];exact Ext.refl _
  apply yZ (.int .i64 0) rfl rfl rfl
  ·intro w' hw' hH;clear hH;simp[xA,go_sem];exact Ext.refl _
  apply yZ (.bool false) rfl rfl rfl
  ·intro w' hw' hH;clear hH;simp[xA,go_sem];exact Ext.refl _
  apply xX;intro w1 hx1 hH;simp only[Act.put,yD,yF,yE];have HX:=yG hx1;clear hx1 hH x2 xm al
  go_wp2_with fail
  refine(JS w1 S.a S.p S.A S.ct S.l i 70 (HRD.out.ext HX.out) HIL.out).mono ?_;rintro e w2 ⟨rfl,rfl⟩;exact xJ (P:=Tryz.prog) (fn:=Tryz.f151) rfl (jS.err HR.out HIL.out HX.out)
 | some c=>
  have HK:=yG hk;have HR:Hid (ZI (tN S.l) i (t:Int) s=.ok (s.set i c)):=yG (by unfold ZI; rw[HCO.out,hk]);clear hk
  go_enter Tryz.func151,Tryz.ntmps151
  go_upto_region 0 with fail
  apply ZP (by kernel_rfl) (by kernel_rfl) (by kernel_rfl);apply yZ (.pointer (some ⟨S.a,0,none⟩)) rfl rfl rfl
  ·intro w' hw' hH;clear hH;simp[xA,go_sem];exact Ext.refl _
  apply yZ (.pointer (some ⟨S.a,0,none⟩)) rfl rfl rfl
  ·intro w' hw' hH;clear hH;simp[xA,go_sem];exact Ext.refl _
  apply yZ (.pointer (some ⟨S.a,2,none⟩)) rfl rfl rfl
  ·intro w' hw' hH;clear hH;simp[xA,go_sem];exact Ext.refl _
  apply yZ (.slice (some ⟨cb,co,none⟩) s.xG.length S.cc) rfl rfl rfl
  ·intro w' hw' hH;clear hH;have z0:=(hw'.cell (p:=⟨S.a,2,none⟩) al).trans x2;simp[xA,go_sem,z0];exact Ext.refl _
  apply yZ (.int .i64 (t:Int)) rfl rfl rfl
  ·intro w' hw' hH;clear hH;simp[xA,go_sem];exact Ext.refl _
  apply yZ (.pointer (some ⟨cb,co+t,none⟩)) rfl rfl rfl
  ·intro w' hw' hH;clear hH;simp[xA,go_sem,q1];exact Ext.refl _
  apply yZ (.map (some mb)) rfl rfl rfl
  ·intro w' hw' hH;clear hH;have z0:=(hw'.cell (p:=⟨cb,co+t,none⟩) cbl).trans xm;simp[xA,go_sem,z0];exact Ext.refl _
  apply yZ (.pointer (some ⟨S.a,0,none⟩)) rfl rfl rfl
  ·intro w' hw' hH;clear hH;simp[xA,go_sem];exact Ext.refl _
  apply yZ (.int .i64 (i:Int)) rfl rfl rfl
  ·intro w' hw' hH;clear hH;simp[xA,go_sem];exact Ext.refl _
  apply yZ (.agg (vT S.l i)) rfl rfl rfl
  ·intro w' hw' hH;clear hH;simp[xA,go_sem];refine(vW w' S.a S.p S.A S.ct S.l i (HRD.out.ext hw') HIL.out).mono ?_;rintro e w2 ⟨rfl,hx⟩;exact⟨_,rfl,rfl,hx⟩
  apply yZ (.string (xH (xB (tN S.l) i).text)) rfl rfl rfl
  ·intro w' hw' hH;clear hH;simp[xA,go_sem,JB];exact Ext.refl _
  apply yZ (.tuple #[.int .i64 (c:Int),.bool true]) rfl rfl rfl
  ·intro w' hw' hH;clear hH;have hlk:=(HMT.out.ext hw').get (t:=110) (e:=3) (z:=.int .i64 0) Tryz.underlying9 Tryz.underlying110 (by rfl) (xB (tN S.l) i).text HTX.out;rw[HK.out] at hlk;simp only[zBo,Option.map_some,Option.map_none,Option.getD_some,Option.getD_none,Option.isSome_some,Option.isSome_none] at hlk;simp[xA,go_sem,hlk];exact Ext.refl _
  apply yZ (.tuple #[.int .i64 (c:Int),.bool true]) rfl rfl rfl
  ·intro w' hw' hH;clear hH;simp[xA,go_sem];exact Ext.refl _
  apply yZ (.int .i64 (c:Int)) rfl rfl rfl
  ·intro w' hw' hH;clear hH;simp[xA,go_sem];exact Ext.refl _
  apply yZ (.bool true) rfl rfl rfl
  ·intro w' hw' hH;clear hH;simp[xA,go_sem];exact Ext.refl _
  apply yZ (.int .i64 (c:Int)) rfl rfl rfl
  ·intro w' hw' hH;clear hH;simp[xA,go_sem];exact Ext.refl _
  apply yZ (.bool true) rfl rfl rfl
  ·intro w' hw' hH;clear hH;simp[xA,go_sem];exact Ext.refl _
  apply xX;intro w1 hx1 hH;simp only[Act.put,yD,yF,yE];have HX:=yG hx1;clear hx1 hH x2 xm al q1
  go_wp2_with fail
  refine(XG w1 (.pointer (some ⟨S.a,0,none⟩)) (i:Int) 70).mono ?_;rintro e w2 ⟨rfl,rfl⟩;have HN1:=yG (HNB.out.ext HX.out);have r0:=HN1.out.rds.r0;have p3:=HN1.out.p3;have co:=HN1.out.zBR i HIL.out;have cz:=HN1.out.ofz i
  have q0:(i:Int)<(S.l.length:Int):=by have:=HIL.out; omega
  have HOK:=yG (HN1.out.zRA HX.out i (c:Int))
  go_wp2_with fail
  go_end0;rw[HR.out];exact⟨rfl,HOK.out⟩
structure xU where
 bt:Nat
 ot:Nat
 ct:Nat
 A:Option Addr
 c:Nat
 nh:List (Nd × Hd2)
structure PS (w:World)(p B:Nat)(s:Ps)(R:xU):Prop where
 blk:Blk w p 101 #[.slice (some ⟨R.bt,R.ot,none⟩) s.ts.length R.ct,.slice R.A R.nh.length R.c,.int .i64 (s.deep:Int)]
 zM9:∀k,k<s.ts.length*5→w.cell? ⟨R.bt,R.ot+k,none⟩=(jP s.ts)[k]?
 zID:s.ts.length≤R.ct
 zE8:R.bt<B
 nodes:s.nd=R.nh.map Prod.fst
 ns:NS w B 38 3 R.A R.c R.nh
 pB:B≤p
 xR:zEz s
def xK (p:Nat)(R:xU)(b:Nat):Prop:=b=p∨zHc R.A R.nh b
theorem PS.ext {w w':World}{p B:Nat}{s:Ps}{R:xU}(h:PS w p B s R)(hx:Ext w w'):PS w' p B s R:=
 ⟨h.blk.ext hx,fun k hk=>(hx.cell (p:=⟨R.bt,R.ot+k,none⟩) (yU h.zE8 (Nat.le_trans h.pB (zV h.blk.lt)))).trans (h.zM9 k hk),h.zID,h.zE8,h.nodes,h.ns.ext hx,h.pB,h.xR⟩
theorem PS.len {w:World}{p B:Nat}{s:Ps}{R:xU}(h:PS w p B s R):s.nd.length=R.nh.length:=by rw[h.nodes,yQ]
theorem PS.tok {w:World}{p B:Nat}{s:Ps}{R:xU}(h:PS w p B s R)(j:Nat)(hj:j<5):w.cell? ⟨R.bt,R.ot+j,none⟩=(ZZ s.hd)[j]?:=by
 obtain⟨t,r,hs,ht⟩:=h.xR.hd;have hp:=h.xR.pos;rw[h.zM9 j (by omega),hs,ht]
 show(ZZ t++jP r)[j]?=_
 rw[List.getElem?_append_left (by show j<5; exact hj)]
theorem PS.x0 {w:World}{p B:Nat}{s:Ps}{R:xU}(h:PS w p B s R):w.cell? ⟨p,0,none⟩=some (.slice (some ⟨R.bt,R.ot,none⟩) s.ts.length R.ct):=h.blk.cell 0
theorem PS.x1 {w:World}{p B:Nat}{s:Ps}{R:xU}(h:PS w p B s R):w.cell? ⟨p,1,none⟩=some (.slice R.A R.nh.length R.c):=h.blk.cell 1
theorem PS.x2 {w:World}{p B:Nat}{s:Ps}{R:xU}(h:PS w p B s R):w.cell? ⟨p,2,none⟩=some (.int .i64 (s.deep:Int)):=h.blk.cell 2
theorem PS.t0 {w:World}{p B:Nat}{s:Ps}{R:xU}(h:PS w p B s R):w.cell? ⟨R.bt,R.ot,none⟩=some (.int .u8 (s.hd.kind:Int)):=h.tok 0 (by decide)
theorem PS.t1 {w:World}{p B:Nat}{s:Ps}{R:xU}(h:PS w p B s R):w.cell? ⟨R.bt,R.ot+1,none⟩=some (.int .i64 (s.hd.at_:Int)):=h.tok 1 (by decide)
theorem PS.t2 {w:World}{p B:Nat}{s:Ps}{R:xU}(h:PS w p B s R):w.cell? ⟨R.bt,R.ot+2,none⟩=some (.int .i64 (s.hd.en:Int)):=h.tok 2 (by decide)
theorem PS.t3 {w:World}{p B:Nat}{s:Ps}{R:xU}(h:PS w p B s R):w.cell? ⟨R.bt,R.ot+3,none⟩=some (.string (xH s.hd.text)):=h.tok 3 (by decide)
theorem PS.t4 {w:World}{p B:Nat}{s:Ps}{R:xU}(h:PS w p B s R):w.cell? ⟨R.bt,R.ot+4,none⟩=some (.int .i64 s.hd.n):=h.tok 4 (by decide)
theorem PS.btl {w:World}{p B:Nat}{s:Ps}{R:xU}(h:PS w p B s R):R.bt<w.heap.size:=yU h.zE8 (Nat.le_trans h.pB (zV h.blk.lt))
structure TS (w:World)(p:Nat)(s:Ps)(R:xU):Prop where
 blk:Blk w p 101 #[.slice (some ⟨R.bt,R.ot,none⟩) s.ts.length R.ct,.slice R.A R.nh.length R.c,.int .i64 (s.deep:Int)]
 tok:∀j,j<5→w.cell? ⟨R.bt,R.ot+j,none⟩=(ZZ s.hd)[j]?
 btl:R.bt<w.heap.size
 pos:0<s.ts.length
theorem PS.ts {w:World}{p B:Nat}{s:Ps}{R:xU}(h:PS w p B s R):TS w p s R:=⟨h.blk,h.tok,h.btl,h.xR.pos⟩
theorem TS.grown {w w':World}{p:Nat}{s:Ps}{R:xU}{o:Option Nat}(h:TS w p s R)(hg:w.grownBy w' o)(h1:some p≠o)(h2:some R.bt≠o):TS w' p s R:=
 ⟨(hg.block p h.blk.lt h1).trans h.blk,fun j hj=>(World.cell?_of_block (w:=w) (hg.block R.bt h.btl h2)).trans (h.tok j hj),yU h.btl hg.size,h.pos⟩
theorem ZF (w:World)(p:Nat)(s:Ps)(R:xU)(h:TS w p s R) :
  Calls Tryz.prog 43 #[.pointer (some ⟨p,0,none⟩)] w fun e w'=>e=.returned (.agg (ZZ s.hd).toArray)∧Ext w w':=by
 have x0:w.cell? ⟨p,0,none⟩=some (.slice (some ⟨R.bt,R.ot,none⟩) s.ts.length R.ct):=h.blk.cell 0;have t0:w.cell? ⟨R.bt,R.ot,none⟩=some (.int .u8 (s.hd.kind:Int)):=h.tok 0 (by decide);have t1:w.cell? ⟨R.bt,R.ot+1,none⟩=some (.int .i64 (s.hd.at_:Int)):=h.tok 1 (by decide);have t2:w.cell? ⟨R.bt,R.ot+2,none⟩=some (.int .i64 (s.hd.en:Int)):=h.tok 2 (by decide);have t3:w.cell? ⟨R.bt,R.ot+3,none⟩=some (.string (xH s.hd.text)):=h.tok 3 (by decide);have t4:w.cell? ⟨R.bt,R.ot+4,none⟩=some (.int .i64 s.hd.n):=h.tok 4 (by decide);have hpos:=h.pos
 have q0:(0:Int)<(s.ts.length:Int):=by omega
 have hpl:=h.blk.lt;have hbl:=h.btl;clear h;unfold ZZ;generalize s.hd=t at *;generalize s.ts.length=n at *
 go_enter Tryz.func43,Tryz.ntmps43
 go_wp2
 refine bodyPost_ret (v:=.agg #[.int .u8 (t.kind:Int),.int .i64 (t.at_:Int),.int .i64 (t.en:Int),.string (xH t.text),.int .i64 t.n]) (by simp[results,Tryz.results43,go_sem]) rfl ⟨rfl,?_⟩;exact Ext.alloc _ _
theorem zUb (t:Bs)(s:Ps):isP t s=((s.hd.kind != 4&&s.hd.kind != 2)&&s.hd.text==t):=rfl
theorem XR (w:World)(p B:Nat)(s:Ps)(R:xU)(t:Bs)(b:Bool)(hb:Hid (isP t s=b))(h:PS w p B s R) :
  Calls Tryz.prog 73 #[.pointer (some ⟨p,0,none⟩),.string (xH t)] w fun e w'=>e=.returned (.bool b)∧Ext w w':=by
 have HP:=yG h;clear h;obtain⟨k,hk⟩:∃k,k=s.hd.kind:=⟨_,rfl⟩;obtain⟨x,hx⟩:∃x,x=s.hd.text:=⟨_,rfl⟩;have HB:Hid (((k != 4&&k != 2)&&x==t)=b):=yG (by rw[←hb.out,zUb,hk,hx])
 go_enter Tryz.func73,Tryz.ntmps73
 go_wp2_with fail
 refine(ZF w p s R HP.out.ts).mono ?_;rintro e w1 ⟨rfl,hx1⟩;have HX:=yG hx1;unfold ZZ;rw[←hk,←hx];clear hx1 hk hx
 by_cases h4:k=4
 ·subst h4
  go_wp2_with fail
  go_ret;exact⟨zCr (by rw[←HB.out]; rfl),HX.out.trans (Ext.alloc _ _)⟩
 ·by_cases h2:k=2
  ·subst h2
   go_wp2_with fail
   go_ret;exact⟨zCr (by rw[←HB.out]; rfl),HX.out.trans (Ext.alloc _ _)⟩
  ·have i4:¬(k:Int)=4:=by omega
   have i2:¬(k:Int)=2:=by omega
   have HK:=yG (And.intro h4 h2);clear h4 h2
   go_wp2_with fail
   go_ret;refine⟨zCr ?_,HX.out.trans (Ext.alloc _ _)⟩;rw[←HB.out];simp only[VS];have h4:=HK.out.1;have h2:=HK.out.2
   have a4:((k:Int) != 4)=true:=by rw[zE]; omega
   have a2:((k:Int) != 2)=true:=by rw[zE]; omega
   have b4:(k != 4)=true:=by rw[zE]; omega
   have b2:(k != 2)=true:=by rw[zE]; omega
   rw[a4,a2,b4,b2]
theorem xC.set {w:World}{M:Nat→Prop}{g i:Nat}{u:Value}(h:M g):xC w M (w.setCell ⟨g,i,none⟩ u) M:=
 ⟨rfl,rfl,rfl,by simp[World.setCell],fun b hb hM=>zS w ⟨g,i,none⟩ u b (fun e=>hM (by rw[e]; exact h)),fun b h=>.inl h⟩
def jW (er:Int):Ending:=.panicked [{ v:=.iface 75 (.int .i64 er),recovered:=false }]
theorem xD {P:Program}{fn:Func}{R:Ending→World→Prop}{a:Act}{w:World}{er:Int}(hd:a.defers=[])(h:R (jW er) w):bodyPost P fn R (Exit.panic [{ v:=.iface 75 (.int .i64 er),recovered:=false }]) a w:=⟨hd,h⟩
def OkP (w:World)(p B:Nat)(R:xU)(s':Ps)(w':World):Prop:=∃R',PS w' p B s' R'∧xC w (xK p R) w' (xK p R')
def VD (w:World)(p B:Nat)(R:xU)(er:Int)(at_:Nat)(e:Ending)(w':World):Prop:=e=jW er∧∃s',s'.hd.at_=at_∧OkP w p B R s' w'
def xM (w:World)(p B:Nat)(R:xU)(r:Res Unit)(e:Ending)(w':World):Prop:=
 match r with
 | .ok _ s'=>e=.returned (.tuple #[])∧OkP w p B R s' w'
 | .err er a=>VD w p B R er a e w'
theorem xM.ok {w:World}{p B:Nat}{R:xU}{s':Ps}{w':World}(h:OkP w p B R s' w'):xM w p B R (.ok () s') (.returned (.tuple #[])) w':=⟨rfl,h⟩
theorem xM.err {w:World}{p B:Nat}{R:xU}{er:Int}{a:Nat}{e:Ending}{w':World}(h:VD w p B R er a e w'):xM w p B R (.err er a) e w':=h
theorem OkP.trans {w w1 w2:World}{p B:Nat}{R R1:xU}{s:Ps}(h:xC w (xK p R) w1 (xK p R1))(k:OkP w1 p B R1 s w2):OkP w p B R s w2:=let ⟨R2,a,b⟩:=k; ⟨R2,a,h.trans b⟩
theorem VD.trans {w w1 w2:World}{p B:Nat}{R R1:xU}{er:Int}{a:Nat}{e:Ending}(h:xC w (xK p R) w1 (xK p R1))(k:VD w1 p B R1 er a e w2):VD w p B R er a e w2:=let ⟨x,s,y,z⟩:=k; ⟨x,s,y,OkP.trans h z⟩
theorem xM.trans {w w1 w2:World}{p B:Nat}{R R1:xU}{r:Res Unit}{e:Ending}(h:xC w (xK p R) w1 (xK p R1))(k:xM w1 p B R1 r e w2):xM w p B R r e w2:=by
 cases r with
 | ok a s=>exact⟨k.1,OkP.trans h k.2⟩
 | err er a=>exact VD.trans h k
theorem PS.zTG {w:World}{p B:Nat}{s:Ps}{R:xU}(h:PS w p B s R)(hk:s.hd.kind≠4) :
  PS (w.setCell ⟨p,0,none⟩ (.slice (some ⟨R.bt,R.ot+5,none⟩) (s.ts.length-1) (R.ct-1))) p B s.adv { R with ot:=R.ot+5,ct:=R.ct-1 }:=by
 have hal:=jX (s:=s);obtain⟨t,r,hs,ht⟩:=h.xR.hd;have hpos:=h.xR.pos
 have hkt:s.adv.ts=r:=by show s.ts.tail=r; rw[hs]; rfl
 refine⟨?_,fun k hk'=>?_,?_,h.zE8,h.nodes,?_,h.pB,h.xR.adv hk⟩
 ·have:=h.blk.put 0 (.slice (some ⟨R.bt,R.ot+5,none⟩) (s.ts.length-1) (R.ct-1))
  rw[hal]
  show Blk _ p 101 #[_,_,.int .i64 (s.deep:Int)]
  simpa using this
 ·rw[hkt] at hk' ⊢
  have hne:R.bt≠p:=by have:=h.zE8; have:=h.pB; omega
  rw[World.cell?_of_block (w:=w) (zS w ⟨p,0,none⟩ _ R.bt hne)]
  show w.cell? ⟨R.bt,R.ot+5+k,none⟩=_
  rw[Nat.add_assoc,h.zM9 (5+k) (by rw[hs]; simp only[zK]; omega),hs]
  show(ZZ t++jP r)[5+k]?=_
  rw[List.getElem?_append_right (by show 5≤_; omega)]
  show(jP r)[5+k-5]?=_
  rw[show 5+k-5=k by omega]
 ·have:=h.zID
  show s.adv.ts.length≤R.ct-1
  omega
 ·refine h.ns.jK fun b hb=>zS w ⟨p,0,none⟩ _ b fun e=>?_;rw[e] at hb;exact h.ns.zDn h.blk (by decide) (by decide) hb
theorem zBk (w:World)(p:Nat)(er:Int):Calls Tryz.prog 76 #[.pointer (some ⟨p,0,none⟩),.int .i64 er] w fun e w'=>e=jW er∧w=w':=by
 go_enter Tryz.func76,Tryz.ntmps76
 go_wp2
 exact⟨rfl,rfl,rfl⟩
theorem zAO (w:World)(p B:Nat)(s:Ps)(R:xU)(t:Bs)(hb:Hid (isP t s=false))(h:PS w p B s R) :
  Calls Tryz.prog 110 #[.pointer (some ⟨p,0,none⟩),.string (xH t)] w fun e w'=>e=.returned (.bool false)∧Ext w w':=by
 have HP:=yG h;clear h
 go_enter Tryz.func110,Tryz.ntmps110
 go_wp2_with fail
 refine(XR w p B s R t false hb HP.out).mono ?_;rintro e w1 ⟨rfl,hx1⟩;have HX:=yG hx1;clear hx1
 go_wp2_with fail
 go_ret;exact⟨rfl,HX.out⟩
theorem VH (w:World)(p B:Nat)(s:Ps)(R:xU)(t:Bs)(hb:Hid (isP t s=true))(h:PS w p B s R) :
  Calls Tryz.prog 110 #[.pointer (some ⟨p,0,none⟩),.string (xH t)] w fun e w'=>e=.returned (.bool true)∧OkP w p B R s.adv w':=by
 have HP:=yG h;clear h
 go_enter Tryz.func110,Tryz.ntmps110
 go_wp2_with fail
 refine(XR w p B s R t true hb HP.out).mono ?_;rintro e w1 ⟨rfl,hx1⟩;have HX:=yG hx1;have HP1:=yG (HP.out.ext hx1);have hk:=(vN hb.out).1;have HF:Hid (OkP w p B R s.adv (w1.setCell ⟨p,0,none⟩ (.slice (some ⟨R.bt,R.ot+5,none⟩) (s.ts.length-1) (R.ct-1)))):=yG ⟨_,HP1.out.zTG hk,(xC.ext hx1).trans (xC.set (.inl rfl))⟩
 have h2:2≤s.ts.length:=by
  have hg:=(HP1.out.xR.adv hk).pos;rw[jX] at hg;omega
 have h3:=HP1.out.zID;have x0:=HP1.out.x0;have z0:=HP1.out.blk.frozen 0;clear hx1 hk;generalize s.ts.length=n at *;generalize R.ct=ct at *
 go_wp2_with fail
 go_ret;exact⟨rfl,HF.out⟩
theorem PS.okp {w w':World}{p B:Nat}{s:Ps}{R:xU}(h:PS w p B s R)(hx:Ext w w'):OkP w p B R s w':=⟨R,h.ext hx,xC.ext hx⟩
theorem jG (w:World)(p B:Nat)(s:Ps)(R:xU)(t:Bs)(h:PS w p B s R) :
  Calls Tryz.prog 105 #[.pointer (some ⟨p,0,none⟩),.string (xH t)] w (xM w p B R (vX t s)):=by
 have HP:=yG h;clear h
 cases hi:isP t s with
 | true=>
  have HI:=yG hi;have HT:Hid (vX t s=.ok () s.adv):=yG (by unfold vX; rw[if_pos hi]);clear hi
  go_enter Tryz.func105,Tryz.ntmps105
  go_wp2_with fail
  refine(VH w p B s R t HI HP.out).mono ?_;rintro e w1 ⟨rfl,ho⟩;have HO:=yG ho;clear ho
  go_wp2_with fail
  go_end0;rw[HT.out];exact xM.ok HO.out
 | false=>
  have HI:=yG hi;have HT:Hid (vX t s=.err 50 s.hd.at_):=yG (by unfold vX; rw[hi]; rfl);clear hi
  go_enter Tryz.func105,Tryz.ntmps105
  go_wp2_with fail
  refine(zAO w p B s R t HI HP.out).mono ?_;rintro e w1 ⟨rfl,hx⟩;have HX:=yG hx;clear hx
  go_wp2_with fail
  refine(zBk w1 p 50).mono ?_;rintro e w2 ⟨rfl,rfl⟩;have HE:Hid (xM w p B R (vX t s) (jW 50) w1):=yG (by rw[HT.out]; exact⟨rfl,s,rfl,HP.out.okp HX.out⟩);exact xD rfl HE.out
def zDX (w:World)(p B:Nat)(R:xU)(v:Value)(r:Res Unit)(e:Ending)(w':World):Prop:=
 match r with
 | .ok _ s'=>e=.returned v∧OkP w p B R s' w'
 | .err er a=>VD w p B R er a e w'
theorem PS.jK {w w':World}{p B:Nat}{s:Ps}{R:xU}(h:PS w p B s R)(hk:∀b,b<B∨xK p R b→w'.heap[b]?=w.heap[b]?):PS w' p B s R:=
 ⟨(hk p (.inr (.inl rfl))).trans h.blk,fun k hk'=>(World.cell?_of_block (w:=w) (hk R.bt (.inl h.zE8))).trans (h.zM9 k hk'),h.zID,h.zE8,h.nodes,h.ns.jK fun b hb=>hk b (.inr (.inr hb)),h.pB,h.xR⟩
theorem PS.zDn {w:World}{p B:Nat}{s:Ps}{R:xU}(h:PS w p B s R){g:Nat}{t:TypeId}{cs:Array Value}(hg:Blk w g t cs)(h1:t≠38)(h2:t≠3)(h3:t≠101):¬xK p R g:=by
 rintro (hb | hb)
 ·subst hb; exact Blk.differ hg h.blk h3 rfl
 ·exact h.ns.zDn hg h1 h2 hb
def xU.adv (R:xU):xU:={ R with ot:=R.ot+5,ct:=R.ct-1 }
def OkR (w:World)(p B:Nat)(R R':xU)(s':Ps)(w':World):Prop:=PS w' p B s' R'∧xC w (xK p R) w' (xK p R')
theorem OkR.okp {w:World}{p B:Nat}{R R':xU}{s':Ps}{w':World}(h:OkR w p B R R' s' w'):OkP w p B R s' w':=⟨R',h⟩
theorem OkR.ext {w:World}{p B:Nat}{R R':xU}{s':Ps}{w' w2:World}(h:OkR w p B R R' s' w')(hx:Ext w' w2):OkR w p B R R' s' w2:=⟨h.1.ext hx,h.2.trans (xC.ext hx)⟩
theorem OkR.jR {w W w':World}{p B g:Nat}{R R':xU}{s:Ps}(h:OkR w p B R R' s W)(ht:Touch g W w')(hg:w.heap.size≤g)(hB:B≤w.heap.size)(hn':¬xK p R' g):OkR w p B R R' s w':=by
 obtain⟨a,b⟩:=h;refine⟨a.jK fun k hk=>ht.other k fun e=>?_,?_⟩
 ·subst e
  rcases hk with hk | hk
  ·omega
  ·exact hn' hk
 ·exact⟨ht.os.trans b.os,ht.tape.trans b.tape,ht.output.trans b.output,by rw[ht.size]; exact b.size,fun k hk hM=>(ht.other k (by omega)).trans (b.jK k hk hM),b.zDC⟩
theorem OkP.jR {w W w':World}{p B g:Nat}{R:xU}{s:Ps}(h:OkP w p B R s W)(ht:Touch g W w')(hg:w.heap.size≤g)(hB:B≤w.heap.size)(hn:∀R',PS W p B s R'→¬xK p R' g):OkP w p B R s w':=
 let ⟨R',a⟩:=h
 ⟨R',OkR.jR a ht hg hB (hn R' a.1)⟩
theorem PS.okr {w W:World}{p B:Nat}{s:Ps}{R:xU}(h:PS W p B s R)(hx:Ext w W)(hk:s.hd.kind≠4):OkR w p B R R.adv s.adv (W.setCell ⟨p,0,none⟩ (.slice (some ⟨R.bt,R.ot+5,none⟩) (s.ts.length-1) (R.ct-1))):=
 ⟨h.zTG hk,(xC.ext hx).trans (xC.set (.inl rfl))⟩
theorem zHK (w:World)(p B:Nat)(s:Ps)(R:xU)(k:Nat)(hk:Hid (s.hd.kind=k))(h4:k≠4)(h:PS w p B s R) :
  Calls Tryz.prog 139 #[.pointer (some ⟨p,0,none⟩),.int .u8 (k:Int)] w fun e w'=>e=.returned (.agg (ZZ s.hd).toArray)∧OkR w p B R R.adv s.adv w':=by
 have HP:=yG h;clear h
 go_enter Tryz.func139,Tryz.ntmps139
 go_wp2_with fail
 have HG0:=yG (Blk.new w 104 #[.int .u8 0,.int .i64 0,.int .i64 0,.string ⟨#[]⟩,.int .i64 0]);refine(ZF _ p s R (HP.out.ext (Ext.alloc _ _)).ts).mono ?_;rintro e w1 ⟨rfl,hx1⟩;have HG1:=yG (HG0.out.ext hx1);have HX:=yG ((Ext.alloc _ _).trans hx1)
 have hkk:(s.hd.kind:Int)=(k:Int):=by rw[hk.out]
 have h4':s.hd.kind≠4:=by rw[hk.out]; exact h4
 have HP1:=yG (HP.out.ext HX.out);have HO:=yG (HP1.out.okr HX.out h4');have hpg:p≠w.heap.size:=Nat.ne_of_lt HP.out.blk.lt;have HG2:Hid (Blk (w1.setCell ⟨p,0,none⟩ (.slice (some ⟨R.bt,R.ot+5,none⟩) (s.ts.length-1) (R.ct-1))) w.heap.size 104 #[.int .u8 0,.int .i64 0,.int .i64 0,.string ⟨#[]⟩,.int .i64 0]):=yG (HG1.out.far (p:=⟨p,0,none⟩) (Ne.symm hpg) _);have HBW:Hid (B≤w.heap.size):=yG (Nat.le_trans HP.out.pB (zV HP.out.blk.lt))
 have h2:2≤s.ts.length:=by
  have hg:=(HP1.out.xR.adv h4').pos;rw[jX] at hg;omega
 have h3:=HP1.out.zID;have x0:=HP1.out.x0;have z0:=HP1.out.blk.frozen 0;have hpw:p<w1.heap.size:=HP1.out.blk.lt;unfold ZZ at *;clear hx1 h4'
 go_wp2_with (refine vI rfl 104 (.tmp 4) (.tmp 22) rfl w.heap.size #[.int .u8 (k:Int),.int .i64 (s.hd.at_:Int),.int .i64 (s.hd.en:Int),.string (xH s.hd.text),.int .i64 s.hd.n] (by rfl) (by rfl) 104 _ (HG2.out.ext (Ext.alloc _ _)) (by kernel_rfl) rfl rfl ?_; intro w3 ht3 hb3)
 have HF:=yG ((HO.out.ext (Ext.alloc _ _)).jR ht3 (zX _) HBW.out (HO.out.1.zDn HG2.out (by decide) (by decide) (by decide)));have HB3:=yG hb3;clear ht3 hb3
 go_wp2_with fail
 exact zCG w.heap.size 104 _ _ Tryz.results139 rfl rfl HB3.out Tryz.underlying104 rfl (by kernel_rfl) ⟨by unfold ZZ; rw[hkk],HF.out⟩
theorem zSE (w:World)(p B:Nat)(s:Ps)(R:xU)(k:Nat)(hk:Hid (s.hd.kind≠k))(h:PS w p B s R) :
  Calls Tryz.prog 139 #[.pointer (some ⟨p,0,none⟩),.int .u8 (k:Int)] w (VD w p B R 50 s.hd.at_):=by
 have HP:=yG h;clear h
 go_enter Tryz.func139,Tryz.ntmps139
 go_wp2_with fail
 refine(ZF _ p s R (HP.out.ext (Ext.alloc _ _)).ts).mono ?_;rintro e w1 ⟨rfl,hx1⟩;have HX:=yG ((Ext.alloc _ _).trans hx1)
 have hkk:¬(s.hd.kind:Int)=(k:Int):=by have:=hk.out; omega
 have HF:Hid (∀o,VD w p B R 50 s.hd.at_ (jW 50) (w1.alloc o)):=yG fun o=>⟨rfl,s,rfl,HP.out.okp (HX.out.trans (Ext.alloc _ _))⟩;unfold ZZ;clear hx1
 go_wp2_with fail
 refine(zBk _ p 50).mono ?_;rintro e w2 ⟨rfl,rfl⟩;exact xD rfl (HF.out _)
end Go.Proofs.YtbadjmmjbpeocaaGreat
