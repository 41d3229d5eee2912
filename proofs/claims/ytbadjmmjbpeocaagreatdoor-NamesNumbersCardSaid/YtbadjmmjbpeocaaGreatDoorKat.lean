/- The reader of names: declare, assign. (and what follows of it). The conditions stand at each lemma. -/
import Derived.Test.YtbadjmmjbpeocaaGreatDoorKaa
import Derived.Test.YtbadjmmjbpeocaaGreatDoorKas
import Derived.Test.YtbadjmmjbpeocaaGreatDoorKah
set_option linter.unusedVariables false
set_option linter.unusedSimpArgs false
set_option maxRecDepth 100000
set_option maxHeartbeats 16000000
namespace Go.Proofs.YtbadjmmjbpeocaaGreatDoor
open Go Go.RowKit
theorem zTS:(Tryz.prog.info? 9).map (fun i=>(i.zero,i.size,i.bytes))=some (some (.string ⟨#[]⟩),1,16):=by kernel_rfl
theorem NB.pvc {w:World}{S:StN}{s:Nr}{R:DyN}(h:NB w S s R):w.cell? ⟨S.bp,R.j*5+2,none⟩=some (.slice R.Av s.vars.length R.cv):=by
 rw[h.pr.cell];exact h.pv
theorem zPI (l:List Bs)(x:Bs):strs (l++[x])=strs l++[.string (xI x)]:=by simp[strs]
theorem NB.last {w:World}{S:StN}{s:Nr}{R:DyN}(h:NB w S s R)(hb:s.blocks≠[]):∃(x:List Vr) (rest:List (List Vr)) (b0:Nat) (bs:List Nat) (g:Nat),s.blocks=x::rest∧R.bm=b0::bs∧R.Ab=some ⟨g,0,none⟩∧g<w.heap.size∧w.cell? ⟨g,rest.length,none⟩=some (.map (some b0))∧MF Tryz.prog 9 w b0 s.vars.length (vfV x):=by
 cases hbl:s.blocks with
 | nil=>exact absurd hbl hb
 | cons x rest=>
  have hml:=h.bml;rw[hbl] at hml
  cases hbm:R.bm with
  | nil=>rw[hbm] at hml; cases hml
  | cons b0 bs=>
   rw[hbm] at hml;have hr:=h.blocks;rw[hbl,hbm] at hr
   rcases zAQ hr with e | ⟨g,e⟩
   ·rw[e] at hr
    rcases hr.2 with ⟨_,h0⟩ | ⟨g,_,_,hv,_⟩
    ·simp at h0
    ·cases hv
   ·refine⟨x,rest,b0,bs,g,rfl,rfl,e,(jE hr e).2,?_,h.maps 0 b0 x (by rw[hbl]; rfl) (by rw[hbm]; rfl)⟩;rw[e] at hr;rw[hr.cellAt rest.length (by simp)];simp only[zK,Nat.add_right_cancel_iff] at hml;simp[YK,←hml]
theorem zLh (w:World)(S:StN)(s:Nr)(R:DyN)(i:Nat)(loop:Bool)(h:NB w S s R)(hi:i<S.l.length)(hb:s.blocks≠[])(hbf:s.blocks.length≤100000)(hl:s.vars.length<64) :
  Calls Tryz.prog 62 #[.pointer (some ⟨S.a,0,none⟩),.int .i64 (i:Int),.bool loop] w (jR w S R (vT (tN S.l) i loop s) vU):=by
 have HNB:=yG h;have HRD:=yG h.rds;have HIL:=yG hi;have HTX:Hid ((xC (tN S.l) i).text.length≤maxLen):=yG (h.st.tree.txt i);have HL:=yG hl;obtain⟨x,rest,b0,bs,gb,hbl,hbm,hAb,hgb,hcb,hmf⟩:=h.last hb;have HBL:=yG hbl;have HBM:=yG hbm;have HAB:=yG hAb;have HRF:Hid (rest.length+1≤100000):=yG (by rw[hbl] at hbf; simpa using hbf);have HR:Hid (vT (tN S.l) i loop s=.ok { s.set i s.vars.length with vars:=s.vars++[(xC (tN S.l) i).text],blocks:=(⟨(xC (tN S.l) i).text,s.vars.length,loop⟩::x)::rest }):=yG (by unfold vT; rw[if_pos hl,hbl]; rfl);have hq1:decide ((s.vars.length:Int)<64)=true:=yS (by omega);clear h hi hb hl hbl hbm hAb hgb hcb hmf hbf
 go_enter Tryz.func62,Tryz.ntmps62
 go_wp2_with fail
 refine(vV w S.a S.p S.A S.ct S.l i HRD.out HIL.out).mono ?_;rintro e w1 ⟨rfl,hx1⟩;have HX1:=yG hx1;have HN1:=yG (HNB.out.ext hx1);have f2:=XX S.l i w1;have x3:=HN1.out.x3;have pv:=HN1.out.pvc;clear hx1
 go_wp2_with fail
 refine(XC w1 (.pointer (some ⟨S.a,0,none⟩)) (i:Int) 3).mono ?_;rintro e w2 ⟨rfl,rfl⟩;clear f2;obtain⟨i0,hi0,hz0,hz1,hz2⟩:=info_parts zTS;obtain⟨nm,HNM⟩:∃nm,Hid ((xC (tN S.l) i).text=nm):=⟨_,yG rfl⟩;rw[HNM.out];obtain⟨o,HO⟩:∃o,Hid ((Value.slice R.Av s.vars.length R.cv).ownBlock=o):=⟨_,yG rfl⟩
 have HAN:Hid (some S.a≠o):=yG fun e=>by
  rw[←HO.out] at e;exact(HN1.out.VT _ (xP HN1.out.vars e.symm)).2.1 rfl
 have HPN:Hid (some S.bp≠o):=yG fun e=>by
  rw[←HO.out] at e;exact(HN1.out.VT _ (xP HN1.out.vars e.symm)).2.2.1 rfl
 have HOG:Hid (∀g,o=some g→g<w1.heap.size):=yG fun g e=>by
  rw[←HO.out] at e;exact(jE HN1.out.vars (xP HN1.out.vars e)).2
 have hal:=HN1.out.rd.lt;have hpl:=HN1.out.pr.lt;have HBW:Hid (S.B≤w1.heap.size):=yG HN1.out.low;have HKR:Hid (VS S.B 9 s.vars.length (strs s.vars) (.slice R.Av s.vars.length R.cv) w1):=yG ⟨HN1.out.vars,R.Av,R.cv,rfl,(fun e=>by have hv:=HN1.out.vars; rw[e] at hv; rcases hv.2 with ⟨hv,_⟩ | ⟨g,_,_,hv,_⟩; (injection hv); (cases hv)),HN1.out.vz⟩;have X3:=yG x3;have PV:=yG pv;obtain⟨Fs,HFS⟩:∃Fs,Hid (FsH S.B 9 (.slice R.Av s.vars.length R.cv) w1.heap.size s.vars.length (strs s.vars) [Value.string (xI nm)]=Fs):=⟨_,yG rfl⟩
 have hE:∀F ∈ Fs,∀v w w',F v w→Ext w w'→F v w':=by rw[←HFS.out]; exact zFW _ _ _ _ _ _ _
 have m0:(fun (_:Value) w=>VS S.B 9 s.vars.length (strs s.vars) (.slice R.Av s.vars.length R.cv) w) ∈ Fs:=by rw[←HFS.out]; simp only[FsH,zU,true_or]
 have m1:zBj 9 w1.heap.size #[Value.string (xI nm)] ∈ Fs:=by rw[←HFS.out]; simp only[FsH,zU,true_or,or_true]
 have m2:zJN S.B 9 o w1.heap.size (s.vars.length+1) (strs s.vars++[Value.string (xI nm)]) ∈ Fs:=by rw[←HFS.out,←HO.out]; simp only[FsH,zU,true_or,or_true]
 have HE2:=yG hE;have M0:=yG m0;have M1:=yG m1;have M2:=yG m2;clear hE m0 m1 m2 x3 pv hq1
 go_upto_region 3 with fail
 apply zBd o Fs 16 (by kernel_rfl) (by kernel_rfl) (by kernel_rfl) HE2.out;dsimp only[List.take_succ_cons,List.take_zero,List.drop_succ_cons,List.drop_zero];apply yZ (.pointer (some ⟨S.a,0,none⟩)) rfl rfl rfl
 ·intro w' hw' hH;clear hH hw';simp[xB,go_sem];exact vG.refl _
 apply yZ (.pointer (some ⟨S.a,0,none⟩)) rfl rfl rfl
 ·intro w' hw' hH;clear hH hw';simp[xB,go_sem];exact vG.refl _
 apply yZ (.pointer (some ⟨S.a,3,none⟩)) rfl rfl rfl
 ·intro w' hw' hH;clear hH hw';simp[xB,go_sem];exact vG.refl _
 simp only[Act.put,yD,yE,yF];apply yZ (.pointer (some ⟨S.bp,R.j*5,none⟩)) rfl rfl rfl
 ·intro w' hw' hH;have hR:=vG.refl (o:=o) (Fs:=Fs) w';have cc:=(World.cell?_of_block (w:=w1) (a:=⟨S.a,3,none⟩) (hw'.1.block S.a hal HAN.out)).trans X3.out;clear hH hw';simp[xB,go_sem,cc];exact hR
 apply yZ (.pointer (some ⟨S.a,0,none⟩)) rfl rfl rfl
 ·intro w' hw' hH;clear hH hw';simp[xB,go_sem];exact vG.refl _
 apply yZ (.pointer (some ⟨S.a,0,none⟩)) rfl rfl rfl
 ·intro w' hw' hH;clear hH hw';simp[xB,go_sem];exact vG.refl _
 apply yZ (.pointer (some ⟨S.a,3,none⟩)) rfl rfl rfl
 ·intro w' hw' hH;clear hH hw';simp[xB,go_sem];exact vG.refl _
 simp only[Act.put,yD,yE,yF];apply yZ (.pointer (some ⟨S.bp,R.j*5,none⟩)) rfl rfl rfl
 ·intro w' hw' hH;have hR:=vG.refl (o:=o) (Fs:=Fs) w';have cc:=(World.cell?_of_block (w:=w1) (a:=⟨S.a,3,none⟩) (hw'.1.block S.a hal HAN.out)).trans X3.out;clear hH hw';simp[xB,go_sem,cc];exact hR
 simp only[Act.put,yD,yE,yF];apply yZ (.pointer (some ⟨S.bp,R.j*5,none⟩)) rfl rfl rfl
 ·intro w' hw' hH;clear hH hw';simp[xB,go_sem];exact vG.refl _
 apply yZ (.pointer (some ⟨S.bp,R.j*5+2,none⟩)) rfl rfl rfl
 ·intro w' hw' hH;clear hH hw';simp[xB,go_sem];exact vG.refl _
 simp only[Act.put,yD,yE,yF];apply yZ (.slice R.Av s.vars.length R.cv) rfl rfl rfl
 ·intro w' hw' hH;have hR:=vG.refl (o:=o) (Fs:=Fs) w';have cc:=(World.cell?_of_block (w:=w1) (a:=⟨S.bp,R.j*5+2,none⟩) (hw'.1.block S.bp hpl HPN.out)).trans PV.out;clear hH hw';simp[xB,go_sem,cc];exact hR
 apply yZ (.string (xI nm)) rfl rfl rfl
 ·intro w' hw' hH;clear hH hw';simp[xB,go_sem];exact vG.refl _
 simp only[Act.put,yD,yE,yF];apply vE (zBj 9 w1.heap.size #[Value.string (xI nm)]) (fun v w w' h hx=>hx.2 _ M1.out v h) rfl rfl rfl
 ·intro w' hw' hH;have hz:=hw'.1.size;clear hH hw';simp[xB,go_sem];exact⟨⟨_,rfl,Blk.new _ _ _,hz⟩,vG.ext HE2.out (Ext.alloc _ _)⟩
 intro v37;simp only[Act.put,yD,yE,yF];apply vE (zJN S.B 9 o w1.heap.size (s.vars.length+1) (strs s.vars++[Value.string (xI nm)])) (fun v w w' h hx=>hx.2 _ M2.out v h) rfl rfl rfl
 ·intro w' hw' hH;have hlit:=hH _ (List.mem_cons_self ..) ⟨_,rfl,by decide⟩;have hrow:=hw'.2 _ M0.out undef HKR.out;have hz:=hw'.1.size;clear hH hw';rw[←HFS.out,←HO.out];exact zCK S.B w1.heap.size (.tmp 35) (.tmp 37) 40 rfl 9 i0 _ 16 Tryz.underlying40 hi0 hz0 hz1 hz2 rfl (.slice R.Av s.vars.length R.cv) s.vars.length (strs s.vars) [Value.string (xI nm)] (by kernel_rfl) hrow v37 (by kernel_rfl) hlit rfl (by simp[Value.oneCell']) (by unfold maxLen; have:=HL.out; omega) (by have:=HL.out; omega) (Nat.le_trans HBW.out hz) hz (fun g e=>HOG.out g (by rw[←HO.out]; exact e))
 intro v38;simp only[Act.put,yD,yE,yF];apply yZ (.pointer (some ⟨S.bp,R.j*5,none⟩)) rfl rfl rfl
 ·intro w' hw' hH;clear hH hw';simp[xB,go_sem];exact vG.refl _
 apply yZ (.pointer (some ⟨S.bp,R.j*5+2,none⟩)) rfl rfl rfl
 ·intro w' hw' hH;clear hH hw';simp[xB,go_sem];exact vG.refl _
 apply vC;intro w2 hw2 hH;have h38:=hH _ (List.mem_cons_self ..);clear hH;obtain⟨gk,cap,rfl⟩:=h38.1.at;have hgr:=hw2.1;rw[←HO.out] at hgr;have HGR:=yG hgr;have HOW:=yG h38.1.1
 have HNW:Hid (∀b,(some (⟨gk,0,none⟩:Addr))=some ⟨b,0,none⟩→R.Av=some ⟨b,0,none⟩∨w1.heap.size≤b):=yG fun b e=>by
  injection e with e;injection e with e;subst e
  rcases h38.2 with e | ⟨g',e,hg'⟩
  ·left
   rw[←HO.out] at e;exact xP HN1.out.vars e.symm
  ·right
   have:gk=g':=by simpa [Value.ownBlock] using e
   omega
 have y1:w2.cell? ⟨S.bp,R.j*5+2,none⟩=some (.slice R.Av s.vars.length R.cv):=(World.cell?_of_block (w:=w1) (a:=⟨S.bp,R.j*5+2,none⟩) (hw2.1.block S.bp hpl HPN.out)).trans PV.out;have z1:w2.frozen? ⟨S.bp,R.j*5+2,none⟩=false:=(World.frozen?_of_block (w:=w1) (a:=⟨S.bp,R.j*5+2,none⟩) (hw2.1.block S.bp hpl HPN.out)).trans (HN1.out.pr.frozen _);clear h38 hgr hw2;simp only[Act.put,yD,yE,yF]
 go_upto_region 4 with fail
 clear y1 z1;obtain⟨W3,HW3⟩:∃W3,Hid (w2.setCell ⟨S.bp,R.j*5+2,none⟩ (.slice (some ⟨gk,0,none⟩) (s.vars.length+1) cap)=W3):=⟨_,yG rfl⟩
 have HK3:Hid (∀b,b<w1.heap.size→R.Av≠some ⟨b,0,none⟩→b≠S.bp→W3.heap[b]?=w1.heap[b]?):=yG fun b hb h1 h2=>by
  rw[←HW3.out,zS w2 ⟨S.bp,R.j*5+2,none⟩ _ b h2];exact HGR.out.block b hb fun e=>h1 (xP HN1.out.vars e.symm)
 have HS3:Hid (w1.heap.size≤W3.heap.size):=yG (by rw[←HW3.out]; have:=HGR.out.size; simpa [World.setCell] using this);have hob:=HN1.out.VM gb HAB.out
 have hb0m:b0 ∈ R.bm:=by rw[HBM.out]; exact List.mem_cons_self ..
 have hov:∀b,R.Av=some ⟨b,0,none⟩→b≠S.bo∧b≠S.a∧b≠S.bp∧b≠gb∧b≠b0:=fun b e=>by
  obtain⟨q1,q2,q3,q4,q5⟩:=HN1.out.VT b e;exact⟨q1,q2,q3,fun e2=>q4 (by rw[e2]; exact HAB.out),fun e2=>q5 (by rw[e2]; exact hb0m)⟩
 have hom:=HN1.out.of_map b0 hb0m;obtain⟨nn,ff,hff⟩:=HN1.out.zGN hb0m;have hb0l:=hff.lt;have hgbl:=HN1.out.last (by rw[HBL.out]; simp);obtain⟨x',rest',b0',bs',gb',e1,e2,e3,hgl,hcl,hml⟩:=hgbl;rw[HBL.out] at e1;injection e1 with e1 e1';subst e1 e1';rw[HBM.out] at e2;injection e2 with e2 e2';subst e2 e2';rw[HAB.out] at e3;injection e3 with e3;injection e3 with e3;subst e3
 have x4:W3.cell? ⟨S.a,4,none⟩=some (.slice (some ⟨gb,0,none⟩) (rest.length+1) R.cb):=by
  rw[World.cell?_of_block (w:=w1) (a:=⟨S.a,4,none⟩) (HK3.out S.a hal (fun e=>(hov _ e).2.1 rfl) HN1.out.apart.2.2),HN1.out.x4,HBL.out,HAB.out]
  rfl
 have al3:S.a<W3.heap.size:=yU hal HS3.out;have xb:W3.cell? ⟨gb,rest.length,none⟩=some (.map (some b0)):=(World.cell?_of_block (w:=w1) (a:=⟨gb,rest.length,none⟩) (HK3.out gb hgl (fun e=>(hov _ e).2.2.2.1 rfl) hob.2.2.1)).trans hcl;have gl3:gb<W3.heap.size:=yU hgl HS3.out;have HM3:Hid (MF Tryz.prog 9 W3 b0 s.vars.length (vfV x)):=yG (hml.jL (HK3.out b0 hb0l (fun e=>(hov _ e).2.2.2.2 rfl) hom.2.2));have HOB:=yG hob;have HOM:=yG hom;have HOV:=yG hov;have HB0L:=yG hb0l;have HAL:=yG hal;have HPL:=yG hpl;rw[HW3.out];clear hob hom hov hff hcl hml hgl hb0l hb0m hal hpl;obtain⟨nb,HNB2⟩:∃nb,Hid (rest.length=nb):=⟨_,yG rfl⟩;rw[HNB2.out] at x4 xb HRF;have hnb:=HRF.out;apply xU 16 (by kernel_rfl) (by kernel_rfl) (by kernel_rfl);dsimp only[List.take_succ_cons,List.take_zero,List.drop_succ_cons,List.drop_zero];apply yZ (.pointer (some ⟨S.a,0,none⟩)) rfl rfl rfl
 ·intro w' hw' hH;clear hH;simp[xB,go_sem];exact Ext.refl _
 apply yZ (.pointer (some ⟨S.a,0,none⟩)) rfl rfl rfl
 ·intro w' hw' hH;clear hH;simp[xB,go_sem];exact Ext.refl _
 apply yZ (.pointer (some ⟨S.a,4,none⟩)) rfl rfl rfl
 ·intro w' hw' hH;clear hH;simp[xB,go_sem];exact Ext.refl _
 simp only[Act.put,yD,yE,yF];apply yZ (.slice (some ⟨gb,0,none⟩) (nb+1) R.cb) rfl rfl rfl
 ·intro w' hw' hH;have cc:=(hw'.cell (p:=⟨S.a,4,none⟩) al3).trans x4;clear hH;simp[xB,go_sem,cc];exact Ext.refl _
 apply yZ (.pointer (some ⟨S.a,0,none⟩)) rfl rfl rfl
 ·intro w' hw' hH;clear hH;simp[xB,go_sem];exact Ext.refl _
 apply yZ (.pointer (some ⟨S.a,0,none⟩)) rfl rfl rfl
 ·intro w' hw' hH;clear hH;simp[xB,go_sem];exact Ext.refl _
 apply yZ (.pointer (some ⟨S.a,4,none⟩)) rfl rfl rfl
 ·intro w' hw' hH;clear hH;simp[xB,go_sem];exact Ext.refl _
 simp only[Act.put,yD,yE,yF];apply yZ (.slice (some ⟨gb,0,none⟩) (nb+1) R.cb) rfl rfl rfl
 ·intro w' hw' hH;have cc:=(hw'.cell (p:=⟨S.a,4,none⟩) al3).trans x4;clear hH;simp[xB,go_sem,cc];exact Ext.refl _
 simp only[Act.put,yD,yE,yF];apply yZ (.int .i64 ((nb:Int)+1)) rfl rfl rfl
 ·intro w' hw' hH;clear hH;simp[xB,go_sem];exact Ext.refl _
 simp only[Act.put,yD,yE,yF];apply yZ (.int .i64 (nb:Int)) rfl rfl rfl
 ·intro w' hw' hH;clear hH;simp[xB,go_sem];exact⟨IntWalk.i64_in _ (by omega),Ext.refl _⟩
 simp only[Act.put,yD,yE,yF];apply yZ (.pointer (some ⟨gb,nb,none⟩)) rfl rfl rfl
 ·intro w' hw' hH;clear hH
  have hq:(nb:Int)<(nb:Int)+1:=by omega
  simp[xB,go_sem,hq];exact Ext.refl _
 simp only[Act.put,yD,yE,yF];apply yZ (.map (some b0)) rfl rfl rfl
 ·intro w' hw' hH;have cc:=(hw'.cell (p:=⟨gb,nb,none⟩) gl3).trans xb;clear hH;simp[xB,go_sem,cc];exact Ext.refl _
 simp only[Act.put,yD,yE,yF];apply yZ (.string (xI nm)) rfl rfl rfl
 ·intro w' hw' hH;clear hH;simp[xB,go_sem];exact Ext.refl _
 apply yZ (.int .i64 (s.vars.length:Int)) rfl rfl rfl
 ·intro w' hw' hH;clear hH;simp[xB,go_sem];exact Ext.refl _
 apply yZ (.bool loop) rfl rfl rfl
 ·intro w' hw' hH;clear hH;simp[xB,go_sem];exact Ext.refl _
 simp only[Act.put,yD,yE,yF];apply yZ (.agg #[.int .i64 (s.vars.length:Int),.bool loop]) rfl rfl rfl
 ·intro w' hw' hH;clear hH;simp[xB,go_sem];exact Ext.refl _
 apply vC;intro w3 hx3 hH;clear hH;simp only[Act.put,yD,yE,yF];refine zE2 rfl (.tmp 52) (.tmp 53) (.tmp 56) 184 rfl Tryz.underlying9 Tryz.underlying184 b0 s.vars.length (vfV x) nm (.agg #[.int .i64 (s.vars.length:Int),.bool loop]) (by kernel_rfl) (by kernel_rfl) (by kernel_rfl) (HM3.out.ext hx3) (by have:=HL.out; unfold maxLen; omega) (by rw[←HNM.out]; exact HTX.out) ?_;intro w4 hm4 hg4 hs4;have HG4:Hid (W3.grownBy w4 (some b0)):=yG (zE4 (zAM hx3) hg4);have HM4:=yG hm4
 have HK4:Hid (∀b,b<w1.heap.size→R.Av≠some ⟨b,0,none⟩→b≠S.bp→b≠b0→w4.heap[b]?=w1.heap[b]?):=yG fun b hb h1 h2 h3=>
  (HG4.out.block b (yU hb HS3.out) fun e=>h3 (by injection e)).trans (HK3.out b hb h1 h2)
 have hb0m:b0 ∈ R.bm:=by rw[HBM.out]; exact List.mem_cons_self ..
 have hbp:w4.heap[S.p]?=w1.heap[S.p]?:=HK4.out S.p HN1.out.rds.pl (fun e=>HN1.out.st.prog.2 (.inr (.inr (.inr (.inl e))))) (fun e=>HN1.out.st.prog.2 (.inr (.inr (.inl e)))) (fun e=>HN1.out.st.prog.2 (.inr (.inr (.inr (.inr (.inr (by rw[e]; exact hb0m)))))));have hba:w4.heap[S.a]?=w1.heap[S.a]?:=HK4.out S.a HAL.out (fun e=>(HOV.out _ e).2.1 rfl) HN1.out.apart.2.2 (Ne.symm HOM.out.2.1);have hbo:w4.heap[S.bo]?=w1.heap[S.bo]?:=HK4.out S.bo HN1.out.of.lt (fun e=>(HOV.out _ e).1 rfl) HN1.out.apart.2.1 (Ne.symm HOM.out.1);have r0:w4.cell? ⟨S.a,0,none⟩=some (.pointer (some ⟨S.p,0,none⟩)):=(World.cell?_of_block (w:=w1) (a:=⟨S.a,0,none⟩) hba).trans HN1.out.rds.r0;have p3:w4.cell? ⟨S.p,3,none⟩=some (.slice (some ⟨S.bo,0,none⟩) S.l.length S.co):=(World.cell?_of_block (w:=w1) (a:=⟨S.p,3,none⟩) hbp).trans HN1.out.p3;have co:w4.cell? ⟨S.bo,i,none⟩=some (.int .i64 (zAO s i)):=(World.cell?_of_block (w:=w1) (a:=⟨S.bo,i,none⟩) hbo).trans (HN1.out.zBZ i HIL.out);have cz:w4.frozen? ⟨S.bo,i,none⟩=false:=(World.frozen?_of_block (w:=w1) (a:=⟨S.bo,i,none⟩) hbo).trans (HN1.out.ofz i)
 have q0:(i:Int)<(S.l.length:Int):=by have:=HIL.out; omega
 have HFIN:Hid (jR w S R (vT (tN S.l) i loop s) vU (.returned (.tuple #[])) (w4.setCell ⟨S.bo,i,none⟩ (.int .i64 (s.vars.length:Int)))):=yG (by
  have hg4:=HG4.out;rw[←HW3.out] at hg4;have hd:=HN1.out.declare HL.out i nm loop x rest b0 bs HBL.out HBM.out (by rw[HO.out]; rw[←HO.out]; exact HGR.out) (some ⟨gk,0,none⟩) cap HOW.out HM4.out hg4 HNW.out;rw[HR.out,HNM.out];refine⟨rfl,{ R with pc:=R.pc.setIfInBounds (R.j*5+2) (.slice (some ⟨gk,0,none⟩) (s.vars.length+1) cap),Av:=some ⟨gk,0,none⟩,cv:=cap },⟨rfl,by simp,fun k hk=>?_⟩,hd.1,(xD.ext HX1.out).trans hd.2⟩
  show(R.pc.setIfInBounds (R.j*5+2) _)[k]?=_
  rw[Array.getElem?_setIfInBounds_ne (Ne.symm hk)])
 clear hb0m hbp hba hbo hm4 hg4 hs4 hx3 x4 xb al3 gl3;simp only[Act.put,yD,yE,yF]
 go_wp2_with fail
 go_end0;exact HFIN.out
theorem zMM (w:World)(S:StN)(s:Nr)(R:DyN)(i:Nat)(loop:Bool)(h:NB w S s R)(hi:i<S.l.length)(hl:¬s.vars.length<64) :
  Calls Tryz.prog 62 #[.pointer (some ⟨S.a,0,none⟩),.int .i64 (i:Int),.bool loop] w (jR w S R (vT (tN S.l) i loop s) vU):=by
 have HNB:=yG h;have HRD:=yG h.rds;have HIL:=yG hi;have HR:Hid (vT (tN S.l) i loop s=.err i 3):=yG (by unfold vT; rw[if_neg hl]);have hq1:decide ((s.vars.length:Int)<64)=false:=yR (by omega);clear h hi hl
 go_enter Tryz.func62,Tryz.ntmps62
 go_wp2_with fail
 refine(vV w S.a S.p S.A S.ct S.l i HRD.out HIL.out).mono ?_;rintro e w1 ⟨rfl,hx1⟩;have HX1:=yG hx1;have HN1:=yG (HNB.out.ext hx1);have f2:=XX S.l i w1;have x3:=HN1.out.x3;have pv:=HN1.out.pvc;clear hx1
 go_wp2_with fail
 refine(JP w1 S.a S.p S.A S.ct S.l i 3 HN1.out.rds HIL.out).mono ?_;rintro e w2 ⟨rfl,rfl⟩;exact xK (P:=Tryz.prog) (fn:=Tryz.f62) rfl (jR.err HR.out HIL.out HX1.out)
theorem zDF (w:World)(S:StN)(s:Nr)(R:DyN)(i:Nat)(loop:Bool)(h:NB w S s R)(hi:i<S.l.length)(hb:s.blocks≠[])(hbf:s.blocks.length≤100000) :
  Calls Tryz.prog 62 #[.pointer (some ⟨S.a,0,none⟩),.int .i64 (i:Int),.bool loop] w (jR w S R (vT (tN S.l) i loop s) vU):=by
 by_cases hl:s.vars.length<64
 ·exact zLh w S s R i loop h hi hb hbf hl
 ·exact zMM w S s R i loop h hi hl
theorem zJ0 {w:World}{B:Nat}{t:TypeId}{n c:Nat}{A:Option Addr}{xs:List Value}(h:w.ownsRow B t 1 (.slice A n c) n xs)(hn:xs.length=n):Cells w A xs:=by
 rcases zAQ h with e | ⟨b,e⟩
 ·left
  rw[e] at h
  rcases h.2 with ⟨_,h0⟩ | ⟨g,_,_,hv,_⟩
  ·rw[h0] at hn; exact List.length_eq_zero_iff.1 hn
  ·cases hv
 ·right
  refine⟨b,0,e,(jE h e).2,fun k hk=>?_⟩;rw[Nat.zero_add];rw[e] at h;exact h.cellAt k (by omega)
theorem zOO (s:Nr)(name:Bs):zHf s.blocks.reverse name=VJ s name:=by unfold zHf VJ; rw[List.reverse_reverse]
theorem NB.zEv {w:World}{S:StN}{s:Nr}{R:DyN}(h:NB w S s R)(hbf:s.blocks.length≤100000)(name:Bs)(hn:name.length≤maxLen) :
  Calls Tryz.prog 61 #[.pointer (some ⟨S.a,0,none⟩),.string (xI name)] w fun e w'=>e=.returned (.tuple #[.agg (zFR (VJ s name)),.bool (VJ s name).isSome])∧Ext w w':=by
 have hl:R.bm.reverse.length=s.blocks.length:=by rw[List.length_reverse]; exact h.bml
 have:=zQ5 S.a R.bm.reverse R.Ab R.cb s.blocks.reverse s.vars.length name w (by rw[hl]; exact h.x4) h.rd.lt (zJ0 h.blocks (by rw[zCp]; exact hl)) (by rw[hl]; exact hbf) (by rw[List.length_reverse,hl]) (fun k b x h1 h2=>by
  have k1:=(List.getElem?_eq_some_iff.1 h1).1;have k2:=(List.getElem?_eq_some_iff.1 h2).1;rw[List.length_reverse] at k1 k2;rw[List.getElem?_reverse k1] at h1;rw[List.getElem?_reverse k2,h.bml] at h2
  exact h.maps _ b x h1 h2) hn
 rw[zOO] at this;exact this
theorem zEp (w:World)(S:StN)(s:Nr)(R:DyN)(i:Nat)(h:NB w S s R)(hi:i<S.l.length)(hb:s.blocks≠[])(hbf:s.blocks.length≤100000) :
  Calls Tryz.prog 135 #[.pointer (some ⟨S.a,0,none⟩),.int .i64 (i:Int)] w (jR w S R (ZR (tN S.l) i s) vU):=by
 have HNB:=yG h;have HRD:=yG h.rds;have HIL:=yG hi;have HBN:=yG hb;have HBF:=yG hbf;have HTX:Hid ((xC (tN S.l) i).text.length≤maxLen):=yG (h.st.tree.txt i);clear h hi hb hbf
 go_enter Tryz.func135,Tryz.ntmps135
 go_wp2_with fail
 refine(vV w S.a S.p S.A S.ct S.l i HRD.out HIL.out).mono ?_;rintro e w1 ⟨rfl,hx1⟩;have HX1:=yG hx1;have HN1:=yG (HNB.out.ext hx1);have f2:=XX S.l i w1;clear hx1
 go_wp2_with fail
 refine(HN1.out.zEv HBF.out _ HTX.out).mono ?_;rintro e w2 ⟨rfl,hx2⟩;have HX2:=yG (HX1.out.trans hx2);have HN2:=yG (HN1.out.ext hx2);clear hx2 f2
 cases hf:VJ s (xC (tN S.l) i).text with
 | none=>
  have HR:Hid (ZR (tN S.l) i s=vT (tN S.l) i false s):=yG (by unfold ZR; rw[hf]);simp only[zFR,Option.isSome_none];clear hf
  go_wp2_with fail
  refine(zDF _ S s R i false (HN2.out.ext (Ext.alloc _ _)) HIL.out HBN.out HBF.out).mono ?_;intro e w3 hpost;have hp:=jR.trans (ZO.refl R) (xD.ext (M:=xM S R) (HX2.out.trans (Ext.alloc _ _))) hpost;rw[←HR.out] at hp;clear hpost
  cases hq:ZR (tN S.l) i s with
  | ok s'=>
   rw[hq] at hp;obtain⟨rfl,ho⟩:=hp;have HO:=yG ho;have HQ:=yG hq;clear ho hq;unfold vU
   go_wp2_with fail
   go_end0;rw[HQ.out];exact⟨rfl,HO.out⟩
  | err j er=>
   rw[hq] at hp;obtain⟨rfl,ho⟩:=hp;exact xK (P:=Tryz.prog) (fn:=Tryz.f135) rfl ⟨rfl,ho⟩
 | some v=>
  have HR:Hid (ZR (tN S.l) i s=if v.loop=true then .err i 71 else .ok (s.set i v.n)):=yG (by unfold ZR; rw[hf]);simp only[zFR,Option.isSome_some];clear hf;obtain⟨W3,HW3⟩:∃W3,Hid (w2.alloc (.cells #[.int .i64 (v.n:Int),.bool v.loop] 130)=W3):=⟨_,yG rfl⟩;have HX3:Hid (Ext w2 W3):=yG (by rw[←HW3.out]; exact Ext.alloc _ _);have HB3:Hid (Blk W3 w2.heap.size 130 #[.int .i64 (v.n:Int),.bool v.loop]):=yG (by rw[←HW3.out]; exact Blk.new _ _ _);have HN3:=yG (HN2.out.ext HX3.out);have HXW:=yG (HX2.out.trans HX3.out)
  cases hlp:v.loop with
  | true=>
   rw[hlp] at HW3 HB3 HR;have HR2:Hid (ZR (tN S.l) i s=.err i 71):=yG (by rw[HR.out]; rfl);clear hlp
   go_wp2_with fail
   refine(JP _ S.a S.p S.A S.ct S.l i 71 (HRD.out.ext (HX2.out.trans (Ext.alloc _ _))) HIL.out).mono ?_;rintro e w3 ⟨rfl,rfl⟩;exact xK (P:=Tryz.prog) (fn:=Tryz.f135) rfl (jR.err HR2.out HIL.out (HX2.out.trans (Ext.alloc _ _)))
  | false=>
   rw[hlp] at HW3 HB3 HR;have HR2:Hid (ZR (tN S.l) i s=.ok (s.set i v.n)):=yG (by rw[HR.out]; rfl);clear hlp HR
   go_wp2_with fail
   refine(XC _ (.pointer (some ⟨S.a,0,none⟩)) (i:Int) 71).mono ?_;rintro e w3 ⟨rfl,rfl⟩;rw[HW3.out];have r0:=HN3.out.rds.r0;have al:=HN3.out.rds.al;have pl:=HN3.out.rds.pl;have p3:=HN3.out.p3;have v0:W3.cell? ⟨w2.heap.size,0,none⟩=some (.int .i64 (v.n:Int)):=HB3.out.cell 0;have gl:=HB3.out.lt
   have q0:(i:Int)<(S.l.length:Int):=by have:=HIL.out; omega
   clear HW3
   go_upto_region 4 with fail
   apply xU 11 (by kernel_rfl) (by kernel_rfl) (by kernel_rfl);dsimp only[List.take_succ_cons,List.take_zero,List.drop_succ_cons,List.drop_zero];apply yZ (.pointer (some ⟨S.a,0,none⟩)) rfl rfl rfl
   ·intro w' hw' hH;clear hH;simp[xB,go_sem];exact Ext.refl _
   apply yZ (.pointer (some ⟨S.a,0,none⟩)) rfl rfl rfl
   ·intro w' hw' hH;clear hH;simp[xB,go_sem];exact Ext.refl _
   apply yZ (.pointer (some ⟨S.a,0,none⟩)) rfl rfl rfl
   ·intro w' hw' hH;clear hH;simp[xB,go_sem];exact Ext.refl _
   simp only[Act.put,yD,yE,yF];apply yZ (.pointer (some ⟨S.p,0,none⟩)) rfl rfl rfl
   ·intro w' hw' hH;have cc:=(hw'.cell (p:=⟨S.a,0,none⟩) al).trans r0;clear hH;simp[xB,go_sem,cc];exact Ext.refl _
   simp only[Act.put,yD,yE,yF];apply yZ (.pointer (some ⟨S.p,0,none⟩)) rfl rfl rfl
   ·intro w' hw' hH;clear hH;simp[xB,go_sem];exact Ext.refl _
   apply yZ (.pointer (some ⟨S.p,3,none⟩)) rfl rfl rfl
   ·intro w' hw' hH;clear hH;simp[xB,go_sem];exact Ext.refl _
   simp only[Act.put,yD,yE,yF];apply yZ (.slice (some ⟨S.bo,0,none⟩) S.l.length S.co) rfl rfl rfl
   ·intro w' hw' hH;have cc:=(hw'.cell (p:=⟨S.p,3,none⟩) pl).trans p3;clear hH;simp[xB,go_sem,cc];exact Ext.refl _
   simp only[Act.put,yD,yE,yF];apply yZ (.int .i64 (i:Int)) rfl rfl rfl
   ·intro w' hw' hH;clear hH;simp[xB,go_sem];exact Ext.refl _
   apply yZ (.pointer (some ⟨w2.heap.size,0,none⟩)) rfl rfl rfl
   ·intro w' hw' hH;clear hH;simp[xB,go_sem];exact Ext.refl _
   simp only[Act.put,yD,yE,yF];apply yZ (.int .i64 ((v.n:Int))) rfl rfl rfl
   ·intro w' hw' hH;have cc:=(hw'.cell (p:=⟨w2.heap.size,0,none⟩) gl).trans v0;clear hH;simp[xB,go_sem,cc];exact Ext.refl _
   simp only[Act.put,yD,yE,yF];apply yZ (.pointer (some ⟨S.bo,i,none⟩)) rfl rfl rfl
   ·intro w' hw' hH;clear hH;simp[xB,go_sem,q0];exact Ext.refl _
   apply vC;intro w4 hx4 hH;clear hH;simp only[Act.put,yD,yE,yF];have HN4:=yG (HN3.out.ext hx4);have HOK:=yG (HN4.out.zRC (HXW.out.trans hx4) i (v.n:Int));have co:=HN4.out.zBZ i HIL.out;have cz:=HN4.out.ofz i;clear hx4 r0 al pl p3 v0 gl q0
   go_wp2_with fail
   go_end0;rw[HR2.out];exact⟨rfl,HOK.out⟩
theorem zMY {P:Program}(w:World)(N:Nat)(t ty e:TypeId)(i:TypeInfo)(z:Value)(sz bytes:Nat)(ht:P.underlying t=some (.slice e))(hi:P.info? e=some i)(hz:i.zero=some z)
  (hsize:i.size=sz) (hby:i.bytes=bytes) (hzs:z.cells.size=sz) (A:Option Addr) (n c0:Nat) (xs:List Value) (hown:w.ownsRow N e sz (.slice A n c0) n xs)
  (ad:Addr) (c:Nat) (news:List Value) (hl:news.length=1*sz) (hnews:∀j u,news[j]?=some u→w.cell? (ad.add j)=some u) (h1:∀u ∈ news,u.oneCell'=true)
  (h63:n+1≤maxLen) (hbytes:(n+1)*bytes≤140737488355328) (hN:N≤w.heap.size) :
  ∃A' c' w',(Builtin.append_ #[t,t] ty #[.slice A n c0,.slice (some ad) 1 c]).run P w=.ok (.slice A' (n+1) c') w'∧w'.ownsRow N e sz (.slice A' (n+1) c') (n+1) (xs++news)∧w.grownBy w' (Value.slice A n c0).ownBlock∧(∀b,A'=some ⟨b,0,none⟩→A=some ⟨b,0,none⟩∨w.heap.size≤b):=by
 have hsmall:n+1≤9223372036854775807:=by simp only[maxLen] at h63; omega
 have hlen:(xs++news).length=(n+1)*sz:=by rw[yP,hown.1,hl,Nat.add_mul]
 subst hby
 have grown:∀(old:Nat),old<n+1 →
   (w.drew.alloc (.cells (xs.toArray++news.toArray++Builtin.zeroCells z.cells (grownCap w (n+1) old e-(n+1))) e)).ownsRow N e sz (.slice (some ⟨w.heap.size,0,none⟩) (n+1) (grownCap w (n+1) old e)) (n+1) (xs++news) ∧
   Ext w (w.drew.alloc (.cells (xs.toArray++news.toArray++Builtin.zeroCells z.cells (grownCap w (n+1) old e-(n+1))) e)):=by
  intro old ho;have hge:=grownCap_ge w (n+1) old e;have hcm:grownCap w (n+1) old e≤maxLen:=grownCap_le_maxLen w (n+1) old e h63;refine⟨⟨hlen,.inr ⟨w.heap.size,_,_,rfl,hN,zQ w.drew _,hge,hcm,?_,?_⟩⟩,Ext.trans (Below.drew (Below.refl _ _)) (Ext.alloc _ _)⟩
  ·simp only[Array.size_append,List.size_toArray,size_zeroCells,hzs,hown.1,hl,←Nat.add_mul]
   congr 1
   omega
  ·simp only[Array.toList_append,List.append_assoc];rw[←List.append_assoc,←hlen];exact List.take_left
 have nw:∀b,(some (⟨w.heap.size,0,none⟩:Addr))=some ⟨b,0,none⟩→A=some ⟨b,0,none⟩∨w.heap.size≤b:=fun b e=>by
  injection e with e;injection e with e
  right; omega
 rcases hown.2 with ⟨hv,rfl⟩ | ⟨g,cap,cur,hv,hbg,hg,hnc,hcm,hcs,htake⟩
 ·injection hv with e1 e2 e3;subst e1 e3;have hx:xs=[]:=List.eq_nil_of_length_eq_zero (by simpa using hown.1);subst hx;have hr:=run_append_nil (P:=P) w t ty e i z ht hi hz ad 1 c news (by rw[hsize]; exact hl) hnews (by omega) (by omega) (by have hb:=hbytes; simp only[Nat.zero_add] at hb; omega);have hgr:=grown 0 (by omega);simp only[Nat.zero_add,List.nil_append,Array.empty_append] at hgr ⊢;exact⟨_,_,_,hr,hgr.1,zAM hgr.2,nw⟩
 ·injection hv with e1 e2 e3;subst e1 e3
  by_cases hroom:n+1≤c0
  ·have hfit:n*i.size+news.length≤cur.size:=by rw[hl,hcs,hsize,←Nat.add_mul]; exact Nat.mul_le_mul_right _ hroom
   have hr:=run_append_room (P:=P) w t ty e i ht hi g n c0 cur hg ad 1 c news (by rw[hsize]; exact hl) hnews h1 hroom hfit
   have hsz':(cur.toList.take (n*i.size)++news++cur.toList.drop (n*i.size+news.length)).toArray.size=c0*sz:=by
    simp only[List.size_toArray,yP,List.length_take,List.length_drop,Array.length_toList];omega
   have htk:(cur.toList.take (n*i.size)++news++cur.toList.drop (n*i.size+news.length)).toArray.toList.take ((n+1)*sz)=xs++news:=by
    rw[hsize,htake,←hlen];exact List.take_left
   refine⟨_,_,_,hr,⟨hlen,.inr ⟨g,c0,_,rfl,hbg,setRow_heap w g cur _ e _ hg,hroom,hcm,hsz',htk⟩⟩,⟨rfl,rfl,rfl,by simp,fun k _ hk=>setRow_other w g k _ (fun e=>hk (by rw[e]; rfl))⟩,fun b e=>.inl e⟩
  ·have holds:∀j u,xs[j]?=some u→w.cell? ((⟨g,0,none⟩:Addr).add j)=some u:=hown.cells (g:=g) rfl;have hr:=run_append_grow (P:=P) w t ty e i z ht hi hz ⟨g,0,none⟩ n c0 xs (by rw[hsize]; exact hown.1) holds ad 1 c news (by rw[hsize]; exact hl) hnews (by omega) (by omega) (growslice_fits (by omega) hbytes);have hgr:=grown c0 (by omega);exact⟨_,_,_,hr,hgr.1,zAM hgr.2,nw⟩
theorem zHi {P:Program}{w:World}{ops:Array Oper}{rest:List Oper}{o:Oper}{a:Act}{Q:Exit→Act→World→Prop}(hgd:o.guard=none)(s x:Operand)(t:TypeId)
  (ho:o.op=.call { callee:=.builtin .append,args:=#[s,x],argTypes:=#[t,t] })
  (N:Nat) (e:TypeId) (i:TypeInfo) (z:Value) (sz bytes:Nat) (ht:P.underlying t=some (.slice e)) (hi:P.info? e=some i) (hz:i.zero=some z)
  (hsize:i.size=sz) (hby:i.bytes=bytes) (hzs:z.cells.size=sz) (A:Option Addr) (n c0:Nat) (xs:List Value) (hs:a.eval s=.slice A n c0) (hown:w.ownsRow N e sz (.slice A n c0) n xs)
  (g c:Nat) (news:List Value) (hx:a.eval x=.slice (some ⟨g,0,none⟩) 1 c) (hl:news.length=1*sz) (hb:Blk w g e news.toArray) (h1:∀u ∈ news,u.oneCell'=true)
  (h63:n+1≤maxLen) (hbytes:(n+1)*bytes≤140737488355328) (hN:N≤w.heap.size)
  (h:∀(A':Option Addr) (c':Nat) (w':World),w'.ownsRow N e sz (.slice A' (n+1) c') (n+1) (xs++news)→w.grownBy w' (Value.slice A n c0).ownBlock→(∀b,A'=some ⟨b,0,none⟩→A=some ⟨b,0,none⟩∨w.heap.size≤b)→wpList P ops Q rest (a.put o.dst (.slice A' (n+1) c')) w') :
  wpList P ops Q (o::rest) a w:=by
 refine wpList_plain hgd fun K' hK'=>?_
 obtain⟨A',c',w',hrun,r1,r2,r3⟩:=zMY (P:=P) w N t o.type e i z sz bytes ht hi hz hsize hby hzs A n c0 xs hown ⟨g,0,none⟩ c news hl (fun j u hu=>by
  have:=hb.cell j
  unfold Addr.add;rw[show(news.toArray)[j]?=news[j]? by simp,hu] at this
  by_cases h0:j=0
  ·subst h0; simpa using this
  ·simp only[h0,if_false]; simpa using this) h1 h63 hbytes hN
 unfold Oper.wp execOp;simp only[ho,resolve,invoke,builtin,Sem.run_bind,Sem.run_pure,Result.andThen_ok,List.map_toArray,List.map_cons,List.map_nil,hs,hx,hrun];exact hK' _ _ (h A' c' w' r1 r2 r3)
theorem zSV:(Tryz.prog.info? 184).map (fun i=>(i.zero,i.size,i.bytes))=some (some (.map none),1,8):=by kernel_rfl
theorem zTf {w:World}{B:Nat}{t:TypeId}{s n c m:Nat}{A:Option Addr}{xs:List Value}(h:w.ownsRow B t s (.slice A m c) n xs)(hm:m=n):n≤c:=by
 subst hm
 rcases h.2 with ⟨hv,h0⟩ | ⟨g,cap,cur,hv,_,_,hle,_⟩
 ·omega
 ·injection hv with _ _ e; omega
def zCx (Q:DyN→DyN→Prop)(w:World)(S:StN)(R:DyN)(r:YQ Nr)(v:Nr→Value)(e:Ending)(w':World):Prop:=
 match r with
 | .ok s'=>e=.returned (v s')∧∃R',Q R R'∧NB w' S s' R'∧xD w (xM S R) w' (xM S R')
 | .err i er=>e=XG (YY S.l i) er∧i<S.l.length∧∃M',xD w (xM S R) w' M'
theorem jR.toQ {w w':World}{S:StN}{R:DyN}{r:YQ Nr}{v:Nr→Value}{e:Ending}(h:jR w S R r v e w'):zCx ZO w S R r v e w':=by
 cases r with
 | ok s=>exact h
 | err i er=>exact h
theorem zCx.toN {w w':World}{S:StN}{R:DyN}{r:YQ Nr}{v:Nr→Value}{e:Ending}(h:zCx ZO w S R r v e w'):jR w S R r v e w':=by
 cases r with
 | ok s=>exact h
 | err i er=>exact h
theorem zEt (Q:DyN→DyN→Prop)(hQ:∀R1 R2 R3 R4:DyN,R1.pc=R3.pc→R1.j=R3.j→R2.pc=R4.pc→R2.j=R4.j→Q R1 R2→Q R3 R4)(w:World)(S:StN)(s:Nr)(R:DyN)(K:Nat)(first cap:Array Value)(body:Nn)(h:NB w S s R)(hbf:s.blocks.length+1≤100000)
  (he:∀args w,(callFunc K args).run Tryz.prog w=.ok (.enter K args) w)
  (hkeep:∀s',body { s with blocks:=[]::s.blocks } = .ok s'→s'.blocks≠[]∧s'.blocks.length≤100000)
  (hbody:∀(wr:World) (R':DyN),R'.pc=R.pc→R'.j=R.j→xD w (xM S R) wr (xM S R')→NB wr S { s with blocks:=[]::s.blocks } R'→Calls Tryz.prog K (first++cap) wr (zCx Q wr S R' (body { s with blocks:=[]::s.blocks }) vU)) :
  Calls Tryz.prog 59 #[.pointer (some ⟨S.a,0,none⟩),.func (.func K) first cap] w (zCx Q w S R (jQ body s) vU):=by
 have HQ:=yG hQ;have HNB:=yG h;have HE:=yG he;have HKE:=yG hkeep;have HB:=yG hbody;have HBF:=yG hbf;have x4:=h.x4;have al:=h.rd.lt;obtain⟨i0,hi0,hz0,hz1,hz2⟩:=info_parts zSV;obtain⟨nb,HNL⟩:∃nb,Hid (s.blocks.length=nb):=⟨_,yG rfl⟩;rw[HNL.out] at x4 HBF;have hnb:=HBF.out;have HX1:Hid (Ext w ((w.alloc (.map #[] 0)).alloc (.cells #[.map (some w.heap.size)] 184))):=yG ((Ext.alloc _ _).trans (Ext.alloc _ _))
 have HOW:Hid (((w.alloc (.map #[] 0)).alloc (.cells #[.map (some w.heap.size)] 184)).ownsRow S.B 184 1 (.slice R.Ab nb R.cb) nb (YK R.bm.reverse)):=yG (by
  have:=zCM h.blocks HX1.out
  rw[HNL.out] at this
  exact this)
 have HBK:Hid (Blk ((w.alloc (.map #[] 0)).alloc (.cells #[.map (some w.heap.size)] 184)) (w.heap.size+1) 184 [Value.map (some w.heap.size)].toArray):=yG (by
  have:=Blk.new (w.alloc (.map #[] 0)) 184 #[.map (some w.heap.size)]
  rwa [yT] at this)
 have HLW:Hid (S.B≤((w.alloc (.map #[] 0)).alloc (.cells #[.map (some w.heap.size)] 184)).heap.size):=yG (Nat.le_trans h.low HX1.out.size);clear h he hkeep hbody hbf
 go_enter Tryz.func59,Tryz.ntmps59
 have hmm:=@run_makeMap Tryz.prog
 go_wp2_with (at_builtin; refine zHi rfl (.tmp 8) (.tmp 10) 84 rfl S.B 184 i0 _ 1 8 Tryz.underlying84 hi0 hz0 hz1 hz2 rfl R.Ab nb R.cb (YK R.bm.reverse) rfl HOW.out (w.heap.size+1) 1 [.map (some w.heap.size)] rfl rfl HBK.out (by simp[Value.oneCell']) (by unfold maxLen; omega) (by omega) HLW.out ?_)
 intro A' c' w2 ho2 hg2 hn2
 have HNR:Hid (∀b,A'=some ⟨b,0,none⟩→R.Ab=some ⟨b,0,none⟩∨w.heap.size≤b):=yG fun b e=>by
  rcases hn2 b e with k | k
  ·exact .inl k
  ·exact .inr (by omega)
 have hsa:w2.heap[S.a]?=w.heap[S.a]?:=(hg2.block S.a (yU al HX1.out.size) fun e=>by
  have:=xP (A:=R.Ab) HOW.out e.symm
  exact(HNB.out.VM _ this).2.1 rfl).trans (HX1.out.block S.a al)
 have y4:w2.cell? ⟨S.a,4,none⟩=some (.slice R.Ab nb R.cb):=(World.cell?_of_block (w:=w) (a:=⟨S.a,4,none⟩) hsa).trans x4;have z4:w2.frozen? ⟨S.a,4,none⟩=false:=(World.frozen?_of_block (w:=w) (a:=⟨S.a,4,none⟩) hsa).trans (HNB.out.rd.frozen 4)
 have HP:Hid (NB (w2.setCell ⟨S.a,4,none⟩ (.slice A' (nb+1) c')) S { s with blocks:=[]::s.blocks } { R with Ab:=A',cb:=c',bm:=w.heap.size::R.bm } ∧ xD w (xM S R) (w2.setCell ⟨S.a,4,none⟩ (.slice A' (nb+1) c')) (xM S { R with Ab:=A',cb:=c',bm:=w.heap.size::R.bm })):=yG (by
  have hm:MF Tryz.prog 9 ((w.alloc (.map #[] 0)).alloc (.cells #[.map (some w.heap.size)] 184)) w.heap.size 0 fun _=>none:=(MF.new w).ext (Ext.alloc _ _);have hp:=HNB.out.push HX1.out w.heap.size (zX _) hm (by rw[HNL.out]; exact hg2) A' c' (by rw[HNL.out]; exact ho2) HNR.out;rw[HNL.out] at hp
  exact hp)
 clear ho2 hg2 hn2 hsa x4 al hmm;have he:=HE.out
 go_wp2_with fail
 obtain⟨W3,HW3⟩:∃W3,Hid (w2.setCell ⟨S.a,4,none⟩ (.slice A' (nb+1) c')=W3):=⟨_,yG rfl⟩;obtain⟨R3,HR3⟩:∃R3:DyN,Hid (R3 = { R with Ab:=A',cb:=c',bm:=w.heap.size::R.bm }):=⟨_,yG rfl⟩;rw[←HR3.out] at HP;have HRP:Hid (R3.pc=R.pc∧R3.j=R.j):=yG (by rw[HR3.out]; exact⟨rfl,rfl⟩);rw[HW3.out] at HP ⊢;clear HW3 y4 z4 HR3 HX1 HOW HBK HLW;refine(HB.out W3 R3 HRP.out.1 HRP.out.2 HP.out.2 HP.out.1).mono ?_;intro e w4 hpost
 cases hq:body { s with blocks:=[]::s.blocks } with
 | err j er=>
  rw[hq] at hpost;obtain⟨rfl,hj,M',hm⟩:=hpost
  have HF:Hid (zCx Q w S R (jQ body s) vU (XG (YY S.l j) er) w4):=yG (by
   unfold jQ;rw[hq]
   exact⟨rfl,hj,M',HP.out.2.trans hm⟩)
  exact xK (P:=Tryz.prog) (fn:=Tryz.f59) rfl HF.out
 | ok s4=>
  rw[hq] at hpost;obtain⟨rfl,R4,hq4,hn4,hm4⟩:=hpost;obtain⟨hne,hlen⟩:=HKE.out s4 hq;obtain⟨x,rest,hb4⟩:=List.exists_cons_of_ne_nil hne;have hcp:=zTf hn4.blocks rfl;have y4:=hn4.x4;have z4:=hn4.rd.frozen 4;have al:=hn4.rd.lt
  have HFIN:Hid (∀w5,Ext w4 w5→zCx Q w S R (jQ body s) vU (.returned (.tuple #[])) (w5.setCell ⟨S.a,4,none⟩ (.slice R4.Ab rest.length R4.cb))):=yG (fun w5 hx5=>by
   have hpop:=(hn4.ext hx5).pop x rest hb4;unfold jQ;rw[hq]
   exact⟨rfl,{ R4 with bm:=R4.bm.tail },HQ.out R3 R4 _ _ HRP.out.1 HRP.out.2 rfl rfl hq4,hpop.1,((HP.out.2.trans hm4).trans (xD.ext hx5)).trans hpop.2⟩)
  have HZ4:=yG hn4.rd;rw[hb4] at y4 hcp hlen;simp only[zK] at y4 hcp hlen;obtain⟨nr,HNR2⟩:∃nr,Hid (rest.length=nr):=⟨_,yG rfl⟩;rw[HNR2.out] at y4 hcp HFIN hlen
  obtain⟨gb,hAb⟩:∃gb,R4.Ab=some ⟨gb,0,none⟩:=by
   rcases zAQ hn4.blocks with e | e
   ·exfalso
    have hh:=hn4.blocks;rw[e] at hh
    rcases hh.2 with ⟨_,h0⟩ | ⟨g,_,_,hv,_⟩
    ·rw[hb4] at h0; simp at h0
    ·cases hv
   ·exact e
  rw[hAb] at y4 HFIN;generalize R4.cb=cb4 at *;clear hn4 hm4 hq4 hne hb4 hq he HB HKE hAb;unfold vU
  go_upto_region 2 with fail
  apply xU 14 (by kernel_rfl) (by kernel_rfl) (by kernel_rfl);dsimp only[List.take_succ_cons,List.take_zero,List.drop_succ_cons,List.drop_zero];apply yZ (.pointer (some ⟨S.a,0,none⟩)) rfl rfl rfl
  ·intro w' hw' hH;clear hH;simp[xB,go_sem];exact Ext.refl _
  apply yZ (.pointer (some ⟨S.a,0,none⟩)) rfl rfl rfl
  ·intro w' hw' hH;clear hH;simp[xB,go_sem];exact Ext.refl _
  apply yZ (.pointer (some ⟨S.a,0,none⟩)) rfl rfl rfl
  ·intro w' hw' hH;clear hH;simp[xB,go_sem];exact Ext.refl _
  apply yZ (.pointer (some ⟨S.a,4,none⟩)) rfl rfl rfl
  ·intro w' hw' hH;clear hH;simp[xB,go_sem];exact Ext.refl _
  simp only[Act.put,yD,yE,yF];apply yZ (.slice (some ⟨gb,0,none⟩) (nr+1) cb4) rfl rfl rfl
  ·intro w' hw' hH;have cc:=(hw'.cell (p:=⟨S.a,4,none⟩) al).trans y4;clear hH;simp[xB,go_sem,cc];exact Ext.refl _
  apply yZ (.pointer (some ⟨S.a,0,none⟩)) rfl rfl rfl
  ·intro w' hw' hH;clear hH;simp[xB,go_sem];exact Ext.refl _
  apply yZ (.pointer (some ⟨S.a,0,none⟩)) rfl rfl rfl
  ·intro w' hw' hH;clear hH;simp[xB,go_sem];exact Ext.refl _
  apply yZ (.pointer (some ⟨S.a,4,none⟩)) rfl rfl rfl
  ·intro w' hw' hH;clear hH;simp[xB,go_sem];exact Ext.refl _
  simp only[Act.put,yD,yE,yF];apply yZ (.slice (some ⟨gb,0,none⟩) (nr+1) cb4) rfl rfl rfl
  ·intro w' hw' hH;have cc:=(hw'.cell (p:=⟨S.a,4,none⟩) al).trans y4;clear hH;simp[xB,go_sem,cc];exact Ext.refl _
  simp only[Act.put,yD,yE,yF];apply yZ (.int .i64 ((nr:Int)+1)) rfl rfl rfl
  ·intro w' hw' hH;clear hH;simp[xB,go_sem];exact Ext.refl _
  simp only[Act.put,yD,yE,yF];apply yZ (.int .i64 (nr:Int)) rfl rfl rfl
  ·intro w' hw' hH;clear hH;simp[xB,go_sem];exact⟨IntWalk.i64_in _ (by omega),Ext.refl _⟩
  simp only[Act.put,yD,yE,yF];apply yZ (.slice (some ⟨gb,0,none⟩) nr cb4) rfl rfl rfl
  ·intro w' hw' hH;clear hH
   have q1:(nr:Int)≤(cb4:Int):=by omega
   simp[xB,go_sem,q1];exact Ext.refl _
  simp only[Act.put,yD,yE,yF];apply yZ (.pointer (some ⟨S.a,0,none⟩)) rfl rfl rfl
  ·intro w' hw' hH;clear hH;simp[xB,go_sem];exact Ext.refl _
  apply yZ (.pointer (some ⟨S.a,4,none⟩)) rfl rfl rfl
  ·intro w' hw' hH;clear hH;simp[xB,go_sem];exact Ext.refl _
  apply vC;intro w5 hx5 hH;clear hH;have y5:=(hx5.cell (p:=⟨S.a,4,none⟩) al).trans y4;have z5:=(HZ4.out.ext hx5).frozen 4;have HF5:=yG (HFIN.out w5 hx5);clear hx5 y4 z4 al HFIN;simp only[Act.put,yD,yE,yF,List.drop_succ_cons,List.drop_zero]
  go_wp2_with fail
  go_end0;exact HF5.out
end Go.Proofs.YtbadjmmjbpeocaaGreatDoor
