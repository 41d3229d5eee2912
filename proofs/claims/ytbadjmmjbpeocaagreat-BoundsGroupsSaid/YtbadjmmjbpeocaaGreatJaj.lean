/- The reader of names: declare, assign. (and what follows of it). The conditions stand at each lemma. -/
import Derived.Test.YtbadjmmjbpeocaaGreatJaa
import Derived.Test.YtbadjmmjbpeocaaGreatJag
import Derived.Test.YtbadjmmjbpeocaaGreatJai
import Derived.Deep.Slices
import Derived.Deep.Fields
import Derived.ChangeSame
import Derived.OpenShut
import Derived.ShutString
import Derived.ChangeOld
set_option linter.unusedVariables false
set_option linter.unusedSimpArgs false
set_option maxRecDepth 100000
set_option maxHeartbeats 16000000
namespace Go.Proofs.YtbadjmmjbpeocaaGreat
open Go Go.RowKit
theorem zTy:(Tryz.prog.info? 9).map (fun i=>(i.zero,i.size,i.bytes))=some (some (.string ⟨#[]⟩),1,16):=by kernel_rfl
theorem NB.pvc {w:World}{S:StN}{s:Nr}{R:DyN}(h:NB w S s R):w.cell? ⟨S.bp,R.j*5+2,none⟩=some (.slice R.Av s.vars.length R.cv):=by
 rw[h.pr.cell];exact h.pv
theorem zPD (l:List Bs)(x:Bs):strs (l++[x])=strs l++[.string (xG x)]:=by simp[strs]
theorem NB.last {w:World}{S:StN}{s:Nr}{R:DyN}(h:NB w S s R)(hb:s.blocks≠[]):∃(x:List Vr) (rest:List (List Vr)) (b0:Nat) (bs:List Nat) (g:Nat),s.blocks=x::rest∧R.bm=b0::bs∧R.Ab=some ⟨g,0,none⟩∧g<w.heap.size∧w.cell? ⟨g,rest.length,none⟩=some (.map (some b0))∧MF Tryz.prog 9 w b0 s.vars.length (vfV x):=by
 cases hbl:s.blocks with
 | nil=>exact absurd hbl hb
 | cons x rest=>
  have AA:=h.bml;rw[hbl] at AA
  cases hbm:R.bm with
  | nil=>rw[hbm] at AA; cases AA
  | cons b0 bs=>
   rw[hbm] at AA;have hr:=h.blocks;rw[hbl,hbm] at hr
   rcases zAO hr with e | ⟨g,e⟩
   ·rw[e] at hr
    rcases hr.2 with ⟨_,h0⟩ | ⟨g,_,_,hv,_⟩
    ·simp at h0
    ·cases hv
   ·refine⟨x,rest,b0,bs,g,rfl,rfl,e,(jD hr e).2,?_,h.maps 0 b0 x (by rw[hbl]; rfl) (by rw[hbm]; rfl)⟩;rw[e] at hr;rw[hr.cellAt rest.length (by simp)];simp only[zK,Nat.add_right_cancel_iff] at AA;simp[YL,←AA]
theorem zLq (w:World)(S:StN)(s:Nr)(R:DyN)(i:Nat)(loop:Bool)(h:NB w S s R)(hi:i<S.l.length)(hb:s.blocks≠[])(hbf:s.blocks.length≤100000)(hl:s.vars.length<64) :
  Calls Tryz.prog 88 #[.pointer (some ⟨S.a,0,none⟩),.int .i64 (i:Int),.bool loop] w (jR w S R (jF (tN S.l) i loop s) vU):=by
 have BD:=yG h;have A5:=yG h.rds;have Ad:=yG hi;have BJ:Hid ((yZ (tN S.l) i).text.length≤maxLen):=yG (h.st.tree.txt i);have HL:=yG hl;obtain⟨x,AC,b0,bs,gb,AM,As,Ax,A8,BF,hmf⟩:=h.last hb;have AK:=yG AM;have AR:=yG As;have AL:=yG Ax;have Am:Hid (AC.length+1≤100000):=yG (by rw[AM] at hbf; simpa using hbf);have HR:Hid (jF (tN S.l) i loop s=.ok { s.set i s.vars.length with vars:=s.vars++[(yZ (tN S.l) i).text],blocks:=(⟨(yZ (tN S.l) i).text,s.vars.length,loop⟩::x)::AC }):=yG (by unfold jF; rw[if_pos hl,AM]; rfl);have BK:decide ((s.vars.length:Int)<64)=true:=yS (by omega);clear h hi hb hl AM As Ax A8 BF hmf hbf
 go_enter Tryz.func88,Tryz.ntmps88
 go_wp2_with fail
 refine(vW w S.a S.p S.A S.ct S.l i A5.out Ad.out).mono ?_;rintro e w1 ⟨rfl,Aa⟩;have BH:=yG Aa;have AA:=yG (BD.out.ext Aa);have f2:=XZ S.l i w1;have x3:=AA.out.x3;have pv:=AA.out.pvc;clear Aa
 go_wp2_with fail
 refine(XC w1 (.pointer (some ⟨S.a,0,none⟩)) (i:Int) 3).mono ?_;rintro e w2 ⟨rfl,rfl⟩;clear f2;obtain⟨i0,BB,BE,A3,A4⟩:=info_parts zTy;obtain⟨nm,AY⟩:∃nm,Hid ((yZ (tN S.l) i).text=nm):=⟨_,yG rfl⟩;rw[AY.out];obtain⟨o,HO⟩:∃o,Hid ((Value.slice R.Av s.vars.length R.cv).ownBlock=o):=⟨_,yG rfl⟩
 have Al:Hid (some S.a≠o):=yG fun e=>by
  rw[←HO.out] at e;exact(AA.out.VP _ (xP AA.out.vars e.symm)).2.1 rfl
 have AU:Hid (some S.bp≠o):=yG fun e=>by
  rw[←HO.out] at e;exact(AA.out.VP _ (xP AA.out.vars e.symm)).2.2.1 rfl
 have BC:Hid (∀g,o=some g→g<w1.heap.size):=yG fun g e=>by
  rw[←HO.out] at e;exact(jD AA.out.vars (xP AA.out.vars e)).2
 have AF:=AA.out.rd.lt;have AI:=AA.out.pr.lt;have A9:Hid (S.B≤w1.heap.size):=yG AA.out.low;have BN:Hid (VO S.B 9 s.vars.length (strs s.vars) (.slice R.Av s.vars.length R.cv) w1):=yG ⟨AA.out.vars,R.Av,R.cv,rfl,(fun e=>by have hv:=AA.out.vars; rw[e] at hv; rcases hv.2 with ⟨hv,_⟩ | ⟨g,_,_,hv,_⟩; (injection hv); (cases hv)),AA.out.vz⟩;have X3:=yG x3;have PV:=yG pv;obtain⟨Fs,AJ⟩:∃Fs,Hid (FsH S.B 9 (.slice R.Av s.vars.length R.cv) w1.heap.size s.vars.length (strs s.vars) [Value.string (xG nm)]=Fs):=⟨_,yG rfl⟩
 have hE:∀F ∈ Fs,∀v w w',F v w→Ext w w'→F v w':=by rw[←AJ.out]; exact zF1 _ _ _ _ _ _ _
 have m0:(fun (_:Value) w=>VO S.B 9 s.vars.length (strs s.vars) (.slice R.Av s.vars.length R.cv) w) ∈ Fs:=by rw[←AJ.out]; simp only[FsH,zU,true_or]
 have m1:zBf 9 w1.heap.size #[Value.string (xG nm)] ∈ Fs:=by rw[←AJ.out]; simp only[FsH,zU,true_or,or_true]
 have m2:zJB S.B 9 o w1.heap.size (s.vars.length+1) (strs s.vars++[Value.string (xG nm)]) ∈ Fs:=by rw[←AJ.out,←HO.out]; simp only[FsH,zU,true_or,or_true]
 have Aw:=yG hE;have M0:=yG m0;have M1:=yG m1;have M2:=yG m2;clear hE m0 m1 m2 x3 pv BK
 go_upto_region 3 with fail
 apply zA9 o Fs 16 (by kernel_rfl) (by kernel_rfl) (by kernel_rfl) Aw.out;dsimp only[List.take_succ_cons,List.take_zero,List.drop_succ_cons,List.drop_zero];apply sG vF.refl (.pointer (some ⟨S.a,0,none⟩));apply sG vF.refl (.pointer (some ⟨S.a,0,none⟩));apply sG vF.refl (.pointer (some ⟨S.a,3,none⟩));apply xB (.pointer (some ⟨S.bp,R.j*5,none⟩)) rfl rfl rfl
 ·intro w' AB hH;have hR:=vF.refl (o:=o) (Fs:=Fs) w';have cc:=(World.cell?_of_block (w:=w1) (a:=⟨S.a,3,none⟩) (AB.1.block S.a AF Al.out)).trans X3.out;clear hH AB;simp[xA,go_sem,cc];exact hR
 apply sG vF.refl (.pointer (some ⟨S.a,0,none⟩));apply sG vF.refl (.pointer (some ⟨S.a,0,none⟩));apply sG vF.refl (.pointer (some ⟨S.a,3,none⟩));apply xB (.pointer (some ⟨S.bp,R.j*5,none⟩)) rfl rfl rfl
 ·intro w' AB hH;have hR:=vF.refl (o:=o) (Fs:=Fs) w';have cc:=(World.cell?_of_block (w:=w1) (a:=⟨S.a,3,none⟩) (AB.1.block S.a AF Al.out)).trans X3.out;clear hH AB;simp[xA,go_sem,cc];exact hR
 (try simp only[Act.put,yD,yE,yF]);apply sG vF.refl (.pointer (some ⟨S.bp,R.j*5,none⟩))
 apply sG vF.refl (.pointer (some ⟨S.bp,R.j*5+2,none⟩));apply xB (.slice R.Av s.vars.length R.cv) rfl rfl rfl
 ·intro w' AB hH;have hR:=vF.refl (o:=o) (Fs:=Fs) w';have cc:=(World.cell?_of_block (w:=w1) (a:=⟨S.bp,R.j*5+2,none⟩) (AB.1.block S.bp AI AU.out)).trans PV.out;clear hH AB;simp[xA,go_sem,cc];exact hR
 apply sG vF.refl (.string (xG nm));apply xZ (zBf 9 w1.heap.size #[Value.string (xG nm)]) (fun v w w' h hx=>hx.2 _ M1.out v h) rfl rfl rfl
 ·intro w' AB hH;have hz:=AB.1.size;clear hH AB;simp[xA,go_sem];exact⟨⟨_,rfl,Blk.new _ _ _,hz⟩,vF.ext Aw.out (Ext.alloc _ _)⟩
 intro BG;(try simp only[Act.put,yD,yE,yF]);apply xZ (zJB S.B 9 o w1.heap.size (s.vars.length+1) (strs s.vars++[Value.string (xG nm)])) (fun v w w' h hx=>hx.2 _ M2.out v h) rfl rfl rfl
 ·intro w' AB hH;have Ah:=hH _ (List.mem_cons_self ..) ⟨_,rfl,by decide⟩;have AS:=AB.2 _ M0.out undef BN.out;have hz:=AB.1.size;clear hH AB;rw[←AJ.out,←HO.out];exact zCz S.B w1.heap.size (.tmp 35) (.tmp 37) 82 rfl 9 i0 _ 16 Tryz.underlying82 BB BE A3 A4 rfl (.slice R.Av s.vars.length R.cv) s.vars.length (strs s.vars) [Value.string (xG nm)] (by kernel_rfl) AS BG (by kernel_rfl) Ah rfl (by simp[Value.oneCell']) (by unfold maxLen; have:=HL.out; omega) (by have:=HL.out; omega) (Nat.le_trans A9.out hz) hz (fun g e=>BC.out g (by rw[←HO.out]; exact e))
 intro BV;(try simp only[Act.put,yD,yE,yF]);apply sG vF.refl (.pointer (some ⟨S.bp,R.j*5,none⟩));apply sG vF.refl (.pointer (some ⟨S.bp,R.j*5+2,none⟩));apply xR;intro w2 AN hH;have AQ:=hH _ (List.mem_cons_self ..);clear hH;obtain⟨gk,cap,rfl⟩:=AQ.1.at;have Ae:=AN.1;rw[←HO.out] at Ae;have Ak:=yG Ae;have BA:=yG AQ.1.1
 have BL:Hid (∀b,(some (⟨gk,0,none⟩:Addr))=some ⟨b,0,none⟩→R.Av=some ⟨b,0,none⟩∨w1.heap.size≤b):=yG fun b e=>by
  injection e with e;injection e with e;subst e
  rcases AQ.2 with e | ⟨g',e,BQ⟩
  ·left
   rw[←HO.out] at e;exact xP AA.out.vars e.symm
  ·right
   have:gk=g':=by simpa [Value.ownBlock] using e
   omega
 have y1:w2.cell? ⟨S.bp,R.j*5+2,none⟩=some (.slice R.Av s.vars.length R.cv):=(World.cell?_of_block (w:=w1) (a:=⟨S.bp,R.j*5+2,none⟩) (AN.1.block S.bp AI AU.out)).trans PV.out;have z1:w2.frozen? ⟨S.bp,R.j*5+2,none⟩=false:=(World.frozen?_of_block (w:=w1) (a:=⟨S.bp,R.j*5+2,none⟩) (AN.1.block S.bp AI AU.out)).trans (AA.out.pr.frozen _);clear AQ Ae AN;(try simp only[Act.put,yD,yE,yF])
 go_upto_region 4 with fail
 clear y1 z1;obtain⟨W3,AP⟩:∃W3,Hid (w2.setCell ⟨S.bp,R.j*5+2,none⟩ (.slice (some ⟨gk,0,none⟩) (s.vars.length+1) cap)=W3):=⟨_,yG rfl⟩
 have AO:Hid (∀b,b<w1.heap.size→R.Av≠some ⟨b,0,none⟩→b≠S.bp→W3.heap[b]?=w1.heap[b]?):=yG fun b hb h1 h2=>by
  rw[←AP.out,zS w2 ⟨S.bp,R.j*5+2,none⟩ _ b h2];exact Ak.out.block b hb fun e=>h1 (xP AA.out.vars e.symm)
 have AV:Hid (w1.heap.size≤W3.heap.size):=yG (by rw[←AP.out]; have:=Ak.out.size; simpa [World.setCell] using this);have AX:=AA.out.VI gb AL.out
 have AD:b0 ∈ R.bm:=by rw[AR.out]; exact List.mem_cons_self ..
 have AH:∀b,R.Av=some ⟨b,0,none⟩→b≠S.bo∧b≠S.a∧b≠S.bp∧b≠gb∧b≠b0:=fun b e=>by
  obtain⟨q1,q2,q3,q4,q5⟩:=AA.out.VP b e;exact⟨q1,q2,q3,fun e2=>q4 (by rw[e2]; exact AL.out),fun e2=>q5 (by rw[e2]; exact AD)⟩
 have Ac:=AA.out.of_map b0 AD;obtain⟨nn,ff,An⟩:=AA.out.zGL AD;have AE:=An.lt;have AT:=AA.out.last (by rw[AK.out]; simp);obtain⟨x',Az,BT,BR,BW,e1,e2,e3,AW,Ap,Ay⟩:=AT;rw[AK.out] at e1;injection e1 with e1 e1';subst e1 e1';rw[AR.out] at e2;injection e2 with e2 e2';subst e2 e2';rw[AL.out] at e3;injection e3 with e3;injection e3 with e3;subst e3
 have x4:W3.cell? ⟨S.a,4,none⟩=some (.slice (some ⟨gb,0,none⟩) (AC.length+1) R.cb):=by
  rw[World.cell?_of_block (w:=w1) (a:=⟨S.a,4,none⟩) (AO.out S.a AF (fun e=>(AH _ e).2.1 rfl) AA.out.apart.2.2),AA.out.x4,AK.out,AL.out]
  rfl
 have Aj:S.a<W3.heap.size:=yU AF AV.out;have xb:W3.cell? ⟨gb,AC.length,none⟩=some (.map (some b0)):=(World.cell?_of_block (w:=w1) (a:=⟨gb,AC.length,none⟩) (AO.out gb AW (fun e=>(AH _ e).2.2.2.1 rfl) AX.2.2.1)).trans Ap;have Ao:gb<W3.heap.size:=yU AW AV.out;have A2:Hid (MF Tryz.prog 9 W3 b0 s.vars.length (vfV x)):=yG (Ay.jL (AO.out b0 AE (fun e=>(AH _ e).2.2.2.2 rfl) Ac.2.2));have BS:=yG AX;have Au:=yG Ac;have Aq:=yG AH;have A6:=yG AE;have A7:=yG AF;have BP:=yG AI;rw[AP.out];clear AX Ac AH An Ap Ay AW AE AD AF AI;obtain⟨nb,Ab⟩:∃nb,Hid (AC.length=nb):=⟨_,yG rfl⟩;rw[Ab.out] at x4 xb Am;have BU:=Am.out;apply xN 16 (by kernel_rfl) (by kernel_rfl) (by kernel_rfl);dsimp only[List.take_succ_cons,List.take_zero,List.drop_succ_cons,List.drop_zero];apply sQ (.pointer (some ⟨S.a,0,none⟩));apply sQ (.pointer (some ⟨S.a,0,none⟩));apply sQ (.pointer (some ⟨S.a,4,none⟩));apply sL x4 Aj (.slice (some ⟨gb,0,none⟩) (nb+1) R.cb);apply sQ (.pointer (some ⟨S.a,0,none⟩));apply sQ (.pointer (some ⟨S.a,0,none⟩));apply sQ (.pointer (some ⟨S.a,4,none⟩));apply sL x4 Aj (.slice (some ⟨gb,0,none⟩) (nb+1) R.cb);apply sQ (.int .i64 ((nb:Int)+1));apply xB (.int .i64 (nb:Int)) rfl rfl rfl
 ·intro w' AB hH;clear hH;simp[xA,go_sem];exact⟨IntWalk.i64_in _ (by omega),Ext.refl _⟩
 (try simp only[Act.put,yD,yE,yF]);apply xB (.pointer (some ⟨gb,nb,none⟩)) rfl rfl rfl
 ·intro w' AB hH;clear hH
  have hq:(nb:Int)<(nb:Int)+1:=by omega
  simp[xA,go_sem,hq];exact Ext.refl _
 (try simp only[Act.put,yD,yE,yF]);apply sL xb Ao (.map (some b0))
 apply sQ (.string (xG nm));apply sQ (.int .i64 (s.vars.length:Int));apply sQ (.bool loop);apply sQ (.agg #[.int .i64 (s.vars.length:Int),.bool loop]);apply xR;intro w3 Af hH;clear hH;(try simp only[Act.put,yD,yE,yF]);refine zFc rfl (.tmp 52) (.tmp 53) (.tmp 56) 201 rfl Tryz.underlying9 Tryz.underlying201 b0 s.vars.length (vfV x) nm (.agg #[.int .i64 (s.vars.length:Int),.bool loop]) (by kernel_rfl) (by kernel_rfl) (by kernel_rfl) (A2.out.ext Af) (by have:=HL.out; unfold maxLen; omega) (by rw[←AY.out]; exact BJ.out) ?_;intro w4 A1 AG BO;have A0:Hid (W3.grownBy w4 (some b0)):=yG (zFe (zAK Af) AG);have BM:=yG A1
 have Ag:Hid (∀b,b<w1.heap.size→R.Av≠some ⟨b,0,none⟩→b≠S.bp→b≠b0→w4.heap[b]?=w1.heap[b]?):=yG fun b hb h1 h2 h3=>
  (A0.out.block b (yU hb AV.out) fun e=>h3 (by injection e)).trans (AO.out b hb h1 h2)
 have AD:b0 ∈ R.bm:=by rw[AR.out]; exact List.mem_cons_self ..
 have At:w4.heap[S.p]?=w1.heap[S.p]?:=Ag.out S.p AA.out.rds.pl (fun e=>AA.out.st.prog.2 (.inr (.inr (.inr (.inl e))))) (fun e=>AA.out.st.prog.2 (.inr (.inr (.inl e)))) (fun e=>AA.out.st.prog.2 (.inr (.inr (.inr (.inr (.inr (by rw[e]; exact AD)))))));have Ar:w4.heap[S.a]?=w1.heap[S.a]?:=Ag.out S.a A7.out (fun e=>(Aq.out _ e).2.1 rfl) AA.out.apart.2.2 (Ne.symm Au.out.2.1);have AZ:w4.heap[S.bo]?=w1.heap[S.bo]?:=Ag.out S.bo AA.out.of.lt (fun e=>(Aq.out _ e).1 rfl) AA.out.apart.2.1 (Ne.symm Au.out.1);have r0:w4.cell? ⟨S.a,0,none⟩=some (.pointer (some ⟨S.p,0,none⟩)):=(World.cell?_of_block (w:=w1) (a:=⟨S.a,0,none⟩) Ar).trans AA.out.rds.r0;have p3:w4.cell? ⟨S.p,3,none⟩=some (.slice (some ⟨S.bo,0,none⟩) S.l.length S.co):=(World.cell?_of_block (w:=w1) (a:=⟨S.p,3,none⟩) At).trans AA.out.p3;have co:w4.cell? ⟨S.bo,i,none⟩=some (.int .i64 (zCQ s i)):=(World.cell?_of_block (w:=w1) (a:=⟨S.bo,i,none⟩) AZ).trans (AA.out.zBP i Ad.out);have cz:w4.frozen? ⟨S.bo,i,none⟩=false:=(World.frozen?_of_block (w:=w1) (a:=⟨S.bo,i,none⟩) AZ).trans (AA.out.ofz i)
 have q0:(i:Int)<(S.l.length:Int):=by have:=Ad.out; omega
 have Ai:Hid (jR w S R (jF (tN S.l) i loop s) vU (.returned (.tuple #[])) (w4.setCell ⟨S.bo,i,none⟩ (.int .i64 (s.vars.length:Int)))):=yG (by
  have AG:=A0.out;rw[←AP.out] at AG;have hd:=AA.out.declare HL.out i nm loop x AC b0 bs AK.out AR.out (by rw[HO.out]; rw[←HO.out]; exact Ak.out) (some ⟨gk,0,none⟩) cap BA.out BM.out AG BL.out;rw[HR.out,AY.out];refine⟨rfl,{ R with pc:=R.pc.setIfInBounds (R.j*5+2) (.slice (some ⟨gk,0,none⟩) (s.vars.length+1) cap),Av:=some ⟨gk,0,none⟩,cv:=cap },⟨rfl,by simp,fun k hk=>?_⟩,hd.1,(xC.ext BH.out).trans hd.2⟩
  show(R.pc.setIfInBounds (R.j*5+2) _)[k]?=_
  rw[Array.getElem?_setIfInBounds_ne (Ne.symm hk)])
 clear AD At Ar AZ A1 AG BO Af x4 xb Aj Ao;(try simp only[Act.put,yD,yE,yF])
 go_wp2_with fail
 go_end0;exact Ai.out
theorem zMT (w:World)(S:StN)(s:Nr)(R:DyN)(i:Nat)(loop:Bool)(h:NB w S s R)(hi:i<S.l.length)(hl:¬s.vars.length<64) :
  Calls Tryz.prog 88 #[.pointer (some ⟨S.a,0,none⟩),.int .i64 (i:Int),.bool loop] w (jR w S R (jF (tN S.l) i loop s) vU):=by
 have AE:=yG h;have AF:=yG h.rds;have AC:=yG hi;have HR:Hid (jF (tN S.l) i loop s=.err i 3):=yG (by unfold jF; rw[if_neg hl]);have AG:decide ((s.vars.length:Int)<64)=false:=yR (by omega);clear h hi hl
 go_enter Tryz.func88,Tryz.ntmps88
 go_wp2_with fail
 refine(vW w S.a S.p S.A S.ct S.l i AF.out AC.out).mono ?_;rintro e w1 ⟨rfl,AB⟩;have AD:=yG AB;have AA:=yG (AE.out.ext AB);have f2:=XZ S.l i w1;have x3:=AA.out.x3;have pv:=AA.out.pvc;clear AB
 go_wp2_with fail
 refine(JW w1 S.a S.p S.A S.ct S.l i 3 AA.out.rds AC.out).mono ?_;rintro e w2 ⟨rfl,rfl⟩;exact xJ (P:=Tryz.prog) (fn:=Tryz.f88) rfl (jR.err HR.out AC.out AD.out)
theorem zDQ (w:World)(S:StN)(s:Nr)(R:DyN)(i:Nat)(loop:Bool)(h:NB w S s R)(hi:i<S.l.length)(hb:s.blocks≠[])(hbf:s.blocks.length≤100000) :
  Calls Tryz.prog 88 #[.pointer (some ⟨S.a,0,none⟩),.int .i64 (i:Int),.bool loop] w (jR w S R (jF (tN S.l) i loop s) vU):=by
 by_cases hl:s.vars.length<64
 ·exact zLq w S s R i loop h hi hb hbf hl
 ·exact zMT w S s R i loop h hi hl
theorem zJ8 {w:World}{B:Nat}{t:TypeId}{n c:Nat}{A:Option Addr}{xs:List Value}(h:w.ownsRow B t 1 (.slice A n c) n xs)(hn:xs.length=n):Cells w A xs:=by
 rcases zAO h with e | ⟨b,e⟩
 ·left
  rw[e] at h
  rcases h.2 with ⟨_,h0⟩ | ⟨g,_,_,hv,_⟩
  ·rw[h0] at hn; exact List.length_eq_zero_iff.1 hn
  ·cases hv
 ·right
  refine⟨b,0,e,(jD h e).2,fun k hk=>?_⟩;rw[Nat.zero_add];rw[e] at h;exact h.cellAt k (by omega)
theorem zOR (s:Nr)(name:Bs):zHc s.blocks.reverse name=zA3 s name:=by unfold zHc zA3; rw[List.reverse_reverse]
theorem NB.zED {w:World}{S:StN}{s:Nr}{R:DyN}(h:NB w S s R)(hbf:s.blocks.length≤100000)(name:Bs)(hn:name.length≤maxLen) :
  Calls Tryz.prog 87 #[.pointer (some ⟨S.a,0,none⟩),.string (xG name)] w fun e w'=>e=.returned (.tuple #[.agg (zFY (zA3 s name)),.bool (zA3 s name).isSome])∧Ext w w':=by
 have hl:R.bm.reverse.length=s.blocks.length:=by rw[List.length_reverse]; exact h.bml
 have:=zQ1 S.a R.bm.reverse R.Ab R.cb s.blocks.reverse s.vars.length name w (by rw[hl]; exact h.x4) h.rd.lt (zJ8 h.blocks (by rw[zB8]; exact hl)) (by rw[hl]; exact hbf) (by rw[List.length_reverse,hl]) (fun k b x h1 h2=>by
  have k1:=(List.getElem?_eq_some_iff.1 h1).1;have k2:=(List.getElem?_eq_some_iff.1 h2).1;rw[List.length_reverse] at k1 k2;rw[List.getElem?_reverse k1] at h1;rw[List.getElem?_reverse k2,h.bml] at h2
  exact h.maps _ b x h1 h2) hn
 rw[zOR] at this;exact this
theorem zEy (w:World)(S:StN)(s:Nr)(R:DyN)(i:Nat)(h:NB w S s R)(hi:i<S.l.length)(hb:s.blocks≠[])(hbf:s.blocks.length≤100000) :
  Calls Tryz.prog 154 #[.pointer (some ⟨S.a,0,none⟩),.int .i64 (i:Int)] w (jR w S R (YQ (tN S.l) i s) vU):=by
 have AU:=yG h;have AN:=yG h.rds;have AC:=yG hi;have AS:=yG hb;have AP:=yG hbf;have AR:Hid ((yZ (tN S.l) i).text.length≤maxLen):=yG (h.st.tree.txt i);clear h hi hb hbf
 go_enter Tryz.func154,Tryz.ntmps154
 go_wp2_with fail
 refine(vW w S.a S.p S.A S.ct S.l i AN.out AC.out).mono ?_;rintro e w1 ⟨rfl,AI⟩;have AQ:=yG AI;have AL:=yG (AU.out.ext AI);have f2:=XZ S.l i w1;clear AI
 go_wp2_with fail
 refine(AL.out.zED AP.out _ AR.out).mono ?_;rintro e w2 ⟨rfl,AG⟩;have AF:=yG (AQ.out.trans AG);have AO:=yG (AL.out.ext AG);clear AG f2
 cases hf:zA3 s (yZ (tN S.l) i).text with
 | none=>
  have HR:Hid (YQ (tN S.l) i s=jF (tN S.l) i false s):=yG (by unfold YQ; rw[hf]);simp only[zFY,Option.isSome_none];clear hf
  go_wp2_with fail
  refine(zDQ _ S s R i false (AO.out.ext (Ext.alloc _ _)) AC.out AS.out AP.out).mono ?_;intro e w3 AA;have hp:=jR.trans (ZQ.refl R) (xC.ext (M:=xL S R) (AF.out.trans (Ext.alloc _ _))) AA;rw[←HR.out] at hp;clear AA
  cases hq:YQ (tN S.l) i s with
  | ok s'=>
   rw[hq] at hp;obtain⟨rfl,ho⟩:=hp;have HO:=yG ho;have HQ:=yG hq;clear ho hq;unfold vU
   go_wp2_with fail
   go_end0;rw[HQ.out];exact⟨rfl,HO.out⟩
  | err j er=>
   rw[hq] at hp;obtain⟨rfl,ho⟩:=hp;exact xJ (P:=Tryz.prog) (fn:=Tryz.f154) rfl ⟨rfl,ho⟩
 | some v=>
  have HR:Hid (YQ (tN S.l) i s=if v.loop=true then .err i 71 else .ok (s.set i v.n)):=yG (by unfold YQ; rw[hf]);simp only[zFY,Option.isSome_some];clear hf;obtain⟨W3,AB⟩:∃W3,Hid (w2.alloc (.cells #[.int .i64 (v.n:Int),.bool v.loop] 169)=W3):=⟨_,yG rfl⟩;have AM:Hid (Ext w2 W3):=yG (by rw[←AB.out]; exact Ext.alloc _ _);have AE:Hid (Blk W3 w2.heap.size 169 #[.int .i64 (v.n:Int),.bool v.loop]):=yG (by rw[←AB.out]; exact Blk.new _ _ _);have AD:=yG (AO.out.ext AM.out);have AT:=yG (AF.out.trans AM.out)
  cases hlp:v.loop with
  | true=>
   rw[hlp] at AB AE HR;have AK:Hid (YQ (tN S.l) i s=.err i 71):=yG (by rw[HR.out]; rfl);clear hlp
   go_wp2_with fail
   refine(JW _ S.a S.p S.A S.ct S.l i 71 (AN.out.ext (AF.out.trans (Ext.alloc _ _))) AC.out).mono ?_;rintro e w3 ⟨rfl,rfl⟩;exact xJ (P:=Tryz.prog) (fn:=Tryz.f154) rfl (jR.err AK.out AC.out (AF.out.trans (Ext.alloc _ _)))
  | false=>
   rw[hlp] at AB AE HR;have AK:Hid (YQ (tN S.l) i s=.ok (s.set i v.n)):=yG (by rw[HR.out]; rfl);clear hlp HR
   go_wp2_with fail
   refine(XC _ (.pointer (some ⟨S.a,0,none⟩)) (i:Int) 71).mono ?_;rintro e w3 ⟨rfl,rfl⟩;rw[AB.out];have r0:=AD.out.rds.r0;have al:=AD.out.rds.al;have pl:=AD.out.rds.pl;have p3:=AD.out.p3;have v0:W3.cell? ⟨w2.heap.size,0,none⟩=some (.int .i64 (v.n:Int)):=AE.out.cell 0;have gl:=AE.out.lt
   have q0:(i:Int)<(S.l.length:Int):=by have:=AC.out; omega
   clear AB
   go_upto_region 4 with fail
   apply xN 11 (by kernel_rfl) (by kernel_rfl) (by kernel_rfl);dsimp only[List.take_succ_cons,List.take_zero,List.drop_succ_cons,List.drop_zero];apply sQ (.pointer (some ⟨S.a,0,none⟩));apply sQ (.pointer (some ⟨S.a,0,none⟩));apply sQ (.pointer (some ⟨S.a,0,none⟩));apply sL r0 al (.pointer (some ⟨S.p,0,none⟩));apply sQ (.pointer (some ⟨S.p,0,none⟩));apply sQ (.pointer (some ⟨S.p,3,none⟩));apply sL p3 pl (.slice (some ⟨S.bo,0,none⟩) S.l.length S.co);apply sQ (.int .i64 (i:Int));apply sQ (.pointer (some ⟨w2.heap.size,0,none⟩));apply sL v0 gl (.int .i64 ((v.n:Int)));apply sP q0 (.pointer (some ⟨S.bo,i,none⟩));apply xR;intro w4 AH hH;clear hH;(try simp only[Act.put,yD,yE,yF]);have AJ:=yG (AD.out.ext AH);have AV:=yG (AJ.out.zRz (AT.out.trans AH) i (v.n:Int));have co:=AJ.out.zBP i AC.out;have cz:=AJ.out.ofz i;clear AH r0 al pl p3 v0 gl q0
   go_wp2_with fail
   go_end0;rw[AK.out];exact⟨rfl,AV.out⟩
theorem zM5 {P:Program}(w:World)(N:Nat)(t ty e:TypeId)(i:TypeInfo)(z:Value)(sz bytes:Nat)(ht:P.underlying t=some (.slice e))(hi:P.info? e=some i)(hz:i.zero=some z)
  (hsize:i.size=sz) (hby:i.bytes=bytes) (hzs:z.cells.size=sz) (A:Option Addr) (n c0:Nat) (xs:List Value) (hown:w.ownsRow N e sz (.slice A n c0) n xs)
  (ad:Addr) (c:Nat) (news:List Value) (hl:news.length=1*sz) (hnews:∀j u,news[j]?=some u→w.cell? (ad.add j)=some u) (h1:∀u ∈ news,u.oneCell'=true)
  (h63:n+1≤maxLen) (hbytes:(n+1)*bytes≤140737488355328) (hN:N≤w.heap.size) :
  ∃A' c' w',(Builtin.append_ #[t,t] ty #[.slice A n c0,.slice (some ad) 1 c]).run P w=.ok (.slice A' (n+1) c') w'∧w'.ownsRow N e sz (.slice A' (n+1) c') (n+1) (xs++news)∧w.grownBy w' (Value.slice A n c0).ownBlock∧(∀b,A'=some ⟨b,0,none⟩→A=some ⟨b,0,none⟩∨w.heap.size≤b):=by
 have AJ:n+1≤9223372036854775807:=by simp only[maxLen] at h63; omega
 have AB:(xs++news).length=(n+1)*sz:=by rw[yP,hown.1,hl,Nat.add_mul]
 subst hby
 have grown:∀(AC:Nat),AC<n+1 →
   (w.drew.alloc (.cells (xs.toArray++news.toArray++Builtin.zeroCells z.cells (grownCap w (n+1) AC e-(n+1))) e)).ownsRow N e sz (.slice (some ⟨w.heap.size,0,none⟩) (n+1) (grownCap w (n+1) AC e)) (n+1) (xs++news) ∧
   Ext w (w.drew.alloc (.cells (xs.toArray++news.toArray++Builtin.zeroCells z.cells (grownCap w (n+1) AC e-(n+1))) e)):=by
  intro AC ho;have AL:=grownCap_ge w (n+1) AC e;have AI:grownCap w (n+1) AC e≤maxLen:=grownCap_le_maxLen w (n+1) AC e h63;refine⟨⟨AB,.inr ⟨w.heap.size,_,_,rfl,hN,zQ w.drew _,AL,AI,?_,?_⟩⟩,Ext.trans (Below.drew (Below.refl _ _)) (Ext.alloc _ _)⟩
  ·simp only[Array.size_append,List.size_toArray,size_zeroCells,hzs,hown.1,hl,←Nat.add_mul]
   congr 1
   omega
  ·simp only[Array.toList_append,List.append_assoc];rw[←List.append_assoc,←AB];exact List.take_left
 have nw:∀b,(some (⟨w.heap.size,0,none⟩:Addr))=some ⟨b,0,none⟩→A=some ⟨b,0,none⟩∨w.heap.size≤b:=fun b e=>by
  injection e with e;injection e with e
  right; omega
 rcases hown.2 with ⟨hv,rfl⟩ | ⟨g,cap,AD,hv,AN,hg,AO,AI,AK,AF⟩
 ·injection hv with e1 e2 e3;subst e1 e3;have hx:xs=[]:=List.eq_nil_of_length_eq_zero (by simpa using hown.1);subst hx;have hr:=run_append_nil (P:=P) w t ty e i z ht hi hz ad 1 c news (by rw[hsize]; exact hl) hnews (by omega) (by omega) (by have hb:=hbytes; simp only[Nat.zero_add] at hb; omega);have AE:=grown 0 (by omega);simp only[Nat.zero_add,List.nil_append,Array.empty_append] at AE ⊢;exact⟨_,_,_,hr,AE.1,zAK AE.2,nw⟩
 ·injection hv with e1 e2 e3;subst e1 e3
  by_cases AA:n+1≤c0
  ·have AH:n*i.size+news.length≤AD.size:=by rw[hl,AK,hsize,←Nat.add_mul]; exact Nat.mul_le_mul_right _ AA
   have hr:=run_append_room (P:=P) w t ty e i ht hi g n c0 AD hg ad 1 c news (by rw[hsize]; exact hl) hnews h1 AA AH
   have AG:(AD.toList.take (n*i.size)++news++AD.toList.drop (n*i.size+news.length)).toArray.size=c0*sz:=by
    simp only[List.size_toArray,yP,List.length_take,List.length_drop,Array.length_toList];omega
   have AM:(AD.toList.take (n*i.size)++news++AD.toList.drop (n*i.size+news.length)).toArray.toList.take ((n+1)*sz)=xs++news:=by
    rw[hsize,AF,←AB];exact List.take_left
   refine⟨_,_,_,hr,⟨AB,.inr ⟨g,c0,_,rfl,AN,setRow_heap w g AD _ e _ hg,AA,AI,AG,AM⟩⟩,⟨rfl,rfl,rfl,by simp,fun k _ hk=>setRow_other w g k _ (fun e=>hk (by rw[e]; rfl))⟩,fun b e=>.inl e⟩
  ·have holds:∀j u,xs[j]?=some u→w.cell? ((⟨g,0,none⟩:Addr).add j)=some u:=hown.cells (g:=g) rfl;have hr:=run_append_grow (P:=P) w t ty e i z ht hi hz ⟨g,0,none⟩ n c0 xs (by rw[hsize]; exact hown.1) holds ad 1 c news (by rw[hsize]; exact hl) hnews (by omega) (by omega) (growslice_fits (by omega) hbytes);have AE:=grown c0 (by omega);exact⟨_,_,_,hr,AE.1,zAK AE.2,nw⟩
theorem zHf {P:Program}{w:World}{ops:Array Oper}{rest:List Oper}{o:Oper}{a:Act}{Q:Exit→Act→World→Prop}(hgd:o.guard=none)(s x:Operand)(t:TypeId)
  (ho:o.op=.call { callee:=.builtin .append,args:=#[s,x],argTypes:=#[t,t] })
  (N:Nat) (e:TypeId) (i:TypeInfo) (z:Value) (sz bytes:Nat) (ht:P.underlying t=some (.slice e)) (hi:P.info? e=some i) (hz:i.zero=some z)
  (hsize:i.size=sz) (hby:i.bytes=bytes) (hzs:z.cells.size=sz) (A:Option Addr) (n c0:Nat) (xs:List Value) (hs:a.eval s=.slice A n c0) (hown:w.ownsRow N e sz (.slice A n c0) n xs)
  (g c:Nat) (news:List Value) (hx:a.eval x=.slice (some ⟨g,0,none⟩) 1 c) (hl:news.length=1*sz) (hb:Blk w g e news.toArray) (h1:∀u ∈ news,u.oneCell'=true)
  (h63:n+1≤maxLen) (hbytes:(n+1)*bytes≤140737488355328) (hN:N≤w.heap.size)
  (h:∀(A':Option Addr) (c':Nat) (w':World),w'.ownsRow N e sz (.slice A' (n+1) c') (n+1) (xs++news)→w.grownBy w' (Value.slice A n c0).ownBlock→(∀b,A'=some ⟨b,0,none⟩→A=some ⟨b,0,none⟩∨w.heap.size≤b)→wpList P ops Q rest (a.put o.dst (.slice A' (n+1) c')) w') :
  wpList P ops Q (o::rest) a w:=by
 refine wpList_plain hgd fun K' AB=>?_
 obtain⟨A',c',w',AA,r1,r2,r3⟩:=zM5 (P:=P) w N t o.type e i z sz bytes ht hi hz hsize hby hzs A n c0 xs hown ⟨g,0,none⟩ c news hl (fun j u hu=>by
  have:=hb.cell j
  unfold Addr.add;rw[show(news.toArray)[j]?=news[j]? by simp,hu] at this
  by_cases h0:j=0
  ·subst h0; simpa using this
  ·simp only[h0,if_false]; simpa using this) h1 h63 hbytes hN
 unfold Oper.wp execOp;simp only[ho,resolve,invoke,builtin,Sem.run_bind,Sem.run_pure,Result.andThen_ok,List.map_toArray,List.map_cons,List.map_nil,hs,hx,AA];exact AB _ _ (h A' c' w' r1 r2 r3)
theorem zSL:(Tryz.prog.info? 201).map (fun i=>(i.zero,i.size,i.bytes))=some (some (.map none),1,8):=by kernel_rfl
theorem zS3 {w:World}{B:Nat}{t:TypeId}{s n c m:Nat}{A:Option Addr}{xs:List Value}(h:w.ownsRow B t s (.slice A m c) n xs)(hm:m=n):n≤c:=by
 subst hm
 rcases h.2 with ⟨hv,h0⟩ | ⟨g,cap,AA,hv,_,_,AB,_⟩
 ·omega
 ·injection hv with _ _ e; omega
def zCe (Q:DyN→DyN→Prop)(w:World)(S:StN)(R:DyN)(r:XH Nr)(v:Nr→Value)(e:Ending)(w':World):Prop:=
 match r with
 | .ok s'=>e=.returned (v s')∧∃R',Q R R'∧NB w' S s' R'∧xC w (xL S R) w' (xL S R')
 | .err i er=>e=XI (YT S.l i) er∧i<S.l.length∧∃M',xC w (xL S R) w' M'
theorem jR.toQ {w w':World}{S:StN}{R:DyN}{r:XH Nr}{v:Nr→Value}{e:Ending}(h:jR w S R r v e w'):zCe ZQ w S R r v e w':=by
 cases r with
 | ok s=>exact h
 | err i er=>exact h
theorem zCe.toN {w w':World}{S:StN}{R:DyN}{r:XH Nr}{v:Nr→Value}{e:Ending}(h:zCe ZQ w S R r v e w'):jR w S R r v e w':=by
 cases r with
 | ok s=>exact h
 | err i er=>exact h
theorem zEB (Q:DyN→DyN→Prop)(hQ:∀R1 R2 R3 R4:DyN,R1.pc=R3.pc→R1.j=R3.j→R2.pc=R4.pc→R2.j=R4.j→Q R1 R2→Q R3 R4)(w:World)(S:StN)(s:Nr)(R:DyN)(K:Nat)(first cap:Array Value)(body:Nn)(h:NB w S s R)(hbf:s.blocks.length+1≤100000)
  (he:∀args w,(callFunc K args).run Tryz.prog w=.ok (.enter K args) w)
  (hkeep:∀s',body { s with blocks:=[]::s.blocks } = .ok s'→s'.blocks≠[]∧s'.blocks.length≤100000)
  (hbody:∀(wr:World) (R':DyN),R'.pc=R.pc→R'.j=R.j→xC w (xL S R) wr (xL S R')→NB wr S { s with blocks:=[]::s.blocks } R'→Calls Tryz.prog K (first++cap) wr (zCe Q wr S R' (body { s with blocks:=[]::s.blocks }) vU)) :
  Calls Tryz.prog 85 #[.pointer (some ⟨S.a,0,none⟩),.func (.func K) first cap] w (zCe Q w S R (ZH body s) vU):=by
 have HQ:=yG hQ;have AS:=yG h;have HE:=yG he;have AT:=yG hkeep;have HB:=yG hbody;have Ae:=yG hbf;have x4:=h.x4;have al:=h.rd.lt;obtain⟨i0,Al,An,Ag,Ai⟩:=info_parts zSL;obtain⟨nb,AI⟩:∃nb,Hid (s.blocks.length=nb):=⟨_,yG rfl⟩;rw[AI.out] at x4 Ae;have Ao:=Ae.out;have AG:Hid (Ext w ((w.alloc (.map #[] 0)).alloc (.cells #[.map (some w.heap.size)] 201))):=yG ((Ext.alloc _ _).trans (Ext.alloc _ _))
 have AQ:Hid (((w.alloc (.map #[] 0)).alloc (.cells #[.map (some w.heap.size)] 201)).ownsRow S.B 201 1 (.slice R.Ab nb R.cb) nb (YL R.bm.reverse)):=yG (by
  have:=zB1 h.blocks AG.out
  rw[AI.out] at this
  exact this)
 have AU:Hid (Blk ((w.alloc (.map #[] 0)).alloc (.cells #[.map (some w.heap.size)] 201)) (w.heap.size+1) 201 [Value.map (some w.heap.size)].toArray):=yG (by
  have:=Blk.new (w.alloc (.map #[] 0)) 201 #[.map (some w.heap.size)]
  rwa [yT] at this)
 have Aa:Hid (S.B≤((w.alloc (.map #[] 0)).alloc (.cells #[.map (some w.heap.size)] 201)).heap.size):=yG (Nat.le_trans h.low AG.out.size);clear h he hkeep hbody hbf
 go_enter Tryz.func85,Tryz.ntmps85
 have Aj:=@run_makeMap Tryz.prog
 go_wp2_with (at_builtin; refine zHf rfl (.tmp 8) (.tmp 10) 113 rfl S.B 201 i0 _ 1 8 Tryz.underlying113 Al An Ag Ai rfl R.Ab nb R.cb (YL R.bm.reverse) rfl AQ.out (w.heap.size+1) 1 [.map (some w.heap.size)] rfl rfl AU.out (by simp[Value.oneCell']) (by unfold maxLen; omega) (by omega) Aa.out ?_)
 intro A' c' w2 AX AM Ac
 have Ah:Hid (∀b,A'=some ⟨b,0,none⟩→R.Ab=some ⟨b,0,none⟩∨w.heap.size≤b):=yG fun b e=>by
  rcases Ac b e with k | k
  ·exact .inl k
  ·exact .inr (by omega)
 have AP:w2.heap[S.a]?=w.heap[S.a]?:=(AM.block S.a (yU al AG.out.size) fun e=>by
  have:=xP (A:=R.Ab) AQ.out e.symm
  exact(AS.out.VI _ this).2.1 rfl).trans (AG.out.block S.a al)
 have y4:w2.cell? ⟨S.a,4,none⟩=some (.slice R.Ab nb R.cb):=(World.cell?_of_block (w:=w) (a:=⟨S.a,4,none⟩) AP).trans x4;have z4:w2.frozen? ⟨S.a,4,none⟩=false:=(World.frozen?_of_block (w:=w) (a:=⟨S.a,4,none⟩) AP).trans (AS.out.rd.frozen 4)
 have HP:Hid (NB (w2.setCell ⟨S.a,4,none⟩ (.slice A' (nb+1) c')) S { s with blocks:=[]::s.blocks } { R with Ab:=A',cb:=c',bm:=w.heap.size::R.bm } ∧ xC w (xL S R) (w2.setCell ⟨S.a,4,none⟩ (.slice A' (nb+1) c')) (xL S { R with Ab:=A',cb:=c',bm:=w.heap.size::R.bm })):=yG (by
  have hm:MF Tryz.prog 9 ((w.alloc (.map #[] 0)).alloc (.cells #[.map (some w.heap.size)] 201)) w.heap.size 0 fun _=>none:=(MF.new w).ext (Ext.alloc _ _);have hp:=AS.out.push AG.out w.heap.size (zX _) hm (by rw[AI.out]; exact AM) A' c' (by rw[AI.out]; exact AX) Ah.out;rw[AI.out] at hp
  exact hp)
 clear AX AM Ac AP x4 al Aj;have he:=HE.out
 go_wp2_with fail
 obtain⟨W3,AW⟩:∃W3,Hid (w2.setCell ⟨S.a,4,none⟩ (.slice A' (nb+1) c')=W3):=⟨_,yG rfl⟩;obtain⟨R3,AR⟩:∃R3:DyN,Hid (R3 = { R with Ab:=A',cb:=c',bm:=w.heap.size::R.bm }):=⟨_,yG rfl⟩;rw[←AR.out] at HP;have AK:Hid (R3.pc=R.pc∧R3.j=R.j):=yG (by rw[AR.out]; exact⟨rfl,rfl⟩);rw[AW.out] at HP ⊢;clear AW y4 z4 AR AG AQ AU Aa;refine(HB.out W3 R3 AK.out.1 AK.out.2 HP.out.2 HP.out.1).mono ?_;intro e w4 AA
 cases hq:body { s with blocks:=[]::s.blocks } with
 | err j er=>
  rw[hq] at AA;obtain⟨rfl,hj,M',hm⟩:=AA
  have HF:Hid (zCe Q w S R (ZH body s) vU (XI (YT S.l j) er) w4):=yG (by
   unfold ZH;rw[hq]
   exact⟨rfl,hj,M',HP.out.2.trans hm⟩)
  exact xJ (P:=Tryz.prog) (fn:=Tryz.f85) rfl HF.out
 | ok s4=>
  rw[hq] at AA;obtain⟨rfl,R4,AZ,AB,Ad⟩:=AA;obtain⟨AV,AD⟩:=AT.out s4 hq;obtain⟨x,AF,AJ⟩:=List.exists_cons_of_ne_nil AV;have AN:=zS3 AB.blocks rfl;have y4:=AB.x4;have z4:=AB.rd.frozen 4;have al:=AB.rd.lt
  have AC:Hid (∀w5,Ext w4 w5→zCe Q w S R (ZH body s) vU (.returned (.tuple #[])) (w5.setCell ⟨S.a,4,none⟩ (.slice R4.Ab AF.length R4.cb))):=yG (fun w5 AE=>by
   have AH:=(AB.ext AE).pop x AF AJ;unfold ZH;rw[hq]
   exact⟨rfl,{ R4 with bm:=R4.bm.tail },HQ.out R3 R4 _ _ AK.out.1 AK.out.2 rfl rfl AZ,AH.1,((HP.out.2.trans Ad).trans (xC.ext AE)).trans AH.2⟩)
  have Ak:=yG AB.rd;rw[AJ] at y4 AN AD;simp only[zK] at y4 AN AD;obtain⟨nr,AO⟩:∃nr,Hid (AF.length=nr):=⟨_,yG rfl⟩;rw[AO.out] at y4 AN AC AD
  obtain⟨gb,AY⟩:∃gb,R4.Ab=some ⟨gb,0,none⟩:=by
   rcases zAO AB.blocks with e | e
   ·exfalso
    have hh:=AB.blocks;rw[e] at hh
    rcases hh.2 with ⟨_,h0⟩ | ⟨g,_,_,hv,_⟩
    ·rw[AJ] at h0; simp at h0
    ·cases hv
   ·exact e
  rw[AY] at y4 AC;generalize R4.cb=AL at *;clear AB Ad AZ AV AJ hq he HB AT AY;unfold vU
  go_upto_region 2 with fail
  apply xN 14 (by kernel_rfl) (by kernel_rfl) (by kernel_rfl);dsimp only[List.take_succ_cons,List.take_zero,List.drop_succ_cons,List.drop_zero];apply sQ (.pointer (some ⟨S.a,0,none⟩));apply sQ (.pointer (some ⟨S.a,0,none⟩));apply sQ (.pointer (some ⟨S.a,0,none⟩));apply sQ (.pointer (some ⟨S.a,4,none⟩));apply sL y4 al (.slice (some ⟨gb,0,none⟩) (nr+1) AL);apply sQ (.pointer (some ⟨S.a,0,none⟩));apply sQ (.pointer (some ⟨S.a,0,none⟩));apply sQ (.pointer (some ⟨S.a,4,none⟩));apply sL y4 al (.slice (some ⟨gb,0,none⟩) (nr+1) AL);apply sQ (.int .i64 ((nr:Int)+1));apply xB (.int .i64 (nr:Int)) rfl rfl rfl
  ·intro w' Am hH;clear hH;simp[xA,go_sem];exact⟨IntWalk.i64_in _ (by omega),Ext.refl _⟩
  (try simp only[Act.put,yD,yE,yF]);apply xB (.slice (some ⟨gb,0,none⟩) nr AL) rfl rfl rfl
  ·intro w' Am hH;clear hH
   have q1:(nr:Int)≤(AL:Int):=by omega
   simp[xA,go_sem,q1];exact Ext.refl _
  (try simp only[Act.put,yD,yE,yF]);apply sQ (.pointer (some ⟨S.a,0,none⟩))
  apply sQ (.pointer (some ⟨S.a,4,none⟩));apply xR;intro w5 AE hH;clear hH;have y5:=(AE.cell (p:=⟨S.a,4,none⟩) al).trans y4;have z5:=(Ak.out.ext AE).frozen 4;have Af:=yG (AC.out w5 AE);clear AE y4 z4 al AC;(try simp only[Act.put,yD,yE,yF,List.drop_succ_cons,List.drop_zero])
  go_wp2_with fail
  go_end0;exact Af.out
end Go.Proofs.YtbadjmmjbpeocaaGreat
namespace Go.Proofs.YtbadjmmjbpeocaaGreat
open Go Go.RowKit Go.Deep Go.ChangeShapes Go.WideShapes
theorem zTj {α:Type}(f:α→List Value)(sz:Nat)(hf:∀x,(f x).length=sz)(l:List α):∀(i j:Nat) (hi:i<l.length),j<sz→(l.flatMap f)[i*sz+j]?=(f l[i])[j]?:=by
 induction l with
 | nil=>intro i j hi; simp at hi
 | cons x l ih=>
  intro i j hi hj;rw[List.flatMap_cons]
  match i,hi with
  | 0,_=>
   rw[Nat.zero_mul,Nat.zero_add,List.getElem?_append_left (by rw[hf]; exact hj)]
   rfl
  | i+1,hi=>
   rw[List.getElem?_append_right (by rw[hf,Nat.succ_mul]; omega),hf,show(i+1)*sz+j-sz=i*sz+j from by rw[Nat.succ_mul]; omega];exact ih i j (by simpa using hi) hj
theorem zRE {α:Type}(f:α→List Value)(sz:Nat)(hf:∀x,(f x).length=sz)(l:List α):(l.flatMap f).length=l.length*sz:=by
 induction l with
 | nil=>simp
 | cons x l ih=>rw[List.flatMap_cons,yP,hf,ih,zK,Nat.succ_mul]; omega
section
variable {H:Type} {enc:TypeId × Value→H} {P:Program} {w:World} {base:Nat} {spare:Nat→Bool} {held:Bool}
end
end Go.Proofs.YtbadjmmjbpeocaaGreat
namespace Go.Proofs.YtbadjmmjbpeocaaGreat.TT
def zBV (len:Nat)(Z:List Nat):List Int→Nat→Option Nat
 | [],a=>some a
 | k::r,a=>if k=(a:Int)∧a<len then zBV len Z r (Z.getD a 0) else none
def JJ (ks:List (List Int)):Nat→Option (List Nat)
 | 0=>some (List.replicate ks.length 0)
 | j+1=>match JJ ks j with
  | none=>none
  | some Z=>match zBV ks.length Z (ks.getD (ks.length-1-j) []) (ks.length-1-j+1) with
   | none=>none
   | some a=>some (Z.set (ks.length-1-j) a)
def zB0 (ks:List (List Int)):Option (List Nat):=
 match JJ ks ks.length with
 | none=>none
 | some Z=>if ks.length≠0∧Z.getD 0 0=ks.length then some Z else none
def zCG (g:Nat→Option Nat)(len:Nat):List Int→Option Nat→Option Nat
 | [],a=>a
 | _::_,none=>none
 | k::r,some a=>if a<len∧k=(a:Int) then zCG g len r (g a) else none
def zFv (ks:List (List Int)):Nat→Nat→Option Nat
 | 0,_=>none
 | f+1,i=>if i<ks.length then zCG (zFv ks f) ks.length (ks.getD i []) (some (i+1)) else none
theorem zAv (g:Nat→Option Nat)(len:Nat)(l:List Int):zCG g len l none=none:=by cases l <;> rfl
theorem VT (g:Nat→Option Nat)(len:Nat)(k:Int)(r:List Int)(a:Nat):zCG g len (k::r) (some a)=if a<len∧k=(a:Int) then zCG g len r (g a) else none:=rfl
theorem zRS {g:Nat→Option Nat}{len:Nat}(hg:∀a e,g a=some e→a<e∧e≤len):∀(l:List Int) (a0 e:Nat),a0≤len→zCG g len l (some a0)=some e→a0≤e∧e≤len:=by
 intro l
 induction l with
 | nil=>intro a0 e h0 h; injection h with h; omega
 | cons k r ih=>
  intro a0 e h0 h;rw[VT] at h
  split at h
  ·rename_i hc
   cases ha:g a0 with
   | none=>rw[ha,zAv] at h; cases h
   | some a1=>
    rw[ha] at h;have h1:=hg a0 a1 ha;have h2:=ih a1 e h1.2 h;omega
  ·cases h
theorem zPo (ks:List (List Int)):∀f i e,zFv ks f i=some e→i<e∧e≤ks.length:=by
 intro f
 induction f with
 | zero=>intro i e h; cases h
 | succ f ih=>
  intro i e h;unfold zFv at h
  split at h
  ·rename_i hi
   have:=zRS ih _ _ _ (by omega) h
   omega
  ·cases h
theorem zMO {g g':Nat→Option Nat}{len i:Nat}(h:∀a,i<a→g a=g' a)(hg:∀a e,g a=some e→a<e):∀(l:List Int) (a0:Nat),i<a0→zCG g len l (some a0)=zCG g' len l (some a0):=by
 intro l
 induction l with
 | nil=>intro a0 _; rfl
 | cons k r ih=>
  intro a0 h0;rw[VT,VT,←h a0 h0]
  split
  ·cases ha:g a0 with
   | none=>rw[zAv,zAv]
   | some a1=>exact ih a1 (by have:=hg a0 a1 ha; omega)
  ·rfl
theorem zPz (ks:List (List Int)):∀f f' i,ks.length-i≤f→ks.length-i≤f'→zFv ks f i=zFv ks f' i:=by
 intro f
 induction f with
 | zero=>
  intro f' i h _
  cases f' with
  | zero=>rfl
  | succ f'=>unfold zFv; rw[if_neg (by omega)]
 | succ f ih=>
  intro f' i h h'
  cases f' with
  | zero=>unfold zFv; rw[if_neg (by omega)]
  | succ f'=>
   unfold zFv
   split
   ·exact zMO (i:=i) (fun a ha=>ih f' a (by omega) (by omega)) (fun a e he=>(zPo ks f a e he).1) _ _ (by omega)
   ·rfl
def zBJ (ks:List (List Int))(i:Nat):Option Nat:=zFv ks ks.length i
theorem zHs (ks:List (List Int))(i:Nat):zBJ ks i=if i<ks.length then zCG (zBJ ks) ks.length (ks.getD i []) (some (i+1)) else none:=by
 unfold zBJ;rw[zPz ks ks.length (ks.length+1) i (by omega) (by omega)]
 rfl
theorem zBs {ks:List (List Int)}{i e:Nat}(h:zBJ ks i=some e):i<e∧e≤ks.length:=zPo ks _ _ _ h
theorem zTG {ks:List (List Int)}{i e:Nat}(h:zBJ ks i=some e):i<ks.length:=by have:=zBs h; omega
theorem zKf {ks:List (List Int)}{Z:List Nat}{i:Nat}(hZ:∀a,i<a→a<ks.length→zBJ ks a=some (Z.getD a 0)):∀(l:List Int) (a0:Nat),i<a0→zBV ks.length Z l a0=zCG (zBJ ks) ks.length l (some a0):=by
 intro l
 induction l with
 | nil=>intro a0 _; rfl
 | cons k r ih=>
  intro a0 h0;rw[VT];unfold zBV
  by_cases hc:k=(a0:Int)∧a0<ks.length
  ·have hz:=hZ a0 h0 hc.2;rw[if_pos hc,if_pos ⟨hc.2,hc.1⟩,hz];exact ih _ (by have:=zBs hz; omega)
  ·rw[if_neg hc,if_neg (fun h=>hc ⟨h.2,h.1⟩)]
theorem zDD (ks:List (List Int)):∀(j:Nat) (Z:List Nat),j≤ks.length→JJ ks j=some Z→Z.length=ks.length∧∀a,ks.length-j≤a→a<ks.length→zBJ ks a=some (Z.getD a 0):=by
 intro j
 induction j with
 | zero=>
  intro Z _ h;injection h with h;subst h;exact⟨by simp,fun a h1 h2=>by omega⟩
 | succ j ih=>
  intro Z hj h;unfold JJ at h
  split at h
  ·cases h
  ·rename_i Z0 h0;obtain⟨hl,hz⟩:=ih Z0 (by omega) h0
   split at h
   ·cases h
   ·rename_i a ha;injection h with h;subst h;refine⟨by simpa using hl,fun b h1 h2=>?_⟩;rw[zKf (i:=ks.length-1-j) (fun a h1 h2=>hz a (by omega) h2) _ _ (by omega)] at ha
    by_cases hb:b=ks.length-1-j
    ·subst hb;rw[zHs,if_pos h2,ha];simp[yH,hl,h2]
    ·rw[hz b (by omega) h2];simp[yH,List.getElem?_set,Ne.symm hb]
theorem zN6 (ks:List (List Int)):∀(j:Nat),j≤ks.length→(∀a,ks.length-j≤a→a<ks.length→(zBJ ks a).isSome=true)→∃Z,JJ ks j=some Z:=by
 intro j
 induction j with
 | zero=>intro _ _; exact⟨_,rfl⟩
 | succ j ih=>
  intro hj h;obtain⟨Z0,h0⟩:=ih (by omega) (fun a h1 h2=>h a (by omega) h2);obtain⟨hl,hz⟩:=zDD ks j Z0 (by omega) h0;have h1:=h (ks.length-1-j) (by omega) (by omega);rw[zHs,if_pos (by omega),←zKf (Z:=Z0) (i:=ks.length-1-j) (fun a h1 h2=>hz a (by omega) h2) _ _ (by omega)] at h1;unfold JJ;rw[h0]
  simp only
  cases hk:zBV ks.length Z0 (ks.getD (ks.length-1-j) []) (ks.length-1-j+1) with
  | none=>rw[hk] at h1; cases h1
  | some a=>exact⟨_,rfl⟩
theorem zMG {ks:List (List Int)}{i:Nat}(hi:∀a1,i<a1→∀e1,zBJ ks a1=some e1→∀a,a1≤a→a<e1→(zBJ ks a).isSome=true):∀(l:List Int) (a0 e:Nat),i<a0→zCG (zBJ ks) ks.length l (some a0)=some e→∀a,a0≤a→a<e→(zBJ ks a).isSome=true:=by
 intro l
 induction l with
 | nil=>intro a0 e h0 h a h1 h2; injection h with h; omega
 | cons k r ih=>
  intro a0 e h0 h a h1 h2;rw[VT] at h
  split at h
  ·cases ha:zBJ ks a0 with
   | none=>rw[ha,zAv] at h; cases h
   | some a1=>
    rw[ha] at h
    by_cases AA:a<a1
    ·exact hi a0 h0 a1 ha a h1 AA
    ·exact ih a1 e (by have:=zBs ha; omega) h a (by omega) h2
  ·cases h
theorem zID (ks:List (List Int)):∀(n i e:Nat),ks.length-i≤n→zBJ ks i=some e→∀a,i≤a→a<e→(zBJ ks a).isSome=true:=by
 intro n
 induction n with
 | zero=>intro i e h he; have:=zBs he; omega
 | succ n ih=>
  intro i e h he a h1 h2
  by_cases AC:a=i
  ·subst AC; rw[he]; rfl
  ·have AA:=he;rw[zHs,if_pos (by have:=zBs he; omega)] at AA;exact zMG (i:=i) (fun a1 AD e1 AB=>ih a1 e1 (by have:=zBs AB; omega) AB) _ _ _ (by omega) AA a (by omega) h2
theorem zGo {ks:List (List Int)}{Z:List Nat}(h:zB0 ks=some Z):Z.length=ks.length∧ks.length≠0∧zBJ ks 0=some ks.length∧∀a,a<ks.length→zBJ ks a=some (Z.getD a 0):=by
 unfold zB0 at h
 split at h
 ·cases h
 ·rename_i Z0 h0
  split at h
  ·rename_i hc;injection h with h;subst h;obtain⟨hl,hz⟩:=zDD ks ks.length Z0 (zX _) h0;refine⟨hl,hc.1,?_,fun a ha=>hz a (by omega) ha⟩;rw[hz 0 (by omega) (by omega),hc.2]
  ·cases h
theorem zQE {ks:List (List Int)}(h:zB0 ks=none):zBJ ks 0≠some ks.length:=by
 intro he;obtain⟨Z,hZ⟩:=zN6 ks ks.length (zX _) (fun a _ h2=>zID ks ks.length 0 ks.length (by omega) he a (zW _) h2);obtain⟨hl,hz⟩:=zDD ks ks.length Z (zX _) hZ;have h0:=zBs he
 have:=hz 0 (by omega) (by omega)
 rw[he] at this;injection this with this;unfold zB0 at h;rw[hZ] at h
 simp only at h
 rw[if_pos ⟨by omega,this.symm⟩] at h
 cases h
theorem zNJ {ks:List (List Int)}:∀(l:List Int) (a0 e:Nat),zCG (zBJ ks) ks.length l (some a0)=some e→∀k ∈ l,∃a:Nat,k=(a:Int)∧a0≤a∧a<ks.length:=by
 intro l
 induction l with
 | nil=>intro a0 e _ k hk; cases hk
 | cons x r ih=>
  intro a0 e h k hk;rw[VT] at h
  split at h
  ·rename_i hc
   rcases List.mem_cons.1 hk with rfl | hk
   ·exact⟨a0,hc.2,zX _,hc.1⟩
   ·cases ha:zBJ ks a0 with
    | none=>rw[ha,zAv] at h; cases h
    | some a1=>
     rw[ha] at h;obtain⟨a,h1,h2,h3⟩:=ih a1 e h k hk
     have:=zBs ha
     exact⟨a,h1,by omega,h3⟩
  ·cases h
theorem zOz {ks:List (List Int)}{i e:Nat}(h:zBJ ks i=some e):∀k ∈ ks.getD i [],∃a:Nat,k=(a:Int)∧i<a∧a<ks.length:=by
 intro k hk;have hl:=zTG h;rw[zHs,if_pos hl] at h;obtain⟨a,h1,h2,h3⟩:=zNJ _ _ _ h k hk;exact⟨a,h1,by omega,h3⟩
end Go.Proofs.YtbadjmmjbpeocaaGreat.TT
namespace Go.Proofs.YtbadjmmjbpeocaaGreat.TT
open Go Go.RowKit Go.Deep Go.ChangeShapes Go.WideShapes
structure xU where
 kind:Int
 pos:Int
 text:ByteArray
 num:Int
 kA:Option Addr
 kc:Nat
 kids:List Int
def xU.cells (x:xU):List Value:=[.int .u8 x.kind,.int .i64 x.pos,.string x.text,.int .i64 x.num,.slice x.kA x.kids.length x.kc]
def jP (l:List Int):List Value:=l.map (Value.int .i64)
structure zDM (w:World)(x:xU):Prop where
 kind:0≤x.kind∧x.kind<256
 num:-9223372036854775808≤x.num∧x.num≤9223372036854775807
 kids:Cells w x.kA (jP x.kids)
 nil:x.kA=none→x.kc=0
theorem zDM.ext {w w':World}{x:xU}(h:zDM w x)(hx:Ext w w'):zDM w' x:=⟨h.kind,h.num,h.kids.ext hx,h.nil⟩
def YK (l:List xU):List Value:=l.flatMap xU.cells
theorem zBA (l:List xU):(YK l).length=l.length*5:=zRE xU.cells 5 (fun _=>rfl) l
theorem zIg (l:List xU)(k j:Nat)(h:k<l.length)(hj:j<5):(YK l)[k*5+j]?=(l[k].cells)[j]?:=zTj xU.cells 5 (fun _=>rfl) l k j h hj
theorem zBo (l:List Int):(jP l).length=l.length:=by simp[jP]
theorem zKC (l:List Int)(k:Nat)(h:k<l.length):(jP l)[k]?=some (.int .i64 l[k]):=by simp[jP,h]
structure zA2 (w:World)(A:Option Addr)(l:List xU):Prop where
 cells:Cells w A (YK l)
 ok:∀x ∈ l,zDM w x
theorem zA2.ext {w w':World}{A:Option Addr}{l:List xU}(h:zA2 w A l)(hx:Ext w w'):zA2 w' A l:=⟨h.cells.ext hx,fun x hm=>(h.ok x hm).ext hx⟩
theorem zA2.at_ {w:World}{A:Option Addr}{l:List xU}(h:zA2 w A l)(k:Nat)(hk:k<l.length) :
  ∃b AA,A=some ⟨b,AA,none⟩∧b<w.heap.size∧∀j,j<5→w.cell? ⟨b,AA+k*5+j,none⟩=(l[k].cells)[j]?:=by
 obtain⟨b,AA,hA,hb,AB⟩:=h.cells.at_ (by rw[zBA]; omega);refine⟨b,AA,hA,hb,fun j hj=>?_⟩;rw[Nat.add_assoc,AB _ (by rw[zBA]; omega)];exact zIg l k j hk hj
theorem zPs {w:World}{A:Option Addr}{l:List Int}(h:Cells w A (jP l))(k:Nat)(hk:k<l.length):∃b AA,A=some ⟨b,AA,none⟩∧b<w.heap.size∧w.cell? ⟨b,AA+k,none⟩=some (.int .i64 l[k]):=by
 obtain⟨b,AA,hA,hb,AB⟩:=h.at_ (by rw[zBo]; omega);exact⟨b,AA,hA,hb,(AB k (by rw[zBo]; exact hk)).trans (zKC l k hk)⟩
section
variable {H:Type} {enc:TypeId × Value→H} {w:World} {base:Nat} {spare:Nat→Bool} {held:Bool}
end
end Go.Proofs.YtbadjmmjbpeocaaGreat.TT
