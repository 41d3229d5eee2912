/- The reader of names: stmt: scan, for. (and what follows of it). The conditions stand at each lemma. -/
import Derived.Test.YtbadjmmjbpeocaaGreatDoorKaa
import Derived.Test.YtbadjmmjbpeocaaGreatDoorKbf
import Derived.StillTailTactics
import Derived.Test.YtbadjmmjbpeocaaGreatDoorKaj
set_option linter.unusedVariables false
set_option linter.unusedSimpArgs false
set_option maxRecDepth 100000
set_option maxHeartbeats 16000000
namespace Go.Proofs.YtbadjmmjbpeocaaGreatDoor
open Go Go.RowKit
theorem zOy {t:List Nd}{f i a b:Nat}{s:Nr}(hk:(xC t i).kind=11)(hkk:(xC t i).kids=[a,b]):vF t (f+1) i s=((ofN t a s).bind fun s=>ZH t b (zAO s a) s).bind (ZC t i):=by
 rw[vF,if_neg (by omega),if_neg (by omega),if_pos hk];unfold YI;rw[hkk]
 rfl
theorem zQ0 {t:List Nd}{f i a b c:Nat}{s:Nr}(hk:(xC t i).kind=15)(hkk:(xC t i).kids=[a,b,c]):vF t (f+1) i s=((if (VJ s (xC t i).text).isSome=true then .err i 71 else jQ (fun s=>(vT t i true s).bind (jN t (vF t f) c false)) s):YQ Nr).bind (ZC t i):=by
 rw[vF,if_neg (by omega),if_neg (by omega),if_neg (by omega),if_pos hk];unfold YI;rw[hkk]
 rfl
theorem zRi (f:Nat)(S:StN)(hT:zDZ S)(hst:zDW S f)(w:World)(s:Nr)(R:DyN)(i:Nat)(h:NB w S s R)(hi:i<S.l.length)(hf:S.l.length≤f+1+i)(hb:s.blocks.length+2*(f+1)+2≤100000)(hne:s.blocks≠[])(hk:(xC (tN S.l) i).kind=11) :
  Calls Tryz.prog 105 #[.pointer (some ⟨S.a,0,none⟩),.int .i64 (i:Int)] w (jR w S R (vF (tN S.l) (f+1) i s) vU):=by
 have HT:=yG hT;have HNB:=yG h;have HIL:=yG hi;have HSTM:=yG hst;have HFI:=yG hf;have HKI:=yG hk;have HTX:Hid ((xC (tN S.l) i).text.length≤maxLen):=yG (h.st.tree.txt i);have HBL:Hid (s.blocks.length+2*(f+1)+2≤100000∧s.blocks≠[]):=yG ⟨hb,hne⟩;have HKS:Hid (∀(wr:World) (sk:Nr) (Rk:DyN),NB wr S sk Rk→Cells wr (hdN S.l i).1 (ints (xC (tN S.l) i).kids)):=yG fun wr sk Rk hn=>(hn.st.tree.kid i hi).cells;have HUP:Hid (∀k,k ∈ (xC (tN S.l) i).kids→i<k∧k<S.l.length):=yG fun k hk=>hT.up hk;have HKB:Hid ((xC (tN S.l) i).kids.length≤100000):=yG (hT.kl i);have HKCAP:Hid ((xC (tN S.l) i).kids.length≤(hdN S.l i).2):=yG (h.st.tree.cap i hi);have HFORM:Hid (zAg (tN S.l) i):=yG (hT.R.form i (by rw[zAk]; exact hi) (by omega) (by omega));have HML:Hid (∀b,xM S R b→b<w.heap.size):=yG fun b hm=>h.ZU hm;obtain⟨W2,HW2⟩:∃W2,Hid ((w.alloc (.cells #[.pointer (some ⟨S.a,0,none⟩)] 78)).alloc (.cells #[.int .i64 (i:Int)] 3)=W2):=⟨_,yG rfl⟩;have HX2:Hid (Ext w W2):=yG (by rw[←HW2.out]; exact(Ext.alloc _ _).trans (Ext.alloc _ _))
 have HB2:Hid (Safe W2 (xM S R) w.heap.size 78 #[.pointer (some ⟨S.a,0,none⟩)]∧Safe W2 (xM S R) (w.heap.size+1) 3 #[.int .i64 (i:Int)]):=yG (by
  rw[←HW2.out];refine⟨⟨(Blk.new _ _ _).alloc _,fun hm=>by have:=HML.out _ hm; omega⟩,⟨?_,fun hm=>by have:=HML.out _ hm; omega⟩⟩
  have:=Blk.new (w.alloc (.cells #[.pointer (some ⟨S.a,0,none⟩)] 78)) 3 #[.int .i64 (i:Int)]
  rwa [yT] at this)
 clear hT h hst hi hf hb hne hk
 have q2:((w.alloc (.cells #[.pointer (some ⟨S.a,0,none⟩)] 78)).alloc (.cells #[.int .i64 (i:Int)] 3)).cell? ⟨w.heap.size,0,none⟩=some (.pointer (some ⟨S.a,0,none⟩)):=by rw[HW2.out]; exact HB2.out.1.1.cell 0
 have q3:((w.alloc (.cells #[.pointer (some ⟨S.a,0,none⟩)] 78)).alloc (.cells #[.int .i64 (i:Int)] 3)).cell? ⟨w.heap.size+1,0,none⟩=some (.int .i64 (i:Int)):=by rw[HW2.out]; exact HB2.out.2.1.cell 0
 go_enter Tryz.func105,Tryz.ntmps105
 go_wp2_with fail
 rw[HW2.out];clear q2 q3 HW2;refine(vV W2 S.a S.p S.A S.ct S.l i (HNB.out.ext HX2.out).rds HIL.out).mono ?_;rintro e w3 ⟨rfl,hx3⟩;obtain⟨W4,HW4⟩:∃W4,Hid (w3.alloc (.cells (vX S.l i) 39)=W4):=⟨_,yG rfl⟩;obtain⟨g2,HG2⟩:∃g2,Hid (w.heap.size=g2):=⟨_,yG rfl⟩;obtain⟨g3,HG3⟩:∃g3,Hid (w.heap.size+1=g3):=⟨_,yG rfl⟩;obtain⟨g4,HG4⟩:∃g4,Hid (w3.heap.size=g4):=⟨_,yG rfl⟩
 have HR0:Hid (Rn w S R i g2 g3 g4 W4 s R):=yG (by
  have hx4:Ext w3 W4:=by rw[←HW4.out]; exact Ext.alloc _ _
  have hx:=(HX2.out.trans hx3).trans hx4;refine⟨HNB.out.ext hx,xD.ext hx,ZO.refl R,?_,?_,?_⟩
  ·rw[←HG2.out]; exact(HB2.out.1.xG (xD.ext (M:=xM S R) hx3)).xG (xD.ext (M:=xM S R) hx4)
  ·rw[←HG3.out]; exact(HB2.out.2.xG (xD.ext (M:=xM S R) hx3)).xG (xD.ext (M:=xM S R) hx4)
  ·rw[←HG4.out,←HW4.out]
   exact(((HNB.out.ext HX2.out).ext hx3).fresh 39 (vX S.l i)))
 have HWH0:Hid (vF (tN S.l) (f+1) i s=vF (tN S.l) (f+1) i s):=yG rfl;have HNC:Hid (vX S.l i=#[.int .u8 (11:Int),.int .i64 (YY S.l i),.string (xI (xC (tN S.l) i).text),.int .i64 (xC (tN S.l) i).num,.slice (hdN S.l i).1 (xC (tN S.l) i).kids.length (hdN S.l i).2]):=yG (by unfold vX; rw[HKI.out]; try rfl);rw[HNC.out] at HW4 ⊢
 go_upto_region 2 with fail
 rw[HW4.out,HG4.out];rw[HG3.out,HG2.out];clear hx3 HW4 HG4 HB2 HX2
 obtain⟨a,b,hkk⟩:∃a b,(xC (tN S.l) i).kids=[a,b]:=by
  have h:=HFORM.out;unfold zAg at h;rw[HKI.out] at h;exact h
 have HKK:=yG hkk;have HWH:=yG (zOy (f:=f) (s:=s) HKI.out hkk);clear hkk HWH0;have hkl:True:=trivial;obtain⟨kA,HKA⟩:∃kA,Hid ((hdN S.l i).1=kA):=⟨_,yG rfl⟩;obtain⟨kc,HKCC⟩:∃kc,Hid ((hdN S.l i).2=kc):=⟨_,yG rfl⟩;obtain⟨n,HKN⟩:∃n,Hid ((xC (tN S.l) i).kids.length=n):=⟨_,yG rfl⟩;rw[HKA.out,HKCC.out,HKN.out]
 have hn0:2≤n:=by have h:=HKN.out; rw[HKK.out] at h; simp at h; omega
 have hkc:n≤kc:=by have h:=HKCAP.out; rw[HKN.out,HKCC.out] at h; exact h
 have hkb:n≤100000:=by have h:=HKB.out; rw[HKN.out] at h; exact h
 have hca:=HKS.out _ _ _ HR0.out.nb;rw[HKA.out] at hca;obtain⟨kb,ko,rfl,_,_⟩:=hca.at_ (by rw[vY,HKN.out]; omega);clear hca hkl
 have HKC:Hid (∀(wr:World) (sk:Nr) (Rk:DyN),NB wr S sk Rk→kb<wr.heap.size∧wr.cell? ⟨kb,ko,none⟩=some (.int .i64 (a:Int))∧wr.cell? ⟨kb,ko+1,none⟩=some (.int .i64 (b:Int))∧True):=yG fun wr sk Rk hn=>by
  have hc:=HKS.out wr sk Rk hn;rw[HKA.out,HKK.out] at hc;obtain⟨b',o',e1,e2,e3⟩:=hc.at_ (by simp[ints]);injection e1 with e1;injection e1 with e1 e1';subst e1 e1';exact⟨e2,(e3 0 (by simp[ints]; try omega)).trans rfl,(e3 1 (by simp[ints]; try omega)).trans rfl,trivial⟩
 have HN0:Hid (∀(W:World) (M:Nat→Prop),StF W M S i g2 g3 g4→W.cell? ⟨g4,0,none⟩=some (.int .u8 (11:Int))):=yG fun W M h=>by have:=h.b4.1.cell 0; rw[HNC.out] at this; exact this
 have HN4:Hid (∀(W:World) (M:Nat→Prop),StF W M S i g2 g3 g4→W.cell? ⟨g4,4,none⟩=some (.slice (some ⟨kb,ko,none⟩) n kc)):=yG fun W M h=>by have:=h.b4.1.cell 4; rw[HNC.out,HKA.out,HKCC.out,HKN.out] at this; exact this
 have HUPA:Hid (i<a∧a<S.l.length):=yG (HUP.out a (by rw[HKK.out]; simp));have HUPB:Hid (i<b∧b<S.l.length):=yG (HUP.out b (by rw[HKK.out]; simp))
 have i0:(0:Int)<(n:Int):=by omega
 have i1:(1:Int)<(n:Int):=by omega
 have j0:0<n:=by omega
 have j1:1<n:=by omega
 generalize hwhole:vF (tN S.l) (f+1) i s=whole at *;clear hwhole;have n0:=HN0.out _ _ HR0.out.f
 go_upto_region 32 with fail
 clear n0
 cases hq:ofN (tN S.l) a s with
 | err j er=>
  have HQ:=yG hq;clear hq;have q2:=HR0.out.k2;have l2:=HR0.out.f.b2.1.lt;have n4:=HN4.out _ _ HR0.out.f;have l4:=HR0.out.f.b4.1.lt;have kbl:=(HKC.out _ _ _ HR0.out.nb).1;have zFc:=(HKC.out _ _ _ HR0.out.nb).2.1;have zMC:=(HKC.out _ _ _ HR0.out.nb).2.2.1;apply zEm (fun c w2=>jR w S R whole vU (.panicked c) w2) (by kernel_rfl) (by kernel_rfl) (by kernel_rfl) (fun a' ha c w2 hx=>⟨ha,hx⟩);apply jA (.pointer (some ⟨S.a,0,none⟩)) rfl rfl rfl
  ·intro w' hw' hH;have cc:=(hw'.cell (p:=⟨g2,0,none⟩) l2).trans q2;clear hH;simp[vP,go_sem,cc];exact Ext.refl _
  simp only[Act.put,yD,yE,yF];apply jA (.pointer (some ⟨g4,4,none⟩)) rfl rfl rfl
  ·intro w' hw' hH;clear hH;simp[vP,go_sem];exact Ext.refl _
  simp only[Act.put,yD,yE,yF];apply jA (.slice (some ⟨kb,ko,none⟩) n kc) rfl rfl rfl
  ·intro w' hw' hH;have cc:=(hw'.cell (p:=⟨g4,4,none⟩) l4).trans n4;clear hH;simp[vP,go_sem,cc];exact Ext.refl _
  simp only[Act.put,yD,yE,yF];apply jA (.pointer (some ⟨kb,ko+1,none⟩)) rfl rfl rfl
  ·intro w' hw' hH;clear hH;simp[vP,go_sem,i1,j1];exact Ext.refl _
  simp only[Act.put,yD,yE,yF];apply jA (.int .i64 (b:Int)) rfl rfl rfl
  ·intro w' hw' hH;have cc:=(hw'.cell (p:=⟨kb,ko+1,none⟩) kbl).trans zMC;clear hH;simp[vP,go_sem,cc];exact Ext.refl _
  simp only[Act.put,yD,yE,yF];apply jA (.pointer (some ⟨S.a,0,none⟩)) rfl rfl rfl
  ·intro w' hw' hH;have cc:=(hw'.cell (p:=⟨g2,0,none⟩) l2).trans q2;clear hH;simp[vP,go_sem,cc];exact Ext.refl _
  simp only[Act.put,yD,yE,yF];apply jA (.pointer (some ⟨g4,4,none⟩)) rfl rfl rfl
  ·intro w' hw' hH;clear hH;simp[vP,go_sem];exact Ext.refl _
  simp only[Act.put,yD,yE,yF];apply jA (.slice (some ⟨kb,ko,none⟩) n kc) rfl rfl rfl
  ·intro w' hw' hH;have cc:=(hw'.cell (p:=⟨g4,4,none⟩) l4).trans n4;clear hH;simp[vP,go_sem,cc];exact Ext.refl _
  simp only[Act.put,yD,yE,yF];apply jA (.pointer (some ⟨kb,ko,none⟩)) rfl rfl rfl
  ·intro w' hw' hH;clear hH;simp[vP,go_sem,i0,j0];exact Ext.refl _
  simp only[Act.put,yD,yE,yF];apply jA (.int .i64 (a:Int)) rfl rfl rfl
  ·intro w' hw' hH;have cc:=(hw'.cell (p:=⟨kb,ko,none⟩) kbl).trans zFc;clear hH;simp[vP,go_sem,cc];exact Ext.refl _
  simp only[Act.put,yD,yE,yF];apply VU (fun _ _=>False) (fun v w w' h hx=>h) rfl rfl rfl
  ·intro w' hw' hH;clear hH;have HRW:=Rn.zEX HR0 hw';simp[vP,go_sem];refine(zFI w' S s R a HRW.out.nb HUPA.out.2).mono ?_;intro e w2 hpost;rw[HQ.out] at hpost;obtain⟨rfl,hF⟩:=Rn.fail (whole:=whole) HRW hpost (by rw[HWH.out,HQ.out]; rfl);exact⟨_,rfl,hF⟩
  intro v145;apply VU (fun _ _=>False) (fun v w w' h hx=>h) rfl rfl rfl
  ·intro w' hw' hH;exact(hH _ (List.mem_cons_self ..) ⟨_,rfl,by decide⟩).elim
  intro v146;apply zGo;intro w' hw' hH;exact(hH _ (List.mem_cons_self ..)).elim
 | ok s1=>
  have HQ:=yG hq;obtain⟨tn,x,hx1,hx2,hx3⟩:=zLV (by rw[HR0.out.nb.len]; exact HUPA.out.2) hq;have HOF:=yG hx2;have HTB:Hid (s1.xH[tn]?=some x):=yG (by rw[hx3]; exact hx1);have HBK:Hid (s1.blocks.length+2*(f+1)+2≤100000∧s1.blocks≠[]):=yG (by rw[hx3]; exact HBL.out)
  have HW2:Hid (whole=(ZH (tN S.l) b (tn:Int) s1).bind (ZC (tN S.l) i)):=yG (by
   rw[HWH.out,hq]
   show(ZH (tN S.l) b (zAO s1 a) s1).bind (ZC (tN S.l) i)=_
   rw[hx2])
  clear hq hx1 hx2 hx3;have HWD:=Rn.zEX HR0 (Below.drew (Below.refl W4.heap.size W4))
  have HG:Hid (∀W',W'=W4.drew∨(∃R1,Rn w S R i g2 g3 g4 W' s1 R1)→W'.cell? ⟨g2,0,none⟩=some (.pointer (some ⟨S.a,0,none⟩))∧W'.cell? ⟨g4,4,none⟩=some (.slice (some ⟨kb,ko,none⟩) n kc)∧W'.cell? ⟨kb,ko,none⟩=some (.int .i64 (a:Int))∧W'.cell? ⟨kb,ko+1,none⟩=some (.int .i64 (b:Int))):=yG fun W' hw=>by
   rcases hw with rfl | ⟨R1,h⟩
   ·exact⟨HWD.out.k2,HN4.out _ _ HWD.out.f,(HKC.out _ _ _ HWD.out.nb).2.1,(HKC.out _ _ _ HWD.out.nb).2.2.1⟩
   ·exact⟨h.k2,HN4.out _ _ h.f,(HKC.out _ _ _ h.nb).2.1,(HKC.out _ _ _ h.nb).2.2.1⟩
  apply zJO 11 10 (fun w'=>∃R1,Rn w S R i g2 g3 g4 w' s1 R1) (fun _ _ h hx=>let ⟨R1,h⟩:=h; ⟨R1,(Rn.zEX (yG h) hx).out⟩) (by kernel_rfl) (by kernel_rfl) (by kernel_rfl) (by decide);dsimp only[List.take_succ_cons,List.take_zero,List.drop_succ_cons,List.drop_zero];apply zAm (.pointer (some ⟨S.a,0,none⟩)) rfl rfl
  ·intro w' hw';have cc:=(HG.out w' hw').1;clear hw';simp[xB,go_sem,cc]
  simp only[Act.put,yD,yE,yF];apply zAm (.pointer (some ⟨g4,4,none⟩)) rfl rfl
  ·intro w' hw';clear hw';simp[xB,go_sem]
  simp only[Act.put,yD,yE,yF];apply zAm (.slice (some ⟨kb,ko,none⟩) n kc) rfl rfl
  ·intro w' hw';have cc:=(HG.out w' hw').2.1;clear hw';simp[xB,go_sem,cc]
  simp only[Act.put,yD,yE,yF];apply zAm (.pointer (some ⟨kb,ko+1,none⟩)) rfl rfl
  ·intro w' hw';clear hw';simp[xB,go_sem,i1,j1]
  simp only[Act.put,yD,yE,yF];apply zAm (.int .i64 (b:Int)) rfl rfl
  ·intro w' hw';have cc:=(HG.out w' hw').2.2.2;clear hw';simp[xB,go_sem,cc]
  simp only[Act.put,yD,yE,yF];apply zAm (.pointer (some ⟨S.a,0,none⟩)) rfl rfl
  ·intro w' hw';have cc:=(HG.out w' hw').1;clear hw';simp[xB,go_sem,cc]
  simp only[Act.put,yD,yE,yF];apply zAm (.pointer (some ⟨g4,4,none⟩)) rfl rfl
  ·intro w' hw';clear hw';simp[xB,go_sem]
  simp only[Act.put,yD,yE,yF];apply zAm (.slice (some ⟨kb,ko,none⟩) n kc) rfl rfl
  ·intro w' hw';have cc:=(HG.out w' hw').2.1;clear hw';simp[xB,go_sem,cc]
  simp only[Act.put,yD,yE,yF];apply zAm (.pointer (some ⟨kb,ko,none⟩)) rfl rfl
  ·intro w' hw';clear hw';simp[xB,go_sem,i0,j0]
  simp only[Act.put,yD,yE,yF];apply zAm (.int .i64 (a:Int)) rfl rfl
  ·intro w' hw';have cc:=(HG.out w' hw').2.2.1;clear hw';simp[xB,go_sem,cc]
  simp only[Act.put,yD,yE,yF];apply zQ7 (fun v _=>v=.int .i64 (tn:Int)) rfl (fun v w w' h hx=>h) rfl rfl
  ·simp[xB,go_sem];refine(zFI W4.drew S s R a HWD.out.nb HUPA.out.2).mono ?_;intro e w2 hpost;rw[HQ.out] at hpost;obtain⟨he,R1,hk⟩:=hpost;exact⟨_,he,by show Value.int .i64 (zAO s1 a)=_; rw[HOF.out],R1,(Rn.step HWD hk).out⟩
  intro v145;simp only[Act.put,yD,yE,yF];apply zQ2;rintro w2 ⟨R1,hr⟩ hH;obtain rfl:v145=.int .i64 (tn:Int):=hH _ (List.mem_cons_self ..);clear hH;have HR2:=yG hr;clear hr
  go_wp2_with fail
  refine(zD4 w2 S s1 R1 b tn x HTB.out HR2.out.nb HUPB.out.2).mono ?_;intro e w4 hpost
  cases hq:ZH (tN S.l) b (tn:Int) s1 with
  | err j er=>
   rw[hq] at hpost;obtain⟨rfl,hF⟩:=Rn.fail (whole:=whole) HR2 hpost (by rw[HW2.out,hq]; rfl);exact xK (P:=Tryz.prog) (fn:=Tryz.f105) rfl hF
  | ok s4=>
   rw[hq] at hpost;obtain⟨rfl,R4,hk4⟩:=hpost;have HR4:=Rn.step HR2 hk4;have HQ4:=yG hq;have HBK:Hid (s4.blocks.length+2*(f+1)+2≤100000∧s4.blocks≠[]):=yG (by rw[(zFL hq).blocks]; exact HBK.out);have HW4:Hid (whole=ZC (tN S.l) i s4):=yG (by rw[HW2.out,hq]; rfl);clear hk4 hq;unfold vU;have n0:=HN0.out _ _ HR4.out.f;have q2:=HR4.out.k2;have q3:=HR4.out.k3;have HWA:Hid (whole=ZR (tN S.l) i s4):=yG (by rw[HW4.out]; exact zGK (by have:=HKI.out; omega))
   go_wp2_with fail
   clear n0 q2 q3;refine(zEp w4 S s4 R4 i HR4.out.nb HIL.out HBK.out.2 (by have:=HBK.out.1; omega)).mono ?_;intro e w9 hpost
   cases hq:ZR (tN S.l) i s4 with
   | err j er=>
    rw[hq] at hpost;obtain⟨rfl,hF⟩:=Rn.fail (whole:=whole) HR4 hpost (by rw[HWA.out,hq]);exact xK (P:=Tryz.prog) (fn:=Tryz.f105) rfl hF
   | ok s9=>
    rw[hq] at hpost;obtain⟨rfl,R9,hk9⟩:=hpost;have HF9:=yG (Rn.done (Rn.step HR4 hk9) (show whole=.ok s9 by rw[HWA.out,hq]));clear hk9 hq;unfold vU
    go_wp2_with fail
    go_end0;exact HF9.out
  all_goals kernel_rfl
theorem zNZ (f:Nat)(S:StN)(hT:zDZ S)(hst:zDW S f)(w:World)(s:Nr)(R:DyN)(i g2 g3 g4 a b c:Nat)(h:NB w S s R)(hF:StF w (xM S R) S i g2 g3 g4)(hi:i<S.l.length)(hf:S.l.length≤f+1+i)(hb:s.blocks.length+2*f+3≤100000)(hne:s.blocks≠[])(hkk:(xC (tN S.l) i).kids=[a,b,c]) :
  Calls Tryz.prog 134 #[.pointer (some ⟨g2,0,none⟩),.pointer (some ⟨g3,0,none⟩),.pointer (some ⟨g4,0,none⟩)] w (jR w S R ((vT (tN S.l) i true s).bind (jN (tN S.l) (vF (tN S.l) f) c false)) vU):=by
 have HT:=yG hT;have HSTM:=yG hst;have HIL:=yG hi;have HFI:=yG hf;have HBL:Hid (s.blocks.length+2*f+3≤100000∧s.blocks≠[]):=yG ⟨hb,hne⟩;have HR0:Hid (Rn w S R i g2 g3 g4 w s R):=yG ⟨h,xD.refl _ _,ZO.refl R,hF⟩;have HUPC:Hid (i<c∧c<S.l.length):=yG (hT.up (by rw[hkk]; simp))
 have hn4:∀(W:World) (M:Nat→Prop),StF W M S i g2 g3 g4→W.cell? ⟨g4,4,none⟩=some (.slice (hdN S.l i).1 3 (hdN S.l i).2):=fun W M h=>by have:=h.b4.1.cell 4; rw[show(vX S.l i)[4]?=some (.slice (hdN S.l i).1 (xC (tN S.l) i).kids.length (hdN S.l i).2) from rfl,hkk] at this; exact this
 have hks:∀(wr:World) (sk:Nr) (Rk:DyN),NB wr S sk Rk→Cells wr (hdN S.l i).1 (ints [a,b,c]):=fun wr sk Rk hn=>by have:=(hn.st.tree.kid i hi).cells; rw[hkk] at this; exact this
 generalize (hdN S.l i).2=kc at *;obtain⟨kb,ko,hkA,_,_⟩:=(hks _ _ _ h).at_ (by simp[ints]);rw[hkA] at hn4 hks;have HN4:=yG hn4
 have HKC:Hid (∀(wr:World) (sk:Nr) (Rk:DyN),NB wr S sk Rk→kb<wr.heap.size∧wr.cell? ⟨kb,ko+2,none⟩=some (.int .i64 (c:Int))):=yG fun wr sk Rk hn=>by
  obtain⟨b',o',e1,e2,e3⟩:=(hks wr sk Rk hn).at_ (by simp[ints]);injection e1 with e1;injection e1 with e1 e1';subst e1 e1';exact⟨e2,(e3 2 (by simp[ints])).trans rfl⟩
 obtain⟨whole,hwhole⟩:∃x,x=(vT (tN S.l) i true s).bind (jN (tN S.l) (vF (tN S.l) f) c false):=⟨_,rfl⟩;have HWH:=yG hwhole;rw[←hwhole];clear hwhole hT h hst hi hf hb hne hF hkk hn4 hks hkA;have q2:=HR0.out.k2;have q3:=HR0.out.k3
 go_enter Tryz.func134,Tryz.ntmps134
 go_wp2_with fail
 clear q2 q3;refine(zDF w S s R i true HR0.out.nb HIL.out HBL.out.2 (by have:=HBL.out.1; omega)).mono ?_;intro e w2 hpost
 cases hq:vT (tN S.l) i true s with
 | err j er=>
  rw[hq] at hpost;obtain⟨rfl,hF⟩:=Rn.fail (whole:=whole) HR0 hpost (by rw[HWH.out,hq]; rfl);exact xK (P:=Tryz.prog) (fn:=Tryz.f134) rfl hF
 | ok s2=>
  rw[hq] at hpost;obtain⟨rfl,R2,hk2⟩:=hpost;have HR2:=Rn.step HR0 hk2;have HQ2:=yG hq;have HB2:Hid (s2.blocks.length+2*f+3≤100000):=yG (by rw[(XI (zAu HBL.out.2 hq)).1]; exact HBL.out.1);have HW2:Hid (whole=jN (tN S.l) (vF (tN S.l) f) c false s2):=yG (by rw[HWH.out,hq]; rfl);clear hk2 hq;unfold vU
  go_upto_region 1 with fail
  have n4:=HN4.out _ _ HR2.out.f;have l4:=HR2.out.f.b4.1.lt;have q2:=HR2.out.k2;have l2:=HR2.out.f.b2.1.lt;have zU3:=(HKC.out _ _ _ HR2.out.nb).2;have kbl:=(HKC.out _ _ _ HR2.out.nb).1
  go_still_tail 5,(by kernel_rfl)
  change wpList _ _ _ _ _ (World.drew w2)
  have hx3:Ext w2 (World.drew w2):=Below.drew (Below.refl _ _);generalize World.drew w2=w3 at *;clear n4 l4 q2 l2 zU3 kbl;have HR3:=Rn.zEX HR2 hx3;clear hx3
  go_wp2_with fail
  refine(zFe f S HT.out HSTM.out w3 s2 R2 c false HR3.out.nb HUPC.out.2 (by have:=HUPC.out.1; have:=HFI.out; omega) (by have:=HB2.out; omega)).mono ?_;intro e w5 hpost
  cases hq:jN (tN S.l) (vF (tN S.l) f) c false s2 with
  | err j er=>
   rw[hq] at hpost;obtain⟨rfl,hF⟩:=Rn.fail (whole:=whole) HR3 hpost (by rw[HW2.out,hq]);exact xK (P:=Tryz.prog) (fn:=Tryz.f134) rfl hF
  | ok s5=>
   rw[hq] at hpost;obtain⟨rfl,R5,hk5⟩:=hpost;have HF9:=yG (Rn.done (Rn.step HR3 hk5) (show whole=.ok s5 by rw[HW2.out,hq]));clear hk5 hq;unfold vU
   go_wp2_with fail
   go_end0;exact HF9.out
theorem zR5 (f:Nat)(S:StN)(hT:zDZ S)(hst:zDW S f)(w:World)(s:Nr)(R:DyN)(i:Nat)(h:NB w S s R)(hi:i<S.l.length)(hf:S.l.length≤f+1+i)(hb:s.blocks.length+2*(f+1)+2≤100000)(hne:s.blocks≠[])(hk:(xC (tN S.l) i).kind=15) :
  Calls Tryz.prog 105 #[.pointer (some ⟨S.a,0,none⟩),.int .i64 (i:Int)] w (jR w S R (vF (tN S.l) (f+1) i s) vU):=by
 have HT:=yG hT;have HNB:=yG h;have HIL:=yG hi;have HSTM:=yG hst;have HFI:=yG hf;have HKI:=yG hk;have HTX:Hid ((xC (tN S.l) i).text.length≤maxLen):=yG (h.st.tree.txt i);have HBL:Hid (s.blocks.length+2*(f+1)+2≤100000∧s.blocks≠[]):=yG ⟨hb,hne⟩;have HKS:Hid (∀(wr:World) (sk:Nr) (Rk:DyN),NB wr S sk Rk→Cells wr (hdN S.l i).1 (ints (xC (tN S.l) i).kids)):=yG fun wr sk Rk hn=>(hn.st.tree.kid i hi).cells;have HUP:Hid (∀k,k ∈ (xC (tN S.l) i).kids→i<k∧k<S.l.length):=yG fun k hk=>hT.up hk;have HKB:Hid ((xC (tN S.l) i).kids.length≤100000):=yG (hT.kl i);have HKCAP:Hid ((xC (tN S.l) i).kids.length≤(hdN S.l i).2):=yG (h.st.tree.cap i hi);have HFORM:Hid (zAg (tN S.l) i):=yG (hT.R.form i (by rw[zAk]; exact hi) (by omega) (by omega));have HML:Hid (∀b,xM S R b→b<w.heap.size):=yG fun b hm=>h.ZU hm;obtain⟨W2,HW2⟩:∃W2,Hid ((w.alloc (.cells #[.pointer (some ⟨S.a,0,none⟩)] 78)).alloc (.cells #[.int .i64 (i:Int)] 3)=W2):=⟨_,yG rfl⟩;have HX2:Hid (Ext w W2):=yG (by rw[←HW2.out]; exact(Ext.alloc _ _).trans (Ext.alloc _ _))
 have HB2:Hid (Safe W2 (xM S R) w.heap.size 78 #[.pointer (some ⟨S.a,0,none⟩)]∧Safe W2 (xM S R) (w.heap.size+1) 3 #[.int .i64 (i:Int)]):=yG (by
  rw[←HW2.out];refine⟨⟨(Blk.new _ _ _).alloc _,fun hm=>by have:=HML.out _ hm; omega⟩,⟨?_,fun hm=>by have:=HML.out _ hm; omega⟩⟩
  have:=Blk.new (w.alloc (.cells #[.pointer (some ⟨S.a,0,none⟩)] 78)) 3 #[.int .i64 (i:Int)]
  rwa [yT] at this)
 clear hT h hst hi hf hb hne hk
 have q2:((w.alloc (.cells #[.pointer (some ⟨S.a,0,none⟩)] 78)).alloc (.cells #[.int .i64 (i:Int)] 3)).cell? ⟨w.heap.size,0,none⟩=some (.pointer (some ⟨S.a,0,none⟩)):=by rw[HW2.out]; exact HB2.out.1.1.cell 0
 have q3:((w.alloc (.cells #[.pointer (some ⟨S.a,0,none⟩)] 78)).alloc (.cells #[.int .i64 (i:Int)] 3)).cell? ⟨w.heap.size+1,0,none⟩=some (.int .i64 (i:Int)):=by rw[HW2.out]; exact HB2.out.2.1.cell 0
 go_enter Tryz.func105,Tryz.ntmps105
 go_wp2_with fail
 rw[HW2.out];clear q2 q3 HW2;refine(vV W2 S.a S.p S.A S.ct S.l i (HNB.out.ext HX2.out).rds HIL.out).mono ?_;rintro e w3 ⟨rfl,hx3⟩;obtain⟨W4,HW4⟩:∃W4,Hid (w3.alloc (.cells (vX S.l i) 39)=W4):=⟨_,yG rfl⟩;obtain⟨g2,HG2⟩:∃g2,Hid (w.heap.size=g2):=⟨_,yG rfl⟩;obtain⟨g3,HG3⟩:∃g3,Hid (w.heap.size+1=g3):=⟨_,yG rfl⟩;obtain⟨g4,HG4⟩:∃g4,Hid (w3.heap.size=g4):=⟨_,yG rfl⟩
 have HR0:Hid (Rn w S R i g2 g3 g4 W4 s R):=yG (by
  have hx4:Ext w3 W4:=by rw[←HW4.out]; exact Ext.alloc _ _
  have hx:=(HX2.out.trans hx3).trans hx4;refine⟨HNB.out.ext hx,xD.ext hx,ZO.refl R,?_,?_,?_⟩
  ·rw[←HG2.out]; exact(HB2.out.1.xG (xD.ext (M:=xM S R) hx3)).xG (xD.ext (M:=xM S R) hx4)
  ·rw[←HG3.out]; exact(HB2.out.2.xG (xD.ext (M:=xM S R) hx3)).xG (xD.ext (M:=xM S R) hx4)
  ·rw[←HG4.out,←HW4.out]
   exact(((HNB.out.ext HX2.out).ext hx3).fresh 39 (vX S.l i)))
 have HWH0:Hid (vF (tN S.l) (f+1) i s=vF (tN S.l) (f+1) i s):=yG rfl;have HNC:Hid (vX S.l i=#[.int .u8 (15:Int),.int .i64 (YY S.l i),.string (xI (xC (tN S.l) i).text),.int .i64 (xC (tN S.l) i).num,.slice (hdN S.l i).1 (xC (tN S.l) i).kids.length (hdN S.l i).2]):=yG (by unfold vX; rw[HKI.out]; try rfl);rw[HNC.out] at HW4 ⊢
 go_upto_region 2 with fail
 rw[HW4.out,HG4.out];rw[HG3.out,HG2.out];clear hx3 HW4 HG4 HB2 HX2
 obtain⟨a,b,c,hkk⟩:∃a b c,(xC (tN S.l) i).kids=[a,b,c]:=by
  have h:=HFORM.out;unfold zAg at h;rw[HKI.out] at h;obtain⟨a,b,c,h1,_⟩:=h;exact⟨a,b,c,h1⟩
 have HKK:=yG hkk;have HWH:=yG (zQ0 (f:=f) (s:=s) HKI.out hkk);clear hkk HWH0
 have HN0:Hid (∀(W:World) (M:Nat→Prop),StF W M S i g2 g3 g4→W.cell? ⟨g4,0,none⟩=some (.int .u8 (15:Int))):=yG fun W M h=>by have:=h.b4.1.cell 0; rw[HNC.out] at this; exact this
 have HN2:Hid (∀(W:World) (M:Nat→Prop),StF W M S i g2 g3 g4→W.cell? ⟨g4,2,none⟩=some (.string (xI (xC (tN S.l) i).text))):=yG fun W M h=>by have:=h.b4.1.cell 2; rw[HNC.out] at this; exact this
 generalize hwhole:vF (tN S.l) (f+1) i s=whole at *;clear hwhole;have n0:=HN0.out _ _ HR0.out.f;have n2:=HN2.out _ _ HR0.out.f;have q2:=HR0.out.k2
 go_upto_region 34 with fail
 clear n0
 go_wp2_with fail
 clear n2 q2;refine(HR0.out.nb.zEv (by have:=HBL.out.1; omega) _ HTX.out).mono ?_;rintro e w1 ⟨rfl,hx1⟩;have HR1:=Rn.zEX HR0 hx1;clear hx1
 cases hfd:VJ s (xC (tN S.l) i).text with
 | some v=>
  have HW1:Hid (whole=.err i 71):=yG (by rw[HWH.out,hfd]; rfl);simp only[zFR,Option.isSome_some];have HR2:=Rn.zEX HR1 (Ext.alloc w1 (.cells #[.int .i64 (v.n:Int),.bool v.loop] 130));have q2:=HR2.out.k2;have q3:=HR2.out.k3;clear hfd
  go_wp2_with fail
  refine(JP _ S.a S.p S.A S.ct S.l i 71 HR2.out.nb.rds HIL.out).mono ?_;rintro e w3 ⟨rfl,rfl⟩
  have HF:Hid (jR w S R whole vU (XG (YY S.l i) 71) (w1.alloc (.cells #[.int .i64 (v.n:Int),.bool v.loop] 130))):=yG (by
   rw[HW1.out]
   exact⟨rfl,HIL.out,_,HR2.out.mv⟩)
  exact xK (P:=Tryz.prog) (fn:=Tryz.f105) rfl HF.out
 | none=>
  have HW1:Hid (whole=(jQ (fun s=>(vT (tN S.l) i true s).bind (jN (tN S.l) (vF (tN S.l) f) c false)) s).bind (ZC (tN S.l) i)):=yG (by rw[HWH.out,hfd]; rfl);simp only[zFR,Option.isSome_none];have HR2:=Rn.zEX HR1 (Ext.alloc w1 (.cells #[.int .i64 0,.bool false] 130));have q2:=HR2.out.k2;have q3:=HR2.out.k3;clear hfd
  go_wp2_with fail
  refine(XC _ (.pointer (some ⟨S.a,0,none⟩)) (i:Int) 71).mono ?_;rintro e w3 ⟨rfl,rfl⟩
  go_wp2_with fail
  clear q2 q3;generalize w1.alloc (.cells #[.int .i64 0,.bool false] 130)=w2 at *
  have HWK:Hid (∀s',(fun s=>(vT (tN S.l) i true s).bind (jN (tN S.l) (vF (tN S.l) f) c false)) { s with blocks:=[]::s.blocks } = .ok s'→s'.blocks≠[]∧s'.blocks.length≤100000):=yG fun s' hq=>by
   obtain⟨s1,e1,e2⟩:=ZA hq;have k1:=XI (zAu (by simp) e1);have k2:=XI (zAA (fun k a b hne hq=>zBe HT.out.R f k a b hne hq) k1.2 e2);refine⟨k2.2,?_⟩;rw[k2.1,k1.1];simp only[zK]
   have:=HBL.out.1
   omega
  refine(zEt ZO zO7 w2 S s R 134 #[] #[.pointer (some ⟨g2,0,none⟩),.pointer (some ⟨g3,0,none⟩),.pointer (some ⟨g4,0,none⟩)] (fun s=>(vT (tN S.l) i true s).bind (jN (tN S.l) (vF (tN S.l) f) c false)) HR2.out.nb (by have:=HBL.out.1; omega) (enters_of Tryz.func134 (by kernel_rfl) rfl) HWK.out (fun wr R' _ _ hm hn=>?_)).mono ?_
  ·have:=zNZ f S HT.out HSTM.out wr { s with blocks:=[]::s.blocks } R' i g2 g3 g4 a b c hn (HR2.out.f.xG hm) HIL.out HFI.out (by simp only[zK]; have:=HBL.out.1; omega) (by simp) HKK.out
   exact Calls.mono this fun e w' hp=>hp.toQ
  intro e w5 hpost;have hpost:=hpost.toN
  cases hq:jQ (fun s=>(vT (tN S.l) i true s).bind (jN (tN S.l) (vF (tN S.l) f) c false)) s with
  | err j er=>
   rw[hq] at hpost;obtain⟨rfl,hF⟩:=Rn.fail (whole:=whole) HR2 hpost (by rw[HW1.out,hq]; rfl);exact xK (P:=Tryz.prog) (fn:=Tryz.f105) rfl hF
  | ok s5=>
   rw[hq] at hpost;obtain⟨rfl,R5,hk5⟩:=hpost;have HR5:=Rn.step HR2 hk5;have HW5:Hid (whole=ZC (tN S.l) i s5):=yG (by rw[HW1.out,hq]; rfl);clear hk5 hq;unfold vU;have n0:=HN0.out _ _ HR5.out.f;have HF9:=yG (Rn.done HR5 (show whole=.ok s5 by rw[HW5.out]; exact zFF (by have:=HKI.out; omega)))
   go_wp2_with fail
   go_end0;exact HF9.out
def zD7 (t:List Nd)(f:Nat)(k:Nat):Nn:=fun s=>if (xC t k).kind=5 then ofN t k s else if (xC t k).kind=6 then jN t (vF t f) k false s else xX t (f+1) k s
theorem zSz {t:List Nd}{i:Nat}{s s':Nr}(hb:s.blocks≠[])(h:ofN t i s=.ok s'):YP s s':=by
 unfold ofN at h
 split at h
 ·cases h
 ·injection h with h;rw[←h];exact(YU.set s i _).toS hb
theorem zGp {t:List Nd}(R:VA t){f k:Nat}{s s':Nr}(hb:s.blocks≠[])(h:zD7 t f k s=.ok s'):YP s s':=by
 unfold zD7 at h
 split at h
 ·exact zSz hb h
 ·split at h
  ·exact zAA (fun k a b hne hq=>zBe R f k a b hne hq) hb h
  ·exact(YE R (f+1) k s s' h).toS hb
theorem zL4 {t:List Nd}{f i nk:Nat}{s:Nr}(hk:(xC t i).kind=nk)(hno:nk≠7∧nk≠8∧nk≠9∧nk≠11∧nk≠15):vF t (f+1) i s=(vD (zD7 t f) (xC t i).kids s).bind (ZC t i):=by
 rw[vF,if_neg (by omega),if_neg (by omega),if_neg (by omega),if_neg (by omega)]
 rfl
theorem zM9 (nk:Nat)(f:Nat)(S:StN)(hT:zDZ S)(hst:zDW S f)(w:World)(s:Nr)(R:DyN)(i:Nat)(h:NB w S s R)(hi:i<S.l.length)(hf:S.l.length≤f+1+i)(hb:s.blocks.length+2*(f+1)+2≤100000)(hne:s.blocks≠[])(hk:(xC (tN S.l) i).kind=nk)(hno:nk≠7∧nk≠8∧nk≠9∧nk≠11∧nk≠15) :
  Calls Tryz.prog 105 #[.pointer (some ⟨S.a,0,none⟩),.int .i64 (i:Int)] w (jR w S R (vF (tN S.l) (f+1) i s) vU):=by
 have HT:=yG hT;have HNB:=yG h;have HIL:=yG hi;have HSTM:=yG hst;have HFI:=yG hf;have HKI:=yG hk;have HTX:Hid ((xC (tN S.l) i).text.length≤maxLen):=yG (h.st.tree.txt i);have HBL:Hid (s.blocks.length+2*(f+1)+2≤100000∧s.blocks≠[]):=yG ⟨hb,hne⟩;have HKS:Hid (∀(wr:World) (sk:Nr) (Rk:DyN),NB wr S sk Rk→Cells wr (hdN S.l i).1 (ints (xC (tN S.l) i).kids)):=yG fun wr sk Rk hn=>(hn.st.tree.kid i hi).cells;have HUP:Hid (∀k,k ∈ (xC (tN S.l) i).kids→i<k∧k<S.l.length):=yG fun k hk=>hT.up hk;have HKB:Hid ((xC (tN S.l) i).kids.length≤100000):=yG (hT.kl i);have HKCAP:Hid ((xC (tN S.l) i).kids.length≤(hdN S.l i).2):=yG (h.st.tree.cap i hi);have HNO:=yG hno;have HML:Hid (∀b,xM S R b→b<w.heap.size):=yG fun b hm=>h.ZU hm;obtain⟨W2,HW2⟩:∃W2,Hid ((w.alloc (.cells #[.pointer (some ⟨S.a,0,none⟩)] 78)).alloc (.cells #[.int .i64 (i:Int)] 3)=W2):=⟨_,yG rfl⟩;have HX2:Hid (Ext w W2):=yG (by rw[←HW2.out]; exact(Ext.alloc _ _).trans (Ext.alloc _ _))
 have HB2:Hid (Safe W2 (xM S R) w.heap.size 78 #[.pointer (some ⟨S.a,0,none⟩)]∧Safe W2 (xM S R) (w.heap.size+1) 3 #[.int .i64 (i:Int)]):=yG (by
  rw[←HW2.out];refine⟨⟨(Blk.new _ _ _).alloc _,fun hm=>by have:=HML.out _ hm; omega⟩,⟨?_,fun hm=>by have:=HML.out _ hm; omega⟩⟩
  have:=Blk.new (w.alloc (.cells #[.pointer (some ⟨S.a,0,none⟩)] 78)) 3 #[.int .i64 (i:Int)]
  rwa [yT] at this)
 clear hT h hst hi hf hb hne hk hno
 have q2:((w.alloc (.cells #[.pointer (some ⟨S.a,0,none⟩)] 78)).alloc (.cells #[.int .i64 (i:Int)] 3)).cell? ⟨w.heap.size,0,none⟩=some (.pointer (some ⟨S.a,0,none⟩)):=by rw[HW2.out]; exact HB2.out.1.1.cell 0
 have q3:((w.alloc (.cells #[.pointer (some ⟨S.a,0,none⟩)] 78)).alloc (.cells #[.int .i64 (i:Int)] 3)).cell? ⟨w.heap.size+1,0,none⟩=some (.int .i64 (i:Int)):=by rw[HW2.out]; exact HB2.out.2.1.cell 0
 go_enter Tryz.func105,Tryz.ntmps105
 go_wp2_with fail
 rw[HW2.out];clear q2 q3 HW2;refine(vV W2 S.a S.p S.A S.ct S.l i (HNB.out.ext HX2.out).rds HIL.out).mono ?_;rintro e w3 ⟨rfl,hx3⟩;obtain⟨W4,HW4⟩:∃W4,Hid (w3.alloc (.cells (vX S.l i) 39)=W4):=⟨_,yG rfl⟩;obtain⟨g2,HG2⟩:∃g2,Hid (w.heap.size=g2):=⟨_,yG rfl⟩;obtain⟨g3,HG3⟩:∃g3,Hid (w.heap.size+1=g3):=⟨_,yG rfl⟩;obtain⟨g4,HG4⟩:∃g4,Hid (w3.heap.size=g4):=⟨_,yG rfl⟩
 have HR0:Hid (Rn w S R i g2 g3 g4 W4 s R):=yG (by
  have hx4:Ext w3 W4:=by rw[←HW4.out]; exact Ext.alloc _ _
  have hx:=(HX2.out.trans hx3).trans hx4;refine⟨HNB.out.ext hx,xD.ext hx,ZO.refl R,?_,?_,?_⟩
  ·rw[←HG2.out]; exact(HB2.out.1.xG (xD.ext (M:=xM S R) hx3)).xG (xD.ext (M:=xM S R) hx4)
  ·rw[←HG3.out]; exact(HB2.out.2.xG (xD.ext (M:=xM S R) hx3)).xG (xD.ext (M:=xM S R) hx4)
  ·rw[←HG4.out,←HW4.out]
   exact(((HNB.out.ext HX2.out).ext hx3).fresh 39 (vX S.l i)))
 have HWH0:Hid (vF (tN S.l) (f+1) i s=vF (tN S.l) (f+1) i s):=yG rfl;have HNC:Hid (vX S.l i=#[.int .u8 ((nk:Int):Int),.int .i64 (YY S.l i),.string (xI (xC (tN S.l) i).text),.int .i64 (xC (tN S.l) i).num,.slice (hdN S.l i).1 (xC (tN S.l) i).kids.length (hdN S.l i).2]):=yG (by unfold vX; rw[HKI.out]; try rfl);rw[HNC.out] at HW4 ⊢
 go_upto_region 2 with fail
 rw[HW4.out,HG4.out];rw[HG3.out,HG2.out];clear hx3 HW4 HG4 HB2 HX2;have HWH:=yG (zL4 (f:=f) (s:=s) HKI.out HNO.out);clear HWH0;obtain⟨kA,HKA⟩:∃kA,Hid ((hdN S.l i).1=kA):=⟨_,yG rfl⟩;obtain⟨kc,HKCC⟩:∃kc,Hid ((hdN S.l i).2=kc):=⟨_,yG rfl⟩;obtain⟨Ks,HKE⟩:∃Ks,Hid ((xC (tN S.l) i).kids=Ks):=⟨_,yG rfl⟩;have HUPL:Hid (∀k,k ∈ Ks→i<k∧k<S.l.length):=yG (by rw[←HKE.out]; exact HUP.out);have HLC:Hid (∀(wr:World) (sk:Nr) (Rk:DyN),NB wr S sk Rk→Cells wr kA (ints Ks)):=yG (by rw[←HKE.out,←HKA.out]; exact HKS.out)
 have hkb:Ks.length≤100000:=by rw[←HKE.out]; exact HKB.out
 have HN0:Hid (∀(W:World) (M:Nat→Prop),StF W M S i g2 g3 g4→W.cell? ⟨g4,0,none⟩=some (.int .u8 (nk:Int))):=yG fun W M h=>by have:=h.b4.1.cell 0; rw[HNC.out] at this; exact this
 have HN4:Hid (∀(W:World) (M:Nat→Prop),StF W M S i g2 g3 g4→W.cell? ⟨g4,4,none⟩=some (.slice kA Ks.length kc)):=yG fun W M h=>by have:=h.b4.1.cell 4; rw[HNC.out,HKA.out,HKCC.out,HKE.out] at this; exact this
 rw[HKE.out] at HWH
 have m7:((nk:Int)==7)=false:=by have:=HNO.out; rw[yI]; omega
 have m8:((nk:Int)==8)=false:=by have:=HNO.out; rw[yI]; omega
 have m9:((nk:Int)==9)=false:=by have:=HNO.out; rw[yI]; omega
 have m11:((nk:Int)==11)=false:=by have:=HNO.out; rw[yI]; omega
 have m15:((nk:Int)==15)=false:=by have:=HNO.out; rw[yI]; omega
 generalize hwhole:vF (tN S.l) (f+1) i s=whole at *;clear hwhole;have n0:=HN0.out _ _ HR0.out.f;have n4:=HN4.out _ _ HR0.out.f;rw[HKA.out,HKCC.out,HKE.out]
 go_upto_region 4 with fail
 clear n0 n4;have HWL:Hid (whole=(vD (zD7 (tN S.l) f) (Ks.drop 0) s).bind (ZC (tN S.l) i)):=yG (by rw[HWH.out]; rfl)
 go_loopw [22] (fun i' wr=>∃(k:Nat) (sk:Nr) (Rk:DyN),k≤Ks.length∧i'=.int .i64 k∧Hid (Rn w S R i g2 g3 g4 wr sk Rk)∧Hid (sk.blocks.length+2*(f+1)+2≤100000∧sk.blocks≠[])∧Hid (whole=(vD (zD7 (tN S.l) f) (Ks.drop k) sk).bind (ZC (tN S.l) i))) (fun i' _=>Ks.length-(intOf i').toNat)
 case atStart=>exact⟨0,s,R,zW _,rfl,HR0,HBL,HWL⟩
 case round=>
  obtain⟨k,sk,Rk,hk,rfl,HRK,HBK,HWK⟩:=hrel;obtain⟨wa,rfl⟩:∃wa:World,wa=wr:=⟨_,rfl⟩
  by_cases hlt:k<Ks.length
  ·have d0:decide ((k:Int)<(Ks.length:Int))=true:=yS (by omega)
   have q1:(k:Int)<(Ks.length:Int):=by omega
   obtain⟨b',off,HAE,hb,hcc⟩:=(HLC.out wa sk Rk HRK.out.nb).at_ (by rw[vY]; omega)
   have e0:wa.cell? ⟨b',off+k,none⟩=some (.int .i64 ((Ks[k]:Nat):Int)):=by rw[hcc k (by rw[vY]; exact hlt)]; simp[ints,hlt]
   have HMEM:Hid (Ks[k] ∈ Ks):=yG (yO hlt);have HSN:Hid (vD (zD7 (tN S.l) f) (Ks.drop k) sk=((zD7 (tN S.l) f) Ks[k] sk).bind (vD (zD7 (tN S.l) f) (Ks.drop (k+1)))):=yG (by rw[List.drop_eq_getElem_cons hlt]; rfl);clear hcc;generalize Ks[k]=c at *;subst HAE;have q2:=HRK.out.k2
   go_wp2_with fail
   clear e0 q2;refine(vV wa S.a S.p S.A S.ct S.l c HRK.out.nb.rds (HUPL.out c HMEM.out).2).mono ?_;rintro e w4 ⟨rfl,hx4⟩;have HRC:=Rn.zEX HRK hx4;have f0:=zDJ S.l c w4;have q2:=HRC.out.k2;clear hx4;obtain⟨ck,HCK⟩:∃ck,Hid ((xC (tN S.l) c).kind=ck):=⟨_,yG rfl⟩;rw[HCK.out] at f0
   by_cases h5:ck=5
   ·subst h5;have HONE:Hid (zD7 (tN S.l) f c sk=ofN (tN S.l) c sk):=yG (by unfold zD7; rw[if_pos HCK.out])
    go_wp2_with fail
    clear f0 q2;refine(zFI w4 S sk Rk c HRC.out.nb (HUPL.out c HMEM.out).2).mono ?_;intro e w5 hpost
    cases hq:ofN (tN S.l) c sk with
    | err j er=>
     rw[hq] at hpost;obtain⟨rfl,hF⟩:=Rn.fail (whole:=whole) HRC hpost (by rw[HWK.out,HSN.out,HONE.out,hq]; rfl);exact xK (P:=Tryz.prog) (fn:=Tryz.f105) rfl hF
    | ok s5=>
     rw[hq] at hpost;obtain⟨rfl,R5,hk5⟩:=hpost;have HR5:=Rn.step HRC hk5
     have HB5:Hid (s5.blocks.length+2*(f+1)+2≤100000∧s5.blocks≠[]):=yG (by
      have hk:=XI (zGp HT.out.R HBK.out.2 (HONE.out.trans hq));rw[hk.1]
      exact⟨HBK.out.1,hk.2⟩)
     have HW5:Hid (whole=(vD (zD7 (tN S.l) f) (Ks.drop (k+1)) s5).bind (ZC (tN S.l) i)):=yG (by rw[HWK.out,HSN.out,HONE.out,hq]; rfl);clear hk5 hq
     try unfold vU
     go_wp2_with fail
     go_roundw
     case rel=>exact⟨k+1,s5,R5,by omega,by go_num,HR5,HB5,HW5⟩
     case measure=>simp[intOf]; omega
   ·by_cases h6:ck=6
    ·subst h6;have HONE:Hid (zD7 (tN S.l) f c sk=jN (tN S.l) (vF (tN S.l) f) c false sk):=yG (by unfold zD7; rw[if_neg (by rw[HCK.out]; decide),if_pos HCK.out])
     go_wp2_with fail
     clear f0 q2;refine(zFe f S HT.out HSTM.out w4 sk Rk c false HRC.out.nb (HUPL.out c HMEM.out).2 (by have:=(HUPL.out c HMEM.out).1; have:=HFI.out; omega) (by have:=HBK.out.1; omega)).mono ?_;intro e w5 hpost
     cases hq:jN (tN S.l) (vF (tN S.l) f) c false sk with
     | err j er=>
      rw[hq] at hpost;obtain⟨rfl,hF⟩:=Rn.fail (whole:=whole) HRC hpost (by rw[HWK.out,HSN.out,HONE.out,hq]; rfl);exact xK (P:=Tryz.prog) (fn:=Tryz.f105) rfl hF
     | ok s5=>
      rw[hq] at hpost;obtain⟨rfl,R5,hk5⟩:=hpost;have HR5:=Rn.step HRC hk5
      have HB5:Hid (s5.blocks.length+2*(f+1)+2≤100000∧s5.blocks≠[]):=yG (by
       have hk:=XI (zGp HT.out.R HBK.out.2 (HONE.out.trans hq));rw[hk.1]
       exact⟨HBK.out.1,hk.2⟩)
      have HW5:Hid (whole=(vD (zD7 (tN S.l) f) (Ks.drop (k+1)) s5).bind (ZC (tN S.l) i)):=yG (by rw[HWK.out,HSN.out,HONE.out,hq]; rfl);clear hk5 hq
      try unfold vU
      go_wp2_with fail
      go_roundw
      case rel=>exact⟨k+1,s5,R5,by omega,by go_num,HR5,HB5,HW5⟩
      case measure=>simp[intOf]; omega
    ·have HONE:Hid (zD7 (tN S.l) f c sk=xX (tN S.l) (f+1) c sk):=yG (by unfold zD7; rw[if_neg (by rw[HCK.out]; exact h5),if_neg (by rw[HCK.out]; exact h6)])
     have o5:((ck:Int)==5)=false:=by rw[yI]; omega
     have o6:((ck:Int)==6)=false:=by rw[yI]; omega
     clear h5 h6
     go_wp2_with fail
     clear f0 q2 o5 o6;refine(zBh (f+1) w4 S sk Rk c HT.out HRC.out.nb (HUPL.out c HMEM.out).2 (by have:=(HUPL.out c HMEM.out).1; have:=HFI.out; omega) (by have:=HBK.out.1; omega) HBK.out.2).mono ?_;intro e w5 hpost
     cases hq:xX (tN S.l) (f+1) c sk with
     | err j er=>
      rw[hq] at hpost;obtain⟨rfl,hF⟩:=Rn.fail (whole:=whole) HRC hpost (by rw[HWK.out,HSN.out,HONE.out,hq]; rfl);exact xK (P:=Tryz.prog) (fn:=Tryz.f105) rfl hF
     | ok s5=>
      rw[hq] at hpost;obtain⟨rfl,R5,hk5⟩:=hpost;have HR5:=Rn.step HRC hk5
      have HB5:Hid (s5.blocks.length+2*(f+1)+2≤100000∧s5.blocks≠[]):=yG (by
       have hk:=XI (zGp HT.out.R HBK.out.2 (HONE.out.trans hq));rw[hk.1]
       exact⟨HBK.out.1,hk.2⟩)
      have HW5:Hid (whole=(vD (zD7 (tN S.l) f) (Ks.drop (k+1)) s5).bind (ZC (tN S.l) i)):=yG (by rw[HWK.out,HSN.out,HONE.out,hq]; rfl);clear hk5 hq
      try unfold vU
      go_wp2_with fail
      go_roundw
      case rel=>exact⟨k+1,s5,R5,by omega,by go_num,HR5,HB5,HW5⟩
      case measure=>simp[intOf]; omega
  ·obtain rfl:k=Ks.length:=by omega
   have d0:decide ((Ks.length:Int)<(Ks.length:Int))=false:=by simp
   have d1:decide (Ks.length<Ks.length)=false:=by simp
   have HWT:Hid (whole=ZC (tN S.l) i sk):=yG (by rw[HWK.out,List.drop_length]; rfl)
   by_cases h16:nk=16
   ·subst h16;have n0:=HN0.out _ _ HRK.out.f;have q2:=HRK.out.k2;have q3:=HRK.out.k3;have HWA:Hid (whole=ZR (tN S.l) i sk):=yG (by rw[HWT.out]; exact zGK (by have:=HKI.out; omega))
    go_wp2_with fail
    clear n0 q2 q3;refine(zEp wa S sk Rk i HRK.out.nb HIL.out HBK.out.2 (by have:=HBK.out.1; omega)).mono ?_;intro e w9 hpost
    cases hq:ZR (tN S.l) i sk with
    | err j er=>
     rw[hq] at hpost;obtain⟨rfl,hF⟩:=Rn.fail (whole:=whole) HRK hpost (by rw[HWA.out,hq]);exact xK (P:=Tryz.prog) (fn:=Tryz.f105) rfl hF
    | ok s9=>
     rw[hq] at hpost;obtain⟨rfl,R9,hk9⟩:=hpost;have HF9:=yG (Rn.done (Rn.step HRK hk9) (show whole=.ok s9 by rw[HWA.out,hq]));clear hk9 hq;unfold vU
     go_wp2_with fail
     go_end0;exact HF9.out
   ·have m16:((nk:Int)==16)=false:=by rw[yI]; omega
    have n0:=HN0.out _ _ HRK.out.f;have HF9:=yG (Rn.done HRK (show whole=.ok sk by rw[HWT.out]; exact zFF (by have:=HKI.out; have:=HNO.out; omega)))
    go_wp2_with fail
    go_end0;exact HF9.out
theorem zKY (S:StN)(hT:zDZ S):∀f,zDW S f
 | 0=>fun w s R i h hi hf hb hne=>absurd hf (by omega)
 | f+1=>fun w s R i h hi hf hb hne=>by
  have hst:=zKY S hT f;obtain⟨nk,hk⟩:∃nk,(xC (tN S.l) i).kind=nk:=⟨_,rfl⟩
  by_cases h7:nk=7
  ·exact zTG f S hT hst w s R i h hi hf hb hne (hk.trans h7)
  by_cases h8:nk=8
  ·exact zTr f S hT hst w s R i h hi hf hb hne (hk.trans h8)
  by_cases h9:nk=9
  ·exact zS3 f S hT hst w s R i h hi hf hb hne (hk.trans h9)
  by_cases h11:nk=11
  ·exact zRi f S hT hst w s R i h hi hf hb hne (hk.trans h11)
  by_cases h15:nk=15
  ·exact zR5 f S hT hst w s R i h hi hf hb hne (hk.trans h15)
  exact zM9 nk f S hT hst w s R i h hi hf hb hne hk ⟨h7,h8,h9,h11,h15⟩
end Go.Proofs.YtbadjmmjbpeocaaGreatDoor
