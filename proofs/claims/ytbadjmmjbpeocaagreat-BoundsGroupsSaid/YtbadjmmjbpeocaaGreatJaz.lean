/- The reader of names: stmt: scan, for. (and what follows of it). The conditions stand at each lemma. -/
import Derived.Test.YtbadjmmjbpeocaaGreatJaa
import Derived.Test.YtbadjmmjbpeocaaGreatJay
import Derived.StillTailTactics
import Derived.Test.YtbadjmmjbpeocaaGreatJao
set_option linter.unusedVariables false
set_option linter.unusedSimpArgs false
set_option maxRecDepth 100000
set_option maxHeartbeats 16000000
namespace Go.Proofs.YtbadjmmjbpeocaaGreat
open Go Go.RowKit
theorem zOA {t:List Nd}{f i a b:Nat}{s:Nr}(hk:(yZ t i).kind=11)(hkk:(yZ t i).kids=[a,b]):vP t (f+1) i s=((ofN t a s).bind fun s=>YR t b (zCQ s a) s).bind (ZN t i):=by
 rw[vP,if_neg (by omega),if_neg (by omega),if_pos hk];unfold VQ;rw[hkk]
 rfl
theorem zQW {t:List Nd}{f i a b c:Nat}{s:Nr}(hk:(yZ t i).kind=15)(hkk:(yZ t i).kids=[a,b,c]):vP t (f+1) i s=((if (zA3 s (yZ t i).text).isSome=true then .err i 71 else ZH (fun s=>(jF t i true s).bind (ZJ t (vP t f) c false)) s):XH Nr).bind (ZN t i):=by
 rw[vP,if_neg (by omega),if_neg (by omega),if_neg (by omega),if_pos hk];unfold VQ;rw[hkk]
 rfl
theorem zRf (f:Nat)(S:StN)(hT:zEb S)(hst:zD7 S f)(w:World)(s:Nr)(R:DyN)(i:Nat)(h:NB w S s R)(hi:i<S.l.length)(hf:S.l.length≤f+1+i)(hb:s.blocks.length+2*(f+1)+2≤100000)(hne:s.blocks≠[])(hk:(yZ (tN S.l) i).kind=11) :
  Calls Tryz.prog 123 #[.pointer (some ⟨S.a,0,none⟩),.int .i64 (i:Int)] w (jR w S R (vP (tN S.l) (f+1) i s) vU):=by
 have HT:=yG hT;have Ae:=yG h;have Ai:=yG hi;have A1:=yG hst;have A6:=yG hf;have AS:=yG hk;have A5:Hid ((yZ (tN S.l) i).text.length≤maxLen):=yG (h.st.tree.txt i);have Aw:Hid (s.blocks.length+2*(f+1)+2≤100000∧s.blocks≠[]):=yG ⟨hb,hne⟩;have Al:Hid (∀(wr:World) (sk:Nr) (Rk:DyN),NB wr S sk Rk→Cells wr (hdN S.l i).1 (ints (yZ (tN S.l) i).kids)):=yG fun wr sk Rk hn=>(hn.st.tree.kid i hi).cells;have Aj:Hid (∀k,k ∈ (yZ (tN S.l) i).kids→i<k∧k<S.l.length):=yG fun k hk=>hT.up hk;have Ay:Hid ((yZ (tN S.l) i).kids.length≤100000):=yG (hT.kl i);have AP:Hid ((yZ (tN S.l) i).kids.length≤(hdN S.l i).2):=yG (h.st.tree.cap i hi);have AM:Hid (zCs (tN S.l) i):=yG (hT.R.form i (by rw[JO]; exact hi) (by omega) (by omega));have Ak:Hid (∀b,xL S R b→b<w.heap.size):=yG fun b hm=>h.ZW hm;obtain⟨W2,AE⟩:∃W2,Hid ((w.alloc (.cells #[.pointer (some ⟨S.a,0,none⟩)] 107)).alloc (.cells #[.int .i64 (i:Int)] 3)=W2):=⟨_,yG rfl⟩;have AU:Hid (Ext w W2):=yG (by rw[←AE.out]; exact(Ext.alloc _ _).trans (Ext.alloc _ _))
 have AN:Hid (Safe W2 (xL S R) w.heap.size 107 #[.pointer (some ⟨S.a,0,none⟩)]∧Safe W2 (xL S R) (w.heap.size+1) 3 #[.int .i64 (i:Int)]):=yG (by
  rw[←AE.out];refine⟨⟨(Blk.new _ _ _).alloc _,fun hm=>by have:=Ak.out _ hm; omega⟩,⟨?_,fun hm=>by have:=Ak.out _ hm; omega⟩⟩
  have:=Blk.new (w.alloc (.cells #[.pointer (some ⟨S.a,0,none⟩)] 107)) 3 #[.int .i64 (i:Int)]
  rwa [yT] at this)
 clear hT h hst hi hf hb hne hk
 have q2:((w.alloc (.cells #[.pointer (some ⟨S.a,0,none⟩)] 107)).alloc (.cells #[.int .i64 (i:Int)] 3)).cell? ⟨w.heap.size,0,none⟩=some (.pointer (some ⟨S.a,0,none⟩)):=by rw[AE.out]; exact AN.out.1.1.cell 0
 have q3:((w.alloc (.cells #[.pointer (some ⟨S.a,0,none⟩)] 107)).alloc (.cells #[.int .i64 (i:Int)] 3)).cell? ⟨w.heap.size+1,0,none⟩=some (.int .i64 (i:Int)):=by rw[AE.out]; exact AN.out.2.1.cell 0
 go_enter Tryz.func123,Tryz.ntmps123
 go_wp2_with fail
 rw[AE.out];clear q2 q3 AE;refine(vW W2 S.a S.p S.A S.ct S.l i (Ae.out.ext AU.out).rds Ai.out).mono ?_;rintro e w3 ⟨rfl,AD⟩;obtain⟨W4,AI⟩:∃W4,Hid (w3.alloc (.cells (vT S.l i) 38)=W4):=⟨_,yG rfl⟩;obtain⟨g2,Ar⟩:∃g2,Hid (w.heap.size=g2):=⟨_,yG rfl⟩;obtain⟨g3,At⟩:∃g3,Hid (w.heap.size+1=g3):=⟨_,yG rfl⟩;obtain⟨g4,Ab⟩:∃g4,Hid (w3.heap.size=g4):=⟨_,yG rfl⟩
 have AC:Hid (Rn w S R i g2 g3 g4 W4 s R):=yG (by
  have Aa:Ext w3 W4:=by rw[←AI.out]; exact Ext.alloc _ _
  have hx:=(AU.out.trans AD).trans Aa;refine⟨Ae.out.ext hx,xC.ext hx,ZQ.refl R,?_,?_,?_⟩
  ·rw[←Ar.out]; exact(AN.out.1.xE (xC.ext (M:=xL S R) AD)).xE (xC.ext (M:=xL S R) Aa)
  ·rw[←At.out]; exact(AN.out.2.xE (xC.ext (M:=xL S R) AD)).xE (xC.ext (M:=xL S R) Aa)
  ·rw[←Ab.out,←AI.out]
   exact(((Ae.out.ext AU.out).ext AD).fresh 38 (vT S.l i)))
 have AY:Hid (vP (tN S.l) (f+1) i s=vP (tN S.l) (f+1) i s):=yG rfl;have AW:Hid (vT S.l i=#[.int .u8 (11:Int),.int .i64 (YT S.l i),.string (xG (yZ (tN S.l) i).text),.int .i64 (yZ (tN S.l) i).num,.slice (hdN S.l i).1 (yZ (tN S.l) i).kids.length (hdN S.l i).2]):=yG (by unfold vT; rw[AS.out]; try rfl);rw[AW.out] at AI ⊢
 go_upto_region 2 with fail
 rw[AI.out,Ab.out];rw[At.out,Ar.out];clear AD AI Ab AN AU
 obtain⟨a,b,AZ⟩:∃a b,(yZ (tN S.l) i).kids=[a,b]:=by
  have h:=AM.out;unfold zCs at h;rw[AS.out] at h;exact h
 have AQ:=yG AZ;have Ag:=yG (zOA (f:=f) (s:=s) AS.out AZ);clear AZ AY;have Av:True:=trivial;obtain⟨kA,AT⟩:∃kA,Hid ((hdN S.l i).1=kA):=⟨_,yG rfl⟩;obtain⟨kc,AF⟩:∃kc,Hid ((hdN S.l i).2=kc):=⟨_,yG rfl⟩;obtain⟨n,AJ⟩:∃n,Hid ((yZ (tN S.l) i).kids.length=n):=⟨_,yG rfl⟩;rw[AT.out,AF.out,AJ.out]
 have A2:2≤n:=by have h:=AJ.out; rw[AQ.out] at h; simp at h; omega
 have A4:n≤kc:=by have h:=AP.out; rw[AJ.out,AF.out] at h; exact h
 have A7:n≤100000:=by have h:=Ay.out; rw[AJ.out] at h; exact h
 have Ac:=Al.out _ _ _ AC.out.nb;rw[AT.out] at Ac;obtain⟨kb,ko,rfl,_,_⟩:=Ac.at_ (by rw[vK,AJ.out]; omega);clear Ac Av
 have AG:Hid (∀(wr:World) (sk:Nr) (Rk:DyN),NB wr S sk Rk→kb<wr.heap.size∧wr.cell? ⟨kb,ko,none⟩=some (.int .i64 (a:Int))∧wr.cell? ⟨kb,ko+1,none⟩=some (.int .i64 (b:Int))∧True):=yG fun wr sk Rk hn=>by
  have hc:=Al.out wr sk Rk hn;rw[AT.out,AQ.out] at hc;obtain⟨b',o',e1,e2,e3⟩:=hc.at_ (by simp[ints]);injection e1 with e1;injection e1 with e1 e1';subst e1 e1';exact⟨e2,(e3 0 (by simp[ints]; try omega)).trans rfl,(e3 1 (by simp[ints]; try omega)).trans rfl,trivial⟩
 have Ao:Hid (∀(W:World) (M:Nat→Prop),StF W M S i g2 g3 g4→W.cell? ⟨g4,0,none⟩=some (.int .u8 (11:Int))):=yG fun W M h=>by have:=h.b4.1.cell 0; rw[AW.out] at this; exact this
 have Ad:Hid (∀(W:World) (M:Nat→Prop),StF W M S i g2 g3 g4→W.cell? ⟨g4,4,none⟩=some (.slice (some ⟨kb,ko,none⟩) n kc)):=yG fun W M h=>by have:=h.b4.1.cell 4; rw[AW.out,AT.out,AF.out,AJ.out] at this; exact this
 have AH:Hid (i<a∧a<S.l.length):=yG (Aj.out a (by rw[AQ.out]; simp));have AX:Hid (i<b∧b<S.l.length):=yG (Aj.out b (by rw[AQ.out]; simp))
 have i0:(0:Int)<(n:Int):=by omega
 have i1:(1:Int)<(n:Int):=by omega
 have j0:0<n:=by omega
 have j1:1<n:=by omega
 generalize hwhole:vP (tN S.l) (f+1) i s=whole at *;clear hwhole;have n0:=Ao.out _ _ AC.out.f
 go_upto_region 32 with fail
 clear n0
 cases hq:ofN (tN S.l) a s with
 | err j er=>
  have HQ:=yG hq;clear hq;have q2:=AC.out.k2;have l2:=AC.out.f.b2.1.lt;have n4:=Ad.out _ _ AC.out.f;have l4:=AC.out.f.b4.1.lt;have Am:=(AG.out _ _ _ AC.out.nb).1;have zFk:=(AG.out _ _ _ AC.out.nb).2.1;have zMJ:=(AG.out _ _ _ AC.out.nb).2.2.1;apply zEx (fun c w2=>jR w S R whole vU (.panicked c) w2) (by kernel_rfl) (by kernel_rfl) (by kernel_rfl) (fun a' ha c w2 hx=>⟨ha,hx⟩);apply vZ (.pointer (some ⟨S.a,0,none⟩)) rfl rfl rfl
  ·intro w' AB hH;have cc:=(AB.cell (p:=⟨g2,0,none⟩) l2).trans q2;clear hH;simp[vQ,go_sem,cc];exact Ext.refl _
  (try simp only[Act.put,yD,yE,yF]);apply vZ (.pointer (some ⟨g4,4,none⟩)) rfl rfl rfl
  ·intro w' AB hH;clear hH;simp[vQ,go_sem];exact Ext.refl _
  (try simp only[Act.put,yD,yE,yF]);apply vZ (.slice (some ⟨kb,ko,none⟩) n kc) rfl rfl rfl
  ·intro w' AB hH;have cc:=(AB.cell (p:=⟨g4,4,none⟩) l4).trans n4;clear hH;simp[vQ,go_sem,cc];exact Ext.refl _
  (try simp only[Act.put,yD,yE,yF]);apply vZ (.pointer (some ⟨kb,ko+1,none⟩)) rfl rfl rfl
  ·intro w' AB hH;clear hH;simp[vQ,go_sem,i1,j1];exact Ext.refl _
  (try simp only[Act.put,yD,yE,yF]);apply vZ (.int .i64 (b:Int)) rfl rfl rfl
  ·intro w' AB hH;have cc:=(AB.cell (p:=⟨kb,ko+1,none⟩) Am).trans zMJ;clear hH;simp[vQ,go_sem,cc];exact Ext.refl _
  (try simp only[Act.put,yD,yE,yF]);apply vZ (.pointer (some ⟨S.a,0,none⟩)) rfl rfl rfl
  ·intro w' AB hH;have cc:=(AB.cell (p:=⟨g2,0,none⟩) l2).trans q2;clear hH;simp[vQ,go_sem,cc];exact Ext.refl _
  (try simp only[Act.put,yD,yE,yF]);apply vZ (.pointer (some ⟨g4,4,none⟩)) rfl rfl rfl
  ·intro w' AB hH;clear hH;simp[vQ,go_sem];exact Ext.refl _
  (try simp only[Act.put,yD,yE,yF]);apply vZ (.slice (some ⟨kb,ko,none⟩) n kc) rfl rfl rfl
  ·intro w' AB hH;have cc:=(AB.cell (p:=⟨g4,4,none⟩) l4).trans n4;clear hH;simp[vQ,go_sem,cc];exact Ext.refl _
  (try simp only[Act.put,yD,yE,yF]);apply vZ (.pointer (some ⟨kb,ko,none⟩)) rfl rfl rfl
  ·intro w' AB hH;clear hH;simp[vQ,go_sem,i0,j0];exact Ext.refl _
  (try simp only[Act.put,yD,yE,yF]);apply vZ (.int .i64 (a:Int)) rfl rfl rfl
  ·intro w' AB hH;have cc:=(AB.cell (p:=⟨kb,ko,none⟩) Am).trans zFk;clear hH;simp[vQ,go_sem,cc];exact Ext.refl _
  (try simp only[Act.put,yD,yE,yF]);apply VR (fun _ _=>False) (fun v w w' h hx=>h) rfl rfl rfl
  ·intro w' AB hH;clear hH;have As:=Rn.zE8 AC AB;simp[vQ,go_sem];refine(zFP w' S s R a As.out.nb AH.out.2).mono ?_;intro e w2 AA;rw[HQ.out] at AA;obtain⟨rfl,hF⟩:=Rn.fail (whole:=whole) As AA (by rw[Ag.out,HQ.out]; rfl);exact⟨_,rfl,hF⟩
  intro AO;apply VR (fun _ _=>False) (fun v w w' h hx=>h) rfl rfl rfl
  ·intro w' AB hH;exact(hH _ (List.mem_cons_self ..) ⟨_,rfl,by decide⟩).elim
  intro Ax;apply zGl;intro w' AB hH;exact(hH _ (List.mem_cons_self ..)).elim
 | ok s1=>
  have HQ:=yG hq;obtain⟨tn,x,An,AV,AD⟩:=zL6 (by rw[AC.out.nb.len]; exact AH.out.2) hq;have Au:=yG AV;have Az:Hid (s1.xH[tn]?=some x):=yG (by rw[AD]; exact An);have AR:Hid (s1.blocks.length+2*(f+1)+2≤100000∧s1.blocks≠[]):=yG (by rw[AD]; exact Aw.out)
  have AE:Hid (whole=(YR (tN S.l) b (tn:Int) s1).bind (ZN (tN S.l) i)):=yG (by
   rw[Ag.out,hq]
   show(YR (tN S.l) b (zCQ s1 a) s1).bind (ZN (tN S.l) i)=_
   rw[AV])
  clear hq An AV AD;have AK:=Rn.zE8 AC (Below.drew (Below.refl W4.heap.size W4))
  have HG:Hid (∀W',W'=W4.drew∨(∃R1,Rn w S R i g2 g3 g4 W' s1 R1)→W'.cell? ⟨g2,0,none⟩=some (.pointer (some ⟨S.a,0,none⟩))∧W'.cell? ⟨g4,4,none⟩=some (.slice (some ⟨kb,ko,none⟩) n kc)∧W'.cell? ⟨kb,ko,none⟩=some (.int .i64 (a:Int))∧W'.cell? ⟨kb,ko+1,none⟩=some (.int .i64 (b:Int))):=yG fun W' hw=>by
   rcases hw with rfl | ⟨R1,h⟩
   ·exact⟨AK.out.k2,Ad.out _ _ AK.out.f,(AG.out _ _ _ AK.out.nb).2.1,(AG.out _ _ _ AK.out.nb).2.2.1⟩
   ·exact⟨h.k2,Ad.out _ _ h.f,(AG.out _ _ _ h.nb).2.1,(AG.out _ _ _ h.nb).2.2.1⟩
  apply zJH 11 10 (fun w'=>∃R1,Rn w S R i g2 g3 g4 w' s1 R1) (fun _ _ h hx=>let ⟨R1,h⟩:=h; ⟨R1,(Rn.zE8 (yG h) hx).out⟩) (by kernel_rfl) (by kernel_rfl) (by kernel_rfl) (by decide);dsimp only[List.take_succ_cons,List.take_zero,List.drop_succ_cons,List.drop_zero];apply zAo (.pointer (some ⟨S.a,0,none⟩)) rfl rfl
  ·intro w' AB;have cc:=(HG.out w' AB).1;clear AB;simp[xA,go_sem,cc]
  (try simp only[Act.put,yD,yE,yF]);apply zAo (.pointer (some ⟨g4,4,none⟩)) rfl rfl
  ·intro w' AB;clear AB;simp[xA,go_sem]
  (try simp only[Act.put,yD,yE,yF]);apply zAo (.slice (some ⟨kb,ko,none⟩) n kc) rfl rfl
  ·intro w' AB;have cc:=(HG.out w' AB).2.1;clear AB;simp[xA,go_sem,cc]
  (try simp only[Act.put,yD,yE,yF]);apply zAo (.pointer (some ⟨kb,ko+1,none⟩)) rfl rfl
  ·intro w' AB;clear AB;simp[xA,go_sem,i1,j1]
  (try simp only[Act.put,yD,yE,yF]);apply zAo (.int .i64 (b:Int)) rfl rfl
  ·intro w' AB;have cc:=(HG.out w' AB).2.2.2;clear AB;simp[xA,go_sem,cc]
  (try simp only[Act.put,yD,yE,yF]);apply zAo (.pointer (some ⟨S.a,0,none⟩)) rfl rfl
  ·intro w' AB;have cc:=(HG.out w' AB).1;clear AB;simp[xA,go_sem,cc]
  (try simp only[Act.put,yD,yE,yF]);apply zAo (.pointer (some ⟨g4,4,none⟩)) rfl rfl
  ·intro w' AB;clear AB;simp[xA,go_sem]
  (try simp only[Act.put,yD,yE,yF]);apply zAo (.slice (some ⟨kb,ko,none⟩) n kc) rfl rfl
  ·intro w' AB;have cc:=(HG.out w' AB).2.1;clear AB;simp[xA,go_sem,cc]
  (try simp only[Act.put,yD,yE,yF]);apply zAo (.pointer (some ⟨kb,ko,none⟩)) rfl rfl
  ·intro w' AB;clear AB;simp[xA,go_sem,i0,j0]
  (try simp only[Act.put,yD,yE,yF]);apply zAo (.int .i64 (a:Int)) rfl rfl
  ·intro w' AB;have cc:=(HG.out w' AB).2.2.1;clear AB;simp[xA,go_sem,cc]
  (try simp only[Act.put,yD,yE,yF]);apply zQ3 (fun v _=>v=.int .i64 (tn:Int)) rfl (fun v w w' h hx=>h) rfl rfl
  ·simp[xA,go_sem];refine(zFP W4.drew S s R a AK.out.nb AH.out.2).mono ?_;intro e w2 AA;rw[HQ.out] at AA;obtain⟨he,R1,hk⟩:=AA;exact⟨_,he,by show Value.int .i64 (zCQ s1 a)=_; rw[Au.out],R1,(Rn.step AK hk).out⟩
  intro AO;(try simp only[Act.put,yD,yE,yF]);apply zQY;rintro w2 ⟨R1,hr⟩ hH;obtain rfl:AO=.int .i64 (tn:Int):=hH _ (List.mem_cons_self ..);clear hH;have Af:=yG hr;clear hr
  go_wp2_with fail
  refine(zEg w2 S s1 R1 b tn x Az.out Af.out.nb AX.out.2).mono ?_;intro e w4 AA
  cases hq:YR (tN S.l) b (tn:Int) s1 with
  | err j er=>
   rw[hq] at AA;obtain⟨rfl,hF⟩:=Rn.fail (whole:=whole) Af AA (by rw[AE.out,hq]; rfl);exact xJ (P:=Tryz.prog) (fn:=Tryz.f123) rfl hF
  | ok s4=>
   rw[hq] at AA;obtain⟨rfl,R4,Ap⟩:=AA;have AL:=Rn.step Af Ap;have A3:=yG hq;have AR:Hid (s4.blocks.length+2*(f+1)+2≤100000∧s4.blocks≠[]):=yG (by rw[(zFU hq).blocks]; exact AR.out);have AI:Hid (whole=ZN (tN S.l) i s4):=yG (by rw[AE.out,hq]; rfl);clear Ap hq;unfold vU;have n0:=Ao.out _ _ AL.out.f;have q2:=AL.out.k2;have q3:=AL.out.k3;have Ah:Hid (whole=YQ (tN S.l) i s4):=yG (by rw[AI.out]; exact zGI (by have:=AS.out; omega))
   go_wp2_with fail
   clear n0 q2 q3;refine(zEy w4 S s4 R4 i AL.out.nb Ai.out AR.out.2 (by have:=AR.out.1; omega)).mono ?_;intro e w9 AA
   cases hq:YQ (tN S.l) i s4 with
   | err j er=>
    rw[hq] at AA;obtain⟨rfl,hF⟩:=Rn.fail (whole:=whole) AL AA (by rw[Ah.out,hq]);exact xJ (P:=Tryz.prog) (fn:=Tryz.f123) rfl hF
   | ok s9=>
    rw[hq] at AA;obtain⟨rfl,R9,Aq⟩:=AA;have A0:=yG (Rn.done (Rn.step AL Aq) (show whole=.ok s9 by rw[Ah.out,hq]));clear Aq hq;unfold vU
    go_wp2_with fail
    go_end0;exact A0.out
  all_goals kernel_rfl
theorem zN7 (f:Nat)(S:StN)(hT:zEb S)(hst:zD7 S f)(w:World)(s:Nr)(R:DyN)(i g2 g3 g4 a b c:Nat)(h:NB w S s R)(hF:StF w (xL S R) S i g2 g3 g4)(hi:i<S.l.length)(hf:S.l.length≤f+1+i)(hb:s.blocks.length+2*f+3≤100000)(hne:s.blocks≠[])(hkk:(yZ (tN S.l) i).kids=[a,b,c]) :
  Calls Tryz.prog 153 #[.pointer (some ⟨g2,0,none⟩),.pointer (some ⟨g3,0,none⟩),.pointer (some ⟨g4,0,none⟩)] w (jR w S R ((jF (tN S.l) i true s).bind (ZJ (tN S.l) (vP (tN S.l) f) c false)) vU):=by
 have HT:=yG hT;have AJ:=yG hst;have AS:=yG hi;have AV:=yG hf;have AF:Hid (s.blocks.length+2*f+3≤100000∧s.blocks≠[]):=yG ⟨hb,hne⟩;have AE:Hid (Rn w S R i g2 g3 g4 w s R):=yG ⟨h,xC.refl _ _,ZQ.refl R,hF⟩;have AD:Hid (i<c∧c<S.l.length):=yG (hT.up (by rw[hkk]; simp))
 have AH:∀(W:World) (M:Nat→Prop),StF W M S i g2 g3 g4→W.cell? ⟨g4,4,none⟩=some (.slice (hdN S.l i).1 3 (hdN S.l i).2):=fun W M h=>by have:=h.b4.1.cell 4; rw[show(vT S.l i)[4]?=some (.slice (hdN S.l i).1 (yZ (tN S.l) i).kids.length (hdN S.l i).2) from rfl,hkk] at this; exact this
 have AG:∀(wr:World) (sk:Nr) (Rk:DyN),NB wr S sk Rk→Cells wr (hdN S.l i).1 (ints [a,b,c]):=fun wr sk Rk hn=>by have:=(hn.st.tree.kid i hi).cells; rw[hkk] at this; exact this
 generalize (hdN S.l i).2=kc at *;obtain⟨kb,ko,AP,_,_⟩:=(AG _ _ _ h).at_ (by simp[ints]);rw[AP] at AH AG;have AT:=yG AH
 have AL:Hid (∀(wr:World) (sk:Nr) (Rk:DyN),NB wr S sk Rk→kb<wr.heap.size∧wr.cell? ⟨kb,ko+2,none⟩=some (.int .i64 (c:Int))):=yG fun wr sk Rk hn=>by
  obtain⟨b',o',e1,e2,e3⟩:=(AG wr sk Rk hn).at_ (by simp[ints]);injection e1 with e1;injection e1 with e1 e1';subst e1 e1';exact⟨e2,(e3 2 (by simp[ints])).trans rfl⟩
 obtain⟨whole,AB⟩:∃x,x=(jF (tN S.l) i true s).bind (ZJ (tN S.l) (vP (tN S.l) f) c false):=⟨_,rfl⟩;have AK:=yG AB;rw[←AB];clear AB hT h hst hi hf hb hne hF hkk AH AG AP;have q2:=AE.out.k2;have q3:=AE.out.k3
 go_enter Tryz.func153,Tryz.ntmps153
 go_wp2_with fail
 clear q2 q3;refine(zDQ w S s R i true AE.out.nb AS.out AF.out.2 (by have:=AF.out.1; omega)).mono ?_;intro e w2 AA
 cases hq:jF (tN S.l) i true s with
 | err j er=>
  rw[hq] at AA;obtain⟨rfl,hF⟩:=Rn.fail (whole:=whole) AE AA (by rw[AK.out,hq]; rfl);exact xJ (P:=Tryz.prog) (fn:=Tryz.f153) rfl hF
 | ok s2=>
  rw[hq] at AA;obtain⟨rfl,R2,AN⟩:=AA;have AC:=Rn.step AE AN;have AX:=yG hq;have AW:Hid (s2.blocks.length+2*f+3≤100000):=yG (by rw[(XL (zA8 AF.out.2 hq)).1]; exact AF.out.1);have AO:Hid (whole=ZJ (tN S.l) (vP (tN S.l) f) c false s2):=yG (by rw[AK.out,hq]; rfl);clear AN hq;unfold vU
  go_upto_region 1 with fail
  have n4:=AT.out _ _ AC.out.f;have l4:=AC.out.f.b4.1.lt;have q2:=AC.out.k2;have l2:=AC.out.f.b2.1.lt;have zUO:=(AL.out _ _ _ AC.out.nb).2;have AR:=(AL.out _ _ _ AC.out.nb).1
  go_still_tail 5,(by kernel_rfl)
  change wpList _ _ _ _ _ (World.drew w2)
  have AQ:Ext w2 (World.drew w2):=Below.drew (Below.refl _ _);generalize World.drew w2=w3 at *;clear n4 l4 q2 l2 zUO AR;have AI:=Rn.zE8 AC AQ;clear AQ
  go_wp2_with fail
  refine(zFm f S HT.out AJ.out w3 s2 R2 c false AI.out.nb AD.out.2 (by have:=AD.out.1; have:=AV.out; omega) (by have:=AW.out; omega)).mono ?_;intro e w5 AA
  cases hq:ZJ (tN S.l) (vP (tN S.l) f) c false s2 with
  | err j er=>
   rw[hq] at AA;obtain⟨rfl,hF⟩:=Rn.fail (whole:=whole) AI AA (by rw[AO.out,hq]);exact xJ (P:=Tryz.prog) (fn:=Tryz.f153) rfl hF
  | ok s5=>
   rw[hq] at AA;obtain⟨rfl,R5,AM⟩:=AA;have AU:=yG (Rn.done (Rn.step AI AM) (show whole=.ok s5 by rw[AO.out,hq]));clear AM hq;unfold vU
   go_wp2_with fail
   go_end0;exact AU.out
theorem zRZ (f:Nat)(S:StN)(hT:zEb S)(hst:zD7 S f)(w:World)(s:Nr)(R:DyN)(i:Nat)(h:NB w S s R)(hi:i<S.l.length)(hf:S.l.length≤f+1+i)(hb:s.blocks.length+2*(f+1)+2≤100000)(AJ:s.blocks≠[])(hk:(yZ (tN S.l) i).kind=15) :
  Calls Tryz.prog 123 #[.pointer (some ⟨S.a,0,none⟩),.int .i64 (i:Int)] w (jR w S R (vP (tN S.l) (f+1) i s) vU):=by
 have HT:=yG hT;have AU:=yG h;have AM:=yG hi;have AT:=yG hst;have Aj:=yG hf;have AL:=yG hk;have Ah:Hid ((yZ (tN S.l) i).text.length≤maxLen):=yG (h.st.tree.txt i);have AK:Hid (s.blocks.length+2*(f+1)+2≤100000∧s.blocks≠[]):=yG ⟨hb,AJ⟩;have Ao:Hid (∀(wr:World) (sk:Nr) (Rk:DyN),NB wr S sk Rk→Cells wr (hdN S.l i).1 (ints (yZ (tN S.l) i).kids)):=yG fun wr sk Rk hn=>(hn.st.tree.kid i hi).cells;have An:Hid (∀k,k ∈ (yZ (tN S.l) i).kids→i<k∧k<S.l.length):=yG fun k hk=>hT.up hk;have Am:Hid ((yZ (tN S.l) i).kids.length≤100000):=yG (hT.kl i);have AY:Hid ((yZ (tN S.l) i).kids.length≤(hdN S.l i).2):=yG (h.st.tree.cap i hi);have AE:Hid (zCs (tN S.l) i):=yG (hT.R.form i (by rw[JO]; exact hi) (by omega) (by omega));have AZ:Hid (∀b,xL S R b→b<w.heap.size):=yG fun b hm=>h.ZW hm;obtain⟨W2,AC⟩:∃W2,Hid ((w.alloc (.cells #[.pointer (some ⟨S.a,0,none⟩)] 107)).alloc (.cells #[.int .i64 (i:Int)] 3)=W2):=⟨_,yG rfl⟩;have AN:Hid (Ext w W2):=yG (by rw[←AC.out]; exact(Ext.alloc _ _).trans (Ext.alloc _ _))
 have AF:Hid (Safe W2 (xL S R) w.heap.size 107 #[.pointer (some ⟨S.a,0,none⟩)]∧Safe W2 (xL S R) (w.heap.size+1) 3 #[.int .i64 (i:Int)]):=yG (by
  rw[←AC.out];refine⟨⟨(Blk.new _ _ _).alloc _,fun hm=>by have:=AZ.out _ hm; omega⟩,⟨?_,fun hm=>by have:=AZ.out _ hm; omega⟩⟩
  have:=Blk.new (w.alloc (.cells #[.pointer (some ⟨S.a,0,none⟩)] 107)) 3 #[.int .i64 (i:Int)]
  rwa [yT] at this)
 clear hT h hst hi hf hb AJ hk
 have q2:((w.alloc (.cells #[.pointer (some ⟨S.a,0,none⟩)] 107)).alloc (.cells #[.int .i64 (i:Int)] 3)).cell? ⟨w.heap.size,0,none⟩=some (.pointer (some ⟨S.a,0,none⟩)):=by rw[AC.out]; exact AF.out.1.1.cell 0
 have q3:((w.alloc (.cells #[.pointer (some ⟨S.a,0,none⟩)] 107)).alloc (.cells #[.int .i64 (i:Int)] 3)).cell? ⟨w.heap.size+1,0,none⟩=some (.int .i64 (i:Int)):=by rw[AC.out]; exact AF.out.2.1.cell 0
 go_enter Tryz.func123,Tryz.ntmps123
 go_wp2_with fail
 rw[AC.out];clear q2 q3 AC;refine(vW W2 S.a S.p S.A S.ct S.l i (AU.out.ext AN.out).rds AM.out).mono ?_;rintro e w3 ⟨rfl,AD⟩;obtain⟨W4,AG⟩:∃W4,Hid (w3.alloc (.cells (vT S.l i) 38)=W4):=⟨_,yG rfl⟩;obtain⟨g2,Ad⟩:∃g2,Hid (w.heap.size=g2):=⟨_,yG rfl⟩;obtain⟨g3,Ae⟩:∃g3,Hid (w.heap.size+1=g3):=⟨_,yG rfl⟩;obtain⟨g4,AS⟩:∃g4,Hid (w3.heap.size=g4):=⟨_,yG rfl⟩
 have AH:Hid (Rn w S R i g2 g3 g4 W4 s R):=yG (by
  have AR:Ext w3 W4:=by rw[←AG.out]; exact Ext.alloc _ _
  have hx:=(AN.out.trans AD).trans AR;refine⟨AU.out.ext hx,xC.ext hx,ZQ.refl R,?_,?_,?_⟩
  ·rw[←Ad.out]; exact(AF.out.1.xE (xC.ext (M:=xL S R) AD)).xE (xC.ext (M:=xL S R) AR)
  ·rw[←Ae.out]; exact(AF.out.2.xE (xC.ext (M:=xL S R) AD)).xE (xC.ext (M:=xL S R) AR)
  ·rw[←AS.out,←AG.out]
   exact(((AU.out.ext AN.out).ext AD).fresh 38 (vT S.l i)))
 have AP:Hid (vP (tN S.l) (f+1) i s=vP (tN S.l) (f+1) i s):=yG rfl;have AO:Hid (vT S.l i=#[.int .u8 (15:Int),.int .i64 (YT S.l i),.string (xG (yZ (tN S.l) i).text),.int .i64 (yZ (tN S.l) i).num,.slice (hdN S.l i).1 (yZ (tN S.l) i).kids.length (hdN S.l i).2]):=yG (by unfold vT; rw[AL.out]; try rfl);rw[AO.out] at AG ⊢
 go_upto_region 2 with fail
 rw[AG.out,AS.out];rw[Ae.out,Ad.out];clear AD AG AS AF AN
 obtain⟨a,b,c,AQ⟩:∃a b c,(yZ (tN S.l) i).kids=[a,b,c]:=by
  have h:=AE.out;unfold zCs at h;rw[AL.out] at h;obtain⟨a,b,c,h1,_⟩:=h;exact⟨a,b,c,h1⟩
 have Af:=yG AQ;have AV:=yG (zQW (f:=f) (s:=s) AL.out AQ);clear AQ AP
 have Ab:Hid (∀(W:World) (M:Nat→Prop),StF W M S i g2 g3 g4→W.cell? ⟨g4,0,none⟩=some (.int .u8 (15:Int))):=yG fun W M h=>by have:=h.b4.1.cell 0; rw[AO.out] at this; exact this
 have Ag:Hid (∀(W:World) (M:Nat→Prop),StF W M S i g2 g3 g4→W.cell? ⟨g4,2,none⟩=some (.string (xG (yZ (tN S.l) i).text))):=yG fun W M h=>by have:=h.b4.1.cell 2; rw[AO.out] at this; exact this
 generalize hwhole:vP (tN S.l) (f+1) i s=whole at *;clear hwhole;have n0:=Ab.out _ _ AH.out.f;have n2:=Ag.out _ _ AH.out.f;have q2:=AH.out.k2
 go_upto_region 34 with fail
 clear n0
 go_wp2_with fail
 clear n2 q2;refine(AH.out.nb.zED (by have:=AK.out.1; omega) _ Ah.out).mono ?_;rintro e w1 ⟨rfl,Aa⟩;have AX:=Rn.zE8 AH Aa;clear Aa
 cases hfd:zA3 s (yZ (tN S.l) i).text with
 | some v=>
  have AI:Hid (whole=.err i 71):=yG (by rw[AV.out,hfd]; rfl);simp only[zFY,Option.isSome_some];have AB:=Rn.zE8 AX (Ext.alloc w1 (.cells #[.int .i64 (v.n:Int),.bool v.loop] 169));have q2:=AB.out.k2;have q3:=AB.out.k3;clear hfd
  go_wp2_with fail
  refine(JW _ S.a S.p S.A S.ct S.l i 71 AB.out.nb.rds AM.out).mono ?_;rintro e w3 ⟨rfl,rfl⟩
  have HF:Hid (jR w S R whole vU (XI (YT S.l i) 71) (w1.alloc (.cells #[.int .i64 (v.n:Int),.bool v.loop] 169))):=yG (by
   rw[AI.out]
   exact⟨rfl,AM.out,_,AB.out.mv⟩)
  exact xJ (P:=Tryz.prog) (fn:=Tryz.f123) rfl HF.out
 | none=>
  have AI:Hid (whole=(ZH (fun s=>(jF (tN S.l) i true s).bind (ZJ (tN S.l) (vP (tN S.l) f) c false)) s).bind (ZN (tN S.l) i)):=yG (by rw[AV.out,hfd]; rfl);simp only[zFY,Option.isSome_none];have AB:=Rn.zE8 AX (Ext.alloc w1 (.cells #[.int .i64 0,.bool false] 169));have q2:=AB.out.k2;have q3:=AB.out.k3;clear hfd
  go_wp2_with fail
  refine(XC _ (.pointer (some ⟨S.a,0,none⟩)) (i:Int) 71).mono ?_;rintro e w3 ⟨rfl,rfl⟩
  go_wp2_with fail
  clear q2 q3;generalize w1.alloc (.cells #[.int .i64 0,.bool false] 169)=w2 at *
  have Al:Hid (∀s',(fun s=>(jF (tN S.l) i true s).bind (ZJ (tN S.l) (vP (tN S.l) f) c false)) { s with blocks:=[]::s.blocks } = .ok s'→s'.blocks≠[]∧s'.blocks.length≤100000):=yG fun s' hq=>by
   obtain⟨s1,e1,e2⟩:=XD hq;have k1:=XL (zA8 (by simp) e1);have k2:=XL (zAB (fun k a b AJ hq=>zBa HT.out.R f k a b AJ hq) k1.2 e2);refine⟨k2.2,?_⟩;rw[k2.1,k1.1];simp only[zK]
   have:=AK.out.1
   omega
  refine(zEB ZQ zO6 w2 S s R 153 #[] #[.pointer (some ⟨g2,0,none⟩),.pointer (some ⟨g3,0,none⟩),.pointer (some ⟨g4,0,none⟩)] (fun s=>(jF (tN S.l) i true s).bind (ZJ (tN S.l) (vP (tN S.l) f) c false)) AB.out.nb (by have:=AK.out.1; omega) (enters_of Tryz.func153 (by kernel_rfl) rfl) Al.out (fun wr R' _ _ hm hn=>?_)).mono ?_
  ·have:=zN7 f S HT.out AT.out wr { s with blocks:=[]::s.blocks } R' i g2 g3 g4 a b c hn (AB.out.f.xE hm) AM.out Aj.out (by simp only[zK]; have:=AK.out.1; omega) (by simp) Af.out
   exact Calls.mono this fun e w' hp=>hp.toQ
  intro e w5 AA;have AA:=AA.toN
  cases hq:ZH (fun s=>(jF (tN S.l) i true s).bind (ZJ (tN S.l) (vP (tN S.l) f) c false)) s with
  | err j er=>
   rw[hq] at AA;obtain⟨rfl,hF⟩:=Rn.fail (whole:=whole) AB AA (by rw[AI.out,hq]; rfl);exact xJ (P:=Tryz.prog) (fn:=Tryz.f123) rfl hF
  | ok s5=>
   rw[hq] at AA;obtain⟨rfl,R5,AW⟩:=AA;have Ac:=Rn.step AB AW;have Ak:Hid (whole=ZN (tN S.l) i s5):=yG (by rw[AI.out,hq]; rfl);clear AW hq;unfold vU;have n0:=Ab.out _ _ Ac.out.f;have Ai:=yG (Rn.done Ac (show whole=.ok s5 by rw[Ak.out]; exact zFL (by have:=AL.out; omega)))
   go_wp2_with fail
   go_end0;exact Ai.out
def zEk (t:List Nd)(f:Nat)(k:Nat):Nn:=fun s=>if (yZ t k).kind=5 then ofN t k s else if (yZ t k).kind=6 then ZJ t (vP t f) k false s else vD t (f+1) k s
theorem zSt {t:List Nd}{i:Nat}{s s':Nr}(hb:s.blocks≠[])(h:ofN t i s=.ok s'):YW s s':=by
 unfold ofN at h
 split at h
 ·cases h
 ·injection h with h;rw[←h];exact(YY.set s i _).toS hb
theorem zGm {t:List Nd}(R:zBU t){f k:Nat}{s s':Nr}(hb:s.blocks≠[])(h:zEk t f k s=.ok s'):YW s s':=by
 unfold zEk at h
 split at h
 ·exact zSt hb h
 ·split at h
  ·exact zAB (fun k a b AA hq=>zBa R f k a b AA hq) hb h
  ·exact(YF R (f+1) k s s' h).toS hb
theorem zMi {t:List Nd}{f i nk:Nat}{s:Nr}(hk:(yZ t i).kind=nk)(hno:nk≠7∧nk≠8∧nk≠9∧nk≠11∧nk≠15):vP t (f+1) i s=(vJ (zEk t f) (yZ t i).kids s).bind (ZN t i):=by
 rw[vP,if_neg (by omega),if_neg (by omega),if_neg (by omega),if_neg (by omega)]
 rfl
theorem zNh (nk:Nat)(f:Nat)(S:StN)(hT:zEb S)(hst:zD7 S f)(w:World)(s:Nr)(R:DyN)(i:Nat)(h:NB w S s R)(hi:i<S.l.length)(hf:S.l.length≤f+1+i)(hb:s.blocks.length+2*(f+1)+2≤100000)(hne:s.blocks≠[])(hk:(yZ (tN S.l) i).kind=nk)(hno:nk≠7∧nk≠8∧nk≠9∧nk≠11∧nk≠15) :
  Calls Tryz.prog 123 #[.pointer (some ⟨S.a,0,none⟩),.int .i64 (i:Int)] w (jR w S R (vP (tN S.l) (f+1) i s) vU):=by
 have HT:=yG hT;have Ag:=yG h;have Ak:=yG hi;have Ae:=yG hst;have Ar:=yG hf;have AX:=yG hk;have A6:Hid ((yZ (tN S.l) i).text.length≤maxLen):=yG (h.st.tree.txt i);have Au:Hid (s.blocks.length+2*(f+1)+2≤100000∧s.blocks≠[]):=yG ⟨hb,hne⟩;have Az:Hid (∀(wr:World) (sk:Nr) (Rk:DyN),NB wr S sk Rk→Cells wr (hdN S.l i).1 (ints (yZ (tN S.l) i).kids)):=yG fun wr sk Rk hn=>(hn.st.tree.kid i hi).cells;have Ay:Hid (∀k,k ∈ (yZ (tN S.l) i).kids→i<k∧k<S.l.length):=yG fun k hk=>hT.up hk;have Ax:Hid ((yZ (tN S.l) i).kids.length≤100000):=yG (hT.kl i);have Am:Hid ((yZ (tN S.l) i).kids.length≤(hdN S.l i).2):=yG (h.st.tree.cap i hi);have AI:=yG hno;have An:Hid (∀b,xL S R b→b<w.heap.size):=yG fun b hm=>h.ZW hm;obtain⟨W2,AO⟩:∃W2,Hid ((w.alloc (.cells #[.pointer (some ⟨S.a,0,none⟩)] 107)).alloc (.cells #[.int .i64 (i:Int)] 3)=W2):=⟨_,yG rfl⟩;have AY:Hid (Ext w W2):=yG (by rw[←AO.out]; exact(Ext.alloc _ _).trans (Ext.alloc _ _))
 have AR:Hid (Safe W2 (xL S R) w.heap.size 107 #[.pointer (some ⟨S.a,0,none⟩)]∧Safe W2 (xL S R) (w.heap.size+1) 3 #[.int .i64 (i:Int)]):=yG (by
  rw[←AO.out];refine⟨⟨(Blk.new _ _ _).alloc _,fun hm=>by have:=An.out _ hm; omega⟩,⟨?_,fun hm=>by have:=An.out _ hm; omega⟩⟩
  have:=Blk.new (w.alloc (.cells #[.pointer (some ⟨S.a,0,none⟩)] 107)) 3 #[.int .i64 (i:Int)]
  rwa [yT] at this)
 clear hT h hst hi hf hb hne hk hno
 have q2:((w.alloc (.cells #[.pointer (some ⟨S.a,0,none⟩)] 107)).alloc (.cells #[.int .i64 (i:Int)] 3)).cell? ⟨w.heap.size,0,none⟩=some (.pointer (some ⟨S.a,0,none⟩)):=by rw[AO.out]; exact AR.out.1.1.cell 0
 have q3:((w.alloc (.cells #[.pointer (some ⟨S.a,0,none⟩)] 107)).alloc (.cells #[.int .i64 (i:Int)] 3)).cell? ⟨w.heap.size+1,0,none⟩=some (.int .i64 (i:Int)):=by rw[AO.out]; exact AR.out.2.1.cell 0
 go_enter Tryz.func123,Tryz.ntmps123
 go_wp2_with fail
 rw[AO.out];clear q2 q3 AO;refine(vW W2 S.a S.p S.A S.ct S.l i (Ag.out.ext AY.out).rds Ak.out).mono ?_;rintro e w3 ⟨rfl,AQ⟩;obtain⟨W4,AU⟩:∃W4,Hid (w3.alloc (.cells (vT S.l i) 38)=W4):=⟨_,yG rfl⟩;obtain⟨g2,Aq⟩:∃g2,Hid (w.heap.size=g2):=⟨_,yG rfl⟩;obtain⟨g3,As⟩:∃g3,Hid (w.heap.size+1=g3):=⟨_,yG rfl⟩;obtain⟨g4,Ab⟩:∃g4,Hid (w3.heap.size=g4):=⟨_,yG rfl⟩
 have Ah:Hid (Rn w S R i g2 g3 g4 W4 s R):=yG (by
  have AM:Ext w3 W4:=by rw[←AU.out]; exact Ext.alloc _ _
  have hx:=(AY.out.trans AQ).trans AM;refine⟨Ag.out.ext hx,xC.ext hx,ZQ.refl R,?_,?_,?_⟩
  ·rw[←Aq.out]; exact(AR.out.1.xE (xC.ext (M:=xL S R) AQ)).xE (xC.ext (M:=xL S R) AM)
  ·rw[←As.out]; exact(AR.out.2.xE (xC.ext (M:=xL S R) AQ)).xE (xC.ext (M:=xL S R) AM)
  ·rw[←Ab.out,←AU.out]
   exact(((Ag.out.ext AY.out).ext AQ).fresh 38 (vT S.l i)))
 have Aa:Hid (vP (tN S.l) (f+1) i s=vP (tN S.l) (f+1) i s):=yG rfl;have AZ:Hid (vT S.l i=#[.int .u8 ((nk:Int):Int),.int .i64 (YT S.l i),.string (xG (yZ (tN S.l) i).text),.int .i64 (yZ (tN S.l) i).num,.slice (hdN S.l i).1 (yZ (tN S.l) i).kids.length (hdN S.l i).2]):=yG (by unfold vT; rw[AX.out]; try rfl);rw[AZ.out] at AU ⊢
 go_upto_region 2 with fail
 rw[AU.out,Ab.out];rw[As.out,Aq.out];clear AQ AU Ab AR AY;have Ai:=yG (zMi (f:=f) (s:=s) AX.out AI.out);clear Aa;obtain⟨kA,Af⟩:∃kA,Hid ((hdN S.l i).1=kA):=⟨_,yG rfl⟩;obtain⟨kc,AS⟩:∃kc,Hid ((hdN S.l i).2=kc):=⟨_,yG rfl⟩;obtain⟨Ks,AK⟩:∃Ks,Hid ((yZ (tN S.l) i).kids=Ks):=⟨_,yG rfl⟩;have AD:Hid (∀k,k ∈ Ks→i<k∧k<S.l.length):=yG (by rw[←AK.out]; exact Ay.out);have A1:Hid (∀(wr:World) (sk:Nr) (Rk:DyN),NB wr S sk Rk→Cells wr kA (ints Ks)):=yG (by rw[←AK.out,←Af.out]; exact Az.out)
 have A7:Ks.length≤100000:=by rw[←AK.out]; exact Ax.out
 have Ac:Hid (∀(W:World) (M:Nat→Prop),StF W M S i g2 g3 g4→W.cell? ⟨g4,0,none⟩=some (.int .u8 (nk:Int))):=yG fun W M h=>by have:=h.b4.1.cell 0; rw[AZ.out] at this; exact this
 have A0:Hid (∀(W:World) (M:Nat→Prop),StF W M S i g2 g3 g4→W.cell? ⟨g4,4,none⟩=some (.slice kA Ks.length kc)):=yG fun W M h=>by have:=h.b4.1.cell 4; rw[AZ.out,Af.out,AS.out,AK.out] at this; exact this
 rw[AK.out] at Ai
 have m7:((nk:Int)==7)=false:=by have:=AI.out; rw[yI]; omega
 have m8:((nk:Int)==8)=false:=by have:=AI.out; rw[yI]; omega
 have m9:((nk:Int)==9)=false:=by have:=AI.out; rw[yI]; omega
 have A3:((nk:Int)==11)=false:=by have:=AI.out; rw[yI]; omega
 have A5:((nk:Int)==15)=false:=by have:=AI.out; rw[yI]; omega
 generalize hwhole:vP (tN S.l) (f+1) i s=whole at *;clear hwhole;have n0:=Ac.out _ _ Ah.out.f;have n4:=A0.out _ _ Ah.out.f;rw[Af.out,AS.out,AK.out]
 go_upto_region 4 with fail
 clear n0 n4;have Aw:Hid (whole=(vJ (zEk (tN S.l) f) (Ks.drop 0) s).bind (ZN (tN S.l) i)):=yG (by rw[Ai.out]; rfl)
 go_loopw [22] (fun i' wr=>∃(k:Nat) (sk:Nr) (Rk:DyN),k≤Ks.length∧i'=.int .i64 k∧Hid (Rn w S R i g2 g3 g4 wr sk Rk)∧Hid (sk.blocks.length+2*(f+1)+2≤100000∧sk.blocks≠[])∧Hid (whole=(vJ (zEk (tN S.l) f) (Ks.drop k) sk).bind (ZN (tN S.l) i))) (fun i' _=>Ks.length-(intOf i').toNat)
 case atStart=>exact⟨0,s,R,zW _,rfl,Ah,Au,Aw⟩
 case round=>
  obtain⟨k,sk,Rk,hk,rfl,AE,AF,AJ⟩:=hrel;obtain⟨wa,rfl⟩:∃wa:World,wa=wr:=⟨_,rfl⟩
  by_cases AW:k<Ks.length
  ·have d0:decide ((k:Int)<(Ks.length:Int))=true:=yS (by omega)
   have q1:(k:Int)<(Ks.length:Int):=by omega
   obtain⟨b',A2,At,hb,Ao⟩:=(A1.out wa sk Rk AE.out.nb).at_ (by rw[vK]; omega)
   have e0:wa.cell? ⟨b',A2+k,none⟩=some (.int .i64 ((Ks[k]:Nat):Int)):=by rw[Ao k (by rw[vK]; exact AW)]; simp[ints,AW]
   have AC:Hid (Ks[k] ∈ Ks):=yG (yO AW);have AL:Hid (vJ (zEk (tN S.l) f) (Ks.drop k) sk=((zEk (tN S.l) f) Ks[k] sk).bind (vJ (zEk (tN S.l) f) (Ks.drop (k+1)))):=yG (by rw[List.drop_eq_getElem_cons AW]; rfl);clear Ao;generalize Ks[k]=c at *;subst At;have q2:=AE.out.k2
   go_wp2_with fail
   clear e0 q2;refine(vW wa S.a S.p S.A S.ct S.l c AE.out.nb.rds (AD.out c AC.out).2).mono ?_;rintro e w4 ⟨rfl,AM⟩;have AG:=Rn.zE8 AE AM;have f0:=zDU S.l c w4;have q2:=AG.out.k2;clear AM;obtain⟨ck,AN⟩:∃ck,Hid ((yZ (tN S.l) c).kind=ck):=⟨_,yG rfl⟩;rw[AN.out] at f0
   by_cases h5:ck=5
   ·subst h5;have AB:Hid (zEk (tN S.l) f c sk=ofN (tN S.l) c sk):=yG (by unfold zEk; rw[if_pos AN.out])
    go_wp2_with fail
    clear f0 q2;refine(zFP w4 S sk Rk c AG.out.nb (AD.out c AC.out).2).mono ?_;intro e w5 AA
    cases hq:ofN (tN S.l) c sk with
    | err j er=>
     rw[hq] at AA;obtain⟨rfl,hF⟩:=Rn.fail (whole:=whole) AG AA (by rw[AJ.out,AL.out,AB.out,hq]; rfl);exact xJ (P:=Tryz.prog) (fn:=Tryz.f123) rfl hF
    | ok s5=>
     rw[hq] at AA;obtain⟨rfl,R5,AH⟩:=AA;have AT:=Rn.step AG AH
     have AP:Hid (s5.blocks.length+2*(f+1)+2≤100000∧s5.blocks≠[]):=yG (by
      have hk:=XL (zGm HT.out.R AF.out.2 (AB.out.trans hq));rw[hk.1]
      exact⟨AF.out.1,hk.2⟩)
     have AV:Hid (whole=(vJ (zEk (tN S.l) f) (Ks.drop (k+1)) s5).bind (ZN (tN S.l) i)):=yG (by rw[AJ.out,AL.out,AB.out,hq]; rfl);clear AH hq
     try unfold vU
     go_wp2_with fail
     go_roundw
     case rel=>exact⟨k+1,s5,R5,by omega,by go_num,AT,AP,AV⟩
     case measure=>simp[intOf]; omega
   ·by_cases h6:ck=6
    ·subst h6;have AB:Hid (zEk (tN S.l) f c sk=ZJ (tN S.l) (vP (tN S.l) f) c false sk):=yG (by unfold zEk; rw[if_neg (by rw[AN.out]; decide),if_pos AN.out])
     go_wp2_with fail
     clear f0 q2;refine(zFm f S HT.out Ae.out w4 sk Rk c false AG.out.nb (AD.out c AC.out).2 (by have:=(AD.out c AC.out).1; have:=Ar.out; omega) (by have:=AF.out.1; omega)).mono ?_;intro e w5 AA
     cases hq:ZJ (tN S.l) (vP (tN S.l) f) c false sk with
     | err j er=>
      rw[hq] at AA;obtain⟨rfl,hF⟩:=Rn.fail (whole:=whole) AG AA (by rw[AJ.out,AL.out,AB.out,hq]; rfl);exact xJ (P:=Tryz.prog) (fn:=Tryz.f123) rfl hF
     | ok s5=>
      rw[hq] at AA;obtain⟨rfl,R5,AH⟩:=AA;have AT:=Rn.step AG AH
      have AP:Hid (s5.blocks.length+2*(f+1)+2≤100000∧s5.blocks≠[]):=yG (by
       have hk:=XL (zGm HT.out.R AF.out.2 (AB.out.trans hq));rw[hk.1]
       exact⟨AF.out.1,hk.2⟩)
      have AV:Hid (whole=(vJ (zEk (tN S.l) f) (Ks.drop (k+1)) s5).bind (ZN (tN S.l) i)):=yG (by rw[AJ.out,AL.out,AB.out,hq]; rfl);clear AH hq
      try unfold vU
      go_wp2_with fail
      go_roundw
      case rel=>exact⟨k+1,s5,R5,by omega,by go_num,AT,AP,AV⟩
      case measure=>simp[intOf]; omega
    ·have AB:Hid (zEk (tN S.l) f c sk=vD (tN S.l) (f+1) c sk):=yG (by unfold zEk; rw[if_neg (by rw[AN.out]; exact h5),if_neg (by rw[AN.out]; exact h6)])
     have o5:((ck:Int)==5)=false:=by rw[yI]; omega
     have o6:((ck:Int)==6)=false:=by rw[yI]; omega
     clear h5 h6
     go_wp2_with fail
     clear f0 q2 o5 o6;refine(zBd (f+1) w4 S sk Rk c HT.out AG.out.nb (AD.out c AC.out).2 (by have:=(AD.out c AC.out).1; have:=Ar.out; omega) (by have:=AF.out.1; omega) AF.out.2).mono ?_;intro e w5 AA
     cases hq:vD (tN S.l) (f+1) c sk with
     | err j er=>
      rw[hq] at AA;obtain⟨rfl,hF⟩:=Rn.fail (whole:=whole) AG AA (by rw[AJ.out,AL.out,AB.out,hq]; rfl);exact xJ (P:=Tryz.prog) (fn:=Tryz.f123) rfl hF
     | ok s5=>
      rw[hq] at AA;obtain⟨rfl,R5,AH⟩:=AA;have AT:=Rn.step AG AH
      have AP:Hid (s5.blocks.length+2*(f+1)+2≤100000∧s5.blocks≠[]):=yG (by
       have hk:=XL (zGm HT.out.R AF.out.2 (AB.out.trans hq));rw[hk.1]
       exact⟨AF.out.1,hk.2⟩)
      have AV:Hid (whole=(vJ (zEk (tN S.l) f) (Ks.drop (k+1)) s5).bind (ZN (tN S.l) i)):=yG (by rw[AJ.out,AL.out,AB.out,hq]; rfl);clear AH hq
      try unfold vU
      go_wp2_with fail
      go_roundw
      case rel=>exact⟨k+1,s5,R5,by omega,by go_num,AT,AP,AV⟩
      case measure=>simp[intOf]; omega
  ·obtain rfl:k=Ks.length:=by omega
   have d0:decide ((Ks.length:Int)<(Ks.length:Int))=false:=by simp
   have d1:decide (Ks.length<Ks.length)=false:=by simp
   have Al:Hid (whole=ZN (tN S.l) i sk):=yG (by rw[AJ.out,List.drop_length]; rfl)
   by_cases Av:nk=16
   ·subst Av;have n0:=Ac.out _ _ AE.out.f;have q2:=AE.out.k2;have q3:=AE.out.k3;have Aj:Hid (whole=YQ (tN S.l) i sk):=yG (by rw[Al.out]; exact zGI (by have:=AX.out; omega))
    go_wp2_with fail
    clear n0 q2 q3;refine(zEy wa S sk Rk i AE.out.nb Ak.out AF.out.2 (by have:=AF.out.1; omega)).mono ?_;intro e w9 AA
    cases hq:YQ (tN S.l) i sk with
    | err j er=>
     rw[hq] at AA;obtain⟨rfl,hF⟩:=Rn.fail (whole:=whole) AE AA (by rw[Aj.out,hq]);exact xJ (P:=Tryz.prog) (fn:=Tryz.f123) rfl hF
    | ok s9=>
     rw[hq] at AA;obtain⟨rfl,R9,Ap⟩:=AA;have Ad:=yG (Rn.done (Rn.step AE Ap) (show whole=.ok s9 by rw[Aj.out,hq]));clear Ap hq;unfold vU
     go_wp2_with fail
     go_end0;exact Ad.out
   ·have A4:((nk:Int)==16)=false:=by rw[yI]; omega
    have n0:=Ac.out _ _ AE.out.f;have Ad:=yG (Rn.done AE (show whole=.ok sk by rw[Al.out]; exact zFL (by have:=AX.out; have:=AI.out; omega)))
    go_wp2_with fail
    go_end0;exact Ad.out
theorem zK4 (S:StN)(hT:zEb S):∀f,zD7 S f
 | 0=>fun w s R i h hi hf hb AA=>absurd hf (by omega)
 | f+1=>fun w s R i h hi hf hb AA=>by
  have AB:=zK4 S hT f;obtain⟨nk,hk⟩:∃nk,(yZ (tN S.l) i).kind=nk:=⟨_,rfl⟩
  by_cases h7:nk=7
  ·exact zTo f S hT AB w s R i h hi hf hb AA (hk.trans h7)
  by_cases h8:nk=8
  ·exact zTa f S hT AB w s R i h hi hf hb AA (hk.trans h8)
  by_cases h9:nk=9
  ·exact zSR f S hT AB w s R i h hi hf hb AA (hk.trans h9)
  by_cases AD:nk=11
  ·exact zRf f S hT AB w s R i h hi hf hb AA (hk.trans AD)
  by_cases AC:nk=15
  ·exact zRZ f S hT AB w s R i h hi hf hb AA (hk.trans AC)
  exact zNh nk f S hT AB w s R i h hi hf hb AA hk ⟨h7,h8,h9,AD,AC⟩
end Go.Proofs.YtbadjmmjbpeocaaGreat
