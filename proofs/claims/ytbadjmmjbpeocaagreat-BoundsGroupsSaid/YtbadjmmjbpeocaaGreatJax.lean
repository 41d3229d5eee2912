/- The reader of names: block. (and what follows of it). The conditions stand at each lemma. -/
import Derived.Test.YtbadjmmjbpeocaaGreatJaa
import Derived.Test.YtbadjmmjbpeocaaGreatJaw
import Derived.StillTailTactics
set_option linter.unusedVariables false
set_option linter.unusedSimpArgs false
set_option maxRecDepth 100000
set_option maxHeartbeats 16000000
namespace Go.Proofs.YtbadjmmjbpeocaaGreat
open Go Go.RowKit
def zD7 (S:StN)(f:Nat):Prop:=∀(w:World) (s:Nr) (R:DyN) (i:Nat),NB w S s R→i<S.l.length→S.l.length≤f+i→s.blocks.length+2*f+2≤100000→s.blocks≠[]→Calls Tryz.prog 123 #[.pointer (some ⟨S.a,0,none⟩),.int .i64 (i:Int)] w (jR w S R (vP (tN S.l) f i s) vU)
def zAL (t:List Nd)(f:Nat)(top:Bool)(k:Nat):Nn:=fun s=>if (top||(yZ t k).kind != 19)=true then vP t f k s else .err k 73
theorem XL {s s':Nr}(h:YW s s'):s'.blocks.length=s.blocks.length∧s'.blocks≠[]:=by
 obtain⟨n,b,AA,h1,h2⟩:=h.blocks;rw[h1,h2];exact⟨rfl,by simp⟩
theorem zGx {t:List Nd}(R:zBU t){f:Nat}{top:Bool}{k:Nat}{s s':Nr}(hb:s.blocks≠[])(h:zAL t f top k s=.ok s'):YW s s':=by
 unfold zAL at h
 split at h
 ·exact zBa R f k s s' hb h
 ·cases h
structure zL8 (w:World)(M:Nat→Prop)(a i:Nat)(top:Bool)(g3 g4 g5:Nat):Prop where
 b3:Safe w M g3 107 #[.pointer (some ⟨a,0,none⟩)]
 b4:Safe w M g4 3 #[.int .i64 (i:Int)]
 b5:Safe w M g5 4 #[.bool top]
theorem zL8.xE {w w':World}{M M':Nat→Prop}{a i:Nat}{top:Bool}{g3 g4 g5:Nat}(h:zL8 w M a i top g3 g4 g5)(k:xC w M w' M'):zL8 w' M' a i top g3 g4 g5:=⟨h.b3.xE k,h.b4.xE k,h.b5.xE k⟩
theorem zLo (f:Nat)(S:StN)(hT:zEb S)(hst:zD7 S f)(w:World)(s:Nr)(R:DyN)(i g3 g4 g5:Nat)(h:NB w S s R)(hc:zL8 w (xL S R) S.a i true g3 g4 g5)(hi:i<S.l.length)(hf:S.l.length≤f+i+1)(hb:s.blocks.length+2*f+2≤100000)(hne:s.blocks≠[]) :
  Calls Tryz.prog 122 #[.pointer (some ⟨g3,0,none⟩),.pointer (some ⟨g4,0,none⟩),.pointer (some ⟨g5,0,none⟩)] w (jR w S R (vJ (zAL (tN S.l) f true) (yZ (tN S.l) i).kids s) vU):=by
 have HT:=yG hT;have Ar:=yG h;have Ah:=yG h.rds;have Ag:=yG hi;have AY:=yG hc;have AN:=yG hst;have Ao:Hid (∀(wr:World) (sk:Nr) (Rk:DyN),NB wr S sk Rk→Cells wr (hdN S.l i).1 (ints (yZ (tN S.l) i).kids)):=yG fun wr sk Rk hn=>(hn.st.tree.kid i hi).cells;have AU:Hid (∀k,k ∈ (yZ (tN S.l) i).kids→i<k∧k<S.l.length):=yG fun k hk=>hT.up hk;have Ap:=yG hf;have Ae:Hid (s.blocks.length+2*f+2≤100000∧s.blocks≠[]):=yG ⟨hb,hne⟩;have As:=hT.kl i;have Au:=yG As;have Al:=yG hT.R;have q3:w.cell? ⟨g3,0,none⟩=some (.pointer (some ⟨S.a,0,none⟩)):=hc.b3.1.cell 0;have q4:w.cell? ⟨g4,0,none⟩=some (.int .i64 (i:Int)):=hc.b4.1.cell 0;clear hT h hi hf hb hne hc hst
 go_enter Tryz.func122,Tryz.ntmps122
 go_wp2_with fail
 refine(vW w S.a S.p S.A S.ct S.l i Ah.out Ag.out).mono ?_;rintro e w1 ⟨rfl,AJ⟩;have An:=yG AJ;have AX:=yG (Ar.out.ext AJ);have AZ:=yG (AY.out.xE (xC.ext (M:=xL S R) AJ));have f4:=zFr S.l i w1;clear AJ q3 q4
 go_upto_region 1 with fail
 clear f4;generalize vT S.l i=nC at *;generalize (yZ (tN S.l) i).kids=AA at *;generalize (hdN S.l i).1=kA at *;generalize (hdN S.l i).2=kc at *;have Aa:Hid (vJ (zAL (tN S.l) f true) AA s=vJ (zAL (tN S.l) f true) (AA.drop 0) s):=yG rfl;generalize hwhole:vJ (zAL (tN S.l) f true) AA s=AC at *;clear hwhole;have Af:=yG (xC.ext (M:=xL S R) An.out)
 go_loopw [10] (fun i' wr=>∃(k:Nat) (sk:Nr) (Rk:DyN),k≤AA.length∧i'=.int .i64 k∧Hid (NB wr S sk Rk)∧Hid (xC w (xL S R) wr (xL S Rk))∧Hid (ZQ R Rk)∧Hid (sk.blocks.length+2*f+2≤100000∧sk.blocks≠[])∧Hid (zL8 wr (xL S Rk) S.a i true g3 g4 g5)∧Hid (AC=vJ (zAL (tN S.l) f true) (AA.drop k) sk)) (fun i' _=>AA.length-(intOf i').toNat)
 case atStart=>exact⟨0,s,R,zW _,rfl,AX,Af,yG (ZQ.refl R),Ae,AZ,Aa⟩
 case round=>
  obtain⟨k,sk,Rk,hk,rfl,AL,AS,AT,AI,AG,AO⟩:=hrel;obtain⟨wa,rfl⟩:∃wa:World,wa=wr:=⟨_,rfl⟩
  by_cases AH:k<AA.length
  ·have d0:decide ((k:Int)<(AA.length:Int))=true:=yS (by omega)
   have q1:(k:Int)<(AA.length:Int):=by omega
   obtain⟨b,At,rfl,hb,AW⟩:=(Ao.out wa sk Rk AL.out).at_ (by rw[vK]; omega)
   have e0:wa.cell? ⟨b,At+k,none⟩=some (.int .i64 ((AA[k]:Nat):Int)):=by rw[AW k (by rw[vK]; exact AH)]; simp[ints,AH]
   have AE:Hid (AA[k] ∈ AA):=yG (yO AH);have AR:Hid (vJ (zAL (tN S.l) f true) (AA.drop k) sk=(zAL (tN S.l) f true AA[k] sk).bind (vJ (zAL (tN S.l) f true) (AA.drop (k+1)))):=yG (by rw[List.drop_eq_getElem_cons AH]; rfl);clear AW;generalize AA[k]=c at *;have q3:wa.cell? ⟨g3,0,none⟩=some (.pointer (some ⟨S.a,0,none⟩)):=AG.out.b3.1.cell 0;have l3:=AG.out.b3.1.lt;have q5:wa.cell? ⟨g5,0,none⟩=some (.bool true):=AG.out.b5.1.cell 0;have l5:=AG.out.b5.1.lt
   go_upto_region 3 with fail
   clear e0;have AM:Hid (zAL (tN S.l) f true c sk=vP (tN S.l) f c sk):=yG rfl;apply xN 10 (by kernel_rfl) (by kernel_rfl) (by kernel_rfl);dsimp only[List.take_succ_cons,List.take_zero,List.drop_succ_cons,List.drop_zero];apply sL q3 l3 (.pointer (some ⟨S.a,0,none⟩));apply sL q5 l5 (.bool true);apply sQ (.bool true);apply zEr (by kernel_rfl) rfl;(try simp only[Act.put,yD,yE,yF]);apply zEr (by kernel_rfl) rfl;(try simp only[Act.put,yD,yE,yF]);apply zEr (by kernel_rfl) rfl;(try simp only[Act.put,yD,yE,yF]);apply zEr (by kernel_rfl) rfl;(try simp only[Act.put,yD,yE,yF]);apply zEr (by kernel_rfl) rfl;(try simp only[Act.put,yD,yE,yF]);apply sQ (.bool true);apply sQ (.int .i64 (c:Int));apply xR;intro w2 AD hH;clear hH;(try simp only[Act.put,yD,yE,yF,List.drop_succ_cons,List.drop_zero]);have Av:=yG AD;have Ai:=yG (AL.out.ext AD);have AV:=yG (AG.out.xE (xC.ext (M:=xL S Rk) AD));have AP:=yG (AS.out.trans (xC.ext (M:=xL S Rk) AD));clear AD q3 l3 q5 l5
   go_wp2_with fail
   refine(XC w2 (.pointer (some ⟨S.a,0,none⟩)) (c:Int) 73).mono ?_;rintro e w3 ⟨rfl,rfl⟩;have q3:w2.cell? ⟨g3,0,none⟩=some (.pointer (some ⟨S.a,0,none⟩)):=AV.out.b3.1.cell 0
   go_wp2_with fail
   clear q3;refine(AN.out w2 sk Rk c Ai.out (AU.out c AE.out).2 (by have:=(AU.out c AE.out).1; have:=Ap.out; omega) AI.out.1 AI.out.2).mono ?_;intro e w5 AB;rw[←AM.out] at AB
   cases hq:zAL (tN S.l) f true c sk with
   | err j er=>
    rw[hq] at AB;obtain⟨rfl,hj,M',hm⟩:=AB
    have HF:Hid (jR w S R AC vU (XI (YT S.l j) er) w5):=yG (by
     rw[AO.out,AR.out,hq]
     exact⟨rfl,hj,M',AP.out.trans hm⟩)
    exact xJ (P:=Tryz.prog) (fn:=Tryz.f122) rfl HF.out
   | ok s5=>
    rw[hq] at AB;obtain⟨rfl,R5,AF,AQ,AK⟩:=AB;have Aj:=yG AQ;have Ac:=yG (AP.out.trans AK);have Am:=yG (AT.out.trans AF);have Ak:=yG (AV.out.xE AK)
    have Ad:Hid (s5.blocks.length+2*f+2≤100000∧s5.blocks≠[]):=yG (by
     have hk:=XL (zGx Al.out AI.out.2 hq);rw[hk.1]
     exact⟨AI.out.1,hk.2⟩)
    have Aq:Hid (AC=vJ (zAL (tN S.l) f true) (AA.drop (k+1)) s5):=yG (by rw[AO.out,AR.out,hq]; rfl);clear AQ AK AF hq;unfold vU
    go_wp2_with fail
    go_roundw
    case rel=>exact⟨k+1,s5,R5,by omega,by go_num,Aj,Ac,Am,Ad,Ak,Aq⟩
    case measure=>simp[intOf]; omega
  ·obtain rfl:k=AA.length:=by omega
   have d0:decide ((AA.length:Int)<(AA.length:Int))=false:=by simp
   have d1:decide (AA.length<AA.length)=false:=by simp
   have Ab:Hid (AC=.ok sk):=yG (by rw[AO.out,List.drop_length]; rfl)
   go_wp2_with fail
   go_end0;rw[Ab.out];exact⟨rfl,Rk,AT.out,AL.out,AS.out⟩
theorem zJN (f:Nat)(S:StN)(hT:zEb S)(hst:zD7 S f)(w:World)(s:Nr)(R:DyN)(i g3 g4 g5:Nat)(h:NB w S s R)(hc:zL8 w (xL S R) S.a i false g3 g4 g5)(hi:i<S.l.length)(hf:S.l.length≤f+i+1)(hb:s.blocks.length+2*f+2≤100000)(hne:s.blocks≠[]) :
  Calls Tryz.prog 122 #[.pointer (some ⟨g3,0,none⟩),.pointer (some ⟨g4,0,none⟩),.pointer (some ⟨g5,0,none⟩)] w (jR w S R (vJ (zAL (tN S.l) f false) (yZ (tN S.l) i).kids s) vU):=by
 have HT:=yG hT;have Au:=yG h;have Al:=yG h.rds;have Ak:=yG hi;have Ac:=yG hc;have AX:=yG hst;have Ar:Hid (∀(wr:World) (sk:Nr) (Rk:DyN),NB wr S sk Rk→Cells wr (hdN S.l i).1 (ints (yZ (tN S.l) i).kids)):=yG fun wr sk Rk hn=>(hn.st.tree.kid i hi).cells;have AI:Hid (∀k,k ∈ (yZ (tN S.l) i).kids→i<k∧k<S.l.length):=yG fun k hk=>hT.up hk;have As:=yG hf;have Ai:Hid (s.blocks.length+2*f+2≤100000∧s.blocks≠[]):=yG ⟨hb,hne⟩;have Av:=hT.kl i;have Ay:=yG Av;have Ao:=yG hT.R;have q3:w.cell? ⟨g3,0,none⟩=some (.pointer (some ⟨S.a,0,none⟩)):=hc.b3.1.cell 0;have q4:w.cell? ⟨g4,0,none⟩=some (.int .i64 (i:Int)):=hc.b4.1.cell 0;clear hT h hi hf hb hne hc hst
 go_enter Tryz.func122,Tryz.ntmps122
 go_wp2_with fail
 refine(vW w S.a S.p S.A S.ct S.l i Al.out Ak.out).mono ?_;rintro e w1 ⟨rfl,AP⟩;have Aq:=yG AP;have Ab:=yG (Au.out.ext AP);have Ad:=yG (Ac.out.xE (xC.ext (M:=xL S R) AP));have f4:=zFr S.l i w1;clear AP q3 q4
 go_upto_region 1 with fail
 clear f4;generalize vT S.l i=nC at *;generalize (yZ (tN S.l) i).kids=AA at *;generalize (hdN S.l i).1=kA at *;generalize (hdN S.l i).2=kc at *;have Ae:Hid (vJ (zAL (tN S.l) f false) AA s=vJ (zAL (tN S.l) f false) (AA.drop 0) s):=yG rfl;generalize hwhole:vJ (zAL (tN S.l) f false) AA s=AB at *;clear hwhole;have Aj:=yG (xC.ext (M:=xL S R) Aq.out)
 go_loopw [10] (fun i' wr=>∃(k:Nat) (sk:Nr) (Rk:DyN),k≤AA.length∧i'=.int .i64 k∧Hid (NB wr S sk Rk)∧Hid (xC w (xL S R) wr (xL S Rk))∧Hid (ZQ R Rk)∧Hid (sk.blocks.length+2*f+2≤100000∧sk.blocks≠[])∧Hid (zL8 wr (xL S Rk) S.a i false g3 g4 g5)∧Hid (AB=vJ (zAL (tN S.l) f false) (AA.drop k) sk)) (fun i' _=>AA.length-(intOf i').toNat)
 case atStart=>exact⟨0,s,R,zW _,rfl,Ab,Aj,yG (ZQ.refl R),Ai,Ad,Ae⟩
 case round=>
  obtain⟨k,sk,Rk,hk,rfl,AH,AU,AZ,AO,AJ,AQ⟩:=hrel;obtain⟨wa,rfl⟩:∃wa:World,wa=wr:=⟨_,rfl⟩
  by_cases AN:k<AA.length
  ·have d0:decide ((k:Int)<(AA.length:Int))=true:=yS (by omega)
   have q1:(k:Int)<(AA.length:Int):=by omega
   obtain⟨b,Aw,rfl,hb,Aa⟩:=(Ar.out wa sk Rk AH.out).at_ (by rw[vK]; omega)
   have e0:wa.cell? ⟨b,Aw+k,none⟩=some (.int .i64 ((AA[k]:Nat):Int)):=by rw[Aa k (by rw[vK]; exact AN)]; simp[ints,AN]
   have AD:Hid (AA[k] ∈ AA):=yG (yO AN);have AT:Hid (vJ (zAL (tN S.l) f false) (AA.drop k) sk=(zAL (tN S.l) f false AA[k] sk).bind (vJ (zAL (tN S.l) f false) (AA.drop (k+1)))):=yG (by rw[List.drop_eq_getElem_cons AN]; rfl);clear Aa;generalize AA[k]=c at *;have q3:wa.cell? ⟨g3,0,none⟩=some (.pointer (some ⟨S.a,0,none⟩)):=AJ.out.b3.1.cell 0;have l3:=AJ.out.b3.1.lt;have q5:wa.cell? ⟨g5,0,none⟩=some (.bool false):=AJ.out.b5.1.cell 0;have l5:=AJ.out.b5.1.lt
   go_upto_region 3 with fail
   clear e0
   by_cases AK:(yZ (tN S.l) c).kind=19
   ·have AG:Hid (zAL (tN S.l) f false c sk=.err c 73):=yG (by unfold zAL; rw[AK]; rfl)
    have hn:(((yZ (tN S.l) c).kind:Int) != 19)=false:=by rw[AK]; rfl
    clear AK;have AR:=yG (AI.out c AD.out).2;apply xN 10 (by kernel_rfl) (by kernel_rfl) (by kernel_rfl);dsimp only[List.take_succ_cons,List.take_zero,List.drop_succ_cons,List.drop_zero];apply sL q3 l3 (.pointer (some ⟨S.a,0,none⟩));apply sL q5 l5 (.bool false);apply sQ (.bool false);apply zBq (.pointer (some ⟨S.a,0,none⟩)) (by kernel_rfl) rfl rfl
    ·intro w' AE hH;have cc:=(AE.cell (p:=⟨g3,0,none⟩) l3).trans q3;clear hH;simp[xA,go_sem,cc];exact Ext.refl _
    (try simp only[Act.put,yD,yE,yF]);apply zBq (.int .i64 (c:Int)) (by kernel_rfl) rfl rfl
    ·intro w' AE hH;clear hH;simp[xA,go_sem];exact Ext.refl _
    (try simp only[Act.put,yD,yE,yF]);apply zBq (.agg (vT S.l c)) (by kernel_rfl) rfl rfl
    ·intro w' AE hH;clear hH;simp[xA,go_sem];refine(vW w' S.a S.p S.A S.ct S.l c (AH.out.ext AE).rds AR.out).mono ?_;rintro e w2 ⟨rfl,hx⟩;exact⟨_,rfl,rfl,hx⟩
    (try simp only[Act.put,yD,yE,yF]);apply zBq (.int .u8 ((yZ (tN S.l) c).kind:Int)) (by kernel_rfl) rfl rfl
    ·intro w' AE hH;clear hH;simp[xA,go_sem,zDU];exact Ext.refl _
    (try simp only[Act.put,yD,yE,yF]);apply zBq (.bool false) (by kernel_rfl) rfl rfl
    ·intro w' AE hH;clear hH;simp[xA,go_sem,hn];exact Ext.refl _
    (try simp only[Act.put,yD,yE,yF]);apply sQ (.bool false)
    apply sQ (.int .i64 (c:Int));apply xR;clear hn;intro w2 AF hH;clear hH;(try simp only[Act.put,yD,yE,yF,List.drop_succ_cons,List.drop_zero]);have Ax:=yG AF;have AV:=yG (AH.out.ext AF);have AW:=yG (AJ.out.xE (xC.ext (M:=xL S Rk) AF));have AM:=yG (AU.out.trans (xC.ext (M:=xL S Rk) AF));clear AF q3 l3 q5 l5
    go_wp2_with fail
    refine(JW w2 S.a S.p S.A S.ct S.l c 73 AV.out.rds (AI.out c AD.out).2).mono ?_;rintro e w3 ⟨rfl,rfl⟩
    have HF:Hid (jR w S R AB vU (XI (YT S.l c) 73) w2):=yG (by
     rw[AQ.out,AT.out,AG.out]
     exact⟨rfl,(AI.out c AD.out).2,_,AM.out⟩)
    exact xJ (P:=Tryz.prog) (fn:=Tryz.f122) rfl HF.out
   ·have AG:Hid (zAL (tN S.l) f false c sk=vP (tN S.l) f c sk):=yG (by unfold zAL; rw[if_pos]; rw[Bool.false_or,zE]; exact AK)
    have hn:(((yZ (tN S.l) c).kind:Int) != 19)=true:=by rw[zE]; omega
    clear AK;have AR:=yG (AI.out c AD.out).2;apply xN 10 (by kernel_rfl) (by kernel_rfl) (by kernel_rfl);dsimp only[List.take_succ_cons,List.take_zero,List.drop_succ_cons,List.drop_zero];apply sL q3 l3 (.pointer (some ⟨S.a,0,none⟩));apply sL q5 l5 (.bool false);apply sQ (.bool false);apply zBq (.pointer (some ⟨S.a,0,none⟩)) (by kernel_rfl) rfl rfl
    ·intro w' AE hH;have cc:=(AE.cell (p:=⟨g3,0,none⟩) l3).trans q3;clear hH;simp[xA,go_sem,cc];exact Ext.refl _
    (try simp only[Act.put,yD,yE,yF]);apply zBq (.int .i64 (c:Int)) (by kernel_rfl) rfl rfl
    ·intro w' AE hH;clear hH;simp[xA,go_sem];exact Ext.refl _
    (try simp only[Act.put,yD,yE,yF]);apply zBq (.agg (vT S.l c)) (by kernel_rfl) rfl rfl
    ·intro w' AE hH;clear hH;simp[xA,go_sem];refine(vW w' S.a S.p S.A S.ct S.l c (AH.out.ext AE).rds AR.out).mono ?_;rintro e w2 ⟨rfl,hx⟩;exact⟨_,rfl,rfl,hx⟩
    (try simp only[Act.put,yD,yE,yF]);apply zBq (.int .u8 ((yZ (tN S.l) c).kind:Int)) (by kernel_rfl) rfl rfl
    ·intro w' AE hH;clear hH;simp[xA,go_sem,zDU];exact Ext.refl _
    (try simp only[Act.put,yD,yE,yF]);apply zBq (.bool true) (by kernel_rfl) rfl rfl
    ·intro w' AE hH;clear hH;simp[xA,go_sem,hn];exact Ext.refl _
    (try simp only[Act.put,yD,yE,yF]);apply sQ (.bool true)
    apply sQ (.int .i64 (c:Int));apply xR;clear hn;intro w2 AF hH;clear hH;(try simp only[Act.put,yD,yE,yF,List.drop_succ_cons,List.drop_zero]);have Ax:=yG AF;have AV:=yG (AH.out.ext AF);have AW:=yG (AJ.out.xE (xC.ext (M:=xL S Rk) AF));have AM:=yG (AU.out.trans (xC.ext (M:=xL S Rk) AF));clear AF q3 l3 q5 l5
    go_wp2_with fail
    refine(XC w2 (.pointer (some ⟨S.a,0,none⟩)) (c:Int) 73).mono ?_;rintro e w3 ⟨rfl,rfl⟩;have q3:w2.cell? ⟨g3,0,none⟩=some (.pointer (some ⟨S.a,0,none⟩)):=AW.out.b3.1.cell 0
    go_wp2_with fail
    clear q3;refine(AX.out w2 sk Rk c AV.out (AI.out c AD.out).2 (by have:=(AI.out c AD.out).1; have:=As.out; omega) AO.out.1 AO.out.2).mono ?_;intro e w5 AC;rw[←AG.out] at AC
    cases hq:zAL (tN S.l) f false c sk with
    | err j er=>
     rw[hq] at AC;obtain⟨rfl,hj,M',hm⟩:=AC
     have HF:Hid (jR w S R AB vU (XI (YT S.l j) er) w5):=yG (by
      rw[AQ.out,AT.out,hq]
      exact⟨rfl,hj,M',AM.out.trans hm⟩)
     exact xJ (P:=Tryz.prog) (fn:=Tryz.f122) rfl HF.out
    | ok s5=>
     rw[hq] at AC;obtain⟨rfl,R5,AL,AY,AS⟩:=AC;have Am:=yG AY;have Ag:=yG (AM.out.trans AS);have Ap:=yG (AZ.out.trans AL);have An:=yG (AW.out.xE AS)
     have Ah:Hid (s5.blocks.length+2*f+2≤100000∧s5.blocks≠[]):=yG (by
      have hk:=XL (zGx Ao.out AO.out.2 hq);rw[hk.1]
      exact⟨AO.out.1,hk.2⟩)
     have At:Hid (AB=vJ (zAL (tN S.l) f false) (AA.drop (k+1)) s5):=yG (by rw[AQ.out,AT.out,hq]; rfl);clear AY AS AL hq;unfold vU
     go_wp2_with fail
     go_roundw
     case rel=>exact⟨k+1,s5,R5,by omega,by go_num,Am,Ag,Ap,Ah,An,At⟩
     case measure=>simp[intOf]; omega
  ·obtain rfl:k=AA.length:=by omega
   have d0:decide ((AA.length:Int)<(AA.length:Int))=false:=by simp
   have d1:decide (AA.length<AA.length)=false:=by simp
   have Af:Hid (AB=.ok sk):=yG (by rw[AQ.out,List.drop_length]; rfl)
   go_wp2_with fail
   go_end0;rw[Af.out];exact⟨rfl,Rk,AZ.out,AH.out,AU.out⟩
theorem zMt (f:Nat)(S:StN)(hT:zEb S)(hst:zD7 S f)(w:World)(s:Nr)(R:DyN)(i g3 g4 g5:Nat)(top:Bool)(h:NB w S s R)(hc:zL8 w (xL S R) S.a i top g3 g4 g5)(hi:i<S.l.length)(hf:S.l.length≤f+i+1)(hb:s.blocks.length+2*f+2≤100000)(hne:s.blocks≠[]) :
  Calls Tryz.prog 122 #[.pointer (some ⟨g3,0,none⟩),.pointer (some ⟨g4,0,none⟩),.pointer (some ⟨g5,0,none⟩)] w (jR w S R (vJ (zAL (tN S.l) f top) (yZ (tN S.l) i).kids s) vU):=by
 cases top with
 | true=>exact zLo f S hT hst w s R i g3 g4 g5 h hc hi hf hb hne
 | false=>exact zJN f S hT hst w s R i g3 g4 g5 h hc hi hf hb hne
theorem zO6 (R1 R2 R3 R4:DyN)(h1:R1.pc=R3.pc)(h2:R1.j=R3.j)(h3:R2.pc=R4.pc)(h4:R2.j=R4.j)(h:ZQ R1 R2):ZQ R3 R4:=⟨by rw[←h2,←h4]; exact h.j,by rw[←h1,←h3]; exact h.sz,fun i hi=>by rw[←h1,←h3]; exact h.pc i (by rw[h2]; exact hi)⟩
theorem zFm (f:Nat)(S:StN)(hT:zEb S)(hst:zD7 S f)(w:World)(s:Nr)(R:DyN)(i:Nat)(top:Bool)(h:NB w S s R)(hi:i<S.l.length)(hf:S.l.length≤f+i+1)(hb:s.blocks.length+1+2*f+2≤100000) :
  Calls Tryz.prog 89 #[.pointer (some ⟨S.a,0,none⟩),.int .i64 (i:Int),.bool top] w (jR w S R (ZJ (tN S.l) (vP (tN S.l) f) i top s) vU):=by
 have HT:=yG hT;have AH:=yG h;have AD:=yG hst;have AB:Hid (i<S.l.length∧S.l.length≤f+i+1∧s.blocks.length+1+2*f+2≤100000):=yG ⟨hi,hf,hb⟩;obtain⟨W3,AC⟩:∃W3,Hid (((w.alloc (.cells #[.pointer (some ⟨S.a,0,none⟩)] 107)).alloc (.cells #[.int .i64 (i:Int)] 3)).alloc (.cells #[.bool top] 4)=W3):=⟨_,yG rfl⟩;have AG:Hid (Ext w W3):=yG (by rw[←AC.out]; exact((Ext.alloc _ _).trans (Ext.alloc _ _)).trans (Ext.alloc _ _));have AE:Hid (∀b,xL S R b→b<w.heap.size):=yG fun b hm=>h.ZW hm
 have AF:Hid (zL8 W3 (xL S R) S.a i top w.heap.size (w.heap.size+1) (w.heap.size+1+1)):=yG (by
  rw[←AC.out];refine⟨⟨((Blk.new _ _ _).alloc _).alloc _,fun hm=>by have:=AE.out _ hm; omega⟩,⟨?_,fun hm=>by have:=AE.out _ hm; omega⟩,⟨?_,fun hm=>by have:=AE.out _ hm; omega⟩⟩
  ·have:=(Blk.new (w.alloc (.cells #[.pointer (some ⟨S.a,0,none⟩)] 107)) 3 #[.int .i64 (i:Int)]).alloc (.cells #[.bool top] 4)
   rwa [yT] at this
  ·have:=Blk.new ((w.alloc (.cells #[.pointer (some ⟨S.a,0,none⟩)] 107)).alloc (.cells #[.int .i64 (i:Int)] 3)) 4 #[.bool top]
   rwa [yT,yT] at this)
 clear hT h hst hi hf hb
 go_enter Tryz.func89,Tryz.ntmps89
 have q3:(((w.alloc (.cells #[.pointer (some ⟨S.a,0,none⟩)] 107)).alloc (.cells #[.int .i64 (i:Int)] 3)).alloc (.cells #[.bool top] 4)).cell? ⟨w.heap.size,0,none⟩=some (.pointer (some ⟨S.a,0,none⟩)):=by rw[AC.out]; exact AF.out.b3.1.cell 0
 go_wp2_with fail
 rw[AC.out];clear q3 AC;have AJ:Hid (ZJ (tN S.l) (vP (tN S.l) f) i top s=ZH (vJ (zAL (tN S.l) f top) (yZ (tN S.l) i).kids) s):=yG rfl;refine(zEB ZQ zO6 W3 S s R 122 #[] #[.pointer (some ⟨w.heap.size,0,none⟩),.pointer (some ⟨w.heap.size+1,0,none⟩),.pointer (some ⟨w.heap.size+1+1,0,none⟩)] (vJ (zAL (tN S.l) f top) (yZ (tN S.l) i).kids) (AH.out.ext AG.out) (by have:=AB.out; omega) (enters_of Tryz.func122 (by kernel_rfl) rfl) (fun s' hq=>?_) (fun wr R' _ _ hm hn=>?_)).mono ?_
 ·have hk:=XL (zA7 _ _ _ (by simp) (fun k _ a b AI hq=>zGx HT.out.R AI hq) hq);refine⟨hk.2,?_⟩;rw[hk.1];simp only[zK]
  have:=AB.out
  omega
 ·have:=zMt f S HT.out AD.out wr { s with blocks:=[]::s.blocks } R' i w.heap.size (w.heap.size+1) (w.heap.size+1+1) top hn (AF.out.xE hm) AB.out.1 AB.out.2.1 (by simp only[zK]; have:=AB.out; omega) (by simp)
  exact Calls.mono this fun e w' hp=>hp.toQ
 ·intro e w5 AA;have hp:=jR.trans (ZQ.refl R) (xC.ext (M:=xL S R) AG.out) AA.toN;rw[←AJ.out] at hp;clear AA
  cases hq:ZJ (tN S.l) (vP (tN S.l) f) i top s with
  | ok s'=>
   rw[hq] at hp;obtain⟨rfl,ho⟩:=hp;have HO:=yG ho;have HQ:=yG hq;clear ho hq;unfold vU
   go_wp2_with fail
   go_end0;rw[HQ.out];exact⟨rfl,HO.out⟩
  | err j er=>
   rw[hq] at hp;obtain⟨rfl,ho⟩:=hp;exact xJ (P:=Tryz.prog) (fn:=Tryz.f89) rfl ⟨rfl,ho⟩
theorem zMS:∀w,(Go.sizeOf 3).run Tryz.prog w=.ok 1 w:=fun w=>by kernel_rfl
structure StF (w:World)(M:Nat→Prop)(S:StN)(i g2 g3 g4:Nat):Prop where
 b2:Safe w M g2 107 #[.pointer (some ⟨S.a,0,none⟩)]
 b3:Safe w M g3 3 #[.int .i64 (i:Int)]
 b4:Safe w M g4 38 (vT S.l i)
theorem StF.xE {w w':World}{M M':Nat→Prop}{S:StN}{i g2 g3 g4:Nat}(h:StF w M S i g2 g3 g4)(k:xC w M w' M'):StF w' M' S i g2 g3 g4:=⟨h.b2.xE k,h.b3.xE k,h.b4.xE k⟩
structure Rn (w:World)(S:StN)(R:DyN)(i g2 g3 g4:Nat)(W:World)(s':Nr)(R':DyN):Prop where
 nb:NB W S s' R'
 mv:xC w (xL S R) W (xL S R')
 st:ZQ R R'
 f:StF W (xL S R') S i g2 g3 g4
section
variable {w:World} {S:StN} {R:DyN} {i g2 g3 g4:Nat} {W W':World} {s' s'':Nr} {R' R'':DyN}
theorem Rn.step (h:Hid (Rn w S R i g2 g3 g4 W s' R'))(k:ZQ R' R''∧NB W' S s'' R''∧xC W (xL S R') W' (xL S R'')):Hid (Rn w S R i g2 g3 g4 W' s'' R''):=
 yG ⟨k.2.1,h.out.mv.trans k.2.2,h.out.st.trans k.1,h.out.f.xE k.2.2⟩
theorem Rn.zE8 (h:Hid (Rn w S R i g2 g3 g4 W s' R'))(hx:Ext W W'):Hid (Rn w S R i g2 g3 g4 W' s' R')   := Rn.step h ⟨ZQ.refl R',h.out.nb.ext hx,xC.ext hx⟩
theorem Rn.done (h:Hid (Rn w S R i g2 g3 g4 W s' R')){whole:XH Nr}(hw:whole=.ok s'):jR w S R whole vU (.returned (.tuple #[])) W:=by
 rw[hw];exact⟨rfl,R',h.out.st,h.out.nb,h.out.mv⟩
theorem Rn.fail {whole:XH Nr}(h:Hid (Rn w S R i g2 g3 g4 W s' R')){j:Nat}{er:Int}{v:Nr→Value}{e:Ending}(hp:jR W S R' (.err j er) v e W')(hw:whole=.err j er):e=XI (YT S.l j) er∧jR w S R whole vU (XI (YT S.l j) er) W':=by
 obtain⟨h1,h2,M',h3⟩:=hp;rw[hw];exact⟨h1,rfl,h2,M',h.out.mv.trans h3⟩
theorem Rn.k2 (h:Rn w S R i g2 g3 g4 W s' R'):W.cell? ⟨g2,0,none⟩=some (.pointer (some ⟨S.a,0,none⟩)):=h.f.b2.1.cell 0
theorem Rn.k3 (h:Rn w S R i g2 g3 g4 W s' R'):W.cell? ⟨g3,0,none⟩=some (.int .i64 (i:Int)):=h.f.b3.1.cell 0
end
theorem zAS.cap {w:World}{M:Nat→Prop}{A:Option Addr}{l:List Tx}(h:zAS w M A l)(i:Nat)(hi:i<l.length):(yZ (tN l) i).kids.length≤(hdN l i).2:=by
 have:=h.zUi l[i] (yO hi)
 rw[zBw hi];unfold hdN;rw[yJ hi];exact this
theorem zNC {w:World}{A:Option Addr}{l:List Nat}{c:Nat}(h:Cells w A (ints l))(hc:l.length≤c)(k:Nat):Cells w (zDT A c k) (ints (l.drop k)):=by
 by_cases hk:k<l.length
 ·rcases h with h | ⟨b,AB,rfl,hb,AA⟩
  ·have:(ints l).length=0:=by rw[h]; rfl
   rw[vK] at this;omega
  ·refine .inr ⟨b,AB+k,?_,hb,fun i hi=>?_⟩
   ·unfold zDT;rw[if_neg (by omega)];simp only[Option.map_some,Addr.add]
    split
    ·rename_i h0; subst h0; rfl
    ·rfl
   ·rw[vK,List.length_drop] at hi;rw[Nat.add_assoc,AA (k+i) (by rw[vK]; omega)];simp[ints]
 ·refine .inl ?_;rw[List.drop_eq_nil_of_le (by omega)]
  rfl
theorem zGI {t:List Nd}{i:Nat}{s:Nr}(h:(yZ t i).kind=7∨(yZ t i).kind=11∨(yZ t i).kind=16):ZN t i s=YQ t i s:=by unfold ZN; rw[if_pos h]
theorem zFL {t:List Nd}{i:Nat}{s:Nr}(h:¬((yZ t i).kind=7∨(yZ t i).kind=11∨(yZ t i).kind=16)):ZN t i s=.ok s:=by unfold ZN; rw[if_neg h]
theorem zPB {s:Nr}{n:Bs}{k:Nat}(h:zCw s n=some k):∃x,s.xH[k]?=some x:=by
 unfold zCw at h;rw[List.findIdx?_eq_some_iff_getElem] at h;obtain⟨h1,_⟩:=h;exact⟨_,yJ h1⟩
theorem zL6 {t:List Nd}{i:Nat}{s s':Nr}(hl:i<s.of.length)(h:ofN t i s=.ok s'):∃(k:Nat) (x:Nt),s.xH[k]?=some x∧zCQ s' i=(k:Int)∧s'=s.set i k:=by
 unfold ofN at h
 split at h
 ·cases h
 ·rename_i k hk;injection h with h;obtain⟨x,hx⟩:=zPB hk;refine⟨k,x,hx,?_,h.symm⟩;rw[←h];exact zC1 hl
theorem zKz {t:List Nd}(R:zBU t){f i:Nat}{s s':Nr}(h20:(yZ t i).kind=20)(hl:i<s.of.length)(h:vD t (f+1) i s=.ok s'):∃(k:Nat) (x:Nt),s.xH[k]?=some x∧zCQ s' i=(k:Int)∧s'.xH=s.xH:=by
 rw[zOC] at h;obtain⟨s1,e1,e2⟩:=XD h;unfold zH5 at e1;rw[if_neg (by omega),if_pos h20] at e1;obtain⟨k,x,h1,h2,h3⟩:=zL6 hl e1;have hk:YY (i+1) s1 s':=zGt _ _ _ (fun c hc a b hq=>(YF R f c a b hq).low (R.up i c hc).1) e2;refine⟨k,x,h1,?_,by rw[hk.xH,h3]; rfl⟩;rw[←h2];unfold zCQ;rw[yH,yH,hk.of i (by omega)]
theorem zMP {t:List Nd}{f i a b:Nat}{L:List Nat}{s:Nr}(hk:(yZ t i).kind=7∨(yZ t i).kind=8)(hkk:(yZ t i).kids=a::b::L):vP t (f+1) i s=((vD t (f+1) a s).bind fun s=>(YR t b (zCQ s a) s).bind (vJ (vD t (f+1)) L)).bind (ZN t i):=by
 rw[vP,if_pos hk];unfold VQ;rw[hkk]
 rfl
theorem zTo (f:Nat)(S:StN)(hT:zEb S)(hst:zD7 S f)(w:World)(s:Nr)(R:DyN)(i:Nat)(h:NB w S s R)(hi:i<S.l.length)(hf:S.l.length≤f+1+i)(hb:s.blocks.length+2*(f+1)+2≤100000)(hne:s.blocks≠[])(hk:(yZ (tN S.l) i).kind=7) :
  Calls Tryz.prog 123 #[.pointer (some ⟨S.a,0,none⟩),.int .i64 (i:Int)] w (jR w S R (vP (tN S.l) (f+1) i s) vU):=by
 have HT:=yG hT;have Ag:=yG h;have A1:=yG hi;have BD:=yG hst;have Aw:=yG hf;have AX:=yG hk;have BS:Hid ((yZ (tN S.l) i).text.length≤maxLen):=yG (h.st.tree.txt i);have AZ:Hid (s.blocks.length+2*(f+1)+2≤100000∧s.blocks≠[]):=yG ⟨hb,hne⟩;have Ao:Hid (∀(wr:World) (sk:Nr) (Rk:DyN),NB wr S sk Rk→Cells wr (hdN S.l i).1 (ints (yZ (tN S.l) i).kids)):=yG fun wr sk Rk hn=>(hn.st.tree.kid i hi).cells;have Am:Hid (∀k,k ∈ (yZ (tN S.l) i).kids→i<k∧k<S.l.length):=yG fun k hk=>hT.up hk;have BK:Hid ((yZ (tN S.l) i).kids.length≤100000):=yG (hT.kl i);have AT:Hid ((yZ (tN S.l) i).kids.length≤(hdN S.l i).2):=yG (h.st.tree.cap i hi);have AM:Hid (zCs (tN S.l) i):=yG (hT.R.form i (by rw[JO]; exact hi) (by omega) (by omega));have A2:Hid (∀b,xL S R b→b<w.heap.size):=yG fun b hm=>h.ZW hm;obtain⟨W2,AF⟩:∃W2,Hid ((w.alloc (.cells #[.pointer (some ⟨S.a,0,none⟩)] 107)).alloc (.cells #[.int .i64 (i:Int)] 3)=W2):=⟨_,yG rfl⟩;have AW:Hid (Ext w W2):=yG (by rw[←AF.out]; exact(Ext.alloc _ _).trans (Ext.alloc _ _))
 have AN:Hid (Safe W2 (xL S R) w.heap.size 107 #[.pointer (some ⟨S.a,0,none⟩)]∧Safe W2 (xL S R) (w.heap.size+1) 3 #[.int .i64 (i:Int)]):=yG (by
  rw[←AF.out];refine⟨⟨(Blk.new _ _ _).alloc _,fun hm=>by have:=A2.out _ hm; omega⟩,⟨?_,fun hm=>by have:=A2.out _ hm; omega⟩⟩
  have:=Blk.new (w.alloc (.cells #[.pointer (some ⟨S.a,0,none⟩)] 107)) 3 #[.int .i64 (i:Int)]
  rwa [yT] at this)
 clear hT h hst hi hf hb hne hk
 have q2:((w.alloc (.cells #[.pointer (some ⟨S.a,0,none⟩)] 107)).alloc (.cells #[.int .i64 (i:Int)] 3)).cell? ⟨w.heap.size,0,none⟩=some (.pointer (some ⟨S.a,0,none⟩)):=by rw[AF.out]; exact AN.out.1.1.cell 0
 have q3:((w.alloc (.cells #[.pointer (some ⟨S.a,0,none⟩)] 107)).alloc (.cells #[.int .i64 (i:Int)] 3)).cell? ⟨w.heap.size+1,0,none⟩=some (.int .i64 (i:Int)):=by rw[AF.out]; exact AN.out.2.1.cell 0
 go_enter Tryz.func123,Tryz.ntmps123
 go_wp2_with fail
 rw[AF.out];clear q2 q3 AF;refine(vW W2 S.a S.p S.A S.ct S.l i (Ag.out.ext AW.out).rds A1.out).mono ?_;rintro e w3 ⟨rfl,AD⟩;obtain⟨W4,AL⟩:∃W4,Hid (w3.alloc (.cells (vT S.l i) 38)=W4):=⟨_,yG rfl⟩;obtain⟨g2,Au⟩:∃g2,Hid (w.heap.size=g2):=⟨_,yG rfl⟩;obtain⟨g3,A6⟩:∃g3,Hid (w.heap.size+1=g3):=⟨_,yG rfl⟩;obtain⟨g4,An⟩:∃g4,Hid (w3.heap.size=g4):=⟨_,yG rfl⟩
 have AG:Hid (Rn w S R i g2 g3 g4 W4 s R):=yG (by
  have Al:Ext w3 W4:=by rw[←AL.out]; exact Ext.alloc _ _
  have hx:=(AW.out.trans AD).trans Al;refine⟨Ag.out.ext hx,xC.ext hx,ZQ.refl R,?_,?_,?_⟩
  ·rw[←Au.out]; exact(AN.out.1.xE (xC.ext (M:=xL S R) AD)).xE (xC.ext (M:=xL S R) Al)
  ·rw[←A6.out]; exact(AN.out.2.xE (xC.ext (M:=xL S R) AD)).xE (xC.ext (M:=xL S R) Al)
  ·rw[←An.out,←AL.out]
   exact(((Ag.out.ext AW.out).ext AD).fresh 38 (vT S.l i)))
 have Ak:Hid (vP (tN S.l) (f+1) i s=vP (tN S.l) (f+1) i s):=yG rfl;have Aj:Hid (vT S.l i=#[.int .u8 (7:Int),.int .i64 (YT S.l i),.string (xG (yZ (tN S.l) i).text),.int .i64 (yZ (tN S.l) i).num,.slice (hdN S.l i).1 (yZ (tN S.l) i).kids.length (hdN S.l i).2]):=yG (by unfold vT; rw[AX.out]; try rfl);rw[Aj.out] at AL ⊢
 go_upto_region 2 with fail
 rw[AL.out,An.out];rw[A6.out,Au.out];clear AD AL An AN AW
 obtain⟨a,b,L,Ab,ha⟩:∃a b L,(yZ (tN S.l) i).kids=a::b::L∧(yZ (tN S.l) a).kind=20:=by
  have h:=AM.out;unfold zCs at h;rw[AX.out] at h;obtain⟨a,b,h1,h2⟩:=h; exact⟨a,b,[],h1,h2⟩
 have AJ:=yG Ab;have AR:=yG ha;have Ay:=yG (zMP (f:=f) (s:=s) (by have:=AX.out; omega) Ab);clear Ab ha Ak;have BA:True:=trivial;obtain⟨kA,AU⟩:∃kA,Hid ((hdN S.l i).1=kA):=⟨_,yG rfl⟩;obtain⟨kc,AK⟩:∃kc,Hid ((hdN S.l i).2=kc):=⟨_,yG rfl⟩;obtain⟨n,AH⟩:∃n,Hid ((yZ (tN S.l) i).kids.length=n):=⟨_,yG rfl⟩;rw[AU.out,AK.out,AH.out]
 have A7:2≤n:=by have h:=AH.out; rw[AJ.out] at h; simp at h; omega
 have BL:n≤kc:=by have h:=AT.out; rw[AH.out,AK.out] at h; exact h
 have BT:n≤100000:=by have h:=BK.out; rw[AH.out] at h; exact h
 have Ad:=Ao.out _ _ _ AG.out.nb;rw[AU.out] at Ad;obtain⟨kb,ko,rfl,_,_⟩:=Ad.at_ (by rw[vK,AH.out]; omega);clear Ad BA
 have AS:Hid (∀(wr:World) (sk:Nr) (Rk:DyN),NB wr S sk Rk→kb<wr.heap.size∧wr.cell? ⟨kb,ko,none⟩=some (.int .i64 (a:Int))∧wr.cell? ⟨kb,ko+1,none⟩=some (.int .i64 (b:Int))∧True):=yG fun wr sk Rk hn=>by
  have hc:=Ao.out wr sk Rk hn;rw[AU.out,AJ.out] at hc;obtain⟨b',o',e1,e2,e3⟩:=hc.at_ (by simp[ints]);injection e1 with e1;injection e1 with e1 e1';subst e1 e1';exact⟨e2,(e3 0 (by simp[ints]; try omega)).trans rfl,(e3 1 (by simp[ints]; try omega)).trans rfl,trivial⟩
 have At:Hid (∀(W:World) (M:Nat→Prop),StF W M S i g2 g3 g4→W.cell? ⟨g4,0,none⟩=some (.int .u8 (7:Int))):=yG fun W M h=>by have:=h.b4.1.cell 0; rw[Aj.out] at this; exact this
 have Af:Hid (∀(W:World) (M:Nat→Prop),StF W M S i g2 g3 g4→W.cell? ⟨g4,4,none⟩=some (.slice (some ⟨kb,ko,none⟩) n kc)):=yG fun W M h=>by have:=h.b4.1.cell 4; rw[Aj.out,AU.out,AK.out,AH.out] at this; exact this
 have AE:Hid (i<a∧a<S.l.length):=yG (Am.out a (by rw[AJ.out]; simp));have Aa:Hid (i<b∧b<S.l.length):=yG (Am.out b (by rw[AJ.out]; simp));have AP:Hid (∀k,k ∈ L→i<k∧k<S.l.length):=yG fun k hk=>Am.out k (by rw[AJ.out]; exact List.mem_cons_of_mem _ (List.mem_cons_of_mem _ hk))
 have i0:(0:Int)<(n:Int):=by omega
 have j0:0<n:=by omega
 have j1:1<n:=by omega
 have i1:(1:Int)<(n:Int):=by omega
 have Ax:Hid (n-2=L.length):=yG (by have h:=AH.out; rw[AJ.out] at h; simp only[zK] at h; omega);generalize hwhole:vP (tN S.l) (f+1) i s=whole at *;clear hwhole;have n0:=At.out _ _ AG.out.f
 go_upto_region 15 with fail
 clear n0;have q2:=AG.out.k2;have l2:=AG.out.f.b2.1.lt;have n4:=Af.out _ _ AG.out.f;have l4:=AG.out.f.b4.1.lt;have Ae:=(AS.out _ _ _ AG.out.nb).1;have zFk:=(AS.out _ _ _ AG.out.nb).2.1
 go_still_tail 5,(by kernel_rfl)
 change wpList _ _ _ _ _ (World.drew W4)
 have AQ:Ext W4 (World.drew W4):=Below.drew (Below.refl _ _);generalize World.drew W4=w1 at *;clear q2 l2 n4 l4 Ae zFk;have AY:=Rn.zE8 AG AQ;clear AQ
 go_wp2_with fail
 refine(zBd (f+1) w1 S s R a HT.out AY.out.nb AE.out.2 (by have:=AE.out.1; have:=Aw.out; omega) (by have:=AZ.out.1; omega) AZ.out.2).mono ?_;intro e w2 AA
 cases hq:vD (tN S.l) (f+1) a s with
 | err j er=>
  rw[hq] at AA;obtain⟨rfl,hF⟩:=Rn.fail (whole:=whole) AY AA (by rw[Ay.out,hq]; rfl);exact xJ (P:=Tryz.prog) (fn:=Tryz.f123) rfl hF
 | ok s2=>
  rw[hq] at AA;obtain⟨rfl,R2,A0⟩:=AA;have AB:=Rn.step AY A0;have BQ:=yG hq;obtain⟨tn,x,AQ,Ai,AD⟩:=zKz HT.out.R AR.out (by rw[AY.out.nb.len]; exact AE.out.2) hq;have BM:Hid (s2.xH[tn]?=some x):=yG (by rw[AD]; exact AQ);have AI:Hid (s2.blocks.length+2*(f+1)+2≤100000∧s2.blocks≠[]):=yG (by rw[(YF HT.out.R (f+1) a s s2 hq).blocks]; exact AZ.out);have A9:=yG Ai;have AF:Hid (whole=((YR (tN S.l) b (tn:Int) s2).bind (vJ (vD (tN S.l) (f+1)) L)).bind (ZN (tN S.l) i)):=yG (by rw[Ay.out,hq,←Ai]; rfl);clear A0 hq AQ Ai AD;unfold vU
  go_upto_region 16 with fail
  have q2:=AB.out.k2;have l2:=AB.out.f.b2.1.lt;have n4:=Af.out _ _ AB.out.f;have l4:=AB.out.f.b4.1.lt;have Ae:=(AS.out _ _ _ AB.out.nb).1;have zFk:=(AS.out _ _ _ AB.out.nb).2.1;have zMJ:=(AS.out _ _ _ AB.out.nb).2.2.1;have r0:=AB.out.nb.rds.r0;have al:=AB.out.nb.rds.al;have pl:=AB.out.nb.rds.pl;have p3:=AB.out.nb.p3;have co:=AB.out.nb.zBP a AE.out.2;rw[A9.out] at co;have BC:=AB.out.nb.of.lt
  have qa:(a:Int)<(S.l.length:Int):=by have:=AE.out; omega
  go_still_tail 18,(by kernel_rfl)
  change wpList _ _ _ _ _ (World.drew w2)
  have AD:Ext w2 (World.drew w2):=Below.drew (Below.refl _ _);generalize World.drew w2=w3 at *;clear q2 l2 n4 l4 Ae zFk zMJ r0 al pl p3 co BC qa;have Ac:=Rn.zE8 AB AD;clear AD
  go_wp2_with fail
  refine(zEg w3 S s2 R2 b tn x BM.out Ac.out.nb Aa.out.2).mono ?_;intro e w4 AA
  cases hq:YR (tN S.l) b (tn:Int) s2 with
  | err j er=>
   rw[hq] at AA;obtain⟨rfl,hF⟩:=Rn.fail (whole:=whole) Ac AA (by rw[AF.out,hq]; rfl);exact xJ (P:=Tryz.prog) (fn:=Tryz.f123) rfl hF
  | ok s4=>
   rw[hq] at AA;obtain⟨rfl,R4,A3⟩:=AA;have A5:=Rn.step Ac A3;have BR:=yG hq;have BH:Hid (s4.blocks.length+2*(f+1)+2≤100000∧s4.blocks≠[]):=yG (by rw[(zFU hq).blocks]; exact AI.out);have AL:Hid (whole=(vJ (vD (tN S.l) (f+1)) (L.drop 0) s4).bind (ZN (tN S.l) i)):=yG (by rw[AF.out,hq]; rfl);clear A3 hq;unfold vU;have Ar:∀W:World,(Instr.slice 30 (.slice (some ⟨kb,ko,none⟩) n kc) (some (.int .i64 2)) none none).run Tryz.prog W=.ok (.slice (zDT (some ⟨kb,ko,none⟩) kc 2) (n-2) (kc-2)) W:=fun W=>zB2 W 30 3 Tryz.underlying30 zMS (some ⟨kb,ko,none⟩) n kc 2 A7;obtain⟨LA,Av⟩:∃LA,Hid (zDT (some ⟨kb,ko,none⟩) kc 2=LA):=⟨_,yG rfl⟩
   have BE:Hid (∀(wr:World) (sk:Nr) (Rk:DyN),NB wr S sk Rk→Cells wr LA (ints L)):=yG fun wr sk Rk hn=>by
    have hc:=zNC (c:=kc) (Ao.out wr sk Rk hn) (by rw[AH.out]; exact BL) 2;rw[AU.out,Av.out,AJ.out] at hc;exact hc
   rw[Av.out,Ax.out] at Ar;have n4:=Af.out _ _ A5.out.f
   go_upto_region 18 with fail
   clear n4 Ar
   have BP:L.length≤100000:=by have:=Ax.out; omega
   go_loopw [76] (fun i' wr=>∃(k:Nat) (sk:Nr) (Rk:DyN),k≤L.length∧i'=.int .i64 k∧Hid (Rn w S R i g2 g3 g4 wr sk Rk)∧Hid (sk.blocks.length+2*(f+1)+2≤100000∧sk.blocks≠[])∧Hid (whole=(vJ (vD (tN S.l) (f+1)) (L.drop k) sk).bind (ZN (tN S.l) i))) (fun i' _=>L.length-(intOf i').toNat)
   case atStart=>exact⟨0,s4,R4,zW _,rfl,A5,BH,AL⟩
   case round=>
    obtain⟨k,sk,Rk,hk,rfl,AC,AI,Ah⟩:=hrel;obtain⟨wa,rfl⟩:∃wa:World,wa=wr:=⟨_,rfl⟩
    by_cases AV:k<L.length
    ·have d0:decide ((k:Int)<(L.length:Int))=true:=yS (by omega)
     have q1:(k:Int)<(L.length:Int):=by omega
     obtain⟨b',BG,A8,hb,As⟩:=(BE.out wa sk Rk AC.out.nb).at_ (by rw[vK]; omega)
     have e0:wa.cell? ⟨b',BG+k,none⟩=some (.int .i64 ((L[k]:Nat):Int)):=by rw[As k (by rw[vK]; exact AV)]; simp[ints,AV]
     have AO:Hid (L[k] ∈ L):=yG (yO AV);have Aq:Hid (vJ (vD (tN S.l) (f+1)) (L.drop k) sk=((vD (tN S.l) (f+1)) L[k] sk).bind (vJ (vD (tN S.l) (f+1)) (L.drop (k+1)))):=yG (by rw[List.drop_eq_getElem_cons AV]; rfl);clear As;generalize L[k]=c at *;subst A8;have q2:=AC.out.k2
     go_wp2_with fail
     clear q2 e0;refine(zBd (f+1) wa S sk Rk c HT.out AC.out.nb (AP.out c AO.out).2 (by have:=(AP.out c AO.out).1; have:=Aw.out; omega) (by have:=AI.out.1; omega) AI.out.2).mono ?_;intro e w5 AA
     cases hq:vD (tN S.l) (f+1) c sk with
     | err j er=>
      rw[hq] at AA;obtain⟨rfl,hF⟩:=Rn.fail (whole:=whole) AC AA (by rw[Ah.out,Aq.out,hq]; rfl);exact xJ (P:=Tryz.prog) (fn:=Tryz.f123) rfl hF
     | ok s5=>
      rw[hq] at AA;obtain⟨rfl,R5,Az⟩:=AA;have BO:=Rn.step AC Az;have BB:Hid (s5.blocks.length+2*(f+1)+2≤100000∧s5.blocks≠[]):=yG (by rw[(YF HT.out.R (f+1) c sk s5 hq).blocks]; exact AI.out);have BF:Hid (whole=(vJ (vD (tN S.l) (f+1)) (L.drop (k+1)) s5).bind (ZN (tN S.l) i)):=yG (by rw[Ah.out,Aq.out,hq]; rfl);clear Az hq;unfold vU
      go_wp2_with fail
      go_roundw
      case rel=>exact⟨k+1,s5,R5,by omega,by go_num,BO,BB,BF⟩
      case measure=>simp[intOf]; omega
    ·obtain rfl:k=L.length:=by omega
     have d0:decide ((L.length:Int)<(L.length:Int))=false:=by simp
     have d1:decide (L.length<L.length)=false:=by simp
     have BJ:Hid (whole=ZN (tN S.l) i sk):=yG (by rw[Ah.out,List.drop_length]; rfl);have n0:=At.out _ _ AC.out.f;have q2:=AC.out.k2;have q3:=AC.out.k3;have Ap:Hid (whole=YQ (tN S.l) i sk):=yG (by rw[BJ.out]; exact zGI (by have:=AX.out; omega))
     go_wp2_with fail
     clear n0 q2 q3;refine(zEy wa S sk Rk i AC.out.nb A1.out AI.out.2 (by have:=AI.out.1; omega)).mono ?_;intro e w9 AA
     cases hq:YQ (tN S.l) i sk with
     | err j er=>
      rw[hq] at AA;obtain⟨rfl,hF⟩:=Rn.fail (whole:=whole) AC AA (by rw[Ap.out,hq]);exact xJ (P:=Tryz.prog) (fn:=Tryz.f123) rfl hF
     | ok s9=>
      rw[hq] at AA;obtain⟨rfl,R9,A4⟩:=AA;have BN:=yG (Rn.done (Rn.step AC A4) (show whole=.ok s9 by rw[Ap.out,hq]));clear A4 hq;unfold vU
      go_wp2_with fail
      go_end0;exact BN.out
theorem zTa (f:Nat)(S:StN)(hT:zEb S)(hst:zD7 S f)(w:World)(s:Nr)(R:DyN)(i:Nat)(h:NB w S s R)(hi:i<S.l.length)(hf:S.l.length≤f+1+i)(hb:s.blocks.length+2*(f+1)+2≤100000)(hne:s.blocks≠[])(hk:(yZ (tN S.l) i).kind=8) :
  Calls Tryz.prog 123 #[.pointer (some ⟨S.a,0,none⟩),.int .i64 (i:Int)] w (jR w S R (vP (tN S.l) (f+1) i s) vU):=by
 have HT:=yG hT;have Ag:=yG h;have BF:=yG hi;have BA:=yG hst;have Av:=yG hf;have AX:=yG hk;have BQ:Hid ((yZ (tN S.l) i).text.length≤maxLen):=yG (h.st.tree.txt i);have AZ:Hid (s.blocks.length+2*(f+1)+2≤100000∧s.blocks≠[]):=yG ⟨hb,hne⟩;have Ao:Hid (∀(wr:World) (sk:Nr) (Rk:DyN),NB wr S sk Rk→Cells wr (hdN S.l i).1 (ints (yZ (tN S.l) i).kids)):=yG fun wr sk Rk hn=>(hn.st.tree.kid i hi).cells;have Am:Hid (∀k,k ∈ (yZ (tN S.l) i).kids→i<k∧k<S.l.length):=yG fun k hk=>hT.up hk;have BH:Hid ((yZ (tN S.l) i).kids.length≤100000):=yG (hT.kl i);have AT:Hid ((yZ (tN S.l) i).kids.length≤(hdN S.l i).2):=yG (h.st.tree.cap i hi);have AM:Hid (zCs (tN S.l) i):=yG (hT.R.form i (by rw[JO]; exact hi) (by omega) (by omega));have A0:Hid (∀b,xL S R b→b<w.heap.size):=yG fun b hm=>h.ZW hm;obtain⟨W2,AE⟩:∃W2,Hid ((w.alloc (.cells #[.pointer (some ⟨S.a,0,none⟩)] 107)).alloc (.cells #[.int .i64 (i:Int)] 3)=W2):=⟨_,yG rfl⟩;have AW:Hid (Ext w W2):=yG (by rw[←AE.out]; exact(Ext.alloc _ _).trans (Ext.alloc _ _))
 have AN:Hid (Safe W2 (xL S R) w.heap.size 107 #[.pointer (some ⟨S.a,0,none⟩)]∧Safe W2 (xL S R) (w.heap.size+1) 3 #[.int .i64 (i:Int)]):=yG (by
  rw[←AE.out];refine⟨⟨(Blk.new _ _ _).alloc _,fun hm=>by have:=A0.out _ hm; omega⟩,⟨?_,fun hm=>by have:=A0.out _ hm; omega⟩⟩
  have:=Blk.new (w.alloc (.cells #[.pointer (some ⟨S.a,0,none⟩)] 107)) 3 #[.int .i64 (i:Int)]
  rwa [yT] at this)
 clear hT h hst hi hf hb hne hk
 have q2:((w.alloc (.cells #[.pointer (some ⟨S.a,0,none⟩)] 107)).alloc (.cells #[.int .i64 (i:Int)] 3)).cell? ⟨w.heap.size,0,none⟩=some (.pointer (some ⟨S.a,0,none⟩)):=by rw[AE.out]; exact AN.out.1.1.cell 0
 have q3:((w.alloc (.cells #[.pointer (some ⟨S.a,0,none⟩)] 107)).alloc (.cells #[.int .i64 (i:Int)] 3)).cell? ⟨w.heap.size+1,0,none⟩=some (.int .i64 (i:Int)):=by rw[AE.out]; exact AN.out.2.1.cell 0
 go_enter Tryz.func123,Tryz.ntmps123
 go_wp2_with fail
 rw[AE.out];clear q2 q3 AE;refine(vW W2 S.a S.p S.A S.ct S.l i (Ag.out.ext AW.out).rds BF.out).mono ?_;rintro e w3 ⟨rfl,AC⟩;obtain⟨W4,AK⟩:∃W4,Hid (w3.alloc (.cells (vT S.l i) 38)=W4):=⟨_,yG rfl⟩;obtain⟨g2,At⟩:∃g2,Hid (w.heap.size=g2):=⟨_,yG rfl⟩;obtain⟨g3,A3⟩:∃g3,Hid (w.heap.size+1=g3):=⟨_,yG rfl⟩;obtain⟨g4,An⟩:∃g4,Hid (w3.heap.size=g4):=⟨_,yG rfl⟩
 have AF:Hid (Rn w S R i g2 g3 g4 W4 s R):=yG (by
  have Al:Ext w3 W4:=by rw[←AK.out]; exact Ext.alloc _ _
  have hx:=(AW.out.trans AC).trans Al;refine⟨Ag.out.ext hx,xC.ext hx,ZQ.refl R,?_,?_,?_⟩
  ·rw[←At.out]; exact(AN.out.1.xE (xC.ext (M:=xL S R) AC)).xE (xC.ext (M:=xL S R) Al)
  ·rw[←A3.out]; exact(AN.out.2.xE (xC.ext (M:=xL S R) AC)).xE (xC.ext (M:=xL S R) Al)
  ·rw[←An.out,←AK.out]
   exact(((Ag.out.ext AW.out).ext AC).fresh 38 (vT S.l i)))
 have Ak:Hid (vP (tN S.l) (f+1) i s=vP (tN S.l) (f+1) i s):=yG rfl;have Aj:Hid (vT S.l i=#[.int .u8 (8:Int),.int .i64 (YT S.l i),.string (xG (yZ (tN S.l) i).text),.int .i64 (yZ (tN S.l) i).num,.slice (hdN S.l i).1 (yZ (tN S.l) i).kids.length (hdN S.l i).2]):=yG (by unfold vT; rw[AX.out]; try rfl);rw[Aj.out] at AK ⊢
 go_upto_region 2 with fail
 rw[AK.out,An.out];rw[A3.out,At.out];clear AC AK An AN AW
 obtain⟨a,b,L,Ab,ha⟩:∃a b L,(yZ (tN S.l) i).kids=a::b::L∧(yZ (tN S.l) a).kind=20:=by
  have h:=AM.out;unfold zCs at h;rw[AX.out] at h;obtain⟨a,b,c,h1,h2,_⟩:=h; exact⟨a,b,[c],h1,h2⟩
 have AI:=yG Ab;have AR:=yG ha;have Ax:=yG (zMP (f:=f) (s:=s) (by have:=AX.out; omega) Ab);clear Ab ha Ak;have A7:True:=trivial;obtain⟨kA,AU⟩:∃kA,Hid ((hdN S.l i).1=kA):=⟨_,yG rfl⟩;obtain⟨kc,AJ⟩:∃kc,Hid ((hdN S.l i).2=kc):=⟨_,yG rfl⟩;obtain⟨n,AG⟩:∃n,Hid ((yZ (tN S.l) i).kids.length=n):=⟨_,yG rfl⟩;rw[AU.out,AJ.out,AG.out]
 have A4:2≤n:=by have h:=AG.out; rw[AI.out] at h; simp at h; omega
 have BJ:n≤kc:=by have h:=AT.out; rw[AG.out,AJ.out] at h; exact h
 have BR:n≤100000:=by have h:=BH.out; rw[AG.out] at h; exact h
 have Ad:=Ao.out _ _ _ AF.out.nb;rw[AU.out] at Ad;obtain⟨kb,ko,rfl,_,_⟩:=Ad.at_ (by rw[vK,AG.out]; omega);clear Ad A7
 have AS:Hid (∀(wr:World) (sk:Nr) (Rk:DyN),NB wr S sk Rk→kb<wr.heap.size∧wr.cell? ⟨kb,ko,none⟩=some (.int .i64 (a:Int))∧wr.cell? ⟨kb,ko+1,none⟩=some (.int .i64 (b:Int))∧True):=yG fun wr sk Rk hn=>by
  have hc:=Ao.out wr sk Rk hn;rw[AU.out,AI.out] at hc;obtain⟨b',o',e1,e2,e3⟩:=hc.at_ (by simp[ints]);injection e1 with e1;injection e1 with e1 e1';subst e1 e1';exact⟨e2,(e3 0 (by simp[ints]; try omega)).trans rfl,(e3 1 (by simp[ints]; try omega)).trans rfl,trivial⟩
 have As:Hid (∀(W:World) (M:Nat→Prop),StF W M S i g2 g3 g4→W.cell? ⟨g4,0,none⟩=some (.int .u8 (8:Int))):=yG fun W M h=>by have:=h.b4.1.cell 0; rw[Aj.out] at this; exact this
 have Af:Hid (∀(W:World) (M:Nat→Prop),StF W M S i g2 g3 g4→W.cell? ⟨g4,4,none⟩=some (.slice (some ⟨kb,ko,none⟩) n kc)):=yG fun W M h=>by have:=h.b4.1.cell 4; rw[Aj.out,AU.out,AJ.out,AG.out] at this; exact this
 have AD:Hid (i<a∧a<S.l.length):=yG (Am.out a (by rw[AI.out]; simp));have Aa:Hid (i<b∧b<S.l.length):=yG (Am.out b (by rw[AI.out]; simp));have AP:Hid (∀k,k ∈ L→i<k∧k<S.l.length):=yG fun k hk=>Am.out k (by rw[AI.out]; exact List.mem_cons_of_mem _ (List.mem_cons_of_mem _ hk))
 have i0:(0:Int)<(n:Int):=by omega
 have j0:0<n:=by omega
 have j1:1<n:=by omega
 have i1:(1:Int)<(n:Int):=by omega
 have Aw:Hid (n-2=L.length):=yG (by have h:=AG.out; rw[AI.out] at h; simp only[zK] at h; omega);generalize hwhole:vP (tN S.l) (f+1) i s=whole at *;clear hwhole;have n0:=As.out _ _ AF.out.f
 go_upto_region 15 with fail
 clear n0;have q2:=AF.out.k2;have l2:=AF.out.f.b2.1.lt;have n4:=Af.out _ _ AF.out.f;have l4:=AF.out.f.b4.1.lt;have Ae:=(AS.out _ _ _ AF.out.nb).1;have zFk:=(AS.out _ _ _ AF.out.nb).2.1
 go_still_tail 5,(by kernel_rfl)
 change wpList _ _ _ _ _ (World.drew W4)
 have AQ:Ext W4 (World.drew W4):=Below.drew (Below.refl _ _);generalize World.drew W4=w1 at *;clear q2 l2 n4 l4 Ae zFk;have AY:=Rn.zE8 AF AQ;clear AQ
 go_wp2_with fail
 refine(zBd (f+1) w1 S s R a HT.out AY.out.nb AD.out.2 (by have:=AD.out.1; have:=Av.out; omega) (by have:=AZ.out.1; omega) AZ.out.2).mono ?_;intro e w2 AA
 cases hq:vD (tN S.l) (f+1) a s with
 | err j er=>
  rw[hq] at AA;obtain⟨rfl,hF⟩:=Rn.fail (whole:=whole) AY AA (by rw[Ax.out,hq]; rfl);exact xJ (P:=Tryz.prog) (fn:=Tryz.f123) rfl hF
 | ok s2=>
  rw[hq] at AA;obtain⟨rfl,R2,Az⟩:=AA;have AB:=Rn.step AY Az;have BO:=yG hq;obtain⟨tn,x,AQ,Ai,AC⟩:=zKz HT.out.R AR.out (by rw[AY.out.nb.len]; exact AD.out.2) hq;have BK:Hid (s2.xH[tn]?=some x):=yG (by rw[AC]; exact AQ);have AL:Hid (s2.blocks.length+2*(f+1)+2≤100000∧s2.blocks≠[]):=yG (by rw[(YF HT.out.R (f+1) a s s2 hq).blocks]; exact AZ.out);have A6:=yG Ai;have AE:Hid (whole=((YR (tN S.l) b (tn:Int) s2).bind (vJ (vD (tN S.l) (f+1)) L)).bind (ZN (tN S.l) i)):=yG (by rw[Ax.out,hq,←Ai]; rfl);clear Az hq AQ Ai AC;unfold vU
  go_upto_region 16 with fail
  have q2:=AB.out.k2;have l2:=AB.out.f.b2.1.lt;have n4:=Af.out _ _ AB.out.f;have l4:=AB.out.f.b4.1.lt;have Ae:=(AS.out _ _ _ AB.out.nb).1;have zFk:=(AS.out _ _ _ AB.out.nb).2.1;have zMJ:=(AS.out _ _ _ AB.out.nb).2.2.1;have r0:=AB.out.nb.rds.r0;have al:=AB.out.nb.rds.al;have pl:=AB.out.nb.rds.pl;have p3:=AB.out.nb.p3;have co:=AB.out.nb.zBP a AD.out.2;rw[A6.out] at co;have A9:=AB.out.nb.of.lt
  have qa:(a:Int)<(S.l.length:Int):=by have:=AD.out; omega
  go_still_tail 18,(by kernel_rfl)
  change wpList _ _ _ _ _ (World.drew w2)
  have AC:Ext w2 (World.drew w2):=Below.drew (Below.refl _ _);generalize World.drew w2=w3 at *;clear q2 l2 n4 l4 Ae zFk zMJ r0 al pl p3 co A9 qa;have Ac:=Rn.zE8 AB AC;clear AC
  go_wp2_with fail
  refine(zEg w3 S s2 R2 b tn x BK.out Ac.out.nb Aa.out.2).mono ?_;intro e w4 AA
  cases hq:YR (tN S.l) b (tn:Int) s2 with
  | err j er=>
   rw[hq] at AA;obtain⟨rfl,hF⟩:=Rn.fail (whole:=whole) Ac AA (by rw[AE.out,hq]; rfl);exact xJ (P:=Tryz.prog) (fn:=Tryz.f123) rfl hF
  | ok s4=>
   rw[hq] at AA;obtain⟨rfl,R4,A1⟩:=AA;have A2:=Rn.step Ac A1;have BP:=yG hq;have BE:Hid (s4.blocks.length+2*(f+1)+2≤100000∧s4.blocks≠[]):=yG (by rw[(zFU hq).blocks]; exact AL.out);have AK:Hid (whole=(vJ (vD (tN S.l) (f+1)) (L.drop 0) s4).bind (ZN (tN S.l) i)):=yG (by rw[AE.out,hq]; rfl);clear A1 hq;unfold vU;have Aq:∀W:World,(Instr.slice 30 (.slice (some ⟨kb,ko,none⟩) n kc) (some (.int .i64 2)) none none).run Tryz.prog W=.ok (.slice (zDT (some ⟨kb,ko,none⟩) kc 2) (n-2) (kc-2)) W:=fun W=>zB2 W 30 3 Tryz.underlying30 zMS (some ⟨kb,ko,none⟩) n kc 2 A4;obtain⟨LA,Au⟩:∃LA,Hid (zDT (some ⟨kb,ko,none⟩) kc 2=LA):=⟨_,yG rfl⟩
   have BB:Hid (∀(wr:World) (sk:Nr) (Rk:DyN),NB wr S sk Rk→Cells wr LA (ints L)):=yG fun wr sk Rk hn=>by
    have hc:=zNC (c:=kc) (Ao.out wr sk Rk hn) (by rw[AG.out]; exact BJ) 2;rw[AU.out,Au.out,AI.out] at hc;exact hc
   rw[Au.out,Aw.out] at Aq;have n4:=Af.out _ _ A2.out.f
   go_upto_region 18 with fail
   clear n4 Aq
   have BN:L.length≤100000:=by have:=Aw.out; omega
   go_loopw [76] (fun i' wr=>∃(k:Nat) (sk:Nr) (Rk:DyN),k≤L.length∧i'=.int .i64 k∧Hid (Rn w S R i g2 g3 g4 wr sk Rk)∧Hid (sk.blocks.length+2*(f+1)+2≤100000∧sk.blocks≠[])∧Hid (whole=(vJ (vD (tN S.l) (f+1)) (L.drop k) sk).bind (ZN (tN S.l) i))) (fun i' _=>L.length-(intOf i').toNat)
   case atStart=>exact⟨0,s4,R4,zW _,rfl,A2,BE,AK⟩
   case round=>
    obtain⟨k,sk,Rk,hk,rfl,AH,AL,Ah⟩:=hrel;obtain⟨wa,rfl⟩:∃wa:World,wa=wr:=⟨_,rfl⟩
    by_cases AV:k<L.length
    ·have d0:decide ((k:Int)<(L.length:Int))=true:=yS (by omega)
     have q1:(k:Int)<(L.length:Int):=by omega
     obtain⟨b',BD,A5,hb,Ar⟩:=(BB.out wa sk Rk AH.out.nb).at_ (by rw[vK]; omega)
     have e0:wa.cell? ⟨b',BD+k,none⟩=some (.int .i64 ((L[k]:Nat):Int)):=by rw[Ar k (by rw[vK]; exact AV)]; simp[ints,AV]
     have AO:Hid (L[k] ∈ L):=yG (yO AV);have Ap:Hid (vJ (vD (tN S.l) (f+1)) (L.drop k) sk=((vD (tN S.l) (f+1)) L[k] sk).bind (vJ (vD (tN S.l) (f+1)) (L.drop (k+1)))):=yG (by rw[List.drop_eq_getElem_cons AV]; rfl);clear Ar;generalize L[k]=c at *;subst A5;have q2:=AH.out.k2
     go_wp2_with fail
     clear q2 e0;refine(zBd (f+1) wa S sk Rk c HT.out AH.out.nb (AP.out c AO.out).2 (by have:=(AP.out c AO.out).1; have:=Av.out; omega) (by have:=AL.out.1; omega) AL.out.2).mono ?_;intro e w5 AA
     cases hq:vD (tN S.l) (f+1) c sk with
     | err j er=>
      rw[hq] at AA;obtain⟨rfl,hF⟩:=Rn.fail (whole:=whole) AH AA (by rw[Ah.out,Ap.out,hq]; rfl);exact xJ (P:=Tryz.prog) (fn:=Tryz.f123) rfl hF
     | ok s5=>
      rw[hq] at AA;obtain⟨rfl,R5,Ay⟩:=AA;have BM:=Rn.step AH Ay;have A8:Hid (s5.blocks.length+2*(f+1)+2≤100000∧s5.blocks≠[]):=yG (by rw[(YF HT.out.R (f+1) c sk s5 hq).blocks]; exact AL.out);have BC:Hid (whole=(vJ (vD (tN S.l) (f+1)) (L.drop (k+1)) s5).bind (ZN (tN S.l) i)):=yG (by rw[Ah.out,Ap.out,hq]; rfl);clear Ay hq;unfold vU
      go_wp2_with fail
      go_roundw
      case rel=>exact⟨k+1,s5,R5,by omega,by go_num,BM,A8,BC⟩
      case measure=>simp[intOf]; omega
    ·obtain rfl:k=L.length:=by omega
     have d0:decide ((L.length:Int)<(L.length:Int))=false:=by simp
     have d1:decide (L.length<L.length)=false:=by simp
     have BG:Hid (whole=ZN (tN S.l) i sk):=yG (by rw[Ah.out,List.drop_length]; rfl);have n0:=As.out _ _ AH.out.f;have BL:=yG (Rn.done AH (show whole=.ok sk by rw[BG.out]; exact zFL (by have:=AX.out; omega)))
     go_wp2_with fail
     go_end0;exact BL.out
end Go.Proofs.YtbadjmmjbpeocaaGreat
