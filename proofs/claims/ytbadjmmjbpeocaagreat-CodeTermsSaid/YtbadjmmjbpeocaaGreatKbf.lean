/- The reader of names: block. Condition: statements' contract. -/
import Derived.Test.YtbadjmmjbpeocaaGreatKaa
import Derived.Test.YtbadjmmjbpeocaaGreatKbe
set_option linter.unusedVariables false
set_option linter.unusedSimpArgs false
set_option maxRecDepth 100000
set_option maxHeartbeats 16000000
namespace Go.Proofs.YtbadjmmjbpeocaaGreat
open Go Go.RowKit
def zD1 (S:StN)(f:Nat):Prop:=∀(w:World) (s:Nr) (R:DyN) (i:Nat),NB w S s R→i<S.l.length→S.l.length≤f+i→s.blocks.length+2*f+2≤100000→s.blocks≠[]→Calls Tryz.prog 123 #[.pointer (some ⟨S.a,0,none⟩),.int .i64 (i:Int)] w (jS w S R (vF (tN S.l) f i s) vU)
def zAK (t:List Nd)(f:Nat)(top:Bool)(k:Nat):Nn:=fun s=>if (top||(xB t k).kind != 19)=true then vF t f k s else .err k 73
theorem XM {s s':Nr}(h:YT s s'):s'.blocks.length=s.blocks.length∧s'.blocks≠[]:=by
 obtain⟨n,b,rest,h1,h2⟩:=h.blocks;rw[h1,h2];exact⟨rfl,by simp⟩
theorem zGE {t:List Nd}(R:XK t){f:Nat}{top:Bool}{k:Nat}{s s':Nr}(hb:s.blocks≠[])(h:zAK t f top k s=.ok s'):YT s s':=by
 unfold zAK at h
 split at h
 ·exact zA9 R f k s s' hb h
 ·cases h
structure zMj (w:World)(M:Nat→Prop)(a i:Nat)(top:Bool)(g3 g4 g5:Nat):Prop where
 b3:Safe w M g3 107 #[.pointer (some ⟨a,0,none⟩)]
 b4:Safe w M g4 3 #[.int .i64 (i:Int)]
 b5:Safe w M g5 4 #[.bool top]
theorem zMj.xE {w w':World}{M M':Nat→Prop}{a i:Nat}{top:Bool}{g3 g4 g5:Nat}(h:zMj w M a i top g3 g4 g5)(k:xC w M w' M'):zMj w' M' a i top g3 g4 g5:=⟨h.b3.xE k,h.b4.xE k,h.b5.xE k⟩
theorem zLE (f:Nat)(S:StN)(hT:zD5 S)(hst:zD1 S f)(w:World)(s:Nr)(R:DyN)(i g3 g4 g5:Nat)(h:NB w S s R)(hc:zMj w (xL S R) S.a i true g3 g4 g5)(hi:i<S.l.length)(hf:S.l.length≤f+i+1)(hb:s.blocks.length+2*f+2≤100000)(hne:s.blocks≠[]) :
  Calls Tryz.prog 122 #[.pointer (some ⟨g3,0,none⟩),.pointer (some ⟨g4,0,none⟩),.pointer (some ⟨g5,0,none⟩)] w (jS w S R (vE (zAK (tN S.l) f true) (xB (tN S.l) i).kids s) vU):=by
 have HT:=yG hT;have HNB:=yG h;have HRD:=yG h.rds;have HIL:=yG hi;have HCP:=yG hc;have HSTM:=yG hst;have HKS:Hid (∀(wr:World) (sk:Nr) (Rk:DyN),NB wr S sk Rk→Cells wr (hdN S.l i).1 (ints (xB (tN S.l) i).kids)):=yG fun wr sk Rk hn=>(hn.st.tree.kid i hi).cells;have HUP:Hid (∀k,k ∈ (xB (tN S.l) i).kids→i<k∧k<S.l.length):=yG fun k hk=>hT.up hk;have HFI:=yG hf;have HBL:Hid (s.blocks.length+2*f+2≤100000∧s.blocks≠[]):=yG ⟨hb,hne⟩;have hkb:=hT.kl i;have HKB:=yG hkb;have HRT:=yG hT.R;have q3:w.cell? ⟨g3,0,none⟩=some (.pointer (some ⟨S.a,0,none⟩)):=hc.b3.1.cell 0;have q4:w.cell? ⟨g4,0,none⟩=some (.int .i64 (i:Int)):=hc.b4.1.cell 0;clear hT h hi hf hb hne hc hst
 go_enter Tryz.func122,Tryz.ntmps122
 go_wp2_with fail
 refine(vW w S.a S.p S.A S.ct S.l i HRD.out HIL.out).mono ?_;rintro e w1 ⟨rfl,hx1⟩;have HX1:=yG hx1;have HN1:=yG (HNB.out.ext hx1);have HC1:=yG (HCP.out.xE (xC.ext (M:=xL S R) hx1));have f4:=zFq S.l i w1;clear hx1 q3 q4
 go_upto_region 1 with fail
 clear f4;generalize vT S.l i=nC at *;generalize (xB (tN S.l) i).kids=kids at *;generalize (hdN S.l i).1=kA at *;generalize (hdN S.l i).2=kc at *;have HWH:Hid (vE (zAK (tN S.l) f true) kids s=vE (zAK (tN S.l) f true) (kids.drop 0) s):=yG rfl;generalize hwhole:vE (zAK (tN S.l) f true) kids s=whole at *;clear hwhole;have HMC:=yG (xC.ext (M:=xL S R) HX1.out)
 go_loopw [10] (fun i' wr=>∃(k:Nat) (sk:Nr) (Rk:DyN),k≤kids.length∧i'=.int .i64 k∧Hid (NB wr S sk Rk)∧Hid (xC w (xL S R) wr (xL S Rk))∧Hid (ZQ R Rk)∧Hid (sk.blocks.length+2*f+2≤100000∧sk.blocks≠[])∧Hid (zMj wr (xL S Rk) S.a i true g3 g4 g5)∧Hid (whole=vE (zAK (tN S.l) f true) (kids.drop k) sk)) (fun i' _=>kids.length-(intOf i').toNat)
 case atStart=>exact⟨0,s,R,zW _,rfl,HN1,HMC,yG (ZQ.refl R),HBL,HC1,HWH⟩
 case round=>
  obtain⟨k,sk,Rk,hk,rfl,HNK,HMK,HSK,HBK,HCK,HWK⟩:=hrel;obtain⟨wa,rfl⟩:∃wa:World,wa=wr:=⟨_,rfl⟩
  by_cases hlt:k<kids.length
  ·have d0:decide ((k:Int)<(kids.length:Int))=true:=yS (by omega)
   have q1:(k:Int)<(kids.length:Int):=by omega
   obtain⟨b,off,rfl,hb,hcc⟩:=(HKS.out wa sk Rk HNK.out).at_ (by rw[vR]; omega)
   have e0:wa.cell? ⟨b,off+k,none⟩=some (.int .i64 ((kids[k]:Nat):Int)):=by rw[hcc k (by rw[vR]; exact hlt)]; simp[ints,hlt]
   have HMEM:Hid (kids[k] ∈ kids):=yG (yO hlt);have HSN:Hid (vE (zAK (tN S.l) f true) (kids.drop k) sk=(zAK (tN S.l) f true kids[k] sk).bind (vE (zAK (tN S.l) f true) (kids.drop (k+1)))):=yG (by rw[List.drop_eq_getElem_cons hlt]; rfl);clear hcc;generalize kids[k]=c at *;have q3:wa.cell? ⟨g3,0,none⟩=some (.pointer (some ⟨S.a,0,none⟩)):=HCK.out.b3.1.cell 0;have l3:=HCK.out.b3.1.lt;have q5:wa.cell? ⟨g5,0,none⟩=some (.bool true):=HCK.out.b5.1.cell 0;have l5:=HCK.out.b5.1.lt
   go_upto_region 3 with fail
   clear e0;have HONE:Hid (zAK (tN S.l) f true c sk=vF (tN S.l) f c sk):=yG rfl;apply xS 10 (by kernel_rfl) (by kernel_rfl) (by kernel_rfl);dsimp only[List.take_succ_cons,List.take_zero,List.drop_succ_cons,List.drop_zero];apply yZ (.pointer (some ⟨S.a,0,none⟩)) rfl rfl rfl
   ·intro w' hw' hH;have cc:=(hw'.cell (p:=⟨g3,0,none⟩) l3).trans q3;clear hH;simp[xA,go_sem,cc];exact Ext.refl _
   simp only[Act.put,yD,yE,yF];apply yZ (.bool true) rfl rfl rfl
   ·intro w' hw' hH;have cc:=(hw'.cell (p:=⟨g5,0,none⟩) l5).trans q5;clear hH;simp[xA,go_sem,cc];exact Ext.refl _
   simp only[Act.put,yD,yE,yF];apply yZ (.bool true) rfl rfl rfl
   ·intro w' hw' hH;clear hH;simp[xA,go_sem];exact Ext.refl _
   simp only[Act.put,yD,yE,yF];apply zEo (by kernel_rfl) rfl;simp only[Act.put,yD,yE,yF];apply zEo (by kernel_rfl) rfl;simp only[Act.put,yD,yE,yF];apply zEo (by kernel_rfl) rfl;simp only[Act.put,yD,yE,yF];apply zEo (by kernel_rfl) rfl;simp only[Act.put,yD,yE,yF];apply zEo (by kernel_rfl) rfl;simp only[Act.put,yD,yE,yF];apply yZ (.bool true) rfl rfl rfl
   ·intro w' hw' hH;clear hH;simp[xA,go_sem];exact Ext.refl _
   simp only[Act.put,yD,yE,yF];apply yZ (.int .i64 (c:Int)) rfl rfl rfl
   ·intro w' hw' hH;clear hH;simp[xA,go_sem];exact Ext.refl _
   simp only[Act.put,yD,yE,yF];apply xX;intro w2 hx2 hH;clear hH;simp only[Act.put,yD,yE,yF,List.drop_succ_cons,List.drop_zero];have HX2:=yG hx2;have HN2:=yG (HNK.out.ext hx2);have HC2:=yG (HCK.out.xE (xC.ext (M:=xL S Rk) hx2));have HM2:=yG (HMK.out.trans (xC.ext (M:=xL S Rk) hx2));clear hx2 q3 l3 q5 l5
   go_wp2_with fail
   refine(XG w2 (.pointer (some ⟨S.a,0,none⟩)) (c:Int) 73).mono ?_;rintro e w3 ⟨rfl,rfl⟩;have q3:w2.cell? ⟨g3,0,none⟩=some (.pointer (some ⟨S.a,0,none⟩)):=HC2.out.b3.1.cell 0
   go_wp2_with fail
   clear q3;refine(HSTM.out w2 sk Rk c HN2.out (HUP.out c HMEM.out).2 (by have:=(HUP.out c HMEM.out).1; have:=HFI.out; omega) HBK.out.1 HBK.out.2).mono ?_;intro e w5 hpost;rw[←HONE.out] at hpost
   cases hq:zAK (tN S.l) f true c sk with
   | err j er=>
    rw[hq] at hpost;obtain⟨rfl,hj,M',hm⟩:=hpost
    have HF:Hid (jS w S R whole vU (XJ (YQ S.l j) er) w5):=yG (by
     rw[HWK.out,HSN.out,hq]
     exact⟨rfl,hj,M',HM2.out.trans hm⟩)
    exact xJ (P:=Tryz.prog) (fn:=Tryz.f122) rfl HF.out
   | ok s5=>
    rw[hq] at hpost;obtain⟨rfl,R5,hst5,hn5,hm5⟩:=hpost;have HN5:=yG hn5;have HM5:=yG (HM2.out.trans hm5);have HS5:=yG (HSK.out.trans hst5);have HC5:=yG (HC2.out.xE hm5)
    have HB5:Hid (s5.blocks.length+2*f+2≤100000∧s5.blocks≠[]):=yG (by
     have hk:=XM (zGE HRT.out HBK.out.2 hq);rw[hk.1]
     exact⟨HBK.out.1,hk.2⟩)
    have HW5:Hid (whole=vE (zAK (tN S.l) f true) (kids.drop (k+1)) s5):=yG (by rw[HWK.out,HSN.out,hq]; rfl);clear hn5 hm5 hst5 hq;unfold vU
    go_wp2_with fail
    go_roundw
    case rel=>exact⟨k+1,s5,R5,by omega,by go_num,HN5,HM5,HS5,HB5,HC5,HW5⟩
    case measure=>simp[intOf]; omega
  ·obtain rfl:k=kids.length:=by omega
   have d0:decide ((kids.length:Int)<(kids.length:Int))=false:=by simp
   have d1:decide (kids.length<kids.length)=false:=by simp
   have HFE:Hid (whole=.ok sk):=yG (by rw[HWK.out,List.drop_length]; rfl)
   go_wp2_with fail
   go_end0;rw[HFE.out];exact⟨rfl,Rk,HSK.out,HNK.out,HMK.out⟩
theorem zJ0 (f:Nat)(S:StN)(hT:zD5 S)(hst:zD1 S f)(w:World)(s:Nr)(R:DyN)(i g3 g4 g5:Nat)(h:NB w S s R)(hc:zMj w (xL S R) S.a i false g3 g4 g5)(hi:i<S.l.length)(hf:S.l.length≤f+i+1)(hb:s.blocks.length+2*f+2≤100000)(hne:s.blocks≠[]) :
  Calls Tryz.prog 122 #[.pointer (some ⟨g3,0,none⟩),.pointer (some ⟨g4,0,none⟩),.pointer (some ⟨g5,0,none⟩)] w (jS w S R (vE (zAK (tN S.l) f false) (xB (tN S.l) i).kids s) vU):=by
 have HT:=yG hT;have HNB:=yG h;have HRD:=yG h.rds;have HIL:=yG hi;have HCP:=yG hc;have HSTM:=yG hst;have HKS:Hid (∀(wr:World) (sk:Nr) (Rk:DyN),NB wr S sk Rk→Cells wr (hdN S.l i).1 (ints (xB (tN S.l) i).kids)):=yG fun wr sk Rk hn=>(hn.st.tree.kid i hi).cells;have HUP:Hid (∀k,k ∈ (xB (tN S.l) i).kids→i<k∧k<S.l.length):=yG fun k hk=>hT.up hk;have HFI:=yG hf;have HBL:Hid (s.blocks.length+2*f+2≤100000∧s.blocks≠[]):=yG ⟨hb,hne⟩;have hkb:=hT.kl i;have HKB:=yG hkb;have HRT:=yG hT.R;have q3:w.cell? ⟨g3,0,none⟩=some (.pointer (some ⟨S.a,0,none⟩)):=hc.b3.1.cell 0;have q4:w.cell? ⟨g4,0,none⟩=some (.int .i64 (i:Int)):=hc.b4.1.cell 0;clear hT h hi hf hb hne hc hst
 go_enter Tryz.func122,Tryz.ntmps122
 go_wp2_with fail
 refine(vW w S.a S.p S.A S.ct S.l i HRD.out HIL.out).mono ?_;rintro e w1 ⟨rfl,hx1⟩;have HX1:=yG hx1;have HN1:=yG (HNB.out.ext hx1);have HC1:=yG (HCP.out.xE (xC.ext (M:=xL S R) hx1));have f4:=zFq S.l i w1;clear hx1 q3 q4
 go_upto_region 1 with fail
 clear f4;generalize vT S.l i=nC at *;generalize (xB (tN S.l) i).kids=kids at *;generalize (hdN S.l i).1=kA at *;generalize (hdN S.l i).2=kc at *;have HWH:Hid (vE (zAK (tN S.l) f false) kids s=vE (zAK (tN S.l) f false) (kids.drop 0) s):=yG rfl;generalize hwhole:vE (zAK (tN S.l) f false) kids s=whole at *;clear hwhole;have HMC:=yG (xC.ext (M:=xL S R) HX1.out)
 go_loopw [10] (fun i' wr=>∃(k:Nat) (sk:Nr) (Rk:DyN),k≤kids.length∧i'=.int .i64 k∧Hid (NB wr S sk Rk)∧Hid (xC w (xL S R) wr (xL S Rk))∧Hid (ZQ R Rk)∧Hid (sk.blocks.length+2*f+2≤100000∧sk.blocks≠[])∧Hid (zMj wr (xL S Rk) S.a i false g3 g4 g5)∧Hid (whole=vE (zAK (tN S.l) f false) (kids.drop k) sk)) (fun i' _=>kids.length-(intOf i').toNat)
 case atStart=>exact⟨0,s,R,zW _,rfl,HN1,HMC,yG (ZQ.refl R),HBL,HC1,HWH⟩
 case round=>
  obtain⟨k,sk,Rk,hk,rfl,HNK,HMK,HSK,HBK,HCK,HWK⟩:=hrel;obtain⟨wa,rfl⟩:∃wa:World,wa=wr:=⟨_,rfl⟩
  by_cases hlt:k<kids.length
  ·have d0:decide ((k:Int)<(kids.length:Int))=true:=yS (by omega)
   have q1:(k:Int)<(kids.length:Int):=by omega
   obtain⟨b,off,rfl,hb,hcc⟩:=(HKS.out wa sk Rk HNK.out).at_ (by rw[vR]; omega)
   have e0:wa.cell? ⟨b,off+k,none⟩=some (.int .i64 ((kids[k]:Nat):Int)):=by rw[hcc k (by rw[vR]; exact hlt)]; simp[ints,hlt]
   have HMEM:Hid (kids[k] ∈ kids):=yG (yO hlt);have HSN:Hid (vE (zAK (tN S.l) f false) (kids.drop k) sk=(zAK (tN S.l) f false kids[k] sk).bind (vE (zAK (tN S.l) f false) (kids.drop (k+1)))):=yG (by rw[List.drop_eq_getElem_cons hlt]; rfl);clear hcc;generalize kids[k]=c at *;have q3:wa.cell? ⟨g3,0,none⟩=some (.pointer (some ⟨S.a,0,none⟩)):=HCK.out.b3.1.cell 0;have l3:=HCK.out.b3.1.lt;have q5:wa.cell? ⟨g5,0,none⟩=some (.bool false):=HCK.out.b5.1.cell 0;have l5:=HCK.out.b5.1.lt
   go_upto_region 3 with fail
   clear e0
   by_cases hkd:(xB (tN S.l) c).kind=19
   ·have HONE:Hid (zAK (tN S.l) f false c sk=.err c 73):=yG (by unfold zAK; rw[hkd]; rfl)
    have hn:(((xB (tN S.l) c).kind:Int) != 19)=false:=by rw[hkd]; rfl
    clear hkd;have HCL:=yG (HUP.out c HMEM.out).2;apply xS 10 (by kernel_rfl) (by kernel_rfl) (by kernel_rfl);dsimp only[List.take_succ_cons,List.take_zero,List.drop_succ_cons,List.drop_zero];apply yZ (.pointer (some ⟨S.a,0,none⟩)) rfl rfl rfl
    ·intro w' hw' hH;have cc:=(hw'.cell (p:=⟨g3,0,none⟩) l3).trans q3;clear hH;simp[xA,go_sem,cc];exact Ext.refl _
    simp only[Act.put,yD,yE,yF];apply yZ (.bool false) rfl rfl rfl
    ·intro w' hw' hH;have cc:=(hw'.cell (p:=⟨g5,0,none⟩) l5).trans q5;clear hH;simp[xA,go_sem,cc];exact Ext.refl _
    simp only[Act.put,yD,yE,yF];apply yZ (.bool false) rfl rfl rfl
    ·intro w' hw' hH;clear hH;simp[xA,go_sem];exact Ext.refl _
    simp only[Act.put,yD,yE,yF];apply zBr (.pointer (some ⟨S.a,0,none⟩)) (by kernel_rfl) rfl rfl
    ·intro w' hw' hH;have cc:=(hw'.cell (p:=⟨g3,0,none⟩) l3).trans q3;clear hH;simp[xA,go_sem,cc];exact Ext.refl _
    simp only[Act.put,yD,yE,yF];apply zBr (.int .i64 (c:Int)) (by kernel_rfl) rfl rfl
    ·intro w' hw' hH;clear hH;simp[xA,go_sem];exact Ext.refl _
    simp only[Act.put,yD,yE,yF];apply zBr (.agg (vT S.l c)) (by kernel_rfl) rfl rfl
    ·intro w' hw' hH;clear hH;simp[xA,go_sem];refine(vW w' S.a S.p S.A S.ct S.l c (HNK.out.ext hw').rds HCL.out).mono ?_;rintro e w2 ⟨rfl,hx⟩;exact⟨_,rfl,rfl,hx⟩
    simp only[Act.put,yD,yE,yF];apply zBr (.int .u8 ((xB (tN S.l) c).kind:Int)) (by kernel_rfl) rfl rfl
    ·intro w' hw' hH;clear hH;simp[xA,go_sem,zDP];exact Ext.refl _
    simp only[Act.put,yD,yE,yF];apply zBr (.bool false) (by kernel_rfl) rfl rfl
    ·intro w' hw' hH;clear hH;simp[xA,go_sem,hn];exact Ext.refl _
    simp only[Act.put,yD,yE,yF];apply yZ (.bool false) rfl rfl rfl
    ·intro w' hw' hH;clear hH;simp[xA,go_sem];exact Ext.refl _
    simp only[Act.put,yD,yE,yF];apply yZ (.int .i64 (c:Int)) rfl rfl rfl
    ·intro w' hw' hH;clear hH;simp[xA,go_sem];exact Ext.refl _
    simp only[Act.put,yD,yE,yF];apply xX;clear hn;intro w2 hx2 hH;clear hH;simp only[Act.put,yD,yE,yF,List.drop_succ_cons,List.drop_zero];have HX2:=yG hx2;have HN2:=yG (HNK.out.ext hx2);have HC2:=yG (HCK.out.xE (xC.ext (M:=xL S Rk) hx2));have HM2:=yG (HMK.out.trans (xC.ext (M:=xL S Rk) hx2));clear hx2 q3 l3 q5 l5
    go_wp2_with fail
    refine(JS w2 S.a S.p S.A S.ct S.l c 73 HN2.out.rds (HUP.out c HMEM.out).2).mono ?_;rintro e w3 ⟨rfl,rfl⟩
    have HF:Hid (jS w S R whole vU (XJ (YQ S.l c) 73) w2):=yG (by
     rw[HWK.out,HSN.out,HONE.out]
     exact⟨rfl,(HUP.out c HMEM.out).2,_,HM2.out⟩)
    exact xJ (P:=Tryz.prog) (fn:=Tryz.f122) rfl HF.out
   ·have HONE:Hid (zAK (tN S.l) f false c sk=vF (tN S.l) f c sk):=yG (by unfold zAK; rw[if_pos]; rw[Bool.false_or,zE]; exact hkd)
    have hn:(((xB (tN S.l) c).kind:Int) != 19)=true:=by rw[zE]; omega
    clear hkd;have HCL:=yG (HUP.out c HMEM.out).2;apply xS 10 (by kernel_rfl) (by kernel_rfl) (by kernel_rfl);dsimp only[List.take_succ_cons,List.take_zero,List.drop_succ_cons,List.drop_zero];apply yZ (.pointer (some ⟨S.a,0,none⟩)) rfl rfl rfl
    ·intro w' hw' hH;have cc:=(hw'.cell (p:=⟨g3,0,none⟩) l3).trans q3;clear hH;simp[xA,go_sem,cc];exact Ext.refl _
    simp only[Act.put,yD,yE,yF];apply yZ (.bool false) rfl rfl rfl
    ·intro w' hw' hH;have cc:=(hw'.cell (p:=⟨g5,0,none⟩) l5).trans q5;clear hH;simp[xA,go_sem,cc];exact Ext.refl _
    simp only[Act.put,yD,yE,yF];apply yZ (.bool false) rfl rfl rfl
    ·intro w' hw' hH;clear hH;simp[xA,go_sem];exact Ext.refl _
    simp only[Act.put,yD,yE,yF];apply zBr (.pointer (some ⟨S.a,0,none⟩)) (by kernel_rfl) rfl rfl
    ·intro w' hw' hH;have cc:=(hw'.cell (p:=⟨g3,0,none⟩) l3).trans q3;clear hH;simp[xA,go_sem,cc];exact Ext.refl _
    simp only[Act.put,yD,yE,yF];apply zBr (.int .i64 (c:Int)) (by kernel_rfl) rfl rfl
    ·intro w' hw' hH;clear hH;simp[xA,go_sem];exact Ext.refl _
    simp only[Act.put,yD,yE,yF];apply zBr (.agg (vT S.l c)) (by kernel_rfl) rfl rfl
    ·intro w' hw' hH;clear hH;simp[xA,go_sem];refine(vW w' S.a S.p S.A S.ct S.l c (HNK.out.ext hw').rds HCL.out).mono ?_;rintro e w2 ⟨rfl,hx⟩;exact⟨_,rfl,rfl,hx⟩
    simp only[Act.put,yD,yE,yF];apply zBr (.int .u8 ((xB (tN S.l) c).kind:Int)) (by kernel_rfl) rfl rfl
    ·intro w' hw' hH;clear hH;simp[xA,go_sem,zDP];exact Ext.refl _
    simp only[Act.put,yD,yE,yF];apply zBr (.bool true) (by kernel_rfl) rfl rfl
    ·intro w' hw' hH;clear hH;simp[xA,go_sem,hn];exact Ext.refl _
    simp only[Act.put,yD,yE,yF];apply yZ (.bool true) rfl rfl rfl
    ·intro w' hw' hH;clear hH;simp[xA,go_sem];exact Ext.refl _
    simp only[Act.put,yD,yE,yF];apply yZ (.int .i64 (c:Int)) rfl rfl rfl
    ·intro w' hw' hH;clear hH;simp[xA,go_sem];exact Ext.refl _
    simp only[Act.put,yD,yE,yF];apply xX;clear hn;intro w2 hx2 hH;clear hH;simp only[Act.put,yD,yE,yF,List.drop_succ_cons,List.drop_zero];have HX2:=yG hx2;have HN2:=yG (HNK.out.ext hx2);have HC2:=yG (HCK.out.xE (xC.ext (M:=xL S Rk) hx2));have HM2:=yG (HMK.out.trans (xC.ext (M:=xL S Rk) hx2));clear hx2 q3 l3 q5 l5
    go_wp2_with fail
    refine(XG w2 (.pointer (some ⟨S.a,0,none⟩)) (c:Int) 73).mono ?_;rintro e w3 ⟨rfl,rfl⟩;have q3:w2.cell? ⟨g3,0,none⟩=some (.pointer (some ⟨S.a,0,none⟩)):=HC2.out.b3.1.cell 0
    go_wp2_with fail
    clear q3;refine(HSTM.out w2 sk Rk c HN2.out (HUP.out c HMEM.out).2 (by have:=(HUP.out c HMEM.out).1; have:=HFI.out; omega) HBK.out.1 HBK.out.2).mono ?_;intro e w5 hpost;rw[←HONE.out] at hpost
    cases hq:zAK (tN S.l) f false c sk with
    | err j er=>
     rw[hq] at hpost;obtain⟨rfl,hj,M',hm⟩:=hpost
     have HF:Hid (jS w S R whole vU (XJ (YQ S.l j) er) w5):=yG (by
      rw[HWK.out,HSN.out,hq]
      exact⟨rfl,hj,M',HM2.out.trans hm⟩)
     exact xJ (P:=Tryz.prog) (fn:=Tryz.f122) rfl HF.out
    | ok s5=>
     rw[hq] at hpost;obtain⟨rfl,R5,hst5,hn5,hm5⟩:=hpost;have HN5:=yG hn5;have HM5:=yG (HM2.out.trans hm5);have HS5:=yG (HSK.out.trans hst5);have HC5:=yG (HC2.out.xE hm5)
     have HB5:Hid (s5.blocks.length+2*f+2≤100000∧s5.blocks≠[]):=yG (by
      have hk:=XM (zGE HRT.out HBK.out.2 hq);rw[hk.1]
      exact⟨HBK.out.1,hk.2⟩)
     have HW5:Hid (whole=vE (zAK (tN S.l) f false) (kids.drop (k+1)) s5):=yG (by rw[HWK.out,HSN.out,hq]; rfl);clear hn5 hm5 hst5 hq;unfold vU
     go_wp2_with fail
     go_roundw
     case rel=>exact⟨k+1,s5,R5,by omega,by go_num,HN5,HM5,HS5,HB5,HC5,HW5⟩
     case measure=>simp[intOf]; omega
  ·obtain rfl:k=kids.length:=by omega
   have d0:decide ((kids.length:Int)<(kids.length:Int))=false:=by simp
   have d1:decide (kids.length<kids.length)=false:=by simp
   have HFE:Hid (whole=.ok sk):=yG (by rw[HWK.out,List.drop_length]; rfl)
   go_wp2_with fail
   go_end0;rw[HFE.out];exact⟨rfl,Rk,HSK.out,HNK.out,HMK.out⟩
theorem zMD (f:Nat)(S:StN)(hT:zD5 S)(hst:zD1 S f)(w:World)(s:Nr)(R:DyN)(i g3 g4 g5:Nat)(top:Bool)(h:NB w S s R)(hc:zMj w (xL S R) S.a i top g3 g4 g5)(hi:i<S.l.length)(hf:S.l.length≤f+i+1)(hb:s.blocks.length+2*f+2≤100000)(hne:s.blocks≠[]) :
  Calls Tryz.prog 122 #[.pointer (some ⟨g3,0,none⟩),.pointer (some ⟨g4,0,none⟩),.pointer (some ⟨g5,0,none⟩)] w (jS w S R (vE (zAK (tN S.l) f top) (xB (tN S.l) i).kids s) vU):=by
 cases top with
 | true=>exact zLE f S hT hst w s R i g3 g4 g5 h hc hi hf hb hne
 | false=>exact zJ0 f S hT hst w s R i g3 g4 g5 h hc hi hf hb hne
theorem zPj (R1 R2 R3 R4:DyN)(h1:R1.pc=R3.pc)(h2:R1.j=R3.j)(h3:R2.pc=R4.pc)(h4:R2.j=R4.j)(h:ZQ R1 R2):ZQ R3 R4:=⟨by rw[←h2,←h4]; exact h.j,by rw[←h1,←h3]; exact h.sz,fun i hi=>by rw[←h1,←h3]; exact h.pc i (by rw[h2]; exact hi)⟩
theorem zFl (f:Nat)(S:StN)(hT:zD5 S)(hst:zD1 S f)(w:World)(s:Nr)(R:DyN)(i:Nat)(top:Bool)(h:NB w S s R)(hi:i<S.l.length)(hf:S.l.length≤f+i+1)(hb:s.blocks.length+1+2*f+2≤100000) :
  Calls Tryz.prog 89 #[.pointer (some ⟨S.a,0,none⟩),.int .i64 (i:Int),.bool top] w (jS w S R (jN (tN S.l) (vF (tN S.l) f) i top s) vU):=by
 have HT:=yG hT;have HNB:=yG h;have HSTM:=yG hst;have HAR:Hid (i<S.l.length∧S.l.length≤f+i+1∧s.blocks.length+1+2*f+2≤100000):=yG ⟨hi,hf,hb⟩;obtain⟨W3,HW3⟩:∃W3,Hid (((w.alloc (.cells #[.pointer (some ⟨S.a,0,none⟩)] 107)).alloc (.cells #[.int .i64 (i:Int)] 3)).alloc (.cells #[.bool top] 4)=W3):=⟨_,yG rfl⟩;have HX3:Hid (Ext w W3):=yG (by rw[←HW3.out]; exact((Ext.alloc _ _).trans (Ext.alloc _ _)).trans (Ext.alloc _ _));have HML:Hid (∀b,xL S R b→b<w.heap.size):=yG fun b hm=>h.ZX hm
 have HC3:Hid (zMj W3 (xL S R) S.a i top w.heap.size (w.heap.size+1) (w.heap.size+1+1)):=yG (by
  rw[←HW3.out];refine⟨⟨((Blk.new _ _ _).alloc _).alloc _,fun hm=>by have:=HML.out _ hm; omega⟩,⟨?_,fun hm=>by have:=HML.out _ hm; omega⟩,⟨?_,fun hm=>by have:=HML.out _ hm; omega⟩⟩
  ·have:=(Blk.new (w.alloc (.cells #[.pointer (some ⟨S.a,0,none⟩)] 107)) 3 #[.int .i64 (i:Int)]).alloc (.cells #[.bool top] 4)
   rwa [yT] at this
  ·have:=Blk.new ((w.alloc (.cells #[.pointer (some ⟨S.a,0,none⟩)] 107)).alloc (.cells #[.int .i64 (i:Int)] 3)) 4 #[.bool top]
   rwa [yT,yT] at this)
 clear hT h hst hi hf hb
 go_enter Tryz.func89,Tryz.ntmps89
 have q3:(((w.alloc (.cells #[.pointer (some ⟨S.a,0,none⟩)] 107)).alloc (.cells #[.int .i64 (i:Int)] 3)).alloc (.cells #[.bool top] 4)).cell? ⟨w.heap.size,0,none⟩=some (.pointer (some ⟨S.a,0,none⟩)):=by rw[HW3.out]; exact HC3.out.b3.1.cell 0
 go_wp2_with fail
 rw[HW3.out];clear q3 HW3;have HWB:Hid (jN (tN S.l) (vF (tN S.l) f) i top s=jQ (vE (zAK (tN S.l) f top) (xB (tN S.l) i).kids) s):=yG rfl;refine(zEB ZQ zPj W3 S s R 122 #[] #[.pointer (some ⟨w.heap.size,0,none⟩),.pointer (some ⟨w.heap.size+1,0,none⟩),.pointer (some ⟨w.heap.size+1+1,0,none⟩)] (vE (zAK (tN S.l) f top) (xB (tN S.l) i).kids) (HNB.out.ext HX3.out) (by have:=HAR.out; omega) (enters_of Tryz.func122 (by kernel_rfl) rfl) (fun s' hq=>?_) (fun wr R' _ _ hm hn=>?_)).mono ?_
 ·have hk:=XM (zA7 _ _ _ (by simp) (fun k _ a b hne hq=>zGE HT.out.R hne hq) hq);refine⟨hk.2,?_⟩;rw[hk.1];simp only[zK]
  have:=HAR.out
  omega
 ·have:=zMD f S HT.out HSTM.out wr { s with blocks:=[]::s.blocks } R' i w.heap.size (w.heap.size+1) (w.heap.size+1+1) top hn (HC3.out.xE hm) HAR.out.1 HAR.out.2.1 (by simp only[zK]; have:=HAR.out; omega) (by simp)
  exact Calls.mono this fun e w' hp=>hp.toQ
 ·intro e w5 hpost;have hp:=jS.trans (ZQ.refl R) (xC.ext (M:=xL S R) HX3.out) hpost.toN;rw[←HWB.out] at hp;clear hpost
  cases hq:jN (tN S.l) (vF (tN S.l) f) i top s with
  | ok s'=>
   rw[hq] at hp;obtain⟨rfl,ho⟩:=hp;have HO:=yG ho;have HQ:=yG hq;clear ho hq;unfold vU
   go_wp2_with fail
   go_end0;rw[HQ.out];exact⟨rfl,HO.out⟩
  | err j er=>
   rw[hq] at hp;obtain⟨rfl,ho⟩:=hp;exact xJ (P:=Tryz.prog) (fn:=Tryz.f89) rfl ⟨rfl,ho⟩
end Go.Proofs.YtbadjmmjbpeocaaGreat
