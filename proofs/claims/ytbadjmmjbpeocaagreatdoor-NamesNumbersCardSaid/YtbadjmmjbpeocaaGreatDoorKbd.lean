/- The reader of names: expr. (and what follows of it). The conditions stand at each lemma. -/
import Derived.Test.YtbadjmmjbpeocaaGreatDoorKaa
import Derived.Test.YtbadjmmjbpeocaaGreatDoorKat
set_option linter.unusedVariables false
set_option linter.unusedSimpArgs false
set_option maxRecDepth 100000
set_option maxHeartbeats 16000000
namespace Go.Proofs.YtbadjmmjbpeocaaGreatDoor
open Go Go.RowKit
structure zDZ (S:StN):Prop where
 R:VA (tN S.l)
 kl:∀i,(xC (tN S.l) i).kids.length≤100000
 ll:S.l.length≤40000
theorem zDZ.up {S:StN}(h:zDZ S){i k:Nat}(hk:k ∈ (xC (tN S.l) i).kids):i<k∧k<S.l.length:=by
 have:=h.R.up i k hk
 rwa [zAk] at this
def zI3 (t:List Nd)(i:Nat)(s:Nr):YQ Nr:=if (xC t i).kind=22 then (match VJ s (xC t i).text with | none=>.err i 70 | some v=>.ok (s.set i v.n)) else if (xC t i).kind=20 then ofN t i s else .ok s
theorem zOz (t:List Nd)(f i:Nat)(s:Nr):xX t (f+1) i s=(zI3 t i s).bind (vD (xX t f) (xC t i).kids):=rfl
theorem NB.fresh {w:World}{S:StN}{s:Nr}{R:DyN}(h:NB w S s R)(t:TypeId)(cs:Array Value):Safe (w.alloc (.cells cs t)) (xM S R) w.heap.size t cs:=⟨Blk.new _ _ _,fun hm=>by have:=h.ZU hm; omega⟩
theorem zBh:∀(f:Nat) (w:World) (S:StN) (s:Nr) (R:DyN) (i:Nat),zDZ S→NB w S s R→i<S.l.length→S.l.length≤f+i→s.blocks.length≤100000→s.blocks≠[] →
  Calls Tryz.prog 131 #[.pointer (some ⟨S.a,0,none⟩),.int .i64 (i:Int)] w (jR w S R (xX (tN S.l) f i s) vU)
 | 0,w,S,s,R,i,hT,h,hi,hf,hb,hne=>absurd hf (by omega)
 | f+1,w,S,s,R,i,hT,h,hi,hf,hb,hne=>by
  have HIH:Hid (∀(w:World) (s:Nr) (R:DyN) (i:Nat),NB w S s R→i<S.l.length→S.l.length≤f+i→s.blocks.length≤100000→s.blocks≠[]→Calls Tryz.prog 131 #[.pointer (some ⟨S.a,0,none⟩),.int .i64 (i:Int)] w (jR w S R (xX (tN S.l) f i s) vU)):=yG fun w s R i=>zBh f w S s R i hT;have HT:=yG hT;have HNB:=yG h;have HRD:=yG h.rds;have HIL:=yG hi;have HFI:=yG hf;have HBF:=yG hb;have HBN:=yG hne;have HTX:Hid ((xC (tN S.l) i).text.length≤maxLen):=yG (h.st.tree.txt i);have HEX:Hid (xX (tN S.l) (f+1) i s=(zI3 (tN S.l) i s).bind (vD (xX (tN S.l) f) (xC (tN S.l) i).kids)):=yG rfl;have HKB:Hid ((xC (tN S.l) i).kids.length≤100000):=yG (hT.kl i);have HUP:Hid (∀k,k ∈ (xC (tN S.l) i).kids→i<k∧k<S.l.length):=yG fun k hk=>hT.up hk;have HKS:Hid (∀(wr:World) (sk:Nr) (Rk:DyN),NB wr S sk Rk→Cells wr (hdN S.l i).1 (ints (xC (tN S.l) i).kids)):=yG fun wr sk Rk hn=>(hn.st.tree.kid i hi).cells
  have HKEEP:Hid (∀c,c ∈ (xC (tN S.l) i).kids→∀sk s5:Nr,sk.blocks.length≤100000∧sk.blocks≠[]→xX (tN S.l) f c sk=.ok s5→s5.blocks.length≤100000∧s5.blocks≠[]):=yG fun c _ sk s5 hb hq=>by
   rw[(YE hT.R f c sk s5 hq).blocks];exact hb
  have HHD:Hid (zI3 (tN S.l) i s=zI3 (tN S.l) i s):=yG rfl;clear hT h hi hf hb hne
  go_enter Tryz.func131,Tryz.ntmps131
  go_wp2_with fail
  refine(vV w S.a S.p S.A S.ct S.l i HRD.out HIL.out).mono ?_;rintro e w1 ⟨rfl,hx1⟩;have HX1:=yG hx1;have HN1:=yG (HNB.out.ext hx1);have HFR:=yG (HN1.out.fresh 39 (vX S.l i));have HN2:=yG (HN1.out.ext (Ext.alloc w1 (.cells (vX S.l i) 39)));have HX2:=yG (hx1.trans (Ext.alloc w1 (.cells (vX S.l i) 39)));obtain⟨W2,HW2⟩:∃W2,Hid (w1.alloc (.cells (vX S.l i) 39)=W2):=⟨_,yG rfl⟩;rw[HW2.out] at HFR HN2 HX2;obtain⟨g,HG⟩:∃g,Hid (w1.heap.size=g):=⟨_,yG rfl⟩;rw[HG.out] at HFR;clear hx1;unfold vX at *;obtain⟨kids,HKD⟩:∃kids,Hid ((xC (tN S.l) i).kids=kids):=⟨_,yG rfl⟩;rw[HKD.out] at HKS HKEEP HKB HUP HEX HFR HW2 ⊢
  have HHC:Hid (∀x,(xC (tN S.l) i).kind=x→zI3 (tN S.l) i s=if x=22 then (match VJ s (xC (tN S.l) i).text with | none=>.err i 70 | some v=>.ok (s.set i v.n)) else if x=20 then ofN (tN S.l) i s else .ok s):=yG fun x hx=>by rw[←hx]; rfl
  obtain⟨nk,HNK0⟩:∃nk,Hid ((xC (tN S.l) i).kind=nk):=⟨_,yG rfl⟩;have HHE:=yG (HHC.out nk HNK0.out);rw[HNK0.out] at HFR HW2 ⊢;generalize (xC (tN S.l) i).num=nn at *;obtain⟨nt,HNT⟩:∃nt,Hid ((xC (tN S.l) i).text=nt):=⟨_,yG rfl⟩;rw[HNT.out] at HFR HW2 HHE HTX ⊢;generalize (hdN S.l i).1=kA at *;generalize (hdN S.l i).2=kc at *;generalize YY S.l i=np at *;have c0:W2.cell? ⟨g,0,none⟩=some (.int .u8 (nk:Int)):=HFR.out.1.cell 0;have c2:W2.cell? ⟨g,2,none⟩=some (.string (xI nt)):=HFR.out.1.cell 2;have c4:W2.cell? ⟨g,4,none⟩=some (.slice kA kids.length kc):=HFR.out.1.cell 4;clear HHC HHD
  go_upto_region 1 with fail
  rw[HW2.out,HG.out];have hkb:=HKB.out;clear HW2
  by_cases h22:nk=22
  ·subst h22;rw[if_pos rfl] at HHE
   go_wp2_with fail
   refine(HN2.out.zEv HBF.out nt HTX.out).mono ?_;rintro e w3 ⟨rfl,hx3⟩;have HX3:=yG (HX2.out.trans hx3);have HN3:=yG (HN2.out.ext hx3);have HF3:=yG (HFR.out.xG (xD.ext (M:=xM S R) hx3));clear hx3 c0 c2 c4
   cases hfd:VJ s nt with
   | none=>
    have HR:Hid (xX (tN S.l) (f+1) i s=.err i 70):=yG (by rw[HEX.out,HHE.out,hfd]; rfl);simp only[zFR,Option.isSome_none];clear hfd
    go_wp2_with fail
    refine(JP _ S.a S.p S.A S.ct S.l i 70 (HN3.out.ext (Ext.alloc _ _)).rds HIL.out).mono ?_;rintro e w4 ⟨rfl,rfl⟩;exact xK (P:=Tryz.prog) (fn:=Tryz.f131) rfl (jR.err HR.out HIL.out (HX3.out.trans (Ext.alloc _ _)))
   | some v=>
    have HR:Hid (zI3 (tN S.l) i s=.ok (s.set i v.n)):=yG (by rw[HHE.out,hfd]);simp only[zFR,Option.isSome_some];clear hfd
    go_wp2_with fail
    refine(XC _ (.pointer (some ⟨S.a,0,none⟩)) (i:Int) 70).mono ?_;rintro e w4 ⟨rfl,rfl⟩;obtain⟨W4,HW4⟩:∃W4,Hid (w3.alloc (.cells #[.int .i64 (v.n:Int),.bool v.loop] 130)=W4):=⟨_,yG rfl⟩;have HX4:Hid (Ext w3 W4):=yG (by rw[←HW4.out]; exact Ext.alloc _ _);have HB4:Hid (Blk W4 w3.heap.size 130 #[.int .i64 (v.n:Int),.bool v.loop]):=yG (by rw[←HW4.out]; exact Blk.new _ _ _);have HN4:=yG (HN3.out.ext HX4.out);have HF4:=yG (HF3.out.xG (xD.ext (M:=xM S R) HX4.out));rw[HW4.out];have r0:=HN4.out.rds.r0;have al:=HN4.out.rds.al;have pl:=HN4.out.rds.pl;have p3:=HN4.out.p3;have v0:W4.cell? ⟨w3.heap.size,0,none⟩=some (.int .i64 (v.n:Int)):=HB4.out.cell 0;have gl:=HB4.out.lt
    have q0:(i:Int)<(S.l.length:Int):=by have:=HIL.out; omega
    clear HW4
    go_upto_region 5 with fail
    apply xU 11 (by kernel_rfl) (by kernel_rfl) (by kernel_rfl);dsimp only[List.take_succ_cons,List.take_zero,List.drop_succ_cons,List.drop_zero];apply yZ (.pointer (some ⟨S.a,0,none⟩)) rfl rfl rfl
    ·intro w' hw' hH;clear hH;simp[xB,go_sem];exact Ext.refl _
    simp only[Act.put,yD,yE,yF];apply yZ (.pointer (some ⟨S.a,0,none⟩)) rfl rfl rfl
    ·intro w' hw' hH;clear hH;simp[xB,go_sem];exact Ext.refl _
    simp only[Act.put,yD,yE,yF];apply yZ (.pointer (some ⟨S.a,0,none⟩)) rfl rfl rfl
    ·intro w' hw' hH;clear hH;simp[xB,go_sem];exact Ext.refl _
    simp only[Act.put,yD,yE,yF];apply yZ (.pointer (some ⟨S.p,0,none⟩)) rfl rfl rfl
    ·intro w' hw' hH;have cc:=(hw'.cell (p:=⟨S.a,0,none⟩) al).trans r0;clear hH;simp[xB,go_sem,cc];exact Ext.refl _
    simp only[Act.put,yD,yE,yF];apply yZ (.pointer (some ⟨S.p,0,none⟩)) rfl rfl rfl
    ·intro w' hw' hH;clear hH;simp[xB,go_sem];exact Ext.refl _
    simp only[Act.put,yD,yE,yF];apply yZ (.pointer (some ⟨S.p,3,none⟩)) rfl rfl rfl
    ·intro w' hw' hH;clear hH;simp[xB,go_sem];exact Ext.refl _
    simp only[Act.put,yD,yE,yF];apply yZ (.slice (some ⟨S.bo,0,none⟩) S.l.length S.co) rfl rfl rfl
    ·intro w' hw' hH;have cc:=(hw'.cell (p:=⟨S.p,3,none⟩) pl).trans p3;clear hH;simp[xB,go_sem,cc];exact Ext.refl _
    simp only[Act.put,yD,yE,yF];apply yZ (.int .i64 (i:Int)) rfl rfl rfl
    ·intro w' hw' hH;clear hH;simp[xB,go_sem];exact Ext.refl _
    simp only[Act.put,yD,yE,yF];apply yZ (.pointer (some ⟨w3.heap.size,0,none⟩)) rfl rfl rfl
    ·intro w' hw' hH;clear hH;simp[xB,go_sem];exact Ext.refl _
    simp only[Act.put,yD,yE,yF];apply yZ (.int .i64 (v.n:Int)) rfl rfl rfl
    ·intro w' hw' hH;have cc:=(hw'.cell (p:=⟨w3.heap.size,0,none⟩) gl).trans v0;clear hH;simp[xB,go_sem,cc];exact Ext.refl _
    simp only[Act.put,yD,yE,yF];apply yZ (.pointer (some ⟨S.bo,i,none⟩)) rfl rfl rfl
    ·intro w' hw' hH;clear hH;simp[xB,go_sem,q0];exact Ext.refl _
    simp only[Act.put,yD,yE,yF];apply vC;intro w5 hx5 hH;clear hH;simp only[Act.put,yD,yE,yF,List.drop_succ_cons,List.drop_zero];have HN5:=yG (HN4.out.ext hx5);have HF5:=yG (HF4.out.xG (xD.ext (M:=xM S R) hx5));have HX5:=yG ((HX3.out.trans HX4.out).trans hx5);have co:=HN5.out.zBZ i HIL.out;have cz:=HN5.out.ofz i;have r0:=HN5.out.rds.r0;have p3:=HN5.out.p3;clear hx5 r0 al pl p3 v0 gl q0
    go_upto_region 8 with fail
    have HSET:=yG (HN5.out.setOf i (v.n:Int));generalize w5.setCell ⟨S.bo,i,none⟩ (.int .i64 (v.n:Int))=W6 at *;have HNC:=yG HSET.out.1;have HMC:=yG ((xD.ext (M:=xM S R) HX5.out).trans HSET.out.2);have HST:=yG (ZO.refl R);have HBC:Hid ((s.set i (v.n:Int)).blocks.length≤100000∧(s.set i (v.n:Int)).blocks≠[]):=yG ⟨HBF.out,HBN.out⟩;have HWH:Hid (xX (tN S.l) (f+1) i s=vD (xX (tN S.l) f) (kids.drop 0) (s.set i (v.n:Int))):=yG (by rw[HEX.out,HR.out]; rfl);have c4:W6.cell? ⟨g,4,none⟩=some (.slice kA kids.length kc):=(HF5.out.xG HSET.out.2).1.cell 4;clear co cz
    go_upto_region 9 with fail
    clear c4
    go_loopw [46] (fun i' wr=>∃(k:Nat) (sk:Nr) (Rk:DyN),k≤kids.length∧i'=.int .i64 k∧Hid (NB wr S sk Rk)∧Hid (xD w (xM S R) wr (xM S Rk))∧Hid (ZO R Rk)∧Hid (sk.blocks.length≤100000∧sk.blocks≠[])∧Hid (xX (tN S.l) (f+1) i s=vD (xX (tN S.l) f) (kids.drop k) sk)) (fun i' _=>kids.length-(intOf i').toNat)
    case atStart=>exact⟨0,(s.set i (v.n:Int)),R,zW _,rfl,HNC,HMC,HST,HBC,HWH⟩
    case round=>
     obtain⟨k,sk,Rk,hk,rfl,HNK,HMK,HSK,HBK,HWK⟩:=hrel;obtain⟨wa,rfl⟩:∃wa:World,wa=wr:=⟨_,rfl⟩
     by_cases hlt:k<kids.length
     ·have d0:decide ((k:Int)<(kids.length:Int))=true:=yS (by omega)
      have q1:(k:Int)<(kids.length:Int):=by omega
      obtain⟨b,off,rfl,hb,hcc⟩:=(HKS.out wa sk Rk HNK.out).at_ (by rw[vY]; omega)
      have e0:wa.cell? ⟨b,off+k,none⟩=some (.int .i64 ((kids[k]:Nat):Int)):=by rw[hcc k (by rw[vY]; exact hlt)]; simp[ints,hlt]
      have HMEM:Hid (kids[k] ∈ kids):=yG (yO hlt);have HSN:Hid (vD (xX (tN S.l) f) (kids.drop k) sk=((xX (tN S.l) f) kids[k] sk).bind (vD (xX (tN S.l) f) (kids.drop (k+1)))):=yG (by rw[List.drop_eq_getElem_cons hlt]; rfl);clear hcc;generalize kids[k]=c at *
      go_wp2_with fail
      refine(HIH.out wa sk Rk c HNK.out (HUP.out c HMEM.out).2 (by have:=(HUP.out c HMEM.out).1; have:=HFI.out; omega) HBK.out.1 HBK.out.2).mono ?_;intro e w5 hpost
      cases hq:(xX (tN S.l) f) c sk with
      | err j er=>
       rw[hq] at hpost;obtain⟨rfl,hj,M',hm⟩:=hpost
       have HF:Hid (jR w S R (xX (tN S.l) (f+1) i s) vU (XG (YY S.l j) er) w5):=yG (by
        rw[HWK.out,HSN.out,hq]
        exact⟨rfl,hj,M',HMK.out.trans hm⟩)
       exact xK (P:=Tryz.prog) (fn:=Tryz.f131) rfl HF.out
      | ok s5=>
       rw[hq] at hpost;obtain⟨rfl,R5,hst5,hn5,hm5⟩:=hpost;have HN5:=yG hn5;have HM5:=yG (HMK.out.trans hm5);have HS5:=yG (HSK.out.trans hst5);have HB5:Hid (s5.blocks.length≤100000∧s5.blocks≠[]):=yG (HKEEP.out c HMEM.out sk s5 HBK.out hq);have HW5:Hid (xX (tN S.l) (f+1) i s=vD (xX (tN S.l) f) (kids.drop (k+1)) s5):=yG (by rw[HWK.out,HSN.out,hq]; rfl);clear hn5 hm5 hst5 hq e0;unfold vU
       go_wp2_with fail
       go_roundw
       case rel=>exact⟨k+1,s5,R5,by omega,by go_num,HN5,HM5,HS5,HB5,HW5⟩
       case measure=>simp[intOf]; omega
     ·obtain rfl:k=kids.length:=by omega
      have d0:decide ((kids.length:Int)<(kids.length:Int))=false:=by simp
      have d1:decide (kids.length<kids.length)=false:=by simp
      have HFE:Hid (xX (tN S.l) (f+1) i s=.ok sk):=yG (by rw[HWK.out,List.drop_length]; rfl)
      go_wp2_with fail
      go_end0;rw[HFE.out];exact⟨rfl,Rk,HSK.out,HNK.out,HMK.out⟩
  ·by_cases h20:nk=20
   ·subst h20;rw[if_neg (by decide),if_pos rfl] at HHE
    go_wp2_with fail
    refine(zFI W2 S s R i HN2.out HIL.out).mono ?_;intro e w3 hpost
    cases hq:ofN (tN S.l) i s with
    | err j er=>
     rw[hq] at hpost;obtain⟨rfl,hj,M',hm⟩:=hpost
     have HF:Hid (jR w S R (xX (tN S.l) (f+1) i s) vU (XG (YY S.l j) er) w3):=yG (by
      rw[HEX.out,HHE.out,hq]
      exact⟨rfl,hj,M',(xD.ext HX2.out).trans hm⟩)
     exact xK (P:=Tryz.prog) (fn:=Tryz.f131) rfl HF.out
    | ok s3=>
     rw[hq] at hpost;obtain⟨rfl,R3,hst3,hn3,hm3⟩:=hpost;have HNC:=yG hn3;have HMC:=yG ((xD.ext (M:=xM S R) HX2.out).trans hm3);have HST:=yG hst3
     have HBC:Hid (s3.blocks.length≤100000∧s3.blocks≠[]):=yG (by
      unfold ofN at hq
      split at hq
      ·cases hq
      ·injection hq with hq;rw[←hq]
       exact⟨HBF.out,HBN.out⟩)
     have HWH:Hid (xX (tN S.l) (f+1) i s=vD (xX (tN S.l) f) (kids.drop 0) s3):=yG (by rw[HEX.out,HHE.out,hq]; rfl);have c4':w3.cell? ⟨g,4,none⟩=some (.slice kA kids.length kc):=(HFR.out.xG hm3).1.cell 4;clear hn3 hm3 hst3 hq c0 c2 c4
     go_upto_region 9 with fail
     clear c4'
     go_loopw [46] (fun i' wr=>∃(k:Nat) (sk:Nr) (Rk:DyN),k≤kids.length∧i'=.int .i64 k∧Hid (NB wr S sk Rk)∧Hid (xD w (xM S R) wr (xM S Rk))∧Hid (ZO R Rk)∧Hid (sk.blocks.length≤100000∧sk.blocks≠[])∧Hid (xX (tN S.l) (f+1) i s=vD (xX (tN S.l) f) (kids.drop k) sk)) (fun i' _=>kids.length-(intOf i').toNat)
     case atStart=>exact⟨0,s3,R3,zW _,rfl,HNC,HMC,HST,HBC,HWH⟩
     case round=>
      obtain⟨k,sk,Rk,hk,rfl,HNK,HMK,HSK,HBK,HWK⟩:=hrel;obtain⟨wa,rfl⟩:∃wa:World,wa=wr:=⟨_,rfl⟩
      by_cases hlt:k<kids.length
      ·have d0:decide ((k:Int)<(kids.length:Int))=true:=yS (by omega)
       have q1:(k:Int)<(kids.length:Int):=by omega
       obtain⟨b,off,rfl,hb,hcc⟩:=(HKS.out wa sk Rk HNK.out).at_ (by rw[vY]; omega)
       have e0:wa.cell? ⟨b,off+k,none⟩=some (.int .i64 ((kids[k]:Nat):Int)):=by rw[hcc k (by rw[vY]; exact hlt)]; simp[ints,hlt]
       have HMEM:Hid (kids[k] ∈ kids):=yG (yO hlt);have HSN:Hid (vD (xX (tN S.l) f) (kids.drop k) sk=((xX (tN S.l) f) kids[k] sk).bind (vD (xX (tN S.l) f) (kids.drop (k+1)))):=yG (by rw[List.drop_eq_getElem_cons hlt]; rfl);clear hcc;generalize kids[k]=c at *
       go_wp2_with fail
       refine(HIH.out wa sk Rk c HNK.out (HUP.out c HMEM.out).2 (by have:=(HUP.out c HMEM.out).1; have:=HFI.out; omega) HBK.out.1 HBK.out.2).mono ?_;intro e w5 hpost
       cases hq:(xX (tN S.l) f) c sk with
       | err j er=>
        rw[hq] at hpost;obtain⟨rfl,hj,M',hm⟩:=hpost
        have HF:Hid (jR w S R (xX (tN S.l) (f+1) i s) vU (XG (YY S.l j) er) w5):=yG (by
         rw[HWK.out,HSN.out,hq]
         exact⟨rfl,hj,M',HMK.out.trans hm⟩)
        exact xK (P:=Tryz.prog) (fn:=Tryz.f131) rfl HF.out
       | ok s5=>
        rw[hq] at hpost;obtain⟨rfl,R5,hst5,hn5,hm5⟩:=hpost;have HN5:=yG hn5;have HM5:=yG (HMK.out.trans hm5);have HS5:=yG (HSK.out.trans hst5);have HB5:Hid (s5.blocks.length≤100000∧s5.blocks≠[]):=yG (HKEEP.out c HMEM.out sk s5 HBK.out hq);have HW5:Hid (xX (tN S.l) (f+1) i s=vD (xX (tN S.l) f) (kids.drop (k+1)) s5):=yG (by rw[HWK.out,HSN.out,hq]; rfl);clear hn5 hm5 hst5 hq e0;unfold vU
        go_wp2_with fail
        go_roundw
        case rel=>exact⟨k+1,s5,R5,by omega,by go_num,HN5,HM5,HS5,HB5,HW5⟩
        case measure=>simp[intOf]; omega
      ·obtain rfl:k=kids.length:=by omega
       have d0:decide ((kids.length:Int)<(kids.length:Int))=false:=by simp
       have d1:decide (kids.length<kids.length)=false:=by simp
       have HFE:Hid (xX (tN S.l) (f+1) i s=.ok sk):=yG (by rw[HWK.out,List.drop_length]; rfl)
       go_wp2_with fail
       go_end0;rw[HFE.out];exact⟨rfl,Rk,HSK.out,HNK.out,HMK.out⟩
   ·have n22:((nk:Int)==22)=false:=by rw[yI]; omega
    have n20:((nk:Int)==20)=false:=by rw[yI]; omega
    rw[if_neg h22,if_neg h20] at HHE;have HNC:=HN2;have HMC:=yG (xD.ext (M:=xM S R) HX2.out);have HST:=yG (ZO.refl R);have HBC:Hid (s.blocks.length≤100000∧s.blocks≠[]):=yG ⟨HBF.out,HBN.out⟩;have HWH:Hid (xX (tN S.l) (f+1) i s=vD (xX (tN S.l) f) (kids.drop 0) s):=yG (by rw[HEX.out,HHE.out]; rfl);clear h22 h20
    go_upto_region 9 with fail
    clear c0 c2 c4 n22 n20
    go_loopw [46] (fun i' wr=>∃(k:Nat) (sk:Nr) (Rk:DyN),k≤kids.length∧i'=.int .i64 k∧Hid (NB wr S sk Rk)∧Hid (xD w (xM S R) wr (xM S Rk))∧Hid (ZO R Rk)∧Hid (sk.blocks.length≤100000∧sk.blocks≠[])∧Hid (xX (tN S.l) (f+1) i s=vD (xX (tN S.l) f) (kids.drop k) sk)) (fun i' _=>kids.length-(intOf i').toNat)
    case atStart=>exact⟨0,s,R,zW _,rfl,HNC,HMC,HST,HBC,HWH⟩
    case round=>
     obtain⟨k,sk,Rk,hk,rfl,HNK,HMK,HSK,HBK,HWK⟩:=hrel;obtain⟨wa,rfl⟩:∃wa:World,wa=wr:=⟨_,rfl⟩
     by_cases hlt:k<kids.length
     ·have d0:decide ((k:Int)<(kids.length:Int))=true:=yS (by omega)
      have q1:(k:Int)<(kids.length:Int):=by omega
      obtain⟨b,off,rfl,hb,hcc⟩:=(HKS.out wa sk Rk HNK.out).at_ (by rw[vY]; omega)
      have e0:wa.cell? ⟨b,off+k,none⟩=some (.int .i64 ((kids[k]:Nat):Int)):=by rw[hcc k (by rw[vY]; exact hlt)]; simp[ints,hlt]
      have HMEM:Hid (kids[k] ∈ kids):=yG (yO hlt);have HSN:Hid (vD (xX (tN S.l) f) (kids.drop k) sk=((xX (tN S.l) f) kids[k] sk).bind (vD (xX (tN S.l) f) (kids.drop (k+1)))):=yG (by rw[List.drop_eq_getElem_cons hlt]; rfl);clear hcc;generalize kids[k]=c at *
      go_wp2_with fail
      refine(HIH.out wa sk Rk c HNK.out (HUP.out c HMEM.out).2 (by have:=(HUP.out c HMEM.out).1; have:=HFI.out; omega) HBK.out.1 HBK.out.2).mono ?_;intro e w5 hpost
      cases hq:(xX (tN S.l) f) c sk with
      | err j er=>
       rw[hq] at hpost;obtain⟨rfl,hj,M',hm⟩:=hpost
       have HF:Hid (jR w S R (xX (tN S.l) (f+1) i s) vU (XG (YY S.l j) er) w5):=yG (by
        rw[HWK.out,HSN.out,hq]
        exact⟨rfl,hj,M',HMK.out.trans hm⟩)
       exact xK (P:=Tryz.prog) (fn:=Tryz.f131) rfl HF.out
      | ok s5=>
       rw[hq] at hpost;obtain⟨rfl,R5,hst5,hn5,hm5⟩:=hpost;have HN5:=yG hn5;have HM5:=yG (HMK.out.trans hm5);have HS5:=yG (HSK.out.trans hst5);have HB5:Hid (s5.blocks.length≤100000∧s5.blocks≠[]):=yG (HKEEP.out c HMEM.out sk s5 HBK.out hq);have HW5:Hid (xX (tN S.l) (f+1) i s=vD (xX (tN S.l) f) (kids.drop (k+1)) s5):=yG (by rw[HWK.out,HSN.out,hq]; rfl);clear hn5 hm5 hst5 hq e0;unfold vU
       go_wp2_with fail
       go_roundw
       case rel=>exact⟨k+1,s5,R5,by omega,by go_num,HN5,HM5,HS5,HB5,HW5⟩
       case measure=>simp[intOf]; omega
     ·obtain rfl:k=kids.length:=by omega
      have d0:decide ((kids.length:Int)<(kids.length:Int))=false:=by simp
      have d1:decide (kids.length<kids.length)=false:=by simp
      have HFE:Hid (xX (tN S.l) (f+1) i s=.ok sk):=yG (by rw[HWK.out,List.drop_length]; rfl)
      go_wp2_with fail
      go_end0;rw[HFE.out];exact⟨rfl,Rk,HSK.out,HNK.out,HMK.out⟩
def zDW (S:StN)(f:Nat):Prop:=∀(w:World) (s:Nr) (R:DyN) (i:Nat),NB w S s R→i<S.l.length→S.l.length≤f+i→s.blocks.length+2*f+2≤100000→s.blocks≠[]→Calls Tryz.prog 105 #[.pointer (some ⟨S.a,0,none⟩),.int .i64 (i:Int)] w (jR w S R (vF (tN S.l) f i s) vU)
def zAN (t:List Nd)(f:Nat)(top:Bool)(k:Nat):Nn:=fun s=>if (top||(xC t k).kind != 19)=true then vF t f k s else .err k 73
theorem XI {s s':Nr}(h:YP s s'):s'.blocks.length=s.blocks.length∧s'.blocks≠[]:=by
 obtain⟨n,b,rest,h1,h2⟩:=h.blocks;rw[h1,h2];exact⟨rfl,by simp⟩
theorem zGB {t:List Nd}(R:VA t){f:Nat}{top:Bool}{k:Nat}{s s':Nr}(hb:s.blocks≠[])(h:zAN t f top k s=.ok s'):YP s s':=by
 unfold zAN at h
 split at h
 ·exact zBe R f k s s' hb h
 ·cases h
structure zLX (w:World)(M:Nat→Prop)(a i:Nat)(top:Bool)(g3 g4 g5:Nat):Prop where
 b3:Safe w M g3 78 #[.pointer (some ⟨a,0,none⟩)]
 b4:Safe w M g4 3 #[.int .i64 (i:Int)]
 b5:Safe w M g5 4 #[.bool top]
theorem zLX.xG {w w':World}{M M':Nat→Prop}{a i:Nat}{top:Bool}{g3 g4 g5:Nat}(h:zLX w M a i top g3 g4 g5)(k:xD w M w' M'):zLX w' M' a i top g3 g4 g5:=⟨h.b3.xG k,h.b4.xG k,h.b5.xG k⟩
theorem zLf (f:Nat)(S:StN)(hT:zDZ S)(hst:zDW S f)(w:World)(s:Nr)(R:DyN)(i g3 g4 g5:Nat)(h:NB w S s R)(hc:zLX w (xM S R) S.a i true g3 g4 g5)(hi:i<S.l.length)(hf:S.l.length≤f+i+1)(hb:s.blocks.length+2*f+2≤100000)(hne:s.blocks≠[]) :
  Calls Tryz.prog 104 #[.pointer (some ⟨g3,0,none⟩),.pointer (some ⟨g4,0,none⟩),.pointer (some ⟨g5,0,none⟩)] w (jR w S R (vD (zAN (tN S.l) f true) (xC (tN S.l) i).kids s) vU):=by
 have HT:=yG hT;have HNB:=yG h;have HRD:=yG h.rds;have HIL:=yG hi;have HCP:=yG hc;have HSTM:=yG hst;have HKS:Hid (∀(wr:World) (sk:Nr) (Rk:DyN),NB wr S sk Rk→Cells wr (hdN S.l i).1 (ints (xC (tN S.l) i).kids)):=yG fun wr sk Rk hn=>(hn.st.tree.kid i hi).cells;have HUP:Hid (∀k,k ∈ (xC (tN S.l) i).kids→i<k∧k<S.l.length):=yG fun k hk=>hT.up hk;have HFI:=yG hf;have HBL:Hid (s.blocks.length+2*f+2≤100000∧s.blocks≠[]):=yG ⟨hb,hne⟩;have hkb:=hT.kl i;have HKB:=yG hkb;have HRT:=yG hT.R;have q3:w.cell? ⟨g3,0,none⟩=some (.pointer (some ⟨S.a,0,none⟩)):=hc.b3.1.cell 0;have q4:w.cell? ⟨g4,0,none⟩=some (.int .i64 (i:Int)):=hc.b4.1.cell 0;clear hT h hi hf hb hne hc hst
 go_enter Tryz.func104,Tryz.ntmps104
 go_wp2_with fail
 refine(vV w S.a S.p S.A S.ct S.l i HRD.out HIL.out).mono ?_;rintro e w1 ⟨rfl,hx1⟩;have HX1:=yG hx1;have HN1:=yG (HNB.out.ext hx1);have HC1:=yG (HCP.out.xG (xD.ext (M:=xM S R) hx1));have f4:=zFj S.l i w1;clear hx1 q3 q4
 go_upto_region 1 with fail
 clear f4;generalize vX S.l i=nC at *;generalize (xC (tN S.l) i).kids=kids at *;generalize (hdN S.l i).1=kA at *;generalize (hdN S.l i).2=kc at *;have HWH:Hid (vD (zAN (tN S.l) f true) kids s=vD (zAN (tN S.l) f true) (kids.drop 0) s):=yG rfl;generalize hwhole:vD (zAN (tN S.l) f true) kids s=whole at *;clear hwhole;have HMC:=yG (xD.ext (M:=xM S R) HX1.out)
 go_loopw [10] (fun i' wr=>∃(k:Nat) (sk:Nr) (Rk:DyN),k≤kids.length∧i'=.int .i64 k∧Hid (NB wr S sk Rk)∧Hid (xD w (xM S R) wr (xM S Rk))∧Hid (ZO R Rk)∧Hid (sk.blocks.length+2*f+2≤100000∧sk.blocks≠[])∧Hid (zLX wr (xM S Rk) S.a i true g3 g4 g5)∧Hid (whole=vD (zAN (tN S.l) f true) (kids.drop k) sk)) (fun i' _=>kids.length-(intOf i').toNat)
 case atStart=>exact⟨0,s,R,zW _,rfl,HN1,HMC,yG (ZO.refl R),HBL,HC1,HWH⟩
 case round=>
  obtain⟨k,sk,Rk,hk,rfl,HNK,HMK,HSK,HBK,HCK,HWK⟩:=hrel;obtain⟨wa,rfl⟩:∃wa:World,wa=wr:=⟨_,rfl⟩
  by_cases hlt:k<kids.length
  ·have d0:decide ((k:Int)<(kids.length:Int))=true:=yS (by omega)
   have q1:(k:Int)<(kids.length:Int):=by omega
   obtain⟨b,off,rfl,hb,hcc⟩:=(HKS.out wa sk Rk HNK.out).at_ (by rw[vY]; omega)
   have e0:wa.cell? ⟨b,off+k,none⟩=some (.int .i64 ((kids[k]:Nat):Int)):=by rw[hcc k (by rw[vY]; exact hlt)]; simp[ints,hlt]
   have HMEM:Hid (kids[k] ∈ kids):=yG (yO hlt);have HSN:Hid (vD (zAN (tN S.l) f true) (kids.drop k) sk=(zAN (tN S.l) f true kids[k] sk).bind (vD (zAN (tN S.l) f true) (kids.drop (k+1)))):=yG (by rw[List.drop_eq_getElem_cons hlt]; rfl);clear hcc;generalize kids[k]=c at *;have q3:wa.cell? ⟨g3,0,none⟩=some (.pointer (some ⟨S.a,0,none⟩)):=HCK.out.b3.1.cell 0;have l3:=HCK.out.b3.1.lt;have q5:wa.cell? ⟨g5,0,none⟩=some (.bool true):=HCK.out.b5.1.cell 0;have l5:=HCK.out.b5.1.lt
   go_upto_region 3 with fail
   clear e0;have HONE:Hid (zAN (tN S.l) f true c sk=vF (tN S.l) f c sk):=yG rfl;apply xU 10 (by kernel_rfl) (by kernel_rfl) (by kernel_rfl);dsimp only[List.take_succ_cons,List.take_zero,List.drop_succ_cons,List.drop_zero];apply yZ (.pointer (some ⟨S.a,0,none⟩)) rfl rfl rfl
   ·intro w' hw' hH;have cc:=(hw'.cell (p:=⟨g3,0,none⟩) l3).trans q3;clear hH;simp[xB,go_sem,cc];exact Ext.refl _
   simp only[Act.put,yD,yE,yF];apply yZ (.bool true) rfl rfl rfl
   ·intro w' hw' hH;have cc:=(hw'.cell (p:=⟨g5,0,none⟩) l5).trans q5;clear hH;simp[xB,go_sem,cc];exact Ext.refl _
   simp only[Act.put,yD,yE,yF];apply yZ (.bool true) rfl rfl rfl
   ·intro w' hw' hH;clear hH;simp[xB,go_sem];exact Ext.refl _
   simp only[Act.put,yD,yE,yF];apply zEf (by kernel_rfl) rfl;simp only[Act.put,yD,yE,yF];apply zEf (by kernel_rfl) rfl;simp only[Act.put,yD,yE,yF];apply zEf (by kernel_rfl) rfl;simp only[Act.put,yD,yE,yF];apply zEf (by kernel_rfl) rfl;simp only[Act.put,yD,yE,yF];apply zEf (by kernel_rfl) rfl;simp only[Act.put,yD,yE,yF];apply yZ (.bool true) rfl rfl rfl
   ·intro w' hw' hH;clear hH;simp[xB,go_sem];exact Ext.refl _
   simp only[Act.put,yD,yE,yF];apply yZ (.int .i64 (c:Int)) rfl rfl rfl
   ·intro w' hw' hH;clear hH;simp[xB,go_sem];exact Ext.refl _
   simp only[Act.put,yD,yE,yF];apply vC;intro w2 hx2 hH;clear hH;simp only[Act.put,yD,yE,yF,List.drop_succ_cons,List.drop_zero];have HX2:=yG hx2;have HN2:=yG (HNK.out.ext hx2);have HC2:=yG (HCK.out.xG (xD.ext (M:=xM S Rk) hx2));have HM2:=yG (HMK.out.trans (xD.ext (M:=xM S Rk) hx2));clear hx2 q3 l3 q5 l5
   go_wp2_with fail
   refine(XC w2 (.pointer (some ⟨S.a,0,none⟩)) (c:Int) 73).mono ?_;rintro e w3 ⟨rfl,rfl⟩;have q3:w2.cell? ⟨g3,0,none⟩=some (.pointer (some ⟨S.a,0,none⟩)):=HC2.out.b3.1.cell 0
   go_wp2_with fail
   clear q3;refine(HSTM.out w2 sk Rk c HN2.out (HUP.out c HMEM.out).2 (by have:=(HUP.out c HMEM.out).1; have:=HFI.out; omega) HBK.out.1 HBK.out.2).mono ?_;intro e w5 hpost;rw[←HONE.out] at hpost
   cases hq:zAN (tN S.l) f true c sk with
   | err j er=>
    rw[hq] at hpost;obtain⟨rfl,hj,M',hm⟩:=hpost
    have HF:Hid (jR w S R whole vU (XG (YY S.l j) er) w5):=yG (by
     rw[HWK.out,HSN.out,hq]
     exact⟨rfl,hj,M',HM2.out.trans hm⟩)
    exact xK (P:=Tryz.prog) (fn:=Tryz.f104) rfl HF.out
   | ok s5=>
    rw[hq] at hpost;obtain⟨rfl,R5,hst5,hn5,hm5⟩:=hpost;have HN5:=yG hn5;have HM5:=yG (HM2.out.trans hm5);have HS5:=yG (HSK.out.trans hst5);have HC5:=yG (HC2.out.xG hm5)
    have HB5:Hid (s5.blocks.length+2*f+2≤100000∧s5.blocks≠[]):=yG (by
     have hk:=XI (zGB HRT.out HBK.out.2 hq);rw[hk.1]
     exact⟨HBK.out.1,hk.2⟩)
    have HW5:Hid (whole=vD (zAN (tN S.l) f true) (kids.drop (k+1)) s5):=yG (by rw[HWK.out,HSN.out,hq]; rfl);clear hn5 hm5 hst5 hq;unfold vU
    go_wp2_with fail
    go_roundw
    case rel=>exact⟨k+1,s5,R5,by omega,by go_num,HN5,HM5,HS5,HB5,HC5,HW5⟩
    case measure=>simp[intOf]; omega
  ·obtain rfl:k=kids.length:=by omega
   have d0:decide ((kids.length:Int)<(kids.length:Int))=false:=by simp
   have d1:decide (kids.length<kids.length)=false:=by simp
   have HFE:Hid (whole=.ok sk):=yG (by rw[HWK.out,List.drop_length]; rfl)
   go_wp2_with fail
   go_end0;rw[HFE.out];exact⟨rfl,Rk,HSK.out,HNK.out,HMK.out⟩
theorem zJQ (f:Nat)(S:StN)(hT:zDZ S)(hst:zDW S f)(w:World)(s:Nr)(R:DyN)(i g3 g4 g5:Nat)(h:NB w S s R)(hc:zLX w (xM S R) S.a i false g3 g4 g5)(hi:i<S.l.length)(hf:S.l.length≤f+i+1)(hb:s.blocks.length+2*f+2≤100000)(hne:s.blocks≠[]) :
  Calls Tryz.prog 104 #[.pointer (some ⟨g3,0,none⟩),.pointer (some ⟨g4,0,none⟩),.pointer (some ⟨g5,0,none⟩)] w (jR w S R (vD (zAN (tN S.l) f false) (xC (tN S.l) i).kids s) vU):=by
 have HT:=yG hT;have HNB:=yG h;have HRD:=yG h.rds;have HIL:=yG hi;have HCP:=yG hc;have HSTM:=yG hst;have HKS:Hid (∀(wr:World) (sk:Nr) (Rk:DyN),NB wr S sk Rk→Cells wr (hdN S.l i).1 (ints (xC (tN S.l) i).kids)):=yG fun wr sk Rk hn=>(hn.st.tree.kid i hi).cells;have HUP:Hid (∀k,k ∈ (xC (tN S.l) i).kids→i<k∧k<S.l.length):=yG fun k hk=>hT.up hk;have HFI:=yG hf;have HBL:Hid (s.blocks.length+2*f+2≤100000∧s.blocks≠[]):=yG ⟨hb,hne⟩;have hkb:=hT.kl i;have HKB:=yG hkb;have HRT:=yG hT.R;have q3:w.cell? ⟨g3,0,none⟩=some (.pointer (some ⟨S.a,0,none⟩)):=hc.b3.1.cell 0;have q4:w.cell? ⟨g4,0,none⟩=some (.int .i64 (i:Int)):=hc.b4.1.cell 0;clear hT h hi hf hb hne hc hst
 go_enter Tryz.func104,Tryz.ntmps104
 go_wp2_with fail
 refine(vV w S.a S.p S.A S.ct S.l i HRD.out HIL.out).mono ?_;rintro e w1 ⟨rfl,hx1⟩;have HX1:=yG hx1;have HN1:=yG (HNB.out.ext hx1);have HC1:=yG (HCP.out.xG (xD.ext (M:=xM S R) hx1));have f4:=zFj S.l i w1;clear hx1 q3 q4
 go_upto_region 1 with fail
 clear f4;generalize vX S.l i=nC at *;generalize (xC (tN S.l) i).kids=kids at *;generalize (hdN S.l i).1=kA at *;generalize (hdN S.l i).2=kc at *;have HWH:Hid (vD (zAN (tN S.l) f false) kids s=vD (zAN (tN S.l) f false) (kids.drop 0) s):=yG rfl;generalize hwhole:vD (zAN (tN S.l) f false) kids s=whole at *;clear hwhole;have HMC:=yG (xD.ext (M:=xM S R) HX1.out)
 go_loopw [10] (fun i' wr=>∃(k:Nat) (sk:Nr) (Rk:DyN),k≤kids.length∧i'=.int .i64 k∧Hid (NB wr S sk Rk)∧Hid (xD w (xM S R) wr (xM S Rk))∧Hid (ZO R Rk)∧Hid (sk.blocks.length+2*f+2≤100000∧sk.blocks≠[])∧Hid (zLX wr (xM S Rk) S.a i false g3 g4 g5)∧Hid (whole=vD (zAN (tN S.l) f false) (kids.drop k) sk)) (fun i' _=>kids.length-(intOf i').toNat)
 case atStart=>exact⟨0,s,R,zW _,rfl,HN1,HMC,yG (ZO.refl R),HBL,HC1,HWH⟩
 case round=>
  obtain⟨k,sk,Rk,hk,rfl,HNK,HMK,HSK,HBK,HCK,HWK⟩:=hrel;obtain⟨wa,rfl⟩:∃wa:World,wa=wr:=⟨_,rfl⟩
  by_cases hlt:k<kids.length
  ·have d0:decide ((k:Int)<(kids.length:Int))=true:=yS (by omega)
   have q1:(k:Int)<(kids.length:Int):=by omega
   obtain⟨b,off,rfl,hb,hcc⟩:=(HKS.out wa sk Rk HNK.out).at_ (by rw[vY]; omega)
   have e0:wa.cell? ⟨b,off+k,none⟩=some (.int .i64 ((kids[k]:Nat):Int)):=by rw[hcc k (by rw[vY]; exact hlt)]; simp[ints,hlt]
   have HMEM:Hid (kids[k] ∈ kids):=yG (yO hlt);have HSN:Hid (vD (zAN (tN S.l) f false) (kids.drop k) sk=(zAN (tN S.l) f false kids[k] sk).bind (vD (zAN (tN S.l) f false) (kids.drop (k+1)))):=yG (by rw[List.drop_eq_getElem_cons hlt]; rfl);clear hcc;generalize kids[k]=c at *;have q3:wa.cell? ⟨g3,0,none⟩=some (.pointer (some ⟨S.a,0,none⟩)):=HCK.out.b3.1.cell 0;have l3:=HCK.out.b3.1.lt;have q5:wa.cell? ⟨g5,0,none⟩=some (.bool false):=HCK.out.b5.1.cell 0;have l5:=HCK.out.b5.1.lt
   go_upto_region 3 with fail
   clear e0
   by_cases hkd:(xC (tN S.l) c).kind=19
   ·have HONE:Hid (zAN (tN S.l) f false c sk=.err c 73):=yG (by unfold zAN; rw[hkd]; rfl)
    have hn:(((xC (tN S.l) c).kind:Int) != 19)=false:=by rw[hkd]; rfl
    clear hkd;have HCL:=yG (HUP.out c HMEM.out).2;apply xU 10 (by kernel_rfl) (by kernel_rfl) (by kernel_rfl);dsimp only[List.take_succ_cons,List.take_zero,List.drop_succ_cons,List.drop_zero];apply yZ (.pointer (some ⟨S.a,0,none⟩)) rfl rfl rfl
    ·intro w' hw' hH;have cc:=(hw'.cell (p:=⟨g3,0,none⟩) l3).trans q3;clear hH;simp[xB,go_sem,cc];exact Ext.refl _
    simp only[Act.put,yD,yE,yF];apply yZ (.bool false) rfl rfl rfl
    ·intro w' hw' hH;have cc:=(hw'.cell (p:=⟨g5,0,none⟩) l5).trans q5;clear hH;simp[xB,go_sem,cc];exact Ext.refl _
    simp only[Act.put,yD,yE,yF];apply yZ (.bool false) rfl rfl rfl
    ·intro w' hw' hH;clear hH;simp[xB,go_sem];exact Ext.refl _
    simp only[Act.put,yD,yE,yF];apply zBv (.pointer (some ⟨S.a,0,none⟩)) (by kernel_rfl) rfl rfl
    ·intro w' hw' hH;have cc:=(hw'.cell (p:=⟨g3,0,none⟩) l3).trans q3;clear hH;simp[xB,go_sem,cc];exact Ext.refl _
    simp only[Act.put,yD,yE,yF];apply zBv (.int .i64 (c:Int)) (by kernel_rfl) rfl rfl
    ·intro w' hw' hH;clear hH;simp[xB,go_sem];exact Ext.refl _
    simp only[Act.put,yD,yE,yF];apply zBv (.agg (vX S.l c)) (by kernel_rfl) rfl rfl
    ·intro w' hw' hH;clear hH;simp[xB,go_sem];refine(vV w' S.a S.p S.A S.ct S.l c (HNK.out.ext hw').rds HCL.out).mono ?_;rintro e w2 ⟨rfl,hx⟩;exact⟨_,rfl,rfl,hx⟩
    simp only[Act.put,yD,yE,yF];apply zBv (.int .u8 ((xC (tN S.l) c).kind:Int)) (by kernel_rfl) rfl rfl
    ·intro w' hw' hH;clear hH;simp[xB,go_sem,zDJ];exact Ext.refl _
    simp only[Act.put,yD,yE,yF];apply zBv (.bool false) (by kernel_rfl) rfl rfl
    ·intro w' hw' hH;clear hH;simp[xB,go_sem,hn];exact Ext.refl _
    simp only[Act.put,yD,yE,yF];apply yZ (.bool false) rfl rfl rfl
    ·intro w' hw' hH;clear hH;simp[xB,go_sem];exact Ext.refl _
    simp only[Act.put,yD,yE,yF];apply yZ (.int .i64 (c:Int)) rfl rfl rfl
    ·intro w' hw' hH;clear hH;simp[xB,go_sem];exact Ext.refl _
    simp only[Act.put,yD,yE,yF];apply vC;clear hn;intro w2 hx2 hH;clear hH;simp only[Act.put,yD,yE,yF,List.drop_succ_cons,List.drop_zero];have HX2:=yG hx2;have HN2:=yG (HNK.out.ext hx2);have HC2:=yG (HCK.out.xG (xD.ext (M:=xM S Rk) hx2));have HM2:=yG (HMK.out.trans (xD.ext (M:=xM S Rk) hx2));clear hx2 q3 l3 q5 l5
    go_wp2_with fail
    refine(JP w2 S.a S.p S.A S.ct S.l c 73 HN2.out.rds (HUP.out c HMEM.out).2).mono ?_;rintro e w3 ⟨rfl,rfl⟩
    have HF:Hid (jR w S R whole vU (XG (YY S.l c) 73) w2):=yG (by
     rw[HWK.out,HSN.out,HONE.out]
     exact⟨rfl,(HUP.out c HMEM.out).2,_,HM2.out⟩)
    exact xK (P:=Tryz.prog) (fn:=Tryz.f104) rfl HF.out
   ·have HONE:Hid (zAN (tN S.l) f false c sk=vF (tN S.l) f c sk):=yG (by unfold zAN; rw[if_pos]; rw[Bool.false_or,zE]; exact hkd)
    have hn:(((xC (tN S.l) c).kind:Int) != 19)=true:=by rw[zE]; omega
    clear hkd;have HCL:=yG (HUP.out c HMEM.out).2;apply xU 10 (by kernel_rfl) (by kernel_rfl) (by kernel_rfl);dsimp only[List.take_succ_cons,List.take_zero,List.drop_succ_cons,List.drop_zero];apply yZ (.pointer (some ⟨S.a,0,none⟩)) rfl rfl rfl
    ·intro w' hw' hH;have cc:=(hw'.cell (p:=⟨g3,0,none⟩) l3).trans q3;clear hH;simp[xB,go_sem,cc];exact Ext.refl _
    simp only[Act.put,yD,yE,yF];apply yZ (.bool false) rfl rfl rfl
    ·intro w' hw' hH;have cc:=(hw'.cell (p:=⟨g5,0,none⟩) l5).trans q5;clear hH;simp[xB,go_sem,cc];exact Ext.refl _
    simp only[Act.put,yD,yE,yF];apply yZ (.bool false) rfl rfl rfl
    ·intro w' hw' hH;clear hH;simp[xB,go_sem];exact Ext.refl _
    simp only[Act.put,yD,yE,yF];apply zBv (.pointer (some ⟨S.a,0,none⟩)) (by kernel_rfl) rfl rfl
    ·intro w' hw' hH;have cc:=(hw'.cell (p:=⟨g3,0,none⟩) l3).trans q3;clear hH;simp[xB,go_sem,cc];exact Ext.refl _
    simp only[Act.put,yD,yE,yF];apply zBv (.int .i64 (c:Int)) (by kernel_rfl) rfl rfl
    ·intro w' hw' hH;clear hH;simp[xB,go_sem];exact Ext.refl _
    simp only[Act.put,yD,yE,yF];apply zBv (.agg (vX S.l c)) (by kernel_rfl) rfl rfl
    ·intro w' hw' hH;clear hH;simp[xB,go_sem];refine(vV w' S.a S.p S.A S.ct S.l c (HNK.out.ext hw').rds HCL.out).mono ?_;rintro e w2 ⟨rfl,hx⟩;exact⟨_,rfl,rfl,hx⟩
    simp only[Act.put,yD,yE,yF];apply zBv (.int .u8 ((xC (tN S.l) c).kind:Int)) (by kernel_rfl) rfl rfl
    ·intro w' hw' hH;clear hH;simp[xB,go_sem,zDJ];exact Ext.refl _
    simp only[Act.put,yD,yE,yF];apply zBv (.bool true) (by kernel_rfl) rfl rfl
    ·intro w' hw' hH;clear hH;simp[xB,go_sem,hn];exact Ext.refl _
    simp only[Act.put,yD,yE,yF];apply yZ (.bool true) rfl rfl rfl
    ·intro w' hw' hH;clear hH;simp[xB,go_sem];exact Ext.refl _
    simp only[Act.put,yD,yE,yF];apply yZ (.int .i64 (c:Int)) rfl rfl rfl
    ·intro w' hw' hH;clear hH;simp[xB,go_sem];exact Ext.refl _
    simp only[Act.put,yD,yE,yF];apply vC;clear hn;intro w2 hx2 hH;clear hH;simp only[Act.put,yD,yE,yF,List.drop_succ_cons,List.drop_zero];have HX2:=yG hx2;have HN2:=yG (HNK.out.ext hx2);have HC2:=yG (HCK.out.xG (xD.ext (M:=xM S Rk) hx2));have HM2:=yG (HMK.out.trans (xD.ext (M:=xM S Rk) hx2));clear hx2 q3 l3 q5 l5
    go_wp2_with fail
    refine(XC w2 (.pointer (some ⟨S.a,0,none⟩)) (c:Int) 73).mono ?_;rintro e w3 ⟨rfl,rfl⟩;have q3:w2.cell? ⟨g3,0,none⟩=some (.pointer (some ⟨S.a,0,none⟩)):=HC2.out.b3.1.cell 0
    go_wp2_with fail
    clear q3;refine(HSTM.out w2 sk Rk c HN2.out (HUP.out c HMEM.out).2 (by have:=(HUP.out c HMEM.out).1; have:=HFI.out; omega) HBK.out.1 HBK.out.2).mono ?_;intro e w5 hpost;rw[←HONE.out] at hpost
    cases hq:zAN (tN S.l) f false c sk with
    | err j er=>
     rw[hq] at hpost;obtain⟨rfl,hj,M',hm⟩:=hpost
     have HF:Hid (jR w S R whole vU (XG (YY S.l j) er) w5):=yG (by
      rw[HWK.out,HSN.out,hq]
      exact⟨rfl,hj,M',HM2.out.trans hm⟩)
     exact xK (P:=Tryz.prog) (fn:=Tryz.f104) rfl HF.out
    | ok s5=>
     rw[hq] at hpost;obtain⟨rfl,R5,hst5,hn5,hm5⟩:=hpost;have HN5:=yG hn5;have HM5:=yG (HM2.out.trans hm5);have HS5:=yG (HSK.out.trans hst5);have HC5:=yG (HC2.out.xG hm5)
     have HB5:Hid (s5.blocks.length+2*f+2≤100000∧s5.blocks≠[]):=yG (by
      have hk:=XI (zGB HRT.out HBK.out.2 hq);rw[hk.1]
      exact⟨HBK.out.1,hk.2⟩)
     have HW5:Hid (whole=vD (zAN (tN S.l) f false) (kids.drop (k+1)) s5):=yG (by rw[HWK.out,HSN.out,hq]; rfl);clear hn5 hm5 hst5 hq;unfold vU
     go_wp2_with fail
     go_roundw
     case rel=>exact⟨k+1,s5,R5,by omega,by go_num,HN5,HM5,HS5,HB5,HC5,HW5⟩
     case measure=>simp[intOf]; omega
  ·obtain rfl:k=kids.length:=by omega
   have d0:decide ((kids.length:Int)<(kids.length:Int))=false:=by simp
   have d1:decide (kids.length<kids.length)=false:=by simp
   have HFE:Hid (whole=.ok sk):=yG (by rw[HWK.out,List.drop_length]; rfl)
   go_wp2_with fail
   go_end0;rw[HFE.out];exact⟨rfl,Rk,HSK.out,HNK.out,HMK.out⟩
theorem zMf (f:Nat)(S:StN)(hT:zDZ S)(hst:zDW S f)(w:World)(s:Nr)(R:DyN)(i g3 g4 g5:Nat)(top:Bool)(h:NB w S s R)(hc:zLX w (xM S R) S.a i top g3 g4 g5)(hi:i<S.l.length)(hf:S.l.length≤f+i+1)(hb:s.blocks.length+2*f+2≤100000)(hne:s.blocks≠[]) :
  Calls Tryz.prog 104 #[.pointer (some ⟨g3,0,none⟩),.pointer (some ⟨g4,0,none⟩),.pointer (some ⟨g5,0,none⟩)] w (jR w S R (vD (zAN (tN S.l) f top) (xC (tN S.l) i).kids s) vU):=by
 cases top with
 | true=>exact zLf f S hT hst w s R i g3 g4 g5 h hc hi hf hb hne
 | false=>exact zJQ f S hT hst w s R i g3 g4 g5 h hc hi hf hb hne
theorem zO7 (R1 R2 R3 R4:DyN)(h1:R1.pc=R3.pc)(h2:R1.j=R3.j)(h3:R2.pc=R4.pc)(h4:R2.j=R4.j)(h:ZO R1 R2):ZO R3 R4:=⟨by rw[←h2,←h4]; exact h.j,by rw[←h1,←h3]; exact h.sz,fun i hi=>by rw[←h1,←h3]; exact h.pc i (by rw[h2]; exact hi)⟩
theorem zFe (f:Nat)(S:StN)(hT:zDZ S)(hst:zDW S f)(w:World)(s:Nr)(R:DyN)(i:Nat)(top:Bool)(h:NB w S s R)(hi:i<S.l.length)(hf:S.l.length≤f+i+1)(hb:s.blocks.length+1+2*f+2≤100000) :
  Calls Tryz.prog 63 #[.pointer (some ⟨S.a,0,none⟩),.int .i64 (i:Int),.bool top] w (jR w S R (jN (tN S.l) (vF (tN S.l) f) i top s) vU):=by
 have HT:=yG hT;have HNB:=yG h;have HSTM:=yG hst;have HAR:Hid (i<S.l.length∧S.l.length≤f+i+1∧s.blocks.length+1+2*f+2≤100000):=yG ⟨hi,hf,hb⟩;obtain⟨W3,HW3⟩:∃W3,Hid (((w.alloc (.cells #[.pointer (some ⟨S.a,0,none⟩)] 78)).alloc (.cells #[.int .i64 (i:Int)] 3)).alloc (.cells #[.bool top] 4)=W3):=⟨_,yG rfl⟩;have HX3:Hid (Ext w W3):=yG (by rw[←HW3.out]; exact((Ext.alloc _ _).trans (Ext.alloc _ _)).trans (Ext.alloc _ _));have HML:Hid (∀b,xM S R b→b<w.heap.size):=yG fun b hm=>h.ZU hm
 have HC3:Hid (zLX W3 (xM S R) S.a i top w.heap.size (w.heap.size+1) (w.heap.size+1+1)):=yG (by
  rw[←HW3.out];refine⟨⟨((Blk.new _ _ _).alloc _).alloc _,fun hm=>by have:=HML.out _ hm; omega⟩,⟨?_,fun hm=>by have:=HML.out _ hm; omega⟩,⟨?_,fun hm=>by have:=HML.out _ hm; omega⟩⟩
  ·have:=(Blk.new (w.alloc (.cells #[.pointer (some ⟨S.a,0,none⟩)] 78)) 3 #[.int .i64 (i:Int)]).alloc (.cells #[.bool top] 4)
   rwa [yT] at this
  ·have:=Blk.new ((w.alloc (.cells #[.pointer (some ⟨S.a,0,none⟩)] 78)).alloc (.cells #[.int .i64 (i:Int)] 3)) 4 #[.bool top]
   rwa [yT,yT] at this)
 clear hT h hst hi hf hb
 go_enter Tryz.func63,Tryz.ntmps63
 have q3:(((w.alloc (.cells #[.pointer (some ⟨S.a,0,none⟩)] 78)).alloc (.cells #[.int .i64 (i:Int)] 3)).alloc (.cells #[.bool top] 4)).cell? ⟨w.heap.size,0,none⟩=some (.pointer (some ⟨S.a,0,none⟩)):=by rw[HW3.out]; exact HC3.out.b3.1.cell 0
 go_wp2_with fail
 rw[HW3.out];clear q3 HW3;have HWB:Hid (jN (tN S.l) (vF (tN S.l) f) i top s=jQ (vD (zAN (tN S.l) f top) (xC (tN S.l) i).kids) s):=yG rfl;refine(zEt ZO zO7 W3 S s R 104 #[] #[.pointer (some ⟨w.heap.size,0,none⟩),.pointer (some ⟨w.heap.size+1,0,none⟩),.pointer (some ⟨w.heap.size+1+1,0,none⟩)] (vD (zAN (tN S.l) f top) (xC (tN S.l) i).kids) (HNB.out.ext HX3.out) (by have:=HAR.out; omega) (enters_of Tryz.func104 (by kernel_rfl) rfl) (fun s' hq=>?_) (fun wr R' _ _ hm hn=>?_)).mono ?_
 ·have hk:=XI (zBb _ _ _ (by simp) (fun k _ a b hne hq=>zGB HT.out.R hne hq) hq);refine⟨hk.2,?_⟩;rw[hk.1];simp only[zK]
  have:=HAR.out
  omega
 ·have:=zMf f S HT.out HSTM.out wr { s with blocks:=[]::s.blocks } R' i w.heap.size (w.heap.size+1) (w.heap.size+1+1) top hn (HC3.out.xG hm) HAR.out.1 HAR.out.2.1 (by simp only[zK]; have:=HAR.out; omega) (by simp)
  exact Calls.mono this fun e w' hp=>hp.toQ
 ·intro e w5 hpost;have hp:=jR.trans (ZO.refl R) (xD.ext (M:=xM S R) HX3.out) hpost.toN;rw[←HWB.out] at hp;clear hpost
  cases hq:jN (tN S.l) (vF (tN S.l) f) i top s with
  | ok s'=>
   rw[hq] at hp;obtain⟨rfl,ho⟩:=hp;have HO:=yG ho;have HQ:=yG hq;clear ho hq;unfold vU
   go_wp2_with fail
   go_end0;rw[HQ.out];exact⟨rfl,HO.out⟩
  | err j er=>
   rw[hq] at hp;obtain⟨rfl,ho⟩:=hp;exact xK (P:=Tryz.prog) (fn:=Tryz.f63) rfl ⟨rfl,ho⟩
end Go.Proofs.YtbadjmmjbpeocaaGreatDoor
