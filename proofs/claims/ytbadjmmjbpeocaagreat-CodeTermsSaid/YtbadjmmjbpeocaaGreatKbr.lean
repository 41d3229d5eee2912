/- interlocklaw08.CodeTerms, walked: always true. (and what follows of it). The conditions stand at each lemma. -/
import Derived.Test.YtbadjmmjbpeocaaGreatKaa
import Derived.Test.YtbadjmmjbpeocaaGreatKbo
import Derived.Test.YtbadjmmjbpeocaaGreatKbq
import Derived.Test.YtbadjmmjbpeocaaGreatKam
import Derived.Test.YtbadjmmjbpeocaaGreatKab
set_option linter.unusedVariables false
set_option linter.unusedSimpArgs false
set_option maxRecDepth 100000
set_option maxHeartbeats 16000000
namespace Go.Proofs.YtbadjmmjbpeocaaGreat
open Go Go.RowKit
theorem zNt.pv {w:World}{L:List TT.xQ}{s:Nr}{v:Value}(h:zNt w L s v):∃(A At Ap:Option Addr) (l:List Tx) (bo ct nT cT nP cP co:Nat),v=.agg #[.slice A L.length ct,.slice At nT cT,.slice Ap nP cP,.slice (some ⟨bo,0,none⟩) L.length co]∧PV w A l (some ⟨bo,0,none⟩) s.of∧tN l=tN (txM L)∧l.length=L.length:=by
 obtain⟨M,A,At,Ap,l,th,ps,bo,ct,cT,cP,co,rfl,hp,ht,_⟩:=h.out
 have hl:l.length=L.length:=by have:=congrArg List.length ht; rwa [jF,jF,JG] at this
 exact⟨A,At,Ap,l,bo,ct,_,cT,_,cP,co,rfl,⟨hp.tree.row.cells,fun x hx=>(hp.tree.kids x hx).cells,hp.of.cells,hp.len⟩,ht,hl⟩
structure zTK (l:List Tx)(of:List Int):Prop where
 F:zD3 (tN l)
 len:l.length≤9000
 kl:∀i,(xB (tN l) i).kids.length≤9000
 num:∀n ∈ tN l,okI n.num
 vars:∀i,i<l.length→(xB (tN l) i).kind=22→0≤of.getD i (-1)∧of.getD i (-1)<64
theorem zTK.lt {l:List Tx}{of:List Int}(h:zTK l of){i:Nat}(hk:(xB (tN l) i).kind≠0):i<l.length:=by
 rcases Nat.lt_or_ge i l.length with h1 | h1
 ·exact h1
 ·exfalso
  apply hk;unfold xB;rw[yH,zM (by rw[jF]; exact h1)]
  rfl
theorem zTQ {src:Bs}{nh:List (Nd × Hd2)}{s:Nr}{l:List Tx}(hp:zCk src=.ok (nh.map Prod.fst))(hl:src.length≤1500)(hr:TT.VR (nh.map toT)=true)(hs:jL (nh.map Prod.fst)=.ok s)(ht:tN l=tN (txM (nh.map toT))):zTK l s.of:=by
 obtain⟨h1,h2,_,_⟩:=zT7 hp hl;have hF:=zRR hr h2;rw[zSo] at ht hF;have hps:=zGV hp hl
 have hlen:l.length=nh.length:=by have:=congrArg List.length ht; rwa [jF,yQ] at this
 rw[←ht] at hF hs hps;have hR:=zMN hF.tree hs;refine⟨hF,by rw[hlen]; rw[yQ] at h1; exact h1,fun i=>?_,fun n hn=>(hps.2 n hn).2.2.1,fun i hi hk=>hR.zUw hF.tree (by rw[jF]; exact hi) hk⟩;unfold xB;rw[yH]
 cases e:(tN l)[i]? with
 | none=>exact zW _
 | some n=>exact Nat.le_trans (hps.2 n (yB e)).1 (by decide)
theorem zMO {t:List Nd}{of:List Int}{f i:Nat}(h:(xB t i).kind<21):vD t of f i=[]:=by
 cases f with
 | zero=>rfl
 | succ f=>
  unfold vD
  dsimp only
  rw[if_neg (by omega),if_neg (by omega),if_neg (by omega),if_neg (by omega),if_neg (by omega),if_neg (by omega)]
theorem zMr {l:List Tx}{of:List Int}(h:zTK l of){i:Nat}(hi:i<l.length)(f:Nat):(vD (tN l) of f i).length≤9000:=by
 have hl:=h.len
 cases f with
 | zero=>exact zW _
 | succ f=>
  have h1:=h.F.few of i f (by rw[jF]; exact hi);rw[jF] at h1;unfold vD
  dsimp only
  repeat' split
  all_goals (first | (rw[yP]; show _+1≤9000; omega) | (show 1≤9000; omega) | (show 0≤9000; omega))
theorem zFK (w:World):Calls Tryz.prog 7 #[] w fun e w'=>e=.returned (.bool true)∧Ext w w':=EV.zTW w
theorem zUR:madeCells #[.int .i64 0] 64=(EV.YW (List.replicate 64 0)).toArray:=by kernel_rfl
theorem zSk:(Tryz.prog.info? 2).map (fun i=>(i.zero,i.size,i.bytes))=some (some (.int .i64 0),1,8):=by kernel_rfl
theorem zJd (A V:Option Addr)(src:Bs)(zEJ:List Int)(n c m d:Nat)(w:World)(hn:n=src.length)(hm:m=zEJ.length)(hcap:src.length≤c)(hnil:A=none→c=0)(hC:Cells w A (vC src))(hV:Cells w V (EV.YW zEJ))(hok:∀x ∈ zEJ,okI x) :
  Calls Tryz.prog 3 #[.slice A n c,.slice V m d] w fun e w'=>e=.returned (.bool true)∧Ext w w':=by
 subst hn hm;have HC:=yG hC;have HV:=yG hV;have HOK:=yG hok;clear hC hV hok
 by_cases h1500:1500<src.length
 ·have d0:decide ((1500:Int)<(src.length:Int))=true:=yS (by omega)
  go_enter Tryz.func3,Tryz.ntmps3
  go_wp2_with fail
  refine(zFK w).mono ?_;rintro e w' ⟨rfl,hx⟩
  go_wp2_with fail
  go_ret;exact⟨rfl,hx⟩
 have d0:decide ((1500:Int)<(src.length:Int))=false:=yR (by omega)
 by_cases h100:100<zEJ.length
 ·have d1:decide ((100:Int)<(zEJ.length:Int))=true:=yS (by omega)
  go_enter Tryz.func3,Tryz.ntmps3
  go_wp2_with fail
  refine(zFK w).mono ?_;rintro e w' ⟨rfl,hx⟩
  go_wp2_with fail
  go_ret;exact⟨rfl,hx⟩
 have d1:decide ((100:Int)<(zEJ.length:Int))=false:=yR (by omega);have d1n:decide (100<zEJ.length)=false:=yR (by omega);have d0n:decide (1500<src.length)=false:=yR (by omega)
 go_enter Tryz.func3,Tryz.ntmps3
 go_wp2_with fail
 refine(zMq A src src.length c w rfl (by omega) hcap hnil HC.out).mono ?_;rintro e w1 ⟨hx1,hpost⟩;have HX1:=yG hx1;clear hx1
 rcases hpost with ⟨rfl,hno⟩ | ⟨nh,s,v,hps,hrt,hres,rfl,hprog⟩
 ·unfold XE
  go_wp2_with fail
  refine(zFK _).mono ?_;rintro e w' ⟨rfl,hx⟩
  go_wp2_with fail
  go_ret;exact⟨rfl,(HX1.out.trans (Ext.alloc _ _)).trans hx⟩
 ·obtain⟨pA,pT,pP,l,bo,ct,nT,cT,nP,cP,co,rfl,hpv,htn,hll⟩:=hprog.pv;have HCO:=yG (zTQ hps (by omega) hrt hres htn);have HPV:=yG hpv;rw[←hll];clear hps hrt hres hprog hpv htn hll;generalize s.of=of at *;have hmk:=run_make_row' (P:=Tryz.prog) 23 2 (.int .i64 0) 8 Tryz.underlying23 zSk rfl .i64 .i64 64 (by omega) (by omega);rw[show((64:Nat):Int)=64 from rfl] at hmk
  go_upto_region 7 with fail
  have HX2:Hid (Ext w (w1.alloc (.cells #[.slice pA l.length ct,.slice pT nT cT,.slice pP nP cP,.slice (some ⟨bo,0,none⟩) l.length co] 32))):=yG (HX1.out.trans (Ext.alloc _ _));have HB2:=yG (Blk.new w1 32 #[.slice pA l.length ct,.slice pT nT cT,.slice pP nP cP,.slice (some ⟨bo,0,none⟩) l.length co]);have HPV2:=yG (HPV.out.ext (Ext.alloc w1 (.cells #[.slice pA l.length ct,.slice pT nT cT,.slice pP nP cP,.slice (some ⟨bo,0,none⟩) l.length co] 32)));clear HPV
  try rw[yT]
  generalize hg5:w1.heap.size=g5 at *
  try rw[show g5+1=(w1.alloc (.cells #[.slice pA l.length ct,.slice pT nT cT,.slice pP nP cP,.slice (some ⟨bo,0,none⟩) l.length co] 32)).heap.size from by rw[yT,hg5]]
  generalize w1.alloc (.cells #[.slice pA l.length ct,.slice pT nT cT,.slice pP nP cP,.slice (some ⟨bo,0,none⟩) l.length co] 32)=w2 at *
  have HVS:Hid (Blk (w2.alloc (.cells (madeCells #[.int .i64 0] 64) 2)) w2.heap.size 2 (EV.YW (List.replicate 64 0)).toArray):=yG (by
   rw[zUR]
   exact Blk.new _ _ _)
  have HX3:Hid (Ext w2 (w2.alloc (.cells (madeCells #[.int .i64 0] 64) 2))):=yG (Ext.alloc _ _);clear hmk hg5;have HGV:Hid (w2.heap.size=w2.heap.size):=yG rfl;generalize hgv:w2.heap.size=gv at *;have HGW:=yG hgv;clear hgv HGV;generalize w2.alloc (.cells (madeCells #[.int .i64 0] 64) 2)=w3 at *
  go_wp2_with fail
  go_loopw [8] (fun i wr=>∃(k:Nat) (vs:List Int),k≤64∧i=.int .i64 k∧vs.length=64∧Hid (∀x ∈ vs,okI x)∧Hid (Blk wr gv 2 (EV.YW vs).toArray)∧Hid (Ext w2 wr)) (fun i _=>64-(intOf i).toNat)
  case atStart=>exact⟨0,List.replicate 64 0,by decide,rfl,by decide,yG (fun x hx=>by rw[List.eq_of_mem_replicate hx]; exact ok0),HVS,HX3⟩
  case round=>
   clear HVS HX3;obtain⟨k,vs,hk,rfl,hvl,HVO,HVB,HX⟩:=hrel;obtain⟨wa,rfl⟩:∃wa:World,wa=wr:=⟨_,rfl⟩
   by_cases hlt:k<64
   ·have d2:decide ((k:Int)<64)=true:=yS (by omega)
    by_cases hln:k<zEJ.length
    ·have d3:decide ((k:Int)<(zEJ.length:Int))=true:=yS (by omega);obtain⟨vb,vo,rfl,hvb,hvc⟩:=HV.out.at_ (by simp[EV.YW]; omega)
     have q1:wa.cell? ⟨vb,vo+k,none⟩=some (.int .i64 (zEJ[k])):=by
      refine(((HX2.out.trans HX.out).cell (p:=⟨vb,vo+k,none⟩) hvb).trans (hvc k (by simp[EV.YW]; omega))).trans ?_;simp[EV.YW,hln]
     have HXO:Hid (okI zEJ[k]):=yG (HOK.out _ (yO hln));generalize zEJ[k]=x at *
     have q2:(k:Int)<(zEJ.length:Int):=by omega
     have q3:(k:Int)<64:=by omega
     have q4:wa.cell? ⟨gv,k,none⟩=some (.int .i64 (vs[k])):=by
      rw[HVB.out.cell k];simp[EV.YW,hvl,hlt]
     have q5:=HVB.out.frozen k
     have HB8:Hid (Blk (wa.setCell ⟨gv,k,none⟩ (.int .i64 x)) gv 2 (EV.YW (vs.set k x)).toArray):=yG (by
      have h:=HVB.out.put k (.int .i64 x)
      have e:(EV.YW vs).toArray.setIfInBounds k (.int .i64 x)=(EV.YW (vs.set k x)).toArray:=by
       simp[EV.YW,List.map_set]
      rw[e] at h
      exact h)
     have HX8:Hid (Ext w2 (wa.setCell ⟨gv,k,none⟩ (.int .i64 x))):=yG (Ext.set HX.out (by rw[HGW.out]; exact zX _));clear hvc hvb
     go_wp2_with fail
     go_roundw
     case rel=>exact⟨k+1,vs.set k x,by omega,by go_num,by rw[zB]; exact hvl,yG (fun y hy=>by
      rcases List.mem_or_eq_of_mem_set hy with h | h
      ·exact HVO.out y h
      ·rw[h]; exact HXO.out),HB8,HX8⟩
     case measure=>simp[intOf]; omega
    ·have d3:decide ((k:Int)<(zEJ.length:Int))=false:=yR (by omega);have HCV:Hid (Cells wa (some ⟨gv,0,none⟩) (EV.YW vs)):=yG (.inr ⟨gv,0,rfl,HVB.out.lt,fun j hj=>by rw[Nat.zero_add,HVB.out.cell j]; simp⟩);have HPA:=yG (HPV2.out.ext HX.out);have HBA:=yG (HB2.out.ext HX.out);have HXA:=yG (HX2.out.trans HX.out);have HVL:=yG hvl;have hlen:=HCO.out.len
     go_wp2_with fail
     go_loopw [9,10,11,12] (fun i_ _ _ _ wr=>∃k:Nat,k≤l.length+2∧i_=.int .i64 ((k:Int)-1)∧Hid (Ext wa wr)) (fun i_ _ _ _ _=>l.length+3-(intOf i_+1).toNat)
     case atStart=>exact⟨0,zW _,rfl,yG (Ext.refl _)⟩
     case round=>
      obtain⟨j,hj,rfl,HXJ⟩:=hrel;obtain⟨wb,rfl⟩:∃wb:World,wb=wr:=⟨_,rfl⟩;have y0:wb.cell? ⟨g5,0,none⟩=some (.slice pA l.length ct):=(HBA.out.ext HXJ.out).cell 0;have y1:wb.cell? ⟨g5,1,none⟩=some (.slice pT nT cT):=(HBA.out.ext HXJ.out).cell 1;have y2:wb.cell? ⟨g5,2,none⟩=some (.slice pP nP cP):=(HBA.out.ext HXJ.out).cell 2;have y3:wb.cell? ⟨g5,3,none⟩=some (.slice (some ⟨bo,0,none⟩) l.length co):=(HBA.out.ext HXJ.out).cell 3
      by_cases hjl:j<l.length+2
      ·have e0:decide ((j:Int)-1≤(l.length:Int))=true:=yS (by omega)
       by_cases hj0:j=0
       ·subst hj0
        go_wp2_with fail
        refine(zEY l wb pA pT pP (some ⟨bo,0,none⟩) nT cT nP cP ct co l.length rfl (-1) (.inl (by decide))).mono ?_;rintro e wc ⟨A9,c9,rfl,_,_,hx9⟩;have HX9:=yG (HXJ.out.trans hx9);clear hx9 y0 y1 y2 y3
        go_wp2_with fail
        go_roundw
        case rel=>exact⟨1,by omega,by go_num,HX9⟩
        case measure=>first | (simp[intOf]; omega) | (simp[intOf]; done)
       obtain⟨k,rfl⟩:∃k,j=k+1:=⟨j-1,by omega⟩
       have ek:(((k+1:Nat):Int)-1)=(k:Int):=by omega
       rw[ek] at e0
       try rw[ek]
       have e1:decide ((k:Int)<0)=false:=yR (by omega)
       by_cases hkl:k=l.length
       ·have e2:((k:Int)==(l.length:Int))=true:=by rw[hkl]; exact beq_self_eq_true _
        have e2n:(k==l.length)=true:=by rw[hkl]; exact beq_self_eq_true _
        have HKL:=yG hkl;clear hkl
        go_wp2_with fail
        refine(zEY l wb pA pT pP (some ⟨bo,0,none⟩) nT cT nP cP ct co l.length rfl (k:Int) (.inr (by have:=HKL.out; omega))).mono ?_;rintro e wc ⟨A9,c9,rfl,_,_,hx9⟩;have HX9:=yG (HXJ.out.trans hx9);have y3':wc.cell? ⟨g5,3,none⟩=some (.slice (some ⟨bo,0,none⟩) l.length co):=(HBA.out.ext HX9.out).cell 3;clear hx9 y0 y1 y2 y3
        go_wp2_with fail
        go_roundw
        case rel=>exact⟨k+2,by omega,by go_num,HX9⟩
        case measure=>simp[intOf]; omega
       have hki:k<l.length:=by omega
       have e2:((k:Int)==(l.length:Int))=false:=beq_eq_false_iff_ne.2 (by omega);have e2n:(k==l.length)=false:=beq_eq_false_iff_ne.2 (by omega)
       go_wp2_with fail
       refine(zGF l of (fun i k hk=>by have:=HCO.out.F.right.up i k hk; rw[jF] at this; exact this) (fun i q hi=>by have:=HCO.out.F.few of i q (by rw[jF]; exact hi); rw[jF] at this; exact this) hlen HCO.out.kl pA pT pP (some ⟨bo,0,none⟩) nT cT nP cP ct co l.length rfl l.length k wb (by omega) hki (HPA.out.ext HXJ.out)).mono ?_;rintro e wc ⟨A9,c9,rfl,z9,hc9,hx9⟩;have HX9:=yG (HXJ.out.trans hx9);have HC9:=yG hc9;have HZ9:=yG z9;clear hx9 hc9 z9 y0 y1 y2 y3;have y0:wc.cell? ⟨g5,0,none⟩=some (.slice pA l.length ct):=(HBA.out.ext HX9.out).cell 0;have y1:wc.cell? ⟨g5,1,none⟩=some (.slice pT nT cT):=(HBA.out.ext HX9.out).cell 1;have y2:wc.cell? ⟨g5,2,none⟩=some (.slice pP nP cP):=(HBA.out.ext HX9.out).cell 2;have y3:wc.cell? ⟨g5,3,none⟩=some (.slice (some ⟨bo,0,none⟩) l.length co):=(HBA.out.ext HX9.out).cell 3;obtain⟨b9,o9,hA9,hb9,hcc9⟩:=(HPA.out.ext HX9.out).at_ k hki;subst hA9;obtain⟨nk,HNK⟩:∃nk,Hid ((xB (tN l) k).kind=nk):=⟨_,yG rfl⟩
       have x0:wc.cell? ⟨b9,o9+k*5,none⟩=some (.int .u8 (nk:Int)):=by rw[←HNK.out]; exact hcc9 0 (by decide)
       have qk:(k:Int)<(l.length:Int):=by omega
       clear hcc9
       by_cases h21:nk<21
       ·have e3:decide ((nk:Int)<21)=true:=yS (by omega);have HT0:Hid ((vD (tN l) of l.length k).length=0):=yG (by rw[zMO (by rw[HNK.out]; exact h21)]; rfl);generalize (vD (tN l) of l.length k).length=tn at *;have ht0:=HT0.out;subst ht0
        go_wp2_with fail
        go_roundw
        case rel=>exact⟨k+2,by omega,by go_num,HX9⟩
        case measure=>simp[intOf]; omega
       have e3:decide ((nk:Int)<21)=false:=yR (by omega)
       have hex:zAS (xB (tN l) k).kind:=by
        have h1:=HCO.out.F.le k (by rw[jF]; exact hki);have h2:=HNK.out;unfold zAS;omega
       have hvr:∀i,i<(tN l).length→(xB (tN l) i).kind=22→0≤of.getD i (-1)∧of.getD i (-1)<(vs.length:Int):=fun i hi h=>by
        rw[jF] at hi;rw[HVL.out];exact HCO.out.vars i hi h
       have HEX:=yG hex
       have HEV:Hid (EV.zA2 vs ((vD (tN l) of l.length k).map tmD)=(XA A64 (tN l) of vs l.length k,true)):=yG (by
        have h:=zHm HCO.out.F of vs hvr k (by rw[jF]; exact hki) hex
        rwa [jF] at h)
       have HTK:Hid (∀t ∈ (vD (tN l) of l.length k).map tmD,t.ok):=yG (zIN HCO.out.num (fun i h=>by
        have:=HCO.out.vars i (HCO.out.lt (by omega)) h
        exact⟨by omega,by omega⟩) _ _)
       have HMO:Hid (zOY (tN l) of vs):=yG ⟨HCO.out.F.right,HCO.out.F.exT,hvr⟩;have HTL:Hid ((vD (tN l) of l.length k).length≤9000):=yG (zMr HCO.out hki _);have HLM:Hid ((vD (tN l) of l.length k).length=((vD (tN l) of l.length k).map tmD).length):=yG (by rw[yQ]);clear hex hvr
       go_wp2_with fail
       refine(EV.zFz A9 (some ⟨gv,0,none⟩) ((vD (tN l) of l.length k).map tmD) vs _ 64 c9 64 _ _ wc HLM.out HVL.out.symm (by rw[←HLM.out]; exact HTL.out) (by rw[HVL.out]; decide) HC9.out (HCV.out.ext HX9.out) HTK.out HVO.out HEV).mono ?_;rintro e wd ⟨rfl,hxd⟩;have HXD:=yG (HX9.out.trans hxd);clear y0 y1 y2 y3 x0;have y0:wd.cell? ⟨g5,0,none⟩=some (.slice (some ⟨b9,o9,none⟩) l.length ct):=(HBA.out.ext HXD.out).cell 0;have y3:wd.cell? ⟨g5,3,none⟩=some (.slice (some ⟨bo,0,none⟩) l.length co):=(HBA.out.ext HXD.out).cell 3;clear hxd
       go_wp2_with fail
       refine(zEw l of vs HMO.out hlen HCO.out.kl (by rw[HVL.out]; decide) (some ⟨b9,o9,none⟩) (some ⟨bo,0,none⟩) (some ⟨gv,0,none⟩) ct co 64 l.length 64 rfl HVL.out.symm l.length k wd (by omega) hki HEX.out (HPA.out.ext HXD.out) (HCV.out.ext HXD.out)).mono ?_;rintro e we ⟨rfl,hxe⟩;have HXE:=yG (HXD.out.trans hxe);clear hxe y0 y3 HEV;generalize XA A64 (tN l) of vs l.length k=mv at *;have em:(mv != mv)=false:=bne_self_eq_false _
       go_wp2_with fail
       go_roundw
       case rel=>exact⟨k+2,by omega,by go_num,HXE⟩
       case measure=>simp[intOf]; omega
      ·have e0:decide ((j:Int)-1≤(l.length:Int))=false:=yR (by omega)
       go_wp2_with fail
       refine(zFK wb).mono ?_;rintro e wz ⟨rfl,hxz⟩
       go_wp2_with fail
       go_ret;exact⟨rfl,(HXA.out.trans HXJ.out).trans hxz⟩
   ·have d2:decide ((k:Int)<64)=false:=yR (by omega);have HCV:Hid (Cells wa (some ⟨gv,0,none⟩) (EV.YW vs)):=yG (.inr ⟨gv,0,rfl,HVB.out.lt,fun j hj=>by rw[Nat.zero_add,HVB.out.cell j]; simp⟩);have HPA:=yG (HPV2.out.ext HX.out);have HBA:=yG (HB2.out.ext HX.out);have HXA:=yG (HX2.out.trans HX.out);have HVL:=yG hvl;have hlen:=HCO.out.len
    go_wp2_with fail
    go_loopw [9,10,11,12] (fun i_ _ _ _ wr=>∃k:Nat,k≤l.length+2∧i_=.int .i64 ((k:Int)-1)∧Hid (Ext wa wr)) (fun i_ _ _ _ _=>l.length+3-(intOf i_+1).toNat)
    case atStart=>exact⟨0,zW _,rfl,yG (Ext.refl _)⟩
    case round=>
     obtain⟨j,hj,rfl,HXJ⟩:=hrel;obtain⟨wb,rfl⟩:∃wb:World,wb=wr:=⟨_,rfl⟩;have y0:wb.cell? ⟨g5,0,none⟩=some (.slice pA l.length ct):=(HBA.out.ext HXJ.out).cell 0;have y1:wb.cell? ⟨g5,1,none⟩=some (.slice pT nT cT):=(HBA.out.ext HXJ.out).cell 1;have y2:wb.cell? ⟨g5,2,none⟩=some (.slice pP nP cP):=(HBA.out.ext HXJ.out).cell 2;have y3:wb.cell? ⟨g5,3,none⟩=some (.slice (some ⟨bo,0,none⟩) l.length co):=(HBA.out.ext HXJ.out).cell 3
     by_cases hjl:j<l.length+2
     ·have e0:decide ((j:Int)-1≤(l.length:Int))=true:=yS (by omega)
      by_cases hj0:j=0
      ·subst hj0
       go_wp2_with fail
       refine(zEY l wb pA pT pP (some ⟨bo,0,none⟩) nT cT nP cP ct co l.length rfl (-1) (.inl (by decide))).mono ?_;rintro e wc ⟨A9,c9,rfl,_,_,hx9⟩;have HX9:=yG (HXJ.out.trans hx9);clear hx9 y0 y1 y2 y3
       go_wp2_with fail
       go_roundw
       case rel=>exact⟨1,by omega,by go_num,HX9⟩
       case measure=>first | (simp[intOf]; omega) | (simp[intOf]; done)
      obtain⟨k,rfl⟩:∃k,j=k+1:=⟨j-1,by omega⟩
      have ek:(((k+1:Nat):Int)-1)=(k:Int):=by omega
      rw[ek] at e0
      try rw[ek]
      have e1:decide ((k:Int)<0)=false:=yR (by omega)
      by_cases hkl:k=l.length
      ·have e2:((k:Int)==(l.length:Int))=true:=by rw[hkl]; exact beq_self_eq_true _
       have e2n:(k==l.length)=true:=by rw[hkl]; exact beq_self_eq_true _
       have HKL:=yG hkl;clear hkl
       go_wp2_with fail
       refine(zEY l wb pA pT pP (some ⟨bo,0,none⟩) nT cT nP cP ct co l.length rfl (k:Int) (.inr (by have:=HKL.out; omega))).mono ?_;rintro e wc ⟨A9,c9,rfl,_,_,hx9⟩;have HX9:=yG (HXJ.out.trans hx9);have y3':wc.cell? ⟨g5,3,none⟩=some (.slice (some ⟨bo,0,none⟩) l.length co):=(HBA.out.ext HX9.out).cell 3;clear hx9 y0 y1 y2 y3
       go_wp2_with fail
       go_roundw
       case rel=>exact⟨k+2,by omega,by go_num,HX9⟩
       case measure=>simp[intOf]; omega
      have hki:k<l.length:=by omega
      have e2:((k:Int)==(l.length:Int))=false:=beq_eq_false_iff_ne.2 (by omega);have e2n:(k==l.length)=false:=beq_eq_false_iff_ne.2 (by omega)
      go_wp2_with fail
      refine(zGF l of (fun i k hk=>by have:=HCO.out.F.right.up i k hk; rw[jF] at this; exact this) (fun i q hi=>by have:=HCO.out.F.few of i q (by rw[jF]; exact hi); rw[jF] at this; exact this) hlen HCO.out.kl pA pT pP (some ⟨bo,0,none⟩) nT cT nP cP ct co l.length rfl l.length k wb (by omega) hki (HPA.out.ext HXJ.out)).mono ?_;rintro e wc ⟨A9,c9,rfl,z9,hc9,hx9⟩;have HX9:=yG (HXJ.out.trans hx9);have HC9:=yG hc9;have HZ9:=yG z9;clear hx9 hc9 z9 y0 y1 y2 y3;have y0:wc.cell? ⟨g5,0,none⟩=some (.slice pA l.length ct):=(HBA.out.ext HX9.out).cell 0;have y1:wc.cell? ⟨g5,1,none⟩=some (.slice pT nT cT):=(HBA.out.ext HX9.out).cell 1;have y2:wc.cell? ⟨g5,2,none⟩=some (.slice pP nP cP):=(HBA.out.ext HX9.out).cell 2;have y3:wc.cell? ⟨g5,3,none⟩=some (.slice (some ⟨bo,0,none⟩) l.length co):=(HBA.out.ext HX9.out).cell 3;obtain⟨b9,o9,hA9,hb9,hcc9⟩:=(HPA.out.ext HX9.out).at_ k hki;subst hA9;obtain⟨nk,HNK⟩:∃nk,Hid ((xB (tN l) k).kind=nk):=⟨_,yG rfl⟩
      have x0:wc.cell? ⟨b9,o9+k*5,none⟩=some (.int .u8 (nk:Int)):=by rw[←HNK.out]; exact hcc9 0 (by decide)
      have qk:(k:Int)<(l.length:Int):=by omega
      clear hcc9
      by_cases h21:nk<21
      ·have e3:decide ((nk:Int)<21)=true:=yS (by omega);have HT0:Hid ((vD (tN l) of l.length k).length=0):=yG (by rw[zMO (by rw[HNK.out]; exact h21)]; rfl);generalize (vD (tN l) of l.length k).length=tn at *;have ht0:=HT0.out;subst ht0
       go_wp2_with fail
       go_roundw
       case rel=>exact⟨k+2,by omega,by go_num,HX9⟩
       case measure=>simp[intOf]; omega
      have e3:decide ((nk:Int)<21)=false:=yR (by omega)
      have hex:zAS (xB (tN l) k).kind:=by
       have h1:=HCO.out.F.le k (by rw[jF]; exact hki);have h2:=HNK.out;unfold zAS;omega
      have hvr:∀i,i<(tN l).length→(xB (tN l) i).kind=22→0≤of.getD i (-1)∧of.getD i (-1)<(vs.length:Int):=fun i hi h=>by
       rw[jF] at hi;rw[HVL.out];exact HCO.out.vars i hi h
      have HEX:=yG hex
      have HEV:Hid (EV.zA2 vs ((vD (tN l) of l.length k).map tmD)=(XA A64 (tN l) of vs l.length k,true)):=yG (by
       have h:=zHm HCO.out.F of vs hvr k (by rw[jF]; exact hki) hex
       rwa [jF] at h)
      have HTK:Hid (∀t ∈ (vD (tN l) of l.length k).map tmD,t.ok):=yG (zIN HCO.out.num (fun i h=>by
       have:=HCO.out.vars i (HCO.out.lt (by omega)) h
       exact⟨by omega,by omega⟩) _ _)
      have HMO:Hid (zOY (tN l) of vs):=yG ⟨HCO.out.F.right,HCO.out.F.exT,hvr⟩;have HTL:Hid ((vD (tN l) of l.length k).length≤9000):=yG (zMr HCO.out hki _);have HLM:Hid ((vD (tN l) of l.length k).length=((vD (tN l) of l.length k).map tmD).length):=yG (by rw[yQ]);clear hex hvr
      go_wp2_with fail
      refine(EV.zFz A9 (some ⟨gv,0,none⟩) ((vD (tN l) of l.length k).map tmD) vs _ 64 c9 64 _ _ wc HLM.out HVL.out.symm (by rw[←HLM.out]; exact HTL.out) (by rw[HVL.out]; decide) HC9.out (HCV.out.ext HX9.out) HTK.out HVO.out HEV).mono ?_;rintro e wd ⟨rfl,hxd⟩;have HXD:=yG (HX9.out.trans hxd);clear y0 y1 y2 y3 x0;have y0:wd.cell? ⟨g5,0,none⟩=some (.slice (some ⟨b9,o9,none⟩) l.length ct):=(HBA.out.ext HXD.out).cell 0;have y3:wd.cell? ⟨g5,3,none⟩=some (.slice (some ⟨bo,0,none⟩) l.length co):=(HBA.out.ext HXD.out).cell 3;clear hxd
      go_wp2_with fail
      refine(zEw l of vs HMO.out hlen HCO.out.kl (by rw[HVL.out]; decide) (some ⟨b9,o9,none⟩) (some ⟨bo,0,none⟩) (some ⟨gv,0,none⟩) ct co 64 l.length 64 rfl HVL.out.symm l.length k wd (by omega) hki HEX.out (HPA.out.ext HXD.out) (HCV.out.ext HXD.out)).mono ?_;rintro e we ⟨rfl,hxe⟩;have HXE:=yG (HXD.out.trans hxe);clear hxe y0 y3 HEV;generalize XA A64 (tN l) of vs l.length k=mv at *;have em:(mv != mv)=false:=bne_self_eq_false _
      go_wp2_with fail
      go_roundw
      case rel=>exact⟨k+2,by omega,by go_num,HXE⟩
      case measure=>simp[intOf]; omega
     ·have e0:decide ((j:Int)-1≤(l.length:Int))=false:=yR (by omega)
      go_wp2_with fail
      refine(zFK wb).mono ?_;rintro e wz ⟨rfl,hxz⟩
      go_wp2_with fail
      go_ret;exact⟨rfl,(HXA.out.trans HXJ.out).trans hxz⟩
end Go.Proofs.YtbadjmmjbpeocaaGreat
namespace Go.Proofs.YtbadjmmjbpeocaaGreat
open Go Go.RowKit Go.Deep Go.ChangeShapes Go.WideShapes
theorem bcells_bytesOf:∀(l:List Int),(∀x ∈ l,0≤x∧x<256)→vC (Lib.bytesOf l)=l.map (Value.int .u8)
 | [],_=>rfl
 | x::l,h=>by
  have hx:=h x (List.mem_cons_self ..);have ih:=bcells_bytesOf l (fun y hy=>h y (List.mem_cons_of_mem _ hy));unfold vC Lib.bytesOf at *;simp only[List.map_cons,List.map_map] at *;rw[ih]
  congr 2
  simp
  omega
theorem u8_wf {x:Int}(h:(Lit.int .u8 x).wf=true):0≤x∧x<256:=by
 have h1:IntKind.u8.min=0:=rfl;have h2:IntKind.u8.max=255:=rfl;simp only[Lit.wf,zG,zF] at h;omega
theorem open_bytes {H:Type}{enc:TypeId × Value→H}{w:World}{base:Nat}{spare:Nat→Bool}{held:Bool}{a:Option Addr}{len cap:Nat}{d:DataW H}{p:List MemPlace}(h:DataW.Trod enc Tryz.prog w base spare held 22 (.slice a len cap) d p) :
  ∃l:Bs,len=l.length∧(a=none→cap=0)∧Cells w a (vC l)∧len≤cap:=by
 obtain⟨l,h1,h2,h3,h4⟩:=zKy (k:=.u8) Tryz.underlying22 Tryz.underlying5 (by kernel_rfl) h;have hb:∀x ∈ l,0≤x∧x<256:=fun x hx=>u8_wf (h4 x hx);refine⟨Lib.bytesOf l,by unfold Lib.bytesOf; simpa using h1,h2,by rw[bcells_bytesOf l hb]; exact h3,?_⟩;obtain⟨fuel,hfu⟩:=h
 rcases DataW.trod_slice Tryz.underlying22 hfu with ⟨hcs,_⟩ | ⟨a',len',cap',_,_,_,_,hcs,_,_,hle,_⟩
 ·simp[Value.cells] at hcs;omega
 ·simp[Value.cells] at hcs;omega
end Go.Proofs.YtbadjmmjbpeocaaGreat
