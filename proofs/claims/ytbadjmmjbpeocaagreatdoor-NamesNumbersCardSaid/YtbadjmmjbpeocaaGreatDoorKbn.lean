/- interlocklaw07.NamesNumbers, walked: always true. (and what follows of it). The conditions stand at each lemma. -/
import Derived.Test.YtbadjmmjbpeocaaGreatDoorKaa
import Derived.Test.YtbadjmmjbpeocaaGreatDoorKbl
import Derived.Test.YtbadjmmjbpeocaaGreatDoorKbm
import Derived.Test.YtbadjmmjbpeocaaGreatDoorKbf
import Derived.Deep.RegionHeld3
import Derived.Test.YtbadjmmjbpeocaaGreatDoorKau
import Derived.Test.YtbadjmmjbpeocaaGreatDoorKab
set_option linter.unusedVariables false
set_option linter.unusedSimpArgs false
set_option maxRecDepth 100000
set_option maxHeartbeats 16000000
namespace Go.Proofs.YtbadjmmjbpeocaaGreatDoor
open Go Go.RowKit
structure PN (w:World)(At Ap:Option Addr)(bo:Nat)(th:List Hd2)(ps:List Pw)(s:Nr):Prop where
 zA2:Cells w At (JI s.xH th)
 thl:th.length=s.xH.length
 procs:Cells w Ap (zCk ps)
 psl:ps.map Prod.fst=s.procs
 vars:∀x ∈ ps,Cells w x.2.1 (strs x.1.vars)
 of:Cells w (some ⟨bo,0,none⟩) (ofc s.of)
theorem PN.ext {w w':World}{At Ap:Option Addr}{bo:Nat}{th:List Hd2}{ps:List Pw}{s:Nr}(h:PN w At Ap bo th ps s)(hx:Ext w w'):PN w' At Ap bo th ps s:=⟨h.zA2.ext hx,h.thl,h.procs.ext hx,h.psl,fun x hx'=>(h.vars x hx').ext hx,h.of.ext hx⟩
theorem PN.tab {w:World}{At Ap:Option Addr}{bo:Nat}{th:List Hd2}{ps:List Pw}{s:Nr}(h:PN w At Ap bo th ps s){q:Nat}{nm:Bs}(hq:(s.xH[q]?).map (·.name)=some nm):q<s.xH.length∧∃b off,At=some ⟨b,off,none⟩∧w.cell? ⟨b,off+q*2,none⟩=some (.string (xI nm)):=by
 obtain⟨x,hx,rfl⟩:=Option.map_eq_some_iff.1 hq;have hl:=(List.getElem?_eq_some_iff.1 hx).1;obtain⟨b,off,e,_,hc⟩:=h.zA2.at_ (by rw[zER _ _ h.thl]; omega);obtain⟨A,c,h1,_⟩:=zNk s.xH th h.thl q x hx;exact⟨hl,b,off,e,(hc (q*2) (by rw[zER _ _ h.thl]; omega)).trans h1⟩
theorem PN.proc {w:World}{At Ap:Option Addr}{bo:Nat}{th:List Hd2}{ps:List Pw}{s:Nr}(h:PN w At Ap bo th ps s){q:Nat}{p:Np}(hq:s.procs[q]?=some p):q<s.procs.length∧∃b off vA vc,Ap=some ⟨b,off,none⟩∧w.cell? ⟨b,off+q*5,none⟩=some (.string (xI p.name))∧w.cell? ⟨b,off+q*5+2,none⟩=some (.slice vA p.vars.length vc)∧w.cell? ⟨b,off+q*5+4,none⟩=some (.int .i64 (p.root:Int))∧Cells w vA (strs p.vars):=by
 have hl:=(List.getElem?_eq_some_iff.1 hq).1
 have hpl:ps.length=s.procs.length:=by rw[←h.psl,yQ]
 have hql:q<ps.length:=by omega
 have hp:(ps[q]).1=p:=by
  have e:=hq;rw[←h.psl,zN,yJ hql] at e;injection e
 obtain⟨b,off,e,_,hc⟩:=h.procs.at_ (by rw[zAW]; omega);have key:∀j,j<5→w.cell? ⟨b,off+(q*5+j),none⟩=(prc ps[q])[j]?:=fun j hj=>(hc (q*5+j) (by rw[zAW]; omega)).trans (zCU ps q hql j hj);have hv:=h.vars ps[q] (yO hql);rw[hp] at hv;refine⟨hl,b,off,(ps[q]).2.1,(ps[q]).2.2,e,?_,?_,?_,hv⟩
 ·have:=key 0 (by decide)
  rw[Nat.add_zero] at this;rw[this]
  show some (Value.string (xI ps[q].1.name))=_
  rw[hp]
 ·rw[Nat.add_assoc,key 2 (by decide)]
  show some (Value.slice ps[q].2.1 ps[q].1.vars.length ps[q].2.2)=_
  rw[hp]
 ·rw[Nat.add_assoc,key 4 (by decide)]
  show some (Value.int .i64 (ps[q].1.root:Int))=_
  rw[hp]
theorem zTY {w:World}{A:Option Addr}{l:List Bs}(h:Cells w A (strs l)){n:Nat}{x:Bs}(hn:l[n]?=some x):∃b off,A=some ⟨b,off,none⟩∧n<l.length∧w.cell? ⟨b,off+n,none⟩=some (.string (xI x)):=by
 obtain⟨hl,hx⟩:=List.getElem?_eq_some_iff.1 hn;obtain⟨b,off,e,_,hc⟩:=h.at_ (by simp[strs]; omega);exact⟨b,off,e,hl,by rw[hc n (by simp[strs]; exact hl),zO8 l n hl,hx]⟩
theorem zVd {w:World}{bo:Nat}{l:List Int}(h:Cells w (some ⟨bo,0,none⟩) (ofc l)){k:Nat}(hk:k<l.length):bo<w.heap.size∧w.cell? ⟨bo,k,none⟩=some (.int .i64 (l.getD k (-1))):=by
 obtain⟨b,off,e,hb,hc⟩:=h.at_ (by simp[ofc]; omega);injection e with e;injection e with e1 e2;subst e1; subst e2
 exact⟨hb,by
  have h1:=hc k (by simp[ofc]; exact hk);rw[Nat.zero_add] at h1;rw[h1]
  simp[ofc,yH,hk]⟩
theorem zGt (A:Option Addr)(src:Bs)(n c:Nat)(w:World)(hG:GT w)(hn:n=src.length)(hcap:src.length≤c)(hnil:A=none→c=0)(hC:Cells w A (vB src)) :
  Calls Tryz.prog 3 #[.slice A n c] w fun e w'=>e=.returned (.bool true)∧Ext w w':=by
 subst hn;have HC:=yG hC;have HG:=yG hG;clear hC hG
 by_cases h1500:1500<src.length
 ·have d0:decide ((1500:Int)<(src.length:Int))=true:=yS (by omega)
  go_enter Tryz.func3,Tryz.ntmps3
  go_wp2_with fail
  refine(zDM w HG.out).mono ?_;rintro e w' ⟨rfl,hx⟩
  go_wp2_with fail
  go_ret;exact⟨rfl,hx⟩
 have d0:decide ((1500:Int)<(src.length:Int))=false:=yR (by omega);have d0n:decide (1500<src.length)=false:=yR (by omega)
 cases hr:zBc src with
 | err a er=>
  have HR:=yG hr;clear hr
  go_enter Tryz.func3,Tryz.ntmps3
  go_wp2_with fail
  refine(zPS A src src.length c w rfl (by omega) hcap hnil HC.out a er HR.out).mono ?_;rintro e w2 ⟨g2,rfl,_,_,hx2⟩;have HX2:=yG hx2;clear hx2
  go_upto_region 4 with fail
  have HX3:=yG (HX2.out.trans (Ext.alloc w2 (.cells #[.slice none 0 0] 26)));generalize w2.alloc (.cells #[.slice none 0 0] 26)=w3 at *
  go_wp2_with fail
  refine(zDM w3 (HG.out.ext HX3.out)).mono ?_;rintro e w' ⟨rfl,hx⟩
  go_wp2_with fail
  go_ret;exact⟨rfl,HX3.out.trans hx⟩
 | ok nd=>
  have HR:=yG hr;clear hr
  go_enter Tryz.func3,Tryz.ntmps3
  go_wp2_with fail
  refine(zI2 A src src.length c w rfl (by omega) hcap hnil HC.out nd HR.out).mono ?_;rintro e w2 ⟨A2,c2,nh,rfl,rfl,hns,hx2⟩;obtain⟨hs1,hs2,hs3,hs4⟩:=zSP HR.out (by omega);have HT2:=yG (hns.toT hs4);have HTR2:=yG hns.tr;have hz2:A2=none→c2=0:=zF1 hns.row;have HX2:=yG hx2;clear hx2 hns
  go_upto_region 4 with fail
  have hx3:Ext w2 (w2.alloc (.cells #[.slice A2 nh.length c2] 26)):=Ext.alloc _ _;have HX3:=yG (HX2.out.trans hx3);have HT3:=yG (HT2.out.ext hx3);have HTR3:=yG (HTR2.out.ext hx3);have HB3:=yG (Blk.new w2 26 #[.slice A2 nh.length c2]);generalize w2.heap.size=g3 at *;generalize w2.alloc (.cells #[.slice A2 nh.length c2] 26)=w3 at *;have HS:=yG (show(∀x ∈ nh.map toT,TT.zC0 x)∧∀x ∈ nh.map toT,-9223372036854775808≤x.pos∧x.pos≤9223372036854775807 from⟨hs2,hs3⟩);have HLN:Hid (nh.length=(nh.map toT).length):=yG (by rw[yQ]);have q3:w3.cell? ⟨g3,0,none⟩=some (.slice A2 nh.length c2):=HB3.out.cell 0
  have hnl:nh.length≤9000:=by rw[yQ] at hs1; exact hs1
  clear hx3 hs2 hs3 hs4
  go_wp2_with fail
  refine(zD9 A src src.length c rfl A2 (nh.map toT) nh.length c2 HLN.out w3 (by omega) hcap (HC.out.ext HX3.out) HT3.out hz2 hs1 HS.out.1 HS.out.2).mono ?_;intro e w5 hpost
  have hcs:(∃t v,e=.returned (.tuple #[.agg #[.slice none 0 0,.slice none 0 0,.slice none 0 0,.slice none 0 0],.iface t v])∧Ext w3 w5) ∨
    ∃(s:Nr) (pA At Ap:Option Addr) (th:List Hd2) (ps:List Pw) (bo ct cT cP co:Nat),e=.returned (.tuple #[.agg #[.slice pA nh.length ct,.slice At s.xH.length cT,.slice Ap s.procs.length cP,.slice (some ⟨bo,0,none⟩) nh.length co],.nilIface])∧Ext w3 w5∧PN w5 At Ap bo th ps s∧s.of.length=nh.length∧∀i,i<nh.length→zUn (nh.map Prod.fst) s i:=by
   split at hpost
   ·rename_i hrt;obtain⟨hX,hx,hres⟩:=hpost;rw[zLG] at hres
    cases hq:jK (nh.map Prod.fst) with
    | ok s=>
     rw[hq] at hres;obtain⟨v,rfl,hv⟩:=hres;obtain⟨M,A',At,Ap,l',th,ps,bo,ct,cT,cP,co,rfl,hp,htn,_⟩:=hv.out;have hF:=zRW hrt HS.out.1;rw[zLG] at hF;have hRT:=zMs hF.tree hq;refine .inr ⟨s,A',At,Ap,th,ps,bo,ct,cT,cP,co,by rw[HLN.out],hx,⟨hp.zA2.cells,hp.thl,hp.procs.cells,hp.psl,fun x hx=>(hp.vars x hx).cells,hp.of.cells⟩,?_,fun i hi=>zSa hF hRT (by rw[yQ]; exact hi)⟩
     have:=hRT.len
     rwa [yQ] at this
    | err i er=>
     rw[hq] at hres;obtain⟨g,rfl,_⟩:=hres;exact .inl ⟨_,_,rfl,hx⟩
   ·obtain⟨rfl,hx⟩:=hpost;exact .inl ⟨_,_,rfl,hx⟩
  clear hpost q3 HT3 HT2
  rcases hcs with ⟨t,v,rfl,hx5⟩ | ⟨s,pA,At,Ap,th,ps,bo,ct,cT,cP,co,rfl,hx5,hpn,hol,hnf⟩
  ·have HX5:=yG (HX3.out.trans hx5);clear hx5
   go_upto_region 7 with fail
   have HX6:=yG (HX5.out.trans (Ext.alloc w5 (.cells #[.slice none 0 0,.slice none 0 0,.slice none 0 0,.slice none 0 0] 35)));have HB6:=yG (Blk.new w5 35 #[.slice none 0 0,.slice none 0 0,.slice none 0 0,.slice none 0 0]);generalize w5.heap.size=g5 at *;generalize w5.alloc (.cells #[.slice none 0 0,.slice none 0 0,.slice none 0 0,.slice none 0 0] 35)=w6 at *;have y0:w6.cell? ⟨g5,0,none⟩=some (.slice none 0 0):=HB6.out.cell 0;have y1:w6.cell? ⟨g5,1,none⟩=some (.slice none 0 0):=HB6.out.cell 1;have y2:w6.cell? ⟨g5,2,none⟩=some (.slice none 0 0):=HB6.out.cell 2;have y3:w6.cell? ⟨g5,3,none⟩=some (.slice none 0 0):=HB6.out.cell 3
   go_wp2_with fail
   refine(zDM w6 (HG.out.ext HX6.out)).mono ?_;rintro e w' ⟨rfl,hx⟩
   go_wp2_with fail
   go_ret;exact⟨rfl,HX6.out.trans hx⟩
  ·have HX5:=yG (HX3.out.trans hx5);have HTR5:=yG (HTR3.out.ext hx5);have HB5:=yG (HB3.out.ext hx5);have HPN:=yG hpn;have HNF:=yG hnf;have HOL:=yG hol;clear hx5 hpn hnf hol HTR3 HTR2 HB3
   go_upto_region 7 with fail
   have hx6:Ext w5 (w5.alloc (.cells #[.slice pA nh.length ct,.slice At s.xH.length cT,.slice Ap s.procs.length cP,.slice (some ⟨bo,0,none⟩) nh.length co] 35)):=Ext.alloc _ _;have HX6:=yG (HX5.out.trans hx6);have HTR6:=yG (HTR5.out.ext hx6);have HB6:=yG (HB5.out.ext hx6);have HP6:=yG (HPN.out.ext hx6);have HQ6:=yG (Blk.new w5 35 #[.slice pA nh.length ct,.slice At s.xH.length cT,.slice Ap s.procs.length cP,.slice (some ⟨bo,0,none⟩) nh.length co]);clear hx6 HTR5 HB5 HPN;generalize w5.heap.size=g5 at *;generalize w5.alloc (.cells #[.slice pA nh.length ct,.slice At s.xH.length cT,.slice Ap s.procs.length cP,.slice (some ⟨bo,0,none⟩) nh.length co] 35)=w6 at *
   go_wp2_with fail
   go_loopw [7,8] (fun in_ i_ wr=>∃(k:Nat) (v:Int),k≤nh.length∧i_=.int .i64 k∧in_=.int .i64 v∧Hid (∀r,zE8 (nh.map Prod.fst) k=some r→v=s.of.getD r (-1))∧Hid (Ext w6 wr)) (fun _ i_ _=>nh.length-(intOf i_).toNat)
   case atStart=>exact⟨0,-1,zW _,rfl,rfl,yG (fun r h=>by cases h),yG (Ext.refl _)⟩
   case round=>
    obtain⟨k,v,hk,rfl,rfl,HIN,HX⟩:=hrel;obtain⟨wa,rfl⟩:∃wa:World,wa=wr:=⟨_,rfl⟩;have x0:wa.cell? ⟨g3,0,none⟩=some (.slice A2 nh.length c2):=(HB6.out.ext HX.out).cell 0;have x3:wa.cell? ⟨g5,3,none⟩=some (.slice (some ⟨bo,0,none⟩) nh.length co):=(HQ6.out.ext HX.out).cell 3
    by_cases hlt:k<nh.length
    ·have q1:(k:Int)<(nh.length:Int):=by omega
     obtain⟨b2,o2,rfl,hb2,hc2⟩:=(HTR6.out.ext HX.out).at (by omega);have HND:=yG (HNF.out k hlt);obtain⟨hbo,ho0⟩:=zVd (HP6.out.ext HX.out).of (k:=k) (by rw[HOL.out]; exact hlt);obtain⟨ov,HOV⟩:∃ov,Hid (s.of.getD k (-1)=ov):=⟨_,yG rfl⟩;rw[HOV.out] at ho0
     have hnk:xC (nh.map Prod.fst) k=(nh[k]).1:=by
      unfold xC;rw[yH,zN,yJ hlt]
      rfl
     obtain⟨x,HXK⟩:∃x,Hid (nh[k]=x):=⟨_,yG rfl⟩;rw[HXK.out] at hnk;have key:=fun j (hj:j<5)=>hc2 k hlt j hj;rw[HXK.out] at key;obtain⟨⟨nk,np,nt,nn,ks⟩,kA,kc⟩:=x;have HNK:=yG hnk;have c0:wa.cell? ⟨b2,o2+k*5,none⟩=some (.int .u8 (nk:Int)):=key 0 (by decide)
     have c1:wa.cell? ⟨b2,o2+k*5+1,none⟩=some (.int .i64 (np:Int)):=by rw[Nat.add_assoc]; exact key 1 (by decide)
     have c2':wa.cell? ⟨b2,o2+k*5+2,none⟩=some (.string (xI nt)):=by rw[Nat.add_assoc]; exact key 2 (by decide)
     have c3:wa.cell? ⟨b2,o2+k*5+3,none⟩=some (.int .i64 nn):=by rw[Nat.add_assoc]; exact key 3 (by decide)
     have c4:wa.cell? ⟨b2,o2+k*5+4,none⟩=some (.slice kA ks.length kc):=by rw[Nat.add_assoc]; exact key 4 (by decide)
     have g3l:g3<wa.heap.size:=(HB6.out.ext HX.out).lt;have g5l:g5<wa.heap.size:=(HQ6.out.ext HX.out).lt;clear hc2 key hnk
     go_upto_region 13 with fail
     go_region_held3 (fun w'=>w'.cell? ⟨g3,0,none⟩=some (.slice (some ⟨b2,o2,none⟩) nh.length c2)∧w'.cell? ⟨b2,o2+k*5,none⟩=some (.int .u8 (nk:Int))∧w'.cell? ⟨b2,o2+k*5+1,none⟩=some (.int .i64 (np:Int))∧w'.cell? ⟨b2,o2+k*5+2,none⟩=some (.string (xI nt))∧w'.cell? ⟨b2,o2+k*5+3,none⟩=some (.int .i64 nn)∧w'.cell? ⟨b2,o2+k*5+4,none⟩=some (.slice kA ks.length kc)∧w'.cell? ⟨g5,3,none⟩=some (.slice (some ⟨bo,0,none⟩) nh.length co)∧w'.cell? ⟨bo,k,none⟩=some (.int .i64 ov))
      (go_keep)
      (fail)
     have hx9:Ext wa (wa.alloc (.cells #[.int .u8 (nk:Int),.int .i64 (np:Int),.string (xI nt),.int .i64 nn,.slice kA ks.length kc] 39)).drew:=Below.drew (Ext.alloc _ _);have HB9:Hid (Blk (wa.alloc (.cells #[.int .u8 (nk:Int),.int .i64 (np:Int),.string (xI nt),.int .i64 nn,.slice kA ks.length kc] 39)).drew wa.heap.size 39 #[.int .u8 (nk:Int),.int .i64 (np:Int),.string (xI nt),.int .i64 nn,.slice kA ks.length kc]):=yG (Blk.new _ _ _);have HX9:=yG (HX.out.trans hx9);clear hx9 c0 c1 c2' c3 c4 x0 x3 ho0 hbo hb2 g3l g5l;generalize hgw:(wa.alloc (.cells #[.int .u8 (nk:Int),.int .i64 (np:Int),.string (xI nt),.int .i64 nn,.slice kA ks.length kc] 39)).drew=w9 at *;generalize wa.heap.size=g9 at *;clear hgw;have HP9:=yG (HP6.out.ext HX9.out);have z0:w9.cell? ⟨g9,0,none⟩=some (.int .u8 (nk:Int)):=HB9.out.cell 0;have z2:w9.cell? ⟨g9,2,none⟩=some (.string (xI nt)):=HB9.out.cell 2;have y1:w9.cell? ⟨g5,1,none⟩=some (.slice At s.xH.length cT):=(HQ6.out.ext HX9.out).cell 1;have y2:w9.cell? ⟨g5,2,none⟩=some (.slice Ap s.procs.length cP):=(HQ6.out.ext HX9.out).cell 2
     by_cases h3:nk=3
     ·subst h3;obtain⟨q,pr,e1,e2,e3,e4⟩:=HND.out.proc (by rw[HNK.out]);rw[HNK.out] at e3;rw[HOV.out] at e1;subst e1;obtain⟨hql,pb,po,vA,vc,rfl,f0,_,f4,_⟩:=HP9.out.proc e2;rw[e3] at f0;rw[e4] at f4
      have HL1:Hid (∀r,zE8 (nh.map Prod.fst) (k+1)=some r→(q:Int)=s.of.getD r (-1)):=yG fun r hr=>by
       unfold zE8 at hr;rw[if_pos (by rw[HNK.out])] at hr;injection hr with hr;subst hr;exact HOV.out.symm
      have d1:decide ((q:Int)<0)=false:=yR (by omega);have d2:decide ((s.procs.length:Int)≤(q:Int))=false:=yR (by omega);have d2n:decide (s.procs.length≤q)=false:=yR (by omega)
      have q2:(q:Int)<(s.procs.length:Int):=by omega
      clear e2 e3 e4 hql
      simp only at f0 f4
      go_upto_region 17 with fail
      go_quiet (fail)
      rename_i nq;have HX10:Hid (Ext w6 (w9.drewN nq)):=yG (HX9.out.trans ⟨rfl,rfl,rfl,zX _,fun _ _=>rfl⟩);generalize w9.drewN nq=w10 at *
      go_wp2_with fail
      go_roundw
      case rel=>exact⟨k+1,(q:Int),by omega,by go_num,rfl,HL1,HX10⟩
      case measure=>simp[intOf]; omega
     have HL1:Hid (∀r,zE8 (nh.map Prod.fst) (k+1)=some r→v=s.of.getD r (-1)):=yG fun r hr=>by
      unfold zE8 at hr;rw[if_neg (by rw[HNK.out]; exact h3)] at hr;exact HIN.out r hr
     have k3:((nk:Int)==3)=false:=beq_eq_false_iff_ne.2 (by omega)
     by_cases h2:nk=2∨nk=20
     ·obtain⟨q,e1,e2⟩:=HND.out.tab (by rw[HNK.out]; exact h2);rw[HNK.out] at e2;rw[HOV.out] at e1;subst e1;obtain⟨hql,tb,to,rfl,f0⟩:=HP9.out.tab e2;have d1:decide ((q:Int)<0)=false:=yR (by omega);have d2:decide ((s.xH.length:Int)≤(q:Int))=false:=yR (by omega);have d2n:decide (s.xH.length≤q)=false:=yR (by omega)
      have q2:(q:Int)<(s.xH.length:Int):=by omega
      clear e2 hql
      simp only at f0
      rcases h2 with rfl | rfl
      all_goals
       go_upto_region 21 with fail
       go_quiet (fail)
       rename_i nq;have HX10:Hid (Ext w6 (w9.drewN nq)):=yG (HX9.out.trans ⟨rfl,rfl,rfl,zX _,fun _ _=>rfl⟩);generalize w9.drewN nq=w10 at *
       go_wp2_with fail
       go_roundw
       case rel=>exact⟨k+1,v,by omega,by go_num,rfl,HL1,HX10⟩
       case measure=>simp[intOf]; omega
     by_cases hv:nk=22∨nk=7∨nk=11∨nk=16∨nk=15
     ·obtain⟨r,m,n,pr,e0,e1,e2,e3,e4⟩:=HND.out.var (by rw[HNK.out]; show zDq nk; unfold zDq; omega);rw[HNK.out] at e4;rw[HOV.out] at e3;have ev:=(HIN.out r e0).trans e1;subst e3; subst ev;obtain⟨hml,pb,po,vA,vc,rfl,_,f2,_,fv⟩:=HP9.out.proc e2;obtain⟨vb,vo,rfl,hnl,f5⟩:=zTY fv e4;have d1:decide ((m:Int)<0)=false:=yR (by omega);have d2:decide ((n:Int)<0)=false:=yR (by omega);have d3:decide ((pr.vars.length:Int)≤(n:Int))=false:=yR (by omega);have d3n:decide (pr.vars.length≤n)=false:=yR (by omega)
      have q2:(m:Int)<(s.procs.length:Int):=by omega
      have q3:(n:Int)<(pr.vars.length:Int):=by omega
      clear e0 e1 e2 e4 fv hml hnl
      simp only at f2 f5
      generalize pr.vars.length=vl at *
      rcases hv with rfl | rfl | rfl | rfl | rfl
      all_goals
       go_upto_region 28 with fail
       go_quiet (fail)
       rename_i nq;have HX10:Hid (Ext w6 (w9.drewN nq)):=yG (HX9.out.trans ⟨rfl,rfl,rfl,zX _,fun _ _=>rfl⟩);generalize w9.drewN nq=w10 at *
       go_wp2_with fail
       go_roundw
       case rel=>exact⟨k+1,(m:Int),by omega,by go_num,rfl,HL1,HX10⟩
       case measure=>simp[intOf]; omega
     have k2:((nk:Int)==2)=false:=beq_eq_false_iff_ne.2 (by omega);have k20:((nk:Int)==20)=false:=beq_eq_false_iff_ne.2 (by omega);have k22:((nk:Int)==22)=false:=beq_eq_false_iff_ne.2 (by omega);have k7:((nk:Int)==7)=false:=beq_eq_false_iff_ne.2 (by omega);have k11:((nk:Int)==11)=false:=beq_eq_false_iff_ne.2 (by omega);have k16:((nk:Int)==16)=false:=beq_eq_false_iff_ne.2 (by omega);have k15:((nk:Int)==15)=false:=beq_eq_false_iff_ne.2 (by omega)
     go_wp2_with fail
     go_roundw
     case rel=>exact⟨k+1,v,by omega,by go_num,rfl,HL1,HX9⟩
     case measure=>simp[intOf]; omega
    ·obtain rfl:k=nh.length:=by omega
     have d1:decide ((nh.length:Int)<(nh.length:Int))=false:=by simp
     have HXE:=yG (HX6.out.trans HX.out)
     go_wp2_with fail
     refine(zDM wa (HG.out.ext HXE.out)).mono ?_;rintro e w' ⟨rfl,hx⟩
     go_wp2_with fail
     go_ret;exact⟨rfl,HXE.out.trans hx⟩
end Go.Proofs.YtbadjmmjbpeocaaGreatDoor
namespace Go.Proofs.YtbadjmmjbpeocaaGreatDoor
open Go Go.RowKit Go.Deep Go.ChangeShapes Go.WideShapes
theorem zEF:∀(l:List Int),(∀x ∈ l,0≤x∧x<256)→vB (Lib.bytesOf l)=l.map (Value.int .u8)
 | [],_=>rfl
 | x::l,h=>by
  have hx:=h x (List.mem_cons_self ..);have ih:=zEF l (fun y hy=>h y (List.mem_cons_of_mem _ hy));unfold vB Lib.bytesOf at *;simp only[List.map_cons,List.map_map] at *;rw[ih]
  congr 2
  simp
  omega
theorem zU4 {x:Int}(h:(Lit.int .u8 x).wf=true):0≤x∧x<256:=by
 have h1:IntKind.u8.min=0:=rfl;have h2:IntKind.u8.max=255:=rfl;simp only[Lit.wf,zG,zF] at h;omega
theorem zOt {H:Type}{enc:TypeId × Value→H}{w:World}{base:Nat}{spare:Nat→Bool}{held:Bool}{a:Option Addr}{len cap:Nat}{d:DataW H}{p:List MemPlace}(h:DataW.Trod enc Tryz.prog w base spare held 22 (.slice a len cap) d p) :
  ∃l:Bs,len=l.length∧(a=none→cap=0)∧Cells w a (vB l)∧len≤cap:=by
 obtain⟨l,h1,h2,h3,h4⟩:=zP2 (k:=.u8) Tryz.underlying22 Tryz.underlying5 (by kernel_rfl) h;have hb:∀x ∈ l,0≤x∧x<256:=fun x hx=>zU4 (h4 x hx);refine⟨Lib.bytesOf l,by unfold Lib.bytesOf; simpa using h1,h2,by rw[zEF l hb]; exact h3,?_⟩;obtain⟨fuel,hfu⟩:=h
 rcases DataW.trod_slice Tryz.underlying22 hfu with ⟨hcs,_⟩ | ⟨a',len',cap',_,_,_,_,hcs,_,_,hle,_⟩
 ·simp[Value.cells] at hcs;omega
 ·simp[Value.cells] at hcs;omega
end Go.Proofs.YtbadjmmjbpeocaaGreatDoor
