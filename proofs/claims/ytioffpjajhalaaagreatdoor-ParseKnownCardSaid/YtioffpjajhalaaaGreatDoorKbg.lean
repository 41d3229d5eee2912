/- The document's word, number. (and what follows of it). The conditions stand at each lemma. -/
import Derived.Test.YtioffpjajhalaaaGreatDoorKaa
import Derived.Test.YtioffpjajhalaaaGreatDoorKbb
import Derived.Deep.RegionHeld3
import Derived.Test.YtioffpjajhalaaaGreatDoorKbf
set_option linter.unusedVariables false
set_option linter.unusedSimpArgs false
set_option maxRecDepth 100000
set_option maxHeartbeats 16000000
namespace Go.Proofs.YtioffpjajhalaaaGreatDoor
open Go Go.RowKit
theorem VE (w:World)(p B:Nat)(r:Rs)(R:vJ)(i:Nat)(h:QS w p B r R)(hi:i<r.s.nd.length)(hb:r.phi≤1800000) :
  Calls Tryz.prog 125 #[.pointer (some ⟨p,0,none⟩),.int .i64 (i:Int)] w fun e w'=>e=.returned (.tuple #[])∧jO w p B R (vW i r) w':=by
 have HB:=yE hb;have HI:=yE hi;have H0:=yE (xG.refl h);clear h hb hi
 go_enter Tryz.func125,Tryz.ntmps125
 go_wp2_with fail
 refine(jK _ p B _ R (i) H0.out.qs (HI.out) (JU (H0.out.bound HB.out (by omega)))).mono ?_;rintro e AH ⟨rfl,AF,hk,hm⟩;have HK:=yE (And.intro hk hm);clear hk hm
 go_wp2_with fail
 refine(jA _ p B _ AF (i) 5 HK.out.1 (H0.out.bound HB.out (by omega))).mono ?_;rintro e w1 ⟨rfl,hp⟩;obtain⟨R1,H1⟩:=xG.yX H0 HK hp;clear hp HK
 go_wp2_with fail
 obtain⟨g1,AD,hA,AG,AC⟩:=H1.out.qs.YC (i:=r.s.nd.length) (by rw[show(r.yX i 5).s.nd.length=r.s.nd.length+1 from xR r.s i 5]; omega);have x3:=H1.out.qs.x3 hA;have AB:=yE hA;have q0:(0:Int)≤((r.s.nd.length:Nat):Int):=Int.natCast_nonneg _
 have q1:((r.s.nd.length:Nat):Int)<(R1.nh.length:Int):=by omega
 clear hA
 go_region_held3 (fun w'=>w'.cell? ⟨p,3,none⟩=some (.slice (some ⟨g1,0,none⟩) R1.nh.length R1.c))
  (first
   | assumption
   | go_keep
   | exact AE _)
  (first
   | (go_at_call 123; refine(zBk _ p B _ R1 (H1.out.qs.ext (by first | exact Ext.refl _ | exact Below.drew (Below.refl _ _)))).mono ?_; rintro e AA ⟨rfl,I1,hq,hm⟩; have y1:AA.cell? ⟨p,3,none⟩=some (.slice (some ⟨g1,0,none⟩) R1.nh.length R1.c):=hq.x3 AB.out; have HN:=yE (And.intro hq hm); have c2:AA.cell? ⟨g1,r.s.nd.length*5+2,none⟩=some (.string (xE (R1.nh[r.s.nd.length]'AD).1.text)):=(hq.jP _ AD AB.out 2 (by decide)); have z2:AA.frozen? ⟨g1,r.s.nd.length*5+2,none⟩=false:=hq.JZ _ AB.out; have AE:∀u,(AA.setCell ⟨g1,r.s.nd.length*5+2,none⟩ u).cell? ⟨p,3,none⟩=some (.slice (some ⟨g1,0,none⟩) R1.nh.length R1.c):=fun u=>(World.cell?_of_block (w:=AA) (a:=⟨p,3,none⟩) (zQ AA ⟨g1,r.s.nd.length*5+2,none⟩ u p (fun e=>AC e.symm))).trans y1; clear hq hm)
   | (fail))
 obtain⟨R2,H2⟩:=xG.named (i:=r.s.nd.length) (g:=g1) H1 HN.out.1 ((yZ.ext (by first | exact Ext.refl _ | exact Below.drew (Below.refl _ _))).trans HN.out.2) AD AB.out;clear c2 z2 y1 AE x3 q0 q1 HN;generalize AA.setCell ⟨g1,r.s.nd.length*5+2,none⟩ (.string (xE (Rs.zAz (Rs.yX r (i) 5))))=w2 at *
 go_wp2_with fail
 go_end0;exact⟨rfl,H2.out.post⟩
theorem zHw (w:World)(p B:Nat)(r:Rs)(R:vJ)(i:Nat)(h:QS w p B r R)(hi:i<r.s.nd.length)(hb:r.phi≤1800000) :
  Calls Tryz.prog 189 #[.pointer (some ⟨p,0,none⟩),.int .i64 (i:Int)] w fun e w'=>e=.returned (.tuple #[])∧jO w p B R (zAi i r) w':=by
 have HB:=yE hb;have HI:=yE hi;have H0:=yE (xG.refl h);clear h hb hi
 go_enter Tryz.func189,Tryz.ntmps189
 go_wp2_with fail
 refine(jK _ p B _ R (i) H0.out.qs (HI.out) (JU (H0.out.bound HB.out (by omega)))).mono ?_;rintro e AM ⟨rfl,AL,hk,hm⟩;have HK:=yE (And.intro hk hm);clear hk hm
 go_wp2_with fail
 refine(jA _ p B _ AL (i) 21 HK.out.1 (H0.out.bound HB.out (by omega))).mono ?_;rintro e w1 ⟨rfl,hp⟩;obtain⟨R1,H1⟩:=xG.yX H0 HK hp;clear hp HK;have x0:=H1.out.qs.x0;have x1:=H1.out.qs.x1;have x4:=H1.out.qs.x4;have t0:w1.cell? ⟨R1.bt,R1.o0+R1.I*5,none⟩=some (.int .u8 ((r.yX i 21).s.hd.kind:Int)):=H1.out.qs.tok 0 (by decide);have t4:w1.cell? ⟨R1.bt,R1.o0+R1.I*5+4,none⟩=some (.int .i64 (r.yX i 21).s.hd.n):=H1.out.qs.tok 4 (by decide);have AA:=H1.out.qs.few;have AB:=H1.out.qs.yY.last.pos;have qp:=H1.out.qs.pos;obtain⟨ee,AD⟩:∃x,x=(r.yX i 21).e:=⟨_,rfl⟩;obtain⟨kk,AC⟩:∃x,x=(r.yX i 21).s.hd.kind:=⟨_,rfl⟩;rw[←AD] at x4;rw[←AC] at t0;have HC:Hid (((r.yX i 21).e==0&&(r.yX i 21).s.hd.kind==2)=(ee==0&&kk==2)):=yE (by rw[AD,AC])
 by_cases hc:ee=0∧kk=2
 ·obtain⟨rfl,rfl⟩:=hc;have HR:Hid (zAi i r=((r.yX i 21).num r.s.nd.length (r.yX i 21).s.hd.n).adv):=yE (by unfold zAi; dsimp only; rw[HC.out]; rfl);have AJ:Hid ((r.yX i 21).s.hd.kind≠4):=yE (by rw[←AC]; decide);clear AD AC HC
  go_wp2_with fail
  go_quiet (fail)
  rename_i nq;have H2:=xG.drew H1 nq;clear x0 x1 x4 t0 t4;generalize w1.drewN nq=w2 at *;obtain⟨g2,AE,hA,AI,AG⟩:=H2.out.qs.YC (i:=r.s.nd.length) (by rw[show(r.yX i 21).s.nd.length=r.s.nd.length+1 from xR r.s i 21]; omega);have x3:=H2.out.qs.x3 hA;have AF:=yE hA;have q0:(0:Int)≤((r.s.nd.length:Nat):Int):=Int.natCast_nonneg _
  have q1:((r.s.nd.length:Nat):Int)<(R1.nh.length:Int):=by omega
  clear hA;have c3:w2.cell? ⟨g2,r.s.nd.length*5+3,none⟩=some (.int .i64 (R1.nh[r.s.nd.length]'AE).1.num):=(H2.out.qs.jP _ AE AF.out 3 (by decide));have z3:=H2.out.qs.JZ (r.s.nd.length*5+3) AF.out;have x0:=H2.out.qs.x0;have x1:=H2.out.qs.x1;have t4:w2.cell? ⟨R1.bt,R1.o0+R1.I*5+4,none⟩=some (.int .i64 (r.yX i 21).s.hd.n):=H2.out.qs.tok 4 (by decide)
  go_wp2_with fail
  go_region
  obtain⟨R3,H3⟩:=xG.num (i:=r.s.nd.length) (g:=g2) H2 ((r.yX i 21).s.hd.n) AE AF.out;clear c3 z3 x3 q0 q1;generalize w2.setCell ⟨g2,r.s.nd.length*5+3,none⟩ (.int .i64 ((r.yX i 21).s.hd.n))=w3 at *;clear x0 x1 t4 AA AB qp;have x1:=H3.out.qs.x1;have AH:=H3.out.qs.blk.frozen 1;have AA:=H3.out.qs.few;have AB:=H3.out.qs.yY.last.pos
  go_wp2_with fail
  have H4:=xG.adv H3 (AJ.out);clear x1 AH AA AB;generalize w3.setCell ⟨p,1,none⟩ (.int .i64 ((R3.I:Int)+1))=w4 at *;generalize { R3 with I:=R3.I+1 } = R4 at *;have H5:=H4.out.qs.ext (Below.drew (Below.refl _ _));have M5:=H4.out.mv.trans (yZ.ext (M:=xI p R4) (Below.drew (Below.refl _ _)));go_end0;rw[HR.out];exact⟨rfl,R4,H5,M5⟩
 ·have HR:Hid (zAi i r=(r.yX i 21).fail 50):=yE (by
   have e:(ee==0&&kk==2)=false:=by
    cases h1:(ee==0&&kk==2) with
    | false=>rfl
    | true=>
     rw[zF,zN,zN] at h1;exact absurd h1 hc
   unfold zAi
   dsimp only
   rw[HC.out,e]
   rfl)
  clear HC AD AC
  by_cases h0:ee=0
  ·subst h0;have AK:¬kk=2:=fun h=>hc ⟨rfl,h⟩
   have i1:¬(kk:Int)=2:=by omega
   have j1:((kk:Int) != 2)=true:=by rw[zD]; omega
   clear hc AK
   go_wp2_with fail
   go_quiet (fail)
   rename_i nq;have H2:=xG.drew H1 nq;clear x0 x1 x4 t0 t4;generalize w1.drewN nq=w2 at *
   go_wp2_with fail
   refine(JF _ p B _ R1 50 (by decide) H2.out.qs).mono ?_;rintro e w3 ⟨rfl,hp⟩;obtain⟨R3,H3⟩:=xG.goL H2 (XU H2.out.qs.yY 50) hp;clear hp
   go_wp2_with fail
   refine bodyPost_ret (results_none rfl _ _ _) rfl ?_;rw[HR.out];exact⟨rfl,H3.out.post⟩
  ·have g0:(ee==0)=false:=beq_eq_false_iff_ne.2 h0
   have g1:(ee != 0)=true:=by rw[zD]; exact h0
   clear hc
   go_wp2_with fail
   go_quiet (fail)
   rename_i nq;have H2:=xG.drew H1 nq;clear x0 x1 x4 t0 t4;generalize w1.drewN nq=w2 at *
   go_wp2_with fail
   refine(JF _ p B _ R1 50 (by decide) H2.out.qs).mono ?_;rintro e w3 ⟨rfl,hp⟩;obtain⟨R3,H3⟩:=xG.goL H2 (XU H2.out.qs.yY 50) hp;clear hp
   go_wp2_with fail
   refine bodyPost_ret (results_none rfl _ _ _) rfl ?_;rw[HR.out];exact⟨rfl,H3.out.post⟩
theorem zSl {i:Nat}{r:Rs}(h:(zDK r).2.e=0):vU i r = { (zDK r).2 with s:=JW i (zDK r).1 (zDK r).2.s }:=by unfold vU; rw[if_pos h]
theorem zS3 {i:Nat}{r:Rs}(h:¬(zDK r).2.e=0):vU i r=(zDK r).2:=by unfold vU; rw[if_neg h]
theorem zM2 {i:Nat}{r:Rs}(h:r.is [91]=false):YO i r=r.fail 50:=by unfold YO; rw[if_neg (by rw[h]; decide)]
theorem zKs {i:Nat}{r:Rs}(h:r.is [91]=true)(h2:¬r.inn.e=0):YO i r=r.inn.fail 50:=by unfold YO; rw[if_pos h,if_neg h2]
theorem zM3 {i:Nat}{r:Rs}(h:r.is [91]=true)(h2:r.inn.e=0):YO i r=(xD [93] (vU i r.inn.adv)).out:=by unfold YO; rw[if_pos h,if_pos h2]
theorem XK (w:World)(p B:Nat)(r:Rs)(R:vJ)(i:Nat)(h:QS w p B r R)(hi:i<r.s.nd.length)(hb:r.phi≤1800000) :
  Calls Tryz.prog 179 #[.pointer (some ⟨p,0,none⟩),.int .i64 (i:Int)] w fun e w'=>e=.returned (.tuple #[])∧jO w p B R (vU i r) w':=by
 have HI:=yE hi;have HK:=yE (zJJ r h.yY);have HB:Hid (r.s.nd.length+16*r.s.ts.length≤1800000):=yE (by unfold Rs.phi at hb; omega);have HP:=yE h;clear h hi hb
 go_enter Tryz.func179,Tryz.ntmps179
 go_wp2_with fail
 refine(zRD w p B r R HP.out).mono ?_;rintro e w1 ⟨cs,R1,rfl,hq,hm,hx⟩;have AB:=yE (fun h=>zSl (i:=i) (r:=r) h);have AC:=yE (fun h=>zS3 (i:=i) (r:=r) h);obtain⟨y,hy⟩:∃y,zDK r=y:=⟨_,rfl⟩;rw[hy] at hq hx HK AB AC;obtain⟨x,r1⟩:=y
 simp only at hq hx HK AB AC
 clear hy;have AA:Hid (Ext w1 (w1.alloc (.cells cs.toArray 223))):=yE (Ext.alloc _ _);have HQ:=yE (hq.ext AA.out);have HM:=yE (hm.trans (yZ.ext AA.out));have HX:=yE ((hx.weaken (M':=xI p R1) fun b hb k=>.inl k).xC (yZ.ext AA.out));have HN:=yE (Blk.new w1 223 cs.toArray);obtain⟨A1,c1,f1,AF,_⟩:=hx.open;clear hq hm hx;have AG:=yE AF;subst AF;unfold jD;unfold jD at AA HQ HM HX HN AG;generalize x.parts.length=xm at *;generalize HY:x.node=y at *;obtain⟨yk,yp,yt,yn,AK⟩:=y
 simp only at AA HQ HM HX HN AG ⊢
 go_upto_region 1 with fail
 generalize w1.alloc (.cells #[.int .u8 (yk:Int),.int .i64 (yp:Int),.string (xE yt),.int .i64 yn,.slice A1 xm c1] 223)=w2 at *;generalize w1.heap.size=gx at *;have x4:=HQ.out.x4;have c0:=HN.out.cell 0;have AJ:=HN.out.cell 1;have c2:=HN.out.cell 2;have c3:=HN.out.cell 3;have c4:=HN.out.cell 4;simp only[yJ,yK,List.getElem?_cons_succ] at c0 AJ c2 c3 c4
 by_cases he:r1.e=0
 ·have HE:=yE he;have HR:=yE (AB.out he);rw[he] at x4;clear he
  go_wp2_with fail
  refine(zNk x.size x (zU _) w2 p B r1 R1 i _ HQ.out (by have:=HK.out.nd; have:=HI.out; have h2:r1.s.nd=r.s.nd:=HK.out.nd; rw[h2]; exact HI.out) (by
   have h1:x.size+r1.s.ts.length≤r.s.ts.length:=HK.out.size HE.out;have h2:r1.s.nd=r.s.nd:=HK.out.nd;have h3:=HB.out;rw[h2]
   omega) HX.out).mono ?_
  rintro e w3 ⟨rfl,R3,AE,AD⟩;have AH:=yE AE;have AI:=yE (HM.out.trans AD);clear AE AD
  go_wp2_with fail
  go_end0;rw[HR.out];exact⟨rfl,R3,AH.out,AI.out⟩
 ·have HR:=yE (AC.out he);have g1:(r1.e==0)=false:=beq_eq_false_iff_ne.2 he
  go_wp2_with fail
  go_end0;rw[HR.out];exact⟨rfl,R1,HQ.out,HM.out⟩
theorem zGn (w:World)(p B:Nat)(r:Rs)(R:vJ)(i:Nat)(h:QS w p B r R)(hi:i<r.s.nd.length)(hb:r.phi≤1800000) :
  Calls Tryz.prog 180 #[.pointer (some ⟨p,0,none⟩),.int .i64 (i:Int)] w fun e w'=>e=.returned (.tuple #[])∧jO w p B R (YO i r) w':=by
 have HB:=yE hb;have HI:=yE hi;have H0:=yE (xG.refl h);clear h hb hi
 cases hc:r.is [91] with
 | false=>
  have HC:=yE hc;clear hc;have HR:=yE (zM2 (i:=i) HC.out)
  go_enter Tryz.func180,Tryz.ntmps180
  go_wp2_with fail
  refine(vE _ p B _ R [91] false (HC) H0.out.qs).mono ?_;rintro e _ ⟨rfl,m,rfl⟩;have H1:=xG.drew H0 m;generalize w.drewN m=w1 at *
  go_wp2_with fail
  refine(JF _ p B _ R 50 (by decide) H1.out.qs).mono ?_;rintro e w2 ⟨rfl,hp⟩;obtain⟨R2,H2⟩:=xG.goL H1 (XU H1.out.qs.yY 50) hp;clear hp
  go_wp2_with fail
  go_end0;rw[HR.out];exact⟨rfl,H2.out.post⟩
 | true=>
  have HC:=yE hc;clear hc;have HE:=yE (vS HC.out).2;have AI:=yE (vS HC.out).1
  by_cases AA:r.inn.e=0
  ·have AB:=yE AA;have HR:=yE (zM3 (i:=i) HC.out AA);clear AA
   go_enter Tryz.func180,Tryz.ntmps180
   go_wp2_with fail
   refine(vE _ p B _ R [91] true (HC) H0.out.qs).mono ?_;rintro e _ ⟨rfl,m,rfl⟩;have H1:=xG.drew H0 m;generalize w.drewN m=w1 at *
   go_wp2_with fail
   refine(zB0 _ p B _ R HE.out true (yE (by rw[AB.out]; rfl)) H1.out.qs).mono ?_;rintro e w2 ⟨rfl,hp⟩;obtain⟨R2,H2⟩:=xG.goL H1 (zFP H1.out.qs.yY HE.out) hp;clear hp;have x1:=H2.out.qs.x1;have AH:=H2.out.qs.blk.frozen 1;have AC:=H2.out.qs.few;have AD:=H2.out.qs.yY.last.pos
   go_wp2_with fail
   have H3:=xG.adv H2 (by rw[zHB (zDF r).1]; exact AI.out);clear x1 AH AC AD;generalize w2.setCell ⟨p,1,none⟩ (.int .i64 ((R2.I:Int)+1))=w3 at *;generalize { R2 with I:=R2.I+1 } = R3 at *;refine(XK _ p B _ R3 i H3.out.qs (H3.out.idx HI.out) (H3.out.bound HB.out (by omega))).mono ?_;rintro e w4 ⟨rfl,hp⟩;obtain⟨R4,H4⟩:=xG.go H3 (jQ i) hp;clear hp
   go_wp2_with fail
   refine(vF _ p B _ R4 [93] H4.out.qs).mono ?_;rintro e w5 ⟨rfl,hp⟩;obtain⟨R5,H5⟩:=xG.go H4 (xJ [93]) hp;clear hp;have x2:=H5.out.qs.x2;have AG:=H5.out.qs.blk.frozen 2;have AF:=H5.out.qs.yY.deep;have AE:Hid (1≤Ps.deep (Rs.s (xD [93] (vU i (Rs.adv (Rs.inn r)))))):=yE (by have h1:=XB [93] (vU i r.inn.adv); have h2:=zDn i r.inn.adv; have h3:=zA2 r; have h4:r.inn.adv.s.deep=r.inn.s.deep:=rfl; omega);have AJ:=AE.out
   go_wp2_with fail
   have H6:=xG.out (v:=.int .i64 ((Ps.deep (Rs.s (xD [93] (vU i (Rs.adv (Rs.inn r))))):Int)-1)) H5 (by show _=Value.int .i64 ((Ps.deep (Rs.s (xD [93] (vU i (Rs.adv (Rs.inn r)))))-1:Nat):Int); rw[Int.ofNat_sub AE.out]; rfl);clear x2 AG AF AJ;refine bodyPost_ret (results_none rfl _ _ _) rfl ?_;rw[HR.out];exact⟨rfl,H6.out.post⟩
  ·have AB:=yE AA;have HR:=yE (zKs (i:=i) HC.out AA);clear AA
   go_enter Tryz.func180,Tryz.ntmps180
   go_wp2_with fail
   refine(vE _ p B _ R [91] true (HC) H0.out.qs).mono ?_;rintro e _ ⟨rfl,m,rfl⟩;have H1:=xG.drew H0 m;generalize w.drewN m=w1 at *
   go_wp2_with fail
   refine(zB0 _ p B _ R HE.out false (yE (by exact beq_eq_false_iff_ne.2 AB.out)) H1.out.qs).mono ?_;rintro e w2 ⟨rfl,hp⟩;obtain⟨R2,H2⟩:=xG.goL H1 (zFP H1.out.qs.yY HE.out) hp;clear hp
   go_wp2_with fail
   refine(JF _ p B _ R2 50 (by decide) H2.out.qs).mono ?_;rintro e w3 ⟨rfl,hp⟩;obtain⟨R3,H3⟩:=xG.goL H2 (XU H2.out.qs.yY 50) hp;clear hp
   go_wp2_with fail
   go_end0;rw[HR.out];exact⟨rfl,H3.out.post⟩
theorem zEr (w:World)(p B:Nat)(r:Rs)(R:vJ)(i:Nat)(h:QS w p B r R)(hi:i<r.s.nd.length)(hb:r.phi≤1790000) :
  Calls Tryz.prog 178 #[.pointer (some ⟨p,0,none⟩),.int .i64 (i:Int)] w fun e w'=>e=.returned (.tuple #[])∧jO w p B R (zAj i r) w':=by
 have HB:=yE hb;have HI:=yE hi;have H0:=yE (xG.refl h);clear h hb hi
 go_enter Tryz.func178,Tryz.ntmps178
 go_wp2_with fail
 refine(jK _ p B _ R (i) H0.out.qs (HI.out) (JU (H0.out.bound HB.out (by omega)))).mono ?_;rintro e AI ⟨rfl,AG,hk,hm⟩;have HK:=yE (And.intro hk hm);clear hk hm
 go_wp2_with fail
 refine(jA _ p B _ AG (i) 20 HK.out.1 (H0.out.bound HB.out (by omega))).mono ?_;rintro e w1 ⟨rfl,hp⟩;obtain⟨R1,H1⟩:=xG.yX H0 HK hp;clear hp HK
 go_wp2_with fail
 have AF:Hid (r.s.nd.length<(r.yX i 20).s.nd.length):=yE (by rw[show(r.yX i 20).s.nd.length=r.s.nd.length+1 from xR r.s i 20]; omega);obtain⟨g1,AC,hA,AH,AD⟩:=H1.out.qs.YC (i:=r.s.nd.length) (AF.out);have x3:=H1.out.qs.x3 hA;have AB:=yE hA;have q0:(0:Int)≤((r.s.nd.length:Nat):Int):=Int.natCast_nonneg _
 have q1:((r.s.nd.length:Nat):Int)<(R1.nh.length:Int):=by omega
 clear hA
 go_region_held3 (fun w'=>w'.cell? ⟨p,3,none⟩=some (.slice (some ⟨g1,0,none⟩) R1.nh.length R1.c))
  (first
   | assumption
   | go_keep
   | exact AE _)
  (first
   | (go_at_call 123; refine(zBk _ p B _ R1 (H1.out.qs.ext (by first | exact Ext.refl _ | exact Below.drew (Below.refl _ _)))).mono ?_; rintro e AA ⟨rfl,I1,hq,hm⟩; have y1:AA.cell? ⟨p,3,none⟩=some (.slice (some ⟨g1,0,none⟩) R1.nh.length R1.c):=hq.x3 AB.out; have HN:=yE (And.intro hq hm); have c2:AA.cell? ⟨g1,r.s.nd.length*5+2,none⟩=some (.string (xE (R1.nh[r.s.nd.length]'AC).1.text)):=(hq.jP _ AC AB.out 2 (by decide)); have z2:AA.frozen? ⟨g1,r.s.nd.length*5+2,none⟩=false:=hq.JZ _ AB.out; have AE:∀u,(AA.setCell ⟨g1,r.s.nd.length*5+2,none⟩ u).cell? ⟨p,3,none⟩=some (.slice (some ⟨g1,0,none⟩) R1.nh.length R1.c):=fun u=>(World.cell?_of_block (w:=AA) (a:=⟨p,3,none⟩) (zQ AA ⟨g1,r.s.nd.length*5+2,none⟩ u p (fun e=>AD e.symm))).trans y1; clear hq hm)
   | (fail))
 obtain⟨R2,H2⟩:=xG.named (i:=r.s.nd.length) (g:=g1) H1 HN.out.1 ((yZ.ext (by first | exact Ext.refl _ | exact Below.drew (Below.refl _ _))).trans HN.out.2) AC AB.out;clear c2 z2 y1 AE x3 q0 q1 HN;generalize AA.setCell ⟨g1,r.s.nd.length*5+2,none⟩ (.string (xE (Rs.zAz (Rs.yX r (i) 20))))=w2 at *
 go_wp2_with fail
 refine(zGn _ p B _ R2 r.s.nd.length H2.out.qs (yS AF.out (jY r.s.nd.length _ H1.out.qs.yY).nd) (H2.out.bound HB.out (by omega))).mono ?_;rintro e w3 ⟨rfl,hp⟩;obtain⟨R3,H3⟩:=xG.go H2 (zDl r.s.nd.length) hp;clear hp
 go_wp2_with fail
 go_end0;exact⟨rfl,H3.out.post⟩
end Go.Proofs.YtioffpjajhalaaaGreatDoor
