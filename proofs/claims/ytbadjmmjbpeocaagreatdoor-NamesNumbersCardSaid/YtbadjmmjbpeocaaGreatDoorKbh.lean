/- The reader of names: body: a procedure. (and what follows of it). The conditions stand at each lemma. -/
import Derived.Test.YtbadjmmjbpeocaaGreatDoorKaa
import Derived.Test.YtbadjmmjbpeocaaGreatDoorKbg
import Derived.Test.YtbadjmmjbpeocaaGreatDoorKar
import Derived.Test.YtbadjmmjbpeocaaGreatDoorKbc
set_option linter.unusedVariables false
set_option linter.unusedSimpArgs false
set_option maxRecDepth 100000
set_option maxHeartbeats 16000000
namespace Go.Proofs.YtbadjmmjbpeocaaGreatDoor
open Go Go.RowKit
structure QB (n:Nat)(R R':DyN):Prop where
 j:R'.j=R.j
 sz:R'.pc.size=R.pc.size
 pc:∀i,i≠R.j*5+1→i≠R.j*5+2→R'.pc[i]?=R.pc[i]?
 par:R.pc[R.j*5+1]?=some (.int .i64 0)→R'.pc[R.j*5+1]?=some (.int .i64 (n:Int))
theorem QB.zero (R:DyN):QB 0 R R:=⟨rfl,rfl,fun _ _ _=>rfl,fun h=>h⟩
theorem QB.step {n:Nat}{R R1 R2:DyN}(h:QB n R R1)(k:ZO R1 R2):QB n R R2:=
 ⟨k.j.trans h.j,k.sz.trans h.sz,fun i h1 h2=>(k.pc i (by rw[h.j]; exact h2)).trans (h.pc i h1 h2),fun hp=>(k.pc _ (by rw[h.j]; omega)).trans (h.par hp)⟩
theorem QB.bump {n:Nat}{R R1:DyN}(h:QB n R R1)(hp:R.pc[R.j*5+1]?=some (.int .i64 0)):QB (n+1) R { R1 with pc:=R1.pc.setIfInBounds (R1.j*5+1) (.int .i64 ((n:Int)+1)) }:=by
 have hp1:=h.par hp;obtain⟨hlt,_⟩:=Array.getElem?_eq_some_iff.1 hp1;refine⟨h.j,by rw[←h.sz]; simp,fun i h1 h2=>?_,fun _=>?_⟩
 ·show(R1.pc.setIfInBounds (R1.j*5+1) _)[i]?=_
  rw[Array.getElem?_setIfInBounds_ne (by rw[h.j]; omega)];exact h.pc i h1 h2
 ·show(R1.pc.setIfInBounds (R1.j*5+1) _)[R.j*5+1]?=_
  rw[h.j,Array.getElem?_setIfInBounds_self_of_lt hlt]
  simp
theorem QB.zUP (n:Nat)(R1 R2 R3 R4:DyN)(h1:R1.pc=R3.pc)(h2:R1.j=R3.j)(h3:R2.pc=R4.pc)(h4:R2.j=R4.j)(h:QB n R1 R2):QB n R3 R4:=
 ⟨by rw[←h2,←h4]; exact h.j,by rw[←h1,←h3]; exact h.sz,fun i a b=>by rw[←h1,←h3]; exact h.pc i (by rw[h2]; exact a) (by rw[h2]; exact b),fun a=>by rw[←h3,←h2]; exact h.par (by rw[h1,h2]; exact a)⟩
theorem NB.zUV {w:World}{S:StN}{s:Nr}{R:DyN}(h:NB w S s R)(u:Value) :
  NB (w.setCell ⟨S.bp,R.j*5+1,none⟩ u) S s { R with pc:=R.pc.setIfInBounds (R.j*5+1) u } ∧ xD w (xM S R) (w.setCell ⟨S.bp,R.j*5+1,none⟩ u) (xM S { R with pc:=R.pc.setIfInBounds (R.j*5+1) u }):=by
 obtain⟨k,hm⟩:=h.kept (G:=fun b=>b=S.bp) (fun g e _=>.inr (.inr (.inl e))) (JE w S.bp (R.j*5+1) u);obtain⟨n1,n2,n3⟩:=h.apart;refine⟨⟨k.st,k.rd n3,k.of n2,h.len,h.pr.put (R.j*5+1) u,?_,k.vars fun b e=>(h.VT b e).2.2.1,k.blocks fun b e=>(h.VM b e).2.2.1,h.bml,fun j b y h1 h2=>k.maps j b y (h.of_map b (yB h2)).2.2 h1 h2,h.own,h.nodup,h.few,k.low,h.vz⟩,hm⟩
 show(R.pc.setIfInBounds (R.j*5+1) u)[R.j*5+2]?=_
 rw[Array.getElem?_setIfInBounds_ne (by omega)];exact h.pv
structure BoF (w:World)(M:Nat→Prop)(S:StN)(j root g0 g1 g2:Nat):Prop where
 b0:Safe w M g0 78 #[.pointer (some ⟨S.a,0,none⟩)]
 b1:Safe w M g1 39 (vX S.l root)
 b2:Safe w M g2 83 #[.pointer (some ⟨S.bp,j*5,none⟩)]
theorem BoF.xG {w w':World}{M M':Nat→Prop}{S:StN}{j root g0 g1 g2:Nat}(h:BoF w M S j root g0 g1 g2)(k:xD w M w' M'):BoF w' M' S j root g0 g1 g2:=⟨h.b0.xG k,h.b1.xG k,h.b2.xG k⟩
def zFb (t:List Nd)(k:Nat):Nn:=fun s=>if (VJ s (xC t k).text).isSome=true then .err k 71 else vT t k false s
theorem zLt (t:List Nd)(k:Nat)(l:List Nat)(s:Nr):ZP t (k::l) s=(zFb t k s).bind (ZP t l):=by
 unfold zFb;rw[ZP]
 split <;> rfl
def JY (N:Nat)(w w':World):Prop:=(N≤w.heap.size→Below N w w')∧w.heap.size≤w'.heap.size∧∀g cs,Blk w g 130 cs→∃cs':Array Value,cs'.size=cs.size∧Blk w' g 130 cs'
theorem JY.trans {N:Nat}{a b c:World}(h:JY N a b)(k:JY N b c):JY N a c:=
 ⟨fun hN=>(h.1 hN).trans (k.1 (Nat.le_trans hN h.2.1)),Nat.le_trans h.2.1 k.2.1,fun g cs hg=>by
  obtain⟨c1,e1,h1⟩:=h.2.2 g cs hg;obtain⟨c2,e2,h2⟩:=k.2.2 g c1 h1
  exact⟨c2,e2.trans e1,h2⟩⟩
theorem JY.ext {N:Nat}{w w':World}(hx:Ext w w'):JY N w w':=⟨fun hN=>zDE hx hN,hx.size,fun g cs hg=>⟨cs,rfl,hg.ext hx⟩⟩
theorem JY.set {N:Nat}{w:World}{g i:Nat}{u:Value}(hg:N≤g):JY N w (w.setCell ⟨g,i,none⟩ u):=
 ⟨fun _=>(Below.refl _ _).setCell (p:=⟨g,i,none⟩) hg _,by simp[World.setCell],fun g' cs hc=>by
  by_cases e:g'=g
  ·subst e;exact⟨_,by simp,hc.put i u⟩
  ·exact⟨cs,rfl,hc.far (p:=⟨g,i,none⟩) e u⟩⟩
theorem zJA {P:Program}{id:Nat}{Q':Exit→Act→World→Prop}{a:Act}{w:World}{l:List Oper}{ks:List Take}(hm:P.follows .mixedOrders=true)(hB:YF l.toArray l.length=true)(hT:zCh l.toArray l.length=true)
  (h:XL P l.toArray (JY w.heap.size) w (fun a' w'=>Q' .normal a' w') l ks a []):(Code.region id l.toArray true).wp P Q' a w:=by
 refine XJ (R:=JY w.heap.size) l.length ks hm hB hT (fun _ _ _=>JY.trans) (JY.ext (Below.drew (Below.refl _ _))) ?_;rw[List.take_length,List.drop_length];exact h
def zRl (N:Nat)(v:Value)(w:World):Prop:=∃g a b,v=.pointer (some ⟨g,0,none⟩)∧Blk w g 130 #[a,b]∧N≤g
theorem zRl.jL {N:Nat}{v:Value}{w w':World}(h:zRl N v w)(k:JY N w w'):zRl N v w':=by
 obtain⟨g,a,b,hv,hg,hn⟩:=h;obtain⟨cs,hs,hc⟩:=k.2.2 g _ hg;obtain⟨l⟩:=cs
 match l,hs with
 | [x,y],_=>exact⟨g,x,y,hv,hc,hn⟩
theorem zNX (f:Nat)(S:StN)(hT:zDZ S)(hfl:S.l.length≤f)(hf4:f≤40000)(w:World)(s:Nr)(R:DyN)(root g0 g1 g2 na nb:Nat)(h:NB w S s R)(hF:BoF w (xM S R) S R.j root g0 g1 g2)(hi:root<S.l.length)(hb:s.blocks.length≤10)(hne:s.blocks≠[])(hkk:(xC (tN S.l) root).kids=[na,nb])(hpar:R.pc[R.j*5+1]?=some (.int .i64 0)) :
  Calls Tryz.prog 60 #[.pointer (some ⟨g0,0,none⟩),.pointer (some ⟨g1,0,none⟩),.pointer (some ⟨g2,0,none⟩)] w (zCx (QB (xC (tN S.l) na).kids.length) w S R ((ZP (tN S.l) (xC (tN S.l) na).kids s).bind (jN (tN S.l) (vF (tN S.l) f) nb true)) vU):=by
 have HT:=yG hT;have HNB:=yG h;have HF:=yG hF;have HFL:Hid (S.l.length≤f∧f≤40000):=yG ⟨hfl,hf4⟩;have HPAR:=yG hpar;have HBL:Hid (s.blocks.length≤10∧s.blocks≠[]):=yG ⟨hb,hne⟩;have HUPA:Hid (root<na∧na<S.l.length):=yG (hT.up (by rw[hkk]; simp));have HUPB:Hid (root<nb∧nb<S.l.length):=yG (hT.up (by rw[hkk]; simp));have HUPL:Hid (∀k,k ∈ (xC (tN S.l) na).kids→na<k∧k<S.l.length):=yG fun k hk=>hT.up hk;have HKS:Hid (∀(wr:World) (sk:Nr) (Rk:DyN),NB wr S sk Rk→Cells wr (hdN S.l na).1 (ints (xC (tN S.l) na).kids)):=yG fun wr sk Rk hn=>(hn.st.tree.kid na (hT.up (i:=root) (by rw[hkk]; simp)).2).cells;have hkb:=hT.kl na
 have hn4:∀(W:World) (M:Nat→Prop),BoF W M S R.j root g0 g1 g2→W.cell? ⟨g1,4,none⟩=some (.slice (hdN S.l root).1 2 (hdN S.l root).2):=fun W M h=>by have:=h.b1.1.cell 4; rw[show(vX S.l root)[4]?=some (.slice (hdN S.l root).1 (xC (tN S.l) root).kids.length (hdN S.l root).2) from rfl,hkk] at this; exact this
 have hks:∀(wr:World) (sk:Nr) (Rk:DyN),NB wr S sk Rk→Cells wr (hdN S.l root).1 (ints [na,nb]):=fun wr sk Rk hn=>by have:=(hn.st.tree.kid root hi).cells; rw[hkk] at this; exact this
 generalize (hdN S.l root).2=rc at *;obtain⟨kb,ko,hkA,_,_⟩:=(hks _ _ _ h).at_ (by simp[ints]);rw[hkA] at hn4 hks;have HN4:=yG hn4
 have HKC:Hid (∀(wr:World) (sk:Nr) (Rk:DyN),NB wr S sk Rk→kb<wr.heap.size∧wr.cell? ⟨kb,ko,none⟩=some (.int .i64 (na:Int))∧wr.cell? ⟨kb,ko+1,none⟩=some (.int .i64 (nb:Int))):=yG fun wr sk Rk hn=>by
  obtain⟨b',o',e1,e2,e3⟩:=(hks wr sk Rk hn).at_ (by simp[ints]);injection e1 with e1;injection e1 with e1 e1';subst e1 e1';exact⟨e2,(e3 0 (by simp[ints])).trans rfl,(e3 1 (by simp[ints])).trans rfl⟩
 have q2:w.cell? ⟨g0,0,none⟩=some (.pointer (some ⟨S.a,0,none⟩)):=hF.b0.1.cell 0;have l2:=hF.b0.1.lt;have n4:=HN4.out _ _ hF;have l4:=hF.b1.1.lt;have zFc:=(HKC.out _ _ _ h).2.1;have kbl:=(HKC.out _ _ _ h).1;clear hT h hfl hf4 hi hb hne hF hkk hn4 hks hkA hpar
 go_enter Tryz.func60,Tryz.ntmps60
 go_upto_region 0 with fail
 apply YX (by kernel_rfl) (by kernel_rfl) (by kernel_rfl);apply yZ (.pointer (some ⟨S.a,0,none⟩)) rfl rfl rfl
 ·intro w' hw' hH;have cc:=(hw'.cell (p:=⟨g0,0,none⟩) l2).trans q2;clear hH;simp[xB,go_sem,cc];exact Ext.refl _
 try simp only[Act.put,yD,yE,yF]
 apply yZ (.pointer (some ⟨g1,4,none⟩)) rfl rfl rfl
 ·intro w' hw' hH;clear hH;simp[xB,go_sem];exact Ext.refl _
 try simp only[Act.put,yD,yE,yF]
 apply yZ (.slice (some ⟨kb,ko,none⟩) 2 rc) rfl rfl rfl
 ·intro w' hw' hH;have cc:=(hw'.cell (p:=⟨g1,4,none⟩) l4).trans n4;clear hH;simp[xB,go_sem,cc];exact Ext.refl _
 try simp only[Act.put,yD,yE,yF]
 apply yZ (.pointer (some ⟨kb,ko,none⟩)) rfl rfl rfl
 ·intro w' hw' hH;clear hH;simp[xB,go_sem];exact Ext.refl _
 try simp only[Act.put,yD,yE,yF]
 apply yZ (.int .i64 (na:Int)) rfl rfl rfl
 ·intro w' hw' hH;have cc:=(hw'.cell (p:=⟨kb,ko,none⟩) kbl).trans zFc;clear hH;simp[xB,go_sem,cc];exact Ext.refl _
 try simp only[Act.put,yD,yE,yF]
 apply yZ (.agg (vX S.l na)) rfl rfl rfl
 ·intro w' hw' hH;clear hH;simp[xB,go_sem];refine(vV w' S.a S.p S.A S.ct S.l na (HNB.out.ext hw').rds HUPA.out.2).mono ?_;rintro e w2 ⟨rfl,hx⟩;exact⟨_,rfl,rfl,hx⟩
 try simp only[Act.put,yD,yE,yF]
 apply yZ (.slice (hdN S.l na).1 (xC (tN S.l) na).kids.length (hdN S.l na).2) rfl rfl rfl
 ·intro w' hw' hH;clear hH;simp[xB,go_sem,zFj];exact Ext.refl _
 try simp only[Act.put,yD,yE,yF]
 apply yZ (.int .i64 ((xC (tN S.l) na).kids.length:Int)) rfl rfl rfl
 ·intro w' hw' hH;clear hH;simp[xB,go_sem];exact Ext.refl _
 try simp only[Act.put,yD,yE,yF]
 apply yZ (.int .i64 0) rfl rfl rfl
 ·intro w' hw' hH;clear hH;simp[xB,go_sem];exact Ext.refl _
 try simp only[Act.put,yD,yE,yF]
 apply vC;intro w1 hx1 hH;clear hH;have HN1:=yG (HNB.out.ext hx1);have HM1:=yG (xD.ext (M:=xM S R) hx1);have HF1:=yG (HF.out.xG HM1.out);clear hx1 q2 l2 n4 l4 zFc kbl
 go_upto_region 1 with fail
 generalize vX S.l na=nC at *;generalize (xC (tN S.l) na).kids=ps at *;generalize (hdN S.l na).1=kA at *;generalize (hdN S.l na).2=kc at *;have HWH:Hid ((ZP (tN S.l) ps s).bind (jN (tN S.l) (vF (tN S.l) f) nb true)=(ZP (tN S.l) (ps.drop 0) s).bind (jN (tN S.l) (vF (tN S.l) f) nb true)):=yG rfl;generalize hwhole:(ZP (tN S.l) ps s).bind (jN (tN S.l) (vF (tN S.l) f) nb true)=whole at *;clear hwhole
 go_loopw [15] (fun i' wr=>∃(k:Nat) (sk:Nr) (Rk:DyN),k≤ps.length∧i'=.int .i64 k∧Hid (NB wr S sk Rk)∧Hid (xD w (xM S R) wr (xM S Rk))∧Hid (QB k R Rk)∧Hid (sk.blocks.length≤10∧sk.blocks≠[])∧Hid (BoF wr (xM S Rk) S R.j root g0 g1 g2)∧Hid (whole=(ZP (tN S.l) (ps.drop k) sk).bind (jN (tN S.l) (vF (tN S.l) f) nb true))) (fun i' _=>ps.length-(intOf i').toNat)
 case atStart=>exact⟨0,s,R,zW _,rfl,HN1,HM1,yG (QB.zero R),HBL,HF1,HWH⟩
 case round=>
  obtain⟨k,sk,Rk,hk,rfl,HNK,HMK,HQK,HBK,HFK,HWK⟩:=hrel;obtain⟨wa,rfl⟩:∃wa:World,wa=wr:=⟨_,rfl⟩
  by_cases hlt:k<ps.length
  ·have d0:decide ((k:Int)<(ps.length:Int))=true:=yS (by omega)
   have q1:(k:Int)<(ps.length:Int):=by omega
   obtain⟨b,off,rfl,hb,hcc⟩:=(HKS.out wa sk Rk HNK.out).at_ (by rw[vY]; omega)
   have e0:wa.cell? ⟨b,off+k,none⟩=some (.int .i64 ((ps[k]:Nat):Int)):=by rw[hcc k (by rw[vY]; exact hlt)]; simp[ints,hlt]
   have HMEM:Hid (ps[k] ∈ ps):=yG (yO hlt);have HSN:Hid (ZP (tN S.l) (ps.drop k) sk=(zFb (tN S.l) ps[k] sk).bind (ZP (tN S.l) (ps.drop (k+1)))):=yG (by rw[List.drop_eq_getElem_cons hlt,zLt]);clear hcc;generalize ps[k]=c at *;have HCL:=yG (HUPL.out c HMEM.out).2;have HTX:Hid ((xC (tN S.l) c).text.length≤maxLen):=yG (HNK.out.st.tree.txt c);have q2:wa.cell? ⟨g0,0,none⟩=some (.pointer (some ⟨S.a,0,none⟩)):=HFK.out.b0.1.cell 0;have l2:=HFK.out.b0.1.lt;obtain⟨fo,HFO⟩:∃fo,Hid (VJ sk (xC (tN S.l) c).text=fo):=⟨_,yG rfl⟩
   go_upto_region 3 with fail
   clear e0
   cases fo with
   | some v=>
    have HONE:Hid (zFb (tN S.l) c sk=.err c 71):=yG (by unfold zFb; rw[HFO.out]; rfl);apply zJA (by kernel_rfl) (by kernel_rfl) (by kernel_rfl);apply yZ (.pointer (some ⟨S.a,0,none⟩)) rfl rfl rfl
    ·intro w' hw' hH;have cc:=((hw'.1 (zX _)).cell (p:=⟨g0,0,none⟩) l2).trans q2;clear hH;simp[xB,go_sem,cc];exact JY.ext (Ext.refl _)
    simp only[Act.put,yD,yE,yF];apply yZ (.pointer (some ⟨S.a,0,none⟩)) rfl rfl rfl
    ·intro w' hw' hH;have cc:=((hw'.1 (zX _)).cell (p:=⟨g0,0,none⟩) l2).trans q2;clear hH;simp[xB,go_sem,cc];exact JY.ext (Ext.refl _)
    simp only[Act.put,yD,yE,yF];apply yZ (.int .i64 (c:Int)) rfl rfl rfl
    ·intro w' hw' hH;clear hH;simp[xB,go_sem];exact JY.ext (Ext.refl _)
    simp only[Act.put,yD,yE,yF];apply yZ (.agg (vX S.l c)) rfl rfl rfl
    ·intro w' hw' hH;clear hH;simp[xB,go_sem];refine(vV w' S.a S.p S.A S.ct S.l c (HNK.out.ext (hw'.1 (zX _))).rds HCL.out).mono ?_;rintro e w2 ⟨rfl,hx⟩;exact⟨_,rfl,rfl,JY.ext hx⟩
    simp only[Act.put,yD,yE,yF];apply yZ (.string (xI (xC (tN S.l) c).text)) rfl rfl rfl
    ·intro w' hw' hH;clear hH;simp[xB,go_sem,XX];exact JY.ext (Ext.refl _)
    simp only[Act.put,yD,yE,yF];apply yZ (.tuple #[.agg #[.int .i64 (v.n:Int),.bool v.loop],.bool true]) rfl rfl rfl
    ·intro w' hw' hH;clear hH;simp[xB,go_sem];refine((HNK.out.ext (hw'.1 (zX _))).zEv (by have:=HBK.out.1; omega) _ HTX.out).mono ?_;rintro e w2 ⟨rfl,hx⟩;exact⟨_,rfl,by rw[HFO.out]; rfl,JY.ext hx⟩
    simp only[Act.put,yD,yE,yF];apply yZ (.tuple #[.agg #[.int .i64 (v.n:Int),.bool v.loop],.bool true]) rfl rfl rfl
    ·intro w' hw' hH;clear hH;simp[xB,go_sem];exact JY.ext (Ext.refl _)
    simp only[Act.put,yD,yE,yF];apply yZ (.agg #[.int .i64 (v.n:Int),.bool v.loop]) rfl rfl rfl
    ·intro w' hw' hH;clear hH;simp[xB,go_sem];exact JY.ext (Ext.refl _)
    simp only[Act.put,yD,yE,yF];apply yZ (.bool true) rfl rfl rfl
    ·intro w' hw' hH;clear hH;simp[xB,go_sem];exact JY.ext (Ext.refl _)
    simp only[Act.put,yD,yE,yF];apply vE (zRl wa.heap.size) (fun v w w' h hx=>h.jL hx) rfl rfl rfl
    ·intro w' hw' hH;have hz:=hw'.2.1;clear hH;simp[xB,go_sem];exact⟨⟨_,_,_,rfl,Blk.new _ _ _,hz⟩,JY.ext (Ext.alloc _ _)⟩
    intro v5;simp only[Act.put,yD,yE,yF];apply yZ undef rfl rfl rfl
    ·intro w' hw' hH;obtain⟨gv,x,y,hv,hbv,hgv⟩:=hH _ (List.mem_cons_self ..) ⟨_,rfl,by decide⟩;have y0:w'.cell? ⟨gv,0,none⟩=some x:=hbv.cell 0;have y1:w'.cell? ⟨gv,1,none⟩=some y:=hbv.cell 1;have z0:=hbv.frozen 0;have z1:=hbv.frozen 1;clear hH;subst hv;simp[xB,go_sem,y0,y1,z0,z1];exact(JY.set hgv).trans (JY.set hgv)
    simp only[Act.put,yD,yE,yF];apply yZ (.bool true) rfl rfl rfl
    ·intro w' hw' hH;clear hH;simp[xB,go_sem];exact JY.ext (Ext.refl _)
    simp only[Act.put,yD,yE,yF];apply vC;intro w3 hx3 hH;clear hH;have HX3:Hid (Ext wa w3):=yG (hx3.1 (zX _));clear hx3 q2 l2;have HN3:=yG (HNK.out.ext HX3.out);have HF3:=yG (HFK.out.xG (xD.ext (M:=xM S Rk) HX3.out));have q2:w3.cell? ⟨g0,0,none⟩=some (.pointer (some ⟨S.a,0,none⟩)):=HF3.out.b0.1.cell 0
    go_wp2_with fail
    refine(JP w3 S.a S.p S.A S.ct S.l c 71 HN3.out.rds HCL.out).mono ?_;rintro e w4 ⟨rfl,rfl⟩
    have HFF:Hid (zCx (QB ps.length) w S R whole vU (XG (YY S.l c) 71) w3):=yG (by
     rw[HWK.out,HSN.out,HONE.out]
     exact⟨rfl,HCL.out,_,HMK.out.trans (xD.ext (M:=xM S Rk) HX3.out)⟩)
    exact xK (P:=Tryz.prog) (fn:=Tryz.f60) rfl HFF.out
   | none=>
    have HONE:Hid (zFb (tN S.l) c sk=vT (tN S.l) c false sk):=yG (by unfold zFb; rw[HFO.out]; rfl);apply zJA (by kernel_rfl) (by kernel_rfl) (by kernel_rfl);apply yZ (.pointer (some ⟨S.a,0,none⟩)) rfl rfl rfl
    ·intro w' hw' hH;have cc:=((hw'.1 (zX _)).cell (p:=⟨g0,0,none⟩) l2).trans q2;clear hH;simp[xB,go_sem,cc];exact JY.ext (Ext.refl _)
    simp only[Act.put,yD,yE,yF];apply yZ (.pointer (some ⟨S.a,0,none⟩)) rfl rfl rfl
    ·intro w' hw' hH;have cc:=((hw'.1 (zX _)).cell (p:=⟨g0,0,none⟩) l2).trans q2;clear hH;simp[xB,go_sem,cc];exact JY.ext (Ext.refl _)
    simp only[Act.put,yD,yE,yF];apply yZ (.int .i64 (c:Int)) rfl rfl rfl
    ·intro w' hw' hH;clear hH;simp[xB,go_sem];exact JY.ext (Ext.refl _)
    simp only[Act.put,yD,yE,yF];apply yZ (.agg (vX S.l c)) rfl rfl rfl
    ·intro w' hw' hH;clear hH;simp[xB,go_sem];refine(vV w' S.a S.p S.A S.ct S.l c (HNK.out.ext (hw'.1 (zX _))).rds HCL.out).mono ?_;rintro e w2 ⟨rfl,hx⟩;exact⟨_,rfl,rfl,JY.ext hx⟩
    simp only[Act.put,yD,yE,yF];apply yZ (.string (xI (xC (tN S.l) c).text)) rfl rfl rfl
    ·intro w' hw' hH;clear hH;simp[xB,go_sem,XX];exact JY.ext (Ext.refl _)
    simp only[Act.put,yD,yE,yF];apply yZ (.tuple #[.agg #[.int .i64 0,.bool false],.bool false]) rfl rfl rfl
    ·intro w' hw' hH;clear hH;simp[xB,go_sem];refine((HNK.out.ext (hw'.1 (zX _))).zEv (by have:=HBK.out.1; omega) _ HTX.out).mono ?_;rintro e w2 ⟨rfl,hx⟩;exact⟨_,rfl,by rw[HFO.out]; rfl,JY.ext hx⟩
    simp only[Act.put,yD,yE,yF];apply yZ (.tuple #[.agg #[.int .i64 0,.bool false],.bool false]) rfl rfl rfl
    ·intro w' hw' hH;clear hH;simp[xB,go_sem];exact JY.ext (Ext.refl _)
    simp only[Act.put,yD,yE,yF];apply yZ (.agg #[.int .i64 0,.bool false]) rfl rfl rfl
    ·intro w' hw' hH;clear hH;simp[xB,go_sem];exact JY.ext (Ext.refl _)
    simp only[Act.put,yD,yE,yF];apply yZ (.bool false) rfl rfl rfl
    ·intro w' hw' hH;clear hH;simp[xB,go_sem];exact JY.ext (Ext.refl _)
    simp only[Act.put,yD,yE,yF];apply vE (zRl wa.heap.size) (fun v w w' h hx=>h.jL hx) rfl rfl rfl
    ·intro w' hw' hH;have hz:=hw'.2.1;clear hH;simp[xB,go_sem];exact⟨⟨_,_,_,rfl,Blk.new _ _ _,hz⟩,JY.ext (Ext.alloc _ _)⟩
    intro v5;simp only[Act.put,yD,yE,yF];apply yZ undef rfl rfl rfl
    ·intro w' hw' hH;obtain⟨gv,x,y,hv,hbv,hgv⟩:=hH _ (List.mem_cons_self ..) ⟨_,rfl,by decide⟩;have y0:w'.cell? ⟨gv,0,none⟩=some x:=hbv.cell 0;have y1:w'.cell? ⟨gv,1,none⟩=some y:=hbv.cell 1;have z0:=hbv.frozen 0;have z1:=hbv.frozen 1;clear hH;subst hv;simp[xB,go_sem,y0,y1,z0,z1];exact(JY.set hgv).trans (JY.set hgv)
    simp only[Act.put,yD,yE,yF];apply yZ (.bool false) rfl rfl rfl
    ·intro w' hw' hH;clear hH;simp[xB,go_sem];exact JY.ext (Ext.refl _)
    simp only[Act.put,yD,yE,yF];apply vC;intro w3 hx3 hH;clear hH;have HX3:Hid (Ext wa w3):=yG (hx3.1 (zX _));clear hx3 q2 l2;have HN3:=yG (HNK.out.ext HX3.out);have HM3:=yG (HMK.out.trans (xD.ext (M:=xM S Rk) HX3.out));have HF3:=yG (HFK.out.xG (xD.ext (M:=xM S Rk) HX3.out));have q2:w3.cell? ⟨g0,0,none⟩=some (.pointer (some ⟨S.a,0,none⟩)):=HF3.out.b0.1.cell 0
    go_wp2_with fail
    refine(XC w3 (.pointer (some ⟨S.a,0,none⟩)) (c:Int) 71).mono ?_;rintro e w4 ⟨rfl,rfl⟩
    go_wp2_with fail
    clear q2;refine(zDF w3 S sk Rk c false HN3.out HCL.out HBK.out.2 (by have:=HBK.out.1; omega)).mono ?_;intro e w5 hpost
    cases hq:vT (tN S.l) c false sk with
    | err j er=>
     rw[hq] at hpost;obtain⟨rfl,hj,M',hm⟩:=hpost
     have HFF:Hid (zCx (QB ps.length) w S R whole vU (XG (YY S.l j) er) w5):=yG (by
      rw[HWK.out,HSN.out,HONE.out,hq]
      exact⟨rfl,hj,M',HM3.out.trans hm⟩)
     exact xK (P:=Tryz.prog) (fn:=Tryz.f60) rfl HFF.out
    | ok s5=>
     rw[hq] at hpost;obtain⟨rfl,R5,hst5,hn5,hm5⟩:=hpost;have HN5:=yG hn5;have HQ5:=yG (HQK.out.step hst5);have HM5:=yG (HM3.out.trans hm5);have HF5:=yG (HF3.out.xG hm5)
     have HB5:Hid (s5.blocks.length≤10∧s5.blocks≠[]):=yG (by
      have hk:=XI (zAu HBK.out.2 hq);rw[hk.1]
      exact⟨HBK.out.1,hk.2⟩)
     have HW5:Hid (whole=(ZP (tN S.l) (ps.drop (k+1)) s5).bind (jN (tN S.l) (vF (tN S.l) f) nb true)):=yG (by rw[HWK.out,HSN.out,HONE.out,hq]; rfl);have b2:w5.cell? ⟨g2,0,none⟩=some (.pointer (some ⟨S.bp,R.j*5,none⟩)):=HF5.out.b2.1.cell 0;have p1:w5.cell? ⟨S.bp,R.j*5+1,none⟩=some (.int .i64 (k:Int)):=(HN5.out.pr.cell _).trans (HQ5.out.par HPAR.out);have p1z:w5.frozen? ⟨S.bp,R.j*5+1,none⟩=false:=HN5.out.pr.frozen _;have hwk:IntKind.i64.wrap ((k:Int)+1)=(k:Int)+1:=IntWalk.i64_in _ (by omega);clear hn5 hm5 hst5 hq;unfold vU
     go_upto_region 7 with fail
     clear b2 p1 p1z;have hsp:=HN5.out.zUV (.int .i64 ((k:Int)+1));rw[HQ5.out.j] at hsp;have HN6:=yG hsp.1;have HM6:=yG (HM5.out.trans hsp.2);have HF6:=yG (HF5.out.xG hsp.2);have HQ6:=HQ5.out.bump HPAR.out;rw[HQ5.out.j] at HQ6;have HQ6:=yG HQ6;clear hsp;generalize w5.setCell ⟨S.bp,R.j*5+1,none⟩ (.int .i64 ((k:Int)+1))=w6 at *
     go_wp2_with fail
     go_roundw
     case rel=>exact⟨k+1,s5,_,by omega,by go_num,HN6,HM6,HQ6,HB5,HF6,HW5⟩
     case measure=>simp[intOf]; omega
  ·obtain rfl:k=ps.length:=by omega
   have d0:decide ((ps.length:Int)<(ps.length:Int))=false:=by simp
   have d1:decide (ps.length<ps.length)=false:=by simp
   have HFE:Hid (whole=jN (tN S.l) (vF (tN S.l) f) nb true sk):=yG (by rw[HWK.out,List.drop_length]; rfl);have q2:wa.cell? ⟨g0,0,none⟩=some (.pointer (some ⟨S.a,0,none⟩)):=HFK.out.b0.1.cell 0;have l2:=HFK.out.b0.1.lt;have n4:=HN4.out _ _ HFK.out;have l4:=HFK.out.b1.1.lt;have zMC:=(HKC.out _ _ _ HNK.out).2.2;have kbl:=(HKC.out _ _ _ HNK.out).1
   go_upto_region 8 with fail
   go_still_tail 5,(by kernel_rfl)
   change wpList _ _ _ _ _ (World.drew wa)
   have hx3:Ext wa (World.drew wa):=Below.drew (Below.refl _ _);generalize World.drew wa=w3 at *;clear n4 l4 q2 l2 zMC kbl;have HN3:=yG (HNK.out.ext hx3);have HM3:=yG (HMK.out.trans (xD.ext (M:=xM S Rk) hx3));clear hx3
   go_wp2_with fail
   refine(zFe f S HT.out (zKY S HT.out f) w3 sk Rk nb true HN3.out HUPB.out.2 (by have:=HUPB.out.1; have:=HFL.out; omega) (by have:=HBK.out.1; have:=HFL.out; omega)).mono ?_;intro e w5 hpost
   cases hq:jN (tN S.l) (vF (tN S.l) f) nb true sk with
   | err j er=>
    rw[hq] at hpost;obtain⟨rfl,hj,M',hm⟩:=hpost
    have HFF:Hid (zCx (QB ps.length) w S R whole vU (XG (YY S.l j) er) w5):=yG (by
     rw[HFE.out,hq]
     exact⟨rfl,hj,M',HM3.out.trans hm⟩)
    exact xK (P:=Tryz.prog) (fn:=Tryz.f60) rfl HFF.out
   | ok s5=>
    rw[hq] at hpost;obtain⟨rfl,R5,hst5,hn5,hm5⟩:=hpost
    have HFF:Hid (zCx (QB ps.length) w S R whole vU (.returned (.tuple #[])) w5):=yG (by
     rw[HFE.out,hq]
     exact⟨rfl,R5,HQK.out.step hst5,hn5,HM3.out.trans hm5⟩)
    clear hn5 hm5 hst5 hq;unfold vU
    go_wp2_with fail
    go_end0;exact HFF.out
end Go.Proofs.YtbadjmmjbpeocaaGreatDoor
namespace Go.Proofs.YtbadjmmjbpeocaaGreatDoor
def Dq (q r:Qn):Prop:=r.e=q.e∧r.at_=q.at_
theorem Dq.step {q r:Qn}{M:Qn→Qn}(h:Dq q r)(hq:q.e≠0)(hM:zGZ M):Dq q (M r):=by
 have:=hM r (by rw[h.1]; exact hq)
 exact⟨this.1.trans h.1,this.2.trans h.2⟩
theorem Dq.refl (q:Qn):Dq q q:=⟨rfl,rfl⟩
theorem Sim.push {s:Nr}{q:Qn}(h:Sim s q):Sim { s with blocks:=[]::s.blocks } q:=⟨h.xH,h.procs,h.of,h.vars,by rw[h.there]; rfl,h.e⟩
theorem zFc {t:List Nd}{i a:Nat}{l:List Nat}(h:(xC t i).kids=a::l):YI t i 0=a:=by unfold YI; rw[h]; rfl
theorem zMC {t:List Nd}{i a b:Nat}{l:List Nat}(h:(xC t i).kids=a::b::l):YI t i 1=b:=by unfold YI; rw[h]; rfl
theorem zU3 {t:List Nd}{i a b c:Nat}{l:List Nat}(h:(xC t i).kids=a::b::c::l):YI t i 2=c:=by unfold YI; rw[h]; rfl
structure zPT (s:Nr)(q:Qn):Prop where
 xH:q.xH=s.xH
 procs:q.procs=s.procs
 of:q.of=s.of
 e:q.e=0
 blocks:s.blocks=[]
def zPp (x:YQ Nr)(q:Qn):Prop:=match x with
 | .ok s=>zPT s q
 | .err i e=>q.e=e∧q.at_=i∧e≠0
theorem zPp.bind {x:YQ Nr}{q:Qn}{f:Nr→YQ Nr}{N:Qn→Qn}(h:zPp x q)(hN:zGZ N)(k:∀s,x=.ok s→zPT s q→zPp (f s) (N q)):zPp (x.bind f) (N q):=by
 cases x with
 | ok s=>exact k s rfl h
 | err i e=>
  obtain⟨h1,h2,h3⟩:=h;obtain⟨k1,k2⟩:=hN q (by rw[h1]; exact h3);exact⟨k1.trans h1,k2.trans h2,h3⟩
theorem zPT.proc {s:Nr}{q:Qn}(h:zPT s q)(t:Bs):q.proc t=zIe (zC1 s t):=by unfold Qn.proc zC1; rw[h.procs]
theorem zPT.tab {s:Nr}{q:Qn}(h:zPT s q)(t:Bs):q.tab t=zIe (zCg s t):=by unfold Qn.tab zCg; rw[h.xH]
theorem zDD {t:List Nd}:∀(l:List Nat) (s s':Nr),s.blocks≠[]→ZP t l s=.ok s'→YP s s'
 | [],s,s',hb,h=>by injection h with h; rw[←h]; exact YP.refl hb
 | k::l,s,s',hb,h=>by
  unfold ZP at h
  split at h
  ·cases h
  ·obtain⟨m,h1,h2⟩:=ZA h;have k1:=zAu hb h1;exact k1.trans (zDD l m s' k1.ne h2)
end Go.Proofs.YtbadjmmjbpeocaaGreatDoor
namespace Go.Proofs.YtbadjmmjbpeocaaGreatDoor
open Go Go.RowKit
def zFa (t:List Nd)(f na nb:Nat):Nn:=fun s=>(ZP t (xC t na).kids s).bind (jN t (vF t f) nb true)
theorem zQu (f:Nat)(S:StN)(hT:zDZ S)(hfl:S.l.length≤f)(hf4:f≤40000)(w W0:World)(s:Nr)(R:DyN)(root na nb:Nat)(hW0:Hid (w.setCell ⟨S.a,3,none⟩ (.pointer (some ⟨S.bp,R.j*5,none⟩))=W0))(h:NB W0 S s R)(v3:Value)(hx3:w.cell? ⟨S.a,3,none⟩=some v3)(hz3:w.frozen? ⟨S.a,3,none⟩=false)
  (hroot:R.pc[R.j*5+4]?=some (.int .i64 (root:Int))) (hpar:R.pc[R.j*5+1]?=some (.int .i64 0)) (hi:root<S.l.length) (hb:s.blocks.length≤5) (hkk:(xC (tN S.l) root).kids=[na,nb]) :
  Calls Tryz.prog 31 #[.pointer (some ⟨S.a,0,none⟩),.pointer (some ⟨S.bp,R.j*5,none⟩)] w (zCx (QB (xC (tN S.l) na).kids.length) W0 S R (jQ (zFa (tN S.l) f na nb) s) vU):=by
 have HT:=yG hT;have HFL:Hid (S.l.length≤f∧f≤40000):=yG ⟨hfl,hf4⟩;have HNB:=yG h;have HIL:=yG hi;have HBL:=yG hb;have HKK:=yG hkk;have HROOT:=yG hroot;have HPAR:=yG hpar
 have HML:Hid (∀b,xM S R b→b<w.heap.size):=yG fun b hm=>by have:=h.ZU hm; rw[←hW0.out] at this; simpa [World.setCell] using this
 have al:S.a<w.heap.size:=by have:=h.rd.lt; rw[←hW0.out] at this; simpa [World.setCell] using this
 have HSZ:Hid (W0.heap.size=w.heap.size):=yG (by rw[←hW0.out]; simp[World.setCell]);obtain⟨W2,HW2⟩:∃W2,Hid (((w.setCell ⟨S.a,3,none⟩ (.pointer (some ⟨S.bp,R.j*5,none⟩))).alloc (.cells #[.pointer (some ⟨S.a,0,none⟩)] 78)).alloc (.cells #[.pointer (some ⟨S.bp,R.j*5,none⟩)] 83)=W2):=⟨_,yG rfl⟩;have HX2:Hid (Ext W0 W2):=yG (by rw[←HW2.out,hW0.out]; exact(Ext.alloc _ _).trans (Ext.alloc _ _))
 have HB2:Hid (Safe W2 (xM S R) w.heap.size 78 #[.pointer (some ⟨S.a,0,none⟩)]∧Safe W2 (xM S R) (w.heap.size+1) 83 #[.pointer (some ⟨S.bp,R.j*5,none⟩)]):=yG (by
  rw[←HW2.out,hW0.out,←HSZ.out];refine⟨⟨(Blk.new _ _ _).alloc _,fun hm=>by have:=HML.out _ hm; have:=HSZ.out; omega⟩,⟨?_,fun hm=>by have:=HML.out _ hm; have:=HSZ.out; omega⟩⟩
  have:=Blk.new (W0.alloc (.cells #[.pointer (some ⟨S.a,0,none⟩)] 78)) 83 #[.pointer (some ⟨S.bp,R.j*5,none⟩)]
  rwa [yT] at this)
 clear hT h hfl hf4 hroot hpar hi hb hkk;have q0:((w.alloc (.cells #[.pointer (some ⟨S.a,0,none⟩)] 78)).alloc (.cells #[.pointer (some ⟨S.bp,R.j*5,none⟩)] 83)).cell? ⟨w.heap.size,0,none⟩=some (.pointer (some ⟨S.a,0,none⟩)):=((Blk.new _ _ _).alloc _).cell 0
 have q1:((w.alloc (.cells #[.pointer (some ⟨S.a,0,none⟩)] 78)).alloc (.cells #[.pointer (some ⟨S.bp,R.j*5,none⟩)] 83)).cell? ⟨w.heap.size+1,0,none⟩=some (.pointer (some ⟨S.bp,R.j*5,none⟩)):=by
  have:=(Blk.new (w.alloc (.cells #[.pointer (some ⟨S.a,0,none⟩)] 78)) 83 #[.pointer (some ⟨S.bp,R.j*5,none⟩)]).cell 0
  rwa [yT] at this
 go_enter Tryz.func31,Tryz.ntmps31
 go_upto_region 2 with fail
 rw[HW2.out];clear q0 q1 HW2 hx3 hz3;obtain⟨g0,HG0⟩:∃g0,Hid (w.heap.size=g0):=⟨_,yG rfl⟩;obtain⟨g2,HG2⟩:∃g2,Hid (w.heap.size+1=g2):=⟨_,yG rfl⟩;rw[HG2.out,HG0.out] at HB2 ⊢;have HN2:=yG (HNB.out.ext HX2.out);have q0:W2.cell? ⟨g0,0,none⟩=some (.pointer (some ⟨S.a,0,none⟩)):=HB2.out.1.1.cell 0;have l0:=HB2.out.1.1.lt;have q2:W2.cell? ⟨g2,0,none⟩=some (.pointer (some ⟨S.bp,R.j*5,none⟩)):=HB2.out.2.1.cell 0;have l2:=HB2.out.2.1.lt;have qr:W2.cell? ⟨S.bp,R.j*5+4,none⟩=some (.int .i64 (root:Int)):=(HN2.out.pr.cell _).trans HROOT.out;have lr:=HN2.out.pr.lt;clear al;apply xU 7 (by kernel_rfl) (by kernel_rfl) (by kernel_rfl);dsimp only[List.take_succ_cons,List.take_zero,List.drop_succ_cons,List.drop_zero];apply yZ (.pointer (some ⟨S.a,0,none⟩)) rfl rfl rfl
 ·intro w' hw' hH;have cc:=(hw'.cell (p:=⟨g0,0,none⟩) l0).trans q0;clear hH;simp[xB,go_sem,cc];exact Ext.refl _
 simp only[Act.put,yD,yE,yF];apply yZ (.pointer (some ⟨S.bp,R.j*5,none⟩)) rfl rfl rfl
 ·intro w' hw' hH;have cc:=(hw'.cell (p:=⟨g2,0,none⟩) l2).trans q2;clear hH;simp[xB,go_sem,cc];exact Ext.refl _
 simp only[Act.put,yD,yE,yF];apply yZ (.pointer (some ⟨S.bp,R.j*5,none⟩)) rfl rfl rfl
 ·intro w' hw' hH;clear hH;simp[xB,go_sem];exact Ext.refl _
 simp only[Act.put,yD,yE,yF];apply yZ (.pointer (some ⟨S.bp,R.j*5+4,none⟩)) rfl rfl rfl
 ·intro w' hw' hH;clear hH;simp[xB,go_sem];exact Ext.refl _
 simp only[Act.put,yD,yE,yF];apply yZ (.int .i64 (root:Int)) rfl rfl rfl
 ·intro w' hw' hH;have cc:=(hw'.cell (p:=⟨S.bp,R.j*5+4,none⟩) lr).trans qr;clear hH;simp[xB,go_sem,cc];exact Ext.refl _
 simp only[Act.put,yD,yE,yF];apply yZ (.agg (vX S.l root)) rfl rfl rfl
 ·intro w' hw' hH;clear hH;simp[xB,go_sem];refine(vV w' S.a S.p S.A S.ct S.l root (HN2.out.ext hw').rds HIL.out).mono ?_;rintro e w2 ⟨rfl,hx⟩;exact⟨_,rfl,rfl,hx⟩
 simp only[Act.put,yD,yE,yF];apply vE (zJe 39 #[.int .u8 0,.int .i64 0,.string ⟨#[]⟩,.int .i64 0,.slice none 0 0] W2.heap.size) (fun v w w' h hx=>h.ext hx) rfl rfl rfl
 ·intro w' hw' hH;have hz:=hw'.size;clear hH;simp[xB,go_sem];exact⟨⟨_,rfl,Blk.new _ _ _,hz⟩,Ext.alloc _ _⟩
 intro v4;simp only[Act.put,yD,yE,yF];apply vC;intro w3 hx3 hH;obtain⟨g1,rfl,hb1,hg1⟩:=hH _ (List.mem_cons_self ..);clear hH q0 l0 q2 l2 qr lr;have HX3:=yG hx3;have HB1:=yG hb1;have HG1:=yG hg1;clear hx3 hb1 hg1;simp only[Act.put,yD,yE,yF,List.drop_succ_cons,List.drop_zero];refine vK rfl 39 (.tmp 4) (.tmp 14) rfl g1 (vX S.l root) (by rfl) (by rfl) 39 _ HB1.out (by kernel_rfl) rfl rfl ?_;intro w4 ht4 hb4;have HX4:Hid (Ext W2 w4):=yG ⟨ht4.os.trans HX3.out.os,ht4.tape.trans HX3.out.tape,ht4.output.trans HX3.out.output,by rw[ht4.size]; exact HX3.out.size,fun b hb=>(ht4.other b (by have:=HG1.out; omega)).trans (HX3.out.block b hb)⟩;have HN4:=yG (HN2.out.ext HX4.out);have HF4:Hid (BoF w4 (xM S R) S R.j root g0 g1 g2):=yG ⟨HB2.out.1.xG (xD.ext (M:=xM S R) HX4.out),⟨hb4,fun hm=>by have:=HN2.out.ZU hm; have:=HG1.out; omega⟩,HB2.out.2.xG (xD.ext (M:=xM S R) HX4.out)⟩;have q0:w4.cell? ⟨g0,0,none⟩=some (.pointer (some ⟨S.a,0,none⟩)):=HF4.out.b0.1.cell 0;have HM4:=yG (xD.ext (M:=xM S R) (HX2.out.trans HX4.out));clear ht4 hb4
 go_wp2_with fail
 clear q0;refine(zEt (QB (xC (tN S.l) na).kids.length) (QB.zUP _) w4 S s R 60 #[] #[.pointer (some ⟨g0,0,none⟩),.pointer (some ⟨g1,0,none⟩),.pointer (some ⟨g2,0,none⟩)] (zFa (tN S.l) f na nb) HN4.out (by have:=HBL.out; omega) (enters_of Tryz.func60 (by kernel_rfl) rfl) (fun s' hq=>?_) (fun wr R' hpc hj hm hn=>?_)).mono ?_
 ·obtain⟨s1,e1,e2⟩:=ZA hq;have k1:=XI (zDD _ _ _ (by simp) e1);have k2:=XI (zAA (fun k a b hne hq=>zBe HT.out.R f k a b hne hq) k1.2 e2);refine⟨k2.2,?_⟩;rw[k2.1,k1.1];simp only[zK]
  have:=HBL.out
  omega
 ·have hF:=HF4.out.xG hm;rw[←hj] at hF;exact zNX f S HT.out HFL.out.1 HFL.out.2 wr { s with blocks:=[]::s.blocks } R' root g0 g1 g2 na nb hn hF HIL.out (by simp only[zK]; have:=HBL.out; omega) (by simp) HKK.out (by rw[hpc,hj]; exact HPAR.out)
 ·intro e w5 hpost
  cases hq:jQ (zFa (tN S.l) f na nb) s with
  | err j er=>
   rw[hq] at hpost;obtain⟨rfl,hj,M',hm⟩:=hpost;exact xK (P:=Tryz.prog) (fn:=Tryz.f31) rfl ⟨rfl,hj,M',HM4.out.trans hm⟩
  | ok s5=>
   rw[hq] at hpost;obtain⟨rfl,R5,hst5,hn5,hm5⟩:=hpost;have HFF:Hid (zCx (QB (xC (tN S.l) na).kids.length) W0 S R (.ok s5) vU (.returned (.tuple #[])) w5):=yG ⟨rfl,R5,hst5,hn5,HM4.out.trans hm5⟩;have HQ:=yG hq;clear hn5 hm5 hst5 hq;unfold vU
   go_wp2_with fail
   go_end0;rw[HQ.out];exact HFF.out
def dyJ (j:Nat)(pc:Array Value)(Ab:Option Addr)(cb:Nat):DyN:=⟨j,pc,none,0,Ab,cb,[]⟩
def MB (S:StN)(Ab:Option Addr)(b:Nat):Prop:=b=S.a∨b=S.bo∨b=S.bp∨Ab=some ⟨b,0,none⟩
theorem zUQ {S:StN}{j:Nat}{pc:Array Value}{Ab:Option Addr}{cb b:Nat}:xM S (dyJ j pc Ab cb) b↔MB S Ab b:=by
 unfold xM MB dyJ
 constructor
 ·rintro (h | h | h | h | h | h)
  ·exact .inl h
  ·exact .inr (.inl h)
  ·exact .inr (.inr (.inl h))
  ·cases h
  ·exact .inr (.inr (.inr h))
  ·cases h
 ·rintro (h | h | h | h)
  ·exact .inl h
  ·exact .inr (.inl h)
  ·exact .inr (.inr (.inl h))
  ·exact .inr (.inr (.inr (.inr (.inl h))))
theorem zBf {w:World}{M M':Nat→Prop}(h:∀b,M' b→M b):xD w M w M':=⟨rfl,rfl,rfl,zX _,fun _ _ _=>rfl,fun b hb=>.inl (h b hb)⟩
structure BI (w:World)(S:StN)(s:Nr)(j:Nat)(pc:Array Value)(Ab:Option Addr)(cb:Nat)(ps:List Pw):Prop where
 st:zKG w (MB S Ab) S s.xH
 rd:∃v3,Blk w S.a 86 #[.pointer (some ⟨S.p,0,none⟩),.map (some S.mt),.slice S.Ac s.xH.length S.cc,v3,.slice Ab 0 cb]
 of:Blk w S.bo 3 (ofc s.of).toArray
 len:s.of.length=S.l.length
 pr:Blk w S.bp 42 pc
 blocks:w.ownsRow S.B 184 1 (.slice Ab 0 cb) 0 []
 low:S.B≤w.heap.size
 bz:s.blocks=[]
 psl:ps.map Prod.fst=s.procs
 pcs:∀i,i<ps.length*5→pc[i]?=(zCk ps)[i]?
 dn:∀(i:Nat) (x:Pw),i<j→ps[i]?=some x→XE w (MB S Ab) x.2.1 (strs x.1.vars)
 td:∀(i:Nat) (x:Pw),j≤i→ps[i]?=some x→x.2=(none,0)∧x.1.vars=[]∧x.1.params=0
 tk:∀(k:Nat) (x:Nt) (h:Hd2),s.xH[k]?=some x→S.th[k]?=some h→XE w (MB S Ab) h.1 (strs x.zA0)
theorem BI.zOj {w:World}{S:StN}{s:Nr}{j:Nat}{pc:Array Value}{Ab:Option Addr}{cb:Nat}{ps:List Pw}(h:BI w S s j pc Ab cb ps)(v:Value):xD w (MB S Ab) (w.setCell ⟨S.a,3,none⟩ v) (xM S (dyJ j pc Ab cb)):=
 ((JE w S.a 3 v).zFD (G':=MB S Ab) fun b e=>.inl e).trans (zBf fun b hb=>zUQ.1 hb)
theorem BI.nb {w:World}{S:StN}{s:Nr}{j:Nat}{pc:Array Value}{Ab:Option Addr}{cb:Nat}{ps:List Pw}(h:BI w S s j pc Ab cb ps)(hj:j<ps.length) :
  NB (w.setCell ⟨S.a,3,none⟩ (.pointer (some ⟨S.bp,j*5,none⟩))) S { s with vars:=[] } (dyJ j pc Ab cb):=by
 obtain⟨v3,hrd⟩:=h.rd;have mv:=h.zOj (.pointer (some ⟨S.bp,j*5,none⟩));have hkeep:∀b,b≠S.a→(w.setCell ⟨S.a,3,none⟩ (.pointer (some ⟨S.bp,j*5,none⟩))).heap[b]?=w.heap[b]?:=fun b hb=>zS w ⟨S.a,3,none⟩ _ b hb;have hpj:=yJ hj;obtain⟨e1,e2,e3⟩:=h.td j _ (zX _) hpj
 have hpc2:pc[j*5+2]?=some (.slice none 0 0):=by
  rw[h.pcs (j*5+2) (by omega),zCU ps j hj 2 (by decide)];unfold prc;rw[e1,e2]
  rfl
 have hrd':=hrd.put 3 (.pointer (some ⟨S.bp,j*5,none⟩));refine⟨h.st.xG mv,?_,(hkeep S.bo (Blk.differ h.of hrd (by decide))).trans h.of,h.len,(hkeep S.bp (Blk.differ h.pr hrd (by decide))).trans h.pr,hpc2,zR _ _ _ _,?_,by show 0=s.blocks.length; rw[h.bz]; rfl,fun k b x e=>(by have e:s.blocks[k]?=some x:=e; rw[h.bz] at e; cases e),fun b hb=>(by cases hb),List.nodup_nil,zW _,Nat.le_trans h.low mv.size,fun _=>rfl⟩
 ·show Blk _ S.a 86 #[.pointer (some ⟨S.p,0,none⟩),.map (some S.mt),.slice S.Ac s.xH.length S.cc,.pointer (some ⟨S.bp,j*5,none⟩),.slice Ab s.blocks.length cb]
  rw[h.bz];exact hrd'
 ·show World.ownsRow _ S.B 184 1 (.slice Ab s.blocks.length cb) s.blocks.length (YK [])
  rw[h.bz];refine ZK h.blocks fun b e=>hkeep b ?_;obtain⟨cur,hc⟩:=xY h.blocks e;exact Blk.differ hc hrd (by decide)
theorem BI.par {w:World}{S:StN}{s:Nr}{j:Nat}{pc:Array Value}{Ab:Option Addr}{cb:Nat}{ps:List Pw}(h:BI w S s j pc Ab cb ps)(hj:j<ps.length):pc[j*5+1]?=some (.int .i64 0)∧pc[j*5+4]?=some (.int .i64 (ps[j].1.root:Int)):=by
 have hpj:=yJ hj;obtain⟨e1,e2,e3⟩:=h.td j _ (zX _) hpj
 constructor
 ·rw[h.pcs (j*5+1) (by omega),zCU ps j hj 1 (by decide)];unfold prc;rw[e3]
  rfl
 ·rw[h.pcs (j*5+4) (by omega),zCU ps j hj 4 (by decide)]
  rfl
def zAG (ps:List Pw)(j n:Nat)(vars:List Bs)(Av:Option Addr)(cv:Nat):List Pw:=ps.modify j fun x=>({ x.1 with params:=n,vars:=vars },(Av,cv))
theorem BI.step {w w':World}{S:StN}{s s':Nr}{j n:Nat}{pc:Array Value}{Ab:Option Addr}{cb:Nat}{ps:List Pw}{R':DyN}(h:BI w S s j pc Ab cb ps)(hj:j<ps.length)(hq:QB n (dyJ j pc Ab cb) R')(hn:NB w' S s' R')(mv:xD (w.setCell ⟨S.a,3,none⟩ (.pointer (some ⟨S.bp,j*5,none⟩))) (xM S (dyJ j pc Ab cb)) w' (xM S R'))
  (hb:s'.blocks=[]) (hpr:s'.procs=s.procs) (htb:s'.xH=s.xH):BI w' S { s' with procs:=(zAG ps j n s'.vars R'.Av R'.cv).map Prod.fst } (j+1) R'.pc R'.Ab R'.cb (zAG ps j n s'.vars R'.Av R'.cv):=by
 have hbm:R'.bm=[]:=List.eq_nil_of_length_eq_zero (by rw[hn.bml,hb]; rfl)
 have less:∀b,MB S R'.Ab b→xM S R' b:=fun b hb=>by
  rcases hb with e | e | e | e
  ·exact .inl e
  ·exact .inr (.inl e)
  ·exact .inr (.inr (.inl e))
  ·exact .inr (.inr (.inr (.inr (.inl e))))
 have mv1:xD w (MB S Ab) w' (MB S R'.Ab):=((h.zOj _).trans mv).trans (zBf less);have hbl:=hn.blocks;rw[hb,hbm] at hbl;have hrd:=hn.rd;rw[hb] at hrd
 have hlen:(zAG ps j n s'.vars R'.Av R'.cv).length=ps.length:=by simp[zAG]
 have hoth:∀i,i≠j→(zAG ps j n s'.vars R'.Av R'.cv)[i]?=ps[i]?:=fun i hi=>by
  unfold zAG;rw[List.getElem?_modify];simp[Ne.symm hi]
 have hself:(zAG ps j n s'.vars R'.Av R'.cv)[j]?=some ({ ps[j].1 with params:=n,vars:=s'.vars },(R'.Av,R'.cv)):=by
  unfold zAG;rw[List.getElem?_modify];simp[hj]
 have hqj:R'.j=j:=hq.j;have hpv:=hn.pv;rw[hqj] at hpv;have hp1:=hq.par (h.par hj).1;refine⟨hn.st.xG (zBf less),⟨_,hrd⟩,hn.of,hn.len,hn.pr,hbl,hn.low,hb,rfl,fun i hi=>?_,fun i x hi e=>?_,fun i x hi e=>?_,fun k x y e1 e2=>(h.tk k x y (by rw[←htb]; exact e1) e2).xG mv1⟩
 ·rw[hlen] at hi;obtain⟨q,r,hr5,rfl⟩:∃q r,r<5∧i=q*5+r:=⟨i / 5,i % 5,Nat.mod_lt _ (by decide),by omega⟩
  have hq5:q<ps.length:=by omega
  have hq6:q<(zAG ps j n s'.vars R'.Av R'.cv).length:=by rw[hlen]; exact hq5
  rw[zCU _ q hq6 r hr5]
  by_cases hqe:q=j
  ·subst hqe
   have e:(zAG ps q n s'.vars R'.Av R'.cv)[q]=({ ps[q].1 with params:=n,vars:=s'.vars },(R'.Av,R'.cv)):=by
    have:=hself
    rw[yJ hq6] at this;exact Option.some.inj this
   rw[e]
   by_cases h1:r=1
   ·subst h1; exact hp1
   ·by_cases h2:r=2
    ·subst h2; exact hpv
    ·rw[hq.pc (q*5+r) (by show _≠q*5+1; omega) (by show _≠q*5+2; omega)]
     show pc[q*5+r]?=_
     rw[h.pcs _ hi,zCU ps q hq5 r hr5];unfold prc
     match r,hr5,h1,h2 with
     | 0,_,_,_=>rfl
     | 3,_,_,_=>rfl
     | 4,_,_,_=>rfl
  ·have e:(zAG ps j n s'.vars R'.Av R'.cv)[q]=ps[q]:=by
    have:=hoth q hqe
    rw[yJ hq6,yJ hq5] at this;exact Option.some.inj this
   rw[e,hq.pc (q*5+r) (by show _≠j*5+1; omega) (by show _≠j*5+2; omega)]
   show pc[q*5+r]?=_
   rw[h.pcs _ hi,zCU ps q hq5 r hr5]
 ·by_cases hij:i=j
  ·subst hij;rw[hself] at e;injection e with e;subst e
   show XE w' (MB S R'.Ab) R'.Av (strs s'.vars)
   rcases Cells.own hn.vars with hc | ⟨b,off,e1,e2,e3⟩
   ·exact .inl hc
   ·refine .inr ⟨b,off,e1,e2,fun hm=>?_,e3⟩
    by_cases hnil:strs s'.vars=[]
    ·have hl:s'.vars.length=0:=by have:=congrArg List.length hnil; rwa [zIS] at this
     have hv:=hn.vars
     obtain⟨cur,hcur⟩:∃cur,Blk w' b 9 cur:=by
      rcases hv.2 with ⟨hv,_⟩ | ⟨g,cap,cur,hv,_,hh,_⟩
      ·injection hv with h1; rw[h1] at e1; cases e1
      ·injection hv with h1;rw[h1] at e1;injection e1 with e1;injection e1 with e1;subst e1;exact⟨cur,hh⟩
     rcases hm with e | e | e | e
     ·exact Blk.differ hcur hn.rd (by decide) e
     ·exact Blk.differ hcur hn.of (by decide) e
     ·exact Blk.differ hcur hn.pr (by decide) e
     ·obtain⟨c2,h2⟩:=xY hn.blocks e;exact Blk.differ hcur h2 (by decide) rfl
    ·obtain⟨b',e4,_,cur,hcur⟩:=zF9 hn.vars hnil;rw[e1] at e4;injection e4 with e4;injection e4 with e4;subst e4
     rcases hm with e | e | e | e
     ·exact Blk.differ hcur hn.rd (by decide) e
     ·exact Blk.differ hcur hn.of (by decide) e
     ·exact Blk.differ hcur hn.pr (by decide) e
     ·obtain⟨c2,h2⟩:=xY hn.blocks e;exact Blk.differ hcur h2 (by decide) rfl
  ·rw[hoth i hij] at e;exact(h.dn i x (by omega) e).xG mv1
 ·rw[hoth i (by omega)] at e;exact h.td i x (by omega) e
end Go.Proofs.YtbadjmmjbpeocaaGreatDoor
