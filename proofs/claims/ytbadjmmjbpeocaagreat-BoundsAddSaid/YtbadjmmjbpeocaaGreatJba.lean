/- The reader of names: body: a procedure. (and what follows of it). The conditions stand at each lemma. -/
import Derived.Test.YtbadjmmjbpeocaaGreatJaa
import Derived.Test.YtbadjmmjbpeocaaGreatJaz
import Derived.Test.YtbadjmmjbpeocaaGreatJac
import Derived.Test.YtbadjmmjbpeocaaGreatJaw
import Derived.Test.YtbadjmmjbpeocaaGreatJat
set_option linter.unusedVariables false
set_option linter.unusedSimpArgs false
set_option maxRecDepth 100000
set_option maxHeartbeats 16000000
namespace Go.Proofs.YtbadjmmjbpeocaaGreat
open Go Go.RowKit
structure QB (n:Nat)(R R':DyN):Prop where
 j:R'.j=R.j
 sz:R'.pc.size=R.pc.size
 pc:∀i,i≠R.j*5+1→i≠R.j*5+2→R'.pc[i]?=R.pc[i]?
 par:R.pc[R.j*5+1]?=some (.int .i64 0)→R'.pc[R.j*5+1]?=some (.int .i64 (n:Int))
theorem QB.zero (R:DyN):QB 0 R R:=⟨rfl,rfl,fun _ _ _=>rfl,fun h=>h⟩
theorem QB.step {n:Nat}{R R1 R2:DyN}(h:QB n R R1)(k:ZQ R1 R2):QB n R R2:=
 ⟨k.j.trans h.j,k.sz.trans h.sz,fun i h1 h2=>(k.pc i (by rw[h.j]; exact h2)).trans (h.pc i h1 h2),fun hp=>(k.pc _ (by rw[h.j]; omega)).trans (h.par hp)⟩
theorem QB.zU9 {n:Nat}{R R1:DyN}(h:QB n R R1)(hp:R.pc[R.j*5+1]?=some (.int .i64 0)):QB (n+1) R { R1 with pc:=R1.pc.setIfInBounds (R1.j*5+1) (.int .i64 ((n:Int)+1)) }:=by
 have AA:=h.par hp;obtain⟨AB,_⟩:=Array.getElem?_eq_some_iff.1 AA;refine⟨h.j,by rw[←h.sz]; simp,fun i h1 h2=>?_,fun _=>?_⟩
 ·show(R1.pc.setIfInBounds (R1.j*5+1) _)[i]?=_
  rw[Array.getElem?_setIfInBounds_ne (by rw[h.j]; omega)];exact h.pc i h1 h2
 ·show(R1.pc.setIfInBounds (R1.j*5+1) _)[R.j*5+1]?=_
  rw[h.j,Array.getElem?_setIfInBounds_self_of_lt AB]
  simp
theorem QB.zUA (n:Nat)(R1 R2 R3 R4:DyN)(h1:R1.pc=R3.pc)(h2:R1.j=R3.j)(h3:R2.pc=R4.pc)(h4:R2.j=R4.j)(h:QB n R1 R2):QB n R3 R4:=
 ⟨by rw[←h2,←h4]; exact h.j,by rw[←h1,←h3]; exact h.sz,fun i a b=>by rw[←h1,←h3]; exact h.pc i (by rw[h2]; exact a) (by rw[h2]; exact b),fun a=>by rw[←h3,←h2]; exact h.par (by rw[h1,h2]; exact a)⟩
theorem NB.zUF {w:World}{S:StN}{s:Nr}{R:DyN}(h:NB w S s R)(u:Value) :
  NB (w.setCell ⟨S.bp,R.j*5+1,none⟩ u) S s { R with pc:=R.pc.setIfInBounds (R.j*5+1) u } ∧ xC w (xL S R) (w.setCell ⟨S.bp,R.j*5+1,none⟩ u) (xL S { R with pc:=R.pc.setIfInBounds (R.j*5+1) u }):=by
 obtain⟨k,hm⟩:=h.kept (G:=fun b=>b=S.bp) (fun g e _=>.inr (.inr (.inl e))) (JL w S.bp (R.j*5+1) u);obtain⟨n1,n2,n3⟩:=h.apart;refine⟨⟨k.st,k.rd n3,k.of n2,h.len,h.pr.put (R.j*5+1) u,?_,k.vars fun b e=>(h.VP b e).2.2.1,k.blocks fun b e=>(h.VI b e).2.2.1,h.bml,fun j b y h1 h2=>k.maps j b y (h.of_map b (yB h2)).2.2 h1 h2,h.own,h.nodup,h.few,k.low,h.vz⟩,hm⟩
 show(R.pc.setIfInBounds (R.j*5+1) u)[R.j*5+2]?=_
 rw[Array.getElem?_setIfInBounds_ne (by omega)];exact h.pv
structure BoF (w:World)(M:Nat→Prop)(S:StN)(j root g0 g1 g2:Nat):Prop where
 b0:Safe w M g0 107 #[.pointer (some ⟨S.a,0,none⟩)]
 b1:Safe w M g1 38 (vT S.l root)
 b2:Safe w M g2 112 #[.pointer (some ⟨S.bp,j*5,none⟩)]
theorem BoF.xE {w w':World}{M M':Nat→Prop}{S:StN}{j root g0 g1 g2:Nat}(h:BoF w M S j root g0 g1 g2)(k:xC w M w' M'):BoF w' M' S j root g0 g1 g2:=⟨h.b0.xE k,h.b1.xE k,h.b2.xE k⟩
def zFj (t:List Nd)(k:Nat):Nn:=fun s=>if (zA3 s (yZ t k).text).isSome=true then .err k 71 else jF t k false s
theorem zLD (t:List Nd)(k:Nat)(l:List Nat)(s:Nr):XE t (k::l) s=(zFj t k s).bind (XE t l):=by
 unfold zFj;rw[XE]
 split <;> rfl
def VB (N:Nat)(w w':World):Prop:=(N≤w.heap.size→Below N w w')∧w.heap.size≤w'.heap.size∧∀g cs,Blk w g 169 cs→∃cs':Array Value,cs'.size=cs.size∧Blk w' g 169 cs'
theorem VB.trans {N:Nat}{a b c:World}(h:VB N a b)(k:VB N b c):VB N a c:=
 ⟨fun hN=>(h.1 hN).trans (k.1 (Nat.le_trans hN h.2.1)),Nat.le_trans h.2.1 k.2.1,fun g cs hg=>by
  obtain⟨c1,e1,h1⟩:=h.2.2 g cs hg;obtain⟨c2,e2,h2⟩:=k.2.2 g c1 h1
  exact⟨c2,e2.trans e1,h2⟩⟩
theorem VB.ext {N:Nat}{w w':World}(hx:Ext w w'):VB N w w':=⟨fun hN=>zDP hx hN,hx.size,fun g cs hg=>⟨cs,rfl,hg.ext hx⟩⟩
theorem VB.set {N:Nat}{w:World}{g i:Nat}{u:Value}(hg:N≤g):VB N w (w.setCell ⟨g,i,none⟩ u):=
 ⟨fun _=>(Below.refl _ _).setCell (p:=⟨g,i,none⟩) hg _,by simp[World.setCell],fun g' cs hc=>by
  by_cases e:g'=g
  ·subst e;exact⟨_,by simp,hc.put i u⟩
  ·exact⟨cs,rfl,hc.far (p:=⟨g,i,none⟩) e u⟩⟩
theorem zIE {P:Program}{id:Nat}{Q':Exit→Act→World→Prop}{a:Act}{w:World}{l:List Oper}{ks:List Take}(hm:P.follows .mixedOrders=true)(hB:YG l.toArray l.length=true)(hT:zBY l.toArray l.length=true)
  (h:ZF P l.toArray (VB w.heap.size) w (fun a' w'=>Q' .normal a' w') l ks a []):(Code.region id l.toArray true).wp P Q' a w:=by
 refine ZZ (R:=VB w.heap.size) l.length ks hm hB hT (fun _ _ _=>VB.trans) (VB.ext (Below.drew (Below.refl _ _))) ?_;rw[List.take_length,List.drop_length];exact h
def zRi (N:Nat)(v:Value)(w:World):Prop:=∃g a b,v=.pointer (some ⟨g,0,none⟩)∧Blk w g 169 #[a,b]∧N≤g
theorem zRi.jL {N:Nat}{v:Value}{w w':World}(h:zRi N v w)(k:VB N w w'):zRi N v w':=by
 obtain⟨g,a,b,hv,hg,hn⟩:=h;obtain⟨cs,hs,hc⟩:=k.2.2 g _ hg;obtain⟨l⟩:=cs
 match l,hs with
 | [x,y],_=>exact⟨g,x,y,hv,hc,hn⟩
theorem zN4 (f:Nat)(S:StN)(hT:zEb S)(hfl:S.l.length≤f)(hf4:f≤40000)(w:World)(s:Nr)(R:DyN)(root g0 g1 g2 na nb:Nat)(h:NB w S s R)(hF:BoF w (xL S R) S R.j root g0 g1 g2)(hi:root<S.l.length)(hb:s.blocks.length≤10)(hne:s.blocks≠[])(hkk:(yZ (tN S.l) root).kids=[na,nb])(hpar:R.pc[R.j*5+1]?=some (.int .i64 0)) :
  Calls Tryz.prog 86 #[.pointer (some ⟨g0,0,none⟩),.pointer (some ⟨g1,0,none⟩),.pointer (some ⟨g2,0,none⟩)] w (zCe (QB (yZ (tN S.l) na).kids.length) w S R ((XE (tN S.l) (yZ (tN S.l) na).kids s).bind (ZJ (tN S.l) (vP (tN S.l) f) nb true)) vU):=by
 have HT:=yG hT;have Av:=yG h;have HF:=yG hF;have Aq:Hid (S.l.length≤f∧f≤40000):=yG ⟨hfl,hf4⟩;have AR:=yG hpar;have A2:Hid (s.blocks.length≤10∧s.blocks≠[]):=yG ⟨hb,hne⟩;have Ak:Hid (root<na∧na<S.l.length):=yG (hT.up (by rw[hkk]; simp));have AS:Hid (root<nb∧nb<S.l.length):=yG (hT.up (by rw[hkk]; simp));have Aj:Hid (∀k,k ∈ (yZ (tN S.l) na).kids→na<k∧k<S.l.length):=yG fun k hk=>hT.up hk;have A4:Hid (∀(wr:World) (sk:Nr) (Rk:DyN),NB wr S sk Rk→Cells wr (hdN S.l na).1 (ints (yZ (tN S.l) na).kids)):=yG fun wr sk Rk hn=>(hn.st.tree.kid na (hT.up (i:=root) (by rw[hkk]; simp)).2).cells;have BA:=hT.kl na
 have Ai:∀(W:World) (M:Nat→Prop),BoF W M S R.j root g0 g1 g2→W.cell? ⟨g1,4,none⟩=some (.slice (hdN S.l root).1 2 (hdN S.l root).2):=fun W M h=>by have:=h.b1.1.cell 4; rw[show(vT S.l root)[4]?=some (.slice (hdN S.l root).1 (yZ (tN S.l) root).kids.length (hdN S.l root).2) from rfl,hkk] at this; exact this
 have AY:∀(wr:World) (sk:Nr) (Rk:DyN),NB wr S sk Rk→Cells wr (hdN S.l root).1 (ints [na,nb]):=fun wr sk Rk hn=>by have:=(hn.st.tree.kid root hi).cells; rw[hkk] at this; exact this
 generalize (hdN S.l root).2=rc at *;obtain⟨kb,ko,Au,_,_⟩:=(AY _ _ _ h).at_ (by simp[ints]);rw[Au] at Ai AY;have At:=yG Ai
 have Ab:Hid (∀(wr:World) (sk:Nr) (Rk:DyN),NB wr S sk Rk→kb<wr.heap.size∧wr.cell? ⟨kb,ko,none⟩=some (.int .i64 (na:Int))∧wr.cell? ⟨kb,ko+1,none⟩=some (.int .i64 (nb:Int))):=yG fun wr sk Rk hn=>by
  obtain⟨b',o',e1,e2,e3⟩:=(AY wr sk Rk hn).at_ (by simp[ints]);injection e1 with e1;injection e1 with e1 e1';subst e1 e1';exact⟨e2,(e3 0 (by simp[ints])).trans rfl,(e3 1 (by simp[ints])).trans rfl⟩
 have q2:w.cell? ⟨g0,0,none⟩=some (.pointer (some ⟨S.a,0,none⟩)):=hF.b0.1.cell 0;have l2:=hF.b0.1.lt;have n4:=At.out _ _ hF;have l4:=hF.b1.1.lt;have zFk:=(Ab.out _ _ _ h).2.1;have Ac:=(Ab.out _ _ _ h).1;clear hT h hfl hf4 hi hb hne hF hkk Ai AY Au hpar
 go_enter Tryz.func86,Tryz.ntmps86
 go_upto_region 0 with fail
 apply ZP (by kernel_rfl) (by kernel_rfl) (by kernel_rfl);apply sL q2 l2 (.pointer (some ⟨S.a,0,none⟩))
 try simp only[Act.put,yD,yE,yF]
 apply sQ (.pointer (some ⟨g1,4,none⟩))
 try simp only[Act.put,yD,yE,yF]
 apply sL n4 l4 (.slice (some ⟨kb,ko,none⟩) 2 rc)
 try simp only[Act.put,yD,yE,yF]
 apply sQ (.pointer (some ⟨kb,ko,none⟩))
 try simp only[Act.put,yD,yE,yF]
 apply sL zFk Ac (.int .i64 (na:Int))
 try simp only[Act.put,yD,yE,yF]
 apply xB (.agg (vT S.l na)) rfl rfl rfl
 ·intro w' AA hH;clear hH;simp[xA,go_sem];refine(vW w' S.a S.p S.A S.ct S.l na (Av.out.ext AA).rds Ak.out.2).mono ?_;rintro e w2 ⟨rfl,hx⟩;exact⟨_,rfl,rfl,hx⟩
 try simp only[Act.put,yD,yE,yF]
 apply sP zFr (.slice (hdN S.l na).1 (yZ (tN S.l) na).kids.length (hdN S.l na).2)
 try simp only[Act.put,yD,yE,yF]
 apply sQ (.int .i64 ((yZ (tN S.l) na).kids.length:Int))
 try simp only[Act.put,yD,yE,yF]
 apply sQ (.int .i64 0)
 try simp only[Act.put,yD,yE,yF]
 apply xR;intro w1 Al hH;clear hH;have Aw:=yG (Av.out.ext Al);have Ao:=yG (xC.ext (M:=xL S R) Al);have A3:=yG (HF.out.xE Ao.out);clear Al q2 l2 n4 l4 zFk Ac
 go_upto_region 1 with fail
 generalize vT S.l na=nC at *;generalize (yZ (tN S.l) na).kids=ps at *;generalize (hdN S.l na).1=kA at *;generalize (hdN S.l na).2=kc at *;have Ax:Hid ((XE (tN S.l) ps s).bind (ZJ (tN S.l) (vP (tN S.l) f) nb true)=(XE (tN S.l) (ps.drop 0) s).bind (ZJ (tN S.l) (vP (tN S.l) f) nb true)):=yG rfl;generalize hwhole:(XE (tN S.l) ps s).bind (ZJ (tN S.l) (vP (tN S.l) f) nb true)=AC at *;clear hwhole
 go_loopw [15] (fun i' wr=>∃(k:Nat) (sk:Nr) (Rk:DyN),k≤ps.length∧i'=.int .i64 k∧Hid (NB wr S sk Rk)∧Hid (xC w (xL S R) wr (xL S Rk))∧Hid (QB k R Rk)∧Hid (sk.blocks.length≤10∧sk.blocks≠[])∧Hid (BoF wr (xL S Rk) S R.j root g0 g1 g2)∧Hid (AC=(XE (tN S.l) (ps.drop k) sk).bind (ZJ (tN S.l) (vP (tN S.l) f) nb true))) (fun i' _=>ps.length-(intOf i').toNat)
 case atStart=>exact⟨0,s,R,zW _,rfl,Aw,Ao,yG (QB.zero R),A2,A3,Ax⟩
 case round=>
  obtain⟨k,sk,Rk,hk,rfl,AD,Af,Ap,AJ,AI,Ad⟩:=hrel;obtain⟨wa,rfl⟩:∃wa:World,wa=wr:=⟨_,rfl⟩
  by_cases AV:k<ps.length
  ·have d0:decide ((k:Int)<(ps.length:Int))=true:=yS (by omega)
   have q1:(k:Int)<(ps.length:Int):=by omega
   obtain⟨b,A7,rfl,hb,As⟩:=(A4.out wa sk Rk AD.out).at_ (by rw[vK]; omega)
   have e0:wa.cell? ⟨b,A7+k,none⟩=some (.int .i64 ((ps[k]:Nat):Int)):=by rw[As k (by rw[vK]; exact AV)]; simp[ints,AV]
   have Ah:Hid (ps[k] ∈ ps):=yG (yO AV);have Ae:Hid (XE (tN S.l) (ps.drop k) sk=(zFj (tN S.l) ps[k] sk).bind (XE (tN S.l) (ps.drop (k+1)))):=yG (by rw[List.drop_eq_getElem_cons AV,zLD]);clear As;generalize ps[k]=c at *;have AN:=yG (Aj.out c Ah.out).2;have Ar:Hid ((yZ (tN S.l) c).text.length≤maxLen):=yG (AD.out.st.tree.txt c);have q2:wa.cell? ⟨g0,0,none⟩=some (.pointer (some ⟨S.a,0,none⟩)):=AI.out.b0.1.cell 0;have l2:=AI.out.b0.1.lt;obtain⟨fo,Aa⟩:∃fo,Hid (zA3 sk (yZ (tN S.l) c).text=fo):=⟨_,yG rfl⟩
   go_upto_region 3 with fail
   clear e0
   cases fo with
   | some v=>
    have AH:Hid (zFj (tN S.l) c sk=.err c 71):=yG (by unfold zFj; rw[Aa.out]; rfl);apply zIE (by kernel_rfl) (by kernel_rfl) (by kernel_rfl);apply xB (.pointer (some ⟨S.a,0,none⟩)) rfl rfl rfl
    ·intro w' AA hH;have cc:=((AA.1 (zX _)).cell (p:=⟨g0,0,none⟩) l2).trans q2;clear hH;simp[xA,go_sem,cc];exact VB.ext (Ext.refl _)
    (try simp only[Act.put,yD,yE,yF]);apply xB (.pointer (some ⟨S.a,0,none⟩)) rfl rfl rfl
    ·intro w' AA hH;have cc:=((AA.1 (zX _)).cell (p:=⟨g0,0,none⟩) l2).trans q2;clear hH;simp[xA,go_sem,cc];exact VB.ext (Ext.refl _)
    (try simp only[Act.put,yD,yE,yF]);apply xB (.int .i64 (c:Int)) rfl rfl rfl
    ·intro w' AA hH;clear hH;simp[xA,go_sem];exact VB.ext (Ext.refl _)
    (try simp only[Act.put,yD,yE,yF]);apply xB (.agg (vT S.l c)) rfl rfl rfl
    ·intro w' AA hH;clear hH;simp[xA,go_sem];refine(vW w' S.a S.p S.A S.ct S.l c (AD.out.ext (AA.1 (zX _))).rds AN.out).mono ?_;rintro e w2 ⟨rfl,hx⟩;exact⟨_,rfl,rfl,VB.ext hx⟩
    (try simp only[Act.put,yD,yE,yF]);apply xB (.string (xG (yZ (tN S.l) c).text)) rfl rfl rfl
    ·intro w' AA hH;clear hH;simp[xA,go_sem,XZ];exact VB.ext (Ext.refl _)
    (try simp only[Act.put,yD,yE,yF]);apply xB (.tuple #[.agg #[.int .i64 (v.n:Int),.bool v.loop],.bool true]) rfl rfl rfl
    ·intro w' AA hH;clear hH;simp[xA,go_sem];refine((AD.out.ext (AA.1 (zX _))).zED (by have:=AJ.out.1; omega) _ Ar.out).mono ?_;rintro e w2 ⟨rfl,hx⟩;exact⟨_,rfl,by rw[Aa.out]; rfl,VB.ext hx⟩
    (try simp only[Act.put,yD,yE,yF]);apply xB (.tuple #[.agg #[.int .i64 (v.n:Int),.bool v.loop],.bool true]) rfl rfl rfl
    ·intro w' AA hH;clear hH;simp[xA,go_sem];exact VB.ext (Ext.refl _)
    (try simp only[Act.put,yD,yE,yF]);apply xB (.agg #[.int .i64 (v.n:Int),.bool v.loop]) rfl rfl rfl
    ·intro w' AA hH;clear hH;simp[xA,go_sem];exact VB.ext (Ext.refl _)
    (try simp only[Act.put,yD,yE,yF]);apply xB (.bool true) rfl rfl rfl
    ·intro w' AA hH;clear hH;simp[xA,go_sem];exact VB.ext (Ext.refl _)
    (try simp only[Act.put,yD,yE,yF]);apply xZ (zRi wa.heap.size) (fun v w w' h hx=>h.jL hx) rfl rfl rfl
    ·intro w' AA hH;have hz:=AA.2.1;clear hH;simp[xA,go_sem];exact⟨⟨_,_,_,rfl,Blk.new _ _ _,hz⟩,VB.ext (Ext.alloc _ _)⟩
    intro v5;(try simp only[Act.put,yD,yE,yF]);apply xB undef rfl rfl rfl
    ·intro w' AA hH;obtain⟨gv,x,y,hv,AF,AQ⟩:=hH _ (List.mem_cons_self ..) ⟨_,rfl,by decide⟩;have y0:w'.cell? ⟨gv,0,none⟩=some x:=AF.cell 0;have y1:w'.cell? ⟨gv,1,none⟩=some y:=AF.cell 1;have z0:=AF.frozen 0;have z1:=AF.frozen 1;clear hH;subst hv;simp[xA,go_sem,y0,y1,z0,z1];exact(VB.set AQ).trans (VB.set AQ)
    (try simp only[Act.put,yD,yE,yF]);apply xB (.bool true) rfl rfl rfl
    ·intro w' AA hH;clear hH;simp[xA,go_sem];exact VB.ext (Ext.refl _)
    (try simp only[Act.put,yD,yE,yF]);apply xR;intro w3 AG hH;clear hH;have AK:Hid (Ext wa w3):=yG (AG.1 (zX _));clear AG q2 l2;have AT:=yG (AD.out.ext AK.out);have AW:=yG (AI.out.xE (xC.ext (M:=xL S Rk) AK.out));have q2:w3.cell? ⟨g0,0,none⟩=some (.pointer (some ⟨S.a,0,none⟩)):=AW.out.b0.1.cell 0
    go_wp2_with fail
    refine(JW w3 S.a S.p S.A S.ct S.l c 71 AT.out.rds AN.out).mono ?_;rintro e w4 ⟨rfl,rfl⟩
    have AL:Hid (zCe (QB ps.length) w S R AC vU (XI (YT S.l c) 71) w3):=yG (by
     rw[Ad.out,Ae.out,AH.out]
     exact⟨rfl,AN.out,_,Af.out.trans (xC.ext (M:=xL S Rk) AK.out)⟩)
    exact xJ (P:=Tryz.prog) (fn:=Tryz.f86) rfl AL.out
   | none=>
    have AH:Hid (zFj (tN S.l) c sk=jF (tN S.l) c false sk):=yG (by unfold zFj; rw[Aa.out]; rfl);apply zIE (by kernel_rfl) (by kernel_rfl) (by kernel_rfl);apply xB (.pointer (some ⟨S.a,0,none⟩)) rfl rfl rfl
    ·intro w' AA hH;have cc:=((AA.1 (zX _)).cell (p:=⟨g0,0,none⟩) l2).trans q2;clear hH;simp[xA,go_sem,cc];exact VB.ext (Ext.refl _)
    (try simp only[Act.put,yD,yE,yF]);apply xB (.pointer (some ⟨S.a,0,none⟩)) rfl rfl rfl
    ·intro w' AA hH;have cc:=((AA.1 (zX _)).cell (p:=⟨g0,0,none⟩) l2).trans q2;clear hH;simp[xA,go_sem,cc];exact VB.ext (Ext.refl _)
    (try simp only[Act.put,yD,yE,yF]);apply xB (.int .i64 (c:Int)) rfl rfl rfl
    ·intro w' AA hH;clear hH;simp[xA,go_sem];exact VB.ext (Ext.refl _)
    (try simp only[Act.put,yD,yE,yF]);apply xB (.agg (vT S.l c)) rfl rfl rfl
    ·intro w' AA hH;clear hH;simp[xA,go_sem];refine(vW w' S.a S.p S.A S.ct S.l c (AD.out.ext (AA.1 (zX _))).rds AN.out).mono ?_;rintro e w2 ⟨rfl,hx⟩;exact⟨_,rfl,rfl,VB.ext hx⟩
    (try simp only[Act.put,yD,yE,yF]);apply xB (.string (xG (yZ (tN S.l) c).text)) rfl rfl rfl
    ·intro w' AA hH;clear hH;simp[xA,go_sem,XZ];exact VB.ext (Ext.refl _)
    (try simp only[Act.put,yD,yE,yF]);apply xB (.tuple #[.agg #[.int .i64 0,.bool false],.bool false]) rfl rfl rfl
    ·intro w' AA hH;clear hH;simp[xA,go_sem];refine((AD.out.ext (AA.1 (zX _))).zED (by have:=AJ.out.1; omega) _ Ar.out).mono ?_;rintro e w2 ⟨rfl,hx⟩;exact⟨_,rfl,by rw[Aa.out]; rfl,VB.ext hx⟩
    (try simp only[Act.put,yD,yE,yF]);apply xB (.tuple #[.agg #[.int .i64 0,.bool false],.bool false]) rfl rfl rfl
    ·intro w' AA hH;clear hH;simp[xA,go_sem];exact VB.ext (Ext.refl _)
    (try simp only[Act.put,yD,yE,yF]);apply xB (.agg #[.int .i64 0,.bool false]) rfl rfl rfl
    ·intro w' AA hH;clear hH;simp[xA,go_sem];exact VB.ext (Ext.refl _)
    (try simp only[Act.put,yD,yE,yF]);apply xB (.bool false) rfl rfl rfl
    ·intro w' AA hH;clear hH;simp[xA,go_sem];exact VB.ext (Ext.refl _)
    (try simp only[Act.put,yD,yE,yF]);apply xZ (zRi wa.heap.size) (fun v w w' h hx=>h.jL hx) rfl rfl rfl
    ·intro w' AA hH;have hz:=AA.2.1;clear hH;simp[xA,go_sem];exact⟨⟨_,_,_,rfl,Blk.new _ _ _,hz⟩,VB.ext (Ext.alloc _ _)⟩
    intro v5;(try simp only[Act.put,yD,yE,yF]);apply xB undef rfl rfl rfl
    ·intro w' AA hH;obtain⟨gv,x,y,hv,AF,AQ⟩:=hH _ (List.mem_cons_self ..) ⟨_,rfl,by decide⟩;have y0:w'.cell? ⟨gv,0,none⟩=some x:=AF.cell 0;have y1:w'.cell? ⟨gv,1,none⟩=some y:=AF.cell 1;have z0:=AF.frozen 0;have z1:=AF.frozen 1;clear hH;subst hv;simp[xA,go_sem,y0,y1,z0,z1];exact(VB.set AQ).trans (VB.set AQ)
    (try simp only[Act.put,yD,yE,yF]);apply xB (.bool false) rfl rfl rfl
    ·intro w' AA hH;clear hH;simp[xA,go_sem];exact VB.ext (Ext.refl _)
    (try simp only[Act.put,yD,yE,yF]);apply xR;intro w3 AG hH;clear hH;have AK:Hid (Ext wa w3):=yG (AG.1 (zX _));clear AG q2 l2;have AT:=yG (AD.out.ext AK.out);have AP:=yG (Af.out.trans (xC.ext (M:=xL S Rk) AK.out));have AW:=yG (AI.out.xE (xC.ext (M:=xL S Rk) AK.out));have q2:w3.cell? ⟨g0,0,none⟩=some (.pointer (some ⟨S.a,0,none⟩)):=AW.out.b0.1.cell 0
    go_wp2_with fail
    refine(XC w3 (.pointer (some ⟨S.a,0,none⟩)) (c:Int) 71).mono ?_;rintro e w4 ⟨rfl,rfl⟩
    go_wp2_with fail
    clear q2;refine(zDQ w3 S sk Rk c false AT.out AN.out AJ.out.2 (by have:=AJ.out.1; omega)).mono ?_;intro e w5 AB
    cases hq:jF (tN S.l) c false sk with
    | err j er=>
     rw[hq] at AB;obtain⟨rfl,hj,M',hm⟩:=AB
     have AL:Hid (zCe (QB ps.length) w S R AC vU (XI (YT S.l j) er) w5):=yG (by
      rw[Ad.out,Ae.out,AH.out,hq]
      exact⟨rfl,hj,M',AP.out.trans hm⟩)
     exact xJ (P:=Tryz.prog) (fn:=Tryz.f86) rfl AL.out
    | ok s5=>
     rw[hq] at AB;obtain⟨rfl,R5,AE,AO,AM⟩:=AB;have Ag:=yG AO;have AX:=yG (Ap.out.step AE);have A0:=yG (AP.out.trans AM);have An:=yG (AW.out.xE AM)
     have A1:Hid (s5.blocks.length≤10∧s5.blocks≠[]):=yG (by
      have hk:=XL (zA8 AJ.out.2 hq);rw[hk.1]
      exact⟨AJ.out.1,hk.2⟩)
     have A6:Hid (AC=(XE (tN S.l) (ps.drop (k+1)) s5).bind (ZJ (tN S.l) (vP (tN S.l) f) nb true)):=yG (by rw[Ad.out,Ae.out,AH.out,hq]; rfl);have b2:w5.cell? ⟨g2,0,none⟩=some (.pointer (some ⟨S.bp,R.j*5,none⟩)):=An.out.b2.1.cell 0;have p1:w5.cell? ⟨S.bp,R.j*5+1,none⟩=some (.int .i64 (k:Int)):=(Ag.out.pr.cell _).trans (AX.out.par AR.out);have Az:w5.frozen? ⟨S.bp,R.j*5+1,none⟩=false:=Ag.out.pr.frozen _;have A9:IntKind.i64.wrap ((k:Int)+1)=(k:Int)+1:=IntWalk.i64_in _ (by omega);clear AO AM AE hq;unfold vU
     go_upto_region 7 with fail
     clear b2 p1 Az;have AU:=Ag.out.zUF (.int .i64 ((k:Int)+1));rw[AX.out.j] at AU;have A5:=yG AU.1;have Ay:=yG (A0.out.trans AU.2);have A8:=yG (An.out.xE AU.2);have AZ:=AX.out.zU9 AR.out;rw[AX.out.j] at AZ;have AZ:=yG AZ;clear AU;generalize w5.setCell ⟨S.bp,R.j*5+1,none⟩ (.int .i64 ((k:Int)+1))=w6 at *
     go_wp2_with fail
     go_roundw
     case rel=>exact⟨k+1,s5,_,by omega,by go_num,A5,Ay,AZ,A1,A8,A6⟩
     case measure=>simp[intOf]; omega
  ·obtain rfl:k=ps.length:=by omega
   have d0:decide ((ps.length:Int)<(ps.length:Int))=false:=by simp
   have d1:decide (ps.length<ps.length)=false:=by simp
   have Am:Hid (AC=ZJ (tN S.l) (vP (tN S.l) f) nb true sk):=yG (by rw[Ad.out,List.drop_length]; rfl);have q2:wa.cell? ⟨g0,0,none⟩=some (.pointer (some ⟨S.a,0,none⟩)):=AI.out.b0.1.cell 0;have l2:=AI.out.b0.1.lt;have n4:=At.out _ _ AI.out;have l4:=AI.out.b1.1.lt;have zMJ:=(Ab.out _ _ _ AD.out).2.2;have Ac:=(Ab.out _ _ _ AD.out).1
   go_upto_region 8 with fail
   go_still_tail 5,(by kernel_rfl)
   change wpList _ _ _ _ _ (World.drew wa)
   have AG:Ext wa (World.drew wa):=Below.drew (Below.refl _ _);generalize World.drew wa=w3 at *;clear n4 l4 q2 l2 zMJ Ac;have AT:=yG (AD.out.ext AG);have AP:=yG (Af.out.trans (xC.ext (M:=xL S Rk) AG));clear AG
   go_wp2_with fail
   refine(zFm f S HT.out (zK4 S HT.out f) w3 sk Rk nb true AT.out AS.out.2 (by have:=AS.out.1; have:=Aq.out; omega) (by have:=AJ.out.1; have:=Aq.out; omega)).mono ?_;intro e w5 AB
   cases hq:ZJ (tN S.l) (vP (tN S.l) f) nb true sk with
   | err j er=>
    rw[hq] at AB;obtain⟨rfl,hj,M',hm⟩:=AB
    have AL:Hid (zCe (QB ps.length) w S R AC vU (XI (YT S.l j) er) w5):=yG (by
     rw[Am.out,hq]
     exact⟨rfl,hj,M',AP.out.trans hm⟩)
    exact xJ (P:=Tryz.prog) (fn:=Tryz.f86) rfl AL.out
   | ok s5=>
    rw[hq] at AB;obtain⟨rfl,R5,AE,AO,AM⟩:=AB
    have AL:Hid (zCe (QB ps.length) w S R AC vU (.returned (.tuple #[])) w5):=yG (by
     rw[Am.out,hq]
     exact⟨rfl,R5,Ap.out.step AE,AO,AP.out.trans AM⟩)
    clear AO AM AE hq;unfold vU
    go_wp2_with fail
    go_end0;exact AL.out
def zFi (t:List Nd)(f na nb:Nat):Nn:=fun s=>(XE t (yZ t na).kids s).bind (ZJ t (vP t f) nb true)
theorem zQk (f:Nat)(S:StN)(hT:zEb S)(hfl:S.l.length≤f)(hf4:f≤40000)(w W0:World)(s:Nr)(R:DyN)(root na nb:Nat)(hW0:Hid (w.setCell ⟨S.a,3,none⟩ (.pointer (some ⟨S.bp,R.j*5,none⟩))=W0))(h:NB W0 S s R)(v3:Value)(AI:w.cell? ⟨S.a,3,none⟩=some v3)(hz3:w.frozen? ⟨S.a,3,none⟩=false)
  (hroot:R.pc[R.j*5+4]?=some (.int .i64 (root:Int))) (hpar:R.pc[R.j*5+1]?=some (.int .i64 0)) (hi:root<S.l.length) (hb:s.blocks.length≤5) (hkk:(yZ (tN S.l) root).kids=[na,nb]) :
  Calls Tryz.prog 51 #[.pointer (some ⟨S.a,0,none⟩),.pointer (some ⟨S.bp,R.j*5,none⟩)] w (zCe (QB (yZ (tN S.l) na).kids.length) W0 S R (ZH (zFi (tN S.l) f na nb) s) vU):=by
 have HT:=yG hT;have AT:Hid (S.l.length≤f∧f≤40000):=yG ⟨hfl,hf4⟩;have Ah:=yG h;have AQ:=yG hi;have AK:=yG hb;have Aa:=yG hkk;have AF:=yG hroot;have AL:=yG hpar
 have AU:Hid (∀b,xL S R b→b<w.heap.size):=yG fun b hm=>by have:=h.ZW hm; rw[←hW0.out] at this; simpa [World.setCell] using this
 have al:S.a<w.heap.size:=by have:=h.rd.lt; rw[←hW0.out] at this; simpa [World.setCell] using this
 have AM:Hid (W0.heap.size=w.heap.size):=yG (by rw[←hW0.out]; simp[World.setCell]);obtain⟨W2,AJ⟩:∃W2,Hid (((w.setCell ⟨S.a,3,none⟩ (.pointer (some ⟨S.bp,R.j*5,none⟩))).alloc (.cells #[.pointer (some ⟨S.a,0,none⟩)] 107)).alloc (.cells #[.pointer (some ⟨S.bp,R.j*5,none⟩)] 112)=W2):=⟨_,yG rfl⟩;have AY:Hid (Ext W0 W2):=yG (by rw[←AJ.out,hW0.out]; exact(Ext.alloc _ _).trans (Ext.alloc _ _))
 have AB:Hid (Safe W2 (xL S R) w.heap.size 107 #[.pointer (some ⟨S.a,0,none⟩)]∧Safe W2 (xL S R) (w.heap.size+1) 112 #[.pointer (some ⟨S.bp,R.j*5,none⟩)]):=yG (by
  rw[←AJ.out,hW0.out,←AM.out];refine⟨⟨(Blk.new _ _ _).alloc _,fun hm=>by have:=AU.out _ hm; have:=AM.out; omega⟩,⟨?_,fun hm=>by have:=AU.out _ hm; have:=AM.out; omega⟩⟩
  have:=Blk.new (W0.alloc (.cells #[.pointer (some ⟨S.a,0,none⟩)] 107)) 112 #[.pointer (some ⟨S.bp,R.j*5,none⟩)]
  rwa [yT] at this)
 clear hT h hfl hf4 hroot hpar hi hb hkk;have q0:((w.alloc (.cells #[.pointer (some ⟨S.a,0,none⟩)] 107)).alloc (.cells #[.pointer (some ⟨S.bp,R.j*5,none⟩)] 112)).cell? ⟨w.heap.size,0,none⟩=some (.pointer (some ⟨S.a,0,none⟩)):=((Blk.new _ _ _).alloc _).cell 0
 have q1:((w.alloc (.cells #[.pointer (some ⟨S.a,0,none⟩)] 107)).alloc (.cells #[.pointer (some ⟨S.bp,R.j*5,none⟩)] 112)).cell? ⟨w.heap.size+1,0,none⟩=some (.pointer (some ⟨S.bp,R.j*5,none⟩)):=by
  have:=(Blk.new (w.alloc (.cells #[.pointer (some ⟨S.a,0,none⟩)] 107)) 112 #[.pointer (some ⟨S.bp,R.j*5,none⟩)]).cell 0
  rwa [yT] at this
 go_enter Tryz.func51,Tryz.ntmps51
 go_upto_region 2 with fail
 rw[AJ.out];clear q0 q1 AJ AI hz3;obtain⟨g0,Ai⟩:∃g0,Hid (w.heap.size=g0):=⟨_,yG rfl⟩;obtain⟨g2,Ag⟩:∃g2,Hid (w.heap.size+1=g2):=⟨_,yG rfl⟩;rw[Ag.out,Ai.out] at AB ⊢;have AE:=yG (Ah.out.ext AY.out);have q0:W2.cell? ⟨g0,0,none⟩=some (.pointer (some ⟨S.a,0,none⟩)):=AB.out.1.1.cell 0;have l0:=AB.out.1.1.lt;have q2:W2.cell? ⟨g2,0,none⟩=some (.pointer (some ⟨S.bp,R.j*5,none⟩)):=AB.out.2.1.cell 0;have l2:=AB.out.2.1.lt;have qr:W2.cell? ⟨S.bp,R.j*5+4,none⟩=some (.int .i64 (root:Int)):=(AE.out.pr.cell _).trans AF.out;have lr:=AE.out.pr.lt;clear al;apply xN 7 (by kernel_rfl) (by kernel_rfl) (by kernel_rfl);dsimp only[List.take_succ_cons,List.take_zero,List.drop_succ_cons,List.drop_zero];apply sL q0 l0 (.pointer (some ⟨S.a,0,none⟩));apply sL q2 l2 (.pointer (some ⟨S.bp,R.j*5,none⟩));apply sQ (.pointer (some ⟨S.bp,R.j*5,none⟩));apply sQ (.pointer (some ⟨S.bp,R.j*5+4,none⟩));apply sL qr lr (.int .i64 (root:Int));apply xB (.agg (vT S.l root)) rfl rfl rfl
 ·intro w' AN hH;clear hH;simp[xA,go_sem];refine(vW w' S.a S.p S.A S.ct S.l root (AE.out.ext AN).rds AQ.out).mono ?_;rintro e w2 ⟨rfl,hx⟩;exact⟨_,rfl,rfl,hx⟩
 (try simp only[Act.put,yD,yE,yF]);apply xZ (zIh 38 #[.int .u8 0,.int .i64 0,.string ⟨#[]⟩,.int .i64 0,.slice none 0 0] W2.heap.size) (fun v w w' h hx=>h.ext hx) rfl rfl rfl
 ·intro w' AN hH;have hz:=AN.size;clear hH;simp[xA,go_sem];exact⟨⟨_,rfl,Blk.new _ _ _,hz⟩,Ext.alloc _ _⟩
 intro v4;(try simp only[Act.put,yD,yE,yF]);apply xR;intro w3 AI hH;obtain⟨g1,rfl,AV,AZ⟩:=hH _ (List.mem_cons_self ..);clear hH q0 l0 q2 l2 qr lr;have AD:=yG AI;have Ab:=yG AV;have AX:=yG AZ;clear AI AV AZ;(try simp only[Act.put,yD,yE,yF,List.drop_succ_cons,List.drop_zero]);refine xQ rfl 38 (.tmp 4) (.tmp 14) rfl g1 (vT S.l root) (by rfl) (by rfl) 38 _ Ab.out (by kernel_rfl) rfl rfl ?_;intro w4 AC AR;have AH:Hid (Ext W2 w4):=yG ⟨AC.os.trans AD.out.os,AC.tape.trans AD.out.tape,AC.output.trans AD.out.output,by rw[AC.size]; exact AD.out.size,fun b hb=>(AC.other b (by have:=AX.out; omega)).trans (AD.out.block b hb)⟩;have Ae:=yG (AE.out.ext AH.out);have AS:Hid (BoF w4 (xL S R) S R.j root g0 g1 g2):=yG ⟨AB.out.1.xE (xC.ext (M:=xL S R) AH.out),⟨AR,fun hm=>by have:=AE.out.ZW hm; have:=AX.out; omega⟩,AB.out.2.xE (xC.ext (M:=xL S R) AH.out)⟩;have q0:w4.cell? ⟨g0,0,none⟩=some (.pointer (some ⟨S.a,0,none⟩)):=AS.out.b0.1.cell 0;have AW:=yG (xC.ext (M:=xL S R) (AY.out.trans AH.out));clear AC AR
 go_wp2_with fail
 clear q0;refine(zEB (QB (yZ (tN S.l) na).kids.length) (QB.zUA _) w4 S s R 86 #[] #[.pointer (some ⟨g0,0,none⟩),.pointer (some ⟨g1,0,none⟩),.pointer (some ⟨g2,0,none⟩)] (zFi (tN S.l) f na nb) Ae.out (by have:=AK.out; omega) (enters_of Tryz.func86 (by kernel_rfl) rfl) (fun s' hq=>?_) (fun wr R' Ad hj hm hn=>?_)).mono ?_
 ·obtain⟨s1,e1,e2⟩:=XD hq;have k1:=XL (zDO _ _ _ (by simp) e1);have k2:=XL (zAB (fun k a b Ac hq=>zBa HT.out.R f k a b Ac hq) k1.2 e2);refine⟨k2.2,?_⟩;rw[k2.1,k1.1];simp only[zK]
  have:=AK.out
  omega
 ·have hF:=AS.out.xE hm;rw[←hj] at hF;exact zN4 f S HT.out AT.out.1 AT.out.2 wr { s with blocks:=[]::s.blocks } R' root g0 g1 g2 na nb hn hF AQ.out (by simp only[zK]; have:=AK.out; omega) (by simp) Aa.out (by rw[Ad,hj]; exact AL.out)
 ·intro e w5 AA
  cases hq:ZH (zFi (tN S.l) f na nb) s with
  | err j er=>
   rw[hq] at AA;obtain⟨rfl,hj,M',hm⟩:=AA;exact xJ (P:=Tryz.prog) (fn:=Tryz.f51) rfl ⟨rfl,hj,M',AW.out.trans hm⟩
  | ok s5=>
   rw[hq] at AA;obtain⟨rfl,R5,AG,AO,AP⟩:=AA;have Af:Hid (zCe (QB (yZ (tN S.l) na).kids.length) W0 S R (.ok s5) vU (.returned (.tuple #[])) w5):=yG ⟨rfl,R5,AG,AO,AW.out.trans AP⟩;have HQ:=yG hq;clear AO AP AG hq;unfold vU
   go_wp2_with fail
   go_end0;rw[HQ.out];exact Af.out
def dyJ (j:Nat)(pc:Array Value)(Ab:Option Addr)(cb:Nat):DyN:=⟨j,pc,none,0,Ab,cb,[]⟩
def MB (S:StN)(Ab:Option Addr)(b:Nat):Prop:=b=S.a∨b=S.bo∨b=S.bp∨Ab=some ⟨b,0,none⟩
theorem zUB {S:StN}{j:Nat}{pc:Array Value}{Ab:Option Addr}{cb b:Nat}:xL S (dyJ j pc Ab cb) b↔MB S Ab b:=by
 unfold xL MB dyJ
 constructor
 ·rintro (h | h | h | h | h | h)
  ·exact .inl h
  ·exact .inr (.inl h)
  ·exact .inr (.inr (.inl h))
  ·cases h
  ·exact .inr (.inr (.inr h))
  ·cases h
 ·rintro (h | h | h | h)
  ·exact .inl h
  ·exact .inr (.inl h)
  ·exact .inr (.inr (.inl h))
  ·exact .inr (.inr (.inr (.inr (.inl h))))
theorem zBb {w:World}{M M':Nat→Prop}(h:∀b,M' b→M b):xC w M w M':=⟨rfl,rfl,rfl,zX _,fun _ _ _=>rfl,fun b hb=>.inl (h b hb)⟩
structure BI (w:World)(S:StN)(s:Nr)(j:Nat)(pc:Array Value)(Ab:Option Addr)(cb:Nat)(ps:List Pw):Prop where
 st:zKN w (MB S Ab) S s.xH
 rd:∃v3,Blk w S.a 115 #[.pointer (some ⟨S.p,0,none⟩),.map (some S.mt),.slice S.Ac s.xH.length S.cc,v3,.slice Ab 0 cb]
 of:Blk w S.bo 3 (ofc s.of).toArray
 len:s.of.length=S.l.length
 pr:Blk w S.bp 85 pc
 blocks:w.ownsRow S.B 201 1 (.slice Ab 0 cb) 0 []
 low:S.B≤w.heap.size
 bz:s.blocks=[]
 psl:ps.map Prod.fst=s.procs
 pcs:∀i,i<ps.length*5→pc[i]?=(zBy ps)[i]?
 dn:∀(i:Nat) (x:Pw),i<j→ps[i]?=some x→XF w (MB S Ab) x.2.1 (strs x.1.vars)
 td:∀(i:Nat) (x:Pw),j≤i→ps[i]?=some x→x.2=(none,0)∧x.1.vars=[]∧x.1.params=0
 tk:∀(k:Nat) (x:Nt) (h:Hd2),s.xH[k]?=some x→S.th[k]?=some h→XF w (MB S Ab) h.1 (strs x.zBW)
theorem BI.zOp {w:World}{S:StN}{s:Nr}{j:Nat}{pc:Array Value}{Ab:Option Addr}{cb:Nat}{ps:List Pw}(h:BI w S s j pc Ab cb ps)(v:Value):xC w (MB S Ab) (w.setCell ⟨S.a,3,none⟩ v) (xL S (dyJ j pc Ab cb)):=
 ((JL w S.a 3 v).zFJ (G':=MB S Ab) fun b e=>.inl e).trans (zBb fun b hb=>zUB.1 hb)
theorem BI.nb {w:World}{S:StN}{s:Nr}{j:Nat}{pc:Array Value}{Ab:Option Addr}{cb:Nat}{ps:List Pw}(h:BI w S s j pc Ab cb ps)(hj:j<ps.length) :
  NB (w.setCell ⟨S.a,3,none⟩ (.pointer (some ⟨S.bp,j*5,none⟩))) S { s with vars:=[] } (dyJ j pc Ab cb):=by
 obtain⟨v3,AB⟩:=h.rd;have mv:=h.zOp (.pointer (some ⟨S.bp,j*5,none⟩));have AA:∀b,b≠S.a→(w.setCell ⟨S.a,3,none⟩ (.pointer (some ⟨S.bp,j*5,none⟩))).heap[b]?=w.heap[b]?:=fun b hb=>zS w ⟨S.a,3,none⟩ _ b hb;have AE:=yJ hj;obtain⟨e1,e2,e3⟩:=h.td j _ (zX _) AE
 have AC:pc[j*5+2]?=some (.slice none 0 0):=by
  rw[h.pcs (j*5+2) (by omega),zCI ps j hj 2 (by decide)];unfold prc;rw[e1,e2]
  rfl
 have AD:=AB.put 3 (.pointer (some ⟨S.bp,j*5,none⟩));refine⟨h.st.xE mv,?_,(AA S.bo (Blk.differ h.of AB (by decide))).trans h.of,h.len,(AA S.bp (Blk.differ h.pr AB (by decide))).trans h.pr,AC,zR _ _ _ _,?_,by show 0=s.blocks.length; rw[h.bz]; rfl,fun k b x e=>(by have e:s.blocks[k]?=some x:=e; rw[h.bz] at e; cases e),fun b hb=>(by cases hb),List.nodup_nil,zW _,Nat.le_trans h.low mv.size,fun _=>rfl⟩
 ·show Blk _ S.a 115 #[.pointer (some ⟨S.p,0,none⟩),.map (some S.mt),.slice S.Ac s.xH.length S.cc,.pointer (some ⟨S.bp,j*5,none⟩),.slice Ab s.blocks.length cb]
  rw[h.bz];exact AD
 ·show World.ownsRow _ S.B 201 1 (.slice Ab s.blocks.length cb) s.blocks.length (YL [])
  rw[h.bz];refine ZK h.blocks fun b e=>AA b ?_;obtain⟨AF,hc⟩:=vA h.blocks e;exact Blk.differ hc AB (by decide)
theorem BI.par {w:World}{S:StN}{s:Nr}{j:Nat}{pc:Array Value}{Ab:Option Addr}{cb:Nat}{ps:List Pw}(h:BI w S s j pc Ab cb ps)(hj:j<ps.length):pc[j*5+1]?=some (.int .i64 0)∧pc[j*5+4]?=some (.int .i64 (ps[j].1.root:Int)):=by
 have AA:=yJ hj;obtain⟨e1,e2,e3⟩:=h.td j _ (zX _) AA
 constructor
 ·rw[h.pcs (j*5+1) (by omega),zCI ps j hj 1 (by decide)];unfold prc;rw[e3]
  rfl
 ·rw[h.pcs (j*5+4) (by omega),zCI ps j hj 4 (by decide)]
  rfl
def zAG (ps:List Pw)(j n:Nat)(vars:List Bs)(Av:Option Addr)(cv:Nat):List Pw:=ps.modify j fun x=>({ x.1 with params:=n,vars:=vars },(Av,cv))
theorem BI.step {w w':World}{S:StN}{s s':Nr}{j n:Nat}{pc:Array Value}{Ab:Option Addr}{cb:Nat}{ps:List Pw}{R':DyN}(h:BI w S s j pc Ab cb ps)(hj:j<ps.length)(hq:QB n (dyJ j pc Ab cb) R')(hn:NB w' S s' R')(mv:xC (w.setCell ⟨S.a,3,none⟩ (.pointer (some ⟨S.bp,j*5,none⟩))) (xL S (dyJ j pc Ab cb)) w' (xL S R'))
  (hb:s'.blocks=[]) (hpr:s'.procs=s.procs) (htb:s'.xH=s.xH):BI w' S { s' with procs:=(zAG ps j n s'.vars R'.Av R'.cv).map Prod.fst } (j+1) R'.pc R'.Ab R'.cb (zAG ps j n s'.vars R'.Av R'.cv):=by
 have AO:R'.bm=[]:=List.eq_nil_of_length_eq_zero (by rw[hn.bml,hb]; rfl)
 have less:∀b,MB S R'.Ab b→xL S R' b:=fun b hb=>by
  rcases hb with e | e | e | e
  ·exact .inl e
  ·exact .inr (.inl e)
  ·exact .inr (.inr (.inl e))
  ·exact .inr (.inr (.inr (.inr (.inl e))))
 have AM:xC w (MB S Ab) w' (MB S R'.Ab):=((h.zOp _).trans mv).trans (zBb less);have AJ:=hn.blocks;rw[hb,AO] at AJ;have AI:=hn.rd;rw[hb] at AI
 have AD:(zAG ps j n s'.vars R'.Av R'.cv).length=ps.length:=by simp[zAG]
 have AC:∀i,i≠j→(zAG ps j n s'.vars R'.Av R'.cv)[i]?=ps[i]?:=fun i hi=>by
  unfold zAG;rw[List.getElem?_modify];simp[Ne.symm hi]
 have AB:(zAG ps j n s'.vars R'.Av R'.cv)[j]?=some ({ ps[j].1 with params:=n,vars:=s'.vars },(R'.Av,R'.cv)):=by
  unfold zAG;rw[List.getElem?_modify];simp[hj]
 have AR:R'.j=j:=hq.j;have AL:=hn.pv;rw[AR] at AL;have AP:=hq.par (h.par hj).1;refine⟨hn.st.xE (zBb less),⟨_,AI⟩,hn.of,hn.len,hn.pr,AJ,hn.low,hb,rfl,fun i hi=>?_,fun i x hi e=>?_,fun i x hi e=>?_,fun k x y e1 e2=>(h.tk k x y (by rw[←htb]; exact e1) e2).xE AM⟩
 ·rw[AD] at hi;obtain⟨q,r,AG,rfl⟩:∃q r,r<5∧i=q*5+r:=⟨i / 5,i % 5,Nat.mod_lt _ (by decide),by omega⟩
  have AF:q<ps.length:=by omega
  have AH:q<(zAG ps j n s'.vars R'.Av R'.cv).length:=by rw[AD]; exact AF
  rw[zCI _ q AH r AG]
  by_cases AK:q=j
  ·subst AK
   have e:(zAG ps q n s'.vars R'.Av R'.cv)[q]=({ ps[q].1 with params:=n,vars:=s'.vars },(R'.Av,R'.cv)):=by
    have:=AB
    rw[yJ AH] at this;exact Option.some.inj this
   rw[e]
   by_cases h1:r=1
   ·subst h1; exact AP
   ·by_cases h2:r=2
    ·subst h2; exact AL
    ·rw[hq.pc (q*5+r) (by show _≠q*5+1; omega) (by show _≠q*5+2; omega)]
     show pc[q*5+r]?=_
     rw[h.pcs _ hi,zCI ps q AF r AG];unfold prc
     match r,AG,h1,h2 with
     | 0,_,_,_=>rfl
     | 3,_,_,_=>rfl
     | 4,_,_,_=>rfl
  ·have e:(zAG ps j n s'.vars R'.Av R'.cv)[q]=ps[q]:=by
    have:=AC q AK
    rw[yJ AH,yJ AF] at this;exact Option.some.inj this
   rw[e,hq.pc (q*5+r) (by show _≠j*5+1; omega) (by show _≠j*5+2; omega)]
   show pc[q*5+r]?=_
   rw[h.pcs _ hi,zCI ps q AF r AG]
 ·by_cases AN:i=j
  ·subst AN;rw[AB] at e;injection e with e;subst e
   show XF w' (MB S R'.Ab) R'.Av (strs s'.vars)
   rcases Cells.own hn.vars with hc | ⟨b,AQ,e1,e2,e3⟩
   ·exact .inl hc
   ·refine .inr ⟨b,AQ,e1,e2,fun hm=>?_,e3⟩
    by_cases AE:strs s'.vars=[]
    ·have hl:s'.vars.length=0:=by have:=congrArg List.length AE; rwa [zMr] at this
     have hv:=hn.vars
     obtain⟨cur,AA⟩:∃cur,Blk w' b 9 cur:=by
      rcases hv.2 with ⟨hv,_⟩ | ⟨g,cap,cur,hv,_,hh,_⟩
      ·injection hv with h1; rw[h1] at e1; cases e1
      ·injection hv with h1;rw[h1] at e1;injection e1 with e1;injection e1 with e1;subst e1;exact⟨cur,hh⟩
     rcases hm with e | e | e | e
     ·exact Blk.differ AA hn.rd (by decide) e
     ·exact Blk.differ AA hn.of (by decide) e
     ·exact Blk.differ AA hn.pr (by decide) e
     ·obtain⟨c2,h2⟩:=vA hn.blocks e;exact Blk.differ AA h2 (by decide) rfl
    ·obtain⟨b',e4,_,cur,AA⟩:=zGd hn.vars AE;rw[e1] at e4;injection e4 with e4;injection e4 with e4;subst e4
     rcases hm with e | e | e | e
     ·exact Blk.differ AA hn.rd (by decide) e
     ·exact Blk.differ AA hn.of (by decide) e
     ·exact Blk.differ AA hn.pr (by decide) e
     ·obtain⟨c2,h2⟩:=vA hn.blocks e;exact Blk.differ AA h2 (by decide) rfl
  ·rw[AC i AN] at e;exact(h.dn i x (by omega) e).xE AM
 ·rw[AC i (by omega)] at e;exact h.td i x (by omega) e
theorem zIx {α β:Type}{r:XH α}{f:α→XH β}{y:β}(h:r.bind f=.ok y):∃x,r=.ok x∧f x=.ok y:=by
 cases r with
 | ok x=>exact⟨x,rfl,h⟩
 | err i e=>cases h
theorem zPI {α β:Type}{r:XH α}{f:α→XH β}{i:Nat}{e:Int}(h:r.bind f=.err i e):r=.err i e∨∃x,r=.ok x∧f x=.err i e:=by
 cases r with
 | ok x=>exact .inr ⟨x,rfl,h⟩
 | err j d=>
  injection h with a b;subst a;subst b;exact .inl rfl
structure zUm (t:List Nd)(K:List Nat)(s:Nr):Prop where
 vars:s.vars=[]
 blocks:s.blocks=[]
 procs:∀p ∈ s.procs,p.vars=[]∧p.params=0∧p.root ∈ K∧(yZ t p.root).kind≠2
theorem zKm {t:List Nd}:∀(l:List Nat) (cs:List Bs) (s:Nr) (x:List Bs × Nr),zBK t l cs s=.ok x→x.2.vars=s.vars∧x.2.blocks=s.blocks∧x.2.procs=s.procs
 | [],cs,s,x,h=>by injection h with h; subst h; exact⟨rfl,rfl,rfl⟩
 | k::l,cs,s,x,h=>by
  unfold zBK at h
  split at h
  ·cases h
  ·obtain⟨a,b,c⟩:=zKm l _ _ x h;exact⟨a,b,c⟩
theorem zPt {t:List Nd}{K:List Nat}:∀(l:List Nat) (s s':Nr),(∀k ∈ l,k ∈ K)→zUm t K s→XU t l s=.ok s'→zUm t K s'
 | [],s,s',_,h,e=>by injection e with e; subst e; exact h
 | k::l,s,s',hK,h,e=>by
  unfold XU at e;obtain⟨x,e1,e2⟩:=zIx e;refine zPt l x s' (fun k hk=>hK k (by simp[hk])) ?_ e2
  by_cases hk:(yZ t k).kind=2
  ·rw[if_pos hk] at e1;unfold VU at e1
   split at e1
   ·cases e1
   ·split at e1
    ·obtain⟨y,e3,e4⟩:=zIx e1;injection e4 with e4;subst e4;obtain⟨a,b,c⟩:=zKm _ _ _ _ e3;exact⟨a.trans h.vars,b.trans h.blocks,by show ∀p ∈ y.2.procs,_; rw[c]; exact h.procs⟩
    ·cases e1
  ·rw[if_neg hk] at e1;unfold zCH at e1
   split at e1
   ·cases e1
   ·split at e1
    ·injection e1 with e1;subst e1;refine⟨h.vars,h.blocks,fun p hp=>?_⟩
     rcases List.mem_append.1 hp with hp | hp
     ·exact h.procs p hp
     ·rw[yN] at hp;subst hp;exact⟨rfl,rfl,hK k (by simp),hk⟩
    ·cases e1
theorem zTr {t:List Nd}{j na nb:Nat}{s:Nr}{p:Np}(hp:s.procs[j]?=some p)(hk:(yZ t p.root).kids=[na,nb]):zIa t j s=(ZH (zFi t t.length na nb) { s with vars:=[] }).bind fun s2=>.ok { s2 with procs:=s2.procs.set j { p with params:=(yZ t na).kids.length,vars:=s2.vars } }:=by
 unfold zIa;rw[hp];simp only[VQ,hk,List.getD_cons_zero,List.getD_cons_succ]
 rfl
theorem zPS {t:List Nd}(R:zBU t){f na nb:Nat}{s s':Nr}(h:ZH (zFi t f na nb) s=.ok s'):s'.xH=s.xH∧s'.procs=s.procs∧s'.of.length=s.of.length∧s'.blocks=s.blocks:=by
 refine zGW (fun a b ha AA=>?_) h;unfold zFi at AA;obtain⟨x,e1,e2⟩:=zIx AA;have k1:=zDO _ _ _ ha e1;exact k1.trans (zAB (fun k a b h1 h2=>zBa R f k a b h1 h2) k1.ne e2)
def stN (S:StH)(R:DyH)(bp n:Nat):StN:=⟨S.a,S.p,S.bo,S.co,S.A,S.ct,S.l,R.At,R.cT,R.th,R.Ac,R.cc,R.cm,S.mt,bp,R.cP,n,S.B⟩
theorem BI.start {w:World}{S:StH}{s:Nr}{R:DyH}(h:NH w S s R)(hn:0<s.procs.length)(hb:s.blocks=[])(hv:∀p ∈ s.procs,p.vars=[]∧p.params=0) :
  ∃bp pc,R.Ap=some ⟨bp,0,none⟩∧S.B≤bp∧BI w (stN S R bp s.procs.length) s 0 pc none 0 (hp s.procs):=by
 have AG:zBy (hp s.procs)≠[]:=fun e=>by
  have:=congrArg List.length e
  rw[zCn,zLV] at this;simp only[zL] at this;omega
 obtain⟨bp,e1,e2,AF,AB⟩:=zGd h.procs AG;refine⟨bp,AF,e1,e2,?_⟩
 have AD:∀b,MB (stN S R bp s.procs.length) none b→b=S.a∨b=S.bo∨b=bp:=fun b hb=>by
  rcases hb with e | e | e | e
  ·exact .inl e
  ·exact .inr (.inl e)
  ·exact .inr (.inr e)
  ·cases e
 have AA:∀b,MB (stN S R bp s.procs.length) none b→jB S R b:=fun b hb=>by
  rcases AD b hb with rfl | rfl | rfl
  ·exact .inl rfl
  ·exact .inr (.inr (.inl rfl))
  ·exact .inr (.inr (.inr (.inr (.inr (.inr e1)))))
 have AE:∀(b:Nat) (t:TypeId) (c:Array Value),Blk w b t c→t≠115→t≠3→t≠85→¬MB (stN S R bp s.procs.length) none b:=fun b t c hc h1 h2 h3 hm=>by
  rcases AD b hm with rfl | rfl | rfl
  ·exact Blk.differ hc h.rd h1 rfl
  ·exact Blk.differ hc h.of h2 rfl
  ·exact Blk.differ hc AB h3 rfl
 have AC:∀ {t:TypeId} {sz n c:Nat} {A:Option Addr} {xs:List Value},w.ownsRow S.B t sz (.slice A n c) n xs→t≠115→t≠3→t≠85→XF w (MB (stN S R bp s.procs.length) none) A xs:=fun {t sz n c A xs} ho h1 h2 h3=>by
  by_cases hx:xs=[]
  ·exact .inl hx
  ·rcases Cells.own ho with hc | ⟨b,AI,a1,a2,a3⟩
   ·exact .inl hc
   ·obtain⟨b',a4,_,c2,AH⟩:=zGd ho hx;rw[a1] at a4;injection a4 with a4;injection a4 with a4;subst a4;exact .inr ⟨b,AI,a1,a2,AE b t c2 AH h1 h2 h3,a3⟩
 refine⟨⟨⟨?_,AE _ _ _ h.pg (by decide) (by decide) (by decide)⟩,h.tree.xE (zBb AA),AC h.zBN (by decide) (by decide) (by decide),h.thl,AC h.zFt (by decide) (by decide) (by decide),h.cml,fun k b x a1 a2=>(h.zEl k b x a1 a2).xE (zBb AA),⟨h.mt.mono h.zRs,fun hm=>?_⟩⟩,⟨_,h.rd⟩,h.of,h.len,AB,zR _ _ _ _,h.low,hb,by unfold hp; rw[List.map_map]; exact List.map_id _,fun i hi=>?_,fun i x hi=>absurd hi (Nat.not_lt_zero _),fun i x _ e=>?_,fun k x y a1 a2=>(h.zHg k x y a1 a2).xE (zBb AA)⟩
 ·show Blk w S.p 32 #[.slice S.A S.l.length S.ct,.slice R.At s.xH.length R.cT,.slice (some ⟨bp,0,none⟩) s.procs.length R.cP,.slice (some ⟨S.bo,0,none⟩) S.l.length S.co]
  rw[←e1];exact h.pg
 ·rcases AD _ hm with e | e | e
  ·exact h.mt.ne h.rd e
  ·exact h.mt.ne h.of e
  ·exact h.mt.ne AB e
 ·have h1:=AB.cell i;have h2:=h.procs;rw[e1] at h2;have h3:=h2.cellAt i (by rw[zLV] at hi; exact hi);exact h1.symm.trans h3
 ·unfold hp at e;rw[zN] at e
  cases hq:s.procs[i]? with
  | none=>rw[hq] at e; cases e
  | some p=>
   rw[hq] at e;injection e with e;subst e;obtain⟨a,b⟩:=hv p (yB hq);exact⟨rfl,a,b⟩
theorem zQ8 {ps:List Pw}{j n:Nat}{vars:List Bs}{Av:Option Addr}{cv:Nat}(hj:j<ps.length):(zAG ps j n vars Av cv).map Prod.fst=(ps.map Prod.fst).set j { ps[j].1 with params:=n,vars:=vars }:=by
 apply List.ext_getElem?;intro i;unfold zAG;rw[zN,List.getElem?_modify,List.getElem?_set,yQ,zN]
 by_cases AA:j=i
 ·subst AA;simp[hj]
 ·simp[AA]
theorem zOF {ps:List Pw}{j n:Nat}{vars:List Bs}{Av:Option Addr}{cv:Nat}{x:Pw}(hx:x ∈ zAG ps j n vars Av cv):∃y ∈ ps,y.1.root=x.1.root:=by
 obtain⟨i,hi⟩:=List.mem_iff_getElem?.1 hx;unfold zAG at hi;rw[List.getElem?_modify] at hi
 try simp only[Option.map_eq_map] at hi
 obtain⟨y,hy,rfl⟩:=Option.map_eq_some_iff.1 hi;refine⟨y,yB hy,?_⟩
 by_cases h:j=i
 ·rw[if_pos h]
 ·rw[if_neg h]
theorem zOi {t:List Nd}{n k:Nat}{s:Nr}(hk:k<n)(hn:s.procs.length=n):zAc t (n-k) k s=(zIa t k s).bind (zAc t (n-(k+1)) (k+1)):=by
 rw[show n-k=(n-(k+1))+1 by omega]
 show(if k<s.procs.length then _ else _)=_
 rw[if_pos (by omega)]
theorem zOG {t:List Nd}{n:Nat}{s:Nr}:zAc t (n-n) n s=.ok s:=by rw[Nat.sub_self]; rfl
theorem zK2 {w1 wc w6:World}{M M':Nat→Prop}(hx:Ext w1 wc)(mv:xC wc M w6 M')(hm:∀b,M b→w1.heap.size≤b):Ext w1 w6:=
 ⟨mv.os.trans hx.os,mv.tape.trans hx.tape,mv.output.trans hx.output,Nat.le_trans hx.size mv.size,fun b hb=>(mv.jL b (yU hb hx.size) fun h=>by have:=hm b h; omega).trans (hx.block b hb)⟩
end Go.Proofs.YtbadjmmjbpeocaaGreat
namespace Go.Proofs.YtbadjmmjbpeocaaGreat
def E0 {α:Type}(r:XH α):Prop:=∀i e,r=.err i e→e≠0
theorem zAr {α:Type}(x:α):E0 (.ok x:XH α):=fun i e h=>by cases h
theorem zAU {α:Type}(i:Nat)(e:Int)(h:e≠0):E0 (.err i e:XH α):=fun j d k=>by injection k with _ k; rw[←k]; exact h
theorem XO {α β:Type}{r:XH α}{f:α→XH β}(h:E0 r)(k:∀x,E0 (f x)):E0 (r.bind f):=fun i e he=>by
 rcases zPI he with he | ⟨x,_,he⟩
 ·exact h i e he
 ·exact k x i e he
theorem XR {α:Type}{c:Prop} [Decidable c] {a b:XH α}(h:E0 a)(k:E0 b):E0 (if c then a else b):=by
 split
 ·exact h
 ·exact k
theorem zPe {t:List Nd}:∀(l:List Nat) (cs:List Bs) (s:Nr),E0 (zBK t l cs s)
 | [],cs,s=>zAr _
 | k::l,cs,s=>by unfold zBK; exact XR (zAU _ _ (by decide)) (zPe l _ _)
theorem zRB {t:List Nd}(i:Nat)(s:Nr):E0 (VU t i s):=by
 unfold VU;exact XR (zAU _ _ (by decide)) (XR (XO (zPe _ _ _) fun x=>zAr _) (zAU _ _ (by decide)))
theorem zTR {t:List Nd}(i:Nat)(s:Nr):E0 (zCH t i s):=by
 unfold zCH;exact XR (zAU _ _ (by decide)) (XR (zAr _) (zAU _ _ (by decide)))
theorem zMz {t:List Nd}:∀(l:List Nat) (s:Nr),E0 (XU t l s)
 | [],s=>zAr _
 | k::l,s=>by
  unfold XU;refine XO ?_ fun x=>zMz l x
  split
  ·exact zRB _ _
  ·exact zTR _ _
theorem zFs {t:List Nd}(i:Nat)(b:Bool)(s:Nr):E0 (jF t i b s):=by
 unfold jF;exact XR (zAr _) (zAU _ _ (by decide))
theorem zQC {t:List Nd}(i:Nat)(s:Nr):E0 (YQ t i s):=by
 unfold YQ
 split
 ·exact zFs _ _ _
 ·exact XR (zAU _ _ (by decide)) (zAr _)
theorem zGk {does:Nn}(h:∀s,E0 (does s))(s:Nr):E0 (ZH does s):=by
 unfold ZH;exact XO (h _) fun x=>zAr _
theorem zO3 {t:List Nd}(i:Nat)(s:Nr):E0 (ofN t i s):=by
 unfold ofN
 split
 ·exact zAU _ _ (by decide)
 ·exact zAr _
theorem zKI {t:List Nd}(i:Nat)(x:Int)(s:Nr):E0 (YR t i x s):=by
 unfold YR
 split
 ·exact zAU _ _ (by decide)
 ·exact zAr _
theorem zEX {one:Nat→Nn}(h:∀k s,E0 (one k s)):∀(l:List Nat) (s:Nr),E0 (vJ one l s)
 | [],s=>zAr _
 | k::l,s=>by unfold vJ; exact XO (h k s) fun x=>zEX h l x
theorem zF7 {t:List Nd}:∀(f i:Nat) (s:Nr),E0 (vD t f i s)
 | 0,i,s=>zAr _
 | f+1,i,s=>by
  unfold vD;refine XO (XR ?_ (XR (zO3 _ _) (zAr _))) fun x=>zEX (fun k s=>zF7 f k s) _ _
  split
  ·exact zAU _ _ (by decide)
  ·exact zAr _
theorem zHP {t:List Nd}{st:Nat→Nn}(h:∀k s,E0 (st k s))(i:Nat)(top:Bool)(s:Nr):E0 (ZJ t st i top s):=by
 unfold ZJ;exact zGk (fun s=>zEX (fun k s=>XR (h k s) (zAU _ _ (by decide))) _ _) s
theorem zTz {t:List Nd}(i:Nat)(s:Nr):E0 (ZN t i s):=by
 unfold ZN;exact XR (zQC _ _) (zAr _)
theorem zLR {t:List Nd}:∀(f i:Nat) (s:Nr),E0 (vP t f i s)
 | 0,i,s=>zAr _
 | f+1,i,s=>by
  unfold vP;refine XO (XR ?_ (XR ?_ (XR ?_ (XR ?_ ?_)))) fun x=>zTz _ _
  ·exact XO (zF7 _ _ _) fun x=>XO (zKI _ _ _) fun y=>zEX (fun k s=>zF7 _ k s) _ _
  ·exact XO (zO3 _ _) fun x=>XO (XR (zAr _) (zAU _ _ (by decide))) fun y=>zEX (fun k s=>zF7 _ k s) _ _
  ·exact XO (zO3 _ _) fun x=>zKI _ _ _
  ·exact XR (zAU _ _ (by decide)) (zGk (fun s=>XO (zFs _ _ _) fun y=>zHP (fun k s=>zLR f k s) _ _ _) _)
  ·exact zEX (fun k s=>XR (zO3 _ _) (XR (zHP (fun k s=>zLR f k s) _ _ _) (zF7 _ _ _))) _ _
theorem zKb {t:List Nd}:∀(l:List Nat) (s:Nr),E0 (XE t l s)
 | [],s=>zAr _
 | k::l,s=>by unfold XE; exact XR (zAU _ _ (by decide)) (XO (zFs _ _ _) fun x=>zKb l x)
theorem zSZ {t:List Nd}(j:Nat)(s:Nr):E0 (zIa t j s):=by
 unfold zIa
 split
 ·exact zAr _
 ·exact XO (zGk (fun s=>XO (zKb _ _) fun x=>zHP (fun k s=>zLR _ k s) _ _ _) _) fun x=>zAr _
theorem zKv {t:List Nd}:∀(f j:Nat) (s:Nr),E0 (zAc t f j s)
 | 0,j,s=>zAr _
 | f+1,j,s=>by unfold zAc; exact XR (XO (zSZ _ _) fun x=>zKv f _ x) (zAr _)
theorem zLP {t:List Nd}(i:Nat)(e:Int)(h:jM t=.err i e):e≠0:=by
 unfold jM at h;exact XO (zMz _ _) (fun x=>zKv _ _ _) i e h
end Go.Proofs.YtbadjmmjbpeocaaGreat
namespace Go.Proofs.YtbadjmmjbpeocaaGreat
open Go Go.RowKit
structure zLt (w:World)(M:Nat→Prop)(A At Ap:Option Addr)(l:List Tx)(th:List Hd2)(ps:List Pw)(bo:Nat)(s:Nr):Prop where
 tree:zAS w M A l
 zBN:XF w M At (VD s.xH th)
 thl:th.length=s.xH.length
 zHg:∀(k:Nat) (x:Nt) (h:Hd2),s.xH[k]?=some x→th[k]?=some h→XF w M h.1 (strs x.zBW)
 procs:XF w M Ap (zBy ps)
 psl:ps.map Prod.fst=s.procs
 vars:∀x ∈ ps,XF w M x.2.1 (strs x.1.vars)
 of:XF w M (some ⟨bo,0,none⟩) (ofc s.of)
 len:s.of.length=l.length
theorem zLt.xE {w w':World}{M M':Nat→Prop}{A At Ap:Option Addr}{l:List Tx}{th:List Hd2}{ps:List Pw}{bo:Nat}{s:Nr}(h:zLt w M A At Ap l th ps bo s)(k:xC w M w' M'):zLt w' M' A At Ap l th ps bo s:=
 ⟨h.tree.xE k,h.zBN.xE k,h.thl,fun i x y e1 e2=>(h.zHg i x y e1 e2).xE k,h.procs.xE k,h.psl,fun x hx=>(h.vars x hx).xE k,h.of.xE k,h.len⟩
def okv:Value→Prop
 | .slice _ _ _=>True
 | .nilIface=>True
 | _=>False
theorem XF.other {w:World}{M:Nat→Prop}{A:Option Addr}{cs:List Value}(h:XF w M A cs){G:Nat→Prop}(hG:∀b,G b→∃t cells,Blk w b t cells∧∀u ∈ cells.toList,okv u)(hc:∀u,cs[0]?=some u→¬okv u):XF w G A cs:=by
 rcases h with h | ⟨b,AA,e1,e2,e3,e4⟩
 ·exact .inl h
 ·by_cases hn:cs=[]
  ·exact .inl hn
  ·refine .inr ⟨b,AA,e1,e2,fun hg=>?_,e4⟩;obtain⟨t,cells,hb,ho⟩:=hG b hg;have hl:0<cs.length:=List.length_pos_iff.2 hn;have h0:=e4 0 hl;rw[hb.cell,yJ hl] at h0
   exact hc _ (yJ hl) (ho _ (by
    have:=Array.mem_of_getElem? h0
    simpa using this))
theorem zRh {l:List Nat}:∀u,(ints l)[0]?=some u→¬okv u:=fun u h=>by
 cases l with
 | nil=>cases h
 | cons x l=>injection h with h; subst h; exact fun h=>h
theorem zEj {l:List Bs}:∀u,(strs l)[0]?=some u→¬okv u:=fun u h=>by
 cases l with
 | nil=>cases h
 | cons x l=>injection h with h; subst h; exact fun h=>h
theorem zTO {l:List Tx}:∀u,(tcs l)[0]?=some u→¬okv u:=fun u h=>by
 cases l with
 | nil=>cases h
 | cons x l=>injection h with h; subst h; exact fun h=>h
theorem zKk {l:List Nt}{th:List Hd2}:∀u,(VD l th)[0]?=some u→¬okv u:=fun u h=>by
 cases l with
 | nil=>cases h
 | cons x l=>
  cases th with
  | nil=>cases h
  | cons y th=>injection h with h; subst h; exact fun h=>h
theorem zAS.other {w:World}{M:Nat→Prop}{A:Option Addr}{l:List Tx}(h:zAS w M A l){G:Nat→Prop}(hG:∀b,G b→∃t cells,Blk w b t cells∧∀u ∈ cells.toList,okv u):zAS w G A l:=
 ⟨h.row.other hG zTO,fun x hx=>(h.kids x hx).other hG zRh,h.text,h.zUi⟩
def GE2 (gt ge:Nat)(b:Nat):Prop:=b=gt∨b=ge
theorem zL3 {w:World}{gt ge:Nat}(hp:Blk w gt 32 XG)(he:Blk w ge 62 #[.nilIface]):∀b,GE2 gt ge b→∃t cells,Blk w b t cells∧(t=32∨t=62)∧∀u ∈ cells.toList,okv u:=fun b hb=>by
 rcases hb with rfl | rfl
 ·refine⟨_,_,hp,.inl rfl,fun u hu=>?_⟩;unfold XG at hu;simp only[zU,List.not_mem_nil,or_false,or_self] at hu;subst hu
  trivial
 ·refine⟨_,_,he,.inr rfl,fun u hu=>?_⟩;simp only[zU,List.not_mem_nil,or_false] at hu;subst hu
  trivial
theorem zK7 {w w8:World}{gt ge:Nat}{v:Value}(h:Touch gt w w8):xC w (GE2 gt ge) (w8.setCell ⟨ge,0,none⟩ v) (GE2 gt ge):=
 ⟨h.os,h.tape,h.output,by simp[World.setCell,h.size],fun b hb hn=>(zS w8 ⟨ge,0,none⟩ v b fun e=>hn (.inr e)).trans (h.other b fun e=>hn (.inl e)),fun b h=>.inl h⟩
theorem BI.prg {w:World} {gt ge:Nat} (hp:Blk w gt 32 XG) (he:Blk w ge 62 #[.nilIface]) {T:StN}{s:Nr}{j:Nat}{pc:Array Value}{Ab:Option Addr}{cb:Nat}{ps:List Pw}(h:BI w T s j pc Ab cb ps)(hj:ps.length≤j):zLt w (GE2 gt ge) T.A T.At (some ⟨T.bp,0,none⟩) T.l T.th ps T.bo s:=by
 have hG:∀b,GE2 gt ge b→∃t cells,Blk w b t cells∧∀u ∈ cells.toList,okv u:=fun b hb=>let ⟨t,c,a,_,d⟩:=zL3 hp he b hb; ⟨t,c,a,d⟩
 have AA:∀(b:Nat) (t:TypeId) (c:Array Value),Blk w b t c→t≠32→t≠62→¬GE2 gt ge b:=fun b t c hc h1 h2 hb=>by
  obtain⟨t',c',a,e,_⟩:=zL3 hp he b hb
  rcases e with rfl | rfl
  ·exact Blk.differ hc a h1 rfl
  ·exact Blk.differ hc a h2 rfl
 refine⟨h.st.tree.other hG,h.st.zBN.other hG zKk,h.st.thl,fun k x y e1 e2=>(h.tk k x y e1 e2).other hG zEj,?_,h.psl,fun x hx=>?_,?_,h.len⟩
 ·refine .inr ⟨T.bp,0,rfl,h.pr.lt,AA _ _ _ h.pr (by decide) (by decide),fun k hk=>?_⟩;rw[Nat.zero_add,h.pr.cell k];exact h.pcs k (by rw[zCn] at hk; exact hk)
 ·obtain⟨i,hi,rfl⟩:=List.getElem_of_mem hx;exact(h.dn i _ (by omega) (yJ hi)).other hG zEj
 ·refine .inr ⟨T.bo,0,rfl,h.of.lt,AA _ _ _ h.of (by decide) (by decide),fun k hk=>?_⟩;rw[Nat.zero_add,h.of.cell k]
  simp
theorem NH.prg {w:World} {gt ge:Nat} (hp:Blk w gt 32 XG) (he:Blk w ge 62 #[.nilIface]) {S:StH}{s:Nr}{R:DyH}(h:NH w S s R)(hn:s.procs=[]):zLt w (GE2 gt ge) S.A R.At R.Ap S.l R.th [] S.bo s:=by
 have hG:∀b,GE2 gt ge b→∃t cells,Blk w b t cells∧∀u ∈ cells.toList,okv u:=fun b hb=>let ⟨t,c,a,_,d⟩:=zL3 hp he b hb; ⟨t,c,a,d⟩
 have AA:∀(b:Nat) (t:TypeId) (c:Array Value),Blk w b t c→t≠32→t≠62→¬GE2 gt ge b:=fun b t c hc h1 h2 hb=>by
  obtain⟨t',c',a,e,_⟩:=zL3 hp he b hb
  rcases e with rfl | rfl
  ·exact Blk.differ hc a h1 rfl
  ·exact Blk.differ hc a h2 rfl
 refine⟨h.tree.other hG,?_,h.thl,fun k x y e1 e2=>(h.zHg k x y e1 e2).other hG zEj,.inl rfl,by rw[hn]; rfl,fun x hx=>(by cases hx),?_,h.len⟩
 ·by_cases hx:VD s.xH R.th=[]
  ·exact .inl hx
  ·rcases Cells.own h.zBN with hc | ⟨b,AC,a1,a2,a3⟩
   ·exact .inl hc
   ·obtain⟨b',a4,_,c2,AB⟩:=zGd h.zBN hx;rw[a1] at a4;injection a4 with a4;injection a4 with a4;subst a4;exact .inr ⟨b,AC,a1,a2,AA b _ c2 AB (by decide) (by decide),a3⟩
 ·refine .inr ⟨S.bo,0,rfl,h.of.lt,AA _ _ _ h.of (by decide) (by decide),fun k hk=>?_⟩;rw[Nat.zero_add,h.of.cell k]
  simp
end Go.Proofs.YtbadjmmjbpeocaaGreat
