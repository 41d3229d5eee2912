/- The reader of names: stmt: put. (and what follows of it). The conditions stand at each lemma. -/
import Derived.Test.YtbadjmmjbpeocaaGreatJaa
import Derived.Test.YtbadjmmjbpeocaaGreatJax
import Derived.StillTailTactics
set_option linter.unusedVariables false
set_option linter.unusedSimpArgs false
set_option maxRecDepth 100000
set_option maxHeartbeats 16000000
namespace Go.Proofs.YtbadjmmjbpeocaaGreat
open Go Go.RowKit
theorem zSG (l:List Nt):∀(th:List Hd2) (hl:th.length=l.length) (k:Nat) (x:Nt),l[k]?=some x→∃(A:Option Addr) (c:Nat),(VD l th)[k*2]?=some (.string (xG x.name))∧(VD l th)[k*2+1]?=some (.slice A x.zBW.length c):=by
 induction l with
 | nil=>intro th hl k x h; simp at h
 | cons y l ih=>
  intro th hl k x h
  cases th with
  | nil=>simp at hl
  | cons h0 th=>
   show ∃A c,(zM8 (y,h0)++VD l th)[k*2]?=_∧(zM8 (y,h0)++VD l th)[k*2+1]?=_
   cases k with
   | zero=>
    simp only[yM,yY] at h;subst h;exact⟨h0.1,h0.2,rfl,rfl⟩
   | succ k=>
    obtain⟨A,c,e1,e2⟩:=ih th (by simpa using hl) k x (by simpa using h);refine⟨A,c,?_,?_⟩
    ·rw[List.getElem?_append_right (by show 2≤_; omega),show(k+1)*2-(zM8 (y,h0)).length=k*2 from by show(k+1)*2-2=_; omega];exact e1
    ·rw[List.getElem?_append_right (by show 2≤_; omega),show(k+1)*2+1-(zM8 (y,h0)).length=k*2+1 from by show(k+1)*2+1-2=_; omega];exact e2
theorem zKX (l:List Nt):∀(th:List Hd2),th.length=l.length→(VD l th).length=l.length*2:=by
 induction l with
 | nil=>intro th h; rfl
 | cons y l ih=>
  intro th hl
  cases th with
  | nil=>simp at hl
  | cons h0 th=>
   show(zM8 (y,h0)++VD l th).length=_
   rw[yP,ih th (by simpa using hl),zK]
   show 2+_=_
   omega
theorem NB.zS5 {w:World}{S:StN}{s:Nr}{R:DyN}(h:NB w S s R)(t:Nat)(x:Nt)(ht:s.xH[t]?=some x) :
  ∃(tb to:Nat) (A:Option Addr) (c:Nat),S.At=some ⟨tb,to,none⟩∧tb<w.heap.size∧w.cell? ⟨tb,to+t*2+1,none⟩=some (.slice A x.zBW.length c):=by
 obtain⟨AC,_⟩:=List.getElem?_eq_some_iff.1 ht;obtain⟨b,AB,hA,hb,AA⟩:=h.st.zBN.cells.at_ (by rw[zKX _ _ h.st.thl]; omega);obtain⟨A,c,_,e2⟩:=zSG s.xH S.th h.st.thl t x ht;refine⟨b,AB,A,c,hA,hb,?_⟩;rw[Nat.add_assoc,AA (t*2+1) (by rw[zKX _ _ h.st.thl]; omega)];exact e2
theorem zQ4 {t:List Nd}{f i a:Nat}{L:List Nat}{s:Nr}(hk:(yZ t i).kind=9)(hkk:(yZ t i).kids=a::L):vP t (f+1) i s=((ofN t a s).bind fun s=>(if (yZ t i).kids.length=((s.xH[(zCQ s a).toNat]?).map fun x=>x.zBW.length).getD 0+1 then XH.ok (s.set i (zCQ s a)) else .err i 72).bind (vJ (vD t (f+1)) (yZ t i).kids)).bind (ZN t i):=by
 rw[vP,if_neg (by omega),if_pos hk]
 have e:VQ t i 0=a:=by unfold VQ; rw[hkk]; rfl
 rw[e]
theorem zSR (f:Nat)(S:StN)(hT:zEb S)(hst:zD7 S f)(w:World)(s:Nr)(R:DyN)(i:Nat)(h:NB w S s R)(hi:i<S.l.length)(hf:S.l.length≤f+1+i)(hb:s.blocks.length+2*(f+1)+2≤100000)(hne:s.blocks≠[])(hk:(yZ (tN S.l) i).kind=9) :
  Calls Tryz.prog 123 #[.pointer (some ⟨S.a,0,none⟩),.int .i64 (i:Int)] w (jR w S R (vP (tN S.l) (f+1) i s) vU):=by
 have HT:=yG hT;have Ak:=yG h;have AU:=yG hi;have BH:=yG hst;have BJ:=yG hf;have Ac:=yG hk;have BT:Hid ((yZ (tN S.l) i).text.length≤maxLen):=yG (h.st.tree.txt i);have BE:Hid (s.blocks.length+2*(f+1)+2≤100000∧s.blocks≠[]):=yG ⟨hb,hne⟩;have At:Hid (∀(wr:World) (sk:Nr) (Rk:DyN),NB wr S sk Rk→Cells wr (hdN S.l i).1 (ints (yZ (tN S.l) i).kids)):=yG fun wr sk Rk hn=>(hn.st.tree.kid i hi).cells;have A7:Hid (∀k,k ∈ (yZ (tN S.l) i).kids→i<k∧k<S.l.length):=yG fun k hk=>hT.up hk;have BO:Hid ((yZ (tN S.l) i).kids.length≤100000):=yG (hT.kl i);have AV:Hid ((yZ (tN S.l) i).kids.length≤(hdN S.l i).2):=yG (h.st.tree.cap i hi);have AP:Hid (zCs (tN S.l) i):=yG (hT.R.form i (by rw[JO]; exact hi) (by omega) (by omega));have A9:Hid (∀b,xL S R b→b<w.heap.size):=yG fun b hm=>h.ZW hm;obtain⟨W2,AD⟩:∃W2,Hid ((w.alloc (.cells #[.pointer (some ⟨S.a,0,none⟩)] 107)).alloc (.cells #[.int .i64 (i:Int)] 3)=W2):=⟨_,yG rfl⟩;have Ab:Hid (Ext w W2):=yG (by rw[←AD.out]; exact(Ext.alloc _ _).trans (Ext.alloc _ _))
 have AQ:Hid (Safe W2 (xL S R) w.heap.size 107 #[.pointer (some ⟨S.a,0,none⟩)]∧Safe W2 (xL S R) (w.heap.size+1) 3 #[.int .i64 (i:Int)]):=yG (by
  rw[←AD.out];refine⟨⟨(Blk.new _ _ _).alloc _,fun hm=>by have:=A9.out _ hm; omega⟩,⟨?_,fun hm=>by have:=A9.out _ hm; omega⟩⟩
  have:=Blk.new (w.alloc (.cells #[.pointer (some ⟨S.a,0,none⟩)] 107)) 3 #[.int .i64 (i:Int)]
  rwa [yT] at this)
 clear hT h hst hi hf hb hne hk
 have q2:((w.alloc (.cells #[.pointer (some ⟨S.a,0,none⟩)] 107)).alloc (.cells #[.int .i64 (i:Int)] 3)).cell? ⟨w.heap.size,0,none⟩=some (.pointer (some ⟨S.a,0,none⟩)):=by rw[AD.out]; exact AQ.out.1.1.cell 0
 have q3:((w.alloc (.cells #[.pointer (some ⟨S.a,0,none⟩)] 107)).alloc (.cells #[.int .i64 (i:Int)] 3)).cell? ⟨w.heap.size+1,0,none⟩=some (.int .i64 (i:Int)):=by rw[AD.out]; exact AQ.out.2.1.cell 0
 go_enter Tryz.func123,Tryz.ntmps123
 go_wp2_with fail
 rw[AD.out];clear q2 q3 AD;refine(vW W2 S.a S.p S.A S.ct S.l i (Ak.out.ext Ab.out).rds AU.out).mono ?_;rintro e w3 ⟨rfl,AC⟩;obtain⟨W4,AG⟩:∃W4,Hid (w3.alloc (.cells (vT S.l i) 38)=W4):=⟨_,yG rfl⟩;obtain⟨g2,A0⟩:∃g2,Hid (w.heap.size=g2):=⟨_,yG rfl⟩;obtain⟨g3,BA⟩:∃g3,Hid (w.heap.size+1=g3):=⟨_,yG rfl⟩;obtain⟨g4,As⟩:∃g4,Hid (w3.heap.size=g4):=⟨_,yG rfl⟩
 have AE:Hid (Rn w S R i g2 g3 g4 W4 s R):=yG (by
  have Ar:Ext w3 W4:=by rw[←AG.out]; exact Ext.alloc _ _
  have hx:=(Ab.out.trans AC).trans Ar;refine⟨Ak.out.ext hx,xC.ext hx,ZQ.refl R,?_,?_,?_⟩
  ·rw[←A0.out]; exact(AQ.out.1.xE (xC.ext (M:=xL S R) AC)).xE (xC.ext (M:=xL S R) Ar)
  ·rw[←BA.out]; exact(AQ.out.2.xE (xC.ext (M:=xL S R) AC)).xE (xC.ext (M:=xL S R) Ar)
  ·rw[←As.out,←AG.out]
   exact(((Ak.out.ext Ab.out).ext AC).fresh 38 (vT S.l i)))
 have Aq:Hid (vP (tN S.l) (f+1) i s=vP (tN S.l) (f+1) i s):=yG rfl;have Ao:Hid (vT S.l i=#[.int .u8 (9:Int),.int .i64 (YT S.l i),.string (xG (yZ (tN S.l) i).text),.int .i64 (yZ (tN S.l) i).num,.slice (hdN S.l i).1 (yZ (tN S.l) i).kids.length (hdN S.l i).2]):=yG (by unfold vT; rw[Ac.out]; try rfl);rw[Ao.out] at AG ⊢
 go_upto_region 2 with fail
 rw[AG.out,As.out];rw[BA.out,A0.out];clear AC AG As AQ Ab
 obtain⟨a,L,Ag,ha⟩:∃a L,(yZ (tN S.l) i).kids=a::L∧(yZ (tN S.l) a).kind=20:=by
  have h:=AP.out;unfold zCs at h;rw[Ac.out] at h;obtain⟨a,L,h1,h2,_⟩:=h;exact⟨a,L,h1,h2⟩
 have AM:=yG Ag;have A3:=yG (zQ4 (f:=f) (s:=s) Ac.out Ag);clear Ag ha Aq;have BC:True:=trivial;obtain⟨kA,AY⟩:∃kA,Hid ((hdN S.l i).1=kA):=⟨_,yG rfl⟩;obtain⟨kc,AN⟩:∃kc,Hid ((hdN S.l i).2=kc):=⟨_,yG rfl⟩;obtain⟨n,AH⟩:∃n,Hid ((yZ (tN S.l) i).kids.length=n):=⟨_,yG rfl⟩;rw[AY.out,AN.out,AH.out]
 have BR:1≤n:=by have h:=AH.out; rw[AM.out] at h; simp at h; omega
 have BS:n≤kc:=by have h:=AV.out; rw[AH.out,AN.out] at h; exact h
 have BU:n≤100000:=by have h:=BO.out; rw[AH.out] at h; exact h
 have Ah:=At.out _ _ _ AE.out.nb;rw[AY.out] at Ah;obtain⟨kb,ko,rfl,_,_⟩:=Ah.at_ (by rw[vK,AH.out]; omega);clear Ah BC
 have A8:Hid (∀(wr:World) (sk:Nr) (Rk:DyN),NB wr S sk Rk→kb<wr.heap.size∧wr.cell? ⟨kb,ko,none⟩=some (.int .i64 (a:Int))∧True):=yG fun wr sk Rk hn=>by
  have hc:=At.out wr sk Rk hn;rw[AY.out,AM.out] at hc;obtain⟨b',o',e1,e2,e3⟩:=hc.at_ (by simp[ints]);injection e1 with e1;injection e1 with e1 e1';subst e1 e1';exact⟨e2,(e3 0 (by simp[ints]; try omega)).trans rfl,trivial⟩
 have Az:Hid (∀(W:World) (M:Nat→Prop),StF W M S i g2 g3 g4→W.cell? ⟨g4,0,none⟩=some (.int .u8 (9:Int))):=yG fun W M h=>by have:=h.b4.1.cell 0; rw[Ao.out] at this; exact this
 have Ai:Hid (∀(W:World) (M:Nat→Prop),StF W M S i g2 g3 g4→W.cell? ⟨g4,4,none⟩=some (.slice (some ⟨kb,ko,none⟩) n kc)):=yG fun W M h=>by have:=h.b4.1.cell 4; rw[Ao.out,AY.out,AN.out,AH.out] at this; exact this
 have AW:Hid (i<a∧a<S.l.length):=yG (A7.out a (by rw[AM.out]; simp));have AJ:Hid (∀k,k ∈ (a::L)→i<k∧k<S.l.length):=yG fun k hk=>A7.out k (by rw[AM.out]; exact hk)
 have i0:(0:Int)<(n:Int):=by omega
 have j0:0<n:=by omega
 have Av:Hid (n=(a::L).length):=yG (by rw[←AH.out,AM.out])
 have A1:Hid (∀(wr:World) (sk:Nr) (Rk:DyN),NB wr S sk Rk→Cells wr (some ⟨kb,ko,none⟩) (ints (a::L))):=yG fun wr sk Rk hn=>by
  have hc:=At.out wr sk Rk hn;rw[AY.out,AM.out] at hc;exact hc
 obtain⟨Ks,A2⟩:∃Ks,Hid (a::L=Ks):=⟨_,yG rfl⟩;rw[A2.out] at AJ Av A1;generalize hwhole:vP (tN S.l) (f+1) i s=whole at *;clear hwhole;have n0:=Az.out _ _ AE.out.f
 go_upto_region 23 with fail
 clear n0;have q2:=AE.out.k2;have l2:=AE.out.f.b2.1.lt;have n4:=Ai.out _ _ AE.out.f;have l4:=AE.out.f.b4.1.lt;have BF:=(A8.out _ _ _ AE.out.nb).1;have zFk:=(A8.out _ _ _ AE.out.nb).2.1
 go_still_tail 5,(by kernel_rfl)
 change wpList _ _ _ _ _ (World.drew W4)
 have AS:Ext W4 (World.drew W4):=Below.drew (Below.refl _ _);generalize World.drew W4=w1 at *;clear q2 l2 n4 l4 BF zFk;have Ad:=Rn.zE8 AE AS;clear AS
 go_wp2_with fail
 refine(zFP w1 S s R a Ad.out.nb AW.out.2).mono ?_;intro e w2 AA
 cases hq:ofN (tN S.l) a s with
 | err j er=>
  rw[hq] at AA;obtain⟨rfl,hF⟩:=Rn.fail (whole:=whole) Ad AA (by rw[A3.out,hq]; rfl);exact xJ (P:=Tryz.prog) (fn:=Tryz.f123) rfl hF
 | ok s2=>
  rw[hq] at AA;obtain⟨he,R2,A5⟩:=AA;have AF:=Rn.step Ad A5;obtain⟨tn,x,AS,An,AC⟩:=zL6 (by rw[Ad.out.nb.len]; exact AW.out.2) hq
  obtain rfl:e=.returned (.int .i64 (tn:Int)):=by rw[he,←An]
  have Ae:Hid (s2.xH[tn]?=some x):=yG (by rw[AC]; exact AS);have AO:Hid (s2.blocks.length+2*(f+1)+2≤100000∧s2.blocks≠[]):=yG (by rw[AC]; exact BE.out)
  have AD:Hid (whole=((if n=x.zBW.length+1 then XH.ok (s2.set i (tn:Int)) else .err i 72).bind (vJ (vD (tN S.l) (f+1)) Ks)).bind (ZN (tN S.l) i)):=yG (by
   have hT:=Ae.out;rw[A3.out,hq]
   show((if (yZ (tN S.l) i).kids.length=((s2.xH[(zCQ s2 a).toNat]?).map fun x=>x.zBW.length).getD 0+1 then XH.ok (s2.set i (zCQ s2 a)) else .err i 72).bind (vJ (vD (tN S.l) (f+1)) (yZ (tN S.l) i).kids)).bind (ZN (tN S.l) i)=_
   rw[An,zI,hT,AH.out,AM.out,A2.out]
   rfl)
  clear A5 hq AS An AC he
  go_upto_region 24 with fail
  have q2:=AF.out.k2;have l2:=AF.out.f.b2.1.lt;have q3:=AF.out.k3;have l3:=AF.out.f.b3.1.lt;have r0:=AF.out.nb.rds.r0;have al:=AF.out.nb.rds.al;have pl:=AF.out.nb.rds.pl;have p3:=AF.out.nb.p3
  have q0:(i:Int)<(S.l.length:Int):=by have:=AU.out; omega
  go_still_tail 10,(by kernel_rfl)
  change wpList _ _ _ _ _ (World.drew w2)
  have AC:Ext w2 (World.drew w2):=Below.drew (Below.refl _ _);generalize World.drew w2=w3 at *;clear q2 l2 q3 l3 r0 al pl p3;have Aa:=Rn.zE8 AF AC;clear AC;have co:=Aa.out.nb.zBP i AU.out;have cz:=Aa.out.nb.ofz i;have AL:=yG (Aa.out.nb.setOf i (tn:Int));have AB:=Rn.step Aa ⟨ZQ.refl R2,AL.out.1,AL.out.2⟩;clear AL
  go_upto_region 25 with fail
  clear co cz q0;generalize w3.setCell ⟨S.bo,i,none⟩ (.int .i64 (tn:Int))=W5 at *;obtain⟨tb,to,tA,tc,Ax,A6,Ap⟩:=AB.out.nb.zS5 tn x Ae.out;obtain⟨cl,BB⟩:∃cl,Hid (x.zBW.length=cl):=⟨_,yG rfl⟩;rw[BB.out] at Ap AD
  have qt:(tn:Int)<(s2.xH.length:Int):=by have:=(List.getElem?_eq_some_iff.1 Ae.out).1; omega
  have Aw:tn<s2.xH.length:=(List.getElem?_eq_some_iff.1 Ae.out).1;have q2:=AB.out.k2;have l2:=AB.out.f.b2.1.lt;have q3:=AB.out.k3;have l3:=AB.out.f.b3.1.lt;have n4:=Ai.out _ _ AB.out.f;have l4:=AB.out.f.b4.1.lt;have r0:=AB.out.nb.rds.r0;have al:=AB.out.nb.rds.al;have pl:=AB.out.nb.rds.pl;have p1:=AB.out.nb.p1;rw[Ax] at p1;have BM:Hid ((s2.set i (tn:Int)).blocks.length+2*(f+1)+2≤100000∧(s2.set i (tn:Int)).blocks≠[]):=AO;have AI:(s2.set i (tn:Int)).xH.length=s2.xH.length:=rfl;rw[AI] at p1;clear AI Ax
  by_cases hn:n=cl+1
  ·have AG:Hid (whole=(vJ (vD (tN S.l) (f+1)) (Ks.drop 0) (s2.set i (tn:Int))).bind (ZN (tN S.l) i)):=yG (by rw[AD.out,if_pos hn]; rfl)
   have Aj:((n:Int)-1==(cl:Int))=true:=by rw[zO]; omega
   have Al:IntKind.i64.wrap ((n:Int)-1)=(n:Int)-1:=IntWalk.i64_in _ (by omega);clear hn
   go_still_tail 19,(by kernel_rfl)
   change wpList _ _ _ _ _ (World.drew W5)
   have AT:Ext W5 (World.drew W5):=Below.drew (Below.refl _ _);generalize World.drew W5=w6 at *;clear q2 l2 q3 l3 n4 l4 r0 al pl p1 Aj Al qt Aw A6 Ap;have AX:=Rn.zE8 AB AT;clear AT
   go_wp2_with fail
   refine(XC w6 (.pointer (some ⟨S.a,0,none⟩)) (i:Int) 72).mono ?_;rintro e w7 ⟨rfl,rfl⟩;have n4:=Ai.out _ _ AX.out.f
   go_upto_region 27 with fail
   clear n4;have BG:=Av.out;subst BG
   go_loopw [125] (fun i' wr=>∃(k:Nat) (sk:Nr) (Rk:DyN),k≤Ks.length∧i'=.int .i64 k∧Hid (Rn w S R i g2 g3 g4 wr sk Rk)∧Hid (sk.blocks.length+2*(f+1)+2≤100000∧sk.blocks≠[])∧Hid (whole=(vJ (vD (tN S.l) (f+1)) (Ks.drop k) sk).bind (ZN (tN S.l) i))) (fun i' _=>Ks.length-(intOf i').toNat)
   case atStart=>exact⟨0,(s2.set i (tn:Int)),R2,zW _,rfl,AX,BM,AG⟩
   case round=>
    obtain⟨k,sk,Rk,hk,rfl,AK,AO,Am⟩:=hrel;obtain⟨wa,rfl⟩:∃wa:World,wa=wr:=⟨_,rfl⟩
    by_cases AZ:k<Ks.length
    ·have d0:decide ((k:Int)<(Ks.length:Int))=true:=yS (by omega)
     have q1:(k:Int)<(Ks.length:Int):=by omega
     obtain⟨b',BL,Af,hb,Ay⟩:=(A1.out wa sk Rk AK.out.nb).at_ (by rw[vK]; omega)
     have e0:wa.cell? ⟨b',BL+k,none⟩=some (.int .i64 ((Ks[k]:Nat):Int)):=by rw[Ay k (by rw[vK]; exact AZ)]; simp[ints,AZ]
     have AR:Hid (Ks[k] ∈ Ks):=yG (yO AZ);have Au:Hid (vJ (vD (tN S.l) (f+1)) (Ks.drop k) sk=((vD (tN S.l) (f+1)) Ks[k] sk).bind (vJ (vD (tN S.l) (f+1)) (Ks.drop (k+1)))):=yG (by rw[List.drop_eq_getElem_cons AZ]; rfl);clear Ay;generalize Ks[k]=c at *;injection Af with Af;injection Af with he1 he2;subst he1 he2;have q2:=AK.out.k2
     go_wp2_with fail
     clear q2 e0;refine(zBd (f+1) wa S sk Rk c HT.out AK.out.nb (AJ.out c AR.out).2 (by have:=(AJ.out c AR.out).1; have:=BJ.out; omega) (by have:=AO.out.1; omega) AO.out.2).mono ?_;intro e w5 AA
     cases hq:vD (tN S.l) (f+1) c sk with
     | err j er=>
      rw[hq] at AA;obtain⟨rfl,hF⟩:=Rn.fail (whole:=whole) AK AA (by rw[Am.out,Au.out,hq]; rfl);exact xJ (P:=Tryz.prog) (fn:=Tryz.f123) rfl hF
     | ok s5=>
      rw[hq] at AA;obtain⟨rfl,R5,A4⟩:=AA;have BQ:=Rn.step AK A4;have BD:Hid (s5.blocks.length+2*(f+1)+2≤100000∧s5.blocks≠[]):=yG (by rw[(YF HT.out.R (f+1) c sk s5 hq).blocks]; exact AO.out);have BK:Hid (whole=(vJ (vD (tN S.l) (f+1)) (Ks.drop (k+1)) s5).bind (ZN (tN S.l) i)):=yG (by rw[Am.out,Au.out,hq]; rfl);clear A4 hq;unfold vU
      go_wp2_with fail
      go_roundw
      case rel=>exact⟨k+1,s5,R5,by omega,by go_num,BQ,BD,BK⟩
      case measure=>simp[intOf]; omega
    ·obtain rfl:k=Ks.length:=by omega
     have d0:decide ((Ks.length:Int)<(Ks.length:Int))=false:=by simp
     have d1:decide (Ks.length<Ks.length)=false:=by simp
     have BN:Hid (whole=ZN (tN S.l) i sk):=yG (by rw[Am.out,List.drop_length]; rfl);have n0:=Az.out _ _ AK.out.f;have BP:=yG (Rn.done AK (show whole=.ok sk by rw[BN.out]; exact zFL (by have:=Ac.out; omega)))
     go_wp2_with fail
     go_end0;exact BP.out
  ·have AG:Hid (whole=.err i 72):=yG (by rw[AD.out,if_neg hn]; rfl)
   have Aj:((n:Int)-1==(cl:Int))=false:=by rw[yI]; omega
   have Al:IntKind.i64.wrap ((n:Int)-1)=(n:Int)-1:=IntWalk.i64_in _ (by omega);clear hn
   go_still_tail 19,(by kernel_rfl)
   change wpList _ _ _ _ _ (World.drew W5)
   have AT:Ext W5 (World.drew W5):=Below.drew (Below.refl _ _);generalize World.drew W5=w6 at *;clear q2 l2 q3 l3 n4 l4 r0 al pl p1 Aj Al qt Aw A6 Ap;have AX:=Rn.zE8 AB AT;clear AT
   go_wp2_with fail
   refine(JW w6 S.a S.p S.A S.ct S.l i 72 AX.out.nb.rds AU.out).mono ?_;rintro e w7 ⟨rfl,rfl⟩
   have HF:Hid (jR w S R whole vU (XI (YT S.l i) 72) w6):=yG (by
    rw[AG.out]
    exact⟨rfl,AU.out,_,AX.out.mv⟩)
   exact xJ (P:=Tryz.prog) (fn:=Tryz.f123) rfl HF.out
section
variable (P:Program) (ops:Array Oper) (wd:World) (G:World→Prop) (Q:Act→World→Prop) (c:Nat)
def zPa (i:Nat)(o:Oper)(a:Act)(H:List (Option Tmp × (World→Prop))):Take→Prop
 | .det v0=>∀w,w=wd∨G w→if Region.wanted o (yielded ops a.tmps)=true then xA P a.eval o w (fun v w'=>v=v0∧w'=w) else undef=v0
 | .fact F=>(∀v w w',F v w→Ext w w'→F v w')∧if i=c then (if Region.wanted o (yielded ops a.tmps)=true then xA P a.eval o wd (fun v w'=>F v w'∧G w') else F undef wd∧G wd)
  else ∀w,G w→(∀p ∈ H,(∃t,p.1=some t∧t ∈ o.looksAt ops)→p.2 w)→if Region.wanted o (yielded ops a.tmps)=true then xA P a.eval o w (fun v w'=>F v w'∧Ext w w') else F undef w
def zDv:Nat→List Oper→List Take→Act→List (Option Tmp × (World→Prop))→Prop
 | _,[],_,a,H=>∀w,G w→(∀p ∈ H,p.2 w)→Q a w
 | k,o::l,.det v0::ks,a,H=>zPa P ops wd G c k o a H (.det v0)∧zDv (k+1) l ks (a.put o.dst v0) H
 | k,o::l,.fact F::ks,a,H=>zPa P ops wd G c k o a H (.fact F)∧∀v,zDv (k+1) l ks (a.put o.dst v) ((o.dst,F v)::H)
 | _,_::_,[],_,_=>False
end
section
variable {P:Program} {ops:Array Oper} {wd:World} {G:World→Prop} {Q:Act→World→Prop} {c:Nat}
theorem zQY {k:Nat}{a:Act}{H:List (Option Tmp × (World→Prop))}(h:∀w,G w→(∀p ∈ H,p.2 w)→Q a w):zDv P ops wd G Q c k [] [] a H:=h
theorem zAo {k:Nat}{o:Oper}{l:List Oper}{ks:List Take}{a:Act}{H:List (Option Tmp × (World→Prop))}{d:Option Tmp}(v0:Value)(hd:o.dst=d)(hg:o.guard=none)
  (h:∀w,w=wd∨G w→xA P a.eval o w (fun v w'=>v=v0∧w'=w)) (hk:zDv P ops wd G Q c (k+1) l ks (a.put d v0) H):zDv P ops wd G Q c k (o::l) (.det v0::ks) a H:=by
 subst hd;refine⟨fun w hw=>?_,hk⟩
 have:Region.wanted o (yielded ops a.tmps)=true:=by unfold Region.wanted; rw[hg]
 rw[if_pos this];exact h w hw
theorem zQ3 {k:Nat}{o:Oper}{l:List Oper}{ks:List Take}{a:Act}{H:List (Option Tmp × (World→Prop))}{d:Option Tmp}(F:Value→World→Prop)(hkc:k=c)(hs:∀v w w',F v w→Ext w w'→F v w')(hd:o.dst=d)(hg:o.guard=none)
  (h:xA P a.eval o wd (fun v w'=>F v w'∧G w')) (hk:∀v,zDv P ops wd G Q c (k+1) l ks (a.put d v) ((d,F v)::H)):zDv P ops wd G Q c k (o::l) (.fact F::ks) a H:=by
 subst hd;refine⟨⟨hs,?_⟩,hk⟩
 have:Region.wanted o (yielded ops a.tmps)=true:=by unfold Region.wanted; rw[hg]
 rw[if_pos hkc,if_pos this];exact h
theorem zFB {ks:List Take}{a0:Act}(vs:Nat→Value):∀(l:List Oper) (k:Nat),(∀j,j<l.length→l[j]?=ops[k+j]?)→zDv P ops wd G Q c k l (ks.drop k) (YD ops ks vs a0 k) (VC ops ks vs k) →
  (∀i o,k≤i→i<k+l.length→ops[i]?=some o→zPa P ops wd G c i o (YD ops ks vs a0 i) (VC ops ks vs i) (ks.getD i (.det undef))) ∧
  ∀w,G w→(∀p ∈ VC ops ks vs (k+l.length),p.2 w)→Q (YD ops ks vs a0 (k+l.length)) w
 | [],k,hl,h=>by
  refine⟨fun i o hi AB ho=>?_,by simpa [zDv] using h⟩
  simp at AB
  omega
 | o::l,k,hl,h=>by
  have h0:ops[k]?=some o:=by simpa using (hl 0 (by simp)).symm
  have AD:∀j,j<l.length→l[j]?=ops[k+1+j]?:=fun j hj=>by
   have:=hl (j+1) (by simpa using hj)
   simpa [Nat.add_assoc,Nat.add_comm 1 j] using this
  cases hd:ks.drop k with
  | nil=>rw[hd] at h; simp[zDv] at h
  | cons x ks'=>
   rw[hd] at h
   have hx:ks[k]?=some x:=by
    have:=congrArg (fun l=>l[0]?) hd
    simpa using this
   have hg:ks.getD k (.det undef)=x:=by simp[List.getD,hx]
   have AE:ks.drop (k+1)=ks':=by
    rw[←List.drop_drop,hd]; rfl
   have AA:k+(o::l).length=k+1+l.length:=by simp; omega
   cases x with
   | det v0=>
    simp only[zDv] at h
    have hA:YD ops ks vs a0 (k+1)=(YD ops ks vs a0 k).put o.dst v0:=by
     show(YD ops ks vs a0 k).put ((ops[k]?).bind (·.dst)) ((ks.getD k (.det undef)).val (vs k))=_
     rw[hg,h0]; rfl
    have hH:VC ops ks vs (k+1)=VC ops ks vs k:=by
     show(match ks.getD k (.det undef) with | .det _=>_ | .fact F=>_)=_
     rw[hg]
    obtain⟨r1,r2⟩:=zFB vs l (k+1) AD (by rw[AE,hA,hH]; exact h.2);rw[AA];refine⟨fun i oi hi AB ho=>?_,r2⟩
    by_cases AC:i=k
    ·subst AC;rw[h0] at ho;obtain rfl:=Option.some.inj ho;rw[hg];exact h.1
    ·exact r1 i oi (by omega) (by omega) ho
   | fact F=>
    simp only[zDv] at h
    have hA:YD ops ks vs a0 (k+1)=(YD ops ks vs a0 k).put o.dst (vs k):=by
     show(YD ops ks vs a0 k).put ((ops[k]?).bind (·.dst)) ((ks.getD k (.det undef)).val (vs k))=_
     rw[hg,h0]; rfl
    have hH:VC ops ks vs (k+1)=(o.dst,F (vs k))::VC ops ks vs k:=by
     show(match ks.getD k (.det undef) with | .det _=>_ | .fact F=>_)=_
     rw[hg,h0]; rfl
    obtain⟨r1,r2⟩:=zFB vs l (k+1) AD (by rw[AE,hA,hH]; exact h.2 (vs k));rw[AA];refine⟨fun i oi hi AB ho=>?_,r2⟩
    by_cases AC:i=k
    ·subst AC;rw[h0] at ho;obtain rfl:=Option.some.inj ho;rw[hg];exact h.1
    ·exact r1 i oi (by omega) (by omega) ho
structure zUG (P:Program)(ops:Array Oper)(m c:Nat)(wd:World)(G:World→Prop)(ks:List Take)(a0:Act)(listed:Array Bool)(a:Act)(w:World)(vs:Nat→Value):Prop where
 first:listed.getD c true=false→w=wd
 world:listed.getD c true=true→G w
 defers:a.defers=a0.defers
 facts:∀i,i<m→listed.getD i true=true→(ks.getD i (.det undef)).says (vs i) w
 done:∀i o t,i<m→ops[i]?=some o→o.dst=some t→listed.getD i true=true→a.tmps[t]?=(a0.tmps[t]?).map fun _=>vs i
 other:∀t,(∀i o,i<m→ops[i]?=some o→o.dst=some t→listed.getD i true=false)→a.tmps[t]?=a0.tmps[t]?
 closed:∀i o,ops[i]?=some o→listed.getD i false=true→∀e ∈ o.after,Region.binds .any e=true→listed.getD e.on false=true
 fresh:∀i,m≤i→i<ops.size→listed.getD i true=false
def zLN (ops:Array Oper)(c i:Nat):Bool:=match ops[i]? with
 | none=>false
 | some o=>o.after.any fun e=>e.on==c&&Region.binds .any e
theorem zP6 {m:Nat}(hG:∀w w',G w→Ext w w'→G w')(hB:YG ops m=true)(hT:zBY ops m=true){ks:List Take}{a0:Act}{Q':Exit→Act→World→Prop}(hcm:c<m)
  (hcf:∃F,ks.getD c (.det undef)=.fact F) (hc:∀i F,i<m→ks.getD i (.det undef)=.fact F→i=c∨zLN ops c i=true)
  (how:∀vs i o,i<m→ops[i]?=some o→zPa P ops wd G c i o (YD ops ks vs a0 i) (VC ops ks vs i) (ks.getD i (.det undef)))
  (hQ:∀vs w,G w→(∀p ∈ VC ops ks vs m,p.2 w)→wpList P ops Q' (ops.toList.drop m) (YD ops ks vs a0 m) w) :
  ∀(n:Nat) (listed:Array Bool) (U:List Nat) (a:Act) (w:World) (vs:Nat→Value),listed.size=ops.size→U.length=n→U.Nodup→(∀i,i ∈ U↔i<m∧listed.getD i true=false) →
   zUG P ops m c wd G ks a0 listed a w vs→wpAny P .any ops Q' (n+(ops.size-m)) listed a w:=by
 have Am:=JK hB
 have AD:∀(listed:Array Bool) (j:Nat),listed.size=ops.size→j<ops.size→listed.getD j false=listed.getD j true:=fun listed j AI hj=>by
  have:j<listed.size:=by omega
  simp[this]
 intro n
 induction n with
 | zero=>
  intro listed U a w vs AI AJ AZ hU AA;obtain rfl:=List.length_eq_zero_iff.1 AJ
  have AO:∀i,i<m→listed.getD i true=true:=fun i hi=>by
   cases hf:listed.getD i true with
   | true=>rfl
   | false=>have:=(hU i).2 ⟨hi,hf⟩; cases this
  have ea:a=YD ops ks vs a0 m:=by
   refine zGb (fun t=>?_) (by rw[AA.defers,zBx])
   by_cases AM:∃(i:Nat) (o:Oper),i<m∧ops[i]?=some o∧o.dst=some t
   ·obtain⟨i,o,AC,hi,hd⟩:=AM;have hl:=AO i AC;rw[AA.done i o t AC hi hd hl,zAa hB (j:=i) (by rw[hi]; exact hd) AC (zX _),Take.zEe (AA.facts i AC hl)]
   ·rw[AA.other t fun i o AC hi hd=>absurd ⟨i,o,AC,hi,hd⟩ AM,YO];intro j hj e;obtain⟨o,ho,hd⟩:=Option.bind_eq_some_iff.1 e;exact AM ⟨j,o,hj,ho,hd⟩
  rw[Nat.zero_add];refine zFq hT _ m listed a w (zX _) (by omega) AI (fun j hj=>?_) AA.closed ?_
  ·by_cases AG:j<m
   ·rw[AO j AG]; simp[AG]
   ·rw[AA.fresh j (by omega) hj]; simp[AG]
  ·rw[ea];refine hQ vs w (AA.world (AO c hcm)) fun p hp=>?_;obtain⟨j,hj,_,hs⟩:=VW hp;exact hs w (AA.facts j hj (AO j hj))
 | succ n ih=>
  intro listed U a w vs AI AJ AZ hU AA;rw[show n+1+(ops.size-m)=n+(ops.size-m)+1 from by omega]
  have AR:Region.ready .any ops listed≠[]:=fun hr=>by
   have AO:∀n i,i<n→i<m→listed.getD i true=true:=by
    intro n
    induction n with
    | zero=>intro i hi; omega
    | succ n ih'=>
     intro i hi AU
     cases hf:listed.getD i true with
     | true=>rfl
     | false=>
      exfalso
      have Ae:ops[i]?=some ops[i]:=Array.getElem?_eq_getElem (by omega)
      have hm:i ∈ Region.ready .any ops listed:=by
       rw[mem_ready];refine⟨hf,_,Ae,fun e he hb=>?_⟩;have Ak:=(XX hB AU Ae).2 e he hb;rw[AD listed e.on AI (by omega)];exact ih' e.on (by omega) (by omega)
      rw[hr] at hm
      cases hm
   cases U with
   | nil=>simp at AJ
   | cons x xs=>
    have:=(hU x).1 List.mem_cons_self
    rw[AO (x+1) x (by omega) this.1] at this
    cases this.2
  refine⟨fun hr=>absurd hr AR,fun i hi=>?_⟩;obtain⟨h0,o,ho,AK⟩:=mem_ready.1 hi;have AU:i<ops.size:=(Array.getElem?_eq_some_iff.1 ho).1
  have AC:i<m:=by
   rcases Nat.lt_or_ge i m with h | h
   ·exact h
   ·exfalso
    cases U with
    | nil=>simp at AJ
    | cons x xs=>
     have hx:=(hU x).1 List.mem_cons_self
     have:=JP AA.closed 8 i x o ho AK ((zBe hT ho h).2 x (by omega))
     rw[AD listed x AI (by omega),hx.2] at this
     cases this
  have Ac:i<listed.size:=by omega
  have AL:(listed.setIfInBounds i true).getD i true=true:=by simp[Ac]
  have AF:∀j,j≠i→(listed.setIfInBounds i true).getD j true=listed.getD j true:=fun j hj=>getD_set_ne true (Ne.symm hj)
  have look:∀t ∈ o.looksAt ops,a.tmps[t]?=(YD ops ks vs a0 i).tmps[t]?:=fun t ht=>by
   by_cases AM:∃(j:Nat) (p:Oper),j<m∧ops[j]?=some p∧p.dst=some t
   ·obtain⟨j,p,AG,hj,hd⟩:=AM
    rcases(vG hB AC AG ho hj hd).2 ht with ⟨AB,e,he,heq,hb⟩ | ⟨hij,e,he,heq,hb⟩
    ·have AT:listed.getD j true=true:=by
      have h1:=AK e he hb;rw[heq,AD listed j AI (by omega)] at h1;exact h1
     rw[AA.done j p t AG hj hd AT,zAa hB (j:=j) (by rw[hj]; exact hd) AB (by omega),Take.zEe (AA.facts j AG AT)]
    ·have Af:listed.getD j true=false:=by
      cases hf:listed.getD j true with
      | false=>rfl
      | true=>
       have:=AA.closed j p hj (by rw[AD listed j AI (by omega)]; exact hf) e he hb
       rw[heq,AD listed i AI AU,h0] at this
       cases this
     rw[AA.other t fun k ok AS hk AN=>by
       have:=(vG hB AS AG hk hj hd).1 AN
       subst this
       exact Af,YO]
     intro k hk e';obtain⟨ok,Aj,AN⟩:=Option.bind_eq_some_iff.1 e'
     have:=(vG hB (by omega) AG Aj hj hd).1 AN
     omega
   ·rw[AA.other t fun i o AC hi hd=>absurd ⟨i,o,AC,hi,hd⟩ AM,YO];intro j hj e;obtain⟨o,ho,hd⟩:=Option.bind_eq_some_iff.1 e;exact AM ⟨j,o,by omega,ho,hd⟩
  have AP:∀(j:Nat) (F:Value→World→Prop),j<m→ks.getD j (.det undef)=.fact F→j≠c→∃p e,ops[j]?=some p∧e ∈ p.after∧e.on=c∧Region.binds .any e=true:=fun j F hj hk AY=>by
   rcases hc j F hj hk with h | h
   ·exact absurd h AY
   ·unfold zLN at h
    cases hp:ops[j]? with
    | none=>rw[hp] at h; cases h
    | some p=>
     rw[hp] at h;simp only[Array.any_eq_true,zG,zO] at h;obtain⟨x,hx,h1,h2⟩:=h;exact⟨p,p.after[x],rfl,Array.getElem_mem hx,h1,h2⟩
  have AQ:∀(j:Nat) (F:Value→World→Prop),j<m→ks.getD j (.det undef)=.fact F→j≠c→listed.getD j true=true→listed.getD c true=true:=fun j F hj hk AY hl=>by
   obtain⟨p,e,hp,he,AX,hb⟩:=AP j F hj hk AY
   have:=AA.closed j p hp (by rw[AD listed j AI (by omega)]; exact hl) e he hb
   rw[AX,AD listed c AI (by omega)] at this;exact this
  have go:∀v w',(ks.getD i (.det undef)).says v w'→(w'=w∧i≠c)∨(i=c∧w=wd∧G w')∨(G w∧Ext w w'∧i≠c∧listed.getD c true=true)→wpAny P .any ops Q' (n+(ops.size-m)) (listed.setIfInBounds i true) (a.put o.dst v) w':=by
   intro v w' hv AV
   have AW:∀j oj,j≠i→j<m→ops[j]?=some oj→listed.getD j true=true→∀v,(ks.getD j (.det undef)).says v w→(ks.getD j (.det undef)).says v w':=fun j oj AB AG hj AT v hs=>by
    rcases AV with ⟨rfl,_⟩ | ⟨AE,_,_⟩ | ⟨_,hx,_,_⟩
    ·exact hs
    ·cases hk:ks.getD j (.det undef) with
     | det v0=>rw[hk] at hs; exact hs
     | fact F'=>
      have h1:=AQ j F' AG hk (by rw[←AE]; exact AB) AT;rw[←AE,h0] at h1
      cases h1
    ·cases hk:ks.getD j (.det undef) with
     | det v0=>rw[hk] at hs; exact hs
     | fact F'=>
      have h1:=how vs j oj AG hj;rw[hk] at h1 hs;exact h1.1 v w w' hs hx
   refine ih (listed.setIfInBounds i true) (U.erase i) _ w' (fun j=>if j=i then v else vs j) (by simpa using AI) ?_ (AZ.erase i) (fun j=>?_) ?_
   ·rw[List.length_erase_of_mem ((hU i).2 ⟨AC,h0⟩),AJ]; rfl
   ·rw[AZ.mem_erase_iff,hU j]
    by_cases AB:j=i
    ·subst AB; simp[Ac]
    ·rw[AF j AB]; simp[AB]
   ·refine⟨?_,?_,by rw[XQ]; exact AA.defers,fun j hj hl=>?_,fun j p t AG hj hd hl=>?_,fun t ht=>?_,fun j p hj hl e he hb=>?_,fun j hj Ai=>?_⟩
    ·intro AH
     by_cases Aa:c=i
     ·subst Aa; rw[AL] at AH; cases AH
     ·rw[AF c Aa] at AH
      rcases AV with ⟨rfl,_⟩ | ⟨AE,_,_⟩ | ⟨_,_,_,hl⟩
      ·exact AA.first AH
      ·exact absurd AE.symm Aa
      ·rw[AH] at hl; cases hl
    ·intro AH
     rcases AV with ⟨rfl,AE⟩ | ⟨_,_,hg⟩ | ⟨hg,hx,_,_⟩
     ·rw[AF c (Ne.symm AE)] at AH;exact AA.world AH
     ·exact hg
     ·exact hG _ _ hg hx
    ·by_cases AB:j=i
     ·subst AB; simpa using hv
     ·rw[AF j AB] at hl;simp only[if_neg AB];exact AW j _ AB hj (Array.getElem?_eq_getElem (by omega)) hl _ (AA.facts j hj hl)
    ·by_cases AB:j=i
     ·subst AB;rw[ho] at hj;obtain rfl:=Option.some.inj hj
      rw[hd,XM,AA.other t fun k ok AS hk AN=>by
       have:=(vG hB AS AC hk ho hd).1 AN
       subst this
       exact h0]
      simp
     ·rw[AF j AB] at hl;rw[jC _ _ _ (fun e=>AB ((vG hB AC AG ho hj hd).1 e).symm),AA.done j p t AG hj hd hl];simp[AB]
    ·rw[jC _ _ _ (fun e=>by
      have:=ht i o AC ho e
      rw[AL] at this
      cases this)]
     refine AA.other t fun k ok AS hk AN=>?_
     have:=ht k ok AS hk AN
     by_cases Ad:k=i
     ·subst Ad; exact h0
     ·rwa [AF k Ad] at this
    ·by_cases AB:j=i
     ·subst AB;rw[ho] at hj;obtain rfl:=Option.some.inj hj;exact getD_set_true (AK e he hb)
     ·rw[getD_set_ne false (Ne.symm AB)] at hl;exact getD_set_true (AA.closed j p hj hl e he hb)
    ·rw[AF j (by omega)];exact AA.fresh j hj Ai
  have ow:=how vs i o AC ho
  have hH:∀p ∈ VC ops ks vs i,(∃t,p.1=some t∧t ∈ o.looksAt ops)→p.2 w:=fun p hp ⟨t,hpt,ht⟩=>by
   obtain⟨j,hj,Ab,hs⟩:=VW hp;rw[hpt] at Ab;obtain⟨p',Ag,Ah⟩:=Option.bind_eq_some_iff.1 Ab.symm
   rcases(vG hB AC (by omega) ho Ag Ah).2 ht with ⟨_,e,he,heq,hb⟩ | ⟨hij,_⟩
   ·have h1:=AK e he hb;rw[heq,AD listed j AI (by omega)] at h1;exact hs w (AA.facts j (by omega) h1)
   ·omega
  unfold wpOp;simp only[ho]
  cases hk:ks.getD i (.det undef) with
  | det v0=>
   have AE:i≠c:=fun e=>by
    obtain⟨F,hF⟩:=hcf;rw[←e,hk] at hF
    cases hF
   rw[hk] at ow go
   have ow:=ow w (by
    cases AH:listed.getD c true with
    | false=>exact .inl (AA.first AH)
    | true=>exact .inr (AA.world AH))
   rw[←zAF o a _ look,←YH o (XX hB AC ho).1 a _ look] at ow
   split
   ·rename_i hw;simp only[hw,if_true] at ow;exact .inl (YX ow fun v w' hv=>go v w' hv.1 (.inl ⟨hv.2,AE⟩))
   ·rename_i hw;simp only[hw] at ow;exact go undef w ow (.inl ⟨rfl,AE⟩)
  | fact F=>
   rw[hk] at ow go;have ow:=ow.2
   by_cases AE:i=c
   ·have Al:w=wd:=AA.first (by rw[←AE]; exact h0);rw[if_pos AE,←zAF o a _ look,←YH o (XX hB AC ho).1 a _ look] at ow;subst Al
    split
    ·rename_i hw;simp only[hw,if_true] at ow;exact .inl (YX ow fun v w' hv=>go v w' hv.1 (.inr (.inl ⟨AE,rfl,hv.2⟩)))
    ·rename_i hw;simp only[hw] at ow;exact go undef w ow.1 (.inr (.inl ⟨AE,rfl,ow.2⟩))
   ·obtain⟨p,e,hp,he,AX,hb⟩:=AP i F AC hk AE;rw[ho] at hp;obtain rfl:=Option.some.inj hp
    have AH:listed.getD c true=true:=by
     have h1:=AK e he hb;rw[AX,AD listed c AI (by omega)] at h1;exact h1
    have hg:=AA.world AH;rw[if_neg AE] at ow;have ow:=ow w hg hH;rw[←zAF o a _ look,←YH o (XX hB AC ho).1 a _ look] at ow
    split
    ·rename_i hw;simp only[hw,if_true] at ow;exact .inl (YX ow fun v w' hv=>go v w' hv.1 (.inr (.inr ⟨hg,hv.2,AE,AH⟩)))
    ·rename_i hw;simp only[hw] at ow;exact go undef w ow (.inl ⟨rfl,AE⟩)
def zNU:Take→Bool
 | .fact _=>true
 | .det _=>false
theorem zJH {id:Nat}{Q':Exit→Act→World→Prop}{a:Act}{w:World}{l:List Oper}(m c:Nat)(G:World→Prop){ks:List Take}(hG:∀w w',G w→Ext w w'→G w')(hm:P.follows .mixedOrders=true)(hB:YG l.toArray m=true)(hT:zBY l.toArray m=true)(hcm:c<m)
  (h:zDv P l.toArray w.drew G (fun a' w'=>wpList P l.toArray Q' (l.drop m) a' w') c 0 (l.take m) ks a [])
  (hk:zNU (ks.getD c (.det undef))=true) (hc:(List.range m).all (fun i=>!zNU (ks.getD i (.det undef))||(i==c||zLN l.toArray c i))=true):(Code.region id l.toArray true).wp P Q' a w:=by
 have AE:∃F,ks.getD c (.det undef)=.fact F:=by
  cases hx:ks.getD c (.det undef) with
  | det v0=>rw[hx] at hk; cases hk
  | fact F=>exact⟨F,rfl⟩
 have AB:∀i F,i<m→ks.getD i (.det undef)=.fact F→i=c∨zLN l.toArray c i=true:=fun i F hi hx=>by
  have h1:=List.all_eq_true.1 hc i (List.mem_range.2 hi);rw[hx] at h1
  simpa [zNU] using h1
 have AH:=JK hB;simp only[List.size_toArray] at AH;refine wp_region_any hm ?_
 have sp:=fun vs=>zFB (P:=P) (ops:=l.toArray) (wd:=w.drew) (G:=G) (c:=c) (Q:=fun a' w'=>wpList P l.toArray Q' (l.drop m) a' w') (ks:=ks) (a0:=a) vs (l.take m) 0 (fun j hj=>by
  have AI:j<m:=by simp at hj; omega
  simp[List.getElem?_take,AI]) (by simpa [YD,VC] using h)
 have AA:(l.take m).length=m:=by simp; omega
 rw[show l.toArray.size=m+(l.toArray.size-m) from by simp; omega];refine zP6 (P:=P) (ops:=l.toArray) (wd:=w.drew) (G:=G) (c:=c) (ks:=ks) (a0:=a) (m:=m) hG hB hT hcm AE AB ?_ ?_ m _ (List.range m) a _ (fun _=>undef) (by simp; omega) (by simp) List.nodup_range ?_ ?_
 ·exact fun vs i o AF hi=>((sp vs).1 i o (zW _) (by omega) hi)
 ·intro vs w' AC hp
  have:=(sp vs).2 w' AC (by rw[AA]; simpa using hp)
  rw[AA] at this
  simpa using this
 ·intro i;simp only[List.mem_range]
  constructor
  ·intro h
   have:i<m+(l.length-m):=by omega
   exact⟨h,by simp[this]⟩
  ·exact fun h=>h.1
 ·refine⟨fun _=>rfl,fun hl=>?_,rfl,fun i hi hl=>?_,fun i o t AF hi hd hl=>?_,fun t _=>rfl,fun i o hi hl=>?_,fun i hi AD=>?_⟩
  ·have:c<m+(l.length-m):=by omega
   simp[this] at hl
  ·have:i<m+(l.length-m):=by omega
   simp[this] at hl
  ·have:i<m+(l.length-m):=by omega
   simp[this] at hl
  ·have AG:i<l.length:=by simpa using (Array.getElem?_eq_some_iff.1 hi).1
   have:i<m+(l.length-m):=by omega
   simp[this] at hl
  ·have AG:i<l.length:=by simpa using AD
   have:i<m+(l.length-m):=by omega
   simp[this]
end
end Go.Proofs.YtbadjmmjbpeocaaGreat
