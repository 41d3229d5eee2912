/- The reader of names: stmt: put. (and what follows of it). The conditions stand at each lemma. -/
import Derived.Test.YtbadjmmjbpeocaaGreatDoorKaa
import Derived.Test.YtbadjmmjbpeocaaGreatDoorKbe
import Derived.StillTailTactics
set_option linter.unusedVariables false
set_option linter.unusedSimpArgs false
set_option maxRecDepth 100000
set_option maxHeartbeats 16000000
namespace Go.Proofs.YtbadjmmjbpeocaaGreatDoor
open Go Go.RowKit
theorem zNk (l:List Nt):∀(th:List Hd2) (hl:th.length=l.length) (k:Nat) (x:Nt),l[k]?=some x→∃(A:Option Addr) (c:Nat),(JI l th)[k*2]?=some (.string (xI x.name))∧(JI l th)[k*2+1]?=some (.slice A x.zA0.length c):=by
 induction l with
 | nil=>intro th hl k x h; simp at h
 | cons y l ih=>
  intro th hl k x h
  cases th with
  | nil=>simp at hl
  | cons h0 th=>
   show ∃A c,(zM1 (y,h0)++JI l th)[k*2]?=_∧(zM1 (y,h0)++JI l th)[k*2+1]?=_
   cases k with
   | zero=>
    simp only[yM,yY] at h;subst h;exact⟨h0.1,h0.2,rfl,rfl⟩
   | succ k=>
    obtain⟨A,c,e1,e2⟩:=ih th (by simpa using hl) k x (by simpa using h);refine⟨A,c,?_,?_⟩
    ·rw[List.getElem?_append_right (by show 2≤_; omega),show(k+1)*2-(zM1 (y,h0)).length=k*2 from by show(k+1)*2-2=_; omega];exact e1
    ·rw[List.getElem?_append_right (by show 2≤_; omega),show(k+1)*2+1-(zM1 (y,h0)).length=k*2+1 from by show(k+1)*2+1-2=_; omega];exact e2
theorem zER (l:List Nt):∀(th:List Hd2),th.length=l.length→(JI l th).length=l.length*2:=by
 induction l with
 | nil=>intro th h; rfl
 | cons y l ih=>
  intro th hl
  cases th with
  | nil=>simp at hl
  | cons h0 th=>
   show(zM1 (y,h0)++JI l th).length=_
   rw[yP,ih th (by simpa using hl),zK]
   show 2+_=_
   omega
theorem NB.zTj {w:World}{S:StN}{s:Nr}{R:DyN}(h:NB w S s R)(t:Nat)(x:Nt)(ht:s.xH[t]?=some x) :
  ∃(tb to:Nat) (A:Option Addr) (c:Nat),S.At=some ⟨tb,to,none⟩∧tb<w.heap.size∧w.cell? ⟨tb,to+t*2+1,none⟩=some (.slice A x.zA0.length c):=by
 obtain⟨hlt,_⟩:=List.getElem?_eq_some_iff.1 ht;obtain⟨b,off,hA,hb,hcc⟩:=h.st.zA2.cells.at_ (by rw[zER _ _ h.st.thl]; omega);obtain⟨A,c,_,e2⟩:=zNk s.xH S.th h.st.thl t x ht;refine⟨b,off,A,c,hA,hb,?_⟩;rw[Nat.add_assoc,hcc (t*2+1) (by rw[zER _ _ h.st.thl]; omega)];exact e2
theorem zQ8 {t:List Nd}{f i a:Nat}{L:List Nat}{s:Nr}(hk:(xC t i).kind=9)(hkk:(xC t i).kids=a::L):vF t (f+1) i s=((ofN t a s).bind fun s=>(if (xC t i).kids.length=((s.xH[(zAO s a).toNat]?).map fun x=>x.zA0.length).getD 0+1 then YQ.ok (s.set i (zAO s a)) else .err i 72).bind (vD (xX t (f+1)) (xC t i).kids)).bind (ZC t i):=by
 rw[vF,if_neg (by omega),if_pos hk]
 have e:YI t i 0=a:=by unfold YI; rw[hkk]; rfl
 rw[e]
theorem zS3 (f:Nat)(S:StN)(hT:zDZ S)(hst:zDW S f)(w:World)(s:Nr)(R:DyN)(i:Nat)(h:NB w S s R)(hi:i<S.l.length)(hf:S.l.length≤f+1+i)(hb:s.blocks.length+2*(f+1)+2≤100000)(hne:s.blocks≠[])(hk:(xC (tN S.l) i).kind=9) :
  Calls Tryz.prog 105 #[.pointer (some ⟨S.a,0,none⟩),.int .i64 (i:Int)] w (jR w S R (vF (tN S.l) (f+1) i s) vU):=by
 have HT:=yG hT;have HNB:=yG h;have HIL:=yG hi;have HSTM:=yG hst;have HFI:=yG hf;have HKI:=yG hk;have HTX:Hid ((xC (tN S.l) i).text.length≤maxLen):=yG (h.st.tree.txt i);have HBL:Hid (s.blocks.length+2*(f+1)+2≤100000∧s.blocks≠[]):=yG ⟨hb,hne⟩;have HKS:Hid (∀(wr:World) (sk:Nr) (Rk:DyN),NB wr S sk Rk→Cells wr (hdN S.l i).1 (ints (xC (tN S.l) i).kids)):=yG fun wr sk Rk hn=>(hn.st.tree.kid i hi).cells;have HUP:Hid (∀k,k ∈ (xC (tN S.l) i).kids→i<k∧k<S.l.length):=yG fun k hk=>hT.up hk;have HKB:Hid ((xC (tN S.l) i).kids.length≤100000):=yG (hT.kl i);have HKCAP:Hid ((xC (tN S.l) i).kids.length≤(hdN S.l i).2):=yG (h.st.tree.cap i hi);have HFORM:Hid (zAg (tN S.l) i):=yG (hT.R.form i (by rw[zAk]; exact hi) (by omega) (by omega));have HML:Hid (∀b,xM S R b→b<w.heap.size):=yG fun b hm=>h.ZU hm;obtain⟨W2,HW2⟩:∃W2,Hid ((w.alloc (.cells #[.pointer (some ⟨S.a,0,none⟩)] 78)).alloc (.cells #[.int .i64 (i:Int)] 3)=W2):=⟨_,yG rfl⟩;have HX2:Hid (Ext w W2):=yG (by rw[←HW2.out]; exact(Ext.alloc _ _).trans (Ext.alloc _ _))
 have HB2:Hid (Safe W2 (xM S R) w.heap.size 78 #[.pointer (some ⟨S.a,0,none⟩)]∧Safe W2 (xM S R) (w.heap.size+1) 3 #[.int .i64 (i:Int)]):=yG (by
  rw[←HW2.out];refine⟨⟨(Blk.new _ _ _).alloc _,fun hm=>by have:=HML.out _ hm; omega⟩,⟨?_,fun hm=>by have:=HML.out _ hm; omega⟩⟩
  have:=Blk.new (w.alloc (.cells #[.pointer (some ⟨S.a,0,none⟩)] 78)) 3 #[.int .i64 (i:Int)]
  rwa [yT] at this)
 clear hT h hst hi hf hb hne hk
 have q2:((w.alloc (.cells #[.pointer (some ⟨S.a,0,none⟩)] 78)).alloc (.cells #[.int .i64 (i:Int)] 3)).cell? ⟨w.heap.size,0,none⟩=some (.pointer (some ⟨S.a,0,none⟩)):=by rw[HW2.out]; exact HB2.out.1.1.cell 0
 have q3:((w.alloc (.cells #[.pointer (some ⟨S.a,0,none⟩)] 78)).alloc (.cells #[.int .i64 (i:Int)] 3)).cell? ⟨w.heap.size+1,0,none⟩=some (.int .i64 (i:Int)):=by rw[HW2.out]; exact HB2.out.2.1.cell 0
 go_enter Tryz.func105,Tryz.ntmps105
 go_wp2_with fail
 rw[HW2.out];clear q2 q3 HW2;refine(vV W2 S.a S.p S.A S.ct S.l i (HNB.out.ext HX2.out).rds HIL.out).mono ?_;rintro e w3 ⟨rfl,hx3⟩;obtain⟨W4,HW4⟩:∃W4,Hid (w3.alloc (.cells (vX S.l i) 39)=W4):=⟨_,yG rfl⟩;obtain⟨g2,HG2⟩:∃g2,Hid (w.heap.size=g2):=⟨_,yG rfl⟩;obtain⟨g3,HG3⟩:∃g3,Hid (w.heap.size+1=g3):=⟨_,yG rfl⟩;obtain⟨g4,HG4⟩:∃g4,Hid (w3.heap.size=g4):=⟨_,yG rfl⟩
 have HR0:Hid (Rn w S R i g2 g3 g4 W4 s R):=yG (by
  have hx4:Ext w3 W4:=by rw[←HW4.out]; exact Ext.alloc _ _
  have hx:=(HX2.out.trans hx3).trans hx4;refine⟨HNB.out.ext hx,xD.ext hx,ZO.refl R,?_,?_,?_⟩
  ·rw[←HG2.out]; exact(HB2.out.1.xG (xD.ext (M:=xM S R) hx3)).xG (xD.ext (M:=xM S R) hx4)
  ·rw[←HG3.out]; exact(HB2.out.2.xG (xD.ext (M:=xM S R) hx3)).xG (xD.ext (M:=xM S R) hx4)
  ·rw[←HG4.out,←HW4.out]
   exact(((HNB.out.ext HX2.out).ext hx3).fresh 39 (vX S.l i)))
 have HWH0:Hid (vF (tN S.l) (f+1) i s=vF (tN S.l) (f+1) i s):=yG rfl;have HNC:Hid (vX S.l i=#[.int .u8 (9:Int),.int .i64 (YY S.l i),.string (xI (xC (tN S.l) i).text),.int .i64 (xC (tN S.l) i).num,.slice (hdN S.l i).1 (xC (tN S.l) i).kids.length (hdN S.l i).2]):=yG (by unfold vX; rw[HKI.out]; try rfl);rw[HNC.out] at HW4 ⊢
 go_upto_region 2 with fail
 rw[HW4.out,HG4.out];rw[HG3.out,HG2.out];clear hx3 HW4 HG4 HB2 HX2
 obtain⟨a,L,hkk,ha⟩:∃a L,(xC (tN S.l) i).kids=a::L∧(xC (tN S.l) a).kind=20:=by
  have h:=HFORM.out;unfold zAg at h;rw[HKI.out] at h;obtain⟨a,L,h1,h2,_⟩:=h;exact⟨a,L,h1,h2⟩
 have HKK:=yG hkk;have HWH:=yG (zQ8 (f:=f) (s:=s) HKI.out hkk);clear hkk ha HWH0;have hkl:True:=trivial;obtain⟨kA,HKA⟩:∃kA,Hid ((hdN S.l i).1=kA):=⟨_,yG rfl⟩;obtain⟨kc,HKCC⟩:∃kc,Hid ((hdN S.l i).2=kc):=⟨_,yG rfl⟩;obtain⟨n,HKN⟩:∃n,Hid ((xC (tN S.l) i).kids.length=n):=⟨_,yG rfl⟩;rw[HKA.out,HKCC.out,HKN.out]
 have hn0:1≤n:=by have h:=HKN.out; rw[HKK.out] at h; simp at h; omega
 have hkc:n≤kc:=by have h:=HKCAP.out; rw[HKN.out,HKCC.out] at h; exact h
 have hkb:n≤100000:=by have h:=HKB.out; rw[HKN.out] at h; exact h
 have hca:=HKS.out _ _ _ HR0.out.nb;rw[HKA.out] at hca;obtain⟨kb,ko,rfl,_,_⟩:=hca.at_ (by rw[vY,HKN.out]; omega);clear hca hkl
 have HKC:Hid (∀(wr:World) (sk:Nr) (Rk:DyN),NB wr S sk Rk→kb<wr.heap.size∧wr.cell? ⟨kb,ko,none⟩=some (.int .i64 (a:Int))∧True):=yG fun wr sk Rk hn=>by
  have hc:=HKS.out wr sk Rk hn;rw[HKA.out,HKK.out] at hc;obtain⟨b',o',e1,e2,e3⟩:=hc.at_ (by simp[ints]);injection e1 with e1;injection e1 with e1 e1';subst e1 e1';exact⟨e2,(e3 0 (by simp[ints]; try omega)).trans rfl,trivial⟩
 have HN0:Hid (∀(W:World) (M:Nat→Prop),StF W M S i g2 g3 g4→W.cell? ⟨g4,0,none⟩=some (.int .u8 (9:Int))):=yG fun W M h=>by have:=h.b4.1.cell 0; rw[HNC.out] at this; exact this
 have HN4:Hid (∀(W:World) (M:Nat→Prop),StF W M S i g2 g3 g4→W.cell? ⟨g4,4,none⟩=some (.slice (some ⟨kb,ko,none⟩) n kc)):=yG fun W M h=>by have:=h.b4.1.cell 4; rw[HNC.out,HKA.out,HKCC.out,HKN.out] at this; exact this
 have HUPA:Hid (i<a∧a<S.l.length):=yG (HUP.out a (by rw[HKK.out]; simp));have HUPL:Hid (∀k,k ∈ (a::L)→i<k∧k<S.l.length):=yG fun k hk=>HUP.out k (by rw[HKK.out]; exact hk)
 have i0:(0:Int)<(n:Int):=by omega
 have j0:0<n:=by omega
 have HNK:Hid (n=(a::L).length):=yG (by rw[←HKN.out,HKK.out])
 have HLC:Hid (∀(wr:World) (sk:Nr) (Rk:DyN),NB wr S sk Rk→Cells wr (some ⟨kb,ko,none⟩) (ints (a::L))):=yG fun wr sk Rk hn=>by
  have hc:=HKS.out wr sk Rk hn;rw[HKA.out,HKK.out] at hc;exact hc
 obtain⟨Ks,HKE⟩:∃Ks,Hid (a::L=Ks):=⟨_,yG rfl⟩;rw[HKE.out] at HUPL HNK HLC;generalize hwhole:vF (tN S.l) (f+1) i s=whole at *;clear hwhole;have n0:=HN0.out _ _ HR0.out.f
 go_upto_region 23 with fail
 clear n0;have q2:=HR0.out.k2;have l2:=HR0.out.f.b2.1.lt;have n4:=HN4.out _ _ HR0.out.f;have l4:=HR0.out.f.b4.1.lt;have kbl:=(HKC.out _ _ _ HR0.out.nb).1;have zFc:=(HKC.out _ _ _ HR0.out.nb).2.1
 go_still_tail 5,(by kernel_rfl)
 change wpList _ _ _ _ _ (World.drew W4)
 have hx1:Ext W4 (World.drew W4):=Below.drew (Below.refl _ _);generalize World.drew W4=w1 at *;clear q2 l2 n4 l4 kbl zFc;have HR1:=Rn.zEX HR0 hx1;clear hx1
 go_wp2_with fail
 refine(zFI w1 S s R a HR1.out.nb HUPA.out.2).mono ?_;intro e w2 hpost
 cases hq:ofN (tN S.l) a s with
 | err j er=>
  rw[hq] at hpost;obtain⟨rfl,hF⟩:=Rn.fail (whole:=whole) HR1 hpost (by rw[HWH.out,hq]; rfl);exact xK (P:=Tryz.prog) (fn:=Tryz.f105) rfl hF
 | ok s2=>
  rw[hq] at hpost;obtain⟨he,R2,hk2⟩:=hpost;have HR2:=Rn.step HR1 hk2;obtain⟨tn,x,hx1,hx2,hx3⟩:=zLV (by rw[HR1.out.nb.len]; exact HUPA.out.2) hq
  obtain rfl:e=.returned (.int .i64 (tn:Int)):=by rw[he,←hx2]
  have HTB:Hid (s2.xH[tn]?=some x):=yG (by rw[hx3]; exact hx1);have HBK:Hid (s2.blocks.length+2*(f+1)+2≤100000∧s2.blocks≠[]):=yG (by rw[hx3]; exact HBL.out)
  have HW2:Hid (whole=((if n=x.zA0.length+1 then YQ.ok (s2.set i (tn:Int)) else .err i 72).bind (vD (xX (tN S.l) (f+1)) Ks)).bind (ZC (tN S.l) i)):=yG (by
   have hT:=HTB.out;rw[HWH.out,hq]
   show((if (xC (tN S.l) i).kids.length=((s2.xH[(zAO s2 a).toNat]?).map fun x=>x.zA0.length).getD 0+1 then YQ.ok (s2.set i (zAO s2 a)) else .err i 72).bind (vD (xX (tN S.l) (f+1)) (xC (tN S.l) i).kids)).bind (ZC (tN S.l) i)=_
   rw[hx2,zI,hT,HKN.out,HKK.out,HKE.out]
   rfl)
  clear hk2 hq hx1 hx2 hx3 he
  go_upto_region 24 with fail
  have q2:=HR2.out.k2;have l2:=HR2.out.f.b2.1.lt;have q3:=HR2.out.k3;have l3:=HR2.out.f.b3.1.lt;have r0:=HR2.out.nb.rds.r0;have al:=HR2.out.nb.rds.al;have pl:=HR2.out.nb.rds.pl;have p3:=HR2.out.nb.p3
  have q0:(i:Int)<(S.l.length:Int):=by have:=HIL.out; omega
  go_still_tail 10,(by kernel_rfl)
  change wpList _ _ _ _ _ (World.drew w2)
  have hx3:Ext w2 (World.drew w2):=Below.drew (Below.refl _ _);generalize World.drew w2=w3 at *;clear q2 l2 q3 l3 r0 al pl p3;have HR3:=Rn.zEX HR2 hx3;clear hx3;have co:=HR3.out.nb.zBZ i HIL.out;have cz:=HR3.out.nb.ofz i;have HSET:=yG (HR3.out.nb.setOf i (tn:Int));have HR4:=Rn.step HR3 ⟨ZO.refl R2,HSET.out.1,HSET.out.2⟩;clear HSET
  go_upto_region 25 with fail
  clear co cz q0;generalize w3.setCell ⟨S.bo,i,none⟩ (.int .i64 (tn:Int))=W5 at *;obtain⟨tb,to,tA,tc,hAt,htl,htc⟩:=HR4.out.nb.zTj tn x HTB.out;obtain⟨cl,HCL⟩:∃cl,Hid (x.zA0.length=cl):=⟨_,yG rfl⟩;rw[HCL.out] at htc HW2
  have qt:(tn:Int)<(s2.xH.length:Int):=by have:=(List.getElem?_eq_some_iff.1 HTB.out).1; omega
  have qtn:tn<s2.xH.length:=(List.getElem?_eq_some_iff.1 HTB.out).1;have q2:=HR4.out.k2;have l2:=HR4.out.f.b2.1.lt;have q3:=HR4.out.k3;have l3:=HR4.out.f.b3.1.lt;have n4:=HN4.out _ _ HR4.out.f;have l4:=HR4.out.f.b4.1.lt;have r0:=HR4.out.nb.rds.r0;have al:=HR4.out.nb.rds.al;have pl:=HR4.out.nb.rds.pl;have p1:=HR4.out.nb.p1;rw[hAt] at p1;have HB4:Hid ((s2.set i (tn:Int)).blocks.length+2*(f+1)+2≤100000∧(s2.set i (tn:Int)).blocks≠[]):=HBK;have htabs:(s2.set i (tn:Int)).xH.length=s2.xH.length:=rfl;rw[htabs] at p1;clear htabs hAt
  by_cases hn:n=cl+1
  ·have HW4:Hid (whole=(vD (xX (tN S.l) (f+1)) (Ks.drop 0) (s2.set i (tn:Int))).bind (ZC (tN S.l) i)):=yG (by rw[HW2.out,if_pos hn]; rfl)
   have heq:((n:Int)-1==(cl:Int))=true:=by rw[zO]; omega
   have hwr:IntKind.i64.wrap ((n:Int)-1)=(n:Int)-1:=IntWalk.i64_in _ (by omega);clear hn
   go_still_tail 19,(by kernel_rfl)
   change wpList _ _ _ _ _ (World.drew W5)
   have hx6:Ext W5 (World.drew W5):=Below.drew (Below.refl _ _);generalize World.drew W5=w6 at *;clear q2 l2 q3 l3 n4 l4 r0 al pl p1 heq hwr qt qtn htl htc;have HR6:=Rn.zEX HR4 hx6;clear hx6
   go_wp2_with fail
   refine(XC w6 (.pointer (some ⟨S.a,0,none⟩)) (i:Int) 72).mono ?_;rintro e w7 ⟨rfl,rfl⟩;have n4:=HN4.out _ _ HR6.out.f
   go_upto_region 27 with fail
   clear n4;have hnk:=HNK.out;subst hnk
   go_loopw [125] (fun i' wr=>∃(k:Nat) (sk:Nr) (Rk:DyN),k≤Ks.length∧i'=.int .i64 k∧Hid (Rn w S R i g2 g3 g4 wr sk Rk)∧Hid (sk.blocks.length+2*(f+1)+2≤100000∧sk.blocks≠[])∧Hid (whole=(vD (xX (tN S.l) (f+1)) (Ks.drop k) sk).bind (ZC (tN S.l) i))) (fun i' _=>Ks.length-(intOf i').toNat)
   case atStart=>exact⟨0,(s2.set i (tn:Int)),R2,zW _,rfl,HR6,HB4,HW4⟩
   case round=>
    obtain⟨k,sk,Rk,hk,rfl,HRK,HBK,HWK⟩:=hrel;obtain⟨wa,rfl⟩:∃wa:World,wa=wr:=⟨_,rfl⟩
    by_cases hlt:k<Ks.length
    ·have d0:decide ((k:Int)<(Ks.length:Int))=true:=yS (by omega)
     have q1:(k:Int)<(Ks.length:Int):=by omega
     obtain⟨b',off,HAE,hb,hcc⟩:=(HLC.out wa sk Rk HRK.out.nb).at_ (by rw[vY]; omega)
     have e0:wa.cell? ⟨b',off+k,none⟩=some (.int .i64 ((Ks[k]:Nat):Int)):=by rw[hcc k (by rw[vY]; exact hlt)]; simp[ints,hlt]
     have HMEM:Hid (Ks[k] ∈ Ks):=yG (yO hlt);have HSN:Hid (vD (xX (tN S.l) (f+1)) (Ks.drop k) sk=((xX (tN S.l) (f+1)) Ks[k] sk).bind (vD (xX (tN S.l) (f+1)) (Ks.drop (k+1)))):=yG (by rw[List.drop_eq_getElem_cons hlt]; rfl);clear hcc;generalize Ks[k]=c at *;injection HAE with HAE;injection HAE with he1 he2;subst he1 he2;have q2:=HRK.out.k2
     go_wp2_with fail
     clear q2 e0;refine(zBh (f+1) wa S sk Rk c HT.out HRK.out.nb (HUPL.out c HMEM.out).2 (by have:=(HUPL.out c HMEM.out).1; have:=HFI.out; omega) (by have:=HBK.out.1; omega) HBK.out.2).mono ?_;intro e w5 hpost
     cases hq:xX (tN S.l) (f+1) c sk with
     | err j er=>
      rw[hq] at hpost;obtain⟨rfl,hF⟩:=Rn.fail (whole:=whole) HRK hpost (by rw[HWK.out,HSN.out,hq]; rfl);exact xK (P:=Tryz.prog) (fn:=Tryz.f105) rfl hF
     | ok s5=>
      rw[hq] at hpost;obtain⟨rfl,R5,hk5⟩:=hpost;have HR5:=Rn.step HRK hk5;have HB5:Hid (s5.blocks.length+2*(f+1)+2≤100000∧s5.blocks≠[]):=yG (by rw[(YE HT.out.R (f+1) c sk s5 hq).blocks]; exact HBK.out);have HW5:Hid (whole=(vD (xX (tN S.l) (f+1)) (Ks.drop (k+1)) s5).bind (ZC (tN S.l) i)):=yG (by rw[HWK.out,HSN.out,hq]; rfl);clear hk5 hq;unfold vU
      go_wp2_with fail
      go_roundw
      case rel=>exact⟨k+1,s5,R5,by omega,by go_num,HR5,HB5,HW5⟩
      case measure=>simp[intOf]; omega
    ·obtain rfl:k=Ks.length:=by omega
     have d0:decide ((Ks.length:Int)<(Ks.length:Int))=false:=by simp
     have d1:decide (Ks.length<Ks.length)=false:=by simp
     have HWT:Hid (whole=ZC (tN S.l) i sk):=yG (by rw[HWK.out,List.drop_length]; rfl);have n0:=HN0.out _ _ HRK.out.f;have HF9:=yG (Rn.done HRK (show whole=.ok sk by rw[HWT.out]; exact zFF (by have:=HKI.out; omega)))
     go_wp2_with fail
     go_end0;exact HF9.out
  ·have HW4:Hid (whole=.err i 72):=yG (by rw[HW2.out,if_neg hn]; rfl)
   have heq:((n:Int)-1==(cl:Int))=false:=by rw[yI]; omega
   have hwr:IntKind.i64.wrap ((n:Int)-1)=(n:Int)-1:=IntWalk.i64_in _ (by omega);clear hn
   go_still_tail 19,(by kernel_rfl)
   change wpList _ _ _ _ _ (World.drew W5)
   have hx6:Ext W5 (World.drew W5):=Below.drew (Below.refl _ _);generalize World.drew W5=w6 at *;clear q2 l2 q3 l3 n4 l4 r0 al pl p1 heq hwr qt qtn htl htc;have HR6:=Rn.zEX HR4 hx6;clear hx6
   go_wp2_with fail
   refine(JP w6 S.a S.p S.A S.ct S.l i 72 HR6.out.nb.rds HIL.out).mono ?_;rintro e w7 ⟨rfl,rfl⟩
   have HF:Hid (jR w S R whole vU (XG (YY S.l i) 72) w6):=yG (by
    rw[HW4.out]
    exact⟨rfl,HIL.out,_,HR6.out.mv⟩)
   exact xK (P:=Tryz.prog) (fn:=Tryz.f105) rfl HF.out
section
variable (P:Program) (ops:Array Oper) (wd:World) (G:World→Prop) (Q:Act→World→Prop) (c:Nat)
def zPc (i:Nat)(o:Oper)(a:Act)(H:List (Option Tmp × (World→Prop))):Take→Prop
 | .det v0=>∀w,w=wd∨G w→if Region.wanted o (yielded ops a.tmps)=true then xB P a.eval o w (fun v w'=>v=v0∧w'=w) else undef=v0
 | .fact F=>(∀v w w',F v w→Ext w w'→F v w')∧if i=c then (if Region.wanted o (yielded ops a.tmps)=true then xB P a.eval o wd (fun v w'=>F v w'∧G w') else F undef wd∧G wd)
  else ∀w,G w→(∀p ∈ H,(∃t,p.1=some t∧t ∈ o.looksAt ops)→p.2 w)→if Region.wanted o (yielded ops a.tmps)=true then xB P a.eval o w (fun v w'=>F v w'∧Ext w w') else F undef w
def zDl:Nat→List Oper→List Take→Act→List (Option Tmp × (World→Prop))→Prop
 | _,[],_,a,H=>∀w,G w→(∀p ∈ H,p.2 w)→Q a w
 | k,o::l,.det v0::ks,a,H=>zPc P ops wd G c k o a H (.det v0)∧zDl (k+1) l ks (a.put o.dst v0) H
 | k,o::l,.fact F::ks,a,H=>zPc P ops wd G c k o a H (.fact F)∧∀v,zDl (k+1) l ks (a.put o.dst v) ((o.dst,F v)::H)
 | _,_::_,[],_,_=>False
end
section
variable {P:Program} {ops:Array Oper} {wd:World} {G:World→Prop} {Q:Act→World→Prop} {c:Nat}
theorem zQ2 {k:Nat}{a:Act}{H:List (Option Tmp × (World→Prop))}(h:∀w,G w→(∀p ∈ H,p.2 w)→Q a w):zDl P ops wd G Q c k [] [] a H:=h
theorem zAm {k:Nat}{o:Oper}{l:List Oper}{ks:List Take}{a:Act}{H:List (Option Tmp × (World→Prop))}{d:Option Tmp}(v0:Value)(hd:o.dst=d)(hg:o.guard=none)
  (h:∀w,w=wd∨G w→xB P a.eval o w (fun v w'=>v=v0∧w'=w)) (hk:zDl P ops wd G Q c (k+1) l ks (a.put d v0) H):zDl P ops wd G Q c k (o::l) (.det v0::ks) a H:=by
 subst hd;refine⟨fun w hw=>?_,hk⟩
 have:Region.wanted o (yielded ops a.tmps)=true:=by unfold Region.wanted; rw[hg]
 rw[if_pos this];exact h w hw
theorem zQ7 {k:Nat}{o:Oper}{l:List Oper}{ks:List Take}{a:Act}{H:List (Option Tmp × (World→Prop))}{d:Option Tmp}(F:Value→World→Prop)(hkc:k=c)(hs:∀v w w',F v w→Ext w w'→F v w')(hd:o.dst=d)(hg:o.guard=none)
  (h:xB P a.eval o wd (fun v w'=>F v w'∧G w')) (hk:∀v,zDl P ops wd G Q c (k+1) l ks (a.put d v) ((d,F v)::H)):zDl P ops wd G Q c k (o::l) (.fact F::ks) a H:=by
 subst hd;refine⟨⟨hs,?_⟩,hk⟩
 have:Region.wanted o (yielded ops a.tmps)=true:=by unfold Region.wanted; rw[hg]
 rw[if_pos hkc,if_pos this];exact h
theorem zFt {ks:List Take}{a0:Act}(vs:Nat→Value):∀(l:List Oper) (k:Nat),(∀j,j<l.length→l[j]?=ops[k+j]?)→zDl P ops wd G Q c k l (ks.drop k) (YC ops ks vs a0 k) (JZ ops ks vs k) →
  (∀i o,k≤i→i<k+l.length→ops[i]?=some o→zPc P ops wd G c i o (YC ops ks vs a0 i) (JZ ops ks vs i) (ks.getD i (.det undef))) ∧
  ∀w,G w→(∀p ∈ JZ ops ks vs (k+l.length),p.2 w)→Q (YC ops ks vs a0 (k+l.length)) w
 | [],k,hl,h=>by
  refine⟨fun i o hi hlt ho=>?_,by simpa [zDl] using h⟩
  simp at hlt
  omega
 | o::l,k,hl,h=>by
  have h0:ops[k]?=some o:=by simpa using (hl 0 (by simp)).symm
  have hl':∀j,j<l.length→l[j]?=ops[k+1+j]?:=fun j hj=>by
   have:=hl (j+1) (by simpa using hj)
   simpa [Nat.add_assoc,Nat.add_comm 1 j] using this
  cases hd:ks.drop k with
  | nil=>rw[hd] at h; simp[zDl] at h
  | cons x ks'=>
   rw[hd] at h
   have hx:ks[k]?=some x:=by
    have:=congrArg (fun l=>l[0]?) hd
    simpa using this
   have hg:ks.getD k (.det undef)=x:=by simp[List.getD,hx]
   have hd':ks.drop (k+1)=ks':=by
    rw[←List.drop_drop,hd]; rfl
   have hlen:k+(o::l).length=k+1+l.length:=by simp; omega
   cases x with
   | det v0=>
    simp only[zDl] at h
    have hA:YC ops ks vs a0 (k+1)=(YC ops ks vs a0 k).put o.dst v0:=by
     show(YC ops ks vs a0 k).put ((ops[k]?).bind (·.dst)) ((ks.getD k (.det undef)).val (vs k))=_
     rw[hg,h0]; rfl
    have hH:JZ ops ks vs (k+1)=JZ ops ks vs k:=by
     show(match ks.getD k (.det undef) with | .det _=>_ | .fact F=>_)=_
     rw[hg]
    obtain⟨r1,r2⟩:=zFt vs l (k+1) hl' (by rw[hd',hA,hH]; exact h.2);rw[hlen];refine⟨fun i oi hi hlt ho=>?_,r2⟩
    by_cases hik:i=k
    ·subst hik;rw[h0] at ho;obtain rfl:=Option.some.inj ho;rw[hg];exact h.1
    ·exact r1 i oi (by omega) (by omega) ho
   | fact F=>
    simp only[zDl] at h
    have hA:YC ops ks vs a0 (k+1)=(YC ops ks vs a0 k).put o.dst (vs k):=by
     show(YC ops ks vs a0 k).put ((ops[k]?).bind (·.dst)) ((ks.getD k (.det undef)).val (vs k))=_
     rw[hg,h0]; rfl
    have hH:JZ ops ks vs (k+1)=(o.dst,F (vs k))::JZ ops ks vs k:=by
     show(match ks.getD k (.det undef) with | .det _=>_ | .fact F=>_)=_
     rw[hg,h0]; rfl
    obtain⟨r1,r2⟩:=zFt vs l (k+1) hl' (by rw[hd',hA,hH]; exact h.2 (vs k));rw[hlen];refine⟨fun i oi hi hlt ho=>?_,r2⟩
    by_cases hik:i=k
    ·subst hik;rw[h0] at ho;obtain rfl:=Option.some.inj ho;rw[hg];exact h.1
    ·exact r1 i oi (by omega) (by omega) ho
structure zUW (P:Program)(ops:Array Oper)(m c:Nat)(wd:World)(G:World→Prop)(ks:List Take)(a0:Act)(listed:Array Bool)(a:Act)(w:World)(vs:Nat→Value):Prop where
 first:listed.getD c true=false→w=wd
 world:listed.getD c true=true→G w
 defers:a.defers=a0.defers
 facts:∀i,i<m→listed.getD i true=true→(ks.getD i (.det undef)).says (vs i) w
 done:∀i o t,i<m→ops[i]?=some o→o.dst=some t→listed.getD i true=true→a.tmps[t]?=(a0.tmps[t]?).map fun _=>vs i
 other:∀t,(∀i o,i<m→ops[i]?=some o→o.dst=some t→listed.getD i true=false)→a.tmps[t]?=a0.tmps[t]?
 closed:∀i o,ops[i]?=some o→listed.getD i false=true→∀e ∈ o.after,Region.binds .any e=true→listed.getD e.on false=true
 fresh:∀i,m≤i→i<ops.size→listed.getD i true=false
def zLC (ops:Array Oper)(c i:Nat):Bool:=match ops[i]? with
 | none=>false
 | some o=>o.after.any fun e=>e.on==c&&Region.binds .any e
theorem zQe {m:Nat}(hG:∀w w',G w→Ext w w'→G w')(hB:YF ops m=true)(hT:zCh ops m=true){ks:List Take}{a0:Act}{Q':Exit→Act→World→Prop}(hcm:c<m)
  (hcf:∃F,ks.getD c (.det undef)=.fact F) (hc:∀i F,i<m→ks.getD i (.det undef)=.fact F→i=c∨zLC ops c i=true)
  (how:∀vs i o,i<m→ops[i]?=some o→zPc P ops wd G c i o (YC ops ks vs a0 i) (JZ ops ks vs i) (ks.getD i (.det undef)))
  (hQ:∀vs w,G w→(∀p ∈ JZ ops ks vs m,p.2 w)→wpList P ops Q' (ops.toList.drop m) (YC ops ks vs a0 m) w) :
  ∀(n:Nat) (listed:Array Bool) (U:List Nat) (a:Act) (w:World) (vs:Nat→Value),listed.size=ops.size→U.length=n→U.Nodup→(∀i,i ∈ U↔i<m∧listed.getD i true=false) →
   zUW P ops m c wd G ks a0 listed a w vs→wpAny P .any ops Q' (n+(ops.size-m)) listed a w:=by
 have hms:=JD hB
 have conv:∀(listed:Array Bool) (j:Nat),listed.size=ops.size→j<ops.size→listed.getD j false=listed.getD j true:=fun listed j hls hj=>by
  have:j<listed.size:=by omega
  simp[this]
 intro n
 induction n with
 | zero=>
  intro listed U a w vs hls hlen hnd hU hway;obtain rfl:=List.length_eq_zero_iff.1 hlen
  have all:∀i,i<m→listed.getD i true=true:=fun i hi=>by
   cases hf:listed.getD i true with
   | true=>rfl
   | false=>have:=(hU i).2 ⟨hi,hf⟩; cases this
  have ea:a=YC ops ks vs a0 m:=by
   refine zF6 (fun t=>?_) (by rw[hway.defers,zBC])
   by_cases hex:∃(i:Nat) (o:Oper),i<m∧ops[i]?=some o∧o.dst=some t
   ·obtain⟨i,o,him,hi,hd⟩:=hex;have hl:=all i him;rw[hway.done i o t him hi hd hl,zAb hB (j:=i) (by rw[hi]; exact hd) him (zX _),Take.zD2 (hway.facts i him hl)]
   ·rw[hway.other t fun i o him hi hd=>absurd ⟨i,o,him,hi,hd⟩ hex,YN];intro j hj e;obtain⟨o,ho,hd⟩:=Option.bind_eq_some_iff.1 e;exact hex ⟨j,o,hj,ho,hd⟩
  rw[Nat.zero_add];refine zFi hT _ m listed a w (zX _) (by omega) hls (fun j hj=>?_) hway.closed ?_
  ·by_cases hjm:j<m
   ·rw[all j hjm]; simp[hjm]
   ·rw[hway.fresh j (by omega) hj]; simp[hjm]
  ·rw[ea];refine hQ vs w (hway.world (all c hcm)) fun p hp=>?_;obtain⟨j,hj,_,hs⟩:=VX hp;exact hs w (hway.facts j hj (all j hj))
 | succ n ih=>
  intro listed U a w vs hls hlen hnd hU hway;rw[show n+1+(ops.size-m)=n+(ops.size-m)+1 from by omega]
  have some1:Region.ready .any ops listed≠[]:=fun hr=>by
   have all:∀n i,i<n→i<m→listed.getD i true=true:=by
    intro n
    induction n with
    | zero=>intro i hi; omega
    | succ n ih'=>
     intro i hi hlt
     cases hf:listed.getD i true with
     | true=>rfl
     | false=>
      exfalso
      have hoi:ops[i]?=some ops[i]:=Array.getElem?_eq_getElem (by omega)
      have hm:i ∈ Region.ready .any ops listed:=by
       rw[mem_ready];refine⟨hf,_,hoi,fun e he hb=>?_⟩;have hlt':=(XV hB hlt hoi).2 e he hb;rw[conv listed e.on hls (by omega)];exact ih' e.on (by omega) (by omega)
      rw[hr] at hm
      cases hm
   cases U with
   | nil=>simp at hlen
   | cons x xs=>
    have:=(hU x).1 List.mem_cons_self
    rw[all (x+1) x (by omega) this.1] at this
    cases this.2
  refine⟨fun hr=>absurd hr some1,fun i hi=>?_⟩;obtain⟨h0,o,ho,hall⟩:=mem_ready.1 hi;have hlt:i<ops.size:=(Array.getElem?_eq_some_iff.1 ho).1
  have him:i<m:=by
   rcases Nat.lt_or_ge i m with h | h
   ·exact h
   ·exfalso
    cases U with
    | nil=>simp at hlen
    | cons x xs=>
     have hx:=(hU x).1 List.mem_cons_self
     have:=JJ hway.closed 8 i x o ho hall ((zBi hT ho h).2 x (by omega))
     rw[conv listed x hls (by omega),hx.2] at this
     cases this
  have hil:i<listed.size:=by omega
  have hself:(listed.setIfInBounds i true).getD i true=true:=by simp[hil]
  have hoth:∀j,j≠i→(listed.setIfInBounds i true).getD j true=listed.getD j true:=fun j hj=>getD_set_ne true (Ne.symm hj)
  have look:∀t ∈ o.looksAt ops,a.tmps[t]?=(YC ops ks vs a0 i).tmps[t]?:=fun t ht=>by
   by_cases hex:∃(j:Nat) (p:Oper),j<m∧ops[j]?=some p∧p.dst=some t
   ·obtain⟨j,p,hjm,hj,hd⟩:=hex
    rcases(vH hB him hjm ho hj hd).2 ht with ⟨hji,e,he,heq,hb⟩ | ⟨hij,e,he,heq,hb⟩
    ·have hlj:listed.getD j true=true:=by
      have h1:=hall e he hb;rw[heq,conv listed j hls (by omega)] at h1;exact h1
     rw[hway.done j p t hjm hj hd hlj,zAb hB (j:=j) (by rw[hj]; exact hd) hji (by omega),Take.zD2 (hway.facts j hjm hlj)]
    ·have hnl:listed.getD j true=false:=by
      cases hf:listed.getD j true with
      | false=>rfl
      | true=>
       have:=hway.closed j p hj (by rw[conv listed j hls (by omega)]; exact hf) e he hb
       rw[heq,conv listed i hls hlt,h0] at this
       cases this
     rw[hway.other t fun k ok hkm hk hdk=>by
       have:=(vH hB hkm hjm hk hj hd).1 hdk
       subst this
       exact hnl,YN]
     intro k hk e';obtain⟨ok,hok,hdk⟩:=Option.bind_eq_some_iff.1 e'
     have:=(vH hB (by omega) hjm hok hj hd).1 hdk
     omega
   ·rw[hway.other t fun i o him hi hd=>absurd ⟨i,o,him,hi,hd⟩ hex,YN];intro j hj e;obtain⟨o,ho,hd⟩:=Option.bind_eq_some_iff.1 e;exact hex ⟨j,o,by omega,ho,hd⟩
  have wait:∀(j:Nat) (F:Value→World→Prop),j<m→ks.getD j (.det undef)=.fact F→j≠c→∃p e,ops[j]?=some p∧e ∈ p.after∧e.on=c∧Region.binds .any e=true:=fun j F hj hk hjc=>by
   rcases hc j F hj hk with h | h
   ·exact absurd h hjc
   ·unfold zLC at h
    cases hp:ops[j]? with
    | none=>rw[hp] at h; cases h
    | some p=>
     rw[hp] at h;simp only[Array.any_eq_true,zG,zO] at h;obtain⟨x,hx,h1,h2⟩:=h;exact⟨p,p.after[x],rfl,Array.getElem_mem hx,h1,h2⟩
  have wait':∀(j:Nat) (F:Value→World→Prop),j<m→ks.getD j (.det undef)=.fact F→j≠c→listed.getD j true=true→listed.getD c true=true:=fun j F hj hk hjc hl=>by
   obtain⟨p,e,hp,he,hec,hb⟩:=wait j F hj hk hjc
   have:=hway.closed j p hp (by rw[conv listed j hls (by omega)]; exact hl) e he hb
   rw[hec,conv listed c hls (by omega)] at this;exact this
  have go:∀v w',(ks.getD i (.det undef)).says v w'→(w'=w∧i≠c)∨(i=c∧w=wd∧G w')∨(G w∧Ext w w'∧i≠c∧listed.getD c true=true)→wpAny P .any ops Q' (n+(ops.size-m)) (listed.setIfInBounds i true) (a.put o.dst v) w':=by
   intro v w' hv hww
   have hst':∀j oj,j≠i→j<m→ops[j]?=some oj→listed.getD j true=true→∀v,(ks.getD j (.det undef)).says v w→(ks.getD j (.det undef)).says v w':=fun j oj hji hjm hj hlj v hs=>by
    rcases hww with ⟨rfl,_⟩ | ⟨hic,_,_⟩ | ⟨_,hx,_,_⟩
    ·exact hs
    ·cases hk:ks.getD j (.det undef) with
     | det v0=>rw[hk] at hs; exact hs
     | fact F'=>
      have h1:=wait' j F' hjm hk (by rw[←hic]; exact hji) hlj;rw[←hic,h0] at h1
      cases h1
    ·cases hk:ks.getD j (.det undef) with
     | det v0=>rw[hk] at hs; exact hs
     | fact F'=>
      have h1:=how vs j oj hjm hj;rw[hk] at h1 hs;exact h1.1 v w w' hs hx
   refine ih (listed.setIfInBounds i true) (U.erase i) _ w' (fun j=>if j=i then v else vs j) (by simpa using hls) ?_ (hnd.erase i) (fun j=>?_) ?_
   ·rw[List.length_erase_of_mem ((hU i).2 ⟨him,h0⟩),hlen]; rfl
   ·rw[hnd.mem_erase_iff,hU j]
    by_cases hji:j=i
    ·subst hji; simp[hil]
    ·rw[hoth j hji]; simp[hji]
   ·refine⟨?_,?_,by rw[XP]; exact hway.defers,fun j hj hl=>?_,fun j p t hjm hj hd hl=>?_,fun t ht=>?_,fun j p hj hl e he hb=>?_,fun j hj hjs=>?_⟩
    ·intro hlc
     by_cases hci:c=i
     ·subst hci; rw[hself] at hlc; cases hlc
     ·rw[hoth c hci] at hlc
      rcases hww with ⟨rfl,_⟩ | ⟨hic,_,_⟩ | ⟨_,_,_,hl⟩
      ·exact hway.first hlc
      ·exact absurd hic.symm hci
      ·rw[hlc] at hl; cases hl
    ·intro hlc
     rcases hww with ⟨rfl,hic⟩ | ⟨_,_,hg⟩ | ⟨hg,hx,_,_⟩
     ·rw[hoth c (Ne.symm hic)] at hlc;exact hway.world hlc
     ·exact hg
     ·exact hG _ _ hg hx
    ·by_cases hji:j=i
     ·subst hji; simpa using hv
     ·rw[hoth j hji] at hl;simp only[if_neg hji];exact hst' j _ hji hj (Array.getElem?_eq_getElem (by omega)) hl _ (hway.facts j hj hl)
    ·by_cases hji:j=i
     ·subst hji;rw[ho] at hj;obtain rfl:=Option.some.inj hj
      rw[hd,XK,hway.other t fun k ok hkm hk hdk=>by
       have:=(vH hB hkm him hk ho hd).1 hdk
       subst this
       exact h0]
      simp
     ·rw[hoth j hji] at hl;rw[jD _ _ _ (fun e=>hji ((vH hB him hjm ho hj hd).1 e).symm),hway.done j p t hjm hj hd hl];simp[hji]
    ·rw[jD _ _ _ (fun e=>by
      have:=ht i o him ho e
      rw[hself] at this
      cases this)]
     refine hway.other t fun k ok hkm hk hdk=>?_
     have:=ht k ok hkm hk hdk
     by_cases hki:k=i
     ·subst hki; exact h0
     ·rwa [hoth k hki] at this
    ·by_cases hji:j=i
     ·subst hji;rw[ho] at hj;obtain rfl:=Option.some.inj hj;exact getD_set_true (hall e he hb)
     ·rw[getD_set_ne false (Ne.symm hji)] at hl;exact getD_set_true (hway.closed j p hj hl e he hb)
    ·rw[hoth j (by omega)];exact hway.fresh j hj hjs
  have ow:=how vs i o him ho
  have hH:∀p ∈ JZ ops ks vs i,(∃t,p.1=some t∧t ∈ o.looksAt ops)→p.2 w:=fun p hp ⟨t,hpt,ht⟩=>by
   obtain⟨j,hj,hpd,hs⟩:=VX hp;rw[hpt] at hpd;obtain⟨p',hp',hd'⟩:=Option.bind_eq_some_iff.1 hpd.symm
   rcases(vH hB him (by omega) ho hp' hd').2 ht with ⟨_,e,he,heq,hb⟩ | ⟨hij,_⟩
   ·have h1:=hall e he hb;rw[heq,conv listed j hls (by omega)] at h1;exact hs w (hway.facts j (by omega) h1)
   ·omega
  unfold wpOp;simp only[ho]
  cases hk:ks.getD i (.det undef) with
  | det v0=>
   have hic:i≠c:=fun e=>by
    obtain⟨F,hF⟩:=hcf;rw[←e,hk] at hF
    cases hF
   rw[hk] at ow go
   have ow:=ow w (by
    cases hlc:listed.getD c true with
    | false=>exact .inl (hway.first hlc)
    | true=>exact .inr (hway.world hlc))
   rw[←zAF o a _ look,←YG o (XV hB him ho).1 a _ look] at ow
   split
   ·rename_i hw;simp only[hw,if_true] at ow;exact .inl (YW ow fun v w' hv=>go v w' hv.1 (.inl ⟨hv.2,hic⟩))
   ·rename_i hw;simp only[hw] at ow;exact go undef w ow (.inl ⟨rfl,hic⟩)
  | fact F=>
   rw[hk] at ow go;have ow:=ow.2
   by_cases hic:i=c
   ·have hwd:w=wd:=hway.first (by rw[←hic]; exact h0);rw[if_pos hic,←zAF o a _ look,←YG o (XV hB him ho).1 a _ look] at ow;subst hwd
    split
    ·rename_i hw;simp only[hw,if_true] at ow;exact .inl (YW ow fun v w' hv=>go v w' hv.1 (.inr (.inl ⟨hic,rfl,hv.2⟩)))
    ·rename_i hw;simp only[hw] at ow;exact go undef w ow.1 (.inr (.inl ⟨hic,rfl,ow.2⟩))
   ·obtain⟨p,e,hp,he,hec,hb⟩:=wait i F him hk hic;rw[ho] at hp;obtain rfl:=Option.some.inj hp
    have hlc:listed.getD c true=true:=by
     have h1:=hall e he hb;rw[hec,conv listed c hls (by omega)] at h1;exact h1
    have hg:=hway.world hlc;rw[if_neg hic] at ow;have ow:=ow w hg hH;rw[←zAF o a _ look,←YG o (XV hB him ho).1 a _ look] at ow
    split
    ·rename_i hw;simp only[hw,if_true] at ow;exact .inl (YW ow fun v w' hv=>go v w' hv.1 (.inr (.inr ⟨hg,hv.2,hic,hlc⟩)))
    ·rename_i hw;simp only[hw] at ow;exact go undef w ow (.inl ⟨rfl,hic⟩)
def zNL:Take→Bool
 | .fact _=>true
 | .det _=>false
theorem zJO {id:Nat}{Q':Exit→Act→World→Prop}{a:Act}{w:World}{l:List Oper}(m c:Nat)(G:World→Prop){ks:List Take}(hG:∀w w',G w→Ext w w'→G w')(hm:P.follows .mixedOrders=true)(hB:YF l.toArray m=true)(hT:zCh l.toArray m=true)(hcm:c<m)
  (h:zDl P l.toArray w.drew G (fun a' w'=>wpList P l.toArray Q' (l.drop m) a' w') c 0 (l.take m) ks a [])
  (hk:zNL (ks.getD c (.det undef))=true) (hc:(List.range m).all (fun i=>!zNL (ks.getD i (.det undef))||(i==c||zLC l.toArray c i))=true):(Code.region id l.toArray true).wp P Q' a w:=by
 have hcf:∃F,ks.getD c (.det undef)=.fact F:=by
  cases hx:ks.getD c (.det undef) with
  | det v0=>rw[hx] at hk; cases hk
  | fact F=>exact⟨F,rfl⟩
 have hc':∀i F,i<m→ks.getD i (.det undef)=.fact F→i=c∨zLC l.toArray c i=true:=fun i F hi hx=>by
  have h1:=List.all_eq_true.1 hc i (List.mem_range.2 hi);rw[hx] at h1
  simpa [zNL] using h1
 have hms:=JD hB;simp only[List.size_toArray] at hms;refine wp_region_any hm ?_
 have sp:=fun vs=>zFt (P:=P) (ops:=l.toArray) (wd:=w.drew) (G:=G) (c:=c) (Q:=fun a' w'=>wpList P l.toArray Q' (l.drop m) a' w') (ks:=ks) (a0:=a) vs (l.take m) 0 (fun j hj=>by
  have hj':j<m:=by simp at hj; omega
  simp[List.getElem?_take,hj']) (by simpa [YC,JZ] using h)
 have hlen:(l.take m).length=m:=by simp; omega
 rw[show l.toArray.size=m+(l.toArray.size-m) from by simp; omega];refine zQe (P:=P) (ops:=l.toArray) (wd:=w.drew) (G:=G) (c:=c) (ks:=ks) (a0:=a) (m:=m) hG hB hT hcm hcf hc' ?_ ?_ m _ (List.range m) a _ (fun _=>undef) (by simp; omega) (by simp) List.nodup_range ?_ ?_
 ·exact fun vs i o him hi=>((sp vs).1 i o (zW _) (by omega) hi)
 ·intro vs w' hw' hp
  have:=(sp vs).2 w' hw' (by rw[hlen]; simpa using hp)
  rw[hlen] at this
  simpa using this
 ·intro i;simp only[List.mem_range]
  constructor
  ·intro h
   have:i<m+(l.length-m):=by omega
   exact⟨h,by simp[this]⟩
  ·exact fun h=>h.1
 ·refine⟨fun _=>rfl,fun hl=>?_,rfl,fun i hi hl=>?_,fun i o t him hi hd hl=>?_,fun t _=>rfl,fun i o hi hl=>?_,fun i hi his=>?_⟩
  ·have:c<m+(l.length-m):=by omega
   simp[this] at hl
  ·have:i<m+(l.length-m):=by omega
   simp[this] at hl
  ·have:i<m+(l.length-m):=by omega
   simp[this] at hl
  ·have hil:i<l.length:=by simpa using (Array.getElem?_eq_some_iff.1 hi).1
   have:i<m+(l.length-m):=by omega
   simp[this] at hl
  ·have hil:i<l.length:=by simpa using his
   have:i<m+(l.length-m):=by omega
   simp[this]
end
end Go.Proofs.YtbadjmmjbpeocaaGreatDoor
