/- The reader of names: stmt: what goes through all its kinds; read, set. Condition: the tree's forms hold. -/
import Derived.Test.YtbadjmmjbpeocaaGreatDoorKaa
import Derived.Test.YtbadjmmjbpeocaaGreatDoorKbd
import Derived.StillTailTactics
set_option linter.unusedVariables false
set_option linter.unusedSimpArgs false
set_option maxRecDepth 100000
set_option maxHeartbeats 16000000
namespace Go.Proofs.YtbadjmmjbpeocaaGreatDoor
open Go Go.RowKit
theorem zML:∀w,(Go.sizeOf 3).run Tryz.prog w=.ok 1 w:=fun w=>by kernel_rfl
structure StF (w:World)(M:Nat→Prop)(S:StN)(i g2 g3 g4:Nat):Prop where
 b2:Safe w M g2 78 #[.pointer (some ⟨S.a,0,none⟩)]
 b3:Safe w M g3 3 #[.int .i64 (i:Int)]
 b4:Safe w M g4 39 (vX S.l i)
theorem StF.xG {w w':World}{M M':Nat→Prop}{S:StN}{i g2 g3 g4:Nat}(h:StF w M S i g2 g3 g4)(k:xD w M w' M'):StF w' M' S i g2 g3 g4:=⟨h.b2.xG k,h.b3.xG k,h.b4.xG k⟩
structure Rn (w:World)(S:StN)(R:DyN)(i g2 g3 g4:Nat)(W:World)(s':Nr)(R':DyN):Prop where
 nb:NB W S s' R'
 mv:xD w (xM S R) W (xM S R')
 st:ZO R R'
 f:StF W (xM S R') S i g2 g3 g4
section
variable {w:World} {S:StN} {R:DyN} {i g2 g3 g4:Nat} {W W':World} {s' s'':Nr} {R' R'':DyN}
theorem Rn.step (h:Hid (Rn w S R i g2 g3 g4 W s' R'))(k:ZO R' R''∧NB W' S s'' R''∧xD W (xM S R') W' (xM S R'')):Hid (Rn w S R i g2 g3 g4 W' s'' R''):=
 yG ⟨k.2.1,h.out.mv.trans k.2.2,h.out.st.trans k.1,h.out.f.xG k.2.2⟩
theorem Rn.zEX (h:Hid (Rn w S R i g2 g3 g4 W s' R'))(hx:Ext W W'):Hid (Rn w S R i g2 g3 g4 W' s' R')   := Rn.step h ⟨ZO.refl R',h.out.nb.ext hx,xD.ext hx⟩
theorem Rn.done (h:Hid (Rn w S R i g2 g3 g4 W s' R')){whole:YQ Nr}(hw:whole=.ok s'):jR w S R whole vU (.returned (.tuple #[])) W:=by
 rw[hw];exact⟨rfl,R',h.out.st,h.out.nb,h.out.mv⟩
theorem Rn.fail {whole:YQ Nr}(h:Hid (Rn w S R i g2 g3 g4 W s' R')){j:Nat}{er:Int}{v:Nr→Value}{e:Ending}(hp:jR W S R' (.err j er) v e W')(hw:whole=.err j er):e=XG (YY S.l j) er∧jR w S R whole vU (XG (YY S.l j) er) W':=by
 obtain⟨h1,h2,M',h3⟩:=hp;rw[hw];exact⟨h1,rfl,h2,M',h.out.mv.trans h3⟩
theorem Rn.k2 (h:Rn w S R i g2 g3 g4 W s' R'):W.cell? ⟨g2,0,none⟩=some (.pointer (some ⟨S.a,0,none⟩)):=h.f.b2.1.cell 0
theorem Rn.k3 (h:Rn w S R i g2 g3 g4 W s' R'):W.cell? ⟨g3,0,none⟩=some (.int .i64 (i:Int)):=h.f.b3.1.cell 0
end
theorem zAT.cap {w:World}{M:Nat→Prop}{A:Option Addr}{l:List Tx}(h:zAT w M A l)(i:Nat)(hi:i<l.length):(xC (tN l) i).kids.length≤(hdN l i).2:=by
 have:=h.zUw l[i] (yO hi)
 rw[zCu hi];unfold hdN;rw[yJ hi];exact this
theorem zNs {w:World}{A:Option Addr}{l:List Nat}{c:Nat}(h:Cells w A (ints l))(hc:l.length≤c)(k:Nat):Cells w (zDI A c k) (ints (l.drop k)):=by
 by_cases hk:k<l.length
 ·rcases h with h | ⟨b,off,rfl,hb,hcc⟩
  ·have:(ints l).length=0:=by rw[h]; rfl
   rw[vY] at this;omega
  ·refine .inr ⟨b,off+k,?_,hb,fun i hi=>?_⟩
   ·unfold zDI;rw[if_neg (by omega)];simp only[Option.map_some,Addr.add]
    split
    ·rename_i h0; subst h0; rfl
    ·rfl
   ·rw[vY,List.length_drop] at hi;rw[Nat.add_assoc,hcc (k+i) (by rw[vY]; omega)];simp[ints]
 ·refine .inl ?_;rw[List.drop_eq_nil_of_le (by omega)]
  rfl
theorem zGK {t:List Nd}{i:Nat}{s:Nr}(h:(xC t i).kind=7∨(xC t i).kind=11∨(xC t i).kind=16):ZC t i s=ZR t i s:=by unfold ZC; rw[if_pos h]
theorem zFF {t:List Nd}{i:Nat}{s:Nr}(h:¬((xC t i).kind=7∨(xC t i).kind=11∨(xC t i).kind=16)):ZC t i s=.ok s:=by unfold ZC; rw[if_neg h]
theorem zPG {s:Nr}{n:Bs}{k:Nat}(h:zCg s n=some k):∃x,s.xH[k]?=some x:=by
 unfold zCg at h;rw[List.findIdx?_eq_some_iff_getElem] at h;obtain⟨h1,_⟩:=h;exact⟨_,yJ h1⟩
theorem zLV {t:List Nd}{i:Nat}{s s':Nr}(hl:i<s.of.length)(h:ofN t i s=.ok s'):∃(k:Nat) (x:Nt),s.xH[k]?=some x∧zAO s' i=(k:Int)∧s'=s.set i k:=by
 unfold ofN at h
 split at h
 ·cases h
 ·rename_i k hk;injection h with h;obtain⟨x,hx⟩:=zPG hk;refine⟨k,x,hx,?_,h.symm⟩;rw[←h];exact zAo hl
theorem zKr {t:List Nd}(R:VA t){f i:Nat}{s s':Nr}(h20:(xC t i).kind=20)(hl:i<s.of.length)(h:xX t (f+1) i s=.ok s'):∃(k:Nat) (x:Nt),s.xH[k]?=some x∧zAO s' i=(k:Int)∧s'.xH=s.xH:=by
 rw[zOz] at h;obtain⟨s1,e1,e2⟩:=ZA h;unfold zI3 at e1;rw[if_neg (by omega),if_pos h20] at e1;obtain⟨k,x,h1,h2,h3⟩:=zLV hl e1;have hk:YU (i+1) s1 s':=zGx _ _ _ (fun c hc a b hq=>(YE R f c a b hq).low (R.up i c hc).1) e2;refine⟨k,x,h1,?_,by rw[hk.xH,h3]; rfl⟩;rw[←h2];unfold zAO;rw[yH,yH,hk.of i (by omega)]
theorem zMG {t:List Nd}{f i a b:Nat}{L:List Nat}{s:Nr}(hk:(xC t i).kind=7∨(xC t i).kind=8)(hkk:(xC t i).kids=a::b::L):vF t (f+1) i s=((xX t (f+1) a s).bind fun s=>(ZH t b (zAO s a) s).bind (vD (xX t (f+1)) L)).bind (ZC t i):=by
 rw[vF,if_pos hk];unfold YI;rw[hkk]
 rfl
theorem zTG (f:Nat)(S:StN)(hT:zDZ S)(hst:zDW S f)(w:World)(s:Nr)(R:DyN)(i:Nat)(h:NB w S s R)(hi:i<S.l.length)(hf:S.l.length≤f+1+i)(hb:s.blocks.length+2*(f+1)+2≤100000)(hne:s.blocks≠[])(hk:(xC (tN S.l) i).kind=7) :
  Calls Tryz.prog 105 #[.pointer (some ⟨S.a,0,none⟩),.int .i64 (i:Int)] w (jR w S R (vF (tN S.l) (f+1) i s) vU):=by
 have HT:=yG hT;have HNB:=yG h;have HIL:=yG hi;have HSTM:=yG hst;have HFI:=yG hf;have HKI:=yG hk;have HTX:Hid ((xC (tN S.l) i).text.length≤maxLen):=yG (h.st.tree.txt i);have HBL:Hid (s.blocks.length+2*(f+1)+2≤100000∧s.blocks≠[]):=yG ⟨hb,hne⟩;have HKS:Hid (∀(wr:World) (sk:Nr) (Rk:DyN),NB wr S sk Rk→Cells wr (hdN S.l i).1 (ints (xC (tN S.l) i).kids)):=yG fun wr sk Rk hn=>(hn.st.tree.kid i hi).cells;have HUP:Hid (∀k,k ∈ (xC (tN S.l) i).kids→i<k∧k<S.l.length):=yG fun k hk=>hT.up hk;have HKB:Hid ((xC (tN S.l) i).kids.length≤100000):=yG (hT.kl i);have HKCAP:Hid ((xC (tN S.l) i).kids.length≤(hdN S.l i).2):=yG (h.st.tree.cap i hi);have HFORM:Hid (zAg (tN S.l) i):=yG (hT.R.form i (by rw[zAk]; exact hi) (by omega) (by omega));have HML:Hid (∀b,xM S R b→b<w.heap.size):=yG fun b hm=>h.ZU hm;obtain⟨W2,HW2⟩:∃W2,Hid ((w.alloc (.cells #[.pointer (some ⟨S.a,0,none⟩)] 78)).alloc (.cells #[.int .i64 (i:Int)] 3)=W2):=⟨_,yG rfl⟩;have HX2:Hid (Ext w W2):=yG (by rw[←HW2.out]; exact(Ext.alloc _ _).trans (Ext.alloc _ _))
 have HB2:Hid (Safe W2 (xM S R) w.heap.size 78 #[.pointer (some ⟨S.a,0,none⟩)]∧Safe W2 (xM S R) (w.heap.size+1) 3 #[.int .i64 (i:Int)]):=yG (by
  rw[←HW2.out];refine⟨⟨(Blk.new _ _ _).alloc _,fun hm=>by have:=HML.out _ hm; omega⟩,⟨?_,fun hm=>by have:=HML.out _ hm; omega⟩⟩
  have:=Blk.new (w.alloc (.cells #[.pointer (some ⟨S.a,0,none⟩)] 78)) 3 #[.int .i64 (i:Int)]
  rwa [yT] at this)
 clear hT h hst hi hf hb hne hk
 have q2:((w.alloc (.cells #[.pointer (some ⟨S.a,0,none⟩)] 78)).alloc (.cells #[.int .i64 (i:Int)] 3)).cell? ⟨w.heap.size,0,none⟩=some (.pointer (some ⟨S.a,0,none⟩)):=by rw[HW2.out]; exact HB2.out.1.1.cell 0
 have q3:((w.alloc (.cells #[.pointer (some ⟨S.a,0,none⟩)] 78)).alloc (.cells #[.int .i64 (i:Int)] 3)).cell? ⟨w.heap.size+1,0,none⟩=some (.int .i64 (i:Int)):=by rw[HW2.out]; exact HB2.out.2.1.cell 0
 go_enter Tryz.func105,Tryz.ntmps105
 go_wp2_with fail
 rw[HW2.out];clear q2 q3 HW2;refine(vV W2 S.a S.p S.A S.ct S.l i (HNB.out.ext HX2.out).rds HIL.out).mono ?_;rintro e w3 ⟨rfl,hx3⟩;obtain⟨W4,HW4⟩:∃W4,Hid (w3.alloc (.cells (vX S.l i) 39)=W4):=⟨_,yG rfl⟩;obtain⟨g2,HG2⟩:∃g2,Hid (w.heap.size=g2):=⟨_,yG rfl⟩;obtain⟨g3,HG3⟩:∃g3,Hid (w.heap.size+1=g3):=⟨_,yG rfl⟩;obtain⟨g4,HG4⟩:∃g4,Hid (w3.heap.size=g4):=⟨_,yG rfl⟩
 have HR0:Hid (Rn w S R i g2 g3 g4 W4 s R):=yG (by
  have hx4:Ext w3 W4:=by rw[←HW4.out]; exact Ext.alloc _ _
  have hx:=(HX2.out.trans hx3).trans hx4;refine⟨HNB.out.ext hx,xD.ext hx,ZO.refl R,?_,?_,?_⟩
  ·rw[←HG2.out]; exact(HB2.out.1.xG (xD.ext (M:=xM S R) hx3)).xG (xD.ext (M:=xM S R) hx4)
  ·rw[←HG3.out]; exact(HB2.out.2.xG (xD.ext (M:=xM S R) hx3)).xG (xD.ext (M:=xM S R) hx4)
  ·rw[←HG4.out,←HW4.out]
   exact(((HNB.out.ext HX2.out).ext hx3).fresh 39 (vX S.l i)))
 have HWH0:Hid (vF (tN S.l) (f+1) i s=vF (tN S.l) (f+1) i s):=yG rfl;have HNC:Hid (vX S.l i=#[.int .u8 (7:Int),.int .i64 (YY S.l i),.string (xI (xC (tN S.l) i).text),.int .i64 (xC (tN S.l) i).num,.slice (hdN S.l i).1 (xC (tN S.l) i).kids.length (hdN S.l i).2]):=yG (by unfold vX; rw[HKI.out]; try rfl);rw[HNC.out] at HW4 ⊢
 go_upto_region 2 with fail
 rw[HW4.out,HG4.out];rw[HG3.out,HG2.out];clear hx3 HW4 HG4 HB2 HX2
 obtain⟨a,b,L,hkk,ha⟩:∃a b L,(xC (tN S.l) i).kids=a::b::L∧(xC (tN S.l) a).kind=20:=by
  have h:=HFORM.out;unfold zAg at h;rw[HKI.out] at h;obtain⟨a,b,h1,h2⟩:=h; exact⟨a,b,[],h1,h2⟩
 have HKK:=yG hkk;have HKA20:=yG ha;have HWH:=yG (zMG (f:=f) (s:=s) (by have:=HKI.out; omega) hkk);clear hkk ha HWH0;have hkl:True:=trivial;obtain⟨kA,HKA⟩:∃kA,Hid ((hdN S.l i).1=kA):=⟨_,yG rfl⟩;obtain⟨kc,HKCC⟩:∃kc,Hid ((hdN S.l i).2=kc):=⟨_,yG rfl⟩;obtain⟨n,HKN⟩:∃n,Hid ((xC (tN S.l) i).kids.length=n):=⟨_,yG rfl⟩;rw[HKA.out,HKCC.out,HKN.out]
 have hn0:2≤n:=by have h:=HKN.out; rw[HKK.out] at h; simp at h; omega
 have hkc:n≤kc:=by have h:=HKCAP.out; rw[HKN.out,HKCC.out] at h; exact h
 have hkb:n≤100000:=by have h:=HKB.out; rw[HKN.out] at h; exact h
 have hca:=HKS.out _ _ _ HR0.out.nb;rw[HKA.out] at hca;obtain⟨kb,ko,rfl,_,_⟩:=hca.at_ (by rw[vY,HKN.out]; omega);clear hca hkl
 have HKC:Hid (∀(wr:World) (sk:Nr) (Rk:DyN),NB wr S sk Rk→kb<wr.heap.size∧wr.cell? ⟨kb,ko,none⟩=some (.int .i64 (a:Int))∧wr.cell? ⟨kb,ko+1,none⟩=some (.int .i64 (b:Int))∧True):=yG fun wr sk Rk hn=>by
  have hc:=HKS.out wr sk Rk hn;rw[HKA.out,HKK.out] at hc;obtain⟨b',o',e1,e2,e3⟩:=hc.at_ (by simp[ints]);injection e1 with e1;injection e1 with e1 e1';subst e1 e1';exact⟨e2,(e3 0 (by simp[ints]; try omega)).trans rfl,(e3 1 (by simp[ints]; try omega)).trans rfl,trivial⟩
 have HN0:Hid (∀(W:World) (M:Nat→Prop),StF W M S i g2 g3 g4→W.cell? ⟨g4,0,none⟩=some (.int .u8 (7:Int))):=yG fun W M h=>by have:=h.b4.1.cell 0; rw[HNC.out] at this; exact this
 have HN4:Hid (∀(W:World) (M:Nat→Prop),StF W M S i g2 g3 g4→W.cell? ⟨g4,4,none⟩=some (.slice (some ⟨kb,ko,none⟩) n kc)):=yG fun W M h=>by have:=h.b4.1.cell 4; rw[HNC.out,HKA.out,HKCC.out,HKN.out] at this; exact this
 have HUPA:Hid (i<a∧a<S.l.length):=yG (HUP.out a (by rw[HKK.out]; simp));have HUPB:Hid (i<b∧b<S.l.length):=yG (HUP.out b (by rw[HKK.out]; simp));have HUPL:Hid (∀k,k ∈ L→i<k∧k<S.l.length):=yG fun k hk=>HUP.out k (by rw[HKK.out]; exact List.mem_cons_of_mem _ (List.mem_cons_of_mem _ hk))
 have i0:(0:Int)<(n:Int):=by omega
 have j0:0<n:=by omega
 have j1:1<n:=by omega
 have i1:(1:Int)<(n:Int):=by omega
 have HLL:Hid (n-2=L.length):=yG (by have h:=HKN.out; rw[HKK.out] at h; simp only[zK] at h; omega);generalize hwhole:vF (tN S.l) (f+1) i s=whole at *;clear hwhole;have n0:=HN0.out _ _ HR0.out.f
 go_upto_region 15 with fail
 clear n0;have q2:=HR0.out.k2;have l2:=HR0.out.f.b2.1.lt;have n4:=HN4.out _ _ HR0.out.f;have l4:=HR0.out.f.b4.1.lt;have kbl:=(HKC.out _ _ _ HR0.out.nb).1;have zFc:=(HKC.out _ _ _ HR0.out.nb).2.1
 go_still_tail 5,(by kernel_rfl)
 change wpList _ _ _ _ _ (World.drew W4)
 have hx1:Ext W4 (World.drew W4):=Below.drew (Below.refl _ _);generalize World.drew W4=w1 at *;clear q2 l2 n4 l4 kbl zFc;have HR1:=Rn.zEX HR0 hx1;clear hx1
 go_wp2_with fail
 refine(zBh (f+1) w1 S s R a HT.out HR1.out.nb HUPA.out.2 (by have:=HUPA.out.1; have:=HFI.out; omega) (by have:=HBL.out.1; omega) HBL.out.2).mono ?_;intro e w2 hpost
 cases hq:xX (tN S.l) (f+1) a s with
 | err j er=>
  rw[hq] at hpost;obtain⟨rfl,hF⟩:=Rn.fail (whole:=whole) HR1 hpost (by rw[HWH.out,hq]; rfl);exact xK (P:=Tryz.prog) (fn:=Tryz.f105) rfl hF
 | ok s2=>
  rw[hq] at hpost;obtain⟨rfl,R2,hk2⟩:=hpost;have HR2:=Rn.step HR1 hk2;have HQ2:=yG hq;obtain⟨tn,x,hx1,hx2,hx3⟩:=zKr HT.out.R HKA20.out (by rw[HR1.out.nb.len]; exact HUPA.out.2) hq;have HTB:Hid (s2.xH[tn]?=some x):=yG (by rw[hx3]; exact hx1);have HBK:Hid (s2.blocks.length+2*(f+1)+2≤100000∧s2.blocks≠[]):=yG (by rw[(YE HT.out.R (f+1) a s s2 hq).blocks]; exact HBL.out);have HOF:=yG hx2;have HW2:Hid (whole=((ZH (tN S.l) b (tn:Int) s2).bind (vD (xX (tN S.l) (f+1)) L)).bind (ZC (tN S.l) i)):=yG (by rw[HWH.out,hq,←hx2]; rfl);clear hk2 hq hx1 hx2 hx3;unfold vU
  go_upto_region 16 with fail
  have q2:=HR2.out.k2;have l2:=HR2.out.f.b2.1.lt;have n4:=HN4.out _ _ HR2.out.f;have l4:=HR2.out.f.b4.1.lt;have kbl:=(HKC.out _ _ _ HR2.out.nb).1;have zFc:=(HKC.out _ _ _ HR2.out.nb).2.1;have zMC:=(HKC.out _ _ _ HR2.out.nb).2.2.1;have r0:=HR2.out.nb.rds.r0;have al:=HR2.out.nb.rds.al;have pl:=HR2.out.nb.rds.pl;have p3:=HR2.out.nb.p3;have co:=HR2.out.nb.zBZ a HUPA.out.2;rw[HOF.out] at co;have bol:=HR2.out.nb.of.lt
  have qa:(a:Int)<(S.l.length:Int):=by have:=HUPA.out; omega
  go_still_tail 18,(by kernel_rfl)
  change wpList _ _ _ _ _ (World.drew w2)
  have hx3:Ext w2 (World.drew w2):=Below.drew (Below.refl _ _);generalize World.drew w2=w3 at *;clear q2 l2 n4 l4 kbl zFc zMC r0 al pl p3 co bol qa;have HR3:=Rn.zEX HR2 hx3;clear hx3
  go_wp2_with fail
  refine(zD4 w3 S s2 R2 b tn x HTB.out HR3.out.nb HUPB.out.2).mono ?_;intro e w4 hpost
  cases hq:ZH (tN S.l) b (tn:Int) s2 with
  | err j er=>
   rw[hq] at hpost;obtain⟨rfl,hF⟩:=Rn.fail (whole:=whole) HR3 hpost (by rw[HW2.out,hq]; rfl);exact xK (P:=Tryz.prog) (fn:=Tryz.f105) rfl hF
  | ok s4=>
   rw[hq] at hpost;obtain⟨rfl,R4,hk4⟩:=hpost;have HR4:=Rn.step HR3 hk4;have HQ4:=yG hq;have HB4:Hid (s4.blocks.length+2*(f+1)+2≤100000∧s4.blocks≠[]):=yG (by rw[(zFL hq).blocks]; exact HBK.out);have HW4:Hid (whole=(vD (xX (tN S.l) (f+1)) (L.drop 0) s4).bind (ZC (tN S.l) i)):=yG (by rw[HW2.out,hq]; rfl);clear hk4 hq;unfold vU;have hsl:∀W:World,(Instr.slice 33 (.slice (some ⟨kb,ko,none⟩) n kc) (some (.int .i64 2)) none none).run Tryz.prog W=.ok (.slice (zDI (some ⟨kb,ko,none⟩) kc 2) (n-2) (kc-2)) W:=fun W=>zCl W 33 3 Tryz.underlying33 zML (some ⟨kb,ko,none⟩) n kc 2 hn0;obtain⟨LA,HLA⟩:∃LA,Hid (zDI (some ⟨kb,ko,none⟩) kc 2=LA):=⟨_,yG rfl⟩
   have HLC:Hid (∀(wr:World) (sk:Nr) (Rk:DyN),NB wr S sk Rk→Cells wr LA (ints L)):=yG fun wr sk Rk hn=>by
    have hc:=zNs (c:=kc) (HKS.out wr sk Rk hn) (by rw[HKN.out]; exact hkc) 2;rw[HKA.out,HLA.out,HKK.out] at hc;exact hc
   rw[HLA.out,HLL.out] at hsl;have n4:=HN4.out _ _ HR4.out.f
   go_upto_region 18 with fail
   clear n4 hsl
   have hLn:L.length≤100000:=by have:=HLL.out; omega
   go_loopw [76] (fun i' wr=>∃(k:Nat) (sk:Nr) (Rk:DyN),k≤L.length∧i'=.int .i64 k∧Hid (Rn w S R i g2 g3 g4 wr sk Rk)∧Hid (sk.blocks.length+2*(f+1)+2≤100000∧sk.blocks≠[])∧Hid (whole=(vD (xX (tN S.l) (f+1)) (L.drop k) sk).bind (ZC (tN S.l) i))) (fun i' _=>L.length-(intOf i').toNat)
   case atStart=>exact⟨0,s4,R4,zW _,rfl,HR4,HB4,HW4⟩
   case round=>
    obtain⟨k,sk,Rk,hk,rfl,HRK,HBK,HWK⟩:=hrel;obtain⟨wa,rfl⟩:∃wa:World,wa=wr:=⟨_,rfl⟩
    by_cases hlt:k<L.length
    ·have d0:decide ((k:Int)<(L.length:Int))=true:=yS (by omega)
     have q1:(k:Int)<(L.length:Int):=by omega
     obtain⟨b',off,HAE,hb,hcc⟩:=(HLC.out wa sk Rk HRK.out.nb).at_ (by rw[vY]; omega)
     have e0:wa.cell? ⟨b',off+k,none⟩=some (.int .i64 ((L[k]:Nat):Int)):=by rw[hcc k (by rw[vY]; exact hlt)]; simp[ints,hlt]
     have HMEM:Hid (L[k] ∈ L):=yG (yO hlt);have HSN:Hid (vD (xX (tN S.l) (f+1)) (L.drop k) sk=((xX (tN S.l) (f+1)) L[k] sk).bind (vD (xX (tN S.l) (f+1)) (L.drop (k+1)))):=yG (by rw[List.drop_eq_getElem_cons hlt]; rfl);clear hcc;generalize L[k]=c at *;subst HAE;have q2:=HRK.out.k2
     go_wp2_with fail
     clear q2 e0;refine(zBh (f+1) wa S sk Rk c HT.out HRK.out.nb (HUPL.out c HMEM.out).2 (by have:=(HUPL.out c HMEM.out).1; have:=HFI.out; omega) (by have:=HBK.out.1; omega) HBK.out.2).mono ?_;intro e w5 hpost
     cases hq:xX (tN S.l) (f+1) c sk with
     | err j er=>
      rw[hq] at hpost;obtain⟨rfl,hF⟩:=Rn.fail (whole:=whole) HRK hpost (by rw[HWK.out,HSN.out,hq]; rfl);exact xK (P:=Tryz.prog) (fn:=Tryz.f105) rfl hF
     | ok s5=>
      rw[hq] at hpost;obtain⟨rfl,R5,hk5⟩:=hpost;have HR5:=Rn.step HRK hk5;have HB5:Hid (s5.blocks.length+2*(f+1)+2≤100000∧s5.blocks≠[]):=yG (by rw[(YE HT.out.R (f+1) c sk s5 hq).blocks]; exact HBK.out);have HW5:Hid (whole=(vD (xX (tN S.l) (f+1)) (L.drop (k+1)) s5).bind (ZC (tN S.l) i)):=yG (by rw[HWK.out,HSN.out,hq]; rfl);clear hk5 hq;unfold vU
      go_wp2_with fail
      go_roundw
      case rel=>exact⟨k+1,s5,R5,by omega,by go_num,HR5,HB5,HW5⟩
      case measure=>simp[intOf]; omega
    ·obtain rfl:k=L.length:=by omega
     have d0:decide ((L.length:Int)<(L.length:Int))=false:=by simp
     have d1:decide (L.length<L.length)=false:=by simp
     have HWT:Hid (whole=ZC (tN S.l) i sk):=yG (by rw[HWK.out,List.drop_length]; rfl);have n0:=HN0.out _ _ HRK.out.f;have q2:=HRK.out.k2;have q3:=HRK.out.k3;have HWA:Hid (whole=ZR (tN S.l) i sk):=yG (by rw[HWT.out]; exact zGK (by have:=HKI.out; omega))
     go_wp2_with fail
     clear n0 q2 q3;refine(zEp wa S sk Rk i HRK.out.nb HIL.out HBK.out.2 (by have:=HBK.out.1; omega)).mono ?_;intro e w9 hpost
     cases hq:ZR (tN S.l) i sk with
     | err j er=>
      rw[hq] at hpost;obtain⟨rfl,hF⟩:=Rn.fail (whole:=whole) HRK hpost (by rw[HWA.out,hq]);exact xK (P:=Tryz.prog) (fn:=Tryz.f105) rfl hF
     | ok s9=>
      rw[hq] at hpost;obtain⟨rfl,R9,hk9⟩:=hpost;have HF9:=yG (Rn.done (Rn.step HRK hk9) (show whole=.ok s9 by rw[HWA.out,hq]));clear hk9 hq;unfold vU
      go_wp2_with fail
      go_end0;exact HF9.out
theorem zTr (f:Nat)(S:StN)(hT:zDZ S)(hst:zDW S f)(w:World)(s:Nr)(R:DyN)(i:Nat)(h:NB w S s R)(hi:i<S.l.length)(hf:S.l.length≤f+1+i)(hb:s.blocks.length+2*(f+1)+2≤100000)(hne:s.blocks≠[])(hk:(xC (tN S.l) i).kind=8) :
  Calls Tryz.prog 105 #[.pointer (some ⟨S.a,0,none⟩),.int .i64 (i:Int)] w (jR w S R (vF (tN S.l) (f+1) i s) vU):=by
 have HT:=yG hT;have HNB:=yG h;have HIL:=yG hi;have HSTM:=yG hst;have HFI:=yG hf;have HKI:=yG hk;have HTX:Hid ((xC (tN S.l) i).text.length≤maxLen):=yG (h.st.tree.txt i);have HBL:Hid (s.blocks.length+2*(f+1)+2≤100000∧s.blocks≠[]):=yG ⟨hb,hne⟩;have HKS:Hid (∀(wr:World) (sk:Nr) (Rk:DyN),NB wr S sk Rk→Cells wr (hdN S.l i).1 (ints (xC (tN S.l) i).kids)):=yG fun wr sk Rk hn=>(hn.st.tree.kid i hi).cells;have HUP:Hid (∀k,k ∈ (xC (tN S.l) i).kids→i<k∧k<S.l.length):=yG fun k hk=>hT.up hk;have HKB:Hid ((xC (tN S.l) i).kids.length≤100000):=yG (hT.kl i);have HKCAP:Hid ((xC (tN S.l) i).kids.length≤(hdN S.l i).2):=yG (h.st.tree.cap i hi);have HFORM:Hid (zAg (tN S.l) i):=yG (hT.R.form i (by rw[zAk]; exact hi) (by omega) (by omega));have HML:Hid (∀b,xM S R b→b<w.heap.size):=yG fun b hm=>h.ZU hm;obtain⟨W2,HW2⟩:∃W2,Hid ((w.alloc (.cells #[.pointer (some ⟨S.a,0,none⟩)] 78)).alloc (.cells #[.int .i64 (i:Int)] 3)=W2):=⟨_,yG rfl⟩;have HX2:Hid (Ext w W2):=yG (by rw[←HW2.out]; exact(Ext.alloc _ _).trans (Ext.alloc _ _))
 have HB2:Hid (Safe W2 (xM S R) w.heap.size 78 #[.pointer (some ⟨S.a,0,none⟩)]∧Safe W2 (xM S R) (w.heap.size+1) 3 #[.int .i64 (i:Int)]):=yG (by
  rw[←HW2.out];refine⟨⟨(Blk.new _ _ _).alloc _,fun hm=>by have:=HML.out _ hm; omega⟩,⟨?_,fun hm=>by have:=HML.out _ hm; omega⟩⟩
  have:=Blk.new (w.alloc (.cells #[.pointer (some ⟨S.a,0,none⟩)] 78)) 3 #[.int .i64 (i:Int)]
  rwa [yT] at this)
 clear hT h hst hi hf hb hne hk
 have q2:((w.alloc (.cells #[.pointer (some ⟨S.a,0,none⟩)] 78)).alloc (.cells #[.int .i64 (i:Int)] 3)).cell? ⟨w.heap.size,0,none⟩=some (.pointer (some ⟨S.a,0,none⟩)):=by rw[HW2.out]; exact HB2.out.1.1.cell 0
 have q3:((w.alloc (.cells #[.pointer (some ⟨S.a,0,none⟩)] 78)).alloc (.cells #[.int .i64 (i:Int)] 3)).cell? ⟨w.heap.size+1,0,none⟩=some (.int .i64 (i:Int)):=by rw[HW2.out]; exact HB2.out.2.1.cell 0
 go_enter Tryz.func105,Tryz.ntmps105
 go_wp2_with fail
 rw[HW2.out];clear q2 q3 HW2;refine(vV W2 S.a S.p S.A S.ct S.l i (HNB.out.ext HX2.out).rds HIL.out).mono ?_;rintro e w3 ⟨rfl,hx3⟩;obtain⟨W4,HW4⟩:∃W4,Hid (w3.alloc (.cells (vX S.l i) 39)=W4):=⟨_,yG rfl⟩;obtain⟨g2,HG2⟩:∃g2,Hid (w.heap.size=g2):=⟨_,yG rfl⟩;obtain⟨g3,HG3⟩:∃g3,Hid (w.heap.size+1=g3):=⟨_,yG rfl⟩;obtain⟨g4,HG4⟩:∃g4,Hid (w3.heap.size=g4):=⟨_,yG rfl⟩
 have HR0:Hid (Rn w S R i g2 g3 g4 W4 s R):=yG (by
  have hx4:Ext w3 W4:=by rw[←HW4.out]; exact Ext.alloc _ _
  have hx:=(HX2.out.trans hx3).trans hx4;refine⟨HNB.out.ext hx,xD.ext hx,ZO.refl R,?_,?_,?_⟩
  ·rw[←HG2.out]; exact(HB2.out.1.xG (xD.ext (M:=xM S R) hx3)).xG (xD.ext (M:=xM S R) hx4)
  ·rw[←HG3.out]; exact(HB2.out.2.xG (xD.ext (M:=xM S R) hx3)).xG (xD.ext (M:=xM S R) hx4)
  ·rw[←HG4.out,←HW4.out]
   exact(((HNB.out.ext HX2.out).ext hx3).fresh 39 (vX S.l i)))
 have HWH0:Hid (vF (tN S.l) (f+1) i s=vF (tN S.l) (f+1) i s):=yG rfl;have HNC:Hid (vX S.l i=#[.int .u8 (8:Int),.int .i64 (YY S.l i),.string (xI (xC (tN S.l) i).text),.int .i64 (xC (tN S.l) i).num,.slice (hdN S.l i).1 (xC (tN S.l) i).kids.length (hdN S.l i).2]):=yG (by unfold vX; rw[HKI.out]; try rfl);rw[HNC.out] at HW4 ⊢
 go_upto_region 2 with fail
 rw[HW4.out,HG4.out];rw[HG3.out,HG2.out];clear hx3 HW4 HG4 HB2 HX2
 obtain⟨a,b,L,hkk,ha⟩:∃a b L,(xC (tN S.l) i).kids=a::b::L∧(xC (tN S.l) a).kind=20:=by
  have h:=HFORM.out;unfold zAg at h;rw[HKI.out] at h;obtain⟨a,b,c,h1,h2,_⟩:=h; exact⟨a,b,[c],h1,h2⟩
 have HKK:=yG hkk;have HKA20:=yG ha;have HWH:=yG (zMG (f:=f) (s:=s) (by have:=HKI.out; omega) hkk);clear hkk ha HWH0;have hkl:True:=trivial;obtain⟨kA,HKA⟩:∃kA,Hid ((hdN S.l i).1=kA):=⟨_,yG rfl⟩;obtain⟨kc,HKCC⟩:∃kc,Hid ((hdN S.l i).2=kc):=⟨_,yG rfl⟩;obtain⟨n,HKN⟩:∃n,Hid ((xC (tN S.l) i).kids.length=n):=⟨_,yG rfl⟩;rw[HKA.out,HKCC.out,HKN.out]
 have hn0:2≤n:=by have h:=HKN.out; rw[HKK.out] at h; simp at h; omega
 have hkc:n≤kc:=by have h:=HKCAP.out; rw[HKN.out,HKCC.out] at h; exact h
 have hkb:n≤100000:=by have h:=HKB.out; rw[HKN.out] at h; exact h
 have hca:=HKS.out _ _ _ HR0.out.nb;rw[HKA.out] at hca;obtain⟨kb,ko,rfl,_,_⟩:=hca.at_ (by rw[vY,HKN.out]; omega);clear hca hkl
 have HKC:Hid (∀(wr:World) (sk:Nr) (Rk:DyN),NB wr S sk Rk→kb<wr.heap.size∧wr.cell? ⟨kb,ko,none⟩=some (.int .i64 (a:Int))∧wr.cell? ⟨kb,ko+1,none⟩=some (.int .i64 (b:Int))∧True):=yG fun wr sk Rk hn=>by
  have hc:=HKS.out wr sk Rk hn;rw[HKA.out,HKK.out] at hc;obtain⟨b',o',e1,e2,e3⟩:=hc.at_ (by simp[ints]);injection e1 with e1;injection e1 with e1 e1';subst e1 e1';exact⟨e2,(e3 0 (by simp[ints]; try omega)).trans rfl,(e3 1 (by simp[ints]; try omega)).trans rfl,trivial⟩
 have HN0:Hid (∀(W:World) (M:Nat→Prop),StF W M S i g2 g3 g4→W.cell? ⟨g4,0,none⟩=some (.int .u8 (8:Int))):=yG fun W M h=>by have:=h.b4.1.cell 0; rw[HNC.out] at this; exact this
 have HN4:Hid (∀(W:World) (M:Nat→Prop),StF W M S i g2 g3 g4→W.cell? ⟨g4,4,none⟩=some (.slice (some ⟨kb,ko,none⟩) n kc)):=yG fun W M h=>by have:=h.b4.1.cell 4; rw[HNC.out,HKA.out,HKCC.out,HKN.out] at this; exact this
 have HUPA:Hid (i<a∧a<S.l.length):=yG (HUP.out a (by rw[HKK.out]; simp));have HUPB:Hid (i<b∧b<S.l.length):=yG (HUP.out b (by rw[HKK.out]; simp));have HUPL:Hid (∀k,k ∈ L→i<k∧k<S.l.length):=yG fun k hk=>HUP.out k (by rw[HKK.out]; exact List.mem_cons_of_mem _ (List.mem_cons_of_mem _ hk))
 have i0:(0:Int)<(n:Int):=by omega
 have j0:0<n:=by omega
 have j1:1<n:=by omega
 have i1:(1:Int)<(n:Int):=by omega
 have HLL:Hid (n-2=L.length):=yG (by have h:=HKN.out; rw[HKK.out] at h; simp only[zK] at h; omega);generalize hwhole:vF (tN S.l) (f+1) i s=whole at *;clear hwhole;have n0:=HN0.out _ _ HR0.out.f
 go_upto_region 15 with fail
 clear n0;have q2:=HR0.out.k2;have l2:=HR0.out.f.b2.1.lt;have n4:=HN4.out _ _ HR0.out.f;have l4:=HR0.out.f.b4.1.lt;have kbl:=(HKC.out _ _ _ HR0.out.nb).1;have zFc:=(HKC.out _ _ _ HR0.out.nb).2.1
 go_still_tail 5,(by kernel_rfl)
 change wpList _ _ _ _ _ (World.drew W4)
 have hx1:Ext W4 (World.drew W4):=Below.drew (Below.refl _ _);generalize World.drew W4=w1 at *;clear q2 l2 n4 l4 kbl zFc;have HR1:=Rn.zEX HR0 hx1;clear hx1
 go_wp2_with fail
 refine(zBh (f+1) w1 S s R a HT.out HR1.out.nb HUPA.out.2 (by have:=HUPA.out.1; have:=HFI.out; omega) (by have:=HBL.out.1; omega) HBL.out.2).mono ?_;intro e w2 hpost
 cases hq:xX (tN S.l) (f+1) a s with
 | err j er=>
  rw[hq] at hpost;obtain⟨rfl,hF⟩:=Rn.fail (whole:=whole) HR1 hpost (by rw[HWH.out,hq]; rfl);exact xK (P:=Tryz.prog) (fn:=Tryz.f105) rfl hF
 | ok s2=>
  rw[hq] at hpost;obtain⟨rfl,R2,hk2⟩:=hpost;have HR2:=Rn.step HR1 hk2;have HQ2:=yG hq;obtain⟨tn,x,hx1,hx2,hx3⟩:=zKr HT.out.R HKA20.out (by rw[HR1.out.nb.len]; exact HUPA.out.2) hq;have HTB:Hid (s2.xH[tn]?=some x):=yG (by rw[hx3]; exact hx1);have HBK:Hid (s2.blocks.length+2*(f+1)+2≤100000∧s2.blocks≠[]):=yG (by rw[(YE HT.out.R (f+1) a s s2 hq).blocks]; exact HBL.out);have HOF:=yG hx2;have HW2:Hid (whole=((ZH (tN S.l) b (tn:Int) s2).bind (vD (xX (tN S.l) (f+1)) L)).bind (ZC (tN S.l) i)):=yG (by rw[HWH.out,hq,←hx2]; rfl);clear hk2 hq hx1 hx2 hx3;unfold vU
  go_upto_region 16 with fail
  have q2:=HR2.out.k2;have l2:=HR2.out.f.b2.1.lt;have n4:=HN4.out _ _ HR2.out.f;have l4:=HR2.out.f.b4.1.lt;have kbl:=(HKC.out _ _ _ HR2.out.nb).1;have zFc:=(HKC.out _ _ _ HR2.out.nb).2.1;have zMC:=(HKC.out _ _ _ HR2.out.nb).2.2.1;have r0:=HR2.out.nb.rds.r0;have al:=HR2.out.nb.rds.al;have pl:=HR2.out.nb.rds.pl;have p3:=HR2.out.nb.p3;have co:=HR2.out.nb.zBZ a HUPA.out.2;rw[HOF.out] at co;have bol:=HR2.out.nb.of.lt
  have qa:(a:Int)<(S.l.length:Int):=by have:=HUPA.out; omega
  go_still_tail 18,(by kernel_rfl)
  change wpList _ _ _ _ _ (World.drew w2)
  have hx3:Ext w2 (World.drew w2):=Below.drew (Below.refl _ _);generalize World.drew w2=w3 at *;clear q2 l2 n4 l4 kbl zFc zMC r0 al pl p3 co bol qa;have HR3:=Rn.zEX HR2 hx3;clear hx3
  go_wp2_with fail
  refine(zD4 w3 S s2 R2 b tn x HTB.out HR3.out.nb HUPB.out.2).mono ?_;intro e w4 hpost
  cases hq:ZH (tN S.l) b (tn:Int) s2 with
  | err j er=>
   rw[hq] at hpost;obtain⟨rfl,hF⟩:=Rn.fail (whole:=whole) HR3 hpost (by rw[HW2.out,hq]; rfl);exact xK (P:=Tryz.prog) (fn:=Tryz.f105) rfl hF
  | ok s4=>
   rw[hq] at hpost;obtain⟨rfl,R4,hk4⟩:=hpost;have HR4:=Rn.step HR3 hk4;have HQ4:=yG hq;have HB4:Hid (s4.blocks.length+2*(f+1)+2≤100000∧s4.blocks≠[]):=yG (by rw[(zFL hq).blocks]; exact HBK.out);have HW4:Hid (whole=(vD (xX (tN S.l) (f+1)) (L.drop 0) s4).bind (ZC (tN S.l) i)):=yG (by rw[HW2.out,hq]; rfl);clear hk4 hq;unfold vU;have hsl:∀W:World,(Instr.slice 33 (.slice (some ⟨kb,ko,none⟩) n kc) (some (.int .i64 2)) none none).run Tryz.prog W=.ok (.slice (zDI (some ⟨kb,ko,none⟩) kc 2) (n-2) (kc-2)) W:=fun W=>zCl W 33 3 Tryz.underlying33 zML (some ⟨kb,ko,none⟩) n kc 2 hn0;obtain⟨LA,HLA⟩:∃LA,Hid (zDI (some ⟨kb,ko,none⟩) kc 2=LA):=⟨_,yG rfl⟩
   have HLC:Hid (∀(wr:World) (sk:Nr) (Rk:DyN),NB wr S sk Rk→Cells wr LA (ints L)):=yG fun wr sk Rk hn=>by
    have hc:=zNs (c:=kc) (HKS.out wr sk Rk hn) (by rw[HKN.out]; exact hkc) 2;rw[HKA.out,HLA.out,HKK.out] at hc;exact hc
   rw[HLA.out,HLL.out] at hsl;have n4:=HN4.out _ _ HR4.out.f
   go_upto_region 18 with fail
   clear n4 hsl
   have hLn:L.length≤100000:=by have:=HLL.out; omega
   go_loopw [76] (fun i' wr=>∃(k:Nat) (sk:Nr) (Rk:DyN),k≤L.length∧i'=.int .i64 k∧Hid (Rn w S R i g2 g3 g4 wr sk Rk)∧Hid (sk.blocks.length+2*(f+1)+2≤100000∧sk.blocks≠[])∧Hid (whole=(vD (xX (tN S.l) (f+1)) (L.drop k) sk).bind (ZC (tN S.l) i))) (fun i' _=>L.length-(intOf i').toNat)
   case atStart=>exact⟨0,s4,R4,zW _,rfl,HR4,HB4,HW4⟩
   case round=>
    obtain⟨k,sk,Rk,hk,rfl,HRK,HBK,HWK⟩:=hrel;obtain⟨wa,rfl⟩:∃wa:World,wa=wr:=⟨_,rfl⟩
    by_cases hlt:k<L.length
    ·have d0:decide ((k:Int)<(L.length:Int))=true:=yS (by omega)
     have q1:(k:Int)<(L.length:Int):=by omega
     obtain⟨b',off,HAE,hb,hcc⟩:=(HLC.out wa sk Rk HRK.out.nb).at_ (by rw[vY]; omega)
     have e0:wa.cell? ⟨b',off+k,none⟩=some (.int .i64 ((L[k]:Nat):Int)):=by rw[hcc k (by rw[vY]; exact hlt)]; simp[ints,hlt]
     have HMEM:Hid (L[k] ∈ L):=yG (yO hlt);have HSN:Hid (vD (xX (tN S.l) (f+1)) (L.drop k) sk=((xX (tN S.l) (f+1)) L[k] sk).bind (vD (xX (tN S.l) (f+1)) (L.drop (k+1)))):=yG (by rw[List.drop_eq_getElem_cons hlt]; rfl);clear hcc;generalize L[k]=c at *;subst HAE;have q2:=HRK.out.k2
     go_wp2_with fail
     clear q2 e0;refine(zBh (f+1) wa S sk Rk c HT.out HRK.out.nb (HUPL.out c HMEM.out).2 (by have:=(HUPL.out c HMEM.out).1; have:=HFI.out; omega) (by have:=HBK.out.1; omega) HBK.out.2).mono ?_;intro e w5 hpost
     cases hq:xX (tN S.l) (f+1) c sk with
     | err j er=>
      rw[hq] at hpost;obtain⟨rfl,hF⟩:=Rn.fail (whole:=whole) HRK hpost (by rw[HWK.out,HSN.out,hq]; rfl);exact xK (P:=Tryz.prog) (fn:=Tryz.f105) rfl hF
     | ok s5=>
      rw[hq] at hpost;obtain⟨rfl,R5,hk5⟩:=hpost;have HR5:=Rn.step HRK hk5;have HB5:Hid (s5.blocks.length+2*(f+1)+2≤100000∧s5.blocks≠[]):=yG (by rw[(YE HT.out.R (f+1) c sk s5 hq).blocks]; exact HBK.out);have HW5:Hid (whole=(vD (xX (tN S.l) (f+1)) (L.drop (k+1)) s5).bind (ZC (tN S.l) i)):=yG (by rw[HWK.out,HSN.out,hq]; rfl);clear hk5 hq;unfold vU
      go_wp2_with fail
      go_roundw
      case rel=>exact⟨k+1,s5,R5,by omega,by go_num,HR5,HB5,HW5⟩
      case measure=>simp[intOf]; omega
    ·obtain rfl:k=L.length:=by omega
     have d0:decide ((L.length:Int)<(L.length:Int))=false:=by simp
     have d1:decide (L.length<L.length)=false:=by simp
     have HWT:Hid (whole=ZC (tN S.l) i sk):=yG (by rw[HWK.out,List.drop_length]; rfl);have n0:=HN0.out _ _ HRK.out.f;have HF9:=yG (Rn.done HRK (show whole=.ok sk by rw[HWT.out]; exact zFF (by have:=HKI.out; omega)))
     go_wp2_with fail
     go_end0;exact HF9.out
end Go.Proofs.YtbadjmmjbpeocaaGreatDoor
