/- The program's Resolve, walked. (and what follows of it). The conditions stand at each lemma. -/
import Derived.Test.YtbadjmmjbpeocaaGreatDoorKaa
import Derived.Test.YtbadjmmjbpeocaaGreatDoorKbi
import Derived.StillTailTactics
set_option linter.unusedVariables false
set_option linter.unusedSimpArgs false
set_option maxRecDepth 100000
set_option maxHeartbeats 16000000
namespace Go.Proofs.YtbadjmmjbpeocaaGreatDoor
open Go Go.RowKit TT
structure zVe (w:World)(L:List xR)(s:Nr)(v:Value):Prop where
 out:∃(M:Nat→Prop) (A At Ap:Option Addr) (l:List Tx) (th:List Hd2) (ps:List Pw) (bo ct cT cP co:Nat),v=.agg #[.slice A L.length ct,.slice At s.xH.length cT,.slice Ap s.procs.length cP,.slice (some ⟨bo,0,none⟩) L.length co]∧zP1 w M A At Ap l th ps bo s∧tN l=tN (txM L)∧∀i,YY l i=YY (txM L) i
def zLw (l:Bs)(L:List xR)(w:World)(r:YQ Nr)(e:Ending)(w':World):Prop:=Ext w w'∧match r with
 | .ok s=>∃v,e=.returned (.tuple #[v,.nilIface])∧zVe w' L s v
 | .err i er=>∃g,e=.returned (.tuple #[.agg zAE,.iface 98 (.pointer (some ⟨g,0,none⟩))])∧w.heap.size≤g∧Blk w' g 102 #[.int .i64 (atN (YY (txM L) i) l.length:Int),.int .i64 (zE5 l (atN (YY (txM L) i) l.length)),.int .i64 (zJG l (atN (YY (txM L) i) l.length)),.int .i64 er]
theorem zPz {a:Array Value}(h:a.size=4):∃x0 x1 x2 x3,a=#[x0,x1,x2,x3]:=by
 obtain⟨l⟩:=a
 match l,h with
 | [a,b,c,d],_=>exact⟨a,b,c,d,rfl⟩
theorem zTU {L:List xR}(h:∀x ∈ L,-9223372036854775808≤x.pos∧x.pos≤9223372036854775807)(i:Nat):-9223372036854775808≤YY (txM L) i∧YY (txM L) i≤9223372036854775807:=by
 unfold YY txM;rw[zN]
 by_cases hi:i<L.length
 ·rw[yJ hi];exact h L[i] (yO hi)
 ·rw[zM (by omega)];exact⟨by decide,by decide⟩
theorem zCW {A:Option Addr}{l:Bs}{c:Nat}{L:List xR}{w w':World}{gs gt ge:Nat}(i:Nat)(er:Int)(r:YQ Nr)(hr:r=.err i er)(her:er≠0)(hx:Ext w w')(hgt:w.heap.size≤gt)(hge:w.heap.size≤ge)(hne:gt≠ge)(hbig:l.length≤140737488355328)(hcap:l.length≤c)(hC:Cells w' A (vB l))(hpos:∀x ∈ L,-9223372036854775808≤x.pos∧x.pos≤9223372036854775807)
  (hs:Blk w' gs 22 #[.slice A l.length c]) (hp:Blk w' gt 35 zAE) (he:Blk w' ge 28 #[.nilIface]) (p:Int) (hpp:p=YY (txM L) i) (tm:Array Value) (h4:tm[4]?.getD undef=.pointer (some ⟨gt,0,none⟩)) (h5:tm[5]?.getD undef=.pointer (some ⟨ge,0,none⟩)) :
  bodyPostD Tryz.prog Tryz.f8 (zLw l L w r) (Exit.panic [{ v:=.iface 88 (.agg #[.int .i64 p,.int .i64 er]),recovered:=false }]) { tmps:=tm,defers:=[{ target:=.fn (.func 27) #[.pointer (some ⟨gs,0,none⟩),.pointer (some ⟨gt,0,none⟩),.pointer (some ⟨ge,0,none⟩)],args:=#[] }] } w':=by
 subst hpp;obtain⟨ha1,ha2⟩:=zTU hpos i;refine leaves_cons (f:=27) (args:=#[.pointer (some ⟨gs,0,none⟩),.pointer (some ⟨gt,0,none⟩),.pointer (some ⟨ge,0,none⟩)]) (by simp) (by simp[go_sem]) ?_;refine(zLb w' gs gt ge l A c (YY (txM L) i) er zAE ha1 ha2 her hbig hcap hC hs hp rfl he hne).mono ?_;rintro e u' w'' ⟨rfl,rfl,g,w1,w2,hx1,hg,hb,ht2,hp2,rfl⟩;have hsz:=hx.size;have hptl:=hp.lt;have hel:=he.lt
 have hg1:g≠gt:=by omega
 have hg2:g≠ge:=by omega
 have hP6:=hp2.far (p:=⟨ge,0,none⟩) hne (.iface 98 (.pointer (some ⟨g,0,none⟩)));have hE6:=(ht2.blk (he.ext hx1) (fun e=>hne e.symm)).put 0 (.iface 98 (.pointer (some ⟨g,0,none⟩)));have hB6:=(ht2.blk hb hg1).far (p:=⟨ge,0,none⟩) hg2 (.iface 98 (.pointer (some ⟨g,0,none⟩)));have hX6:=(ht2.ext (hx.trans hx1) hgt).set (u:=.iface 98 (.pointer (some ⟨g,0,none⟩))) (i:=0) hge;generalize w2.setCell ⟨ge,0,none⟩ (.iface 98 (.pointer (some ⟨g,0,none⟩)))=W6 at *;have t0:W6.cell? ⟨gt,0,none⟩=some (.slice none 0 0):=hP6.cell 0;have t1:W6.cell? ⟨gt,1,none⟩=some (.slice none 0 0):=hP6.cell 1;have t2:W6.cell? ⟨gt,2,none⟩=some (.slice none 0 0):=hP6.cell 2;have t3:W6.cell? ⟨gt,3,none⟩=some (.slice none 0 0):=hP6.cell 3;have e6:W6.cell? ⟨ge,0,none⟩=some (.iface 98 (.pointer (some ⟨g,0,none⟩))):=hE6.cell 0;refine⟨.tuple #[.agg zAE,.iface 98 (.pointer (some ⟨g,0,none⟩))],by unfold zAE; simp[results,Tryz.results8,go_sem,h4,h5,t0,t1,t2,t3,e6],?_⟩;rw[hr];exact⟨hX6,g,rfl,by omega,hB6⟩
theorem zN4 (A:Option Addr)(l:Bs)(n c:Nat)(hn:n=l.length)(tA:Option Addr)(L:List xR)(m tc:Nat)(hm:m=L.length)(w:World)(hbig:l.length≤140737488355328)(hcap:l.length≤c)(hC:Cells w A (vB l))(ht:zA7 w tA L)(hz:tA=none→tc=0)(hlen:L.length≤9000)(h0:0<L.length)(hsm:∀x ∈ L,zC0 x)(hnn:∀x ∈ L,zGW x)(hr:JS L=true)(hT:VA (tN (txM L)))(hrt:∀k ∈ (xC (tN (txM L)) 0).kids,(xC (tN (txM L)) k).kind=2∨(xC (tN (txM L)) k).kind=3)(hpos:∀x ∈ L,-9223372036854775808≤x.pos∧x.pos≤9223372036854775807)(herr:∀i er,jK (tN (txM L))=.err i er→er≠0) :
  Calls Tryz.prog 8 #[.slice A n c,.agg #[.slice tA m tc]] w (zLw l L w (jK (tN (txM L)))):=by
 subst hn;subst hm;have HC:=yG hC;have HT:=yG ht;have HLE:=yG hlen;have HL0:=yG h0;have HSM:=yG hsm;have HNN:=yG hnn;have HR:=yG hr;have HRT:=yG hT;have HBG:=yG hbig;have HCP:=yG hcap;have HZ:=yG hz;have HPS:=yG hpos;have HERR:=yG herr;have HRO:=yG hrt;obtain⟨W0,HW0⟩:∃W0,Hid ((((w.alloc (.cells #[.slice A l.length c] 22)).alloc (.cells #[.slice tA L.length tc] 26)).alloc (.cells #[.slice none 0 0,.slice none 0 0,.slice none 0 0,.slice none 0 0] 35)).alloc (.cells #[.nilIface] 28)=W0):=⟨_,yG rfl⟩;have HX0:Hid (Ext w W0):=yG (by rw[←HW0.out]; exact(((Ext.alloc _ _).trans (Ext.alloc _ _)).trans (Ext.alloc _ _)).trans (Ext.alloc _ _));have HS0:Hid (Blk W0 w.heap.size 22 #[.slice A l.length c]):=yG (by rw[←HW0.out]; exact(((Blk.new _ _ _).alloc _).alloc _).alloc _)
 have HT0:Hid (Blk W0 (w.heap.size+1) 26 #[.slice tA L.length tc]):=yG (by
  have:=((Blk.new (w.alloc (.cells #[.slice A l.length c] 22)) 26 #[.slice tA L.length tc]).alloc (.cells #[.slice none 0 0,.slice none 0 0,.slice none 0 0,.slice none 0 0] 35)).alloc (.cells #[.nilIface] 28)
  rw[←HW0.out]
  simpa using this)
 have HP0:Hid (Blk W0 (w.heap.size+1+1) 35 zAE):=yG (by
  have:=(Blk.new ((w.alloc (.cells #[.slice A l.length c] 22)).alloc (.cells #[.slice tA L.length tc] 26)) 35 #[.slice none 0 0,.slice none 0 0,.slice none 0 0,.slice none 0 0]).alloc (.cells #[.nilIface] 28)
  rw[←HW0.out];unfold zAE
  simpa using this)
 have HE0:Hid (Blk W0 (w.heap.size+1+1+1) 28 #[.nilIface]):=yG (by
  have:=Blk.new (((w.alloc (.cells #[.slice A l.length c] 22)).alloc (.cells #[.slice tA L.length tc] 26)).alloc (.cells #[.slice none 0 0,.slice none 0 0,.slice none 0 0,.slice none 0 0] 35)) 28 #[.nilIface]
  rw[←HW0.out]
  simpa using this)
 clear hC ht hlen h0 hsm hnn hr hT hbig hcap hz hpos herr hrt
 go_enter_defers Tryz.func8,Tryz.ntmps8
 go_upto_region 1 with fail
 rw[HW0.out];obtain⟨g0,HG0⟩:∃g0,Hid (w.heap.size=g0):=⟨_,yG rfl⟩;rw[HG0.out] at HS0 HT0 HP0 HE0 ⊢;have ct0:W0.cell? ⟨g0+1,0,none⟩=some (.slice tA L.length tc):=HT0.out.cell 0;clear HW0
 go_wp2_with fail
 refine(zKo L tA L.length tc W0 rfl (HT.out.ext HX0.out) HLE.out HSM.out true (yG HR.out)).mono ?_;rintro e w1 ⟨rfl,hx1⟩;have HX1:=yG (HX0.out.trans hx1);have HS1:=yG (HS0.out.ext hx1);have HT1:=yG (HT0.out.ext hx1);have HP1:=yG (HP0.out.ext hx1);have HE1:=yG (HE0.out.ext hx1);clear hx1 ct0 HS0 HT0 HP0 HE0
 go_upto_region 3 with fail
 have HSZ:Hid (w1.heap.size≤w1.heap.size):=yG (zX _);obtain⟨H,HH⟩:∃H,Hid (w1.heap.size=H):=⟨_,yG rfl⟩;have HGH:Hid (g0+1+1+1<H):=yG (by rw[←HH.out]; exact HE1.out.lt);have tl:=HT1.out.lt;have HTM:Hid (zA7 w1 tA L):=yG (HT.out.ext HX1.out);have ct1:w1.cell? ⟨g0+1,0,none⟩=some (.slice tA L.length tc):=HT1.out.cell 0;apply YX (by kernel_rfl) (by kernel_rfl) (by kernel_rfl);apply yZ (.agg #[.slice tA L.length tc]) rfl rfl rfl
 ·intro w' hw' hH;have cc:=(hw'.cell (p:=⟨g0+1,0,none⟩) tl).trans ct1;clear hH;simp[xB,go_sem,cc];exact Ext.refl _
 simp only[Act.put,yD,yE,yF];apply vE (zS0 H L) (fun v w w' h hx=>zS0.ext h hx) rfl rfl rfl
 ·intro w' hw' hH
  have hz:H≤w'.heap.size:=by rw[←HH.out]; exact hw'.size
  have htm:=HTM.out.ext hw';clear hH;simp[xB,go_sem];refine(zTZ tA L L.length tc w' rfl HL0.out (by have:=HLE.out; omega) (fun x hx=>by have:=(HSM.out x hx).kids; omega) HZ.out htm).mono ?_;rintro e w2 ⟨g,c',l',rfl,ho,hx⟩;exact⟨_,rfl,⟨g,c',l',rfl,ho.low hz⟩,hx⟩
 intro v17;simp only[Act.put,yD,yE,yF];apply yZ (.pointer (some ⟨g0+1,0,none⟩)) rfl rfl rfl
 ·intro w' hw' hH;clear hH;simp[xB,go_sem];exact Ext.refl _
 simp only[Act.put,yD,yE,yF];apply yZ (.slice tA L.length tc) rfl rfl rfl
 ·intro w' hw' hH;have cc:=(hw'.cell (p:=⟨g0+1,0,none⟩) tl).trans ct1;clear hH;simp[xB,go_sem,cc];exact Ext.refl _
 simp only[Act.put,yD,yE,yF];apply yZ (.int .i64 (L.length:Int)) rfl rfl rfl
 ·intro w' hw' hH;clear hH;simp[xB,go_sem];exact Ext.refl _
 simp only[Act.put,yD,yE,yF];apply vE (OfF H L.length) (fun v w w' h hx=>OfF.ext h hx) rfl rfl rfl
 ·intro w' hw' hH
  have hz:H≤w'.heap.size:=by rw[←HH.out]; exact hw'.size
  have hmk:=zU6 L.length (by have:=HLE.out; omega) w';clear hH hw';simp[xB,go_sem,hmk];exact⟨⟨_,rfl,hz,Blk.new _ _ _⟩,Ext.alloc _ _⟩
 intro v21;simp only[Act.put,yD,yE,yF];apply vE (PgF H L) (fun v w w' h hx=>PgF.ext h hx) rfl rfl rfl
 ·intro w' hw' hH;obtain⟨bo,rfl,hlo,hbo⟩:=hH _ (List.mem_cons_self ..) ⟨_,rfl,by decide⟩;obtain⟨g,c',l',rfl,ho⟩:=hH _ (List.mem_cons_of_mem _ (List.mem_cons_self ..)) ⟨_,rfl,by decide⟩;clear hH;simp[xB,go_sem];exact⟨⟨g,c',bo,l',rfl,ho,hbo,hlo⟩,Ext.refl _⟩
 intro v22;simp only[Act.put,yD,yE,yF];apply vE (PbF H L) (fun v w w' h hx=>PbF.ext h hx) rfl rfl rfl
 ·intro w' hw' hH
  have hz:H≤w'.heap.size:=by rw[←HH.out]; exact hw'.size
  obtain⟨g,c',bo,l',rfl,hb⟩:=hH _ (List.mem_cons_self ..) ⟨_,rfl,by decide⟩;clear hH hw';unfold prg;simp[xB,go_sem];exact⟨⟨_,g,c',bo,l',rfl,hz,Blk.new _ _ _,hb.ext (Ext.alloc _ _)⟩,Ext.alloc _ _⟩
 intro v23;simp only[Act.put,yD,yE,yF];apply vE (MpF H) (fun v w w' h hx=>MpF.ext h hx) rfl rfl rfl
 ·intro w' hw' hH
  have hz:H≤w'.heap.size:=by rw[←HH.out]; exact hw'.size
  have hmm:=@run_makeMap Tryz.prog;clear hH hw';simp[xB,go_sem,hmm];exact⟨⟨_,rfl,hz,MF.new _⟩,Ext.alloc _ _⟩
 intro v24;simp only[Act.put,yD,yE,yF];apply vE (RdF H L) (fun v w w' h hx=>RdF.ext h hx) rfl rfl rfl
 ·intro w' hw' hH;obtain⟨mt,rfl,hmt,hmf⟩:=hH _ (List.mem_cons_self ..) ⟨_,rfl,by decide⟩;obtain⟨q,g,c',bo,l',rfl,hq,hp,hb⟩:=hH _ (List.mem_cons_of_mem _ (List.mem_cons_self ..)) ⟨_,rfl,by decide⟩;clear hH;simp[xB,go_sem];exact⟨⟨q,mt,g,c',bo,l',rfl,hq,hp,hb,hmt,hmf⟩,Ext.refl _⟩
 intro v25;simp only[Act.put,yD,yE,yF];apply vE (RbF H L) (fun v w w' h hx=>RbF.ext h hx) rfl rfl rfl
 ·intro w' hw' hH
  have hz:H≤w'.heap.size:=by rw[←HH.out]; exact hw'.size
  obtain⟨q,mt,g,c',bo,l',rfl,hq,hp,hb,hmt,hmf⟩:=hH _ (List.mem_cons_self ..) ⟨_,rfl,by decide⟩;clear hH hw';unfold rdc;simp[xB,go_sem];exact⟨⟨_,q,mt,g,c',bo,l',rfl,hz,Blk.new _ _ _,hq,hp.ext (Ext.alloc _ _),hb.ext (Ext.alloc _ _),hmt,hmf.ext (Ext.alloc _ _)⟩,Ext.alloc _ _⟩
 intro v26;simp only[Act.put,yD,yE,yF];apply vE (RbF H L) (fun v w w' h hx=>RbF.ext h hx) rfl rfl rfl
 ·intro w' hw' hH;have hb:=hH _ (List.mem_cons_self ..) ⟨_,rfl,by decide⟩;clear hH;simp[xB,go_sem];exact⟨hb,Ext.refl _⟩
 intro v6;simp only[Act.put,yD,yE,yF];apply vC;intro w2 hw2 hH;obtain⟨a,q,mt,g,c',bo,l',rfl,ha,hba,hq,hbq,hb,hmt,hmf⟩:=hH _ (List.mem_cons_self ..);clear hH ct1 tl;have HX2:=yG hw2;have HLO:Hid (H≤a∧H≤q∧H≤bo∧H≤mt):=yG ⟨ha,hq,hb.lo,hmt⟩;have HNH:Hid (NH w2 (stH a q mt g c' bo H l') ⟨[],[],List.replicate L.length 0,[],[]⟩ zFr):=yG (zRA HL0.out HNN.out hba hbq hb hmf (by rw[←HH.out]; exact hw2.size));have HOW:=yG hb.own;clear ha hba hq hbq hb hmt hmf hw2
 try simp only[Act.put,yD,yE,yF]
 have HLN:Hid ((txM l').length=L.length∧l'.length=L.length):=yG ⟨by rw[JR]; exact HOW.out.len,HOW.out.len⟩;have HTN:=yG HOW.out.zS4
 have HMY:Hid (∀b,jC (stH a q mt g c' bo H l') zFr b→H≤b):=yG fun b hb=>by
  rcases hb with e | e | e | e | e | e | e
  ·have:=HLO.out.1; have e:b=a:=e; omega
  ·have:=HLO.out.2.1; have e:b=q:=e; omega
  ·have:=HLO.out.2.2.1; have e:b=bo:=e; omega
  ·have:=HLO.out.2.2.2; have e:b=mt:=e; omega
  ·cases e
  ·cases e
  ·cases e
 have HEX:Hid (∀(wr:World) (M':Nat→Prop),xD w2 (jC (stH a q mt g c' bo H l') zFr) wr M'→Ext w1 wr):=yG fun wr M' mv=>⟨mv.os.trans HX2.out.os,mv.tape.trans HX2.out.tape,mv.output.trans HX2.out.output,Nat.le_trans HX2.out.size mv.size,fun b hb=>(mv.jL b (yU hb HX2.out.size) fun hm=>by have:=HMY.out b hm; rw[←HH.out] at this; omega).trans (HX2.out.block b hb)⟩;obtain⟨S,HS⟩:∃S,Hid (stH a q mt g c' bo H l'=S):=⟨_,yG rfl⟩;have HSE:Hid (S.a=a∧S.p=q∧S.bo=bo∧S.l=txM l'∧S.l.length=L.length∧S.co=L.length):=yG (by rw[←HS.out]; exact⟨rfl,rfl,rfl,rfl,HLN.out.1,HLN.out.2⟩);have HSB:Hid (S.B=H):=yG (by rw[←HS.out]; rfl);rw[HS.out] at HNH HMY HEX
 have HR0:Hid (∀wr s R,NH wr S s R→wr.cell? ⟨a,0,none⟩=some (.pointer (some ⟨q,0,none⟩))):=yG fun wr s R h=>by have:=h.rds.r0; rwa [HSE.out.1,HSE.out.2.1] at this
 have HR2:Hid (∀wr s R,NH wr S s R→wr.cell? ⟨q,2,none⟩=some (.slice R.Ap s.procs.length R.cP)):=yG fun wr s R h=>by have:=h.p2; rwa [HSE.out.2.1] at this
 have HR3:Hid (∀wr s R,NH wr S s R→wr.cell? ⟨q,3,none⟩=some (.slice (some ⟨bo,0,none⟩) L.length L.length)):=yG fun wr s R h=>by have:=h.p3; rwa [HSE.out.2.1,HSE.out.2.2.1,HSE.out.2.2.2.2.1,HSE.out.2.2.2.2.2] at this
 have r0:=HR0.out _ _ _ HNH.out;have p3:=HR3.out _ _ _ HNH.out;clear HS
 go_wp2_with fail
 clear r0 p3;have HM0:Hid (xD w2 (jC S zFr) w2 (jC S zFr)):=yG (xD.ext (Ext.refl _))
 go_loopw [35] (fun i' wr=>∃(k:Nat),k≤L.length∧i'=.int .i64 k∧Hid (NH wr S ⟨[],[],List.replicate k (-1)++List.replicate (L.length-k) 0,[],[]⟩ zFr)∧Hid (xD w2 (jC S zFr) wr (jC S zFr))) (fun i' _=>L.length-(intOf i').toNat)
 case atStart=>exact⟨0,zW _,rfl,HNH,HM0⟩
 case round=>
  obtain⟨k,hk,rfl,HNK,HMK⟩:=hrel;have hle:=HLE.out;obtain⟨wa,rfl⟩:∃wa:World,wa=wr:=⟨_,rfl⟩;have r0:=HR0.out _ _ _ HNK.out;have p3:=HR3.out _ _ _ HNK.out
  by_cases hlt:k<L.length
  ·have d0:decide ((k:Int)<(L.length:Int))=true:=yS (by omega)
   have q1:(k:Int)<(L.length:Int):=by omega
   obtain⟨u0,co⟩:∃u0,wa.cell? ⟨bo,k,none⟩=some u0:=⟨_,by have:=HNK.out.zBZ k (by rw[HSE.out.2.2.2.2.1]; exact hlt); rwa [HSE.out.2.2.1] at this⟩
   have cz:wa.frozen? ⟨bo,k,none⟩=false:=by have:=HNK.out.of.frozen k; rwa [HSE.out.2.2.1] at this
   have HSET:Hid (NH (wa.setCell ⟨bo,k,none⟩ (.int .i64 (-1))) S ⟨[],[],List.replicate (k+1) (-1)++List.replicate (L.length-(k+1)) 0,[],[]⟩ zFr∧xD wa (jC S zFr) (wa.setCell ⟨bo,k,none⟩ (.int .i64 (-1))) (jC S zFr)):=yG (by
    have:=HNK.out.setOf k (-1)
    rw[HSE.out.2.2.1] at this
    rw[show((⟨[],[],List.replicate k (-1)++List.replicate (L.length-k) 0,[],[]⟩:Nr).set k (-1))=⟨[],[],List.replicate (k+1) (-1)++List.replicate (L.length-(k+1)) 0,[],[]⟩ by
     unfold Nr.set
     congr 1
     rw[List.set_append_right _ _ (by simp),zD,Nat.sub_self,show L.length-k=(L.length-(k+1))+1 by omega,List.replicate_succ,yF,List.replicate_succ',List.append_assoc]
     rfl] at this
    exact this)
   go_wp2_with fail
   have HNF:=yG HSET.out.1;have HMF:=yG (HMK.out.trans HSET.out.2);clear HSET co cz r0 p3;generalize wa.setCell ⟨bo,k,none⟩ (.int .i64 (-1))=w10 at *;go_roundw
   case rel=>exact⟨k+1,by omega,by go_num,HNF,HMF⟩
   case measure=>simp[intOf]; omega
  ·obtain rfl:k=L.length:=by omega
   have d0:decide ((L.length:Int)<(L.length:Int))=false:=by simp
   have d1:decide (L.length<L.length)=false:=by simp
   have HNI:Hid (NH wa S ⟨[],[],List.replicate L.length (-1),[],[]⟩ zFr):=yG (by have:=HNK.out; rwa [Nat.sub_self,List.replicate_zero,List.append_nil] at this);have HX3:=yG (HEX.out _ _ HMK.out);clear r0 p3;have tl1:wa.cell? ⟨g0+1,0,none⟩=some (.slice tA L.length tc):=(HT1.out.ext HX3.out).cell 0;obtain⟨b0,f0,htA,hb0,hk0⟩:=(HTM.out.ext HX3.out).at_ 0 HL0.out;subst htA
   have q1:(0:Int)<(L.length:Int):=by have:=HL0.out; omega
   have e4:wa.cell? ⟨b0,f0+4,none⟩=some (.slice L[0].kA L[0].kids.length L[0].kc):=by have:=hk0 4 (by decide); rwa [Nat.zero_mul,Nat.add_zero] at this
   clear hk0
   go_wp2_with fail
   obtain⟨K,HK⟩:∃K,Hid ((xC (tN (txM L)) 0).kids=K):=⟨_,yG rfl⟩;have HKE:Hid (K=L[0].kids.map Int.toNat):=yG (by rw[←HK.out,zCu (by rw[JR]; exact HL0.out)]; simp only[txM,zA]; rfl);have HKL:Hid (L[0].kids.length=K.length):=yG (by rw[HKE.out,yQ]);have HKB:Hid (K.length≤9000):=yG (by rw[←HKL.out]; exact(HSM.out L[0] (yO _)).kids)
   have HKC:Hid (∀wr,Ext w1 wr→Cells wr L[0].kA (ints K)):=yG fun wr hx=>by
    have:=((HTM.out.ext hx).ok (L[0]'HL0.out) (yO HL0.out)).kids
    have e:TT.jP (L[0]'HL0.out).kids=ints K:=(zHh (HNN.out _ (yO HL0.out)).kids).trans (congrArg ints HKE.out.symm);rw[←e];exact this
   have HTS:Hid (tN S.l=tN (txM L)):=yG (by rw[HSE.out.2.2.2.1]; exact HTN.out.1)
   have HPO:Hid (∀i,YY S.l i=YY (txM L) i):=yG fun i=>by rw[HSE.out.2.2.2.1]; exact HTN.out.2 i
   have HUP:Hid (∀i k,k ∈ (xC (tN S.l) i).kids→k<S.l.length):=yG fun i k hk=>by
    rw[HTS.out] at hk
    have:=(HRT.out.up i k hk).2
    rw[zAk,JR] at this;rw[HSE.out.2.2.2.2.1];exact this
   have HSA:Hid (S.a=a):=yG HSE.out.1;have HW0:Hid (XF (tN (txM L)) K ⟨[],[],List.replicate L.length (-1),[],[]⟩=XF (tN (txM L)) (K.drop 0) ⟨[],[],List.replicate L.length (-1),[],[]⟩):=yG rfl;rw[HKL.out];generalize L[0].kA=kA at *;generalize L[0].kc=kc at *;clear e4 tl1 q1 hle
   go_loopw [55] (fun i' wr=>∃(k:Nat) (s:Nr) (R:DyH),k≤K.length∧i'=.int .i64 k∧Hid (NH wr S s R)∧Hid (xD w2 (jC S zFr) wr (jC S R))∧Hid (XF (tN (txM L)) K ⟨[],[],List.replicate L.length (-1),[],[]⟩=XF (tN (txM L)) (K.drop k) s)) (fun i' _=>K.length-(intOf i').toNat)
   case atStart=>exact⟨0,_,_,zW _,rfl,HNI,HMK,HW0⟩
   case round=>
    obtain⟨k,s,R,hk,rfl,HNJ,HMJ,HWJ⟩:=hrel;obtain⟨wb,rfl⟩:∃wb:World,wb=wr:=⟨_,rfl⟩;have hkb:=HKB.out
    by_cases hlt:k<K.length
    ·have d0:decide ((k:Int)<(K.length:Int))=true:=yS (by omega)
     have q1:(k:Int)<(K.length:Int):=by omega
     obtain⟨b,off,hkA,hb,hcc⟩:=(HKC.out wb (HEX.out _ _ HMJ.out)).at_ (by rw[vY]; omega);subst hkA
     have e0:wb.cell? ⟨b,off+k,none⟩=some (.int .i64 ((K[k]:Nat):Int)):=by rw[hcc k (by rw[vY]; exact hlt)]; simp[ints,hlt]
     have HMEM:Hid (K[k] ∈ K):=yG (yO hlt);have HSN:Hid (XF (tN (txM L)) K ⟨[],[],List.replicate L.length (-1),[],[]⟩=((if (xC (tN S.l) K[k]).kind=2 then JQ (tN S.l) K[k] else zCi (tN S.l) K[k]) s).bind (XF (tN (txM L)) (K.drop (k+1)))):=yG (by rw[HWJ.out,List.drop_eq_getElem_cons hlt,HTS.out]; rfl);clear hcc;generalize K[k]=c at *;have HCL:Hid (c<S.l.length):=yG (HUP.out 0 c (by rw[HTS.out,HK.out]; exact HMEM.out));have HCN:=yG (vV wb S.a S.p S.A S.ct S.l c HNJ.out.rds HCL.out);rw[HSA.out] at HCN
     go_wp2_with fail
     refine HCN.out.mono ?_;rintro e w5 ⟨rfl,hx5⟩;have HN5:=yG (HNJ.out.ext hx5);have HM5:=yG (HMJ.out.trans (xD.ext (M:=jC S R) hx5));have f0:=zDJ S.l c w5;clear hx5 e0
     by_cases hkd:(xC (tN S.l) c).kind=2
     ·have HHD:Hid (XF (tN (txM L)) K ⟨[],[],List.replicate L.length (-1),[],[]⟩=(JQ (tN S.l) c s).bind (XF (tN (txM L)) (K.drop (k+1)))):=yG (by rw[HSN.out,if_pos hkd]);have HCT:=yG (zOI w5 S s R c HN5.out HCL.out (HUP.out c));rw[HSA.out] at HCT;rw[hkd] at f0
      go_wp2_with fail
      refine HCT.out.mono ?_;intro e w6 hpost
      cases hq:JQ (tN S.l) c s with
      | ok s6=>
       rw[hq] at hpost;obtain⟨rfl,R6,hn6,hm6⟩:=hpost;have HN6:=yG hn6;have HM6:=yG (HM5.out.trans hm6);have HW6:Hid (XF (tN (txM L)) K ⟨[],[],List.replicate L.length (-1),[],[]⟩=XF (tN (txM L)) (K.drop (k+1)) s6):=yG (by rw[HHD.out,hq]; rfl);clear hn6 hm6 hq f0
       go_wp2_with fail
       go_roundw
       case rel=>exact⟨k+1,s6,R6,by omega,by go_num,HN6,HM6,HW6⟩
       case measure=>simp[intOf]; omega
      | err i6 er=>
       rw[hq] at hpost;obtain⟨rfl,hi6,M',hm6⟩:=hpost
       have hre:jK (tN (txM L))=.err i6 er:=by
        unfold jK;rw[HK.out,zAk,JR,HHD.out,hq]
        rfl
       have hx6:=HEX.out _ _ (HM5.out.trans hm6);exact zCW i6 er _ hre (HERR.out _ _ hre) (HX1.out.trans hx6) (by have:=HG0.out; omega) (by have:=HG0.out; omega) (by omega) HBG.out HCP.out (HC.out.ext (HX1.out.trans hx6)) HPS.out (HS1.out.ext hx6) (HP1.out.ext hx6) (HE1.out.ext hx6) _ (HPO.out i6) _ rfl rfl
     ·have HHD:Hid (XF (tN (txM L)) K ⟨[],[],List.replicate L.length (-1),[],[]⟩=(zCi (tN S.l) c s).bind (XF (tN (txM L)) (K.drop (k+1)))):=yG (by rw[HSN.out,if_neg hkd]);have HCT:=yG (zQR w5 S s R c HN5.out HCL.out);rw[HSA.out] at HCT
      have q3:(((xC (tN S.l) c).kind:Int)==2)=false:=by rw[yI]; omega
      clear hkd
      go_wp2_with fail
      refine HCT.out.mono ?_;intro e w6 hpost
      cases hq:zCi (tN S.l) c s with
      | ok s6=>
       rw[hq] at hpost;obtain⟨rfl,R6,hn6,hm6⟩:=hpost;have HN6:=yG hn6;have HM6:=yG (HM5.out.trans hm6);have HW6:Hid (XF (tN (txM L)) K ⟨[],[],List.replicate L.length (-1),[],[]⟩=XF (tN (txM L)) (K.drop (k+1)) s6):=yG (by rw[HHD.out,hq]; rfl);clear hn6 hm6 hq f0 q3
       go_wp2_with fail
       go_roundw
       case rel=>exact⟨k+1,s6,R6,by omega,by go_num,HN6,HM6,HW6⟩
       case measure=>simp[intOf]; omega
      | err i6 er=>
       rw[hq] at hpost;obtain⟨rfl,hi6,M',hm6⟩:=hpost
       have hre:jK (tN (txM L))=.err i6 er:=by
        unfold jK;rw[HK.out,zAk,JR,HHD.out,hq]
        rfl
       have hx6:=HEX.out _ _ (HM5.out.trans hm6);exact zCW i6 er _ hre (HERR.out _ _ hre) (HX1.out.trans hx6) (by have:=HG0.out; omega) (by have:=HG0.out; omega) (by omega) HBG.out HCP.out (HC.out.ext (HX1.out.trans hx6)) HPS.out (HS1.out.ext hx6) (HP1.out.ext hx6) (HE1.out.ext hx6) _ (HPO.out i6) _ rfl rfl
    ·obtain rfl:k=K.length:=by omega
     have d0:decide ((K.length:Int)<(K.length:Int))=false:=by simp
     have d1:decide (K.length<K.length)=false:=by simp
     have HFE:Hid (jK (tN (txM L))=JX (tN (txM L)) s.procs.length 0 s):=yG (by
      unfold jK;rw[HK.out,zAk,JR,HWJ.out,List.drop_length]
      rfl)
     have HKS:Hid (zUA (tN (txM L)) K s):=yG (by
      have hh:XF (tN (txM L)) K ⟨[],[],List.replicate L.length (-1),[],[]⟩=.ok s:=by rw[HWJ.out,List.drop_length]; rfl
      exact zPy K _ _ (fun k hk=>hk) ⟨rfl,rfl,fun p hp=>(by cases hp)⟩ hh)
     have HXB:=yG (HEX.out _ _ HMJ.out)
     by_cases hn0:s.procs.length=0
     ·have r0:=HR0.out _ _ _ HNJ.out;have p2:=HR2.out _ _ _ HNJ.out;have HFIN:Hid (jK (tN (txM L))=.ok s):=yG (by rw[HFE.out,hn0]; rfl);rw[hn0] at p2;clear d0 d1
      go_wp2_with fail
      go_loopw [79] (fun i' wr=>i'=.int .i64 0∧Hid (wr=wb)) (fun _ _=>0)
      case atStart=>exact⟨rfl,yG rfl⟩
      case round=>
       obtain⟨rfl,HWR⟩:=hrel;obtain⟨wd,rfl⟩:∃wd:World,wd=wr:=⟨_,rfl⟩;obtain rfl:=HWR.out
       go_upto_region 22 with fail
       clear p2;have HXE:=yG (HX1.out.trans HXB.out);have HPE:=yG (HP1.out.ext HXB.out);have HEE:=yG (HE1.out.ext HXB.out);obtain⟨pA,HPA⟩:∃pA:Array Value,Hid (pA=#[.slice S.A S.l.length S.ct,.slice R.At s.xH.length R.cT,.slice R.Ap s.procs.length R.cP,.slice (some ⟨S.bo,0,none⟩) S.l.length S.co]∧pA.size=4∧pA.toList.all (·.oneCell')=true∧Blk wd q 35 pA):=⟨_,yG ⟨rfl,rfl,rfl,(by have:=HNJ.out.pg; rw[HSE.out.2.1] at this; exact this)⟩⟩;obtain⟨x0,x1,x2,x3,rfl⟩:∃x0 x1 x2 x3,pA=#[x0,x1,x2,x3]:=zPz HPA.out.2.1;have y0:wd.cell? ⟨q,0,none⟩=some x0:=HPA.out.2.2.2.cell 0;have y1:wd.cell? ⟨q,1,none⟩=some x1:=HPA.out.2.2.2.cell 1;have y2:wd.cell? ⟨q,2,none⟩=some x2:=HPA.out.2.2.2.cell 2;have y3:wd.cell? ⟨q,3,none⟩=some x3:=HPA.out.2.2.2.cell 3;have HGN:Hid (w.heap.size=g0):=HG0
       go_wp2_with (refine vK rfl 35 (.tmp 4) (.tmp 99) rfl (g0+1+1) #[x0,x1,x2,x3] rfl rfl 35 _ HPE.out (by kernel_rfl) rfl (by simpa using HPA.out.2.2.1) ?_)
       intro w8 ht8 hb8;have hE8:=ht8.blk HEE.out (by simp);have HX8:=yG (ht8.ext HXE.out (by have:=HG0.out; omega));have HB8:=yG hb8;have HE8:=yG hE8;have HMV8:=yG (zK1 (ge:=g0+1+1+1) (v:=.nilIface) ht8);have ce:w8.cell? ⟨g0+1+1+1,0,none⟩=some .nilIface:=hE8.cell 0;have ze:=hE8.frozen 0;clear ht8 hb8 hE8 y0 y1 y2 y3
       go_wp2_with fail
       have hP9:=HB8.out.far (p:=⟨g0+1+1+1,0,none⟩) (by simp) .nilIface;have hE9:=HE8.out.put 0 .nilIface;have hX9:=HX8.out.set (u:=.nilIface) (i:=0) (g:=g0+1+1+1) (by have:=HG0.out; omega);generalize w8.setCell ⟨g0+1+1+1,0,none⟩ .nilIface=W9 at *;have t0:W9.cell? ⟨g0+1+1,0,none⟩=some x0:=hP9.cell 0;have t1:W9.cell? ⟨g0+1+1,1,none⟩=some x1:=hP9.cell 1;have t2:W9.cell? ⟨g0+1+1,2,none⟩=some x2:=hP9.cell 2;have t3:W9.cell? ⟨g0+1+1,3,none⟩=some x3:=hP9.cell 3;have e9:W9.cell? ⟨g0+1+1+1,0,none⟩=some .nilIface:=hE9.cell 0;refine leaves_cons (f:=27) (args:=#[.pointer (some ⟨g0,0,none⟩),.pointer (some ⟨g0+1+1,0,none⟩),.pointer (some ⟨g0+1+1+1,0,none⟩)]) (by simp) (by simp[go_sem]) ?_;refine(zG5 W9 _ rfl).mono ?_;rintro e u' w'' ⟨rfl,rfl,rfl⟩;refine⟨.tuple #[.agg #[x0,x1,x2,x3],.nilIface],by simp[results,Tryz.results8,go_sem,t0,t1,t2,t3,e9],?_⟩;rw[HFIN.out];exact⟨hX9,_,rfl,⟨⟨_,_,_,_,_,_,_,_,_,_,_,_,by rw[HPA.out.1,HSE.out.2.2.2.2.1],(HNJ.out.prg HPE.out HEE.out (List.eq_nil_of_length_eq_zero hn0)).xG HMV8.out,HTS.out,HPO.out⟩⟩⟩
     ·obtain⟨bp,pc0,hAp,hbp,hbi⟩:=BI.start HNJ.out (by omega) HKS.out.blocks fun p hp=>⟨(HKS.out.procs p hp).1,(HKS.out.procs p hp).2.1⟩;obtain⟨nP,HNP⟩:∃nP,Hid (s.procs.length=nP):=⟨_,yG rfl⟩;rw[HNP.out] at hbi HFE;obtain⟨T,HTT⟩:∃T,Hid (stN S R bp nP=T):=⟨_,yG rfl⟩;rw[HTT.out] at hbi;have HTA:Hid (T.a=a∧T.p=q∧T.bp=bp∧T.l=S.l∧T.nP=nP∧T.B=S.B):=yG (by rw[←HTT.out]; exact⟨HSE.out.1,HSE.out.2.1,rfl,rfl,rfl,rfl⟩)
      have HTR:Hid (zDZ T):=yG ⟨by rw[HTA.out.2.2.2.1,HTS.out]; exact HRT.out,fun i=>(by
       rw[HTA.out.2.2.2.1,HTS.out]
       by_cases hi:i<L.length
       ·rw[zCu (by rw[JR]; exact hi)]
        have:=(HSM.out _ (yO hi)).kids
        simp[txM,zK2];omega
       ·unfold xC;rw[yH,zM (by rw[zAk,JR]; omega)]
        exact zW _),by rw[HTA.out.2.2.2.1,HSE.out.2.2.2.2.1]; have:=HLE.out; omega⟩
      have HBI:=yG hbi;have HPL:Hid ((hp s.procs).length=nP):=yG (by rw[zLK]; exact HNP.out)
      have HRS:Hid (∀x ∈ hp s.procs,∃na nb,(xC (tN (txM L)) x.1.root).kids=[na,nb]∧x.1.root<L.length):=yG fun x hx=>by
       obtain⟨p,hp1,rfl⟩:=List.mem_map.1 hx;obtain⟨_,_,h3,h4⟩:=HKS.out.procs p hp1
       have hin:p.root ∈ (xC (tN (txM L)) 0).kids:=by rw[HK.out]; exact h3
       have h5:=(HRT.out.up 0 p.root hin).2;have h6:=(HRO.out p.root hin).resolve_left h4;have h7:=HRT.out.form p.root h5 (by omega) (by omega);unfold zAg at h7;rw[h6] at h7;obtain⟨na,nb,h8,_⟩:=h7;rw[zAk,JR] at h5;exact⟨na,nb,h8,h5⟩
      have HNB9:Hid (nP≤64):=yG (by rw[←HNP.out]; exact HNJ.out.zQg);have HF0:Hid (jK (tN (txM L))=JX (tN (txM L)) (nP-0) 0 s):=yG HFE.out;have r0:=HR0.out _ _ _ HNJ.out;have p2:=HR2.out _ _ _ HNJ.out;rw[HNP.out] at p2;have HBP:Hid (H≤bp):=yG (by have:=HSB.out; omega);have HTB:Hid (T.bo=bo∧T.B=H):=yG ⟨by rw[←HTT.out]; exact HSE.out.2.2.1,by rw[←HTT.out]; exact HSB.out⟩;clear hbi hbp hn0
      go_wp2_with fail
      clear r0 p2
      go_loopw [79] (fun i' wr=>∃(k:Nat) (s:Nr) (pc:Array Value) (Ab:Option Addr) (cb:Nat) (ps:List Pw),k≤nP∧i'=.int .i64 k∧Hid (ps.length=nP)∧Hid (BI wr T s k pc Ab cb ps)∧Hid (Ext w1 wr)∧Hid (∀x ∈ ps,∃na nb,(xC (tN (txM L)) x.1.root).kids=[na,nb]∧x.1.root<L.length)∧Hid (jK (tN (txM L))=JX (tN (txM L)) (nP-k) k s)) (fun i' _=>nP-(intOf i').toNat)
      case atStart=>exact⟨0,s,pc0,none,0,hp s.procs,zW _,rfl,HPL,HBI,HXB,HRS,HF0⟩
      case round=>
       obtain⟨k,s,pc,Ab,cb,ps,hk,rfl,HPS2,HBK,HXK,HRK,HFK⟩:=hrel;obtain⟨wc,rfl⟩:∃wc:World,wc=wr:=⟨_,rfl⟩;have hnb:=HNB9.out
       obtain⟨v3,HRD⟩:∃v3,Hid (Blk wc T.a 86 #[.pointer (some ⟨T.p,0,none⟩),.map (some T.mt),.slice T.Ac s.xH.length T.cc,v3,.slice Ab 0 cb]):=by obtain⟨v3,h⟩:=HBK.out.rd; exact⟨v3,yG h⟩
       have r0:wc.cell? ⟨a,0,none⟩=some (.pointer (some ⟨q,0,none⟩)):=by have:=HRD.out.cell 0; rw[HTA.out.1,HTA.out.2.1] at this; exact this
       have p2:wc.cell? ⟨q,2,none⟩=some (.slice (some ⟨bp,0,none⟩) nP T.cP):=by have:=HBK.out.st.prog.1.cell 2; rw[HTA.out.2.1,HTA.out.2.2.1,HTA.out.2.2.2.2.1] at this; exact this
       by_cases hlt:k<nP
       ·have d0:decide ((k:Int)<(nP:Int))=true:=yS (by omega)
        have q1:(k:Int)<(nP:Int):=by omega
        have hjl:k<ps.length:=by rw[HPS2.out]; exact hlt
        obtain⟨na,nb,hkk,hrl⟩:=HRK.out ps[k] (yO hjl);have c3:wc.cell? ⟨T.a,3,none⟩=some v3:=HRD.out.cell 3;have z3:=HRD.out.frozen 3;have HNB3:=yG (HBK.out.nb hjl);have HMV3:=yG (HBK.out.zOj (.pointer (some ⟨T.bp,k*5,none⟩)));have HNBODY:=yG (zQu L.length T HTR.out (by rw[HTA.out.2.2.2.1,HSE.out.2.2.2.2.1]; exact zX _) (by have:=HLE.out; omega) wc _ { s with vars:=[] } (dyJ k pc Ab cb) ps[k].1.root na nb (yG rfl) HNB3.out v3 c3 z3 (HBK.out.par hjl).2 (HBK.out.par hjl).1 (by rw[HTA.out.2.2.2.1,HSE.out.2.2.2.2.1]; exact hrl) (by show s.blocks.length≤5; rw[HBK.out.bz]; exact zW _) (by rw[HTA.out.2.2.2.1,HTS.out]; exact hkk));have HKK2:=yG hkk;have HTL:Hid (tN T.l=tN (txM L)∧(tN (txM L)).length=L.length):=yG ⟨by rw[HTA.out.2.2.2.1,HTS.out],by rw[zAk,JR]⟩;have HFE3:Hid (jK (tN (txM L))=(zFO (tN (txM L)) k s).bind (JX (tN (txM L)) (nP-(k+1)) (k+1))):=yG (by rw[HFK.out,zOa hlt (by rw[←HBK.out.psl,yQ,HPS2.out])]);have HPK:Hid (s.procs[k]?=some ps[k].1):=yG (by rw[←HBK.out.psl,zN,yJ hjl]; rfl);have HBE:=yG (zTJ HPK.out hkk);obtain⟨PQ,HPQ⟩:∃PQ,Hid (PQ=zCx (QB (xC (tN T.l) na).kids.length) (wc.setCell ⟨T.a,3,none⟩ (.pointer (some ⟨T.bp,k*5,none⟩))) T (dyJ k pc Ab cb) (jQ (zFa (tN T.l) L.length na nb) { s with vars:=[] }) vU):=⟨_,yG rfl⟩
        have hB:Calls Tryz.prog 31 #[.pointer (some ⟨T.a,0,none⟩),.pointer (some ⟨T.bp,k*5,none⟩)] wc PQ:=by rw[HPQ.out]; exact HNBODY.out
        rw[HTA.out.1,HTA.out.2.2.1] at hB;have HBC:=yG hB
        have HMB:Hid (∀b,MB T Ab b→w1.heap.size≤b):=yG fun b hb=>by
         rw[HH.out]
         rcases hb with e | e | e | e
         ·rw[e,HTA.out.1]; exact HLO.out.1
         ·rw[e,HTB.out.1]; exact HLO.out.2.2.1
         ·rw[e,HTA.out.2.2.1]; exact HBP.out
         ·have:=(jE HBK.out.blocks e).1
          rw[HTB.out.2] at this;exact this
        have HJL:=yG hjl;clear hkk hrl c3 z3 hB
        go_wp2_with fail
        refine HBC.out.mono ?_;intro e w6 hpost;rw[HPQ.out] at hpost
        cases hq:jQ (zFa (tN T.l) L.length na nb) { s with vars:=[] } with
        | ok s6=>
         rw[hq] at hpost;obtain⟨rfl,R6,hqb,hn6,hm6⟩:=hpost
         have hq2:jQ (zFa (tN (txM L)) (tN (txM L)).length na nb) { s with vars:=[] } = .ok s6:=by rw[←hq,HTL.out.1,HTL.out.2]
         obtain⟨kp1,kp2,_,kp4⟩:=zPZ HRT.out hq2;have HX6:=yG (zKW HXK.out (HMV3.out.trans hm6) HMB.out);have HBI6:=yG (HBK.out.step hjl hqb hn6 hm6 (kp4.trans HBK.out.bz) kp2 kp1);have HPL6:Hid ((zAG ps k (xC (tN T.l) na).kids.length s6.vars R6.Av R6.cv).length=nP):=yG (by rw[←HPS2.out]; simp[zAG])
         have HRK6:Hid (∀x ∈ zAG ps k (xC (tN T.l) na).kids.length s6.vars R6.Av R6.cv,∃na nb,(xC (tN (txM L)) x.1.root).kids=[na,nb]∧x.1.root<L.length):=yG fun x hx=>by
          obtain⟨y,hy,e⟩:=zOB hx;rw[←e];exact HRK.out y hy
         have HF6:Hid (jK (tN (txM L))=JX (tN (txM L)) (nP-(k+1)) (k+1) { s6 with procs:=(zAG ps k (xC (tN T.l) na).kids.length s6.vars R6.Av R6.cv).map Prod.fst }):=yG (by
          rw[HFE3.out,HBE.out,hq2,zRc hjl,HBK.out.psl,HTL.out.1]
          show JX _ _ _ { s6 with procs:=s6.procs.set k _ } = _
          rw[kp2])
         clear hqb hn6 hm6 hq hq2 kp1 kp2 kp4;generalize zAG ps k (xC (tN T.l) na).kids.length s6.vars R6.Av R6.cv=ps6 at *
         go_wp2_with fail
         go_roundw
         case rel=>exact⟨k+1,_,R6.pc,R6.Ab,R6.cb,ps6,by omega,by go_num,HPL6,HBI6,HX6,HRK6,HF6⟩
         case measure=>simp[intOf]; omega
        | err i6 er=>
         rw[hq] at hpost;obtain⟨rfl,hi6,M',hm6⟩:=hpost
         have hre:jK (tN (txM L))=.err i6 er:=by
          have hq2:jQ (zFa (tN (txM L)) (tN (txM L)).length na nb) { s with vars:=[] } = .err i6 er:=by rw[←hq,HTL.out.1,HTL.out.2]
          rw[HFE3.out,HBE.out,hq2]
          rfl
         have hx6:=zKW HXK.out (HMV3.out.trans hm6) HMB.out;exact zCW i6 er _ hre (HERR.out _ _ hre) (HX1.out.trans hx6) (by have:=HG0.out; omega) (by have:=HG0.out; omega) (by omega) HBG.out HCP.out (HC.out.ext (HX1.out.trans hx6)) HPS.out (HS1.out.ext hx6) (HP1.out.ext hx6) (HE1.out.ext hx6) _ (by rw[HTA.out.2.2.2.1]; exact HPO.out i6) _ rfl rfl
       ·obtain rfl:k=nP:=by omega
        have d0:decide ((k:Int)<(k:Int))=false:=by simp
        have d1:decide (k<k)=false:=by simp
        have HFIN:Hid (jK (tN (txM L))=.ok s):=yG (by rw[HFK.out,zOC])
        go_upto_region 22 with fail
        clear d0 d1 p2;have HXE:=yG (HX1.out.trans HXK.out);have HPE:=yG (HP1.out.ext HXK.out);have HEE:=yG (HE1.out.ext HXK.out);obtain⟨pA,HPA⟩:∃pA:Array Value,Hid (pA=#[.slice T.A T.l.length T.ct,.slice T.At s.xH.length T.cT,.slice (some ⟨T.bp,0,none⟩) T.nP T.cP,.slice (some ⟨T.bo,0,none⟩) T.l.length T.co]∧pA.size=4∧pA.toList.all (·.oneCell')=true∧Blk wc q 35 pA):=⟨_,yG ⟨rfl,rfl,rfl,(by have:=HBK.out.st.prog.1; rw[HTA.out.2.1] at this; exact this)⟩⟩;obtain⟨x0,x1,x2,x3,rfl⟩:∃x0 x1 x2 x3,pA=#[x0,x1,x2,x3]:=zPz HPA.out.2.1;have y0:wc.cell? ⟨q,0,none⟩=some x0:=HPA.out.2.2.2.cell 0;have y1:wc.cell? ⟨q,1,none⟩=some x1:=HPA.out.2.2.2.cell 1;have y2:wc.cell? ⟨q,2,none⟩=some x2:=HPA.out.2.2.2.cell 2;have y3:wc.cell? ⟨q,3,none⟩=some x3:=HPA.out.2.2.2.cell 3;have HGN:Hid (w.heap.size=g0):=HG0
        go_wp2_with (refine vK rfl 35 (.tmp 4) (.tmp 99) rfl (g0+1+1) #[x0,x1,x2,x3] rfl rfl 35 _ HPE.out (by kernel_rfl) rfl (by simpa using HPA.out.2.2.1) ?_)
        intro w8 ht8 hb8;have hE8:=ht8.blk HEE.out (by simp);have HX8:=yG (ht8.ext HXE.out (by have:=HG0.out; omega));have HB8:=yG hb8;have HE8:=yG hE8;have HMV8:=yG (zK1 (ge:=g0+1+1+1) (v:=.nilIface) ht8);have ce:w8.cell? ⟨g0+1+1+1,0,none⟩=some .nilIface:=hE8.cell 0;have ze:=hE8.frozen 0;clear ht8 hb8 hE8 y0 y1 y2 y3
        go_wp2_with fail
        have hP9:=HB8.out.far (p:=⟨g0+1+1+1,0,none⟩) (by simp) .nilIface;have hE9:=HE8.out.put 0 .nilIface;have hX9:=HX8.out.set (u:=.nilIface) (i:=0) (g:=g0+1+1+1) (by have:=HG0.out; omega);generalize w8.setCell ⟨g0+1+1+1,0,none⟩ .nilIface=W9 at *;have t0:W9.cell? ⟨g0+1+1,0,none⟩=some x0:=hP9.cell 0;have t1:W9.cell? ⟨g0+1+1,1,none⟩=some x1:=hP9.cell 1;have t2:W9.cell? ⟨g0+1+1,2,none⟩=some x2:=hP9.cell 2;have t3:W9.cell? ⟨g0+1+1,3,none⟩=some x3:=hP9.cell 3;have e9:W9.cell? ⟨g0+1+1+1,0,none⟩=some .nilIface:=hE9.cell 0;refine leaves_cons (f:=27) (args:=#[.pointer (some ⟨g0,0,none⟩),.pointer (some ⟨g0+1+1,0,none⟩),.pointer (some ⟨g0+1+1+1,0,none⟩)]) (by simp) (by simp[go_sem]) ?_;refine(zG5 W9 _ rfl).mono ?_;rintro e u' w'' ⟨rfl,rfl,rfl⟩;refine⟨.tuple #[.agg #[x0,x1,x2,x3],.nilIface],by simp[results,Tryz.results8,go_sem,t0,t1,t2,t3,e9],?_⟩;rw[HFIN.out];exact⟨hX9,_,rfl,⟨⟨_,_,_,_,_,_,_,_,_,_,_,_,by rw[HPA.out.1,HTA.out.2.2.2.1,HTA.out.2.2.2.2.1,HSE.out.2.2.2.2.1,←HBK.out.psl,yQ,HPS2.out],(HBK.out.prg HPE.out HEE.out (by rw[HPS2.out]; exact zX _)).xG HMV8.out,(by rw[HTA.out.2.2.2.1]; exact HTS.out),(by rw[HTA.out.2.2.2.1]; exact HPO.out)⟩⟩⟩
theorem zOi (A:Option Addr)(l:Bs)(n c:Nat)(hn:n=l.length)(tA:Option Addr)(L:List xR)(m tc:Nat)(hm:m=L.length)(w:World)(ht:zA7 w tA L)(hlen:L.length≤9000)(hsm:∀x ∈ L,zC0 x)(hr:JS L=false) :
  Calls Tryz.prog 8 #[.slice A n c,.agg #[.slice tA m tc]] w fun e w'=>e=.returned (.tuple #[.agg zAE,.iface 52 (.int .i64 2)])∧Ext w w':=by
 subst hn;subst hm;have HT:=yG ht;have HLE:=yG hlen;have HSM:=yG hsm;have HR:=yG hr;obtain⟨W0,HW0⟩:∃W0,Hid ((((w.alloc (.cells #[.slice A l.length c] 22)).alloc (.cells #[.slice tA L.length tc] 26)).alloc (.cells #[.slice none 0 0,.slice none 0 0,.slice none 0 0,.slice none 0 0] 35)).alloc (.cells #[.nilIface] 28)=W0):=⟨_,yG rfl⟩;have HX0:Hid (Ext w W0):=yG (by rw[←HW0.out]; exact(((Ext.alloc _ _).trans (Ext.alloc _ _)).trans (Ext.alloc _ _)).trans (Ext.alloc _ _));have HS0:Hid (Blk W0 w.heap.size 22 #[.slice A l.length c]):=yG (by rw[←HW0.out]; exact(((Blk.new _ _ _).alloc _).alloc _).alloc _)
 have HT0:Hid (Blk W0 (w.heap.size+1) 26 #[.slice tA L.length tc]):=yG (by
  have:=((Blk.new (w.alloc (.cells #[.slice A l.length c] 22)) 26 #[.slice tA L.length tc]).alloc (.cells #[.slice none 0 0,.slice none 0 0,.slice none 0 0,.slice none 0 0] 35)).alloc (.cells #[.nilIface] 28)
  rw[←HW0.out]
  simpa using this)
 have HP0:Hid (Blk W0 (w.heap.size+1+1) 35 zAE):=yG (by
  have:=(Blk.new ((w.alloc (.cells #[.slice A l.length c] 22)).alloc (.cells #[.slice tA L.length tc] 26)) 35 #[.slice none 0 0,.slice none 0 0,.slice none 0 0,.slice none 0 0]).alloc (.cells #[.nilIface] 28)
  rw[←HW0.out];unfold zAE
  simpa using this)
 have HE0:Hid (Blk W0 (w.heap.size+1+1+1) 28 #[.nilIface]):=yG (by
  have:=Blk.new (((w.alloc (.cells #[.slice A l.length c] 22)).alloc (.cells #[.slice tA L.length tc] 26)).alloc (.cells #[.slice none 0 0,.slice none 0 0,.slice none 0 0,.slice none 0 0] 35)) 28 #[.nilIface]
  rw[←HW0.out]
  simpa using this)
 clear ht hlen hsm hr
 go_enter_defers Tryz.func8,Tryz.ntmps8
 go_upto_region 1 with fail
 rw[HW0.out];obtain⟨g0,HG0⟩:∃g0,Hid (w.heap.size=g0):=⟨_,yG rfl⟩;rw[HG0.out] at HS0 HT0 HP0 HE0 ⊢;have ct0:W0.cell? ⟨g0+1,0,none⟩=some (.slice tA L.length tc):=HT0.out.cell 0;clear HW0
 go_wp2_with fail
 refine(zKo L tA L.length tc W0 rfl (HT.out.ext HX0.out) HLE.out HSM.out false (yG HR.out)).mono ?_;rintro e w1 ⟨rfl,hx1⟩;have HX1:=yG (HX0.out.trans hx1);have HS1:=yG (HS0.out.ext hx1);have HT1:=yG (HT0.out.ext hx1);have HP1:=yG (HP0.out.ext hx1);have HE1:=yG (HE0.out.ext hx1);clear hx1 ct0 HS0 HT0 HP0 HE0
 go_wp2_with (refine vK rfl 35 (.tmp 4) (.tmp 14) rfl (g0+1+1) zAE rfl rfl 35 _ HP1.out (by kernel_rfl) rfl (by rfl) ?_)
 intro w8 ht8 hb8;have hE8:=ht8.blk HE1.out (by simp);have HX8:=yG (ht8.ext HX1.out (by have:=HG0.out; omega));have HB8:=yG hb8;have HE8:=yG hE8;have ce:w8.cell? ⟨g0+1+1+1,0,none⟩=some .nilIface:=hE8.cell 0;have ze:=hE8.frozen 0;clear ht8 hb8 hE8
 go_wp2_with fail
 have hP9:=HB8.out.far (p:=⟨g0+1+1+1,0,none⟩) (by simp) (.iface 52 (.int .i64 2));have hE9:=HE8.out.put 0 (.iface 52 (.int .i64 2));have hX9:=HX8.out.set (u:=.iface 52 (.int .i64 2)) (i:=0) (g:=g0+1+1+1) (by have:=HG0.out; omega);generalize w8.setCell ⟨g0+1+1+1,0,none⟩ (.iface 52 (.int .i64 2))=W9 at *;have t0:W9.cell? ⟨g0+1+1,0,none⟩=some (.slice none 0 0):=hP9.cell 0;have t1:W9.cell? ⟨g0+1+1,1,none⟩=some (.slice none 0 0):=hP9.cell 1;have t2:W9.cell? ⟨g0+1+1,2,none⟩=some (.slice none 0 0):=hP9.cell 2;have t3:W9.cell? ⟨g0+1+1,3,none⟩=some (.slice none 0 0):=hP9.cell 3;have e9:W9.cell? ⟨g0+1+1+1,0,none⟩=some (.iface 52 (.int .i64 2)):=hE9.cell 0;exact⟨.tuple #[.agg zAE,.iface 52 (.int .i64 2)],by unfold zAE; simp[results,Tryz.results8,go_sem,t0,t1,t2,t3,e9],rfl,hX9⟩
end Go.Proofs.YtbadjmmjbpeocaaGreatDoor
