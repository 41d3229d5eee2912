/- The program's Resolve, walked. (and what follows of it). The conditions stand at each lemma. -/
import Derived.Test.YtbadjmmjbpeocaaGreatJaa
import Derived.Test.YtbadjmmjbpeocaaGreatJba
import Derived.StillTailTactics
set_option linter.unusedVariables false
set_option linter.unusedSimpArgs false
set_option maxRecDepth 100000
set_option maxHeartbeats 16000000
namespace Go.Proofs.YtbadjmmjbpeocaaGreat
open Go Go.RowKit TT
structure zNi (w:World)(L:List xU)(s:Nr)(v:Value):Prop where
 out:∃(M:Nat→Prop) (A At Ap:Option Addr) (l:List Tx) (th:List Hd2) (ps:List Pw) (bo ct cT cP co:Nat),v=.agg #[.slice A L.length ct,.slice At s.xH.length cT,.slice Ap s.procs.length cP,.slice (some ⟨bo,0,none⟩) L.length co]∧zLt w M A At Ap l th ps bo s∧tN l=tN (txM L)∧∀i,YT l i=YT (txM L) i
def zLH (l:Bs)(L:List xU)(w:World)(r:XH Nr)(e:Ending)(w':World):Prop:=Ext w w'∧match r with
 | .ok s=>∃v,e=.returned (.tuple #[v,.nilIface])∧zNi w' L s v
 | .err i er=>∃g,e=.returned (.tuple #[.agg XG,.iface 149 (.pointer (some ⟨g,0,none⟩))])∧w.heap.size≤g∧Blk w' g 153 #[.int .i64 (atN (YT (txM L) i) l.length:Int),.int .i64 (zFT l (atN (YT (txM L) i) l.length)),.int .i64 (zLn l (atN (YT (txM L) i) l.length)),.int .i64 er]
theorem zPu {a:Array Value}(h:a.size=4):∃x0 x1 x2 x3,a=#[x0,x1,x2,x3]:=by
 obtain⟨l⟩:=a
 match l,h with
 | [a,b,c,d],_=>exact⟨a,b,c,d,rfl⟩
theorem zTC {L:List xU}(h:∀x ∈ L,-9223372036854775808≤x.pos∧x.pos≤9223372036854775807)(i:Nat):-9223372036854775808≤YT (txM L) i∧YT (txM L) i≤9223372036854775807:=by
 unfold YT txM;rw[zN]
 by_cases hi:i<L.length
 ·rw[yJ hi];exact h L[i] (yO hi)
 ·rw[zM (by omega)];exact⟨by decide,by decide⟩
theorem zCP {A:Option Addr}{l:Bs}{c:Nat}{L:List xU}{w w':World}{gs gt ge:Nat}(i:Nat)(er:Int)(r:XH Nr)(hr:r=.err i er)(her:er≠0)(hx:Ext w w')(hgt:w.heap.size≤gt)(hge:w.heap.size≤ge)(hne:gt≠ge)(hbig:l.length≤140737488355328)(hcap:l.length≤c)(hC:Cells w' A (vE l))(hpos:∀x ∈ L,-9223372036854775808≤x.pos∧x.pos≤9223372036854775807)
  (hs:Blk w' gs 22 #[.slice A l.length c]) (hp:Blk w' gt 32 XG) (he:Blk w' ge 62 #[.nilIface]) (p:Int) (hpp:p=YT (txM L) i) (tm:Array Value) (h4:tm[4]?.getD undef=.pointer (some ⟨gt,0,none⟩)) (h5:tm[5]?.getD undef=.pointer (some ⟨ge,0,none⟩)) :
  bodyPostD Tryz.prog Tryz.f22 (zLH l L w r) (Exit.panic [{ v:=.iface 117 (.agg #[.int .i64 p,.int .i64 er]),recovered:=false }]) { tmps:=tm,defers:=[{ target:=.fn (.func 47) #[.pointer (some ⟨gs,0,none⟩),.pointer (some ⟨gt,0,none⟩),.pointer (some ⟨ge,0,none⟩)],args:=#[] }] } w':=by
 subst hpp;obtain⟨AF,AE⟩:=zTC hpos i;refine leaves_cons (f:=47) (args:=#[.pointer (some ⟨gs,0,none⟩),.pointer (some ⟨gt,0,none⟩),.pointer (some ⟨ge,0,none⟩)]) (by simp) (by simp[go_sem]) ?_;refine(zLj w' gs gt ge l A c (YT (txM L) i) er XG AF AE her hbig hcap hC hs hp rfl he hne).mono ?_;rintro e u' AO ⟨rfl,rfl,g,w1,w2,AC,hg,hb,AB,AG,rfl⟩;have AN:=hx.size;have AI:=hp.lt;have AM:=he.lt
 have AJ:g≠gt:=by omega
 have AH:g≠ge:=by omega
 have AA:=AG.far (p:=⟨ge,0,none⟩) hne (.iface 149 (.pointer (some ⟨g,0,none⟩)));have AK:=(AB.blk (he.ext AC) (fun e=>hne e.symm)).put 0 (.iface 149 (.pointer (some ⟨g,0,none⟩)));have AL:=(AB.blk hb AJ).far (p:=⟨ge,0,none⟩) AH (.iface 149 (.pointer (some ⟨g,0,none⟩)));have AD:=(AB.ext (hx.trans AC) hgt).set (u:=.iface 149 (.pointer (some ⟨g,0,none⟩))) (i:=0) hge;generalize w2.setCell ⟨ge,0,none⟩ (.iface 149 (.pointer (some ⟨g,0,none⟩)))=W6 at *;have t0:W6.cell? ⟨gt,0,none⟩=some (.slice none 0 0):=AA.cell 0;have t1:W6.cell? ⟨gt,1,none⟩=some (.slice none 0 0):=AA.cell 1;have t2:W6.cell? ⟨gt,2,none⟩=some (.slice none 0 0):=AA.cell 2;have t3:W6.cell? ⟨gt,3,none⟩=some (.slice none 0 0):=AA.cell 3;have e6:W6.cell? ⟨ge,0,none⟩=some (.iface 149 (.pointer (some ⟨g,0,none⟩))):=AK.cell 0;refine⟨.tuple #[.agg XG,.iface 149 (.pointer (some ⟨g,0,none⟩))],by unfold XG; simp[results,Tryz.results22,go_sem,h4,h5,t0,t1,t2,t3,e6],?_⟩;rw[hr];exact⟨AD,g,rfl,by omega,AL⟩
theorem zOb (A:Option Addr)(l:Bs)(n c:Nat)(hn:n=l.length)(tA:Option Addr)(L:List xU)(m tc:Nat)(hm:m=L.length)(w:World)(hbig:l.length≤140737488355328)(hcap:l.length≤c)(hC:Cells w A (vE l))(ht:zA2 w tA L)(hz:tA=none→tc=0)(hlen:L.length≤9000)(h0:0<L.length)(hsm:∀x ∈ L,zEF x)(hnn:∀x ∈ L,zGU x)(hr:XJ L=true)(hT:zBU (tN (txM L)))(hrt:∀k ∈ (yZ (tN (txM L)) 0).kids,(yZ (tN (txM L)) k).kind=2∨(yZ (tN (txM L)) k).kind=3)(hpos:∀x ∈ L,-9223372036854775808≤x.pos∧x.pos≤9223372036854775807)(herr:∀i er,jM (tN (txM L))=.err i er→er≠0) :
  Calls Tryz.prog 22 #[.slice A n c,.agg #[.slice tA m tc]] w (zLH l L w (jM (tN (txM L)))):=by
 subst hn;subst hm;have HC:=yG hC;have HT:=yG ht;have Ai:=yG hlen;have AN:=yG h0;have BD:=yG hsm;have Br:=yG hnn;have HR:=yG hr;have Al:=yG hT;have Bj:=yG hbig;have Bc:=yG hcap;have HZ:=yG hz;have Bl:=yG hpos;have AW:=yG herr;have Cu:=yG hrt;obtain⟨W0,AP⟩:∃W0,Hid ((((w.alloc (.cells #[.slice A l.length c] 22)).alloc (.cells #[.slice tA L.length tc] 27)).alloc (.cells #[.slice none 0 0,.slice none 0 0,.slice none 0 0,.slice none 0 0] 32)).alloc (.cells #[.nilIface] 62)=W0):=⟨_,yG rfl⟩;have Bp:Hid (Ext w W0):=yG (by rw[←AP.out]; exact(((Ext.alloc _ _).trans (Ext.alloc _ _)).trans (Ext.alloc _ _)).trans (Ext.alloc _ _));have Bm:Hid (Blk W0 w.heap.size 22 #[.slice A l.length c]):=yG (by rw[←AP.out]; exact(((Blk.new _ _ _).alloc _).alloc _).alloc _)
 have BB:Hid (Blk W0 (w.heap.size+1) 27 #[.slice tA L.length tc]):=yG (by
  have:=((Blk.new (w.alloc (.cells #[.slice A l.length c] 22)) 27 #[.slice tA L.length tc]).alloc (.cells #[.slice none 0 0,.slice none 0 0,.slice none 0 0,.slice none 0 0] 32)).alloc (.cells #[.nilIface] 62)
  rw[←AP.out]
  simpa using this)
 have Bd:Hid (Blk W0 (w.heap.size+1+1) 32 XG):=yG (by
  have:=(Blk.new ((w.alloc (.cells #[.slice A l.length c] 22)).alloc (.cells #[.slice tA L.length tc] 27)) 32 #[.slice none 0 0,.slice none 0 0,.slice none 0 0,.slice none 0 0]).alloc (.cells #[.nilIface] 62)
  rw[←AP.out];unfold XG
  simpa using this)
 have BO:Hid (Blk W0 (w.heap.size+1+1+1) 62 #[.nilIface]):=yG (by
  have:=Blk.new (((w.alloc (.cells #[.slice A l.length c] 22)).alloc (.cells #[.slice tA L.length tc] 27)).alloc (.cells #[.slice none 0 0,.slice none 0 0,.slice none 0 0,.slice none 0 0] 32)) 62 #[.nilIface]
  rw[←AP.out]
  simpa using this)
 clear hC ht hlen h0 hsm hnn hr hT hbig hcap hz hpos herr hrt
 go_enter_defers Tryz.func22,Tryz.ntmps22
 go_upto_region 1 with fail
 rw[AP.out];obtain⟨g0,AI⟩:∃g0,Hid (w.heap.size=g0):=⟨_,yG rfl⟩;rw[AI.out] at Bm BB Bd BO ⊢;have Cv:W0.cell? ⟨g0+1,0,none⟩=some (.slice tA L.length tc):=BB.out.cell 0;clear AP
 go_wp2_with fail
 refine(zKw L tA L.length tc W0 rfl (HT.out.ext Bp.out) Ai.out BD.out true (yG HR.out)).mono ?_;rintro e w1 ⟨rfl,Ag⟩;have AR:=yG (Bp.out.trans Ag);have BH:=yG (Bm.out.ext Ag);have Bb:=yG (BB.out.ext Ag);have Aq:=yG (Bd.out.ext Ag);have Af:=yG (BO.out.ext Ag);clear Ag Cv Bm BB Bd BO
 go_upto_region 3 with fail
 have C6:Hid (w1.heap.size≤w1.heap.size):=yG (zX _);obtain⟨H,HH⟩:∃H,Hid (w1.heap.size=H):=⟨_,yG rfl⟩;have C5:Hid (g0+1+1+1<H):=yG (by rw[←HH.out]; exact Af.out.lt);have tl:=Bb.out.lt;have Bg:Hid (zA2 w1 tA L):=yG (HT.out.ext AR.out);have BL:w1.cell? ⟨g0+1,0,none⟩=some (.slice tA L.length tc):=Bb.out.cell 0;apply ZP (by kernel_rfl) (by kernel_rfl) (by kernel_rfl);apply sL BL tl (.agg #[.slice tA L.length tc]);apply xZ (zSP H L) (fun v w w' h hx=>zSP.ext h hx) rfl rfl rfl
 ·intro w' AD hH
  have hz:H≤w'.heap.size:=by rw[←HH.out]; exact AD.size
  have Ci:=Bg.out.ext AD;clear hH;simp[xA,go_sem];refine(zTE tA L L.length tc w' rfl AN.out (by have:=Ai.out; omega) (fun x hx=>by have:=(BD.out x hx).kids; omega) HZ.out Ci).mono ?_;rintro e w2 ⟨g,c',l',rfl,ho,hx⟩;exact⟨_,rfl,⟨g,c',l',rfl,ho.low hz⟩,hx⟩
 intro C2;(try simp only[Act.put,yD,yE,yF]);apply sQ (.pointer (some ⟨g0+1,0,none⟩));apply sL BL tl (.slice tA L.length tc);apply sQ (.int .i64 (L.length:Int));apply xZ (OfF H L.length) (fun v w w' h hx=>OfF.ext h hx) rfl rfl rfl
 ·intro w' AD hH
  have hz:H≤w'.heap.size:=by rw[←HH.out]; exact AD.size
  have Ch:=zUT L.length (by have:=Ai.out; omega) w';clear hH AD;simp[xA,go_sem,Ch];exact⟨⟨_,rfl,hz,Blk.new _ _ _⟩,Ext.alloc _ _⟩
 intro C3;(try simp only[Act.put,yD,yE,yF]);apply xZ (PgF H L) (fun v w w' h hx=>PgF.ext h hx) rfl rfl rfl
 ·intro w' AD hH;obtain⟨bo,rfl,Cm,CT⟩:=hH _ (List.mem_cons_self ..) ⟨_,rfl,by decide⟩;obtain⟨g,c',l',rfl,ho⟩:=hH _ (List.mem_cons_of_mem _ (List.mem_cons_self ..)) ⟨_,rfl,by decide⟩;clear hH;simp[xA,go_sem];exact⟨⟨g,c',bo,l',rfl,ho,CT,Cm⟩,Ext.refl _⟩
 intro Cx;(try simp only[Act.put,yD,yE,yF]);apply xZ (PbF H L) (fun v w w' h hx=>PbF.ext h hx) rfl rfl rfl
 ·intro w' AD hH
  have hz:H≤w'.heap.size:=by rw[←HH.out]; exact AD.size
  obtain⟨g,c',bo,l',rfl,hb⟩:=hH _ (List.mem_cons_self ..) ⟨_,rfl,by decide⟩;clear hH AD;unfold prg;simp[xA,go_sem];exact⟨⟨_,g,c',bo,l',rfl,hz,Blk.new _ _ _,hb.ext (Ext.alloc _ _)⟩,Ext.alloc _ _⟩
 intro C0;(try simp only[Act.put,yD,yE,yF]);apply xZ (MpF H) (fun v w w' h hx=>MpF.ext h hx) rfl rfl rfl
 ·intro w' AD hH
  have hz:H≤w'.heap.size:=by rw[←HH.out]; exact AD.size
  have CU:=@run_makeMap Tryz.prog;clear hH AD;simp[xA,go_sem,CU];exact⟨⟨_,rfl,hz,MF.new _⟩,Ext.alloc _ _⟩
 intro C8;(try simp only[Act.put,yD,yE,yF]);apply xZ (RdF H L) (fun v w w' h hx=>RdF.ext h hx) rfl rfl rfl
 ·intro w' AD hH;obtain⟨mt,rfl,Aj,hmf⟩:=hH _ (List.mem_cons_self ..) ⟨_,rfl,by decide⟩;obtain⟨q,g,c',bo,l',rfl,hq,hp,hb⟩:=hH _ (List.mem_cons_of_mem _ (List.mem_cons_self ..)) ⟨_,rfl,by decide⟩;clear hH;simp[xA,go_sem];exact⟨⟨q,mt,g,c',bo,l',rfl,hq,hp,hb,Aj,hmf⟩,Ext.refl _⟩
 intro C1;(try simp only[Act.put,yD,yE,yF]);apply xZ (RbF H L) (fun v w w' h hx=>RbF.ext h hx) rfl rfl rfl
 ·intro w' AD hH
  have hz:H≤w'.heap.size:=by rw[←HH.out]; exact AD.size
  obtain⟨q,mt,g,c',bo,l',rfl,hq,hp,hb,Aj,hmf⟩:=hH _ (List.mem_cons_self ..) ⟨_,rfl,by decide⟩;clear hH AD;unfold rdc;simp[xA,go_sem];exact⟨⟨_,q,mt,g,c',bo,l',rfl,hz,Blk.new _ _ _,hq,hp.ext (Ext.alloc _ _),hb.ext (Ext.alloc _ _),Aj,hmf.ext (Ext.alloc _ _)⟩,Ext.alloc _ _⟩
 intro Cw;(try simp only[Act.put,yD,yE,yF]);apply xZ (RbF H L) (fun v w w' h hx=>RbF.ext h hx) rfl rfl rfl
 ·intro w' AD hH;have hb:=hH _ (List.mem_cons_self ..) ⟨_,rfl,by decide⟩;clear hH;simp[xA,go_sem];exact⟨hb,Ext.refl _⟩
 intro v6;(try simp only[Act.put,yD,yE,yF]);apply xR;intro w2 BY hH;obtain⟨a,q,mt,g,c',bo,l',rfl,ha,CB,hq,CL,hb,Aj,hmf⟩:=hH _ (List.mem_cons_self ..);clear hH BL tl;have Ah:=yG BY;have Ak:Hid (H≤a∧H≤q∧H≤bo∧H≤mt):=yG ⟨ha,hq,hb.lo,Aj⟩;have BA:Hid (NH w2 (stH a q mt g c' bo H l') ⟨[],[],List.replicate L.length 0,[],[]⟩ zFz):=yG (zRx AN.out Br.out CB CL hb hmf (by rw[←HH.out]; exact BY.size));have BS:=yG hb.own;clear ha CB hq CL hb Aj hmf BY
 try simp only[Act.put,yD,yE,yF]
 have CG:Hid ((txM l').length=L.length∧l'.length=L.length):=yG ⟨by rw[JF]; exact BS.out.len,BS.out.len⟩;have B6:=yG BS.out.zSS
 have Bz:Hid (∀b,jB (stH a q mt g c' bo H l') zFz b→H≤b):=yG fun b hb=>by
  rcases hb with e | e | e | e | e | e | e
  ·have:=Ak.out.1; have e:b=a:=e; omega
  ·have:=Ak.out.2.1; have e:b=q:=e; omega
  ·have:=Ak.out.2.2.1; have e:b=bo:=e; omega
  ·have:=Ak.out.2.2.2; have e:b=mt:=e; omega
  ·cases e
  ·cases e
  ·cases e
 have Ad:Hid (∀(wr:World) (M':Nat→Prop),xC w2 (jB (stH a q mt g c' bo H l') zFz) wr M'→Ext w1 wr):=yG fun wr M' mv=>⟨mv.os.trans Ah.out.os,mv.tape.trans Ah.out.tape,mv.output.trans Ah.out.output,Nat.le_trans Ah.out.size mv.size,fun b hb=>(mv.jL b (yU hb Ah.out.size) fun hm=>by have:=Bz.out b hm; rw[←HH.out] at this; omega).trans (Ah.out.block b hb)⟩;obtain⟨S,HS⟩:∃S,Hid (stH a q mt g c' bo H l'=S):=⟨_,yG rfl⟩;have AB:Hid (S.a=a∧S.p=q∧S.bo=bo∧S.l=txM l'∧S.l.length=L.length∧S.co=L.length):=yG (by rw[←HS.out]; exact⟨rfl,rfl,rfl,rfl,CG.out.1,CG.out.2⟩);have CH:Hid (S.B=H):=yG (by rw[←HS.out]; rfl);rw[HS.out] at BA Bz Ad
 have A7:Hid (∀wr s R,NH wr S s R→wr.cell? ⟨a,0,none⟩=some (.pointer (some ⟨q,0,none⟩))):=yG fun wr s R h=>by have:=h.rds.r0; rwa [AB.out.1,AB.out.2.1] at this
 have CA:Hid (∀wr s R,NH wr S s R→wr.cell? ⟨q,2,none⟩=some (.slice R.Ap s.procs.length R.cP)):=yG fun wr s R h=>by have:=h.p2; rwa [AB.out.2.1] at this
 have B4:Hid (∀wr s R,NH wr S s R→wr.cell? ⟨q,3,none⟩=some (.slice (some ⟨bo,0,none⟩) L.length L.length)):=yG fun wr s R h=>by have:=h.p3; rwa [AB.out.2.1,AB.out.2.2.1,AB.out.2.2.2.2.1,AB.out.2.2.2.2.2] at this
 have r0:=A7.out _ _ _ BA.out;have p3:=B4.out _ _ _ BA.out;clear HS
 go_wp2_with fail
 clear r0 p3;have Cn:Hid (xC w2 (jB S zFz) w2 (jB S zFz)):=yG (xC.ext (Ext.refl _))
 go_loopw [35] (fun i' wr=>∃(k:Nat),k≤L.length∧i'=.int .i64 k∧Hid (NH wr S ⟨[],[],List.replicate k (-1)++List.replicate (L.length-k) 0,[],[]⟩ zFz)∧Hid (xC w2 (jB S zFz) wr (jB S zFz))) (fun i' _=>L.length-(intOf i').toNat)
 case atStart=>exact⟨0,zW _,rfl,BA,Cn⟩
 case round=>
  obtain⟨k,hk,rfl,Ae,BM⟩:=hrel;have CN:=Ai.out;obtain⟨wa,rfl⟩:∃wa:World,wa=wr:=⟨_,rfl⟩;have r0:=A7.out _ _ _ Ae.out;have p3:=B4.out _ _ _ Ae.out
  by_cases AL:k<L.length
  ·have d0:decide ((k:Int)<(L.length:Int))=true:=yS (by omega)
   have q1:(k:Int)<(L.length:Int):=by omega
   obtain⟨u0,co⟩:∃u0,wa.cell? ⟨bo,k,none⟩=some u0:=⟨_,by have:=Ae.out.zBP k (by rw[AB.out.2.2.2.2.1]; exact AL); rwa [AB.out.2.2.1] at this⟩
   have cz:wa.frozen? ⟨bo,k,none⟩=false:=by have:=Ae.out.of.frozen k; rwa [AB.out.2.2.1] at this
   have AY:Hid (NH (wa.setCell ⟨bo,k,none⟩ (.int .i64 (-1))) S ⟨[],[],List.replicate (k+1) (-1)++List.replicate (L.length-(k+1)) 0,[],[]⟩ zFz∧xC wa (jB S zFz) (wa.setCell ⟨bo,k,none⟩ (.int .i64 (-1))) (jB S zFz)):=yG (by
    have:=Ae.out.setOf k (-1)
    rw[AB.out.2.2.1] at this
    rw[show((⟨[],[],List.replicate k (-1)++List.replicate (L.length-k) 0,[],[]⟩:Nr).set k (-1))=⟨[],[],List.replicate (k+1) (-1)++List.replicate (L.length-(k+1)) 0,[],[]⟩ by
     unfold Nr.set
     congr 1
     rw[List.set_append_right _ _ (by simp),zD,Nat.sub_self,show L.length-k=(L.length-(k+1))+1 by omega,List.replicate_succ,yF,List.replicate_succ',List.append_assoc]
     rfl] at this
    exact this)
   go_wp2_with fail
   have CP:=yG AY.out.1;have CQ:=yG (BM.out.trans AY.out.2);clear AY co cz r0 p3;generalize wa.setCell ⟨bo,k,none⟩ (.int .i64 (-1))=Cz at *;go_roundw
   case rel=>exact⟨k+1,by omega,by go_num,CP,CQ⟩
   case measure=>simp[intOf]; omega
  ·obtain rfl:k=L.length:=by omega
   have d0:decide ((L.length:Int)<(L.length:Int))=false:=by simp
   have d1:decide (L.length<L.length)=false:=by simp
   have CW:Hid (NH wa S ⟨[],[],List.replicate L.length (-1),[],[]⟩ zFz):=yG (by have:=Ae.out; rwa [Nat.sub_self,List.replicate_zero,List.append_nil] at this);have Bu:=yG (Ad.out _ _ BM.out);clear r0 p3;have CZ:wa.cell? ⟨g0+1,0,none⟩=some (.slice tA L.length tc):=(Bb.out.ext Bu.out).cell 0;obtain⟨b0,f0,Cp,C4,B1⟩:=(Bg.out.ext Bu.out).at_ 0 AN.out;subst Cp
   have q1:(0:Int)<(L.length:Int):=by have:=AN.out; omega
   have e4:wa.cell? ⟨b0,f0+4,none⟩=some (.slice L[0].kA L[0].kids.length L[0].kc):=by have:=B1 4 (by decide); rwa [Nat.zero_mul,Nat.add_zero] at this
   clear B1
   go_wp2_with fail
   obtain⟨K,HK⟩:∃K,Hid ((yZ (tN (txM L)) 0).kids=K):=⟨_,yG rfl⟩;have CC:Hid (K=L[0].kids.map Int.toNat):=yG (by rw[←HK.out,zBw (by rw[JF]; exact AN.out)]; simp only[txM,zA]; rfl);have CK:Hid (L[0].kids.length=K.length):=yG (by rw[CC.out,yQ]);have Cl:Hid (K.length≤9000):=yG (by rw[←CK.out]; exact(BD.out L[0] (yO _)).kids)
   have Cq:Hid (∀wr,Ext w1 wr→Cells wr L[0].kA (ints K)):=yG fun wr hx=>by
    have:=((Bg.out.ext hx).ok (L[0]'AN.out) (yO AN.out)).kids
    have e:TT.jP (L[0]'AN.out).kids=ints K:=(zHe (Br.out _ (yO AN.out)).kids).trans (congrArg ints CC.out.symm);rw[←e];exact this
   have AS:Hid (tN S.l=tN (txM L)):=yG (by rw[AB.out.2.2.2.1]; exact B6.out.1)
   have A0:Hid (∀i,YT S.l i=YT (txM L) i):=yG fun i=>by rw[AB.out.2.2.2.1]; exact B6.out.2 i
   have CI:Hid (∀i k,k ∈ (yZ (tN S.l) i).kids→k<S.l.length):=yG fun i k hk=>by
    rw[AS.out] at hk
    have:=(Al.out.up i k hk).2
    rw[JO,JF] at this;rw[AB.out.2.2.2.2.1];exact this
   have BK:Hid (S.a=a):=yG AB.out.1;have AP:Hid (XU (tN (txM L)) K ⟨[],[],List.replicate L.length (-1),[],[]⟩=XU (tN (txM L)) (K.drop 0) ⟨[],[],List.replicate L.length (-1),[],[]⟩):=yG rfl;rw[CK.out];generalize L[0].kA=kA at *;generalize L[0].kc=kc at *;clear e4 CZ q1 CN
   go_loopw [55] (fun i' wr=>∃(k:Nat) (s:Nr) (R:DyH),k≤K.length∧i'=.int .i64 k∧Hid (NH wr S s R)∧Hid (xC w2 (jB S zFz) wr (jB S R))∧Hid (XU (tN (txM L)) K ⟨[],[],List.replicate L.length (-1),[],[]⟩=XU (tN (txM L)) (K.drop k) s)) (fun i' _=>K.length-(intOf i').toNat)
   case atStart=>exact⟨0,_,_,zW _,rfl,CW,BM,AP⟩
   case round=>
    obtain⟨k,s,R,hk,rfl,AK,Bk,Bi⟩:=hrel;obtain⟨wb,rfl⟩:∃wb:World,wb=wr:=⟨_,rfl⟩;have DA:=Cl.out
    by_cases AL:k<K.length
    ·have d0:decide ((k:Int)<(K.length:Int))=true:=yS (by omega)
     have q1:(k:Int)<(K.length:Int):=by omega
     obtain⟨b,Ca,Cs,hb,B7⟩:=(Cq.out wb (Ad.out _ _ Bk.out)).at_ (by rw[vK]; omega);subst Cs
     have e0:wb.cell? ⟨b,Ca+k,none⟩=some (.int .i64 ((K[k]:Nat):Int)):=by rw[B7 k (by rw[vK]; exact AL)]; simp[ints,AL]
     have BQ:Hid (K[k] ∈ K):=yG (yO AL);have Bv:Hid (XU (tN (txM L)) K ⟨[],[],List.replicate L.length (-1),[],[]⟩=((if (yZ (tN S.l) K[k]).kind=2 then VU (tN S.l) K[k] else zCH (tN S.l) K[k]) s).bind (XU (tN (txM L)) (K.drop (k+1)))):=yG (by rw[Bi.out,List.drop_eq_getElem_cons AL,AS.out]; rfl);clear B7;generalize K[k]=c at *;have BE:Hid (c<S.l.length):=yG (CI.out 0 c (by rw[AS.out,HK.out]; exact BQ.out));have Bw:=yG (vW wb S.a S.p S.A S.ct S.l c AK.out.rds BE.out);rw[BK.out] at Bw
     go_wp2_with fail
     refine Bw.out.mono ?_;rintro e w5 ⟨rfl,Bf⟩;have CE:=yG (AK.out.ext Bf);have A3:=yG (Bk.out.trans (xC.ext (M:=jB S R) Bf));have f0:=zDU S.l c w5;clear Bf e0
     by_cases A2:(yZ (tN S.l) c).kind=2
     ·have Aw:Hid (XU (tN (txM L)) K ⟨[],[],List.replicate L.length (-1),[],[]⟩=(VU (tN S.l) c s).bind (XU (tN (txM L)) (K.drop (k+1)))):=yG (by rw[Bv.out,if_pos A2]);have Au:=yG (zOL w5 S s R c CE.out BE.out (CI.out c));rw[BK.out] at Au;rw[A2] at f0
      go_wp2_with fail
      refine Au.out.mono ?_;intro e w6 AA
      cases hq:VU (tN S.l) c s with
      | ok s6=>
       rw[hq] at AA;obtain⟨rfl,R6,AV,AG⟩:=AA;have BX:=yG AV;have Be:=yG (A3.out.trans AG);have BP:Hid (XU (tN (txM L)) K ⟨[],[],List.replicate L.length (-1),[],[]⟩=XU (tN (txM L)) (K.drop (k+1)) s6):=yG (by rw[Aw.out,hq]; rfl);clear AV AG hq f0
       go_wp2_with fail
       go_roundw
       case rel=>exact⟨k+1,s6,R6,by omega,by go_num,BX,Be,BP⟩
       case measure=>simp[intOf]; omega
      | err i6 er=>
       rw[hq] at AA;obtain⟨rfl,By,M',AG⟩:=AA
       have AU:jM (tN (txM L))=.err i6 er:=by
        unfold jM;rw[HK.out,JO,JF,Aw.out,hq]
        rfl
       have AE:=Ad.out _ _ (A3.out.trans AG);exact zCP i6 er _ AU (AW.out _ _ AU) (AR.out.trans AE) (by have:=AI.out; omega) (by have:=AI.out; omega) (by omega) Bj.out Bc.out (HC.out.ext (AR.out.trans AE)) Bl.out (BH.out.ext AE) (Aq.out.ext AE) (Af.out.ext AE) _ (A0.out i6) _ rfl rfl
     ·have Aw:Hid (XU (tN (txM L)) K ⟨[],[],List.replicate L.length (-1),[],[]⟩=(zCH (tN S.l) c s).bind (XU (tN (txM L)) (K.drop (k+1)))):=yG (by rw[Bv.out,if_neg A2]);have Au:=yG (zQN w5 S s R c CE.out BE.out);rw[BK.out] at Au
      have q3:(((yZ (tN S.l) c).kind:Int)==2)=false:=by rw[yI]; omega
      clear A2
      go_wp2_with fail
      refine Au.out.mono ?_;intro e w6 AA
      cases hq:zCH (tN S.l) c s with
      | ok s6=>
       rw[hq] at AA;obtain⟨rfl,R6,AV,AG⟩:=AA;have BX:=yG AV;have Be:=yG (A3.out.trans AG);have BP:Hid (XU (tN (txM L)) K ⟨[],[],List.replicate L.length (-1),[],[]⟩=XU (tN (txM L)) (K.drop (k+1)) s6):=yG (by rw[Aw.out,hq]; rfl);clear AV AG hq f0 q3
       go_wp2_with fail
       go_roundw
       case rel=>exact⟨k+1,s6,R6,by omega,by go_num,BX,Be,BP⟩
       case measure=>simp[intOf]; omega
      | err i6 er=>
       rw[hq] at AA;obtain⟨rfl,By,M',AG⟩:=AA
       have AU:jM (tN (txM L))=.err i6 er:=by
        unfold jM;rw[HK.out,JO,JF,Aw.out,hq]
        rfl
       have AE:=Ad.out _ _ (A3.out.trans AG);exact zCP i6 er _ AU (AW.out _ _ AU) (AR.out.trans AE) (by have:=AI.out; omega) (by have:=AI.out; omega) (by omega) Bj.out Bc.out (HC.out.ext (AR.out.trans AE)) Bl.out (BH.out.ext AE) (Aq.out.ext AE) (Af.out.ext AE) _ (A0.out i6) _ rfl rfl
    ·obtain rfl:k=K.length:=by omega
     have d0:decide ((K.length:Int)<(K.length:Int))=false:=by simp
     have d1:decide (K.length<K.length)=false:=by simp
     have BF:Hid (jM (tN (txM L))=zAc (tN (txM L)) s.procs.length 0 s):=yG (by
      unfold jM;rw[HK.out,JO,JF,Bi.out,List.drop_length]
      rfl)
     have BC:Hid (zUm (tN (txM L)) K s):=yG (by
      have hh:XU (tN (txM L)) K ⟨[],[],List.replicate L.length (-1),[],[]⟩=.ok s:=by rw[Bi.out,List.drop_length]; rfl
      exact zPt K _ _ (fun k hk=>hk) ⟨rfl,rfl,fun p hp=>(by cases hp)⟩ hh)
     have A6:=yG (Ad.out _ _ Bk.out)
     by_cases A1:s.procs.length=0
     ·have r0:=A7.out _ _ _ AK.out;have p2:=CA.out _ _ _ AK.out;have AZ:Hid (jM (tN (txM L))=.ok s):=yG (by rw[BF.out,A1]; rfl);rw[A1] at p2;clear d0 d1
      go_wp2_with fail
      go_loopw [79] (fun i' wr=>i'=.int .i64 0∧Hid (wr=wb)) (fun _ _=>0)
      case atStart=>exact⟨rfl,yG rfl⟩
      case round=>
       obtain⟨rfl,Cr⟩:=hrel;obtain⟨wd,rfl⟩:∃wd:World,wd=wr:=⟨_,rfl⟩;obtain rfl:=Cr.out
       go_upto_region 22 with fail
       clear p2;have BG:=yG (AR.out.trans A6.out);have Ay:=yG (Aq.out.ext A6.out);have Ao:=yG (Af.out.ext A6.out);obtain⟨pA,AH⟩:∃pA:Array Value,Hid (pA=#[.slice S.A S.l.length S.ct,.slice R.At s.xH.length R.cT,.slice R.Ap s.procs.length R.cP,.slice (some ⟨S.bo,0,none⟩) S.l.length S.co]∧pA.size=4∧pA.toList.all (·.oneCell')=true∧Blk wd q 32 pA):=⟨_,yG ⟨rfl,rfl,rfl,(by have:=AK.out.pg; rw[AB.out.2.1] at this; exact this)⟩⟩;obtain⟨x0,x1,x2,x3,rfl⟩:∃x0 x1 x2 x3,pA=#[x0,x1,x2,x3]:=zPu AH.out.2.1;have y0:wd.cell? ⟨q,0,none⟩=some x0:=AH.out.2.2.2.cell 0;have y1:wd.cell? ⟨q,1,none⟩=some x1:=AH.out.2.2.2.cell 1;have y2:wd.cell? ⟨q,2,none⟩=some x2:=AH.out.2.2.2.cell 2;have y3:wd.cell? ⟨q,3,none⟩=some x3:=AH.out.2.2.2.cell 3;have Cb:Hid (w.heap.size=g0):=AI
       go_wp2_with (refine xQ rfl 32 (.tmp 4) (.tmp 99) rfl (g0+1+1) #[x0,x1,x2,x3] rfl rfl 32 _ Ay.out (by kernel_rfl) rfl (by simpa using AH.out.2.2.1) ?_)
       intro w8 AO Am;have AM:=AO.blk Ao.out (by simp);have BW:=yG (AO.ext BG.out (by have:=AI.out; omega));have BT:=yG Am;have Bh:=yG AM;have AX:=yG (zK7 (ge:=g0+1+1+1) (v:=.nilIface) AO);have ce:w8.cell? ⟨g0+1+1+1,0,none⟩=some .nilIface:=AM.cell 0;have ze:=AM.frozen 0;clear AO Am AM y0 y1 y2 y3
       go_wp2_with fail
       have AQ:=BT.out.far (p:=⟨g0+1+1+1,0,none⟩) (by simp) .nilIface;have BV:=Bh.out.put 0 .nilIface;have BU:=BW.out.set (u:=.nilIface) (i:=0) (g:=g0+1+1+1) (by have:=AI.out; omega);generalize w8.setCell ⟨g0+1+1+1,0,none⟩ .nilIface=W9 at *;have t0:W9.cell? ⟨g0+1+1,0,none⟩=some x0:=AQ.cell 0;have t1:W9.cell? ⟨g0+1+1,1,none⟩=some x1:=AQ.cell 1;have t2:W9.cell? ⟨g0+1+1,2,none⟩=some x2:=AQ.cell 2;have t3:W9.cell? ⟨g0+1+1,3,none⟩=some x3:=AQ.cell 3;have e9:W9.cell? ⟨g0+1+1+1,0,none⟩=some .nilIface:=BV.cell 0;refine leaves_cons (f:=47) (args:=#[.pointer (some ⟨g0,0,none⟩),.pointer (some ⟨g0+1+1,0,none⟩),.pointer (some ⟨g0+1+1+1,0,none⟩)]) (by simp) (by simp[go_sem]) ?_;refine(zG2 W9 _ rfl).mono ?_;rintro e u' CS ⟨rfl,rfl,rfl⟩;refine⟨.tuple #[.agg #[x0,x1,x2,x3],.nilIface],by simp[results,Tryz.results22,go_sem,t0,t1,t2,t3,e9],?_⟩;rw[AZ.out];exact⟨BU,_,rfl,⟨⟨_,_,_,_,_,_,_,_,_,_,_,_,by rw[AH.out.1,AB.out.2.2.2.2.1],(AK.out.prg Ay.out Ao.out (List.eq_nil_of_length_eq_zero A1)).xE AX.out,AS.out,A0.out⟩⟩⟩
     ·obtain⟨bp,Co,Cy,Ce,A8⟩:=BI.start AK.out (by omega) BC.out.blocks fun p hp=>⟨(BC.out.procs p hp).1,(BC.out.procs p hp).2.1⟩;obtain⟨nP,A4⟩:∃nP,Hid (s.procs.length=nP):=⟨_,yG rfl⟩;rw[A4.out] at A8 BF;obtain⟨T,A9⟩:∃T,Hid (stN S R bp nP=T):=⟨_,yG rfl⟩;rw[A9.out] at A8;have AC:Hid (T.a=a∧T.p=q∧T.bp=bp∧T.l=S.l∧T.nP=nP∧T.B=S.B):=yG (by rw[←A9.out]; exact⟨AB.out.1,AB.out.2.1,rfl,rfl,rfl,rfl⟩)
      have Cc:Hid (zEb T):=yG ⟨by rw[AC.out.2.2.2.1,AS.out]; exact Al.out,fun i=>(by
       rw[AC.out.2.2.2.1,AS.out]
       by_cases hi:i<L.length
       ·rw[zBw (by rw[JF]; exact hi)]
        have:=(BD.out _ (yO hi)).kids
        simp[txM,zK8];omega
       ·unfold yZ;rw[yH,zM (by rw[JO,JF]; omega)]
        exact zW _),by rw[AC.out.2.2.2.1,AB.out.2.2.2.2.1]; have:=Ai.out; omega⟩
      have Ct:=yG A8;have CR:Hid ((hp s.procs).length=nP):=yG (by rw[zLV]; exact A4.out)
      have Cj:Hid (∀x ∈ hp s.procs,∃na nb,(yZ (tN (txM L)) x.1.root).kids=[na,nb]∧x.1.root<L.length):=yG fun x hx=>by
       obtain⟨p,CO,rfl⟩:=List.mem_map.1 hx;obtain⟨_,_,h3,h4⟩:=BC.out.procs p CO
       have Bx:p.root ∈ (yZ (tN (txM L)) 0).kids:=by rw[HK.out]; exact h3
       have h5:=(Al.out.up 0 p.root Bx).2;have h6:=(Cu.out p.root Bx).resolve_left h4;have h7:=Al.out.form p.root h5 (by omega) (by omega);unfold zCs at h7;rw[h6] at h7;obtain⟨na,nb,h8,_⟩:=h7;rw[JO,JF] at h5;exact⟨na,nb,h8,h5⟩
      have BJ:Hid (nP≤64):=yG (by rw[←A4.out]; exact AK.out.zP7);have Ck:Hid (jM (tN (txM L))=zAc (tN (txM L)) (nP-0) 0 s):=yG BF.out;have r0:=A7.out _ _ _ AK.out;have p2:=CA.out _ _ _ AK.out;rw[A4.out] at p2;have CX:Hid (H≤bp):=yG (by have:=CH.out; omega);have CJ:Hid (T.bo=bo∧T.B=H):=yG ⟨by rw[←A9.out]; exact AB.out.2.2.1,by rw[←A9.out]; exact CH.out⟩;clear A8 Ce A1
      go_wp2_with fail
      clear r0 p2
      go_loopw [79] (fun i' wr=>∃(k:Nat) (s:Nr) (pc:Array Value) (Ab:Option Addr) (cb:Nat) (ps:List Pw),k≤nP∧i'=.int .i64 k∧Hid (ps.length=nP)∧Hid (BI wr T s k pc Ab cb ps)∧Hid (Ext w1 wr)∧Hid (∀x ∈ ps,∃na nb,(yZ (tN (txM L)) x.1.root).kids=[na,nb]∧x.1.root<L.length)∧Hid (jM (tN (txM L))=zAc (tN (txM L)) (nP-k) k s)) (fun i' _=>nP-(intOf i').toNat)
      case atStart=>exact⟨0,s,Co,none,0,hp s.procs,zW _,rfl,CR,Ct,A6,Cj,Ck⟩
      case round=>
       obtain⟨k,s,pc,Ab,cb,ps,hk,rfl,AJ,AF,Ax,B9,B5⟩:=hrel;obtain⟨wc,rfl⟩:∃wc:World,wc=wr:=⟨_,rfl⟩;have C7:=BJ.out
       obtain⟨v3,BN⟩:∃v3,Hid (Blk wc T.a 115 #[.pointer (some ⟨T.p,0,none⟩),.map (some T.mt),.slice T.Ac s.xH.length T.cc,v3,.slice Ab 0 cb]):=by obtain⟨v3,h⟩:=AF.out.rd; exact⟨v3,yG h⟩
       have r0:wc.cell? ⟨a,0,none⟩=some (.pointer (some ⟨q,0,none⟩)):=by have:=BN.out.cell 0; rw[AC.out.1,AC.out.2.1] at this; exact this
       have p2:wc.cell? ⟨q,2,none⟩=some (.slice (some ⟨bp,0,none⟩) nP T.cP):=by have:=AF.out.st.prog.1.cell 2; rw[AC.out.2.1,AC.out.2.2.1,AC.out.2.2.2.2.1] at this; exact this
       by_cases AL:k<nP
       ·have d0:decide ((k:Int)<(nP:Int))=true:=yS (by omega)
        have q1:(k:Int)<(nP:Int):=by omega
        have AT:k<ps.length:=by rw[AJ.out]; exact AL
        obtain⟨na,nb,A5,B2⟩:=B9.out ps[k] (yO AT);have c3:wc.cell? ⟨T.a,3,none⟩=some v3:=BN.out.cell 3;have z3:=BN.out.frozen 3;have BZ:=yG (AF.out.nb AT);have As:=yG (AF.out.zOp (.pointer (some ⟨T.bp,k*5,none⟩)));have Aa:=yG (zQk L.length T Cc.out (by rw[AC.out.2.2.2.1,AB.out.2.2.2.2.1]; exact zX _) (by have:=Ai.out; omega) wc _ { s with vars:=[] } (dyJ k pc Ab cb) ps[k].1.root na nb (yG rfl) BZ.out v3 c3 z3 (AF.out.par AT).2 (AF.out.par AT).1 (by rw[AC.out.2.2.2.1,AB.out.2.2.2.2.1]; exact B2) (by show s.blocks.length≤5; rw[AF.out.bz]; exact zW _) (by rw[AC.out.2.2.2.1,AS.out]; exact A5));have Cg:=yG A5;have Az:Hid (tN T.l=tN (txM L)∧(tN (txM L)).length=L.length):=yG ⟨by rw[AC.out.2.2.2.1,AS.out],by rw[JO,JF]⟩;have Ar:Hid (jM (tN (txM L))=(zIa (tN (txM L)) k s).bind (zAc (tN (txM L)) (nP-(k+1)) (k+1))):=yG (by rw[B5.out,zOi AL (by rw[←AF.out.psl,yQ,AJ.out])]);have Cf:Hid (s.procs[k]?=some ps[k].1):=yG (by rw[←AF.out.psl,zN,yJ AT]; rfl);have CF:=yG (zTr Cf.out A5);obtain⟨PQ,Bq⟩:∃PQ,Hid (PQ=zCe (QB (yZ (tN T.l) na).kids.length) (wc.setCell ⟨T.a,3,none⟩ (.pointer (some ⟨T.bp,k*5,none⟩))) T (dyJ k pc Ab cb) (ZH (zFi (tN T.l) L.length na nb) { s with vars:=[] }) vU):=⟨_,yG rfl⟩
        have hB:Calls Tryz.prog 51 #[.pointer (some ⟨T.a,0,none⟩),.pointer (some ⟨T.bp,k*5,none⟩)] wc PQ:=by rw[Bq.out]; exact Aa.out
        rw[AC.out.1,AC.out.2.2.1] at hB;have CM:=yG hB
        have B0:Hid (∀b,MB T Ab b→w1.heap.size≤b):=yG fun b hb=>by
         rw[HH.out]
         rcases hb with e | e | e | e
         ·rw[e,AC.out.1]; exact Ak.out.1
         ·rw[e,CJ.out.1]; exact Ak.out.2.2.1
         ·rw[e,AC.out.2.2.1]; exact CX.out
         ·have:=(jD AF.out.blocks e).1
          rw[CJ.out.2] at this;exact this
        have C9:=yG AT;clear A5 B2 c3 z3 hB
        go_wp2_with fail
        refine CM.out.mono ?_;intro e w6 AA;rw[Bq.out] at AA
        cases hq:ZH (zFi (tN T.l) L.length na nb) { s with vars:=[] } with
        | ok s6=>
         rw[hq] at AA;obtain⟨rfl,R6,Bt,AV,AG⟩:=AA
         have An:ZH (zFi (tN (txM L)) (tN (txM L)).length na nb) { s with vars:=[] } = .ok s6:=by rw[←hq,Az.out.1,Az.out.2]
         obtain⟨CD,Bn,_,B8⟩:=zPS Al.out An;have CY:=yG (zK2 Ax.out (As.out.trans AG) B0.out);have Ba:=yG (AF.out.step AT Bt AV AG (B8.trans AF.out.bz) Bn CD);have BR:Hid ((zAG ps k (yZ (tN T.l) na).kids.length s6.vars R6.Av R6.cv).length=nP):=yG (by rw[←AJ.out]; simp[zAG])
         have Bo:Hid (∀x ∈ zAG ps k (yZ (tN T.l) na).kids.length s6.vars R6.Av R6.cv,∃na nb,(yZ (tN (txM L)) x.1.root).kids=[na,nb]∧x.1.root<L.length):=yG fun x hx=>by
          obtain⟨y,hy,e⟩:=zOF hx;rw[←e];exact B9.out y hy
         have Cd:Hid (jM (tN (txM L))=zAc (tN (txM L)) (nP-(k+1)) (k+1) { s6 with procs:=(zAG ps k (yZ (tN T.l) na).kids.length s6.vars R6.Av R6.cv).map Prod.fst }):=yG (by
          rw[Ar.out,CF.out,An,zQ8 AT,AF.out.psl,Az.out.1]
          show zAc _ _ _ { s6 with procs:=s6.procs.set k _ } = _
          rw[Bn])
         clear Bt AV AG hq An CD Bn B8;generalize zAG ps k (yZ (tN T.l) na).kids.length s6.vars R6.Av R6.cv=CV at *
         go_wp2_with fail
         go_roundw
         case rel=>exact⟨k+1,_,R6.pc,R6.Ab,R6.cb,CV,by omega,by go_num,BR,Ba,CY,Bo,Cd⟩
         case measure=>simp[intOf]; omega
        | err i6 er=>
         rw[hq] at AA;obtain⟨rfl,By,M',AG⟩:=AA
         have AU:jM (tN (txM L))=.err i6 er:=by
          have An:ZH (zFi (tN (txM L)) (tN (txM L)).length na nb) { s with vars:=[] } = .err i6 er:=by rw[←hq,Az.out.1,Az.out.2]
          rw[Ar.out,CF.out,An]
          rfl
         have AE:=zK2 Ax.out (As.out.trans AG) B0.out;exact zCP i6 er _ AU (AW.out _ _ AU) (AR.out.trans AE) (by have:=AI.out; omega) (by have:=AI.out; omega) (by omega) Bj.out Bc.out (HC.out.ext (AR.out.trans AE)) Bl.out (BH.out.ext AE) (Aq.out.ext AE) (Af.out.ext AE) _ (by rw[AC.out.2.2.2.1]; exact A0.out i6) _ rfl rfl
       ·obtain rfl:k=nP:=by omega
        have d0:decide ((k:Int)<(k:Int))=false:=by simp
        have d1:decide (k<k)=false:=by simp
        have AZ:Hid (jM (tN (txM L))=.ok s):=yG (by rw[B5.out,zOG])
        go_upto_region 22 with fail
        clear d0 d1 p2;have BG:=yG (AR.out.trans Ax.out);have Ay:=yG (Aq.out.ext Ax.out);have Ao:=yG (Af.out.ext Ax.out);obtain⟨pA,AH⟩:∃pA:Array Value,Hid (pA=#[.slice T.A T.l.length T.ct,.slice T.At s.xH.length T.cT,.slice (some ⟨T.bp,0,none⟩) T.nP T.cP,.slice (some ⟨T.bo,0,none⟩) T.l.length T.co]∧pA.size=4∧pA.toList.all (·.oneCell')=true∧Blk wc q 32 pA):=⟨_,yG ⟨rfl,rfl,rfl,(by have:=AF.out.st.prog.1; rw[AC.out.2.1] at this; exact this)⟩⟩;obtain⟨x0,x1,x2,x3,rfl⟩:∃x0 x1 x2 x3,pA=#[x0,x1,x2,x3]:=zPu AH.out.2.1;have y0:wc.cell? ⟨q,0,none⟩=some x0:=AH.out.2.2.2.cell 0;have y1:wc.cell? ⟨q,1,none⟩=some x1:=AH.out.2.2.2.cell 1;have y2:wc.cell? ⟨q,2,none⟩=some x2:=AH.out.2.2.2.cell 2;have y3:wc.cell? ⟨q,3,none⟩=some x3:=AH.out.2.2.2.cell 3;have Cb:Hid (w.heap.size=g0):=AI
        go_wp2_with (refine xQ rfl 32 (.tmp 4) (.tmp 99) rfl (g0+1+1) #[x0,x1,x2,x3] rfl rfl 32 _ Ay.out (by kernel_rfl) rfl (by simpa using AH.out.2.2.1) ?_)
        intro w8 AO Am;have AM:=AO.blk Ao.out (by simp);have BW:=yG (AO.ext BG.out (by have:=AI.out; omega));have BT:=yG Am;have Bh:=yG AM;have AX:=yG (zK7 (ge:=g0+1+1+1) (v:=.nilIface) AO);have ce:w8.cell? ⟨g0+1+1+1,0,none⟩=some .nilIface:=AM.cell 0;have ze:=AM.frozen 0;clear AO Am AM y0 y1 y2 y3
        go_wp2_with fail
        have AQ:=BT.out.far (p:=⟨g0+1+1+1,0,none⟩) (by simp) .nilIface;have BV:=Bh.out.put 0 .nilIface;have BU:=BW.out.set (u:=.nilIface) (i:=0) (g:=g0+1+1+1) (by have:=AI.out; omega);generalize w8.setCell ⟨g0+1+1+1,0,none⟩ .nilIface=W9 at *;have t0:W9.cell? ⟨g0+1+1,0,none⟩=some x0:=AQ.cell 0;have t1:W9.cell? ⟨g0+1+1,1,none⟩=some x1:=AQ.cell 1;have t2:W9.cell? ⟨g0+1+1,2,none⟩=some x2:=AQ.cell 2;have t3:W9.cell? ⟨g0+1+1,3,none⟩=some x3:=AQ.cell 3;have e9:W9.cell? ⟨g0+1+1+1,0,none⟩=some .nilIface:=BV.cell 0;refine leaves_cons (f:=47) (args:=#[.pointer (some ⟨g0,0,none⟩),.pointer (some ⟨g0+1+1,0,none⟩),.pointer (some ⟨g0+1+1+1,0,none⟩)]) (by simp) (by simp[go_sem]) ?_;refine(zG2 W9 _ rfl).mono ?_;rintro e u' CS ⟨rfl,rfl,rfl⟩;refine⟨.tuple #[.agg #[x0,x1,x2,x3],.nilIface],by simp[results,Tryz.results22,go_sem,t0,t1,t2,t3,e9],?_⟩;rw[AZ.out];exact⟨BU,_,rfl,⟨⟨_,_,_,_,_,_,_,_,_,_,_,_,by rw[AH.out.1,AC.out.2.2.2.1,AC.out.2.2.2.2.1,AB.out.2.2.2.2.1,←AF.out.psl,yQ,AJ.out],(AF.out.prg Ay.out Ao.out (by rw[AJ.out]; exact zX _)).xE AX.out,(by rw[AC.out.2.2.2.1]; exact AS.out),(by rw[AC.out.2.2.2.1]; exact A0.out)⟩⟩⟩
theorem zOo (A:Option Addr)(l:Bs)(n c:Nat)(hn:n=l.length)(tA:Option Addr)(L:List xU)(m tc:Nat)(hm:m=L.length)(w:World)(ht:zA2 w tA L)(hlen:L.length≤9000)(hsm:∀x ∈ L,zEF x)(hr:XJ L=false) :
  Calls Tryz.prog 22 #[.slice A n c,.agg #[.slice tA m tc]] w fun e w'=>e=.returned (.tuple #[.agg XG,.iface 75 (.int .i64 2)])∧Ext w w':=by
 subst hn;subst hm;have HT:=yG ht;have AQ:=yG hlen;have AS:=yG hsm;have HR:=yG hr;obtain⟨W0,AA⟩:∃W0,Hid ((((w.alloc (.cells #[.slice A l.length c] 22)).alloc (.cells #[.slice tA L.length tc] 27)).alloc (.cells #[.slice none 0 0,.slice none 0 0,.slice none 0 0,.slice none 0 0] 32)).alloc (.cells #[.nilIface] 62)=W0):=⟨_,yG rfl⟩;have AK:Hid (Ext w W0):=yG (by rw[←AA.out]; exact(((Ext.alloc _ _).trans (Ext.alloc _ _)).trans (Ext.alloc _ _)).trans (Ext.alloc _ _));have AH:Hid (Blk W0 w.heap.size 22 #[.slice A l.length c]):=yG (by rw[←AA.out]; exact(((Blk.new _ _ _).alloc _).alloc _).alloc _)
 have AD:Hid (Blk W0 (w.heap.size+1) 27 #[.slice tA L.length tc]):=yG (by
  have:=((Blk.new (w.alloc (.cells #[.slice A l.length c] 22)) 27 #[.slice tA L.length tc]).alloc (.cells #[.slice none 0 0,.slice none 0 0,.slice none 0 0,.slice none 0 0] 32)).alloc (.cells #[.nilIface] 62)
  rw[←AA.out]
  simpa using this)
 have AF:Hid (Blk W0 (w.heap.size+1+1) 32 XG):=yG (by
  have:=(Blk.new ((w.alloc (.cells #[.slice A l.length c] 22)).alloc (.cells #[.slice tA L.length tc] 27)) 32 #[.slice none 0 0,.slice none 0 0,.slice none 0 0,.slice none 0 0]).alloc (.cells #[.nilIface] 62)
  rw[←AA.out];unfold XG
  simpa using this)
 have AI:Hid (Blk W0 (w.heap.size+1+1+1) 62 #[.nilIface]):=yG (by
  have:=Blk.new (((w.alloc (.cells #[.slice A l.length c] 22)).alloc (.cells #[.slice tA L.length tc] 27)).alloc (.cells #[.slice none 0 0,.slice none 0 0,.slice none 0 0,.slice none 0 0] 32)) 62 #[.nilIface]
  rw[←AA.out]
  simpa using this)
 clear ht hlen hsm hr
 go_enter_defers Tryz.func22,Tryz.ntmps22
 go_upto_region 1 with fail
 rw[AA.out];obtain⟨g0,AJ⟩:∃g0,Hid (w.heap.size=g0):=⟨_,yG rfl⟩;rw[AJ.out] at AH AD AF AI ⊢;have AW:W0.cell? ⟨g0+1,0,none⟩=some (.slice tA L.length tc):=AD.out.cell 0;clear AA
 go_wp2_with fail
 refine(zKw L tA L.length tc W0 rfl (HT.out.ext AK.out) AQ.out AS.out false (yG HR.out)).mono ?_;rintro e w1 ⟨rfl,AB⟩;have AN:=yG (AK.out.trans AB);have AX:=yG (AH.out.ext AB);have AY:=yG (AD.out.ext AB);have AM:=yG (AF.out.ext AB);have AV:=yG (AI.out.ext AB);clear AB AW AH AD AF AI
 go_wp2_with (refine xQ rfl 32 (.tmp 4) (.tmp 14) rfl (g0+1+1) XG rfl rfl 32 _ AM.out (by kernel_rfl) rfl (by rfl) ?_)
 intro w8 AG AL;have AE:=AG.blk AV.out (by simp);have AU:=yG (AG.ext AN.out (by have:=AJ.out; omega));have AO:=yG AL;have AT:=yG AE;have ce:w8.cell? ⟨g0+1+1+1,0,none⟩=some .nilIface:=AE.cell 0;have ze:=AE.frozen 0;clear AG AL AE
 go_wp2_with fail
 have AC:=AO.out.far (p:=⟨g0+1+1+1,0,none⟩) (by simp) (.iface 75 (.int .i64 2));have AR:=AT.out.put 0 (.iface 75 (.int .i64 2));have AP:=AU.out.set (u:=.iface 75 (.int .i64 2)) (i:=0) (g:=g0+1+1+1) (by have:=AJ.out; omega);generalize w8.setCell ⟨g0+1+1+1,0,none⟩ (.iface 75 (.int .i64 2))=W9 at *;have t0:W9.cell? ⟨g0+1+1,0,none⟩=some (.slice none 0 0):=AC.cell 0;have t1:W9.cell? ⟨g0+1+1,1,none⟩=some (.slice none 0 0):=AC.cell 1;have t2:W9.cell? ⟨g0+1+1,2,none⟩=some (.slice none 0 0):=AC.cell 2;have t3:W9.cell? ⟨g0+1+1,3,none⟩=some (.slice none 0 0):=AC.cell 3;have e9:W9.cell? ⟨g0+1+1+1,0,none⟩=some (.iface 75 (.int .i64 2)):=AR.cell 0;exact⟨.tuple #[.agg XG,.iface 75 (.int .i64 2)],by unfold XG; simp[results,Tryz.results22,go_sem,t0,t1,t2,t3,e9],rfl,AP⟩
end Go.Proofs.YtbadjmmjbpeocaaGreat
namespace Go.Proofs.YtbadjmmjbpeocaaGreat
def VS (k:Int):Bool:=decide (21≤k)&&decide (k≤26)
def zAW (k:Int):Bool:=decide (7≤k)&&decide (k≤19)
def zBH (k:Int):Bool:=k==2||k==3
inductive vS where
 | ZL (k:Int)
 | expr
 | stmt
 | part
def vS.holds:vS→Int→Bool
 | .ZL j,k=>k==j
 | .expr,k=>VS k
 | .stmt,k=>zAW k
 | .part,k=>zBH k
structure vR where
 kids:List vS
 more:Option vS
 named:Bool
 most:Int
def XY (k:Int):List vR:=
 if k=1 then [⟨[],some .part,false,0⟩]
 else if k=2 then [⟨[.ZL 5],some (.ZL 5),true,0⟩]
 else if k=3 then [⟨[.ZL 4,.ZL 6],none,true,1⟩]
 else if k=4 then [⟨[],some (.ZL 5),false,0⟩]
 else if k=5 then [⟨[],none,true,0⟩]
 else if k=6 then [⟨[],some .stmt,false,0⟩]
 else if k=7 then [⟨[.ZL 20,.ZL 5],none,true,1⟩]
 else if k=8 then [⟨[.ZL 20,.ZL 5,.expr],none,false,0⟩]
 else if k=9 then [⟨[.ZL 20,.expr],some .expr,false,0⟩]
 else if k=10 then [⟨[.ZL 20],none,false,0⟩]
 else if k=11 then [⟨[.ZL 5,.ZL 5],none,true,0⟩]
 else if k=12 then [⟨[.ZL 5],none,false,1⟩]
 else if k=13 then [⟨[.ZL 5],none,false,0⟩,⟨[.ZL 20],none,false,0⟩]
 else if k=14 then [⟨[.expr,.expr,.ZL 6],none,false,1⟩,⟨[.expr,.expr,.ZL 6,.ZL 6],none,false,1⟩]
 else if k=15 then [⟨[.ZL 21,.ZL 21,.ZL 6],none,true,0⟩]
 else if k=16 then [⟨[.expr],none,true,0⟩]
 else if k=17 then [⟨[.expr],none,false,0⟩]
 else if k=18 then [⟨[],none,false,0⟩]
 else if k=19 then [⟨[],none,false,0⟩]
 else if k=20 then [⟨[.expr],none,true,0⟩]
 else if k=21 then [⟨[],none,false,2147483647⟩]
 else if k=22 then [⟨[],none,true,0⟩]
 else if k=23 then [⟨[.expr,.expr],none,false,0⟩]
 else if k=24 then [⟨[.expr,.expr],none,false,0⟩]
 else if k=25 then [⟨[.expr,.expr],none,false,0⟩]
 else if k=26 then [⟨[.expr],none,false,0⟩]
 else []
def vR.want (f:vR)(i:Nat):Option vS:=if i<f.kids.length then f.kids[i]? else f.more
def vI (p:Option vS)(k:Int):Bool:=match p with | none=>false | some p=>p.holds k
def vR.fits (f:vR)(l:List Int):Bool:=
 if l.length<f.kids.length∨(f.kids.length<l.length∧f.more.isNone=true) then false
 else (List.range l.length).all fun i=>vI (f.want i) (l.getD i 0)
def zNK (c:Int):Bool:=decide (97≤c)&&decide (c≤122)
def zTf (c:Int):Bool:=decide (48≤c)&&decide (c≤57)
def zT8 (c:Int):Bool:=zNK c||(zTf c||c==95)
def zEJ (l:List UInt8):Bool:=match l with
 | []=>false
 | c::r=>zNK (c.toNat:Int)&&r.all fun c=>zT8 (c.toNat:Int)
def YE (f:vR)(num:Int)(text:List UInt8)(l:List Int):Bool:=
 f.fits l&&(decide (0≤num)&&(decide (num≤f.most)&&((f.named&&zEJ text)||(!f.named&&text.isEmpty))))
def zAA (kind num:Int)(text:List UInt8)(l:List Int):Bool:=(XY kind).any fun f=>YE f num text l
def zJ4 (what x:Int):Bool:=if what=0 then VS x else if what=1 then zAW x else x==what
def zDk (l:List Int)(frm:Nat)(what:Int):Bool:=(l.drop frm).all (zJ4 what)
def jJ (w x:Int):Bool:=if w=0 then VS x else x==w
def isR (l want:List Int):Bool:=l.length==want.length&&(List.range l.length).all fun i=>jJ (want.getD i 0) (l.getD i 0)
def ZB (kind:Int)(l:List Int):Bool:=
 if kind=1 then l.all zBH
 else if kind=2 then decide (0<l.length)&&zDk l 0 5
 else if kind=3 then isR l [4,6]
 else if kind=4 then zDk l 0 5
 else if kind=6 then zDk l 0 1
 else if kind=7 then isR l [20,5]
 else if kind=8 then isR l [20,5,0]
 else if kind=9 then decide (1<l.length)&&(l.getD 0 0==20&&zDk l 1 0)
 else if kind=10 then isR l [20]
 else if kind=11 then isR l [5,5]
 else if kind=12 then isR l [5]
 else if kind=13 then isR l [5]||isR l [20]
 else if kind=14 then isR l [0,0,6]||isR l [0,0,6,6]
 else if kind=15 then isR l [21,21,6]
 else if kind=16∨kind=17∨kind=20∨kind=26 then isR l [0]
 else if kind=23∨kind=24∨kind=25 then isR l [0,0]
 else l.length==0
def zF4 (k:Int):Bool:=k==2||(k==3||(k==5||(k==7||(k==11||(k==15||(k==16||(k==20||k==22)))))))
def zGa (k:Int):Int:=if k=3∨k=7∨k=12∨k=14 then 1 else if k=21 then 2147483647 else 0
def zER (kind num:Int)(text:List UInt8):Bool:=(zF4 kind==zEJ text)&&((zF4 kind||text.isEmpty)&&(decide (0≤num)&&decide (num≤zGa kind)))
theorem zAx (f:Int→Bool)(l:List Int):((List.range l.length).all fun i=>f (l.getD i 0))=l.all f:=by
 induction l with
 | nil=>rfl
 | cons x l ih=>
  rw[zK,List.range_succ_eq_map,List.all_cons,List.all_map,List.all_cons]
  congr 1
theorem xO (ps:List vS)(ws:List Int)(named:Bool)(most:Int)(hl:ps.length=ws.length)(h:∀i,i<ws.length→∀x,vI ps[i]? x=jJ (ws.getD i 0) x)(l:List Int) :
  (vR.mk ps none named most).fits l=isR l ws:=by
 unfold vR.fits isR;simp only[Option.isNone_none,and_true]
 by_cases AA:l.length=ws.length
 ·rw[if_neg (by omega),AA];simp only[beq_self_eq_true,Bool.true_and];rw[Bool.eq_iff_iff];simp only[zH,List.mem_range]
  constructor
  ·intro hh i hi
   have:=hh i hi
   unfold vR.want at this
   simp only at this
   rw[if_pos (by omega),h i hi] at this;exact this
  ·intro hh i hi
   have:=hh i hi
   unfold vR.want
   simp only
   rw[if_pos (by omega),h i hi];exact this
 ·rw[if_pos (by omega)];simp[AA]
theorem zBi (p:vS)(named:Bool)(most:Int)(l:List Int):(vR.mk [] (some p) named most).fits l=l.all p.holds:=by
 unfold vR.fits;rw[if_neg (by simp)];unfold vR.want vI;simp only[zL,Nat.not_lt_zero,if_false];exact zAx p.holds l
theorem zGD (q p:vS)(named:Bool)(most:Int)(l:List Int):(vR.mk [q] (some p) named most).fits l=(decide (0<l.length)&&(q.holds (l.getD 0 0)&&(l.drop 1).all p.holds)):=by
 unfold vR.fits
 cases l with
 | nil=>simp
 | cons x l=>
  rw[if_neg (by simp)];rw[zK,List.range_succ_eq_map,List.all_cons,List.all_map];simp only[vR.want,vI,zK,zL]
  simp
  congr 1
  rw[←zAx p.holds l];simp[Function.comp_def,yH]
theorem zFw (q r p:vS)(named:Bool)(most:Int)(l:List Int):(vR.mk [q,r] (some p) named most).fits l=(decide (1<l.length)&&(q.holds (l.getD 0 0)&&(r.holds (l.getD 1 0)&&(l.drop 2).all p.holds))):=by
 unfold vR.fits
 match l with
 | []=>simp
 | [x]=>simp
 | x::y::l=>
  rw[if_neg (by simp)];rw[zK,List.range_succ_eq_map,List.all_cons,List.all_map,zK,List.range_succ_eq_map,List.all_cons,List.all_map];simp only[vR.want,vI,zK,zL]
  simp
  congr 2
  rw[←zAx p.holds l];simp[Function.comp_def,yH,show ∀x:Nat,¬(x+1+1<2) from fun x=>by omega]
theorem zDZ {t:List UInt8}(h:zEJ t=true):t.isEmpty=false:=by
 cases t with
 | nil=>cases h
 | cons c r=>rfl
theorem zCh (kind num:Int)(text:List UInt8)(F:Bool)(named:Bool)(most:Int)(hn:zF4 kind=named)(hm:zGa kind=most) :
  (F&&(decide (0≤num)&&(decide (num≤most)&&((named&&zEJ text)||(!named&&text.isEmpty)))))=(zER kind num text&&F):=by
 unfold zER;rw[hn,hm]
 cases hI:zEJ text
 ·cases named <;> cases F <;> cases text.isEmpty <;> cases decide (0≤num) <;> cases decide (num≤most) <;> rfl
 ·rw[zDZ hI]
  cases named <;> cases F <;> cases decide (0≤num) <;> cases decide (num≤most) <;> rfl
theorem xY (kind num:Int)(text:List UInt8)(l:List Int)(ps:List vS)(more:Option vS)(named:Bool)(most:Int)(hf:XY kind=[⟨ps,more,named,most⟩])(hn:zF4 kind=named)(hm:zGa kind=most)(hk:(vR.mk ps more named most).fits l=ZB kind l) :
  zAA kind num text l=(zER kind num text&&ZB kind l):=by
 unfold zAA;rw[hf,←zCh kind num text _ named most hn hm,←hk];simp[YE]
theorem zEL (kind num:Int)(text:List UInt8)(l:List Int)(ps qs:List vS)(most:Int)(hf:XY kind=[⟨ps,none,false,most⟩,⟨qs,none,false,most⟩])(hn:zF4 kind=false)(hm:zGa kind=most)(hk:((vR.mk ps none false most).fits l||(vR.mk qs none false most).fits l)=ZB kind l) :
  zAA kind num text l=(zER kind num text&&ZB kind l):=by
 unfold zAA;rw[hf,←zCh kind num text _ false most hn hm,←hk];simp only[List.any_cons,List.any_nil,Bool.or_false,YE];rw[Bool.and_or_distrib_right]
theorem vL (w:Int)(hw:w≠0)(x:Int):vI (some (.ZL w)) x=jJ w x:=by
 unfold vI vS.holds jJ;rw[if_neg hw]
theorem vY (x:Int):vI (some .expr) x=jJ 0 x:=rfl
theorem ex1 (p:vS)(w:Int)(h:∀x,vI (some p) x=jJ w x):∀i,i < [w].length→∀x,vI [p][i]? x=jJ ([w].getD i 0) x:=by
 intro i hi x
 match i,hi with
 | 0,_=>exact h x
theorem ex2 (p q:vS)(w v:Int)(h:∀x,vI (some p) x=jJ w x)(h2:∀x,vI (some q) x=jJ v x):∀i,i < [w,v].length→∀x,vI [p,q][i]? x=jJ ([w,v].getD i 0) x:=by
 intro i hi x
 match i,hi with
 | 0,_=>exact h x
 | 1,_=>exact h2 x
theorem ex3 (p q r:vS)(w v u:Int)(h:∀x,vI (some p) x=jJ w x)(h2:∀x,vI (some q) x=jJ v x)(h3:∀x,vI (some r) x=jJ u x):∀i,i < [w,v,u].length→∀x,vI [p,q,r][i]? x=jJ ([w,v,u].getD i 0) x:=by
 intro i hi x
 match i,hi with
 | 0,_=>exact h x
 | 1,_=>exact h2 x
 | 2,_=>exact h3 x
theorem ex4 (p q r s:vS)(w v u t:Int)(h:∀x,vI (some p) x=jJ w x)(h2:∀x,vI (some q) x=jJ v x)(h3:∀x,vI (some r) x=jJ u x)(h4:∀x,vI (some s) x=jJ t x):∀i,i < [w,v,u,t].length→∀x,vI [p,q,r,s][i]? x=jJ ([w,v,u,t].getD i 0) x:=by
 intro i hi x
 match i,hi with
 | 0,_=>exact h x
 | 1,_=>exact h2 x
 | 2,_=>exact h3 x
 | 3,_=>exact h4 x
theorem ex0:∀i,i<([]:List Int).length→∀x,vI ([]:List vS)[i]? x=jJ (([]:List Int).getD i 0) x:=by
 intro i hi
 simp at hi
theorem zAM (l:List Int):isR l []=(l.length==0):=by
 cases l <;> simp[isR]
theorem zM6 (kind num:Int)(text:List UInt8)(l:List Int):zAA kind num text l=(decide (1≤kind)&&(decide (kind≤26)&&(zER kind num text&&ZB kind l))):=by
 by_cases hk:1≤kind∧kind≤26
 ·rw[yS hk.1,yS hk.2,Bool.true_and,Bool.true_and]
  have hc:kind=1∨kind=2∨kind=3∨kind=4∨kind=5∨kind=6∨kind=7∨kind=8∨kind=9∨kind=10∨kind=11∨kind=12∨kind=13∨kind=14∨kind=15∨kind=16∨kind=17∨kind=18∨kind=19∨kind=20∨kind=21∨kind=22∨kind=23∨kind=24∨kind=25∨kind=26:=by omega
  rcases hc with rfl | rfl | rfl | rfl | rfl | rfl | rfl | rfl | rfl | rfl | rfl | rfl | rfl | rfl | rfl | rfl | rfl | rfl | rfl | rfl | rfl | rfl | rfl | rfl | rfl | rfl
  ·exact xY _ _ _ _ _ _ _ _ rfl rfl rfl (zBi _ _ _ _)
  ·refine xY _ _ _ _ _ _ _ _ rfl rfl rfl ((zGD _ _ _ _ _).trans ?_)
   show _=(decide (0<l.length)&&zDk l 0 5)
   cases l <;> rfl
  ·exact xY _ _ _ _ _ _ _ _ rfl rfl rfl (xO _ _ _ _ rfl (ex2 _ _ _ _ (vL 4 (by decide)) (vL 6 (by decide))) l)
  ·exact xY _ _ _ _ _ _ _ _ rfl rfl rfl (zBi _ _ _ _)
  ·exact xY _ _ _ _ _ _ _ _ rfl rfl rfl ((xO [] [] _ _ rfl ex0 l).trans (zAM l))
  ·exact xY _ _ _ _ _ _ _ _ rfl rfl rfl (zBi _ _ _ _)
  ·exact xY _ _ _ _ _ _ _ _ rfl rfl rfl (xO _ _ _ _ rfl (ex2 _ _ _ _ (vL 20 (by decide)) (vL 5 (by decide))) l)
  ·exact xY _ _ _ _ _ _ _ _ rfl rfl rfl (xO _ _ _ _ rfl (ex3 _ _ _ _ _ _ (vL 20 (by decide)) (vL 5 (by decide)) vY) l)
  ·refine xY _ _ _ _ _ _ _ _ rfl rfl rfl ((zFw _ _ _ _ _ _).trans ?_)
   show _=(decide (1<l.length)&&(l.getD 0 0==20&&zDk l 1 0))
   match l with
   | []=>rfl
   | [x]=>rfl
   | x::y::l=>rfl
  ·exact xY _ _ _ _ _ _ _ _ rfl rfl rfl (xO _ _ _ _ rfl (ex1 _ _ (vL 20 (by decide))) l)
  ·exact xY _ _ _ _ _ _ _ _ rfl rfl rfl (xO _ _ _ _ rfl (ex2 _ _ _ _ (vL 5 (by decide)) (vL 5 (by decide))) l)
  ·exact xY _ _ _ _ _ _ _ _ rfl rfl rfl (xO _ _ _ _ rfl (ex1 _ _ (vL 5 (by decide))) l)
  ·refine zEL _ _ _ _ _ _ _ rfl rfl rfl ?_;rw[xO _ [5] _ _ rfl (ex1 _ _ (vL 5 (by decide))) l,xO _ [20] _ _ rfl (ex1 _ _ (vL 20 (by decide))) l]
   rfl
  ·refine zEL _ _ _ _ _ _ _ rfl rfl rfl ?_;rw[xO _ [0,0,6] _ _ rfl (ex3 _ _ _ _ _ _ vY vY (vL 6 (by decide))) l,xO _ [0,0,6,6] _ _ rfl (ex4 _ _ _ _ _ _ _ _ vY vY (vL 6 (by decide)) (vL 6 (by decide))) l]
   rfl
  ·exact xY _ _ _ _ _ _ _ _ rfl rfl rfl (xO _ _ _ _ rfl (ex3 _ _ _ _ _ _ (vL 21 (by decide)) (vL 21 (by decide)) (vL 6 (by decide))) l)
  ·exact xY _ _ _ _ _ _ _ _ rfl rfl rfl (xO _ _ _ _ rfl (ex1 _ _ vY) l)
  ·exact xY _ _ _ _ _ _ _ _ rfl rfl rfl (xO _ _ _ _ rfl (ex1 _ _ vY) l)
  ·exact xY _ _ _ _ _ _ _ _ rfl rfl rfl ((xO [] [] _ _ rfl ex0 l).trans (zAM l))
  ·exact xY _ _ _ _ _ _ _ _ rfl rfl rfl ((xO [] [] _ _ rfl ex0 l).trans (zAM l))
  ·exact xY _ _ _ _ _ _ _ _ rfl rfl rfl (xO _ _ _ _ rfl (ex1 _ _ vY) l)
  ·exact xY _ _ _ _ _ _ _ _ rfl rfl rfl ((xO [] [] _ _ rfl ex0 l).trans (zAM l))
  ·exact xY _ _ _ _ _ _ _ _ rfl rfl rfl ((xO [] [] _ _ rfl ex0 l).trans (zAM l))
  ·exact xY _ _ _ _ _ _ _ _ rfl rfl rfl (xO _ _ _ _ rfl (ex2 _ _ _ _ vY vY) l)
  ·exact xY _ _ _ _ _ _ _ _ rfl rfl rfl (xO _ _ _ _ rfl (ex2 _ _ _ _ vY vY) l)
  ·exact xY _ _ _ _ _ _ _ _ rfl rfl rfl (xO _ _ _ _ rfl (ex2 _ _ _ _ vY vY) l)
  ·exact xY _ _ _ _ _ _ _ _ rfl rfl rfl (xO _ _ _ _ rfl (ex1 _ _ vY) l)
 ·have h0:XY kind=[]:=by
   unfold XY
   repeat (rw[if_neg (by omega)])
  have h1:(decide (1≤kind)&&(decide (kind≤26)&&(zER kind num text&&ZB kind l)))=false:=by
   by_cases h1:1≤kind
   ·rw[yR (show ¬kind≤26 from by omega)]
    simp
   ·rw[yR h1]
    simp
  rw[h1];unfold zAA;rw[h0]
  rfl
end Go.Proofs.YtbadjmmjbpeocaaGreat
