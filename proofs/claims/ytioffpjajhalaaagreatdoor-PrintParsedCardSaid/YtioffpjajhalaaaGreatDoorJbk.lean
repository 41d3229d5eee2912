/- interlocklaw06.few and interlocklaw06.PrintParsed, walked: always true. (and what follows of it). The conditions stand at each lemma. -/
import Derived.Test.YtioffpjajhalaaaGreatDoorJaa
import Derived.Test.YtioffpjajhalaaaGreatDoorJbi
import Derived.Test.YtioffpjajhalaaaGreatDoorJbj
import Derived.Test.YtioffpjajhalaaaGreatDoorJaf
import Derived.Test.YtioffpjajhalaaaGreatDoorJaj
set_option linter.unusedVariables false
set_option linter.unusedSimpArgs false
set_option maxRecDepth 100000
set_option maxHeartbeats 16000000
namespace Go.Proofs.YtioffpjajhalaaaGreatDoor
open Go Go.RowKit
def zUU (L:List TT.xC)(w:World)(e:Ending)(w':World):Prop:=∃b:Bool,e=.returned (.bool b)∧Ext w w'∧(b=true→L.length≤200∧∀x ∈ L,x.kids.length≤200∧x.text.size≤50)
theorem zMC (A:Option Addr)(L:List TT.xC)(n c:Nat)(w:World)(hn:n=L.length)(ht:TT.XU w A L) :
  Calls Tryz.prog 20 #[.agg #[.slice A n c]] w (zUU L w):=by
 subst hn;have HT:=yD ht;clear ht
 go_enter Tryz.func20,Tryz.ntmps20
 go_upto_region 1 with fail
 have AA:Hid (Ext w (w.alloc (.cells #[.slice A L.length c] 39))):=yD (Ext.alloc _ _);have AC:Hid (Blk (w.alloc (.cells #[.slice A L.length c] 39)) w.heap.size 39 #[.slice A L.length c]):=yD (Blk.new _ _ _);have AF:=yD (HT.out.ext AA.out);generalize w.heap.size=g at *;generalize w.alloc (.cells #[.slice A L.length c] 39)=w1 at *;have t0:w1.cell? ⟨g,0,none⟩=some (.slice A L.length c):=AC.out.cell 0
 by_cases h4:200<L.length
 ·have d0:decide ((L.length:Int) > 200)=true:=yP (by omega);have d1:decide ((200:Int)<(L.length:Int))=true:=d0;clear h4
  go_wp2_with fail
  go_ret;exact⟨false,rfl,AA.out,fun h=>by cases h⟩
 have d0:decide ((L.length:Int) > 200)=false:=yO (by omega);have d1:decide ((200:Int)<(L.length:Int))=false:=d0;have d2:decide (200<L.length)=false:=yO h4
 go_wp2_with fail
 go_loopw [3] (fun i' wr=>∃k:Nat,k≤L.length∧i'=.int .i64 k∧Hid (wr=w1)∧Hid (∀j (hj:j<L.length),j<k→L[j].kids.length≤200∧L[j].text.size≤50)) (fun i' _=>L.length-(intOf i').toNat)
 case atStart=>exact⟨0,zT _,rfl,yD rfl,yD fun j hj h=>absurd h (Nat.not_lt_zero _)⟩
 case round=>
  clear d0 d1 d2;obtain⟨k,hk,rfl,HW,HD⟩:=hrel;have hw:=HW.out;subst hw
  by_cases AB:k<L.length
  rotate_left
  ·obtain rfl:k=L.length:=by omega
   have d0:decide ((L.length:Int)<(L.length:Int))=false:=by simp
   have d1:decide (L.length<L.length)=false:=by simp
   go_wp2_with fail
   go_ret
   exact⟨true,rfl,AA.out,fun _=>⟨by omega,fun x hx=>by
    obtain⟨j,hj,rfl⟩:=List.getElem_of_mem hx
    exact HD.out j hj hj⟩⟩
  have d0:decide ((k:Int)<(L.length:Int))=true:=yP (by omega)
  have q1:(k:Int)<(L.length:Int):=by omega
  obtain⟨b,AG,rfl,_,hc⟩:=AF.out.at_ k AB;have e2:=hc 2 (by decide);have e4:=hc 4 (by decide)
  have HN:Hid (L[k].kids.length≤200→L[k].text.size≤50→∀j (hj:j<L.length),j<k+1→L[j].kids.length≤200∧L[j].text.size≤50):=yD fun h1 h2 j hj AH=>by
   by_cases e:j=k
   ·subst e; exact⟨h1,h2⟩
   ·exact HD.out j hj (by omega)
  clear hc;generalize L[k]=x at *;unfold TT.xC.cells at e2 e4;simp only[yJ,List.getElem?_cons_succ] at e2 e4
  by_cases h1:200<x.kids.length
  ·have g0:decide ((x.kids.length:Int) > 200)=true:=yP (by omega);have g1:decide ((200:Int)<(x.kids.length:Int))=true:=g0;clear h1
   go_wp2_with fail
   go_ret;exact⟨false,rfl,AA.out,fun h=>by cases h⟩
  have g0:decide ((x.kids.length:Int) > 200)=false:=yO (by omega);have g1:decide ((200:Int)<(x.kids.length:Int))=false:=g0;have g2:decide (200<x.kids.length)=false:=yO h1;have AE:Hid (x.kids.length≤200):=yD (by omega);clear h1
  by_cases h2:50<x.text.size
  ·have f0:decide ((x.text.size:Int) > 50)=true:=yP (by omega);have f1:decide ((50:Int)<(x.text.size:Int))=true:=f0;clear h2
   go_wp2_with fail
   go_ret;exact⟨false,rfl,AA.out,fun h=>by cases h⟩
  have f0:decide ((x.text.size:Int) > 50)=false:=yO (by omega);have f1:decide ((50:Int)<(x.text.size:Int))=false:=f0;have f2:decide (50<x.text.size)=false:=yO h2;have AD:=yD (HN.out AE.out (by omega));clear h2 HN
  go_wp2_with fail
  go_roundw
  case rel=>exact⟨k+1,by omega,by go_num,by first | exact yD rfl | exact yD trivial,AD⟩
  case measure=>simp[intOf] <;> omega
theorem zWp (k:Nat):jE k≤100:=by
 unfold jE
 split
 ·omega
 ·split
  ·omega
  ·split <;> omega
theorem zEr {L:List TT.xC}(hk:∀x ∈ L,x.text.size≤50):∀(f:Fo) (a:Nat),VP L a f→f.cost≤150*f.size∧f.sm
 | .nil,a,_=>⟨zU _,trivial⟩
 | .cons k p t x c r,a,⟨⟨n,hn,_,_,ht,_⟩,hc,hr⟩=>by
  obtain⟨c1,c2⟩:=zEr hk c _ hc;obtain⟨r1,r2⟩:=zEr hk r _ hr;have h1:=hk n (zY hn)
  have h2:t.length=n.text.size:=by rw[←ht]; exact Array.length_toList
  have h3:=zWp k;refine⟨?_,by show t.length≤9000; omega,c2,r2⟩
  show(t.length+jE k+c.cost)+r.cost≤150*(1+c.size+r.size)
  omega
theorem zKP {w:World}{A:Option Addr}{L:List TT.xC}(ht:TT.XU w A L)(hr:TT.jT L=true)(hlen:L.length≤200)(hk:∀x ∈ L,x.kids.length≤200∧x.text.size≤50)(hd:TT.zDn L≤64):∃f,zBe w A L f∧zUQ f∧((vV f.xP:Nat):Int)≤TT.zDn L:=by
 obtain⟨t,x,f,hL,ho,hs⟩:=zXb hr;have hn:=zOI hr hL ho hs;obtain⟨h1,h2⟩:=zEr (fun x hx=>(hk x hx).2) f 1 hL.2.1;obtain⟨w1,w2,w3,w4⟩:=vD ho.1.1.2.2.1;obtain rfl:t=[]:=w2 (by decide)
 have hm:TT.XP ((1:Nat):Int)=0:=by decide
 obtain rfl:x=0:=by omega
 have hz:=zI8 _ _ hL;have AA:=zUH _ ho;have AB:=zM4 f h2;refine⟨f,⟨ht,hs.symm,by omega,fun y hy=>⟨by have:=(hk y hy).2; omega,by have:=(hk y hy).1; omega⟩,hr,hz,AA,by omega⟩,⟨⟨0,ho.2.1⟩,ho.1.1,by omega,?_,by omega,h2⟩,hn⟩
 have:=zFl f ho.2.1 (zJQ ho.1.1) (by omega)
 omega
theorem zIA (A:Option Addr)(L:List TT.xC)(n c:Nat)(w:World)(hpw:PW w)(hn:n=L.length)(ht:TT.XU w A L) :
  Calls Tryz.prog 7 #[.agg #[.slice A n c]] w fun e w'=>e=.returned (.bool true)∧Ext w w':=by
 subst hn;have HT:=yD ht;have HP:=yD hpw;clear ht hpw
 go_enter Tryz.func7,Tryz.ntmps7
 go_upto_region 1 with fail
 have AQ:Hid (Ext w (w.alloc (.cells #[.slice A L.length c] 39))):=yD (Ext.alloc _ _);have AS:Hid (Blk (w.alloc (.cells #[.slice A L.length c] 39)) w.heap.size 39 #[.slice A L.length c]):=yD (Blk.new _ _ _);generalize w.heap.size=g1 at *;generalize w.alloc (.cells #[.slice A L.length c] 39)=w1 at *;have y0:w1.cell? ⟨g1,0,none⟩=some (.slice A L.length c):=AS.out.cell 0
 go_wp2_with fail
 refine(zMC A L L.length c w1 rfl (HT.out.ext AQ.out)).mono ?_;rintro e w2 ⟨b,rfl,AW,hb⟩;have AE:=yD (AQ.out.trans AW);have AR:=yD (AS.out.ext AW);clear AW y0 AQ AS
 cases b with
 | false=>
  clear hb
  go_wp2_with fail
  refine(XJ w2 (HP.out.ext AE.out)).mono ?_;rintro e w' ⟨rfl,hx⟩
  go_wp2_with fail
  go_ret;exact⟨rfl,AE.out.trans hx⟩
 | true=>
 obtain⟨AA,HK⟩:Hid (L.length≤200)∧Hid (∀x ∈ L,x.kids.length≤200∧x.text.size≤50):=⟨yD (hb rfl).1,yD (hb rfl).2⟩;have Ao:Hid (∀x ∈ L,TT.zEt x):=yD fun y hy=>⟨by have:=(HK.out y hy).2; omega,by have:=(HK.out y hy).1; omega⟩;clear hb;have y0:w2.cell? ⟨g1,0,none⟩=some (.slice A L.length c):=AR.out.cell 0;obtain⟨d,HD⟩:∃d,Hid (TT.jT L=d):=⟨_,yD rfl⟩
 go_wp2_with fail
 refine(TT.zCq L A L.length c w2 rfl (HT.out.ext AE.out) (by have:=AA.out; omega) Ao.out d HD).mono ?_;rintro e w3 ⟨rfl,AL⟩;have AD:=yD (AE.out.trans AL);have AP:=yD (AR.out.ext AL);clear AL y0 AE AR
 cases d with
 | false=>
  go_wp2_with fail
  refine(XJ w3 (HP.out.ext AD.out)).mono ?_;rintro e w' ⟨rfl,hx⟩
  go_wp2_with fail
  go_ret;exact⟨rfl,AD.out.trans hx⟩
 | true=>
 have y0:w3.cell? ⟨g1,0,none⟩=some (.slice A L.length c):=AP.out.cell 0;obtain⟨r,HR⟩:∃r,Hid (TT.zDn L=r):=⟨_,yD rfl⟩
 go_wp2_with fail
 refine(TT.zLn L A L.length c w3 rfl (HT.out.ext AD.out) (by have:=AA.out; omega) Ao.out r HR).mono ?_;rintro e w4 ⟨rfl,AM⟩;have AC:=yD (AD.out.trans AM);have AV:=yD (AP.out.ext AM);clear AM y0 AD AP
 by_cases AI:64<r
 ·have d0:decide (r > 64)=true:=yP AI;have d1:decide (64<r)=true:=d0;clear AI
  go_wp2_with fail
  refine(XJ w4 (HP.out.ext AC.out)).mono ?_;rintro e w' ⟨rfl,hx⟩
  go_wp2_with fail
  go_ret;exact⟨rfl,AC.out.trans hx⟩
 have d0:decide (r > 64)=false:=yO AI;have d1:decide (64<r)=false:=d0;obtain⟨f,Aa,hg,_⟩:=zKP (HT.out.ext AC.out) HD.out AA.out HK.out (by rw[HR.out]; omega);have HG:=yD hg;have AJ:=yD Aa;clear hg Aa AI;have y0:w4.cell? ⟨g1,0,none⟩=some (.slice A L.length c):=AV.out.cell 0
 go_wp2_with fail
 refine(zBp w4 A L.length c L f rfl AJ.out (HP.out.ext AC.out) HG.out.2.2.2.1).mono ?_;rintro e w5 ⟨b5,k5,rfl,AX,Am,AH⟩;have Aj:=yD (AC.out.trans AH);have Ak:=yD (AJ.out.ext AH);have Ag:=yD (AV.out.ext AH);have AU:=yD Am;have Au:=yD AX;clear AX Am AH y0 AC AJ AV d0 d1
 go_wp2_with fail
 refine(zHn (some ⟨b5,0,none⟩) f HG.out f.print.length k5 w5 rfl Au.out (fun h=>by cases h) AU.out).mono ?_;rintro e w6 ⟨A6,c6,L6,rfl,AY,AG⟩;have Ah:=yD (Aj.out.trans AG);have Ar:=yD (Ak.out.ext AG);have Ae:=yD (Ag.out.ext AG);have Aq:=yD (AU.out.ext AG);have An:=yD AY;clear AG AY Aj Ak Ag AU
 go_upto_region 7 with fail
 have AB:Ext w6 (w6.alloc (.cells #[.slice A6 L6.length c6] 39)):=Ext.alloc _ _;have Al:=yD (Ah.out.trans AB);have Af:=yD (Ar.out.ext AB);have AT:=yD (An.out.ext AB);have Ad:=yD (Ae.out.ext AB);have As:=yD (Aq.out.ext AB);have AK:=yD (Blk.new w6 39 #[.slice A6 L6.length c6]);clear AB Ah Ar An Ae Aq;generalize w6.heap.size=g7 at *;generalize w6.alloc (.cells #[.slice A6 L6.length c6] 39)=w7 at *;have y0:w7.cell? ⟨g7,0,none⟩=some (.slice A6 L6.length c6):=AK.out.cell 0;have y1:w7.cell? ⟨g1,0,none⟩=some (.slice A L.length c):=Ad.out.cell 0
 go_wp2_with fail
 refine(zKn A A6 L L6 f L.length c L6.length c6 w7 rfl rfl Af.out AT.out).mono ?_;rintro e w8 ⟨rfl,AF⟩;have AN:=yD (Al.out.trans AF);have AZ:=yD (AT.out.ext AF);have Ac:=yD (As.out.ext AF);have Ab:=yD (AK.out.ext AF);clear AF y0 y1 Al Af AT As AK Ad;have y0:w8.cell? ⟨g7,0,none⟩=some (.slice A6 L6.length c6):=Ab.out.cell 0
 go_wp2_with fail
 refine(zBp w8 A6 L6.length c6 L6 f rfl AZ.out (HP.out.ext AN.out) HG.out.2.2.2.1).mono ?_;rintro e w9 ⟨b9,k9,rfl,Av,Ap,AO⟩;have Ai:=yD (AN.out.trans AO);have At:=yD (Ac.out.ext AO);have Aw:=yD Ap;clear Av Ap AO y0 AN AZ Ac Ab
 go_wp2_with fail
 refine(zFc (some ⟨b5,0,none⟩) (some ⟨b9,0,none⟩) f.print f.print.length f.print.length k5 k9 w9 rfl rfl At.out Aw.out).mono ?_;rintro e Ax ⟨rfl,rfl⟩
 go_wp2_with fail
 refine(XJ w9 (HP.out.ext Ai.out)).mono ?_;rintro e w' ⟨rfl,hx⟩
 go_wp2_with fail
 go_ret;exact⟨rfl,Ai.out.trans hx⟩
end Go.Proofs.YtioffpjajhalaaaGreatDoor
namespace Go.Proofs.YtioffpjajhalaaaGreatDoor.TT
open Go Go.RowKit Go.Deep Go.ChangeShapes Go.WideShapes
structure zLU (x:xC):Prop where
 pos:-9223372036854775808≤x.pos∧x.pos≤9223372036854775807
 cap:x.kids.length≤x.kc
section
variable {H:Type} {enc:TypeId × Value→H} {w:World} {base:Nat} {spare:Nat→Bool} {held:Bool}
theorem zPf {n:Nat}{cs:List Value}{y:DataW H × List MemPlace}(hl:cs.length=5)(h:DataW.trod enc Tryz.prog w base spare held n 48 cs=some y) :
  ∃x:xC,cs=x.cells∧zBZ w x∧zLU x:=by
 obtain⟨m,hf⟩:=zHz Tryz.underlying48 (by kernel_rfl) h hl
 match cs,hl with
 | [v0,v1,v2,v3,v4],_=>
  obtain⟨u0,z0,e0,t0⟩:=hf 0 _ rfl;obtain⟨u1,z1,e1,t1⟩:=hf 1 _ rfl;obtain⟨u2,z2,e2,t2⟩:=hf 2 _ rfl;obtain⟨u3,z3,e3,t3⟩:=hf 3 _ rfl;obtain⟨u4,z4,e4,t4⟩:=hf 4 _ rfl;simp only[yJ,List.getElem?_cons_succ,yV] at e0 e1 e2 e3 e4;subst e0 e1 e2 e3 e4;obtain⟨x0,g0,_,b0⟩:=DataW.trod_int Tryz.underlying5 t0;obtain⟨x1,g1,_,b1⟩:=DataW.trod_int Tryz.underlying3 t1;obtain⟨x2,g2,_,b2⟩:=DataW.trod_string Tryz.underlying9 t2;obtain⟨x3,g3,_,b3⟩:=DataW.trod_int Tryz.underlying2 t3;obtain⟨A,len,cap,g4⟩:=zMU Tryz.underlying32 t4;injection g0 with g0; injection g1 with g1; injection g2 with g2; injection g3 with g3;subst g0 g1 g2 g3 g4
  have AB:len≤cap:=by
   rcases DataW.trod_slice Tryz.underlying32 t4 with ⟨h1,_⟩ | ⟨a,AD,AC,_,_,_,_,h1,_,_,h2,_⟩
   ·injection h1 with h1; injection h1 with _ h3 h4; subst h3 h4; exact zU _
   ·injection h1 with h1; injection h1 with _ h3 h4; subst h3 h4; exact h2
  obtain⟨l,AA,hz,hc,_⟩:=zKC (k:=.i64) Tryz.underlying32 Tryz.underlying3 (by kernel_rfl) (w:=w) (enc:=enc) (base:=base) (spare:=spare) (held:=held) (d:=z4.1) (p:=z4.2) ⟨m,t4⟩;subst AA;exact⟨⟨x0,x1,x2,x3,A,cap,l⟩,rfl,⟨zVP b0,zPH b3,hc,hz⟩,⟨zPH b1,AB⟩⟩
theorem zM3 {a:Option Addr}{len cap:Nat}{d:DataW H}{p:List MemPlace}(h:DataW.Trod enc Tryz.prog w base spare held 37 (.slice a len cap) d p) :
  ∃l:List xC,len=l.length∧(a=none→cap=0)∧XU w a l∧∀x ∈ l,zLU x:=by
 obtain⟨l,h1,h2,h3,h4⟩:=zJp xC.cells (fun x=>zBZ w x∧zLU x) 5 (by decide) (fun _=>rfl) Tryz.underlying37 (by kernel_rfl) (fun n cs y hl hy=>zPf hl hy) h;exact⟨l,h1,h2,⟨h3,fun x hx=>(h4 x hx).1⟩,fun x hx=>(h4 x hx).2⟩
theorem zJP {r:Reach}{b0:Nat}{v:Value}{d:DataW H}{p:List MemPlace}(hval:Value.okWide Tryz.prog w r b0 39 v)(hd:DataW.Trod enc Tryz.prog w base spare held 39 v d p) :
  ∃(A:Option Addr) (AA:Nat) (l:List xC),v=.agg #[.slice A l.length AA]∧(A=none→AA=0)∧(XU w A l∧∀x ∈ l,zLU x):=by
 obtain⟨cs,rfl,AD⟩:=okWide_struct Tryz.underlying39 hval;obtain⟨m,hm⟩:=hd
 have h1:Tryz.prog.cellsOf 39=1:=by kernel_rfl
 have hl:cs.toList.length=1:=by rw[Array.length_toList,AD]; exact h1
 obtain⟨m',hf⟩:=zHz Tryz.underlying39 (by kernel_rfl) hm hl;obtain⟨v0,z0,e0,t0⟩:=hf 0 _ rfl;obtain⟨A,len,AA,rfl⟩:=zMU Tryz.underlying37 t0;obtain⟨l,AC,hz,ht⟩:=zM3 (enc:=enc) (base:=base) (spare:=spare) (held:=held) (d:=z0.1) (p:=z0.2) ⟨m',t0⟩;subst AC;refine⟨A,AA,l,?_,hz,ht⟩
 have:cs=#[.slice A l.length AA]:=by
  apply Array.toList_inj.1
  match hcl:cs.toList,hl with
  | [c],_=>
   have AB:(Value.agg cs).cells.toList[0]?=some (.slice A l.length AA):=e0;simp only[Value.cells] at AB;rw[hcl] at AB
   simp at AB
   rw[AB]
 rw[this]
end
end Go.Proofs.YtioffpjajhalaaaGreatDoor.TT
namespace Go.Proofs.YtioffpjajhalaaaGreatDoor
def exP:Bs:=[112,114,111,99,32,112,40,41,32,123,32,101,109,105,116,32]
def exQ:Bs:=[59,32,125]
def EmF (e:Ex):Fo:=.cons 3 0 [112] 0 (.cons 4 0 [] 0 .nil (.cons 6 0 [] 0 (.cons 17 0 [] 0 (e.fo .nil) .nil) .nil)) .nil
theorem zT7 {M:Nat}(e:Ex)(q:QX M e):(EmF e).zA7.flatten=[kwS [112,114,111,99],kwS [112],mk 40,mk 41,mk 123,kwS [101,109,105,116]]++(e.tk++[mk 59,mk 125]):=by
 have h:(e.fo .nil).tok=[e.tk]:=zEx e .nil q;unfold EmF;simp[Fo.zA7,zA7,Fo.zH2,Fo.stk,jS,ZX,Fo.tok,h]
theorem zVL {M:Nat}(e:Ex)(q:QX M e):LX (exP++(e.bs++exQ)) (EmF e).zA7.flatten []:=by
 rw[zT7 e q]
 have h1:LX ([112,114,111,99]++([32]++([112]++([40]++([41]++([32]++([123]++([32]++([101,109,105,116]++[32]))))))))) ([kwS [112,114,111,99]]++([]++([kwS [112]]++([mk 40]++([mk 41]++([]++([mk 123]++([]++([kwS [101,109,105,116]]++[]))))))))) ((e.bs++exQ)++[]):=
  (LX.name rfl rfl).app ((LX.skip rfl _).app ((LX.name rfl rfl).app ((LX.mark (by decide) rfl).app ((LX.mark (by decide) rfl).app ((LX.skip rfl _).app ((LX.mark (by decide) rfl).app ((LX.skip rfl _).app ((LX.name rfl rfl).app (LX.skip rfl _)))))))))
 have h3:LX ([59]++([32]++[125])) ([mk 59]++([]++[mk 125])) []:=(LX.mark (by decide) rfl).app ((LX.skip rfl _).app (LX.mark (by decide) rfl));have h2:LX e.bs e.tk (exQ++[]):=LX.exp e q _ rfl;exact h1.app (h2.app h3)
theorem zMz {M:Nat}(f:Fo)(B:Bs)(hB:LX B f.zA7.flatten [])(hc:f.ok M)(hs:∀j,j<f.kinds.length→f.kinds.getD j 0=2∨f.kinds.getD j 0=3)(hd:vV f.xP≤64)(hl:B.length≤65536):∃(g:Fo) (p:Nat),g.z=f.z∧zL6 B=.ok (⟨1,p,[],0,g.roots 1⟩::g.flat 1):=by
 obtain⟨us,hu,e⟩:=hB 0;rw[List.append_nil,zJO] at e;have e:VJ 0 B=.ok (us++[⟨4,0+B.length,0+B.length,[],0⟩]):=e;unfold zL6;rw[if_neg (by omega),e]
 show ∃(g:Fo) (p:Nat),g.z=f.z∧XY _=_
 have h0:AtP [] 0 1 (Ps.hd ⟨us++[⟨4,0+B.length,0+B.length,[],0⟩],[],0⟩).at_ [] 0 .nil (Ps.node ⟨us++[⟨4,0+B.length,0+B.length,[],0⟩],[],0⟩ 1) (f.zA7.flatten++[(4,[],0)]) 0:=⟨rfl,rfl,by
  show(us++[_]).map Tok.sk=_
  rw[List.map_append,hu]
  rfl,rfl⟩
 obtain⟨s,e2,g,hg,h1⟩:=zJ4 f ((us++[(⟨4,0+B.length,0+B.length,[],0⟩:Tok)]).length+1) _ _ hc hs h0 (by omega) (by
  have:=zJI f [] hs
  rw[←hu] at this;rw[List.append_nil,yN] at this;rw[yM]
  omega)
 have e3:zAZ ⟨us++[⟨4,0+B.length,0+B.length,[],0⟩],[],0⟩=.ok () s:=e2;refine⟨g,(Ps.hd ⟨us++[⟨4,0+B.length,0+B.length,[],0⟩],[],0⟩).at_,hg,?_⟩;unfold XY;rw[e3]
 show zGq.ok s.nd=_
 rw[h1.nd]
 rfl
theorem zNt {M:Nat}:∀(e:Ex) (r:Fo),QX M e→r.ok M→(e.fo r).ok M
 | .leaf k p t n,r,q,h=>by
  rcases q.1 with ⟨rfl,ht,rfl⟩ | ⟨rfl,rfl,h0,h1⟩
  ·exact⟨⟨zTJ ht,q.2⟩,trivial,h⟩
  ·exact⟨⟨zPl h0 h1,q.2⟩,trivial,h⟩
 | .neg p a,r,q,h=>⟨⟨by rw[ZT]; exact zJL (by simp) (ZB (by decide) (by decide) (by decide)) q.1.is,q.2⟩,zNt a .nil q.1 trivial,h⟩
 | .bin k p a b,r,q,h=>⟨⟨by rw[ZT,ZT]; exact zVj q.1 q.2.1.is q.2.2.1.is,q.2.2.2⟩,zNt a _ q.2.1 (zNt b .nil q.2.2.1 trivial),h⟩
theorem zVG {e:Ex}(q:QX 0 e):(EmF e).ok 0:=⟨⟨nk3 rfl (.inl rfl),zU _⟩,⟨⟨nk4 (fun e he=>by cases he),zU _⟩,trivial,⟨nk6 fun e he=>by rw[List.mem_singleton.1 (show e ∈ [17] from he)]; exact⟨by decide,by decide⟩,zU _⟩,⟨⟨by rw[ZT]; exact zJL (by simp) (ZB (by decide) (by decide) (by decide)) q.is,zU _⟩,zNt e .nil q trivial,trivial⟩,trivial⟩,trivial⟩
theorem zQ1 {M:Nat}{e:Ex}(q:QX M e):vV (EmF e).xP=1+e.dp:=by
 have h:=zCt e .nil q;unfold EmF;simp only[Fo.xP,h];simp[ZI,vV]
theorem zRp {e:Ex}(q:QX 0 e)(hd:e.dp≤63)(hl:e.bs.length≤60000):∃(g:Fo) (p:Nat),g.z=(EmF e).z∧VU (exP++(e.bs++exQ))=.ok (⟨1,p,[],0,g.roots 1⟩::g.flat 1):=
 zMz (EmF e) _ (zVL e q) (zVG q) (fun j hj=>by
  have hj:j<1:=hj
  obtain rfl:j=0:=by omega
  exact .inr rfl) (by rw[zQ1 q]; omega) (by
  have h1:exP.length=16:=rfl;have h2:exQ.length=3:=rfl;rw[yM,yM]
  omega)
theorem Ex.size_pos {M:Nat}{e:Ex}:(EmF e).size=4+(e.fo .nil).size:=by
 show 1+(1+0+(1+(1+(e.fo .nil).size+0)+0))+0=_
 omega
theorem zSM {M:Nat}{L:List TT.xC}:∀(f:Fo) (a u:Nat),f.ok M→VP L a f→∀i n,a≤i→i<a+f.size→L[i]?=some n→21≤n.kind→∃e,QX M e∧VP L i (e.fo .nil)∧e.dd≤vV (f.YX u)∧e.cost≤f.cost∧i+(e.fo .nil).size≤a+f.size
 | .nil,a,u,_,_,i,n,h1,h2,_,_=>by
  have h2:i<a+0:=h2;omega
 | .cons k p t x c r,a,u,ho,⟨hL1,hLc,hLr⟩,i,n,h1,h2,hn,hk=>by
  have h2:i<a+(1+c.size+r.size):=h2;have e1:(Fo.cons k p t x c r).YX u=(zB2 k u+vV (Fo.YX k c))::r.YX u:=rfl;have e2:(Fo.cons k p t x c r).cost=(t.length+jE k+c.cost)+r.cost:=rfl;have e3:(Fo.cons k p t x c r).size=1+c.size+r.size:=rfl;have e4:vV ((Fo.cons k p t x c r).YX u)=max (zB2 k u+vV (Fo.YX k c)) (vV (r.YX u)):=rfl
  by_cases hi:i=a
  ·subst hi;obtain⟨m,hm,AB,AC⟩:=hL1;rw[hm] at hn;injection hn with hn;subst hn;have hE:isE k:=⟨by omega,ho.1.1.2.1⟩;obtain⟨e,q,he,hf⟩:=zGh _ _ (zU _) ho k p t x c r rfl hE
   have AA:(e.fo .nil).size=1+c.size:=by rw[←hf .nil]; rfl
   refine⟨e,q,?_,?_,?_,by rw[AA,e3]; omega⟩
   ·rw[←hf .nil];exact⟨⟨m,hm,AB,AC⟩,hLc,trivial⟩
   ·rw[hf r,zEA e r u q]
    show e.dd≤max (zB2 (exK e) u+e.dd) (vV (r.YX u))
    omega
   ·rw[hf r,zEJ];omega
  ·by_cases hc:i<a+1+c.size
   ·obtain⟨e,q,h3,h4,h5,h6⟩:=zSM c (a+1) k ho.2.1 hLc i n (by omega) (by omega) hn hk;exact⟨e,q,h3,by rw[e4]; omega,by rw[e2]; omega,by rw[e3]; omega⟩
   ·obtain⟨e,q,h3,h4,h5,h6⟩:=zSM r (a+1+c.size) u ho.2.2 hLr i n (by omega) (by omega) hn hk;exact⟨e,q,h3,by rw[e4]; omega,by rw[e2]; omega,by rw[e3]; omega⟩
end Go.Proofs.YtioffpjajhalaaaGreatDoor
namespace Go.Proofs.YtioffpjajhalaaaGreatDoor
open Go Go.RowKit
theorem zV6 {w:World}{g n c:Nat}{A:Option Addr}{L:List TT.xC}(hP:PrT w g n c A L)(e:Ex)(q:QX 0 e)(i:Nat)(hL:VP L i (e.fo .nil))(hwt:(e.fo .nil).wt≤1099511627776):zDr w g L i (exK e) e.bs:=by
 have h:=fun hj=>zDu w g n c A L hP (e.fo .nil) i hL (zNt e .nil q trivial) hwt 0 hj;have hk:=ZT e .nil;have ht:=zED e .nil q;rw[hk,ht] at h
 cases e <;> exact h (Nat.zero_lt_succ _)
theorem zSy (w:World)(A:Option Addr)(n c:Nat)(L:List TT.xC)(hn:n=L.length)(hT:TT.XU w A L)(hlen:L.length≤9000)(hsm:∀x ∈ L,TT.zEt x)(hr:TT.jT L=true)(hpw:PW w)(i:Nat)(m:TT.xC)(hm:L[i]?=some m)(hk:21≤m.kind)(e:Ex)(q:QX 0 e)(hL:VP L i (e.fo .nil))(hwt:(e.fo .nil).wt≤1099511627776) :
  Calls Tryz.prog 23 #[.agg #[.slice A n c],.int .i64 (i:Int)] w fun r w'=>r=.returned (.tuple #[.string (yX e.bs),.nilIface])∧Ext w w':=by
 subst hn;have AC:Hid (Ext w (w.alloc (.cells #[.slice A L.length c] 39))):=yD (Ext.alloc _ _);have AF:Hid (Blk (w.alloc (.cells #[.slice A L.length c] 39)) w.heap.size 39 #[.slice A L.length c]):=yD (Blk.new _ _ _);have HT:=yD hT;have HP:=yD hpw;have AT:=yD hsm;have HR:=yD hr;have AQ:=yD hL;have HQ:=yD q;have AU:=yD hwt;have AI:i<L.length:=(List.getElem?_eq_some_iff.1 hm).1;have HM:=yD hm;have AV:=yD hlen;have d0:decide ((i:Int)<0)=false:=yO (by omega);have d1:decide ((i:Int) ≥ (L.length:Int))=false:=yO (by omega);have d2:decide ((L.length:Int)≤(i:Int))=false:=d1;have d3:decide (L.length≤i)=false:=yO (by omega);have d4:decide (m.kind<20)=false:=yO (by omega)
 have q0:(i:Int)<(L.length:Int):=by omega
 clear hT hpw hsm hr hL q hwt hm hlen hk
 go_enter Tryz.func23,Tryz.ntmps23
 go_upto_region 1 with fail
 generalize w.heap.size=gt at *;generalize w.alloc (.cells #[.slice A L.length c] 39)=w1 at *;have y0:w1.cell? ⟨gt,0,none⟩=some (.slice A L.length c):=AF.out.cell 0
 go_wp2_with fail
 refine(TT.zCq L A L.length c w1 rfl (HT.out.ext AC.out) AV.out AT.out true HR).mono ?_;rintro r w2 ⟨rfl,AJ⟩;have AH:=yD (AC.out.trans AJ);have AD:=yD (AF.out.ext AJ);clear AJ y0 AC AF;have AL:=yD (HT.out.ext AH.out);obtain⟨tb,tf,hA,AP,hc⟩:=AL.out.at_ i AI
 have AO:L[i]=m:=by have h:=HM.out; rw[yG AI] at h; exact Option.some.inj h
 rw[AO] at hc;clear AO AI;subst hA;have y0:w2.cell? ⟨gt,0,none⟩=some (.slice (some ⟨tb,tf,none⟩) L.length c):=AD.out.cell 0;have v0:w2.cell? ⟨tb,tf+i*5,none⟩=some (.int .u8 m.kind):=hc 0 (by decide);have HC:=yD hc;have AM:=yD AP;clear hc AP
 go_upto_region 4 with fail
 have AB:Ext w2 (w2.alloc (.cells #[.slice (some ⟨tb,tf,none⟩) L.length c,.pointer none,.slice none 0 0,.int .i64 0] 82)):=Ext.alloc _ _;have AE:=yD (AH.out.trans AB);have AK:=yD (AD.out.ext AB);have AG:Hid (Blk (w2.alloc (.cells #[.slice (some ⟨tb,tf,none⟩) L.length c,.pointer none,.slice none 0 0,.int .i64 0] 82)) w2.heap.size 82 #[.slice (some ⟨tb,tf,none⟩) L.length c,.pointer none,.slice none 0 0,.int .i64 0]):=yD (Blk.new _ _ _);have AA:Hid (∀j,j<5→(w2.alloc (.cells #[.slice (some ⟨tb,tf,none⟩) L.length c,.pointer none,.slice none 0 0,.int .i64 0] 82)).cell? ⟨tb,tf+i*5+j,none⟩=(m.cells)[j]?):=yD fun j hj=>(AB.cell (p:=⟨tb,tf+i*5+j,none⟩) AM.out).trans (HC.out j hj);clear AB y0 v0 HC AM d0 d1 d2 d3 d4;generalize w2.heap.size=g3 at *;generalize w2.alloc (.cells #[.slice (some ⟨tb,tf,none⟩) L.length c,.pointer none,.slice none 0 0,.int .i64 0] 82)=w3 at *;have AS:Hid (PrT w3 g3 L.length c (some ⟨tb,tf,none⟩) L):=yD ⟨HT.out.ext AE.out,rfl,AG.out.cell 0,AG.out.lt,HP.out.ext AE.out⟩;have y0:w3.cell? ⟨gt,0,none⟩=some (.slice (some ⟨tb,tf,none⟩) L.length c):=AK.out.cell 0;have v0:w3.cell? ⟨tb,tf+i*5,none⟩=some (.int .u8 m.kind):=AA.out 0 (by decide);have v1:w3.cell? ⟨tb,tf+i*5+1,none⟩=some (.int .i64 m.pos):=AA.out 1 (by decide);have v2:w3.cell? ⟨tb,tf+i*5+2,none⟩=some (.string m.text):=AA.out 2 (by decide);have v3:w3.cell? ⟨tb,tf+i*5+3,none⟩=some (.int .i64 m.num):=AA.out 3 (by decide)
 have v4:w3.cell? ⟨tb,tf+i*5+4,none⟩=some (.slice m.kA m.kids.length m.kc):=AA.out 4 (by decide);clear AA AG AK AD AH AL
 go_wp2_with fail
 obtain⟨m',h1,_,h3⟩:=zV6 AS.out e HQ.out i AQ.out AU.out;have h2:=HM.out;rw[h1] at h2;injection h2 with h2;subst h2;refine(h3 w3 (Ext.refl _)).mono ?_;rintro r w4 ⟨rfl,AN⟩;clear h1 h3 y0 v0 v1 v2 v3 v4;have AR:=yD (AE.out.trans AN);clear AN
 go_wp2_with fail
 go_ret2;exact⟨rfl,AR.out⟩
theorem zJq {L:List TT.xC}:∀(f:Fo) (a:Nat),VP L a f→TT.zA6 (TT.JO (TT.ZO L)) (TT.ZO L).length (xK (f.roots a)) (some a)=some (a+f.size)
 | .nil,a,_=>rfl
 | .cons k p t x c r,a,⟨⟨n,hn,_,_,_,hkk⟩,hc,hr⟩=>by
  have hl:a<(TT.ZO L).length:=by rw[TT.jC]; exact(List.getElem?_eq_some_iff.1 hn).1
  have he:TT.JO (TT.ZO L) a=some (a+1+c.size):=by
   rw[TT.zBC,if_pos hl,zL8 L a n hn,hkk];exact zJq c (a+1) hc
  show TT.zA6 _ _ ((a:Int)::xK (r.roots (a+1+c.size))) (some a)=_
  rw[TT.YJ,if_pos ⟨hl,rfl⟩,he,zJq r _ hr]
  show some (a+1+c.size+r.size)=some (a+(1+c.size+r.size))
  congr 1
  omega
theorem zUG {M:Nat}{L:List TT.xC}(hr:TT.jT L=true){i:Nat}{m:TT.xC}(hm:L[i]?=some m)(e:Ex)(hL:VP L i (e.fo .nil)):TT.zFL L (i:Int)=(((e.fo .nil).size:Nat):Int):=by
 have AA:i<L.length:=(List.getElem?_eq_some_iff.1 hm).1
 have he:∀(k p:Nat) (t:Bs) (x:Int) (c:Fo),VP L i (.cons k p t x c .nil)→TT.JO (TT.ZO L) i=some (i+(Fo.cons k p t x c .nil).size):=fun k p t x c ⟨⟨n,hn,_,_,_,hkk⟩,hc,_⟩=>by
  rw[TT.zBC,if_pos (by rw[TT.jC]; exact AA),zL8 L i n hn,hkk,zJq c (i+1) hc]
  show some (i+1+c.size)=some (i+(1+c.size+0))
  congr 1
  omega
 have h:TT.JO (TT.ZO L) i=some (i+(e.fo .nil).size):=by cases e <;> exact he _ _ _ _ _ hL
 unfold TT.zFL;rw[if_pos ⟨hr,by omega,by omega⟩,zH,h]
 show((i+(e.fo .nil).size:Nat):Int)-(i:Int)=_
 omega
theorem zFG:∀(f:Fo) (a b:Nat),(f.roots a).length=(f.roots b).length
 | .nil,_,_=>rfl
 | .cons k p t x c r,a,b=>congrArg (· + 1) (zFG r _ _)
theorem zGu:∀(f:Fo) (a b:Nat),(f.flat a).map (fun n=>(n.kind,n.text,n.num,n.kids.length))=(f.flat b).map (fun n=>(n.kind,n.text,n.num,n.kids.length))
 | .nil,_,_=>rfl
 | .cons k p t x c r,a,b=>by
  show(k,t,x,(c.roots (a+1)).length)::(c.flat (a+1)++r.flat (a+1+c.size)).map _=(k,t,x,(c.roots (b+1)).length)::(c.flat (b+1)++r.flat (b+1+c.size)).map _
  rw[List.map_append,List.map_append,zGu c (a+1) (b+1),zGu r (a+1+c.size) (b+1+c.size),zFG c (a+1) (b+1)]
theorem zUb {L L':List TT.xC}{f:Fo}{a b:Nat}(h:VP L a f)(h':VP L' b f)(j:Nat)(hj:j<f.size):∃m m',L[a+j]?=some m∧L'[b+j]?=some m'∧m.kind=m'.kind∧m.num=m'.num∧m.text=m'.text∧m.kids.length=m'.kids.length:=by
 have hl:j<(f.flat a).length:=by rw[vK]; exact hj
 have AA:j<(f.flat b).length:=by rw[vK]; exact hj
 obtain⟨m,h1,h2,h3,h4,h5⟩:=zG2 _ _ h j _ (yG hl);obtain⟨m',AB,AF,AD,AE,AC⟩:=zG2 _ _ h' j _ (yG AA);have e:=congrArg (fun l=>l[j]?) (zGu f a b);simp only[zM,yG hl,yG AA,Option.map_some,yV,Prod.mk.injEq] at e;obtain⟨e1,e2,e3,e4⟩:=e;refine⟨m,m',h1,AB,by rw[h2,AF,e1],by rw[h3,AD,e3],(zDw (h4.trans e2)).trans (zDw AE).symm,?_⟩;rw[h5,AC];unfold xK;rw[yN,yN,e4]
theorem zT6 {L:List TT.xC}{e:Ex}(h:VP L 0 (Fo.one 1 0 [] 0 (EmF e).z)):VP L 5 (e.fo .nil).z:=h.2.1.2.1.2.2.2.1.2.1
end Go.Proofs.YtioffpjajhalaaaGreatDoor
namespace Go.Proofs.YtioffpjajhalaaaGreatDoor.TT
open Go Go.RowKit
theorem zSj (l:List xC)(A:Option Addr)(n c:Nat)(i:Int)(w:World)(hn:n=l.length)(ht:XU w A l)(hlen:l.length≤9000)(hsm:∀x ∈ l,zEt x)(r:Int)(hr:Hid (zFL l i=r)) :
  Calls Tryz.prog 24 #[.agg #[.slice A n c],.int .i64 i] w fun e w'=>e=.returned (.int .i64 r)∧Ext w w':=by
 subst hn;have HT:=yD ht;have AF:=yD hsm;clear ht hsm;obtain⟨d,HD⟩:∃d,Hid (jT l=d):=⟨_,yD rfl⟩;have AG:Hid (Blk (w.alloc (.cells #[.slice A l.length c] 39)) w.heap.size 39 #[.slice A l.length c]):=yD (Blk.new _ _ _);have AE:Hid (Ext w (w.alloc (.cells #[.slice A l.length c] 39))):=yD (Ext.alloc _ _)
 go_enter Tryz.func24,Tryz.ntmps24
 have y0:=AG.out.cell 0
 go_wp2_with fail
 refine(zCq l A l.length c _ rfl (HT.out.ext AE.out) hlen AF.out d HD).mono ?_;rintro e w1 ⟨rfl,AB⟩;have AJ:=yD (AG.out.ext AB);have AA:Hid (Ext w w1):=yD (AE.out.trans AB);clear AB y0;generalize w.heap.size=gt at *;have y0:=AJ.out.cell 0
 cases d with
 | false=>
  have HZ:Hid (r=0):=yD (by rw[←hr.out]; unfold zFL; rw[HD.out]; simp)
  go_wp2_with fail
  go_ret;exact⟨by rw[HZ.out]; rfl,AA.out⟩
 | true=>
  by_cases h0:i<0
  ·have d0:decide (i<0)=true:=yP h0;have HZ:Hid (r=0):=yD (by rw[←hr.out]; unfold zFL; rw[if_neg (by omega)])
   go_wp2_with fail
   go_ret;exact⟨by rw[HZ.out]; rfl,AA.out⟩
  ·have d0:decide (i<0)=false:=yO h0
   by_cases h1:i<(l.length:Int)
   ·have d1:decide (i ≥ (l.length:Int))=false:=yO (by omega);have d2:decide ((l.length:Int)≤i)=false:=yO (by omega)
    have q0:(0:Int)≤i:=by omega
    go_wp2_with fail
    obtain⟨Z,hZ⟩:=zCH HD.out;have AC:Hid (Z.length=l.length):=yD (by have:=(zBl hZ).1; rw[jC] at this; exact this)
    have AH:Hid (r=(Z.getD i.toNat 0:Int)-i):=yD (by
     rw[←hr.out]
     have:=zPd HD.out hZ i.toNat (by omega)
     rw[show((i.toNat:Nat):Int)=i from by omega] at this
     exact this)
    have AD:Hid (Z.getD i.toNat 0≤l.length):=yD (by
     have h3:=(zBl hZ).2.2.2 i.toNat (by rw[jC]; omega);have h4:=(XA h3).2;rw[jC] at h4
     exact h4)
    have HO:Hid (zAA (ZO l)=some Z):=yD hZ;clear hZ;refine(zNA l A l.length c w1 rfl (HT.out.ext AA.out) hlen (fun x hx=>(AF.out x hx).kids) (some Z) HO).mono ?_;rintro e w2 ⟨v,rfl,hv,AI⟩;obtain⟨g,rfl,hg⟩:=hv;have AK:Hid (Ext w w2):=yD (AA.out.trans AI);clear AI y0;obtain⟨k,rfl⟩:∃k:Nat,i=(k:Int):=⟨i.toNat,by omega⟩;rw[zH] at AH AD;have AL:=AD.out;have z0:w2.cell? ⟨g,k,none⟩=some (.int .i64 (Z.getD k 0:Int)):=(hg.cell k).trans (zEK Z k (by have:=AC.out; omega))
    have q1:(k:Int)<(Z.length:Int):=by have:=AC.out; omega
    clear hg;generalize Z.getD k 0=z at *
    go_wp2_with fail
    go_ret;exact⟨by rw[AH.out]; first | rfl | (congr 2; omega) | (go_num),AK.out⟩
   ·have d1:decide (i ≥ (l.length:Int))=true:=yP (by omega);have d2:decide ((l.length:Int)≤i)=true:=yP (by omega);have HZ:Hid (r=0):=yD (by rw[←hr.out]; unfold zFL; rw[if_neg (by omega)])
    go_wp2_with fail
    go_ret;exact⟨by rw[HZ.out]; rfl,AA.out⟩
end Go.Proofs.YtioffpjajhalaaaGreatDoor.TT
