/- The program's within: whatever is done within. (and what follows of it). The conditions stand at each lemma. -/
import Derived.Test.YtioffpjajhalaaaGreatDoorLaa
import Derived.Test.YtioffpjajhalaaaGreatDoorLap
import Derived.Deep.Cut
set_option linter.unusedVariables false
set_option linter.unusedSimpArgs false
set_option maxRecDepth 100000
set_option maxHeartbeats 16000000
namespace Go.Proofs.YtioffpjajhalaaaGreatDoor
open Go Go.RowKit
def Or (M X:Nat→Prop)(b:Nat):Prop:=M b∨X b
def OkX (X:Nat→Prop)(w:World)(p B:Nat)(R R':xW)(s':Ps)(w':World):Prop:=PS w' p B s' R'∧xK w (Or (xJ p R) X) w' (Or (xJ p R') X)
theorem xK.or {w w':World}{M M':Nat→Prop}(h:xK w M w' M')(X:Nat→Prop):xK w (Or M X) w' (Or M' X):=
 ⟨h.os,h.tape,h.output,h.size,fun b hb hM=>h.JX b hb fun k=>hM (.inl k),fun b hb=>by
  rcases hb with hb | hb
  ·rcases h.zD9 b hb with h1 | h1
   ·exact .inl (.inl h1)
   ·exact .inr h1
  ·exact .inl (.inr hb)⟩
def VB {α:Type}(X:Nat→Prop)(w:World)(p B:Nat)(R:xW)(r:Res α)(V:α→xW→World→Prop)(e:Ending)(w':World):Prop:=
 match r with
 | .ok a s'=>e=.returned (.tuple #[])∧∃R',OkX X w p B R R' s' w'∧V a R' w'
 | .err er a=>e=jL er∧∃s' R',s'.hd.at_=a∧OkX X w p B R R' s' w'
theorem OkX.trans {X:Nat→Prop}{w w1 w2:World}{p B:Nat}{R R1 R2:xW}{s:Ps}(h:xK w (Or (xJ p R) X) w1 (Or (xJ p R1) X))(k:OkX X w1 p B R1 R2 s w2):OkX X w p B R R2 s w2:=⟨k.1,h.trans k.2⟩
theorem VB.trans {α:Type}{X:Nat→Prop}{w w1 w2:World}{p B:Nat}{R R1:xW}{r:Res α}{V:α→xW→World→Prop}{e:Ending}(h:xK w (Or (xJ p R) X) w1 (Or (xJ p R1) X))(k:VB X w1 p B R1 r V e w2):VB X w p B R r V e w2:=by
 cases r with
 | ok a s=>obtain⟨h1,R',h2,h3⟩:=k; exact⟨h1,R',h2.trans h,h3⟩
 | err er a=>obtain⟨h1,s',R',h2,h3⟩:=k; exact⟨h1,s',R',h2,h3.trans h⟩
theorem VB.ofU {X:Nat→Prop}{w:World}{p B:Nat}{R:xW}{r:Res Unit}{e:Ending}{w':World}(h:xM w p B R r e w'):VB X w p B R r (fun _ _ _=>True) e w':=by
 cases r with
 | ok a s=>obtain⟨h1,R',h2,h3⟩:=h; exact⟨h1,R',⟨h2,h3.or X⟩,trivial⟩
 | err er a=>obtain⟨h1,s',h2,R',h3,h4⟩:=h; exact⟨h1,s',R',h2,h3,h4.or X⟩
theorem VB.unit {α:Type}{X:Nat→Prop}{w:World}{p B:Nat}{R:xW}{r:Res α}{V:α→xW→World→Prop}{e:Ending}{w':World}(h:VB X w p B R r V e w'):(∃a s' R',r=.ok a s'∧e=.returned (.tuple #[])∧OkX X w p B R R' s' w'∧V a R' w')∨(∃er a,r=.err er a∧e=jL er∧∃s' R',s'.hd.at_=a∧OkX X w p B R R' s' w'):=by
 cases r with
 | ok a s'=>obtain⟨h1,R',h2,h3⟩:=h; exact .inl ⟨a,s',R',rfl,h1,h2,h3⟩
 | err er a=>exact .inr ⟨er,a,rfl,h⟩
def noX:Nat→Prop:=fun _=>False
theorem VB.toU {w:World}{p B:Nat}{R:xW}{r:Res Unit}{V:Unit→xW→World→Prop}{e:Ending}{w':World}(h:VB noX w p B R r V e w'):xM w p B R r e w':=by
 have hm:∀ {w' R'},xK w (Or (xJ p R) noX) w' (Or (xJ p R') noX)→xK w (xJ p R) w' (xJ p R'):=fun h=>⟨h.os,h.tape,h.output,h.size,fun b hb hM=>h.JX b hb (fun k=>by rcases k with k | k; exact hM k; exact k),fun b hb=>by
  rcases h.zD9 b (.inl hb) with (h1 | h1) | h1
  ·exact .inl h1
  ·exact h1.elim
  ·exact .inr h1⟩
 cases r with
 | ok a s=>obtain⟨h1,R',h2,_⟩:=h; exact⟨h1,R',h2.1,hm h2.2⟩
 | err er a=>obtain⟨h1,s',R',h2,h3⟩:=h; exact⟨h1,s',h2,R',h3.1,hm h3.2⟩
theorem PS.zIZ {w:World}{p B:Nat}{s:Ps}{R:xW}(h:PS w p B s R)(d:Nat)(hd:d≤64):PS (w.setCell ⟨p,2,none⟩ (.int .i64 (d:Int))) p B { s with deep:=d } R∧xK w (xJ p R) (w.setCell ⟨p,2,none⟩ (.int .i64 (d:Int))) (xJ p R):=by
 refine⟨⟨?_,fun k hk=>?_,h.zHF,h.zDq,h.nodes,?_,h.pB,⟨h.xU.last,hd⟩⟩,xK.set (.inl rfl)⟩
 ·have:=h.blk.put 2 (.int .i64 (d:Int))
  simpa using this
 ·have AA:R.bt≠p:=by have:=h.zDq; have:=h.pB; omega
  exact(World.cell?_of_block (w:=w) (zQ w ⟨p,2,none⟩ _ R.bt AA)).trans (h.zKC k hk)
 ·refine h.ns.JX fun b hb=>zQ w ⟨p,2,none⟩ _ b fun e=>?_;rw[e] at hb;exact h.ns.zCb h.blk (by decide) (by decide) hb
theorem zNJ {α:Type}{a z:Bs}{body:Pm α}{s:Ps}(h:isP a s=false):vX a z body s=.err 50 s.hd.at_:=by unfold vX; rw[h]; rfl
theorem zKQ {α:Type}{a z:Bs}{body:Pm α}{s:Ps}(h:isP a s=true)(hd:s.deep=64):vX a z body s=.err 51 s.hd.at_:=by unfold vX; rw[if_pos h,if_pos hd]
theorem zLH {α:Type}{a z:Bs}{body:Pm α}{s:Ps}(h:isP a s=true)(hd:s.deep≠64):vX a z body s=(body { s.adv with deep:=s.deep+1 }).bind fun x s=>if z=[] then .ok x { s with deep:=s.deep-1 } else (vJ z s).bind fun _ s=>.ok x { s with deep:=s.deep-1 }:=by unfold vX; rw[if_pos h,if_neg hd]
theorem zBG {α:Type}(X:Nat→Prop)(w:World)(p B:Nat)(s:Ps)(R:xW)(a z:Bs)(K:Nat)(first cap:Array Value)(body:Pm α)(V:α→xW→World→Prop)(h:PS w p B s R)(he:∀args w,(callFunc K args).run Tryz.prog w=.ok (.enter K args) w)
  (hV:∀x R1 w1 R2 w2,V x R1 w1→xK w1 (xJ p R1) w2 (xJ p R2)→V x R2 w2)
  (hdeep:isP a s=true→s.deep≠64→∀x s',body { s.adv with deep:=s.deep+1 } = .ok x s'→s'.deep=s.deep+1)
  (hbody:isP a s=true→s.deep≠64→∀(wr:World) (R':xW),xK w (xJ p R) wr (xJ p R')→PS wr p B { s.adv with deep:=s.deep+1 } R'→Calls Tryz.prog K (first++cap) wr (VB X wr p B R' (body { s.adv with deep:=s.deep+1 }) V)) :
  Calls Tryz.prog 163 #[.pointer (some ⟨p,0,none⟩),.string (yX a),.string (yX z),.func (.func K) first cap] w (VB X w p B R (vX a z body s) V):=by
 have HP:=yD h;have HE:=yD he;have HV:=yD hV;have AW:=yD hdeep;have HB:=yD hbody;clear h he hV hbody hdeep
 cases hi:isP a s with
 | false=>
  have HI:=yD hi;have HW:Hid (vX a z body s=.err 50 s.hd.at_):=yD (zNJ hi);clear hi
  go_enter Tryz.func163,Tryz.ntmps163
  go_wp2_with fail
  refine(YT w p B s R a false HI HP.out).mono ?_;rintro e w1 ⟨rfl,AB⟩;have HF:Hid (VB X w p B R (vX a z body s) V (jL 50) w1):=yD (by rw[HW.out]; exact⟨rfl,s,R,rfl,HP.out.ext AB,(xK.ext AB).or X⟩);clear AB
  go_wp2_with fail
  refine(zAE _ p 50).mono ?_;rintro e w2 ⟨rfl,rfl⟩;exact xA (P:=Tryz.prog) (fn:=Tryz.f163) rfl HF.out
 | true=>
  have HI:=yD hi
  by_cases hd:s.deep=64
  ·have HW:Hid (vX a z body s=.err 51 s.hd.at_):=yD (zKQ hi hd);have HD:=yD hd;clear hi hd
   go_enter Tryz.func163,Tryz.ntmps163
   go_wp2_with fail
   refine(YT w p B s R a true HI HP.out).mono ?_;rintro e w1 ⟨rfl,AB⟩;have HF:Hid (VB X w p B R (vX a z body s) V (jL 51) w1):=yD (by rw[HW.out]; exact⟨rfl,s,R,rfl,HP.out.ext AB,(xK.ext AB).or X⟩);have x2:=(HP.out.ext AB).x2;rw[HD.out] at x2;clear AB
   go_wp2_with fail
   refine(zAE _ p 51).mono ?_;rintro e w2 ⟨rfl,rfl⟩;exact xA (P:=Tryz.prog) (fn:=Tryz.f163) rfl HF.out
  ·have HD:=yD hd;have HW:=yD (zLH (z:=z) (body:=body) hi hd)
   have Ac:((s.deep:Int)==64)=false:=by rw[yF]; omega
   have Ab:=HP.out.xU.deep;have Aa:=yD (vD hi).1;have HN:Hid ((s.deep:Int)+1=((s.deep+1:Nat):Int)):=yD (by omega);have AO:Hid (s.deep+1≤64):=yD (by omega);have HT:Hid (vJ a { s with deep:=s.deep+1 } = .ok () { s.adv with deep:=s.deep+1 }):=yD (by unfold vJ; rw[show isP a { s with deep:=s.deep+1 } = isP a s from rfl,if_pos hi]; rfl);clear hi hd
   go_enter Tryz.func163,Tryz.ntmps163
   go_wp2_with fail
   refine(YT w p B s R a true HI HP.out).mono ?_;rintro e w1 ⟨rfl,AB⟩;have AY:=yD AB;have AF:=yD (HP.out.ext AB);have x2:=AF.out.x2;have z2:=AF.out.blk.frozen 2;have AS:=yD (AF.out.zIZ (s.deep+1) AO.out);clear AB
   go_wp2_with fail
   rw[HN.out];generalize w1.setCell ⟨p,2,none⟩ (.int .i64 ((s.deep+1:Nat):Int))=w2 at *;refine(vT w2 p B _ R a AS.out.1).mono ?_;rw[HT.out];rintro e w3 ⟨rfl,R3,AP,AR⟩;have AU:=yD AP;have AG:=yD (((xK.ext AY.out).trans AS.out.2).trans AR);clear AP AR x2 z2;have he:=HE.out
   go_wp2_with fail
   refine(HB.out HI.out HD.out _ R3 AG.out AU.out).mono ?_;intro e w4 AA
   rcases AA.unit with ⟨x,s4,R4,hr,rfl,ho,hv⟩ | ⟨er,at_,hr,rfl,s4,R4,AN,ho⟩
   rotate_left
   ·have HF:Hid (VB X w p B R (vX a z body s) V (jL er) w4):=yD (by rw[HW.out,hr]; exact⟨rfl,s4,R4,AN,ho.trans (AG.out.or X)⟩);exact xA (P:=Tryz.prog) (fn:=Tryz.f163) rfl HF.out
   have HR:=yD hr;have AE:=yD ho.1;have AI:=yD ((AG.out.or X).trans ho.2);have AQ:=yD hv;have AM:=yD (AW.out HI.out HD.out x s4 hr);clear AA hr ho hv he;have AX:s.deep+1≤64:=AO.out
   by_cases hz:z=[]
   ·have AJ:Hid (vX a z body s=.ok x { s4 with deep:=s.deep }):=yD (by rw[HW.out,HR.out,JK,if_pos hz,AM.out]; rfl)
    have AZ:(yX z).toList.isEmpty=true:=by subst hz; rw[zAR]; rfl
    have x2:=AE.out.x2;rw[AM.out] at x2;have z2:=AE.out.blk.frozen 2;have AH:=yD (AE.out.zIZ s.deep (by omega));clear hz
    go_wp2_with fail
    go_end0;rw[AJ.out];exact⟨rfl,R4,⟨AH.out.1,AI.out.trans (AH.out.2.or X)⟩,HV.out _ _ _ _ _ AQ.out AH.out.2⟩
   ·have AZ:(yX z).toList.isEmpty=false:=by
     cases z with
     | nil=>exact absurd rfl hz
     | cons b l=>simp[zAR]
    have HZ:=yD hz;clear hz
    go_wp2_with fail
    refine(vT w4 p B s4 R4 z AE.out).mono ?_;intro e w5 AA
    cases hq:vJ z s4 with
    | err er at_=>
     rw[hq] at AA;obtain⟨rfl,s5,AN,R5,AC,AD⟩:=AA;have HF:Hid (VB X w p B R (vX a z body s) V (jL er) w5):=yD (by rw[HW.out,HR.out,JK,if_neg HZ.out,hq]; exact⟨rfl,s5,R5,AN,AC,AI.out.trans (AD.or X)⟩);exact xA (P:=Tryz.prog) (fn:=Tryz.f163) rfl HF.out
    | ok y s5=>
     rw[hq] at AA;obtain⟨rfl,R5,AC,AD⟩:=AA
     have AL:s5.deep=s.deep+1:=by
      unfold vJ at hq
      split at hq
      ·injection hq with _ e2;rw[←e2];exact AM.out
      ·cases hq
     have AJ:Hid (vX a z body s=.ok x { s5 with deep:=s.deep }):=yD (by rw[HW.out,HR.out,JK,if_neg HZ.out,hq,JK,AL]; rfl);have x2:=AC.x2;rw[AL] at x2;have z2:=AC.blk.frozen 2;have AK:=yD (AC.zIZ s.deep (by omega));have AT:=yD (AI.out.trans (AD.or X));have AV:=yD (HV.out _ _ _ _ _ AQ.out AD);clear hq AC AD AL
     go_wp2_with fail
     go_end0;rw[AJ.out];exact⟨rfl,R5,⟨AK.out.1,AT.out.trans (AK.out.2.or X)⟩,HV.out _ _ _ _ _ AV.out AK.out.2⟩
structure Ran (w:World)(p B:Nat)(R:xW)(s:Ps)(w':World)(R':xW)(s':Ps):Prop where
 ps:PS w' p B s' R'
 mv:xK w (xJ p R) w' (xJ p R')
 lt:ZE s s'
theorem Ran.refl {w:World}{p B:Nat}{R:xW}{s:Ps}(h:PS w p B s R)(g:Good s):Ran w p B R s w R s:=⟨h,xK.refl _ _,ZE.refl g⟩
theorem Ran.ext {w w' w2:World}{p B:Nat}{R R':xW}{s s':Ps}(h:Ran w p B R s w' R' s')(hx:Ext w' w2):Ran w p B R s w2 R' s':=⟨h.ps.ext hx,h.mv.trans (xK.ext hx),h.lt⟩
theorem Ran.nd {w w':World}{p B:Nat}{R R':xW}{s s':Ps}(h:Ran w p B R s w' R' s')(hb:s.phi≤1000000):s'.nd.length≤1000000:=by have:=h.lt.phi; unfold Ps.phi at this hb; omega
theorem Ran.phi {w w':World}{p B:Nat}{R R':xW}{s s':Ps}(h:Ran w p B R s w' R' s')(hb:s.phi≤1000000):s'.phi≤1000000:=Nat.le_trans h.lt.phi hb
theorem Ran.idx {w w':World}{p B:Nat}{R R':xW}{s s':Ps}(h:Ran w p B R s w' R' s'){i:Nat}(hi:i<s.nd.length):i<s'.nd.length:=yR hi h.lt.nd
theorem Ran.few {w w':World}{p B:Nat}{R R':xW}{s s':Ps}(h:Ran w p B R s w' R' s'){n:Nat}(hn:s.ts.length≤n):s'.ts.length≤n:=Nat.le_trans h.lt.ts hn
theorem Ran.okp {w w':World}{p B:Nat}{R R':xW}{s s':Ps}(h:Ran w p B R s w' R' s'):OkP w p B R s' w':=⟨R',h.ps,h.mv⟩
theorem Ran.then {w w1 w2:World}{p B:Nat}{R R1:xW}{s s1 s2:Ps}(h:Ran w p B R s w1 R1 s1)(k:OkP w1 p B R1 s2 w2)(hl:ZE s1 s2):∃R2,Ran w p B R s w2 R2 s2:=let ⟨R2,a,b⟩:=k; ⟨R2,a,h.mv.trans b,h.lt.trans hl⟩
theorem Ran.go {α:Type}{w w1 w2:World}{p B:Nat}{R R1:xW}{s s1:Ps}{r:Res Unit}{whole:Res α}{f:Unit→Ps→Res α}{e:Ending}(HL:Hid (whole=r.bind f))(h:Hid (Ran w p B R s w1 R1 s1))(hf:jC s1 r)(hp:xM w1 p B R1 r e w2) :
  (∃s2 R2,Hid (whole=f () s2)∧e=.returned (.tuple #[])∧Hid (Ran w p B R s w2 R2 s2))∨(∃er a,e=jL er∧Hid (whole=.err er a)∧Hid (JE w p B R er a (jL er) w2)):=by
 cases r with
 | ok a s2=>
  obtain⟨h1,R2,h2,h3⟩:=hp;exact .inl ⟨s2,R2,yD HL.out,h1,yD ⟨h2,h.out.mv.trans h3,h.out.lt.trans hf⟩⟩
 | err er a=>
  obtain⟨h1,h2⟩:=hp;exact .inr ⟨er,a,h1,yD HL.out,yD (JE.trans h.out.mv ⟨rfl,h2⟩)⟩
theorem jT {r whole:Res Unit}(h:whole=r):whole=r.bind fun _ s=>.ok () s:=by rw[h]; cases r <;> rfl
theorem zE4 {α:Type}{s:Ps}{t:Bs}{whole x y:Res α}(h:Hid (whole=if isP t s=true then x else y))(hi:Hid (isP t s=true)):whole=x:=by rw[h.out,if_pos hi.out]
theorem zIg {α:Type}{s:Ps}{t:Bs}{whole x y:Res α}(h:Hid (whole=if isP t s=true then x else y))(hi:Hid (isP t s=false)):whole=y:=by rw[h.out,hi.out]; rfl
theorem ZE.num {s:Ps}(h:Good s)(i:Nat)(x:Int):ZE s (s.num i x):=VK h (fun _=>rfl)
theorem ZE.kind {s:Ps}(h:Good s)(i k:Nat):ZE s (s.kind i k):=VK h (fun _=>rfl)
theorem zAD {s:Ps}{t:Bs}(g:Good s)(h:Hid (isP t s=true)):ZE s s.adv:=JF g (vD h.out).1
def Ex.node:Ex→Nd
 | .leaf k p t n=>⟨k,p,t,n,[]⟩
 | .neg p _=>⟨26,p,[],0,[]⟩
 | .bin k p _ _=>⟨k,p,[],0,[]⟩
def Ex.parts:Ex→List Ex
 | .leaf ..=>[]
 | .neg _ a=>[a]
 | .bin _ _ a b=>[a,b]
theorem Ex.zOl (e:Ex):e.node.kids=[]:=by cases e <;> rfl
theorem Ex.zKG (e:Ex):e.node.pos=e.pos:=by cases e <;> rfl
def zDr (i:Nat):List Ex→Ps→Ps
 | [],s=>s
 | x::l,s=>zDr i l (zBg i x s)
theorem zRm (i:Nat)(e:Ex)(s:Ps):zBg i e s=zDr s.nd.length e.parts ((s.kid i).add e.node):=by cases e <;> rfl
theorem zIB (i:Nat):∀(l:List Ex) (k:Nat) (hk:k<l.length) (s:Ps),zDr i (l.take (k+1)) s=zBg i l[k] (zDr i (l.take k) s)
 | x::l,0,_,s=>rfl
 | x::l,k+1,hk,s=>zIB i l k (by simpa using hk) (zBg i x s)
theorem Ex.zOL (e:Ex):∀x ∈ e.parts,x.size<e.size:=by
 intro x hx
 cases e with
 | leaf=>cases hx
 | neg p a=>rw[List.mem_singleton.1 hx]; show a.size<a.size+1; omega
 | bin k p a b=>
  have AA:x ∈ [a,b]:=hx;simp only[zR,List.not_mem_nil,or_false] at AA
  rcases AA with rfl | rfl
  ·show x.size<x.size+b.size+1; omega
  ·show x.size<a.size+x.size+1; omega
theorem Ex.zOz (e:Ex):e.parts.length≤2:=by cases e <;> simp[Ex.parts]
def jP (n:Nd)(A:Option Addr)(m c:Nat):List Value:=[.int .u8 (n.kind:Int),.int .i64 (n.pos:Int),.string (yX n.text),.int .i64 n.num,.slice none 0 0,.slice A m c]
def EX (w:World)(M:Nat→Prop):Ex→List Value→Prop
 | .leaf k p t n,cs=>cs=jP ⟨k,p,t,n,[]⟩ none 0 0
 | .neg p a,cs=>∃g ca,cs=jP ⟨26,p,[],0,[]⟩ (some ⟨g,0,none⟩) 1 1∧Safe w M g 232 ca.toArray∧EX w M a ca
 | .bin k p a b,cs=>∃g ca cb,cs=jP ⟨k,p,[],0,[]⟩ (some ⟨g,0,none⟩) 2 2∧Safe w M g 232 (ca++cb).toArray∧EX w M a ca∧EX w M b cb
theorem EX.xO {w w':World}{M M':Nat→Prop}(k:xK w M w' M'):∀ {e:Ex} {cs:List Value},EX w M e cs→EX w' M' e cs
 | .leaf ..,_,h=>h
 | .neg ..,_,⟨g,ca,h1,h2,h3⟩=>⟨g,ca,h1,h2.xO k,EX.xO k h3⟩
 | .bin ..,_,⟨g,ca,cb,h1,h2,h3,h4⟩=>⟨g,ca,cb,h1,h2.xO k,EX.xO k h3,EX.xO k h4⟩
theorem EX.len {w:World}{M:Nat→Prop}:∀ {e:Ex} {cs:List Value},EX w M e cs→cs.length=6
 | .leaf ..,_,h=>by rw[h]; rfl
 | .neg ..,_,⟨g,ca,h1,h2,h3⟩=>by rw[h1]; rfl
 | .bin ..,_,⟨g,ca,cb,h1,h2,h3,h4⟩=>by rw[h1]; rfl
def zJP (w:World)(M:Nat→Prop)(l:List Ex)(A:Option Addr)(f:Nat→List Value):Prop:=
 (∀k (hk:k<l.length),EX w M l[k] (f k))∧(l=[]∨∃b,A=some ⟨b,0,none⟩∧b<w.heap.size∧¬M b∧∀k,k<l.length→∀j,j<6→w.cell? ⟨b,k*6+j,none⟩=(f k)[j]?)
theorem zJP.xO {w w':World}{M M':Nat→Prop}{l:List Ex}{A:Option Addr}{f:Nat→List Value}(h:zJP w M l A f)(k:xK w M w' M'):zJP w' M' l A f:=by
 refine⟨fun j hj=>(h.1 j hj).xO k,?_⟩
 rcases h.2 with h | ⟨b,h1,h2,h3,h4⟩
 ·exact .inl h
 ·refine .inr ⟨b,h1,yR h2 k.size,fun h5=>by rcases k.zD9 b h5 with h6 | h6 <;> first | exact h3 h6 | omega,fun i hi j hj=>?_⟩
  rw[World.cell?_of_block (w:=w) (k.JX b h2 h3)];exact h4 i hi j hj
theorem EX.open {w:World}{M:Nat→Prop}{e:Ex}{cs:List Value}(h:EX w M e cs):∃A c f,cs=jP e.node A e.parts.length c∧zJP w M e.parts A f:=by
 cases e with
 | leaf k p t n=>exact⟨none,0,fun _=>[],h,⟨fun k hk=>by simp[Ex.parts] at hk,.inl rfl⟩⟩
 | neg p a=>
  obtain⟨g,ca,h1,h2,h3⟩:=h;have hl:=h3.len;refine⟨_,_,fun _=>ca,h1,⟨fun k hk=>?_,.inr ⟨g,rfl,h2.1.lt,h2.2,fun k hk j hj=>?_⟩⟩⟩
  ·obtain rfl:k=0:=by simpa [Ex.parts] using hk
   exact h3
  ·obtain rfl:k=0:=by simpa [Ex.parts] using hk
   rw[Nat.zero_mul,Nat.zero_add,h2.1.cell j]
   simp
 | bin kd p a b=>
  obtain⟨g,ca,cb,h1,h2,h3,h4⟩:=h;have hl:=h3.len;refine⟨_,_,fun k=>if k=0 then ca else cb,h1,⟨fun k hk=>?_,.inr ⟨g,rfl,h2.1.lt,h2.2,fun k hk j hj=>?_⟩⟩⟩
  ·have AA:k<2:=hk
   match k,AA with
   | 0,_=>exact h3
   | 1,_=>exact h4
  ·have AA:k<2:=hk;rw[h2.1.cell (k*6+j)]
   match k,AA with
   | 0,_=>
    show(ca++cb).toArray[0*6+j]?=ca[j]?
    rw[Nat.zero_mul,Nat.zero_add,yI,List.getElem?_append_left (by omega)]
   | 1,_=>
    show(ca++cb).toArray[1*6+j]?=cb[j]?
    rw[yI,List.getElem?_append_right (by omega)]
    congr 1
    omega
theorem zI3 {s:Ps}(h:Good s)(i:Nat)(x:Nd)(hx:x.kids=[]):Good ((s.kid i).add x):=⟨h.last,h.deep,zAN h.few i x hx⟩
theorem zLe (i:Nat):∀(l:List Ex) (s:Ps),s.nd.length≤(zDr i l s).nd.length∧(zDr i l s).ts=s.ts∧(zDr i l s).deep=s.deep
 | [],s=>⟨zU _,rfl,rfl⟩
 | x::l,s=>by
  obtain⟨h1,h2,h3⟩:=zLe i l (zBg i x s);obtain⟨k1,k2,k3⟩:=zBI x i s;exact⟨by show _≤(zDr i l (zBg i x s)).nd.length; omega,h2.trans k2,h3.trans k3⟩
theorem zIv (i:Nat):∀(l:List Ex) (s:Ps),Good s→Good (zDr i l s)
 | [],s,h=>h
 | x::l,s,h=>zIv i l _ (by
  obtain⟨k1,k2,k3⟩:=zBI x i s
  exact⟨by rw[k2]; exact h.last,by rw[k3]; exact h.deep,zD5 x i s h.few⟩)
theorem zIi (i:Nat):∀(l:List Ex) (s:Ps),(zDr i l s).nd.length=s.nd.length+(l.map Ex.size).sum
 | [],s=>rfl
 | x::l,s=>by
  show(zDr i l (zBg i x s)).nd.length=_
  rw[zIi i l,(zBI x i s).1,List.map_cons,List.sum_cons];omega
theorem Ex.zMr (e:Ex):e.size=(e.parts.map Ex.size).sum+1:=by cases e <;> simp[Ex.size,Ex.parts]
theorem zFk:∀(l:List Nat) (k:Nat) (hk:k<l.length),(l.take k).sum+l[k]≤l.sum
 | x::l,0,_=>by simp
 | x::l,k+1,hk=>by
  have:=zFk l k (by simpa using hk)
  simp only[List.take_succ_cons,List.sum_cons,List.getElem_cons_succ];omega
theorem Ex.zLn:∀(e:Ex),0<e.size
 | .leaf ..=>Nat.zero_lt_one
 | .neg ..=>Nat.succ_pos _
 | .bin ..=>Nat.succ_pos _
theorem zPh (f:Nat)(ih:∀(e:Ex),e.size≤f→∀(w:World) (p B:Nat) (s:Ps) (R:xW) (i:Nat) (cs:List Value),PS w p B s R→Good s→i<s.nd.length→s.nd.length+e.size≤1000000→EX w (xJ p R) e cs →
  Calls Tryz.prog 206 #[.pointer (some ⟨p,0,none⟩),.int .i64 (i:Int),.agg cs.toArray] w fun en w'=>en=.returned (.tuple #[])∧OkP w p B R (zBg i e s) w')
  (e:Ex) (hsz:e.size≤f+1) (w:World) (p B:Nat) (s:Ps) (R:xW) (i:Nat) (cs:List Value) (h:PS w p B s R) (hG:Good s) (hi:i<s.nd.length) (hbig:s.nd.length+e.size≤1000000) (hx:EX w (xJ p R) e cs) :
  Calls Tryz.prog 206 #[.pointer (some ⟨p,0,none⟩),.int .i64 (i:Int),.agg cs.toArray] w fun en w'=>en=.returned (.tuple #[])∧OkP w p B R (zBg i e s) w':=by
 obtain⟨i0,BC,BA,A9,Az⟩:=info_parts zGD;obtain⟨i1,BH,BU,Bc,BL⟩:=info_parts zKt;obtain⟨eA,ec,ef,Be,Ax⟩:=hx.open;have HQ:=yD (zRm i e s);have BM:=yD hsz;have BQ:=yD hbig;have BX:=yD e.zMr;have Bn:=yD e.zLn;have Bj:=yD e.zOz;have Aw:=e.zOl;have BG:=yD ih;have A7:=fun x (hx:x ∈ e.parts)=>e.zOL x hx;have Ai:=yD A7;clear ih hsz hx A7;generalize e.parts=l at *;generalize e.node=x at *;obtain⟨xk,xp,xt,xn,A1⟩:=x
 simp only at Aw
 subst Aw;subst Be;have AR:=h.len
 have AS:i<R.nh.length:=by omega
 obtain⟨g,hA⟩:=h.zPI (by omega);obtain⟨x,AW⟩:∃x,R.nh[i]=x:=⟨_,rfl⟩;obtain⟨⟨nk,np,nt,nn,kk⟩,kA,kc⟩:=x;unfold jP;obtain⟨gx,A6⟩:∃gx,Hid (w.heap.size=gx):=⟨_,yD rfl⟩;obtain⟨W,HW⟩:∃W,Hid (W=w.alloc (.cells (jP ⟨xk,xp,xt,xn,[]⟩ eA l.length ec).toArray 232)):=⟨_,yD rfl⟩;have AX:Hid (Ext w W):=yD (by rw[HW.out]; exact Ext.alloc _ _);have Bk:Hid (Safe W (xJ p R) gx 232 (jP ⟨xk,xp,xt,xn,[]⟩ eA l.length ec).toArray):=yD (by rw[HW.out,←A6.out]; exact h.fresh _ _);have hP:=h.ext AX.out
 have c4:W.cell? ⟨g,i*5+4,none⟩=some (.slice kA kk.length kc):=by rw[hP.zB2 i AS hA 4 (by decide),AW]; rfl
 have AU:=hP.ns.zSP _ (yL AS);have AF:=hP.ns.kids _ (yL AS);rw[AW] at AU AF
 simp only at AU AF
 obtain⟨o,HO⟩:∃o,Hid ((Value.slice kA kk.length kc).ownBlock=o):=⟨_,yD rfl⟩
 have AP:Hid (some p≠o):=yD fun e=>by
  rw[←HO.out] at e;obtain⟨Ay,hc⟩:=jX AF (vQ AF e.symm);exact Blk.differ hP.blk hc (by decide) rfl
 have Al:Hid (some g≠o):=yD fun e=>by
  rw[←HO.out] at e;obtain⟨Ay,hc⟩:=jX AF (vQ AF e.symm);obtain⟨Bm,Bf⟩:=jX hP.ns.row hA;exact Blk.differ Bf hc (by decide) rfl
 have AY:Hid (∀g,o=some g→g<W.heap.size):=yD fun g e=>by
  rw[←HO.out] at e;exact(XY AF (vQ AF e)).2
 have Au:=(XY hP.ns.row hA).2;have AV:=hP.blk.lt;have BD:Hid (B≤W.heap.size):=yD (Nat.le_trans hP.pB (zS AV));have AQ:=yD AW;have HP:=yD hP;have HA:=yD hA;have BT:=yD AU;have BZ:=yD (Ax.xO (xK.ext (M:=xJ p R) AX.out));have Aa:=yD AR;have HG:=yD hG
 have Av:Hid (kk.length≤1000000):=yD (by
  have:=hG.few (R.nh[i].1) (by rw[h.nodes]; exact List.mem_map.2 ⟨_,yL AS,rfl⟩)
  rw[AQ.out] at this
  simp only at this
  omega)
 have BB:R.nh.length+1≤1000000:=by have:=Bn.out; omega
 obtain⟨Fs,AC⟩:∃Fs,Hid (FsH B 3 (.slice kA kk.length kc) W.heap.size kk.length (ints kk) [Value.int .i64 (R.nh.length:Int)]=Fs):=⟨_,yD rfl⟩
 have hE:∀F ∈ Fs,∀v w w',F v w→Ext w w'→F v w':=by rw[←AC.out]; exact zJh _ _ _ _ _ _ _
 have m0:(fun (_:Value) w=>zAf B 3 kk.length (ints kk) (.slice kA kk.length kc) w) ∈ Fs:=by rw[←AC.out]; simp only[FsH,zR,true_or]
 have m1:zDN 3 W.heap.size #[Value.int .i64 (R.nh.length:Int)] ∈ Fs:=by rw[←AC.out]; simp only[FsH,zR,true_or,or_true]
 have m2:zOZ B 3 o W.heap.size (kk.length+1) (ints kk++[Value.int .i64 (R.nh.length:Int)]) ∈ Fs:=by rw[←AC.out,←HO.out]; simp only[FsH,zR,true_or,or_true]
 have AO:=yD hE;have M0:=yD m0;have M1:=yD m1;have M2:=yD m2
 have q0:(i:Int)<(R.nh.length:Int):=by omega
 have C4:=yD c4;have x1:=hP.x1' hA;clear h hG hi Ax AR hE m0 m1 m2 AW AU AF hA c4 hP hbig
 go_enter Tryz.func206,Tryz.ntmps206
 have Bd:Hid (w.alloc (.cells #[.int .u8 (xk:Int),.int .i64 (xp:Int),.string (yX xt),.int .i64 xn,.slice none 0 0,.slice eA l.length ec] 232)=W):=yD (by rw[HW.out]; rfl)
 go_upto_region 1 with fail
 rw[Bd.out,A6.out]
 go_upto_region 2 with fail
 apply zCp o Fs 18 (by kernel_rfl) (by kernel_rfl) (by kernel_rfl) AO.out;dsimp only[List.take_succ_cons,List.take_zero,List.drop_succ_cons,List.drop_zero];apply sG jA.refl (.pointer (some ⟨p,0,none⟩));apply sG jA.refl (.pointer (some ⟨p,0,none⟩));apply sG jA.refl (.pointer (some ⟨p,1,none⟩));apply yZ (.slice (some ⟨g,0,none⟩) R.nh.length R.c) rfl rfl rfl
 ·intro w' AA hH;have hR:=jA.refl (o:=o) (Fs:=Fs) w';have cc:=Blk.cell ((AA.1.block p AV AP.out).trans HP.out.blk) 1;rw[HA.out] at cc;clear hH AA;simp[yY,go_sem,cc,q0];exact hR
 apply sG jA.refl (.int .i64 (i:Int));apply sG jA.refl (.pointer (some ⟨p,0,none⟩));apply sG jA.refl (.pointer (some ⟨p,0,none⟩));apply sG jA.refl (.pointer (some ⟨p,1,none⟩));apply yZ (.slice (some ⟨g,0,none⟩) R.nh.length R.c) rfl rfl rfl
 ·intro w' AA hH;have hR:=jA.refl (o:=o) (Fs:=Fs) w';have cc:=Blk.cell ((AA.1.block p AV AP.out).trans HP.out.blk) 1;rw[HA.out] at cc;clear hH AA;simp[yY,go_sem,cc,q0];exact hR
 apply sG jA.refl (.int .i64 (i:Int));apply yZ (.pointer (some ⟨g,i*5,none⟩)) rfl rfl rfl
 ·intro w' AA hH;clear hH AA;simp[yY,go_sem,q0];exact jA.refl _
 apply yZ (.pointer (some ⟨g,i*5+4,none⟩)) rfl rfl rfl
 ·intro w' AA hH;clear hH AA;simp[yY,go_sem,q0];exact jA.refl _
 (try simp only[Act.put,yA,yB,yC]);apply yZ (.slice kA kk.length kc) rfl rfl rfl
 ·intro w' AA hH;have hR:=jA.refl (o:=o) (Fs:=Fs) w';have cc:=(World.cell?_of_block (w:=W) (a:=⟨g,i*5+4,none⟩) (AA.1.block g Au Al.out)).trans C4.out;clear hH AA;simp[yY,go_sem,cc,q0];exact hR
 apply sG jA.refl (.int .i64 (R.nh.length:Int));apply vA (zDN 3 W.heap.size #[Value.int .i64 (R.nh.length:Int)]) (fun v w w' h hx=>hx.2 _ M1.out v h) rfl rfl rfl
 ·intro w' AA hH;have hz:=AA.1.size;clear hH AA;simp[yY,go_sem];exact⟨⟨_,rfl,Blk.new _ _ _,hz⟩,jA.ext AO.out (Ext.alloc _ _)⟩
 intro BI;(try simp only[Act.put,yA,yB,yC]);apply vA (zOZ B 3 o W.heap.size (kk.length+1) (ints kk++[Value.int .i64 (R.nh.length:Int)])) (fun v w w' h hx=>hx.2 _ M2.out v h) rfl rfl rfl
 ·intro w' AA hH;have AN:=hH _ (List.mem_cons_self ..) ⟨_,rfl,by decide⟩;have AJ:=AA.2 _ M0.out undef BT.out;have hz:=AA.1.size;clear hH AA;rw[←AC.out,←HO.out];exact zE9 B W.heap.size (.tmp 26) (.tmp 28) 32 rfl 3 i0 _ 8 Tryz.underlying32 BC BA A9 Az rfl (.slice kA kk.length kc) kk.length (ints kk) [Value.int .i64 (R.nh.length:Int)] (by kernel_rfl) AJ BI (by kernel_rfl) AN rfl (by simp[Value.oneCell']) (by unfold maxLen; have:=Av.out; omega) (by have:=Av.out; omega) (Nat.le_trans BD.out hz) hz (fun g e=>AY.out g (by rw[←HO.out]; exact e))
 intro Br;(try simp only[Act.put,yA,yB,yC]);apply yZ (.pointer (some ⟨g,i*5,none⟩)) rfl rfl rfl
 ·intro w' AA hH;clear hH AA;simp[yY,go_sem,q0];exact jA.refl _
 apply yZ (.pointer (some ⟨g,i*5+4,none⟩)) rfl rfl rfl
 ·intro w' AA hH;clear hH AA;simp[yY,go_sem,q0];exact jA.refl _
 apply xN;intro w2 Aj hH;have AZ:=hH _ (List.mem_cons_self ..);clear hH;obtain⟨gk,cap,rfl⟩:=AZ.1.at;have AM:=Aj.1;have Af:=Aj.1.block g Au Al.out;rw[←HO.out] at AM
 have HS:Hid (OkP W p B R (s.kid i) (w2.setCell ⟨g,i*5+4,none⟩ (.slice (some ⟨gk,0,none⟩) (kk.length+1) cap))):=yD (by
  have hh:=PS.kid (gk:=gk) (cap:=cap) HP.out i AS HA.out (w1:=w2) (by rw[AQ.out]; exact AZ.1.1) (by rw[AQ.out]; exact AM) (by
   rw[AQ.out]
   rcases AZ.2 with e | ⟨g',e,BF⟩
   ·left; rw[HO.out,←e]; rfl
   ·right; have:gk=g':=by simpa [Value.ownBlock] using e
    omega)
  rw[AQ.out] at hh
  exact hh)
 have y1:w2.cell? ⟨g,i*5+4,none⟩=some (.slice kA kk.length kc):=(World.cell?_of_block (w:=W) (a:=⟨g,i*5+4,none⟩) Af).trans C4.out;have z1:w2.frozen? ⟨g,i*5+4,none⟩=false:=(World.frozen?_of_block (w:=W) (a:=⟨g,i*5+4,none⟩) Af).trans (HP.out.zH4 _ HA.out);clear AZ AM Af Aj x1;(try simp only[Act.put,yA,yB,yC])
 go_upto_region 3 with fail
 clear y1 z1;generalize w2.setCell ⟨g,i*5+4,none⟩ (.slice (some ⟨gk,0,none⟩) (kk.length+1) cap)=w3 at *;obtain⟨R3,AB,AL⟩:=HS.out
 have A0:R3.nh.length=R.nh.length:=by rw[←AB.len,←Aa.out]; exact zCA
 have A2:=yD A0;have Ac:=yD AB;have Ap:=yD AL;have Ad:=yD (Bk.out.xO AL);have Am:=Ad.out.1.lt;have AH:=AB.blk.lt;clear A0;clear BC BA A9 Az i0 AV Au AC AO M0 M1 M2 AP Al AY HO;obtain⟨o,HO⟩:∃o,Hid ((Value.slice R3.A R3.nh.length R3.c).ownBlock=o):=⟨_,yD rfl⟩
 have AP:Hid (some p≠o):=yD fun e=>by
  rw[←HO.out] at e;obtain⟨Ay,hc⟩:=jX AB.ns.row (vQ AB.ns.row e.symm);exact Blk.differ AB.blk hc (by decide) rfl
 have BV:Hid (some gx≠o):=yD fun e=>by
  rw[←HO.out] at e;exact Ad.out.2 (.inr (.inl (vQ AB.ns.row e.symm)))
 have AY:Hid (∀g,o=some g→g<w3.heap.size):=yD fun g e=>by
  rw[←HO.out] at e;exact(XY AB.ns.row (vQ AB.ns.row e)).2
 have As:Hid (B≤w3.heap.size):=yD (Nat.le_trans AB.pB (zS AH));obtain⟨Fs,AC⟩:∃Fs,Hid (FsK B 48 (.slice R3.A R3.nh.length R3.c) w3.heap.size R3.nh.length (ncs R3.nh) (ZW (⟨xk,xp,xt,xn,[]⟩,(none,0)))=Fs):=⟨_,yD rfl⟩
 have hE:∀F ∈ Fs,∀v w w',F v w→Ext w w'→F v w':=by rw[←AC.out]; exact zIX _ _ _ _ _ _ _
 have m0:(fun (_:Value) w=>zAe B 48 R3.nh.length (ncs R3.nh) (.slice R3.A R3.nh.length R3.c) w) ∈ Fs:=by rw[←AC.out]; simp only[FsK,zR,true_or]
 have m1:zDN 48 w3.heap.size (ZW (⟨xk,xp,xt,xn,[]⟩,(none,0))).toArray ∈ Fs:=by rw[←AC.out]; simp only[FsK,zR,true_or,or_true]
 have m2:zOh B 48 o w3.heap.size (R3.nh.length+1) (ncs R3.nh++ZW (⟨xk,xp,xt,xn,[]⟩,(none,0))) ∈ Fs:=by rw[←AC.out,←HO.out]; simp only[FsK,zR,true_or,or_true]
 have AO:=yD hE;have M0:=yD m0;have M1:=yD m1;have M2:=yD m2;clear AB AL hE m0 m1 m2;apply zCp o Fs 11 (by kernel_rfl) (by kernel_rfl) (by kernel_rfl) AO.out;dsimp only[List.take_succ_cons,List.take_zero,List.drop_succ_cons,List.drop_zero];apply sG jA.refl (.pointer (some ⟨p,0,none⟩));apply sG jA.refl (.pointer (some ⟨p,0,none⟩));apply sG jA.refl (.pointer (some ⟨p,0,none⟩));apply sG jA.refl (.pointer (some ⟨p,1,none⟩));apply yZ (.slice R3.A R3.nh.length R3.c) rfl rfl rfl
 ·intro w' AA hH;have hR:=jA.refl (o:=o) (Fs:=Fs) w';have cc:=Blk.cell ((AA.1.block p AH AP.out).trans Ac.out.blk) 1;clear hH AA;simp[yY,go_sem,cc];exact hR
 apply sG jA.refl (.pointer (some ⟨gx,0,none⟩));apply yZ (.agg #[.int .u8 (xk:Int),.int .i64 (xp:Int),.string (yX xt),.int .i64 xn,.slice none 0 0]) rfl rfl rfl
 ·intro w' AA hH;have hR:=jA.refl (o:=o) (Fs:=Fs) w';have bb:=(AA.1.block gx Am BV.out).trans Ad.out.1;have c0:=Blk.cell bb 0;have c1:=Blk.cell bb 1;have c2:=Blk.cell bb 2;have c3:=Blk.cell bb 3;have c4:=Blk.cell bb 4;clear bb;simp only[jP,yI,yJ,List.getElem?_cons_succ] at c0 c1 c2 c3 c4;clear hH AA;simp[yY,go_sem,c0,c1,c2,c3,c4];exact hR
 apply vA (zDN 48 w3.heap.size (ZW (⟨xk,xp,xt,xn,[]⟩,(none,0))).toArray) (fun v w w' h hx=>hx.2 _ M1.out v h) rfl rfl rfl
 ·intro w' AA hH;have hz:=AA.1.size;clear hH AA;simp[yY,go_sem];exact⟨⟨_,rfl,Blk.new _ _ _,hz⟩,jA.ext AO.out (Ext.alloc _ _)⟩
 intro Bh;(try simp only[Act.put,yA,yB,yC]);apply vA (zOh B 48 o w3.heap.size (R3.nh.length+1) (ncs R3.nh++ZW (⟨xk,xp,xt,xn,[]⟩,(none,0)))) (fun v w w' h hx=>hx.2 _ M2.out v h) rfl rfl rfl
 ·intro w' AA hH;have AN:=hH _ (List.mem_cons_self ..) ⟨_,rfl,by decide⟩;have AJ:=AA.2 _ M0.out undef Ac.out.ns.zSU;have hz:=AA.1.size;clear hH AA;rw[←AC.out,←HO.out];exact zFd B w3.heap.size (.tmp 36) (.tmp 39) 37 rfl 48 i1 _ 64 Tryz.underlying37 BH BU Bc BL rfl (.slice R3.A R3.nh.length R3.c) R3.nh.length (ncs R3.nh) (ZW (⟨xk,xp,xt,xn,[]⟩,(none,0))) (by kernel_rfl) AJ Bh (by kernel_rfl) AN rfl (zIw _) (by unfold maxLen; have:=A2.out; omega) (by have:=A2.out; omega) (Nat.le_trans As.out hz) hz (fun g e=>AY.out g (by rw[←HO.out]; exact e))
 intro Bu;(try simp only[Act.put,yA,yB,yC]);apply sG jA.refl (.pointer (some ⟨p,0,none⟩));apply sG jA.refl (.pointer (some ⟨p,1,none⟩));apply xN;intro w4 Ak hH;have Ab:=hH _ (List.mem_cons_self ..);clear hH;obtain⟨g4,AT,rfl⟩:=Ab.1.at;have AM:=Ak.1;rw[←HO.out] at AM;have An:Blk w4 p 75 _:=(Ak.1.block p AH AP.out).trans Ac.out.blk
 obtain⟨A5,A4⟩:=PS.snoc (w:=w3) Ac.out (Ext.refl w3) ⟨xk,xp,xt,xn,[]⟩ rfl Ab.1.1 AM (by
  rcases Ab.2 with e | ⟨g',e,BF⟩
  ·left; rw[HO.out,←e]; rfl
  ·right; have:g4=g':=by simpa [Value.ownBlock] using e
   omega)
 have y1:w4.cell? ⟨p,1,none⟩=some (.slice R3.A R3.nh.length R3.c):=An.cell 1;have z1:=An.frozen 1;have Bb:Hid (OkP w3 p B R3 ((s.kid i).add ⟨xk,xp,xt,xn,[]⟩) (w4.setCell ⟨p,1,none⟩ (.slice (some ⟨g4,0,none⟩) (R3.nh.length+1) AT))):=yD ⟨_,A5,A4⟩;clear Ab AM An A5 A4 Ak;(try simp only[Act.put,yA,yC,yB])
 go_upto_region 4 with fail
 clear y1 z1;generalize w4.setCell ⟨p,1,none⟩ (.slice (some ⟨g4,0,none⟩) (R3.nh.length+1) AT)=w5 at *;obtain⟨R5,AK,AE⟩:=Bb.out;have Bq:Hid (OkP w p B R ((s.kid i).add ⟨xk,xp,xt,xn,[]⟩) w5):=yD ⟨R5,AK,((xK.ext AX.out).trans Ap.out).trans AE⟩;have Ae:=yD ((BZ.out.xO Ap.out).xO AE);have BS:=yD (Ad.out.xO AE);have BJ:=yD AK;have c5:w5.cell? ⟨gx,5,none⟩=some (.slice eA l.length ec):=BS.out.1.cell 5;have BR:=yD (((xK.ext (M:=xJ p R) AX.out).trans Ap.out).trans AE);clear AK AE
 go_wp2_with fail
 go_loopw [46] (fun i' wr=>∃(k:Nat) (R':xW),k≤l.length∧i'=.int .i64 k∧Hid (PS wr p B (zDr s.nd.length (l.take k) ((s.kid i).add ⟨xk,xp,xt,xn,[]⟩)) R')∧Hid (xK w (xJ p R) wr (xJ p R'))∧Hid (zJP wr (xJ p R') l eA ef)) (fun i' _=>l.length-(intOf i').toNat)
 case atStart=>exact⟨0,R5,zT _,rfl,BJ,BR,Ae⟩
 case round=>
  obtain⟨k,R',hk,rfl,A8,A3,AI⟩:=hrel;obtain⟨wa,rfl⟩:∃wa:World,wa=wr:=⟨_,rfl⟩;have Bt:=Bj.out
  by_cases AD:k<l.length
  ·have d0:decide ((k:Int)<(l.length:Int))=true:=yP (by omega)
   have q1:(k:Int)<(l.length:Int):=by omega
   obtain⟨b,rfl,hb,Bp,AG⟩:∃b,eA=some ⟨b,0,none⟩∧b<wa.heap.size∧¬xJ p R' b∧∀k,k<l.length→∀j,j<6→wa.cell? ⟨b,k*6+j,none⟩=(ef k)[j]?:=by
    rcases AI.out.2 with h | h
    ·rw[h] at AD; cases AD
    ·exact h
   have Ah:=AI.out.1 k AD;have BK:=yD Ah;have BN:=yD (Ai.out l[k] (yL AD));obtain⟨A',c',f',Ao,_⟩:=Ah.open;have e0:=AG k AD 0 (by decide);have e1:=AG k AD 1 (by decide);have e2:=AG k AD 2 (by decide);have e3:=AG k AD 3 (by decide);have e4:=AG k AD 4 (by decide);have e5:=AG k AD 5 (by decide);rw[Ao] at e0 e1 e2 e3 e4 e5;have Bg:=yD Ao;simp only[jP,yJ,List.getElem?_cons_succ,Nat.add_zero] at e0 e1 e2 e3 e4 e5;clear Ah Ao AG;generalize l[k].node=y at *;obtain⟨yk,yp,yt,yn,Bi⟩:=y
   simp only at e0 e1 e2 e3 e4 e5
   generalize l[k].parts.length=ym at *;have Ar:Hid (xK wa (xJ p R') (wa.alloc (.cells #[.int .u8 (yk:Int),.int .i64 (yp:Int),.string (yX yt),.int .i64 yn,.slice none 0 0,.slice A' ym c'] 232)) (xJ p R')):=yD (xK.ext (Ext.alloc _ _));have BW:=yD (A8.out.ext (Ext.alloc wa (.cells #[.int .u8 (yk:Int),.int .i64 (yp:Int),.string (yX yt),.int .i64 yn,.slice none 0 0,.slice A' ym c'] 232)));have BE:=yD (zIB s.nd.length l k AD ((s.kid i).add ⟨xk,xp,xt,xn,[]⟩));have Bl:Hid (Good (zDr s.nd.length (l.take k) ((s.kid i).add ⟨xk,xp,xt,xn,[]⟩))):=yD (zIv _ _ _ (zI3 HG.out i _ rfl))
   have BY:Hid (R.nh.length<(zDr s.nd.length (l.take k) ((s.kid i).add ⟨xk,xp,xt,xn,[]⟩)).nd.length):=yD (by
    have:=(zLe s.nd.length (l.take k) ((s.kid i).add ⟨xk,xp,xt,xn,[]⟩)).1
    rw[zAV] at this
    have:=Aa.out
    omega)
   have Bo:Hid ((zDr s.nd.length (l.take k) ((s.kid i).add ⟨xk,xp,xt,xn,[]⟩)).nd.length+l[k].size≤1000000):=yD (by
    rw[zIi,zAV];have h1:=zFk (l.map Ex.size) k (by simpa using AD);rw[←List.map_take,zA] at h1;have h2:=BX.out;have h3:=BQ.out
    omega)
   go_wp2_with fail
   refine(BG.out l[k] (by have:=BN.out; have:=BM.out; omega) _ p B _ R' R.nh.length (jP ⟨yk,yp,yt,yn,Bi⟩ A' ym c') BW.out Bl.out BY.out Bo.out (by rw[←Bg.out]; exact BK.out.xO Ar.out)).mono ?_;rintro e' w6 ⟨rfl,R6,Aq,Ag⟩;have BO:Hid (PS w6 p B (zDr s.nd.length (l.take (k+1)) ((s.kid i).add ⟨xk,xp,xt,xn,[]⟩)) R6):=yD (by rw[BE.out,Aa.out] ; rw[Aa.out] at Aq; exact Aq);have Ba:=yD ((A3.out.trans Ar.out).trans Ag);have BP:=yD ((AI.out.xO Ar.out).xO Ag);clear Aq Ag
   go_wp2_with fail
   go_roundw
   case rel=>exact⟨k+1,R6,by omega,by go_num,BO,Ba,BP⟩
   case measure=>simp[intOf]; omega
  ·obtain rfl:k=l.length:=by omega
   have d0:decide ((l.length:Int)<(l.length:Int))=false:=by simp
   have d1:decide (l.length<l.length)=false:=by simp
   have At:Hid (OkP w p B R (zBg i e s) wa):=yD (by
    rw[HQ.out];have h:=A8.out;rw[List.take_length] at h
    exact⟨R',h,A3.out⟩)
   go_wp2_with fail
   go_end0;exact⟨rfl,At.out⟩
theorem zKY:∀(f:Nat) (e:Ex),e.size≤f→∀(w:World) (p B:Nat) (s:Ps) (R:xW) (i:Nat) (cs:List Value),PS w p B s R→Good s→i<s.nd.length→s.nd.length+e.size≤1000000→EX w (xJ p R) e cs →
  Calls Tryz.prog 206 #[.pointer (some ⟨p,0,none⟩),.int .i64 (i:Int),.agg cs.toArray] w fun en w'=>en=.returned (.tuple #[])∧OkP w p B R (zBg i e s) w'
 | 0,e,hs=>by have:=e.zLn; omega
 | f+1,e,hs=>fun w p B s R i cs h1 h2 h3 h4 h5=>zPh f (zKY f) e hs w p B s R i cs h1 h2 h3 h4 h5
end Go.Proofs.YtioffpjajhalaaaGreatDoor
