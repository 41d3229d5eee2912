/- The program's within: whatever is done within. (and what follows of it). The conditions stand at each lemma. -/
import Derived.Test.YtbadjmmjbpeocaaGreatKaa
import Derived.Test.YtbadjmmjbpeocaaGreatKar
import Derived.Deep.Cut
set_option linter.unusedVariables false
set_option linter.unusedSimpArgs false
set_option maxRecDepth 100000
set_option maxHeartbeats 16000000
namespace Go.Proofs.YtbadjmmjbpeocaaGreat
open Go Go.RowKit
def Or (M X:Nat→Prop)(b:Nat):Prop:=M b∨X b
def OkX (X:Nat→Prop)(w:World)(p B:Nat)(R R':xU)(s':Ps)(w':World):Prop:=PS w' p B s' R'∧xC w (Or (xK p R) X) w' (Or (xK p R') X)
theorem xC.or {w w':World}{M M':Nat→Prop}(h:xC w M w' M')(X:Nat→Prop):xC w (Or M X) w' (Or M' X):=
 ⟨h.os,h.tape,h.output,h.size,fun b hb hM=>h.jK b hb fun k=>hM (.inl k),fun b hb=>by
  rcases hb with hb | hb
  ·rcases h.zDC b hb with h1 | h1
   ·exact .inl (.inl h1)
   ·exact .inr h1
  ·exact .inl (.inr hb)⟩
def zAd {α:Type}(X:Nat→Prop)(w:World)(p B:Nat)(R:xU)(r:Res α)(V:α→xU→World→Prop)(e:Ending)(w':World):Prop:=
 match r with
 | .ok a s'=>e=.returned (.tuple #[])∧∃R',OkX X w p B R R' s' w'∧V a R' w'
 | .err er a=>e=jW er∧∃s' R',s'.hd.at_=a∧OkX X w p B R R' s' w'
theorem OkX.trans {X:Nat→Prop}{w w1 w2:World}{p B:Nat}{R R1 R2:xU}{s:Ps}(h:xC w (Or (xK p R) X) w1 (Or (xK p R1) X))(k:OkX X w1 p B R1 R2 s w2):OkX X w p B R R2 s w2:=⟨k.1,h.trans k.2⟩
theorem zAd.trans {α:Type}{X:Nat→Prop}{w w1 w2:World}{p B:Nat}{R R1:xU}{r:Res α}{V:α→xU→World→Prop}{e:Ending}(h:xC w (Or (xK p R) X) w1 (Or (xK p R1) X))(k:zAd X w1 p B R1 r V e w2):zAd X w p B R r V e w2:=by
 cases r with
 | ok a s=>obtain⟨h1,R',h2,h3⟩:=k; exact⟨h1,R',h2.trans h,h3⟩
 | err er a=>obtain⟨h1,s',R',h2,h3⟩:=k; exact⟨h1,s',R',h2,h3.trans h⟩
theorem zAd.ofU {X:Nat→Prop}{w:World}{p B:Nat}{R:xU}{r:Res Unit}{e:Ending}{w':World}(h:xM w p B R r e w'):zAd X w p B R r (fun _ _ _=>True) e w':=by
 cases r with
 | ok a s=>obtain⟨h1,R',h2,h3⟩:=h; exact⟨h1,R',⟨h2,h3.or X⟩,trivial⟩
 | err er a=>obtain⟨h1,s',h2,R',h3,h4⟩:=h; exact⟨h1,s',R',h2,h3,h4.or X⟩
theorem zAd.unit {α:Type}{X:Nat→Prop}{w:World}{p B:Nat}{R:xU}{r:Res α}{V:α→xU→World→Prop}{e:Ending}{w':World}(h:zAd X w p B R r V e w'):(∃a s' R',r=.ok a s'∧e=.returned (.tuple #[])∧OkX X w p B R R' s' w'∧V a R' w')∨(∃er a,r=.err er a∧e=jW er∧∃s' R',s'.hd.at_=a∧OkX X w p B R R' s' w'):=by
 cases r with
 | ok a s'=>obtain⟨h1,R',h2,h3⟩:=h; exact .inl ⟨a,s',R',rfl,h1,h2,h3⟩
 | err er a=>exact .inr ⟨er,a,rfl,h⟩
def noX:Nat→Prop:=fun _=>False
theorem zAd.toU {w:World}{p B:Nat}{R:xU}{r:Res Unit}{V:Unit→xU→World→Prop}{e:Ending}{w':World}(h:zAd noX w p B R r V e w'):xM w p B R r e w':=by
 have hm:∀ {w' R'},xC w (Or (xK p R) noX) w' (Or (xK p R') noX)→xC w (xK p R) w' (xK p R'):=fun h=>⟨h.os,h.tape,h.output,h.size,fun b hb hM=>h.jK b hb (fun k=>by rcases k with k | k; exact hM k; exact k),fun b hb=>by
  rcases h.zDC b (.inl hb) with (h1 | h1) | h1
  ·exact .inl h1
  ·exact h1.elim
  ·exact .inr h1⟩
 cases r with
 | ok a s=>obtain⟨h1,R',h2,_⟩:=h; exact⟨h1,R',h2.1,hm h2.2⟩
 | err er a=>obtain⟨h1,s',R',h2,h3⟩:=h; exact⟨h1,s',h2,R',h3.1,hm h3.2⟩
theorem PS.zLB {w:World}{p B:Nat}{s:Ps}{R:xU}(h:PS w p B s R)(d:Nat)(hd:d≤64):PS (w.setCell ⟨p,2,none⟩ (.int .i64 (d:Int))) p B { s with deep:=d } R∧xC w (xK p R) (w.setCell ⟨p,2,none⟩ (.int .i64 (d:Int))) (xK p R):=by
 refine⟨⟨?_,fun k hk=>?_,h.zID,h.zE8,h.nodes,?_,h.pB,⟨h.xR.last,hd⟩⟩,xC.set (.inl rfl)⟩
 ·have:=h.blk.put 2 (.int .i64 (d:Int))
  simpa using this
 ·have hne:R.bt≠p:=by have:=h.zE8; have:=h.pB; omega
  exact(World.cell?_of_block (w:=w) (zS w ⟨p,2,none⟩ _ R.bt hne)).trans (h.zM9 k hk)
 ·refine h.ns.jK fun b hb=>zS w ⟨p,2,none⟩ _ b fun e=>?_;rw[e] at hb;exact h.ns.zDn h.blk (by decide) (by decide) hb
theorem zPS {α:Type}{a z:Bs}{body:Pm α}{s:Ps}(h:isP a s=false):jE a z body s=.err 50 s.hd.at_:=by unfold jE; rw[h]; rfl
theorem zNn {α:Type}{a z:Bs}{body:Pm α}{s:Ps}(h:isP a s=true)(hd:s.deep=64):jE a z body s=.err 51 s.hd.at_:=by unfold jE; rw[if_pos h,if_pos hd]
theorem zOb {α:Type}{a z:Bs}{body:Pm α}{s:Ps}(h:isP a s=true)(hd:s.deep≠64):jE a z body s=(body { s.adv with deep:=s.deep+1 }).bind fun x s=>if z=[] then .ok x { s with deep:=s.deep-1 } else (vX z s).bind fun _ s=>.ok x { s with deep:=s.deep-1 }:=by unfold jE; rw[if_pos h,if_neg hd]
theorem zCy {α:Type}(X:Nat→Prop)(w:World)(p B:Nat)(s:Ps)(R:xU)(a z:Bs)(K:Nat)(first cap:Array Value)(body:Pm α)(V:α→xU→World→Prop)(h:PS w p B s R)(he:∀args w,(callFunc K args).run Tryz.prog w=.ok (.enter K args) w)
  (hV:∀x R1 w1 R2 w2,V x R1 w1→xC w1 (xK p R1) w2 (xK p R2)→V x R2 w2)
  (hdeep:isP a s=true→s.deep≠64→∀x s',body { s.adv with deep:=s.deep+1 } = .ok x s'→s'.deep=s.deep+1)
  (hbody:isP a s=true→s.deep≠64→∀(wr:World) (R':xU),xC w (xK p R) wr (xK p R')→PS wr p B { s.adv with deep:=s.deep+1 } R'→Calls Tryz.prog K (first++cap) wr (zAd X wr p B R' (body { s.adv with deep:=s.deep+1 }) V)) :
  Calls Tryz.prog 141 #[.pointer (some ⟨p,0,none⟩),.string (xH a),.string (xH z),.func (.func K) first cap] w (zAd X w p B R (jE a z body s) V):=by
 have HP:=yG h;have HE:=yG he;have HV:=yG hV;have HDP:=yG hdeep;have HB:=yG hbody;clear h he hV hbody hdeep
 cases hi:isP a s with
 | false=>
  have HI:=yG hi;have HW:Hid (jE a z body s=.err 50 s.hd.at_):=yG (zPS hi);clear hi
  go_enter Tryz.func141,Tryz.ntmps141
  go_wp2_with fail
  refine(XR w p B s R a false HI HP.out).mono ?_;rintro e w1 ⟨rfl,hx1⟩;have HF:Hid (zAd X w p B R (jE a z body s) V (jW 50) w1):=yG (by rw[HW.out]; exact⟨rfl,s,R,rfl,HP.out.ext hx1,(xC.ext hx1).or X⟩);clear hx1
  go_wp2_with fail
  refine(zBk _ p 50).mono ?_;rintro e w2 ⟨rfl,rfl⟩;exact xD (P:=Tryz.prog) (fn:=Tryz.f141) rfl HF.out
 | true=>
  have HI:=yG hi
  by_cases hd:s.deep=64
  ·have HW:Hid (jE a z body s=.err 51 s.hd.at_):=yG (zNn hi hd);have HD:=yG hd;clear hi hd
   go_enter Tryz.func141,Tryz.ntmps141
   go_wp2_with fail
   refine(XR w p B s R a true HI HP.out).mono ?_;rintro e w1 ⟨rfl,hx1⟩;have HF:Hid (zAd X w p B R (jE a z body s) V (jW 51) w1):=yG (by rw[HW.out]; exact⟨rfl,s,R,rfl,HP.out.ext hx1,(xC.ext hx1).or X⟩);have x2:=(HP.out.ext hx1).x2;rw[HD.out] at x2;clear hx1
   go_wp2_with fail
   refine(zBk _ p 51).mono ?_;rintro e w2 ⟨rfl,rfl⟩;exact xD (P:=Tryz.prog) (fn:=Tryz.f141) rfl HF.out
  ·have HD:=yG hd;have HW:=yG (zOb (z:=z) (body:=body) hi hd)
   have e64:((s.deep:Int)==64)=false:=by rw[yI]; omega
   have hle:=HP.out.xR.deep;have HK4:=yG (vN hi).1;have HN:Hid ((s.deep:Int)+1=((s.deep+1:Nat):Int)):=yG (by omega);have HLE:Hid (s.deep+1≤64):=yG (by omega);have HT:Hid (vX a { s with deep:=s.deep+1 } = .ok () { s.adv with deep:=s.deep+1 }):=yG (by unfold vX; rw[show isP a { s with deep:=s.deep+1 } = isP a s from rfl,if_pos hi]; rfl);clear hi hd
   go_enter Tryz.func141,Tryz.ntmps141
   go_wp2_with fail
   refine(XR w p B s R a true HI HP.out).mono ?_;rintro e w1 ⟨rfl,hx1⟩;have HX1:=yG hx1;have HP1:=yG (HP.out.ext hx1);have x2:=HP1.out.x2;have z2:=HP1.out.blk.frozen 2;have HP2:=yG (HP1.out.zLB (s.deep+1) HLE.out);clear hx1
   go_wp2_with fail
   rw[HN.out];generalize w1.setCell ⟨p,2,none⟩ (.int .i64 ((s.deep+1:Nat):Int))=w2 at *;refine(jG w2 p B _ R a HP2.out.1).mono ?_;rw[HT.out];rintro e w3 ⟨rfl,R3,hp3,hm3⟩;have HP3:=yG hp3;have HM3:=yG (((xC.ext HX1.out).trans HP2.out.2).trans hm3);clear hp3 hm3 x2 z2;have he:=HE.out
   go_wp2_with fail
   refine(HB.out HI.out HD.out _ R3 HM3.out HP3.out).mono ?_;intro e w4 hpost
   rcases hpost.unit with ⟨x,s4,R4,hr,rfl,ho,hv⟩ | ⟨er,at_,hr,rfl,s4,R4,hat,ho⟩
   rotate_left
   ·have HF:Hid (zAd X w p B R (jE a z body s) V (jW er) w4):=yG (by rw[HW.out,hr]; exact⟨rfl,s4,R4,hat,ho.trans (HM3.out.or X)⟩);exact xD (P:=Tryz.prog) (fn:=Tryz.f141) rfl HF.out
   have HR:=yG hr;have HP4:=yG ho.1;have HM4:=yG ((HM3.out.or X).trans ho.2);have HV4:=yG hv;have HD4:=yG (HDP.out HI.out HD.out x s4 hr);clear hpost hr ho hv he;have hle2:s.deep+1≤64:=HLE.out
   by_cases hz:z=[]
   ·have HW2:Hid (jE a z body s=.ok x { s4 with deep:=s.deep }):=yG (by rw[HW.out,HR.out,VL,if_pos hz,HD4.out]; rfl)
    have hbz:(xH z).toList.isEmpty=true:=by subst hz; rw[VS]; rfl
    have x2:=HP4.out.x2;rw[HD4.out] at x2;have z2:=HP4.out.blk.frozen 2;have HP5:=yG (HP4.out.zLB s.deep (by omega));clear hz
    go_wp2_with fail
    go_end0;rw[HW2.out];exact⟨rfl,R4,⟨HP5.out.1,HM4.out.trans (HP5.out.2.or X)⟩,HV.out _ _ _ _ _ HV4.out HP5.out.2⟩
   ·have hbz:(xH z).toList.isEmpty=false:=by
     cases z with
     | nil=>exact absurd rfl hz
     | cons b l=>simp[VS]
    have HZ:=yG hz;clear hz
    go_wp2_with fail
    refine(jG w4 p B s4 R4 z HP4.out).mono ?_;intro e w5 hpost
    cases hq:vX z s4 with
    | err er at_=>
     rw[hq] at hpost;obtain⟨rfl,s5,hat,R5,hp5,hm5⟩:=hpost;have HF:Hid (zAd X w p B R (jE a z body s) V (jW er) w5):=yG (by rw[HW.out,HR.out,VL,if_neg HZ.out,hq]; exact⟨rfl,s5,R5,hat,hp5,HM4.out.trans (hm5.or X)⟩);exact xD (P:=Tryz.prog) (fn:=Tryz.f141) rfl HF.out
    | ok y s5=>
     rw[hq] at hpost;obtain⟨rfl,R5,hp5,hm5⟩:=hpost
     have hd5:s5.deep=s.deep+1:=by
      unfold vX at hq
      split at hq
      ·injection hq with _ e2;rw[←e2];exact HD4.out
      ·cases hq
     have HW2:Hid (jE a z body s=.ok x { s5 with deep:=s.deep }):=yG (by rw[HW.out,HR.out,VL,if_neg HZ.out,hq,VL,hd5]; rfl);have x2:=hp5.x2;rw[hd5] at x2;have z2:=hp5.blk.frozen 2;have HP6:=yG (hp5.zLB s.deep (by omega));have HM5:=yG (HM4.out.trans (hm5.or X));have HV5:=yG (HV.out _ _ _ _ _ HV4.out hm5);clear hq hp5 hm5 hd5
     go_wp2_with fail
     go_end0;rw[HW2.out];exact⟨rfl,R5,⟨HP6.out.1,HM5.out.trans (HP6.out.2.or X)⟩,HV.out _ _ _ _ _ HV5.out HP6.out.2⟩
structure Ran (w:World)(p B:Nat)(R:xU)(s:Ps)(w':World)(R':xU)(s':Ps):Prop where
 ps:PS w' p B s' R'
 mv:xC w (xK p R) w' (xK p R')
 lt:ZJ s s'
theorem Ran.refl {w:World}{p B:Nat}{R:xU}{s:Ps}(h:PS w p B s R)(g:Good s):Ran w p B R s w R s:=⟨h,xC.refl _ _,ZJ.refl g⟩
theorem Ran.ext {w w' w2:World}{p B:Nat}{R R':xU}{s s':Ps}(h:Ran w p B R s w' R' s')(hx:Ext w' w2):Ran w p B R s w2 R' s':=⟨h.ps.ext hx,h.mv.trans (xC.ext hx),h.lt⟩
theorem Ran.nd {w w':World}{p B:Nat}{R R':xU}{s s':Ps}(h:Ran w p B R s w' R' s')(hb:s.phi≤1000000):s'.nd.length≤1000000:=by have:=h.lt.phi; unfold Ps.phi at this hb; omega
theorem Ran.phi {w w':World}{p B:Nat}{R R':xU}{s s':Ps}(h:Ran w p B R s w' R' s')(hb:s.phi≤1000000):s'.phi≤1000000:=Nat.le_trans h.lt.phi hb
theorem Ran.idx {w w':World}{p B:Nat}{R R':xU}{s s':Ps}(h:Ran w p B R s w' R' s'){i:Nat}(hi:i<s.nd.length):i<s'.nd.length:=yU hi h.lt.nd
theorem Ran.few {w w':World}{p B:Nat}{R R':xU}{s s':Ps}(h:Ran w p B R s w' R' s'){n:Nat}(hn:s.ts.length≤n):s'.ts.length≤n:=Nat.le_trans h.lt.ts hn
theorem Ran.okp {w w':World}{p B:Nat}{R R':xU}{s s':Ps}(h:Ran w p B R s w' R' s'):OkP w p B R s' w':=⟨R',h.ps,h.mv⟩
theorem Ran.then {w w1 w2:World}{p B:Nat}{R R1:xU}{s s1 s2:Ps}(h:Ran w p B R s w1 R1 s1)(k:OkP w1 p B R1 s2 w2)(hl:ZJ s1 s2):∃R2,Ran w p B R s w2 R2 s2:=let ⟨R2,a,b⟩:=k; ⟨R2,a,h.mv.trans b,h.lt.trans hl⟩
theorem Ran.go {α:Type}{w w1 w2:World}{p B:Nat}{R R1:xU}{s s1:Ps}{r:Res Unit}{whole:Res α}{f:Unit→Ps→Res α}{e:Ending}(HL:Hid (whole=r.bind f))(h:Hid (Ran w p B R s w1 R1 s1))(hf:jO s1 r)(hp:xM w1 p B R1 r e w2) :
  (∃s2 R2,Hid (whole=f () s2)∧e=.returned (.tuple #[])∧Hid (Ran w p B R s w2 R2 s2))∨(∃er a,e=jW er∧Hid (whole=.err er a)∧Hid (VD w p B R er a (jW er) w2)):=by
 cases r with
 | ok a s2=>
  obtain⟨h1,R2,h2,h3⟩:=hp;exact .inl ⟨s2,R2,yG HL.out,h1,yG ⟨h2,h.out.mv.trans h3,h.out.lt.trans hf⟩⟩
 | err er a=>
  obtain⟨h1,h2⟩:=hp;exact .inr ⟨er,a,h1,yG HL.out,yG (VD.trans h.out.mv ⟨rfl,h2⟩)⟩
theorem ZG {r whole:Res Unit}(h:whole=r):whole=r.bind fun _ s=>.ok () s:=by rw[h]; cases r <;> rfl
theorem zGR {α:Type}{s:Ps}{t:Bs}{whole x y:Res α}(h:Hid (whole=if isP t s=true then x else y))(hi:Hid (isP t s=true)):whole=x:=by rw[h.out,if_pos hi.out]
theorem zKC {α:Type}{s:Ps}{t:Bs}{whole x y:Res α}(h:Hid (whole=if isP t s=true then x else y))(hi:Hid (isP t s=false)):whole=y:=by rw[h.out,hi.out]; rfl
theorem ZJ.num {s:Ps}(h:Good s)(i:Nat)(x:Int):ZJ s (s.num i x):=zAp h (fun _=>rfl)
theorem ZJ.kind {s:Ps}(h:Good s)(i k:Nat):ZJ s (s.kind i k):=zAp h (fun _=>rfl)
theorem zBg {s:Ps}{t:Bs}(g:Good s)(h:Hid (isP t s=true)):ZJ s s.adv:=VF g (vN h.out).1
def Ex.node:Ex→Nd
 | .leaf k p t n=>⟨k,p,t,n,[]⟩
 | .neg p _=>⟨26,p,[],0,[]⟩
 | .bin k p _ _=>⟨k,p,[],0,[]⟩
def Ex.parts:Ex→List Ex
 | .leaf ..=>[]
 | .neg _ a=>[a]
 | .bin _ _ a b=>[a,b]
theorem Ex.zQj (e:Ex):e.node.kids=[]:=by cases e <;> rfl
theorem Ex.zNb (e:Ex):e.node.pos=e.pos:=by cases e <;> rfl
def zE9 (i:Nat):List Ex→Ps→Ps
 | [],s=>s
 | x::l,s=>zE9 i l (zBW i x s)
theorem zTc (i:Nat)(e:Ex)(s:Ps):zBW i e s=zE9 s.nd.length e.parts ((s.kid i).add e.node):=by cases e <;> rfl
theorem zK7 (i:Nat):∀(l:List Ex) (k:Nat) (hk:k<l.length) (s:Ps),zE9 i (l.take (k+1)) s=zBW i l[k] (zE9 i (l.take k) s)
 | x::l,0,_,s=>rfl
 | x::l,k+1,hk,s=>zK7 i l k (by simpa using hk) (zBW i x s)
theorem Ex.zQy (e:Ex):∀x ∈ e.parts,x.size<e.size:=by
 intro x hx
 cases e with
 | leaf=>cases hx
 | neg p a=>rw[List.mem_singleton.1 hx]; show a.size<a.size+1; omega
 | bin k p a b=>
  have hx':x ∈ [a,b]:=hx;simp only[zU,List.not_mem_nil,or_false] at hx'
  rcases hx' with rfl | rfl
  ·show x.size<x.size+b.size+1; omega
  ·show x.size<a.size+x.size+1; omega
theorem Ex.zQq (e:Ex):e.parts.length≤2:=by cases e <;> simp[Ex.parts]
def jY (n:Nd)(A:Option Addr)(m c:Nat):List Value:=[.int .u8 (n.kind:Int),.int .i64 (n.pos:Int),.string (xH n.text),.int .i64 n.num,.slice none 0 0,.slice A m c]
def EX (w:World)(M:Nat→Prop):Ex→List Value→Prop
 | .leaf k p t n,cs=>cs=jY ⟨k,p,t,n,[]⟩ none 0 0
 | .neg p a,cs=>∃g ca,cs=jY ⟨26,p,[],0,[]⟩ (some ⟨g,0,none⟩) 1 1∧Safe w M g 225 ca.toArray∧EX w M a ca
 | .bin k p a b,cs=>∃g ca cb,cs=jY ⟨k,p,[],0,[]⟩ (some ⟨g,0,none⟩) 2 2∧Safe w M g 225 (ca++cb).toArray∧EX w M a ca∧EX w M b cb
theorem EX.xE {w w':World}{M M':Nat→Prop}(k:xC w M w' M'):∀ {e:Ex} {cs:List Value},EX w M e cs→EX w' M' e cs
 | .leaf ..,_,h=>h
 | .neg ..,_,⟨g,ca,h1,h2,h3⟩=>⟨g,ca,h1,h2.xE k,EX.xE k h3⟩
 | .bin ..,_,⟨g,ca,cb,h1,h2,h3,h4⟩=>⟨g,ca,cb,h1,h2.xE k,EX.xE k h3,EX.xE k h4⟩
theorem EX.len {w:World}{M:Nat→Prop}:∀ {e:Ex} {cs:List Value},EX w M e cs→cs.length=6
 | .leaf ..,_,h=>by rw[h]; rfl
 | .neg ..,_,⟨g,ca,h1,h2,h3⟩=>by rw[h1]; rfl
 | .bin ..,_,⟨g,ca,cb,h1,h2,h3,h4⟩=>by rw[h1]; rfl
def zMv (w:World)(M:Nat→Prop)(l:List Ex)(A:Option Addr)(f:Nat→List Value):Prop:=
 (∀k (hk:k<l.length),EX w M l[k] (f k))∧(l=[]∨∃b,A=some ⟨b,0,none⟩∧b<w.heap.size∧¬M b∧∀k,k<l.length→∀j,j<6→w.cell? ⟨b,k*6+j,none⟩=(f k)[j]?)
theorem zMv.xE {w w':World}{M M':Nat→Prop}{l:List Ex}{A:Option Addr}{f:Nat→List Value}(h:zMv w M l A f)(k:xC w M w' M'):zMv w' M' l A f:=by
 refine⟨fun j hj=>(h.1 j hj).xE k,?_⟩
 rcases h.2 with h | ⟨b,h1,h2,h3,h4⟩
 ·exact .inl h
 ·refine .inr ⟨b,h1,yU h2 k.size,fun h5=>by rcases k.zDC b h5 with h6 | h6 <;> first | exact h3 h6 | omega,fun i hi j hj=>?_⟩
  rw[World.cell?_of_block (w:=w) (k.jK b h2 h3)];exact h4 i hi j hj
theorem EX.open {w:World}{M:Nat→Prop}{e:Ex}{cs:List Value}(h:EX w M e cs):∃A c f,cs=jY e.node A e.parts.length c∧zMv w M e.parts A f:=by
 cases e with
 | leaf k p t n=>exact⟨none,0,fun _=>[],h,⟨fun k hk=>by simp[Ex.parts] at hk,.inl rfl⟩⟩
 | neg p a=>
  obtain⟨g,ca,h1,h2,h3⟩:=h;have hl:=h3.len;refine⟨_,_,fun _=>ca,h1,⟨fun k hk=>?_,.inr ⟨g,rfl,h2.1.lt,h2.2,fun k hk j hj=>?_⟩⟩⟩
  ·obtain rfl:k=0:=by simpa [Ex.parts] using hk
   exact h3
  ·obtain rfl:k=0:=by simpa [Ex.parts] using hk
   rw[Nat.zero_mul,Nat.zero_add,h2.1.cell j]
   simp
 | bin kd p a b=>
  obtain⟨g,ca,cb,h1,h2,h3,h4⟩:=h;have hl:=h3.len;refine⟨_,_,fun k=>if k=0 then ca else cb,h1,⟨fun k hk=>?_,.inr ⟨g,rfl,h2.1.lt,h2.2,fun k hk j hj=>?_⟩⟩⟩
  ·have hk':k<2:=hk
   match k,hk' with
   | 0,_=>exact h3
   | 1,_=>exact h4
  ·have hk':k<2:=hk;rw[h2.1.cell (k*6+j)]
   match k,hk' with
   | 0,_=>
    show(ca++cb).toArray[0*6+j]?=ca[j]?
    rw[Nat.zero_mul,Nat.zero_add,yL,List.getElem?_append_left (by omega)]
   | 1,_=>
    show(ca++cb).toArray[1*6+j]?=cb[j]?
    rw[yL,List.getElem?_append_right (by omega)]
    congr 1
    omega
theorem zLH {s:Ps}(h:Good s)(i:Nat)(x:Nd)(hx:x.kids=[]):Good ((s.kid i).add x):=⟨h.last,h.deep,zBx h.few i x hx⟩
theorem zNK (i:Nat):∀(l:List Ex) (s:Ps),s.nd.length≤(zE9 i l s).nd.length∧(zE9 i l s).ts=s.ts∧(zE9 i l s).deep=s.deep
 | [],s=>⟨zX _,rfl,rfl⟩
 | x::l,s=>by
  obtain⟨h1,h2,h3⟩:=zNK i l (zBW i x s);obtain⟨k1,k2,k3⟩:=zCA x i s;exact⟨by show _≤(zE9 i l (zBW i x s)).nd.length; omega,h2.trans k2,h3.trans k3⟩
theorem zKY (i:Nat):∀(l:List Ex) (s:Ps),Good s→Good (zE9 i l s)
 | [],s,h=>h
 | x::l,s,h=>zKY i l _ (by
  obtain⟨k1,k2,k3⟩:=zCA x i s
  exact⟨by rw[k2]; exact h.last,by rw[k3]; exact h.deep,zFN x i s h.few⟩)
theorem zKF (i:Nat):∀(l:List Ex) (s:Ps),(zE9 i l s).nd.length=s.nd.length+(l.map Ex.size).sum
 | [],s=>rfl
 | x::l,s=>by
  show(zE9 i l (zBW i x s)).nd.length=_
  rw[zKF i l,(zCA x i s).1,List.map_cons,List.sum_cons];omega
theorem Ex.zOT (e:Ex):e.size=(e.parts.map Ex.size).sum+1:=by cases e <;> simp[Ex.size,Ex.parts]
theorem zG7:∀(l:List Nat) (k:Nat) (hk:k<l.length),(l.take k).sum+l[k]≤l.sum
 | x::l,0,_=>by simp
 | x::l,k+1,hk=>by
  have:=zG7 l k (by simpa using hk)
  simp only[List.take_succ_cons,List.sum_cons,List.getElem_cons_succ];omega
theorem Ex.zNX:∀(e:Ex),0<e.size
 | .leaf ..=>Nat.zero_lt_one
 | .neg ..=>Nat.succ_pos _
 | .bin ..=>Nat.succ_pos _
theorem zQZ (f:Nat)(ih:∀(e:Ex),e.size≤f→∀(w:World) (p B:Nat) (s:Ps) (R:xU) (i:Nat) (cs:List Value),PS w p B s R→Good s→i<s.nd.length→s.nd.length+e.size≤1000000→EX w (xK p R) e cs →
  Calls Tryz.prog 174 #[.pointer (some ⟨p,0,none⟩),.int .i64 (i:Int),.agg cs.toArray] w fun en w'=>en=.returned (.tuple #[])∧OkP w p B R (zBW i e s) w')
  (e:Ex) (hsz:e.size≤f+1) (w:World) (p B:Nat) (s:Ps) (R:xU) (i:Nat) (cs:List Value) (h:PS w p B s R) (hG:Good s) (hi:i<s.nd.length) (hbig:s.nd.length+e.size≤1000000) (hx:EX w (xK p R) e cs) :
  Calls Tryz.prog 174 #[.pointer (some ⟨p,0,none⟩),.int .i64 (i:Int),.agg cs.toArray] w fun en w'=>en=.returned (.tuple #[])∧OkP w p B R (zBW i e s) w':=by
 obtain⟨i0,hi0,hz0,hz1,hz2⟩:=info_parts zHA;obtain⟨i1,hi1,hy0,hy1,hy2⟩:=info_parts zM2;obtain⟨eA,ec,ef,hcs,hpt⟩:=hx.open;have HQ:=yG (zTc i e s);have HSZ:=yG hsz;have HBG:=yG hbig;have HSP:=yG e.zOT;have HEP:=yG e.zNX;have HPF:=yG e.zQq;have hnk:=e.zQj;have hIH:=yG ih;have hps:=fun x (hx:x ∈ e.parts)=>e.zQy x hx;have HPS0:=yG hps;clear ih hsz hx hps;generalize e.parts=l at *;generalize e.node=x at *;obtain⟨xk,xp,xt,xn,xkids⟩:=x
 simp only at hnk
 subst hnk;subst hcs;have hlen:=h.len
 have hi':i<R.nh.length:=by omega
 obtain⟨g,hA⟩:=h.zRs (by omega);obtain⟨x,hxi⟩:∃x,R.nh[i]=x:=⟨_,rfl⟩;obtain⟨⟨nk,np,nt,nn,kk⟩,kA,kc⟩:=x;unfold jY;obtain⟨gx,HGE⟩:∃gx,Hid (w.heap.size=gx):=⟨_,yG rfl⟩;obtain⟨W,HW⟩:∃W,Hid (W=w.alloc (.cells (jY ⟨xk,xp,xt,xn,[]⟩ eA l.length ec).toArray 225)):=⟨_,yG rfl⟩;have HXW:Hid (Ext w W):=yG (by rw[HW.out]; exact Ext.alloc _ _);have HBX:Hid (Safe W (xK p R) gx 225 (jY ⟨xk,xp,xt,xn,[]⟩ eA l.length ec).toArray):=yG (by rw[HW.out,←HGE.out]; exact h.fresh _ _);have hP:=h.ext HXW.out
 have c4:W.cell? ⟨g,i*5+4,none⟩=some (.slice kA kk.length kc):=by rw[hP.zDe i hi' hA 4 (by decide),hxi]; rfl
 have hkr:=hP.ns.zUH _ (yO hi');have hkk:=hP.ns.kids _ (yO hi');rw[hxi] at hkr hkk
 simp only at hkr hkk
 obtain⟨o,HO⟩:∃o,Hid ((Value.slice kA kk.length kc).ownBlock=o):=⟨_,yG rfl⟩
 have HPN:Hid (some p≠o):=yG fun e=>by
  rw[←HO.out] at e;obtain⟨cur,hc⟩:=xY hkk (xO hkk e.symm);exact Blk.differ hP.blk hc (by decide) rfl
 have HGN:Hid (some g≠o):=yG fun e=>by
  rw[←HO.out] at e;obtain⟨cur,hc⟩:=xY hkk (xO hkk e.symm);obtain⟨cur2,hc2⟩:=xY hP.ns.row hA;exact Blk.differ hc2 hc (by decide) rfl
 have HOG:Hid (∀g,o=some g→g<W.heap.size):=yG fun g e=>by
  rw[←HO.out] at e;exact(jD hkk (xO hkk e)).2
 have hgl:=(jD hP.ns.row hA).2;have hpl:=hP.blk.lt;have HBW:Hid (B≤W.heap.size):=yG (Nat.le_trans hP.pB (zV hpl));have HXI:=yG hxi;have HP:=yG hP;have HA:=yG hA;have HKR:=yG hkr;have HPT:=yG (hpt.xE (xC.ext (M:=xK p R) HXW.out));have HLN:=yG hlen;have HG:=yG hG
 have HKB:Hid (kk.length≤1000000):=yG (by
  have:=hG.few (R.nh[i].1) (by rw[h.nodes]; exact List.mem_map.2 ⟨_,yO hi',rfl⟩)
  rw[HXI.out] at this
  simp only at this
  omega)
 have hbig2:R.nh.length+1≤1000000:=by have:=HEP.out; omega
 obtain⟨Fs,HFS⟩:∃Fs,Hid (FsH B 3 (.slice kA kk.length kc) W.heap.size kk.length (ints kk) [Value.int .i64 (R.nh.length:Int)]=Fs):=⟨_,yG rfl⟩
 have hE:∀F ∈ Fs,∀v w w',F v w→Ext w w'→F v w':=by rw[←HFS.out]; exact zF9 _ _ _ _ _ _ _
 have m0:(fun (_:Value) w=>VM B 3 kk.length (ints kk) (.slice kA kk.length kc) w) ∈ Fs:=by rw[←HFS.out]; simp only[FsH,zU,true_or]
 have m1:zBe 3 W.heap.size #[Value.int .i64 (R.nh.length:Int)] ∈ Fs:=by rw[←HFS.out]; simp only[FsH,zU,true_or,or_true]
 have m2:zJO B 3 o W.heap.size (kk.length+1) (ints kk++[Value.int .i64 (R.nh.length:Int)]) ∈ Fs:=by rw[←HFS.out,←HO.out]; simp only[FsH,zU,true_or,or_true]
 have HE2:=yG hE;have M0:=yG m0;have M1:=yG m1;have M2:=yG m2
 have q0:(i:Int)<(R.nh.length:Int):=by omega
 have C4:=yG c4;have x1:=hP.x1' hA;clear h hG hi hpt hlen hE m0 m1 m2 hxi hkr hkk hA c4 hP hbig
 go_enter Tryz.func174,Tryz.ntmps174
 have HWE:Hid (w.alloc (.cells #[.int .u8 (xk:Int),.int .i64 (xp:Int),.string (xH xt),.int .i64 xn,.slice none 0 0,.slice eA l.length ec] 225)=W):=yG (by rw[HW.out]; rfl)
 go_upto_region 1 with fail
 rw[HWE.out,HGE.out]
 go_upto_region 2 with fail
 apply zA8 o Fs 18 (by kernel_rfl) (by kernel_rfl) (by kernel_rfl) HE2.out;dsimp only[List.take_succ_cons,List.take_zero,List.drop_succ_cons,List.drop_zero];apply yZ (.pointer (some ⟨p,0,none⟩)) rfl rfl rfl
 ·intro w' hw' hH;clear hH hw';simp[xA,go_sem];exact vG.refl _
 apply yZ (.pointer (some ⟨p,0,none⟩)) rfl rfl rfl
 ·intro w' hw' hH;clear hH hw';simp[xA,go_sem];exact vG.refl _
 apply yZ (.pointer (some ⟨p,1,none⟩)) rfl rfl rfl
 ·intro w' hw' hH;clear hH hw';simp[xA,go_sem];exact vG.refl _
 simp only[Act.put,yD,yE,yF];apply yZ (.slice (some ⟨g,0,none⟩) R.nh.length R.c) rfl rfl rfl
 ·intro w' hw' hH;have hR:=vG.refl (o:=o) (Fs:=Fs) w';have cc:=Blk.cell ((hw'.1.block p hpl HPN.out).trans HP.out.blk) 1;rw[HA.out] at cc;clear hH hw';simp[xA,go_sem,cc,q0];exact hR
 apply yZ (.int .i64 (i:Int)) rfl rfl rfl
 ·intro w' hw' hH;clear hH hw';simp[xA,go_sem];exact vG.refl _
 apply yZ (.pointer (some ⟨p,0,none⟩)) rfl rfl rfl
 ·intro w' hw' hH;clear hH hw';simp[xA,go_sem];exact vG.refl _
 apply yZ (.pointer (some ⟨p,0,none⟩)) rfl rfl rfl
 ·intro w' hw' hH;clear hH hw';simp[xA,go_sem];exact vG.refl _
 apply yZ (.pointer (some ⟨p,1,none⟩)) rfl rfl rfl
 ·intro w' hw' hH;clear hH hw';simp[xA,go_sem];exact vG.refl _
 simp only[Act.put,yD,yE,yF];apply yZ (.slice (some ⟨g,0,none⟩) R.nh.length R.c) rfl rfl rfl
 ·intro w' hw' hH;have hR:=vG.refl (o:=o) (Fs:=Fs) w';have cc:=Blk.cell ((hw'.1.block p hpl HPN.out).trans HP.out.blk) 1;rw[HA.out] at cc;clear hH hw';simp[xA,go_sem,cc,q0];exact hR
 apply yZ (.int .i64 (i:Int)) rfl rfl rfl
 ·intro w' hw' hH;clear hH hw';simp[xA,go_sem];exact vG.refl _
 simp only[Act.put,yD,yE,yF];apply yZ (.pointer (some ⟨g,i*5,none⟩)) rfl rfl rfl
 ·intro w' hw' hH;clear hH hw';simp[xA,go_sem,q0];exact vG.refl _
 apply yZ (.pointer (some ⟨g,i*5+4,none⟩)) rfl rfl rfl
 ·intro w' hw' hH;clear hH hw';simp[xA,go_sem,q0];exact vG.refl _
 simp only[Act.put,yD,yE,yF];apply yZ (.slice kA kk.length kc) rfl rfl rfl
 ·intro w' hw' hH;have hR:=vG.refl (o:=o) (Fs:=Fs) w';have cc:=(World.cell?_of_block (w:=W) (a:=⟨g,i*5+4,none⟩) (hw'.1.block g hgl HGN.out)).trans C4.out;clear hH hw';simp[xA,go_sem,cc,q0];exact hR
 apply yZ (.int .i64 (R.nh.length:Int)) rfl rfl rfl
 ·intro w' hw' hH;clear hH hw';simp[xA,go_sem];exact vG.refl _
 apply vB (zBe 3 W.heap.size #[Value.int .i64 (R.nh.length:Int)]) (fun v w w' h hx=>hx.2 _ M1.out v h) rfl rfl rfl
 ·intro w' hw' hH;have hz:=hw'.1.size;clear hH hw';simp[xA,go_sem];exact⟨⟨_,rfl,Blk.new _ _ _,hz⟩,vG.ext HE2.out (Ext.alloc _ _)⟩
 intro v28;simp only[Act.put,yD,yE,yF];apply vB (zJO B 3 o W.heap.size (kk.length+1) (ints kk++[Value.int .i64 (R.nh.length:Int)])) (fun v w w' h hx=>hx.2 _ M2.out v h) rfl rfl rfl
 ·intro w' hw' hH;have hlit:=hH _ (List.mem_cons_self ..) ⟨_,rfl,by decide⟩;have hrow:=hw'.2 _ M0.out undef HKR.out;have hz:=hw'.1.size;clear hH hw';rw[←HFS.out,←HO.out];exact zCB B W.heap.size (.tmp 26) (.tmp 28) 30 rfl 3 i0 _ 8 Tryz.underlying30 hi0 hz0 hz1 hz2 rfl (.slice kA kk.length kc) kk.length (ints kk) [Value.int .i64 (R.nh.length:Int)] (by kernel_rfl) hrow v28 (by kernel_rfl) hlit rfl (by simp[Value.oneCell']) (by unfold maxLen; have:=HKB.out; omega) (by have:=HKB.out; omega) (Nat.le_trans HBW.out hz) hz (fun g e=>HOG.out g (by rw[←HO.out]; exact e))
 intro v29;simp only[Act.put,yD,yE,yF];apply yZ (.pointer (some ⟨g,i*5,none⟩)) rfl rfl rfl
 ·intro w' hw' hH;clear hH hw';simp[xA,go_sem,q0];exact vG.refl _
 apply yZ (.pointer (some ⟨g,i*5+4,none⟩)) rfl rfl rfl
 ·intro w' hw' hH;clear hH hw';simp[xA,go_sem,q0];exact vG.refl _
 apply xX;intro w2 hw2 hH;have h28:=hH _ (List.mem_cons_self ..);clear hH;obtain⟨gk,cap,rfl⟩:=h28.1.at;have hgr:=hw2.1;have hgb:=hw2.1.block g hgl HGN.out;rw[←HO.out] at hgr
 have HS:Hid (OkP W p B R (s.kid i) (w2.setCell ⟨g,i*5+4,none⟩ (.slice (some ⟨gk,0,none⟩) (kk.length+1) cap))):=yG (by
  have hh:=PS.kid (gk:=gk) (cap:=cap) HP.out i hi' HA.out (w1:=w2) (by rw[HXI.out]; exact h28.1.1) (by rw[HXI.out]; exact hgr) (by
   rw[HXI.out]
   rcases h28.2 with e | ⟨g',e,hg'⟩
   ·left; rw[HO.out,←e]; rfl
   ·right; have:gk=g':=by simpa [Value.ownBlock] using e
    omega)
  rw[HXI.out] at hh
  exact hh)
 have y1:w2.cell? ⟨g,i*5+4,none⟩=some (.slice kA kk.length kc):=(World.cell?_of_block (w:=W) (a:=⟨g,i*5+4,none⟩) hgb).trans C4.out;have z1:w2.frozen? ⟨g,i*5+4,none⟩=false:=(World.frozen?_of_block (w:=W) (a:=⟨g,i*5+4,none⟩) hgb).trans (HP.out.zKk _ HA.out);clear h28 hgr hgb hw2 x1;simp only[Act.put,yD,yE,yF]
 go_upto_region 3 with fail
 clear y1 z1;generalize w2.setCell ⟨g,i*5+4,none⟩ (.slice (some ⟨gk,0,none⟩) (kk.length+1) cap)=w3 at *;obtain⟨R3,hps3,hmv3⟩:=HS.out
 have hl3:R3.nh.length=R.nh.length:=by rw[←hps3.len,←HLN.out]; exact zDR
 have HL3:=yG hl3;have HP3:=yG hps3;have HM3:=yG hmv3;have HB3:=yG (HBX.out.xE hmv3);have hb3l:=HB3.out.1.lt;have hpl3:=hps3.blk.lt;clear hl3;clear hi0 hz0 hz1 hz2 i0 hpl hgl HFS HE2 M0 M1 M2 HPN HGN HOG HO;obtain⟨o,HO⟩:∃o,Hid ((Value.slice R3.A R3.nh.length R3.c).ownBlock=o):=⟨_,yG rfl⟩
 have HPN:Hid (some p≠o):=yG fun e=>by
  rw[←HO.out] at e;obtain⟨cur,hc⟩:=xY hps3.ns.row (xO hps3.ns.row e.symm);exact Blk.differ hps3.blk hc (by decide) rfl
 have HXN:Hid (some gx≠o):=yG fun e=>by
  rw[←HO.out] at e;exact HB3.out.2 (.inr (.inl (xO hps3.ns.row e.symm)))
 have HOG:Hid (∀g,o=some g→g<w3.heap.size):=yG fun g e=>by
  rw[←HO.out] at e;exact(jD hps3.ns.row (xO hps3.ns.row e)).2
 have HBW3:Hid (B≤w3.heap.size):=yG (Nat.le_trans hps3.pB (zV hpl3));obtain⟨Fs,HFS⟩:∃Fs,Hid (FsK B 38 (.slice R3.A R3.nh.length R3.c) w3.heap.size R3.nh.length (ncs R3.nh) (YO (⟨xk,xp,xt,xn,[]⟩,(none,0)))=Fs):=⟨_,yG rfl⟩
 have hE:∀F ∈ Fs,∀v w w',F v w→Ext w w'→F v w':=by rw[←HFS.out]; exact zHC _ _ _ _ _ _ _
 have m0:(fun (_:Value) w=>zAf B 38 R3.nh.length (ncs R3.nh) (.slice R3.A R3.nh.length R3.c) w) ∈ Fs:=by rw[←HFS.out]; simp only[FsK,zU,true_or]
 have m1:zBe 38 w3.heap.size (YO (⟨xk,xp,xt,xn,[]⟩,(none,0))).toArray ∈ Fs:=by rw[←HFS.out]; simp only[FsK,zU,true_or,or_true]
 have m2:zMR B 38 o w3.heap.size (R3.nh.length+1) (ncs R3.nh++YO (⟨xk,xp,xt,xn,[]⟩,(none,0))) ∈ Fs:=by rw[←HFS.out,←HO.out]; simp only[FsK,zU,true_or,or_true]
 have HE2:=yG hE;have M0:=yG m0;have M1:=yG m1;have M2:=yG m2;clear hps3 hmv3 hE m0 m1 m2;apply zA8 o Fs 11 (by kernel_rfl) (by kernel_rfl) (by kernel_rfl) HE2.out;dsimp only[List.take_succ_cons,List.take_zero,List.drop_succ_cons,List.drop_zero];apply yZ (.pointer (some ⟨p,0,none⟩)) rfl rfl rfl
 ·intro w' hw' hH;clear hH hw';simp[xA,go_sem];exact vG.refl _
 apply yZ (.pointer (some ⟨p,0,none⟩)) rfl rfl rfl
 ·intro w' hw' hH;clear hH hw';simp[xA,go_sem];exact vG.refl _
 apply yZ (.pointer (some ⟨p,0,none⟩)) rfl rfl rfl
 ·intro w' hw' hH;clear hH hw';simp[xA,go_sem];exact vG.refl _
 apply yZ (.pointer (some ⟨p,1,none⟩)) rfl rfl rfl
 ·intro w' hw' hH;clear hH hw';simp[xA,go_sem];exact vG.refl _
 simp only[Act.put,yD,yE,yF];apply yZ (.slice R3.A R3.nh.length R3.c) rfl rfl rfl
 ·intro w' hw' hH;have hR:=vG.refl (o:=o) (Fs:=Fs) w';have cc:=Blk.cell ((hw'.1.block p hpl3 HPN.out).trans HP3.out.blk) 1;clear hH hw';simp[xA,go_sem,cc];exact hR
 apply yZ (.pointer (some ⟨gx,0,none⟩)) rfl rfl rfl
 ·intro w' hw' hH;clear hH hw';simp[xA,go_sem];exact vG.refl _
 simp only[Act.put,yD,yE,yF];apply yZ (.agg #[.int .u8 (xk:Int),.int .i64 (xp:Int),.string (xH xt),.int .i64 xn,.slice none 0 0]) rfl rfl rfl
 ·intro w' hw' hH;have hR:=vG.refl (o:=o) (Fs:=Fs) w';have bb:=(hw'.1.block gx hb3l HXN.out).trans HB3.out.1;have c0:=Blk.cell bb 0;have c1:=Blk.cell bb 1;have c2:=Blk.cell bb 2;have c3:=Blk.cell bb 3;have c4:=Blk.cell bb 4;clear bb;simp only[jY,yL,yM,List.getElem?_cons_succ] at c0 c1 c2 c3 c4;clear hH hw';simp[xA,go_sem,c0,c1,c2,c3,c4];exact hR
 apply vB (zBe 38 w3.heap.size (YO (⟨xk,xp,xt,xn,[]⟩,(none,0))).toArray) (fun v w w' h hx=>hx.2 _ M1.out v h) rfl rfl rfl
 ·intro w' hw' hH;have hz:=hw'.1.size;clear hH hw';simp[xA,go_sem];exact⟨⟨_,rfl,Blk.new _ _ _,hz⟩,vG.ext HE2.out (Ext.alloc _ _)⟩
 intro v39;simp only[Act.put,yD,yE,yF];apply vB (zMR B 38 o w3.heap.size (R3.nh.length+1) (ncs R3.nh++YO (⟨xk,xp,xt,xn,[]⟩,(none,0)))) (fun v w w' h hx=>hx.2 _ M2.out v h) rfl rfl rfl
 ·intro w' hw' hH;have hlit:=hH _ (List.mem_cons_self ..) ⟨_,rfl,by decide⟩;have hrow:=hw'.2 _ M0.out undef HP3.out.ns.zUO;have hz:=hw'.1.size;clear hH hw';rw[←HFS.out,←HO.out];exact zEs B w3.heap.size (.tmp 36) (.tmp 39) 25 rfl 38 i1 _ 64 Tryz.underlying25 hi1 hy0 hy1 hy2 rfl (.slice R3.A R3.nh.length R3.c) R3.nh.length (ncs R3.nh) (YO (⟨xk,xp,xt,xn,[]⟩,(none,0))) (by kernel_rfl) hrow v39 (by kernel_rfl) hlit rfl (zK3 _) (by unfold maxLen; have:=HL3.out; omega) (by have:=HL3.out; omega) (Nat.le_trans HBW3.out hz) hz (fun g e=>HOG.out g (by rw[←HO.out]; exact e))
 intro v40;simp only[Act.put,yD,yE,yF];apply yZ (.pointer (some ⟨p,0,none⟩)) rfl rfl rfl
 ·intro w' hw' hH;clear hH hw';simp[xA,go_sem];exact vG.refl _
 apply yZ (.pointer (some ⟨p,1,none⟩)) rfl rfl rfl
 ·intro w' hw' hH;clear hH hw';simp[xA,go_sem];exact vG.refl _
 apply xX;intro w4 hw4 hH;have h26:=hH _ (List.mem_cons_self ..);clear hH;obtain⟨g4,cap4,rfl⟩:=h26.1.at;have hgr:=hw4.1;rw[←HO.out] at hgr;have hb3:Blk w4 p 101 _:=(hw4.1.block p hpl3 HPN.out).trans HP3.out.blk
 obtain⟨hs1,hs2⟩:=PS.snoc (w:=w3) HP3.out (Ext.refl w3) ⟨xk,xp,xt,xn,[]⟩ rfl h26.1.1 hgr (by
  rcases h26.2 with e | ⟨g',e,hg'⟩
  ·left; rw[HO.out,←e]; rfl
  ·right; have:g4=g':=by simpa [Value.ownBlock] using e
   omega)
 have y1:w4.cell? ⟨p,1,none⟩=some (.slice R3.A R3.nh.length R3.c):=hb3.cell 1;have z1:=hb3.frozen 1;have HS4:Hid (OkP w3 p B R3 ((s.kid i).add ⟨xk,xp,xt,xn,[]⟩) (w4.setCell ⟨p,1,none⟩ (.slice (some ⟨g4,0,none⟩) (R3.nh.length+1) cap4))):=yG ⟨_,hs1,hs2⟩;clear h26 hgr hb3 hs1 hs2 hw4;simp only[Act.put,yD,yF,yE]
 go_upto_region 4 with fail
 clear y1 z1;generalize w4.setCell ⟨p,1,none⟩ (.slice (some ⟨g4,0,none⟩) (R3.nh.length+1) cap4)=w5 at *;obtain⟨R5,hps5,hmv5⟩:=HS4.out;have HS5:Hid (OkP w p B R ((s.kid i).add ⟨xk,xp,xt,xn,[]⟩) w5):=yG ⟨R5,hps5,((xC.ext HXW.out).trans HM3.out).trans hmv5⟩;have HPT5:=yG ((HPT.out.xE HM3.out).xE hmv5);have HB5:=yG (HB3.out.xE hmv5);have HP5:=yG hps5;have c5:w5.cell? ⟨gx,5,none⟩=some (.slice eA l.length ec):=HB5.out.1.cell 5;have HWM:=yG (((xC.ext (M:=xK p R) HXW.out).trans HM3.out).trans hmv5);clear hps5 hmv5
 go_wp2_with fail
 go_loopw [46] (fun i' wr=>∃(k:Nat) (R':xU),k≤l.length∧i'=.int .i64 k∧Hid (PS wr p B (zE9 s.nd.length (l.take k) ((s.kid i).add ⟨xk,xp,xt,xn,[]⟩)) R')∧Hid (xC w (xK p R) wr (xK p R'))∧Hid (zMv wr (xK p R') l eA ef)) (fun i' _=>l.length-(intOf i').toNat)
 case atStart=>exact⟨0,R5,zW _,rfl,HP5,HWM,HPT5⟩
 case round=>
  obtain⟨k,R',hk,rfl,HPK,HMK,HPTK⟩:=hrel;obtain⟨wa,rfl⟩:∃wa:World,wa=wr:=⟨_,rfl⟩;have hl2:=HPF.out
  by_cases hlt:k<l.length
  ·have d0:decide ((k:Int)<(l.length:Int))=true:=yS (by omega)
   have q1:(k:Int)<(l.length:Int):=by omega
   obtain⟨b,rfl,hb,hbM,hcc⟩:∃b,eA=some ⟨b,0,none⟩∧b<wa.heap.size∧¬xK p R' b∧∀k,k<l.length→∀j,j<6→wa.cell? ⟨b,k*6+j,none⟩=(ef k)[j]?:=by
    rcases HPTK.out.2 with h | h
    ·rw[h] at hlt; cases hlt
    ·exact h
   have hex:=HPTK.out.1 k hlt;have HEX:=yG hex;have HXS:=yG (HPS0.out l[k] (yO hlt));obtain⟨A',c',f',he',_⟩:=hex.open;have e0:=hcc k hlt 0 (by decide);have e1:=hcc k hlt 1 (by decide);have e2:=hcc k hlt 2 (by decide);have e3:=hcc k hlt 3 (by decide);have e4:=hcc k hlt 4 (by decide);have e5:=hcc k hlt 5 (by decide);rw[he'] at e0 e1 e2 e3 e4 e5;have HHE:=yG he';simp only[jY,yM,List.getElem?_cons_succ,Nat.add_zero] at e0 e1 e2 e3 e4 e5;clear hex he' hcc;generalize l[k].node=y at *;obtain⟨yk,yp,yt,yn,yks⟩:=y
   simp only at e0 e1 e2 e3 e4 e5
   generalize l[k].parts.length=ym at *;have HXA:Hid (xC wa (xK p R') (wa.alloc (.cells #[.int .u8 (yk:Int),.int .i64 (yp:Int),.string (xH yt),.int .i64 yn,.slice none 0 0,.slice A' ym c'] 225)) (xK p R')):=yG (xC.ext (Ext.alloc _ _));have HXP:=yG (HPK.out.ext (Ext.alloc wa (.cells #[.int .u8 (yk:Int),.int .i64 (yp:Int),.string (xH yt),.int .i64 yn,.slice none 0 0,.slice A' ym c'] 225)));have HSN:=yG (zK7 s.nd.length l k hlt ((s.kid i).add ⟨xk,xp,xt,xn,[]⟩));have HGK:Hid (Good (zE9 s.nd.length (l.take k) ((s.kid i).add ⟨xk,xp,xt,xn,[]⟩))):=yG (zKY _ _ _ (zLH HG.out i _ rfl))
   have HIK:Hid (R.nh.length<(zE9 s.nd.length (l.take k) ((s.kid i).add ⟨xk,xp,xt,xn,[]⟩)).nd.length):=yG (by
    have:=(zNK s.nd.length (l.take k) ((s.kid i).add ⟨xk,xp,xt,xn,[]⟩)).1
    rw[zBH] at this
    have:=HLN.out
    omega)
   have HBK:Hid ((zE9 s.nd.length (l.take k) ((s.kid i).add ⟨xk,xp,xt,xn,[]⟩)).nd.length+l[k].size≤1000000):=yG (by
    rw[zKF,zBH];have h1:=zG7 (l.map Ex.size) k (by simpa using hlt);rw[←List.map_take,zA] at h1;have h2:=HSP.out;have h3:=HBG.out
    omega)
   go_wp2_with fail
   refine(hIH.out l[k] (by have:=HXS.out; have:=HSZ.out; omega) _ p B _ R' R.nh.length (jY ⟨yk,yp,yt,yn,yks⟩ A' ym c') HXP.out HGK.out HIK.out HBK.out (by rw[←HHE.out]; exact HEX.out.xE HXA.out)).mono ?_;rintro e' w6 ⟨rfl,R6,hp6,hm6⟩;have HP6:Hid (PS w6 p B (zE9 s.nd.length (l.take (k+1)) ((s.kid i).add ⟨xk,xp,xt,xn,[]⟩)) R6):=yG (by rw[HSN.out,HLN.out] ; rw[HLN.out] at hp6; exact hp6);have HM6:=yG ((HMK.out.trans HXA.out).trans hm6);have HT6:=yG ((HPTK.out.xE HXA.out).xE hm6);clear hp6 hm6
   go_wp2_with fail
   go_roundw
   case rel=>exact⟨k+1,R6,by omega,by go_num,HP6,HM6,HT6⟩
   case measure=>simp[intOf]; omega
  ·obtain rfl:k=l.length:=by omega
   have d0:decide ((l.length:Int)<(l.length:Int))=false:=by simp
   have d1:decide (l.length<l.length)=false:=by simp
   have HPF2:Hid (OkP w p B R (zBW i e s) wa):=yG (by
    rw[HQ.out];have h:=HPK.out;rw[List.take_length] at h
    exact⟨R',h,HMK.out⟩)
   go_wp2_with fail
   go_end0;exact⟨rfl,HPF2.out⟩
theorem zNy:∀(f:Nat) (e:Ex),e.size≤f→∀(w:World) (p B:Nat) (s:Ps) (R:xU) (i:Nat) (cs:List Value),PS w p B s R→Good s→i<s.nd.length→s.nd.length+e.size≤1000000→EX w (xK p R) e cs →
  Calls Tryz.prog 174 #[.pointer (some ⟨p,0,none⟩),.int .i64 (i:Int),.agg cs.toArray] w fun en w'=>en=.returned (.tuple #[])∧OkP w p B R (zBW i e s) w'
 | 0,e,hs=>by have:=e.zNX; omega
 | f+1,e,hs=>fun w p B s R i cs h1 h2 h3 h4 h5=>zQZ f (zNy f) e hs w p B s R i cs h1 h2 h3 h4 h5
end Go.Proofs.YtbadjmmjbpeocaaGreat
