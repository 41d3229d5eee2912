/- print.Expr, walked: any tree, any node. (and what follows of it). The conditions stand at each lemma. -/
import Derived.Test.YtioffpjajhalaaaGreatDoorLaa
import Derived.Test.YtioffpjajhalaaaGreatDoorLbj
import Derived.Test.YtioffpjajhalaaaGreatDoorLbe
import Derived.Test.YtioffpjajhalaaaGreatDoorLab
import Derived.Test.YtioffpjajhalaaaGreatDoorLaw
import Derived.Test.YtioffpjajhalaaaGreatDoorLak
import Derived.Test.YtioffpjajhalaaaGreatDoorLbf
set_option linter.unusedVariables false
set_option linter.unusedSimpArgs false
set_option maxRecDepth 100000
set_option maxHeartbeats 16000000
namespace Go.Proofs.YtioffpjajhalaaaGreatDoor
open Go Go.RowKit
theorem zHD {L:List TT.xB}:∀(f:Fo) (a:Nat),VE L a f→f.ok 0→∀i,a≤i→i<a+f.size→∃(k p:Nat) (t:Bs) (x:Int) (c:Fo),VE L i (.cons k p t x c .nil)∧(Fo.cons k p t x c .nil).ok 0∧(Fo.cons k p t x c .nil).wt≤f.wt∧(Fo.cons k p t x c .nil).size≤f.size
 | .nil,a,_,_=>fun i h1 h2=>by
  have h2:i<a+0:=h2;omega
 | .cons k p t x c r,a,⟨h0,hc,hr⟩,hok=>fun i h1 h2=>by
  have h2:i<a+(1+c.size+r.size):=h2
  by_cases e:i=a
  ·subst e;exact⟨k,p,t,x,c,⟨h0,hc,trivial⟩,⟨hok.1,hok.2.1,trivial⟩,by show t.length+30+c.wt+0≤t.length+30+c.wt+r.wt; omega,by show 1+c.size+0≤1+c.size+r.size; omega⟩
  ·by_cases h3:i<a+1+c.size
   ·obtain⟨k',p',t',x',c',g1,g2,g3,g4⟩:=zHD c (a+1) hc hok.2.1 i (by omega) (by omega);exact⟨k',p',t',x',c',g1,g2,by show _≤t.length+30+c.wt+r.wt; omega,by show _≤1+c.size+r.size; omega⟩
   ·obtain⟨k',p',t',x',c',g1,g2,g3,g4⟩:=zHD r (a+1+c.size) hr hok.2.2 i (by omega) (by omega);exact⟨k',p',t',x',c',g1,g2,by show _≤t.length+30+c.wt+r.wt; omega,by show _≤1+c.size+r.size; omega⟩
theorem zGL (w:World)(A:Option Addr)(n c:Nat)(L:List TT.xB)(hn:n=L.length)(hT:TT.vV w A L)(hlen:L.length≤9000)(hsm:∀x ∈ L,TT.zBz x)(i:Int)(hbad:TT.XL L=false∨i<0∨(L.length:Int)≤i∨∃(j:Nat) (m:TT.xB),i=(j:Int)∧L[j]?=some m∧m.kind<20) :
  Calls Tryz.prog 23 #[.agg #[.slice A n c],.int .i64 i] w fun r w'=>r=.returned (.tuple #[.string ⟨#[]⟩,.iface 54 (.int .i64 2)])∧Ext w w':=by
 subst hn;have AD:Hid (Ext w (w.alloc (.cells #[.slice A L.length c] 39))):=yD (Ext.alloc _ _);have AE:Hid (Blk (w.alloc (.cells #[.slice A L.length c] 39)) w.heap.size 39 #[.slice A L.length c]):=yD (Blk.new _ _ _);have HT:=yD hT;have AL:=yD hsm;have AH:=yD hlen;have AA:=yD hbad;clear hT hsm hlen hbad
 go_enter Tryz.func23,Tryz.ntmps23
 go_upto_region 1 with fail
 generalize w.heap.size=gt at *;generalize w.alloc (.cells #[.slice A L.length c] 39)=w1 at *;have y0:w1.cell? ⟨gt,0,none⟩=some (.slice A L.length c):=AE.out.cell 0;obtain⟨b,HR⟩:∃b,Hid (TT.XL L=b):=⟨_,yD rfl⟩
 go_wp2_with fail
 refine(TT.zDg L A L.length c w1 rfl (HT.out.ext AD.out) AH.out AL.out b HR).mono ?_;rintro r w2 ⟨rfl,AC⟩;have AB:=yD (AD.out.trans AC);have AI:=yD (AE.out.ext AC);clear AC y0 AD AE;have y0:w2.cell? ⟨gt,0,none⟩=some (.slice A L.length c):=AI.out.cell 0
 cases b with
 | false=>
  clear AA
  go_wp2_with fail
  go_ret2;exact⟨rfl,AB.out⟩
 | true=>
 by_cases h0:i<0
 ·have d0:decide (i<0)=true:=yP h0;clear h0 AA
  go_wp2_with fail
  go_ret2;exact⟨rfl,AB.out⟩
 have d0:decide (i<0)=false:=yO h0
 by_cases h1:(L.length:Int)≤i
 ·have d1:decide (i ≥ (L.length:Int))=true:=yP h1;have d2:decide ((L.length:Int)≤i)=true:=d1;clear h0 h1 AA
  go_wp2_with fail
  go_ret2;exact⟨rfl,AB.out⟩
 obtain⟨j,m,AJ,hm,hk⟩:∃(j:Nat) (m:TT.xB),i=(j:Int)∧L[j]?=some m∧m.kind<20:=by
  rcases AA.out with h | h | h | h
  ·rw[HR.out] at h; cases h
  ·exact absurd h h0
  ·exact absurd h h1
  ·exact h
 subst AJ;clear AA h0;have AF:j<L.length:=(List.getElem?_eq_some_iff.1 hm).1;have d1:decide ((j:Int) ≥ (L.length:Int))=false:=yO (by omega);have d2:decide ((L.length:Int)≤(j:Int))=false:=d1;have d3:decide (L.length≤j)=false:=yO (by omega);have d4:decide (m.kind<20)=true:=yP hk
 have q0:(j:Int)<(L.length:Int):=by omega
 obtain⟨tb,tf,hA,AK,hc⟩:=(HT.out.ext AB.out).at_ j AF
 have AG:L[j]=m:=by rw[yG AF] at hm; exact Option.some.inj hm
 rw[AG] at hc;subst hA;have v0:w2.cell? ⟨tb,tf+j*5,none⟩=some (.int .u8 m.kind):=hc 0 (by decide);clear hc AG hm hk h1 AK
 go_wp2_with fail
 go_ret2;exact⟨rfl,AB.out⟩
theorem zRx (w:World)(A:Option Addr)(n c:Nat)(L:List TT.xB)(hn:n=L.length)(hT:TT.vV w A L)(hlen:L.length≤9000)(hsm:∀x ∈ L,TT.zBz x)(hr:TT.XL L=true)(hpw:PW w)(i:Nat)(m:TT.xB)(hm:L[i]?=some m)(hk:20≤m.kind)(k p:Nat)(t:Bs)(x:Int)(f:Fo)(hL:VE L i (.cons k p t x f .nil))(hok:(Fo.cons k p t x f .nil).ok 0)(hwt:(Fo.cons k p t x f .nil).wt≤1099511627776) :
  Calls Tryz.prog 23 #[.agg #[.slice A n c],.int .i64 (i:Int)] w fun r w'=>r=.returned (.tuple #[.string (yX (YH k t x f.txt f.kinds)),.nilIface])∧Ext w w':=by
 subst hn;have AG:Hid (Ext w (w.alloc (.cells #[.slice A L.length c] 39))):=yD (Ext.alloc _ _);have AH:Hid (Blk (w.alloc (.cells #[.slice A L.length c] 39)) w.heap.size 39 #[.slice A L.length c]):=yD (Blk.new _ _ _);have HT:=yD hT;have HP:=yD hpw;have AU:=yD hsm;have HR:=yD hr;have AR:Hid (∀(g:Nat) (w':World),PrT w' g L.length c A L→zCf w' g L i k (YH k t x f.txt f.kinds)):=yD fun g w' hP=>zCj w' g L.length c A L hP (.cons k p t x f .nil) i hL hok hwt 0 (Nat.zero_lt_succ _);have AD:i<L.length:=(List.getElem?_eq_some_iff.1 hm).1;have HM:=yD hm;have AQ:=yD hlen;have d0:decide ((i:Int)<0)=false:=yO (by omega);have d1:decide ((i:Int) ≥ (L.length:Int))=false:=yO (by omega);have d2:decide ((L.length:Int)≤(i:Int))=false:=d1;have d3:decide (L.length≤i)=false:=yO (by omega);have d4:decide (m.kind<20)=false:=yO (by omega)
 have q0:(i:Int)<(L.length:Int):=by omega
 clear hT hpw hsm hr hL hok hwt hm hlen hk
 go_enter Tryz.func23,Tryz.ntmps23
 go_upto_region 1 with fail
 generalize w.heap.size=gt at *;generalize w.alloc (.cells #[.slice A L.length c] 39)=w1 at *;have y0:w1.cell? ⟨gt,0,none⟩=some (.slice A L.length c):=AH.out.cell 0
 go_wp2_with fail
 refine(TT.zDg L A L.length c w1 rfl (HT.out.ext AG.out) AQ.out AU.out true HR).mono ?_;rintro r w2 ⟨rfl,AF⟩;have AC:=yD (AG.out.trans AF);have AE:=yD (AH.out.ext AF);clear AF y0 AG AH;have AL:=yD (HT.out.ext AC.out);obtain⟨tb,tf,hA,AN,hc⟩:=AL.out.at_ i AD
 have AK:L[i]=m:=by have h:=HM.out; rw[yG AD] at h; exact Option.some.inj h
 rw[AK] at hc;clear AK AD;subst hA;have y0:w2.cell? ⟨gt,0,none⟩=some (.slice (some ⟨tb,tf,none⟩) L.length c):=AE.out.cell 0;have v0:w2.cell? ⟨tb,tf+i*5,none⟩=some (.int .u8 m.kind):=hc 0 (by decide);have HC:=yD hc;have AO:=yD AN;clear hc AN
 go_upto_region 4 with fail
 have AB:Ext w2 (w2.alloc (.cells #[.slice (some ⟨tb,tf,none⟩) L.length c,.pointer none,.slice none 0 0,.int .i64 0] 82)):=Ext.alloc _ _;have AI:=yD (AC.out.trans AB);have AM:=yD (AE.out.ext AB);have AJ:Hid (Blk (w2.alloc (.cells #[.slice (some ⟨tb,tf,none⟩) L.length c,.pointer none,.slice none 0 0,.int .i64 0] 82)) w2.heap.size 82 #[.slice (some ⟨tb,tf,none⟩) L.length c,.pointer none,.slice none 0 0,.int .i64 0]):=yD (Blk.new _ _ _);have AA:Hid (∀j,j<5→(w2.alloc (.cells #[.slice (some ⟨tb,tf,none⟩) L.length c,.pointer none,.slice none 0 0,.int .i64 0] 82)).cell? ⟨tb,tf+i*5+j,none⟩=(m.cells)[j]?):=yD fun j hj=>(AB.cell (p:=⟨tb,tf+i*5+j,none⟩) AO.out).trans (HC.out j hj);clear AB y0 v0 HC AO d0 d1 d2 d3 d4;generalize w2.heap.size=g3 at *;generalize w2.alloc (.cells #[.slice (some ⟨tb,tf,none⟩) L.length c,.pointer none,.slice none 0 0,.int .i64 0] 82)=w3 at *;have AS:Hid (PrT w3 g3 L.length c (some ⟨tb,tf,none⟩) L):=yD ⟨HT.out.ext AI.out,rfl,AJ.out.cell 0,AJ.out.lt,HP.out.ext AI.out⟩;have y0:w3.cell? ⟨gt,0,none⟩=some (.slice (some ⟨tb,tf,none⟩) L.length c):=AM.out.cell 0;have v0:w3.cell? ⟨tb,tf+i*5,none⟩=some (.int .u8 m.kind):=AA.out 0 (by decide);have v1:w3.cell? ⟨tb,tf+i*5+1,none⟩=some (.int .i64 m.pos):=AA.out 1 (by decide);have v2:w3.cell? ⟨tb,tf+i*5+2,none⟩=some (.string m.text):=AA.out 2 (by decide);have v3:w3.cell? ⟨tb,tf+i*5+3,none⟩=some (.int .i64 m.num):=AA.out 3 (by decide)
 have v4:w3.cell? ⟨tb,tf+i*5+4,none⟩=some (.slice m.kA m.kids.length m.kc):=AA.out 4 (by decide);clear AA AJ AM AE AC AL
 go_wp2_with fail
 obtain⟨m',h1,_,h3⟩:=AR.out g3 w3 AS.out;have h2:=HM.out;rw[h1] at h2;injection h2 with h2;subst h2;refine(h3 w3 (Ext.refl _)).mono ?_;rintro r w4 ⟨rfl,AP⟩;clear h1 h3 y0 v0 v1 v2 v3 v4;have AT:=yD (AI.out.trans AP);clear AP
 go_wp2_with fail
 go_ret2;exact⟨rfl,AT.out⟩
end Go.Proofs.YtioffpjajhalaaaGreatDoor
namespace Go.Proofs.YtioffpjajhalaaaGreatDoor
abbrev Sk:=Nat × Bs × Int
def Tok.sk (t:Tok):Sk:=(t.kind,t.text,t.n)
def LX (s:Bs)(l:List Sk)(rest:Bs):Prop:=∀p,∃us:List Tok,us.map Tok.sk=l∧zAj p (s++rest)=VS.pre us (zAj (p+s.length) rest)
theorem zRI (a b:List Tok)(r:VS):VS.pre a (VS.pre b r)=VS.pre (a++b) r:=by
 cases r with
 | ok l=>simp[VS.pre]
 | err p e=>rfl
theorem LX.nil (rest:Bs):LX [] [] rest:=fun p=>⟨[],rfl,(zJc _).symm⟩
theorem LX.app {a b rest:Bs}{la lb:List Sk}(ha:LX a la (b++rest))(hb:LX b lb rest):LX (a++b) (la++lb) rest:=fun p=>by
 obtain⟨u,hu,e⟩:=ha p;obtain⟨v,hv,e2⟩:=hb (p+a.length);refine⟨u++v,by rw[List.map_append,hu,hv],?_⟩;rw[List.append_assoc,e,e2,zRI,yM,Nat.add_assoc]
theorem LX.skip {c:UInt8}(h:YA c=true)(rest:Bs):LX [c] [] rest:=fun p=>⟨[],rfl,by
 have hs:step ([c]++rest)=.skip 1:=by
  show JS c rest=_
  unfold JS;rw[if_pos h]
 rw[zJc,zES hs]
 rfl⟩
theorem LX.tok {s rest:Bs}{kd:Nat}{n:Int}(h:step (s++rest)=.tok kd s.length n):LX s [(kd,s,n)] rest:=fun p=>⟨[⟨kd,p,p+s.length,s,n⟩],rfl,by
 rw[zKK h,List.drop_left,List.take_left]
 cases zAj (p+s.length) rest <;> rfl⟩
theorem zOD:∀c ∈ zQd,YA c=false∧(c==35)=false∧vI c=false∧vP c=false∧zFc c=true:=by decide
theorem LX.mark {c:UInt8}(hc:c ∈ zQd){rest:Bs}(h:(c==61&&rest.head?==some 61)=false):LX [c] [(3,[c],0)] rest:=by
 obtain⟨h1,h2,h3,h4,h5⟩:=zOD c hc;refine LX.tok ?_
 show JS c rest=_
 unfold JS;rw[h1,h2,h3,h4,h,h5]
 rfl
theorem zQ7 {p:UInt8→Bool}:∀(r rest:Bs),r.all p=true→rest.head?.all (fun c=>!p c)=true→(r++rest).takeWhile p=r
 | [],[],_,_=>rfl
 | [],c::rest,_,h=>by
  have h:(!p c)=true:=h;rw[Bool.not_eq_true'] at h
  show List.takeWhile p (c::rest)=[]
  rw[List.takeWhile_cons,h]
  rfl
 | c::r,rest,h,h2=>by
  rw[List.all_cons,zF] at h
  show List.takeWhile p (c::(r++rest))=c::r
  rw[List.takeWhile_cons,h.1]
  show c::_=_
  rw[zQ7 r rest h.2 h2]
def zSi (rest:Bs):Bool:=rest.head?.all fun c=>!YJ c
theorem zHN:∀(a:Bs) (n:Int) (d:UInt8),zBr n (a++[d])=(zBr n a).bind fun m=>if 2147483647<m*10+((d.toNat:Int)-48) then none else some (m*10+((d.toNat:Int)-48))
 | [],n,d=>rfl
 | c::a,n,d=>by
  show(if _ then none else zBr _ (a++[d]))=Option.bind (if _ then none else zBr _ a) _
  split
  ·rfl
  ·exact zHN a _ d
theorem zI1 {d:Nat}(h:d<10):(UInt8.ofNat (48+d)).toNat=48+d:=by
 rw[UInt8.toNat_ofNat'];omega
theorem zRY:∀(u:Nat),u≤2147483647→zBr 0 (Lib.decDigits u)=some (u:Int)∧(Lib.decDigits u).all vP=true∧Lib.decDigits u≠[]:=by
 intro u
 induction u using Nat.strongRecOn with
 | ind u ih=>
  intro hu
  have hd:∀d,d<10→vP (UInt8.ofNat (48+d))=true:=fun d h=>by
   unfold vP;rw[zI1 h];simp only[zF,zE];omega
  rw[Lib.decDigits]
  split
  ·rename_i h;refine⟨?_,?_,by simp⟩
   ·show(if 2147483647<(0:Int)*10+(((UInt8.ofNat (48+u)).toNat:Int)-48) then none else some ((0:Int)*10+(((UInt8.ofNat (48+u)).toNat:Int)-48)))=_
    rw[zI1 h,if_neg (by omega)]
    congr 1
    omega
   ·rw[List.all_cons,hd u h]; rfl
  ·rename_i h;have hm:u % 10<10:=Nat.mod_lt _ (by decide);obtain⟨h1,h2,h3⟩:=ih (u / 10) (by omega) (by omega);refine⟨?_,?_,by simp⟩
   ·rw[zHN,h1]
    show(if _ then none else some _)=_
    rw[zI1 hm,if_neg (by omega)]
    congr 1
    omega
   ·rw[List.all_append,h2,List.all_cons,hd _ hm]; rfl
theorem LX.num {x:Int}(h0:0≤x)(h1:x≤2147483647){rest:Bs}(h:zSi rest=true):LX (Lib.itoa x) [(2,Lib.itoa x,x)] rest:=by
 obtain⟨u,rfl⟩:∃u:Nat,x=(u:Int):=⟨x.toNat,by omega⟩;rw[Lib.itoa_nonneg];obtain⟨e1,e2,e3⟩:=zRY u (by omega)
 have hr:rest.head?.all (fun c=>!vP c)=true:=by
  cases rest with
  | nil=>rfl
  | cons c r=>
   have h:(!YJ c)=true:=h;unfold YJ at h
   show(!vP c)=true
   cases hd:vP c with
   | false=>rfl
   | true=>rw[hd] at h; simp at h
 cases hs:Lib.decDigits u with
 | nil=>exact absurd hs e3
 | cons c r=>
  rw[hs] at e1 e2;rw[List.all_cons,zF] at e2
  have hk:YA c=false∧(c==35)=false∧vI c=false:=by
   have hd:=e2.1;unfold vP at hd;simp only[zF,zE] at hd
   have AA:∀d:UInt8,d.toNat<48→(c==d)=false:=fun d hx=>by
    rw[yF]; intro e; subst e; omega
   refine⟨?_,AA 35 (by decide),?_⟩
   ·unfold YA;rw[AA 32 (by decide),AA 9 (by decide),AA 10 (by decide),AA 13 (by decide)]; rfl
   ·unfold vI;simp only[Bool.and_eq_false_iff,yH];omega
  refine LX.tok ?_
  show JS c (r++rest)=_
  unfold JS zNb;rw[hk.1,hk.2.1,hk.2.2,e2.1,zQ7 r rest e2.2 hr,e1]
  show Step.tok 2 (1+r.length) _=.tok 2 (r.length+1) _
  rw[Nat.add_comm]
def okW (M:Nat)(t:Tok):Prop:=t.at_≤M∧(t.kind=1→zM7 t.text=true)∧(t.kind=2→0≤t.n∧t.n≤2147483647)
structure AtN (M:Nat)(pre:List Nd)(i k p:Nat)(t:Bs)(x:Int)(f:Fo)(s:Ps):Prop where
 len:pre.length=i
 pm:p≤M
 nd:s.nd=pre++⟨k,p,t,x,f.roots (i+1)⟩::f.flat (i+1)
 ts:∀u ∈ s.ts,okW M u
def zEf (pre:List Nd)(i k p:Nat)(t:Bs)(x:Int)(f:Fo):List Nd:=pre++⟨k,p,t,x,f.roots (i+1)++[i+1+f.size]⟩::f.flat (i+1)
theorem zAB (pre post:List Nd)(n:Nd)(g:Nd→Nd)(i:Nat)(h:pre.length=i):(pre++n::post).modify i g=pre++g n::post:=by
 subst h
 induction pre with
 | nil=>rfl
 | cons a l ih=>
  rw[zZ,zJ,List.modify_succ_cons,ih]
  rfl
def zJp (M:Nat)(pre:List Nd)(i k p:Nat)(t:Bs)(x:Int)(f:Fo)(Q:List Nat→Prop)(s:Ps):Prop:=∃g:Fo,g.ok M∧Q g.kinds∧AtN M pre i k p t x (f.app g) s
section
variable {M:Nat} {pre:List Nd} {i k p:Nat} {t:Bs} {x:Int} {f:Fo} {s:Ps}
theorem AtN.adv (h:AtN M pre i k p t x f s):AtN M pre i k p t x f s.adv:=⟨h.len,h.pm,h.nd,fun u hu=>h.ts u (List.mem_of_mem_tail hu)⟩
theorem AtN.deep (h:AtN M pre i k p t x f s)(d:Nat):AtN M pre i k p t x f { s with deep:=d }:=⟨h.len,h.pm,h.nd,h.ts⟩
theorem AtN.hd (h:AtN M pre i k p t x f s):okW M s.hd:=by
 unfold Ps.hd
 cases e:s.ts with
 | nil=>exact⟨zT _,fun e=>(by cases e),fun e=>(by cases e)⟩
 | cons t l=>exact h.ts t (by rw[e]; simp)
theorem AtN.on (h:AtN M pre i k p t x f s)(g:Nd→Nd)(k':Nat)(t':Bs)(x':Int)(hg:∀c,g ⟨k,p,t,x,c⟩=⟨k',p,t',x',c⟩):AtN M pre i k' p t' x' f (s.on i g):=⟨h.len,h.pm,by
 show s.nd.modify i g=_
 rw[h.nd,zAB _ _ _ _ _ h.len,hg],h.ts⟩
theorem AtN.text (h:AtN M pre i k p t x f s)(t':Bs):AtN M pre i k p t' x f (s.text i t'):=h.on _ k t' x fun c=>rfl
theorem AtN.num (h:AtN M pre i k p t x f s)(x':Int):AtN M pre i k p t x' f (s.num i x'):=h.on _ k t x' fun c=>rfl
theorem AtN.kind (h:AtN M pre i k p t x f s)(k':Nat):AtN M pre i k' p t x f (s.kind i k'):=h.on _ k' t x fun c=>rfl
theorem AtN.size (h:AtN M pre i k p t x f s):s.nd.length=i+1+f.size:=by
 rw[h.nd,yM,zJ,ZQ,h.len]; omega
theorem AtN.add (h:AtN M pre i k p t x f s)(k2 p2:Nat)(t2:Bs)(x2:Int)(h2:p2≤M):AtN M (zEf pre i k p t x f) s.nd.length k2 p2 t2 x2 .nil ((s.kid i).add ⟨k2,p2,t2,x2,[]⟩):=by
 have hs:=h.size;refine⟨?_,h2,?_,h.ts⟩
 ·unfold zEf;rw[yM,zJ,ZQ,h.len]; omega
 ·show s.nd.modify i _++_=_
  rw[hs,h.nd,zAB _ _ _ _ _ h.len]
  rfl
theorem AtN.xH (h:AtN M pre i k p t x f s)(k2:Nat):AtN M (zEf pre i k p t x f) s.nd.length k2 (s.kid i).hd.at_ [] 0 .nil (s.xH i k2):=h.add k2 _ [] 0 h.hd.1
theorem zJp.mono {Q T:List Nat→Prop}(h:zJp M pre i k p t x f Q s)(hQ:∀l,Q l→T l):zJp M pre i k p t x f T s:=by
 obtain⟨g,h1,h2,h3⟩:=h;exact⟨g,h1,hQ _ h2,h3⟩
theorem zJp.adv {Q:List Nat→Prop}(h:zJp M pre i k p t x f Q s):zJp M pre i k p t x f Q s.adv:=by
 obtain⟨g,h1,h2,h3⟩:=h;exact⟨g,h1,h2,h3.adv⟩
theorem zJp.deep {Q:List Nat→Prop}(h:zJp M pre i k p t x f Q s)(d:Nat):zJp M pre i k p t x f Q { s with deep:=d }:=by
 obtain⟨g,h1,h2,h3⟩:=h;exact⟨g,h1,h2,h3.deep d⟩
end
theorem zOd (t:Bs):TT.xX t=zM7 t:=by
 have hl:∀c:UInt8,TT.vI (c.toNat:Int)=vI c:=fun c=>by
  unfold TT.vI vI
  congr 1
  ·exact decide_eq_decide.2 (by omega)
  ·exact decide_eq_decide.2 (by omega)
 have hd:∀c:UInt8,TT.vP (c.toNat:Int)=vP c:=fun c=>by
  unfold TT.vP vP
  congr 1
  ·exact decide_eq_decide.2 (by omega)
  ·exact decide_eq_decide.2 (by omega)
 have hu:∀c:UInt8,((c.toNat:Int)==95)=(c==95):=fun c=>by
  rw[Bool.eq_iff_iff,zN,zN]
  constructor
  ·intro h;apply UInt8.toNat_inj.1
   show c.toNat=95
   omega
  ·intro h;subst h
   rfl
 have hw:∀c:UInt8,TT.YJ (c.toNat:Int)=YJ c:=fun c=>by
  unfold TT.YJ YJ;rw[hl,hd,hu,Bool.or_assoc]
 cases t with
 | nil=>rfl
 | cons c r=>
  show(TT.vI (c.toNat:Int)&&r.all fun c=>TT.YJ (c.toNat:Int))=(vI c&&r.all YJ)
  rw[hl,show(fun c:UInt8=>TT.YJ (c.toNat:Int))=YJ from funext hw]
section
variable {M:Nat} {pre:List Nd} {i k p:Nat} {t:Bs} {x:Int} {f:Fo} {s:Ps}
end
def exK:Ex→Nat
 | .leaf k _ _ _=>k
 | .neg _ _=>26
 | .bin k _ _ _=>k
def QX (M:Nat):Ex→Prop
 | .leaf k p t n=>((k=22∧zM7 t=true∧n=0)∨(k=21∧t=[]∧0≤n∧n≤2147483647))∧p≤M
 | .neg p a=>QX M a∧p≤M
 | .bin k p a b=>(k=23∨k=24∨k=25)∧QX M a∧QX M b∧p≤M
theorem QX.pos {M:Nat}:∀ {e:Ex},QX M e→e.pos≤M
 | .leaf k p t n,h=>h.2
 | .neg p a,h=>h.2
 | .bin k p a b,h=>h.2.2.2
def TW (M:Nat)(N:List Nd)(s:Ps):Prop:=s.nd=N∧∀u ∈ s.ts,okW M u
section
variable {M:Nat} {N:List Nd}
theorem TW.adv {s:Ps}(h:TW M N s):TW M N s.adv:=⟨h.1,fun u hu=>h.2 u (List.mem_of_mem_tail hu)⟩
theorem TW.hd {s:Ps}(h:TW M N s):okW M s.hd:=by
 unfold Ps.hd
 cases e:s.ts with
 | nil=>exact⟨zT _,fun e=>(by cases e),fun e=>(by cases e)⟩
 | cons t l=>exact h.2 t (by rw[e]; simp)
end
section
variable {M:Nat} {pre:List Nd} {i k p:Nat} {t:Bs} {x:Int} {f:Fo} {s:Ps}
end
section
variable {M:Nat} {pre:List Nd} {i k p:Nat} {t:Bs} {x:Int} {f:Fo} {s:Ps}
end
section
variable {M:Nat} {pre:List Nd} {i k p:Nat} {t:Bs} {x:Int} {f:Fo} {s:Ps}
end
def mk (c:UInt8):Sk:=(3,[c],0)
def zJ6 (least k:Nat)(l:List Sk):List Sk:=if YO k<least then [mk 40]++l++[mk 41] else l
def zSS (k:Nat):UInt8:=if k=23 then 43 else if k=24 then 45 else 42
def zSL (k:Nat):Nat:=if k=25 then 2 else 1
def zSy (k:Nat):Nat:=if k=25 then 3 else 2
def Ex.dp:Ex→Nat
 | .leaf _ _ _ _=>0
 | .neg _ a=>1+(if YO (exK a)<3 then 1+a.dp else a.dp)
 | .bin k _ a b=>max (if YO (exK a)<zSL k then 1+a.dp else a.dp) (if YO (exK b)<zSy k then 1+b.dp else b.dp)
def Ex.z:Ex→Ex
 | .leaf k _ t n=>.leaf k 0 t n
 | .neg _ a=>.neg 0 a.z
 | .bin k _ a b=>.bin k 0 a.z b.z
def hdk (l:List Sk):Sk:=l.headD (4,[],0)
def SS (s:Ps)(l:List Sk)(d:Nat)(N:List Nd):Prop:=s.ts.map Tok.sk=l∧s.deep=d∧s.nd=N
theorem SS.hd {s:Ps}{l:List Sk}{d:Nat}{N:List Nd}(h:SS s l d N):s.hd.sk=hdk l:=by
 rw[←h.1];unfold Ps.hd hdk
 cases s.ts <;> rfl
theorem SS.len {s:Ps}{l:List Sk}{d:Nat}{N:List Nd}(h:SS s l d N):s.ts.length=l.length:=by rw[←h.1,yN]
theorem SS.adv {s:Ps}{u:Sk}{l:List Sk}{d:Nat}{N:List Nd}(h:SS s (u::l) d N):SS s.adv l d N:=⟨by
 show s.ts.tail.map _=_
 rw[List.map_tail,h.1]; rfl,h.2.1,h.2.2⟩
theorem SS.deep {s:Ps}{l:List Sk}{d:Nat}{N:List Nd}(h:SS s l d N)(e:Nat):SS { s with deep:=e } l e N:=⟨h.1,rfl,h.2.2⟩
theorem zQ8 {k:Int}{x:Int}{t:Bs}(h:TT.vL k x t=true):(TT.zC8 k=true→zM7 t=true)∧(TT.zC8 k=false→t=[])∧0≤x∧x≤TT.zBB k:=by
 unfold TT.vL at h;rw[zOd] at h;simp only[zF,zE,zN] at h;refine⟨fun e=>by rw[←h.1]; exact e,fun e=>?_,h.2.2⟩;have h1:=h.2.1;rw[e,Bool.false_or] at h1;exact List.isEmpty_iff.1 h1
theorem LX.part {bs rest:Bs}{tk:List Sk}(n k:Nat)(h:∀rest,zSi rest=true→LX bs tk rest)(hr:zSi rest=true):LX (jE n k bs) (zJ6 n k tk) rest:=by
 unfold jE zJ6
 split
 ·exact((LX.mark (by decide) rfl:LX [40] [mk 40] (bs++([41]++rest))).app (h ([41]++rest) rfl)).app (LX.mark (by decide) rfl)
 ·exact h rest hr
def kwS (b:Bs):Sk:=(1,b,0)
def zS1 (k:Nat)(t:Bs)(x:Int)(ls:List (List Sk))(kk:List Nat):List Sk:=
 if k=20 then [kwS t,mk 91]++ls.getD 0 []++[mk 93]
 else if k=21 then [(2,Lib.itoa x,x)]
 else if k=23∨k=24∨k=25 then zJ6 (zSL k) (kk.getD 0 0) (ls.getD 0 [])++[mk (zSS k)]++zJ6 (zSy k) (kk.getD 1 0) (ls.getD 1 [])
 else if k=26 then [mk 45]++zJ6 3 (kk.getD 0 0) (ls.getD 0 [])
 else [kwS t]
def Fo.tok:Fo→List (List Sk)
 | .nil=>[]
 | .cons k p t x c r=>zS1 k t x c.tok c.kinds::r.tok
def LF (a:Bs)(l:List Sk):Prop:=∀rest,LX a l rest
def LXq:List (Bs × List Sk)→Bs→Prop
 | [],_=>True
 | (a,l)::q,rest=>LX a l ((q.map Prod.fst).flatten++rest)∧LXq q rest
theorem LXq.out:∀ {q:List (Bs × List Sk)} {rest:Bs},LXq q rest→LX (q.map Prod.fst).flatten (q.map Prod.snd).flatten rest
 | [],rest,_=>LX.nil rest
 | (a,l)::q,rest,h=>h.1.app h.2.out
theorem LX.zNY (rest:Bs):∀d,LX (List.replicate d 9) [] rest
 | 0=>LX.nil rest
 | d+1=>(LX.skip rfl _:LX [9] [] (List.replicate d 9++rest)).app (LX.zNY rest d)
def STq:List (Bs × Bs)→List (List Sk × List Sk)→Prop
 | [],[]=>True
 | a::r,l::q=>(LF a.1 l.1∧LF a.2 l.2)∧STq r q
 | _,_=>False
theorem STq.fst:∀ {a:List (Bs × Bs)} {l:List (List Sk × List Sk)},STq a l→LF (a.map Prod.fst).flatten (l.map Prod.fst).flatten
 | [],[],_=>fun AA=>LX.nil AA
 | a::r,l::q,h=>fun AA=>(h.1.1 _).app (h.2.fst AA)
 | [],_::_,h=>False.elim h
 | _::_,[],h=>False.elim h
theorem STq.snd:∀ {a:List (Bs × Bs)} {l:List (List Sk × List Sk)},STq a l→∀j,LF ((a.map Prod.snd).getD j []) ((l.map Prod.snd).getD j [])
 | [],[],_,j=>fun AA=>by
  rw[show((([]:List (Bs × Bs)).map Prod.snd).getD j [])=[] from rfl,show((([]:List (List Sk × List Sk)).map Prod.snd).getD j [])=[] from rfl];exact LX.nil AA
 | a::r,l::q,h,0=>h.1.2
 | a::r,l::q,h,j+1=>h.2.snd j
 | [],_::_,h,_=>False.elim h
 | _::_,[],h,_=>False.elim h
def Fo.z:Fo→Fo
 | .nil=>.nil
 | .cons k p t x c r=>.cons k 0 t x c.z r.z
structure AtP (pre:List Nd)(i k p:Nat)(t:Bs)(x:Int)(f:Fo)(s:Ps)(l:List Sk)(d:Nat):Prop where
 len:pre.length=i
 nd:s.nd=pre++⟨k,p,t,x,f.roots (i+1)⟩::f.flat (i+1)
 ts:s.ts.map Tok.sk=l
 dp:s.deep=d
def GG (pre:List Nd)(i k p:Nat)(t:Bs)(x:Int)(f c:Fo)(l:List Sk)(d:Nat)(s:Ps):Prop:=∃g:Fo,g.z=c.z∧AtP pre i k p t x (f.app g) s l d
section
variable {pre:List Nd} {i k p:Nat} {t:Bs} {x:Int} {f:Fo} {s:Ps} {l r:List Sk} {d:Nat} {u:Sk}
theorem AtP.ss (h:AtP pre i k p t x f s l d):SS s l d s.nd:=⟨h.ts,h.dp,rfl⟩
theorem AtP.adv (h:AtP pre i k p t x f s (u::r) d):AtP pre i k p t x f s.adv r d:=⟨h.len,h.nd,h.ss.adv.1,h.dp⟩
theorem AtP.deep (h:AtP pre i k p t x f s l d)(e:Nat):AtP pre i k p t x f { s with deep:=e } l e:=⟨h.len,h.nd,h.ts,rfl⟩
theorem AtP.on (h:AtP pre i k p t x f s l d)(g:Nd→Nd)(k':Nat)(t':Bs)(x':Int)(hg:∀c,g ⟨k,p,t,x,c⟩=⟨k',p,t',x',c⟩):AtP pre i k' p t' x' f (s.on i g) l d:=⟨h.len,by
 show s.nd.modify i g=_
 rw[h.nd,zAB _ _ _ _ _ h.len,hg],h.ts,h.dp⟩
theorem AtP.text (h:AtP pre i k p t x f s l d)(t':Bs):AtP pre i k p t' x f (s.text i t') l d:=h.on _ k t' x fun c=>rfl
theorem AtP.num (h:AtP pre i k p t x f s l d)(x':Int):AtP pre i k p t x' f (s.num i x') l d:=h.on _ k t x' fun c=>rfl
theorem AtP.kind (h:AtP pre i k p t x f s l d)(k':Nat):AtP pre i k' p t x f (s.kind i k') l d:=h.on _ k' t x fun c=>rfl
theorem AtP.size (h:AtP pre i k p t x f s l d):s.nd.length=i+1+f.size:=by
 rw[h.nd,yM,zJ,ZQ,h.len]; omega
theorem AtP.add (h:AtP pre i k p t x f s l d)(k2 p2:Nat)(t2:Bs)(x2:Int):AtP (zEf pre i k p t x f) s.nd.length k2 p2 t2 x2 .nil ((s.kid i).add ⟨k2,p2,t2,x2,[]⟩) l d:=by
 have hs:=h.size;refine⟨?_,?_,h.ts,h.dp⟩
 ·unfold zEf;rw[yM,zJ,ZQ,h.len]; omega
 ·show s.nd.modify i _++_=_
  rw[hs,h.nd,zAB _ _ _ _ _ h.len]
  rfl
theorem AtP.xH (h:AtP pre i k p t x f s l d)(k2:Nat):AtP (zEf pre i k p t x f) s.nd.length k2 (s.kid i).hd.at_ [] 0 .nil (s.xH i k2) l d:=h.add k2 _ [] 0
theorem GG.adv {c:Fo}(h:GG pre i k p t x f c (u::r) d s):GG pre i k p t x f c r d s.adv:=by
 obtain⟨g,h1,h2⟩:=h;exact⟨g,h1,h2.adv⟩
theorem GG.deep {c:Fo}(h:GG pre i k p t x f c l d s)(e:Nat):GG pre i k p t x f c l e { s with deep:=e }:=by
 obtain⟨g,h1,h2⟩:=h;exact⟨g,h1,h2.deep e⟩
end
def br (n k m:Nat):Nat:=if YO k<n then 1+m else m
def zDM:List Nat→Nat
 | []=>0
 | a::r=>max a (zDM r)
def zPB (k:Nat)(ls kk:List Nat):Nat:=
 if k=26 then 1+br 3 (kk.getD 0 0) (ls.getD 0 0)
 else if k=23∨k=24∨k=25 then max (br (zSL k) (kk.getD 0 0) (ls.getD 0 0)) (br (zSy k) (kk.getD 1 0) (ls.getD 1 0))
 else if k=20∨k=6 then 1+zDM ls
 else zDM ls
def Fo.zBK:Fo→List Nat
 | .nil=>[]
 | .cons k p t x c r=>zPB k c.zBK c.kinds::r.zBK
section
variable {M:Nat} {pre:List Nd} {i p:Nat} {s:Ps} {r:List Sk} {d:Nat}
end
section
variable {M k p:Nat} {t:Bs} {x:Int} {c r:Fo}
end


theorem zGJ:∀f:Fo,f.z.kinds=f.kinds
 | .nil=>rfl
 | .cons k p t x c r=>by show k::r.z.kinds=k::r.kinds; rw[zGJ r]
theorem zDO:∀f:Fo,f.z.size=f.size
 | .nil=>rfl
 | .cons k p t x c r=>by show 1+c.z.size+r.z.size=1+c.size+r.size; rw[zDO c,zDO r]
theorem zNw:∀(f:Fo) (a:Nat),f.z.roots a=f.roots a
 | .nil,a=>rfl
 | .cons k p t x c r,a=>by show a::r.z.roots (a+1+c.z.size)=a::r.roots (a+1+c.size); rw[zDO c,zNw r]
theorem zKz:∀f:Fo,f.z.txt=f.txt
 | .nil=>rfl
 | .cons k p t x c r=>by show YH k t x c.z.txt c.z.kinds::r.z.txt=YH k t x c.txt c.kinds::r.txt; rw[zKz c,zGJ c,zKz r]
theorem zRG:∀(f:Fo) (d:Nat),f.z.st d=f.st d
 | .nil,d=>rfl
 | .cons k p t x c r,d=>by
  show(xP d k t x c.z.txt ((c.z.st (d+1)).map Prod.snd),((c.z.st d).map Prod.fst).flatten)::r.z.st d=(xP d k t x c.txt ((c.st (d+1)).map Prod.snd),((c.st d).map Prod.fst).flatten)::r.st d
  rw[zKz c,zRG c,zRG c,zRG r]
theorem zR8:∀f:Fo,f.z.inn=f.inn
 | .nil=>rfl
 | .cons k p t x c r=>by show vB c.z.txt::r.z.inn=vB c.txt::r.inn; rw[zKz c,zR8 r]
theorem zR6:∀f:Fo,f.z.top=f.top
 | .nil=>rfl
 | .cons k p t x c r=>by show zC3 k t x c.z.txt c.z.inn ((c.z.st 1).map Prod.snd)::r.z.top=zC3 k t x c.txt c.inn ((c.st 1).map Prod.snd)::r.top; rw[zKz c,zR8 c,zRG c,zR6 r]
theorem zRs (f:Fo):f.z.print=f.print:=by unfold Fo.print; rw[zR6]
theorem zSI:∀f:Fo,f.z.wt=f.wt
 | .nil=>rfl
 | .cons k p t x c r=>by show t.length+30+c.z.wt+r.z.wt=t.length+30+c.wt+r.wt; rw[zSI c,zSI r]
theorem zSz {M:Nat}:∀f:Fo,f.ok M→f.z.ok 0
 | .nil,_=>trivial
 | .cons k p t x c r,h=>⟨⟨by rw[zGJ c]; exact h.1.1,zU _⟩,zSz c h.2.1,zSz r h.2.2⟩
def zR7 (m:TT.xB)(n:Nd):Prop:=m.kind=(n.kind:Int)∧m.num=n.num∧m.text.data.toList=n.text∧m.kids=xG n.kids
theorem zMk {L:List TT.xB}:∀(f:Fo) (a:Nat),(∀j n,(f.flat a)[j]?=some n→∃m,L[a+j]?=some m∧zR7 m n)→VE L a f
 | .nil,a,_=>trivial
 | .cons k p t x c r,a,h=>by
  have e:(Fo.cons k p t x c r).flat a=⟨k,p,t,x,c.roots (a+1)⟩::(c.flat (a+1)++r.flat (a+1+c.size)):=rfl;rw[e] at h;refine⟨?_,zMk c (a+1) fun j n hj=>?_,zMk r (a+1+c.size) fun j n hj=>?_⟩
  ·obtain⟨m,h1,h2⟩:=h 0 _ rfl;exact⟨m,h1,h2⟩
  ·have AA:=(List.getElem?_eq_some_iff.1 hj).1;obtain⟨m,h1,h2⟩:=h (j+1) n (by rw[List.getElem?_cons_succ,List.getElem?_append_left AA]; exact hj);exact⟨m,by rw[show a+1+j=a+(j+1) from by omega]; exact h1,h2⟩
  ·obtain⟨m,h1,h2⟩:=h (c.size+j+1) n (by
    rw[List.getElem?_cons_succ,List.getElem?_append_right (by rw[ZQ]; omega),ZQ,show c.size+j-c.size=j from by omega]; exact hj)
   exact⟨m,by rw[show a+1+c.size+j=a+(c.size+j+1) from by omega]; exact h1,h2⟩
theorem zJw {L:List TT.xB}:∀(f:Fo) (a:Nat),VE L a f→∀j n,(f.flat a)[j]?=some n→∃m,L[a+j]?=some m∧zR7 m n
 | .nil,a,_,j,n,h=>by cases h
 | .cons k p t x c r,a,hL,j,n,h=>by
  have e:(Fo.cons k p t x c r).flat a=⟨k,p,t,x,c.roots (a+1)⟩::(c.flat (a+1)++r.flat (a+1+c.size)):=rfl;rw[e] at h;obtain⟨⟨m,h1,h2⟩,hc,hr⟩:=hL
  cases j with
  | zero=>
   injection h with h;subst h;exact⟨m,h1,h2⟩
  | succ j=>
   rw[List.getElem?_cons_succ] at h
   by_cases hj:j<c.size
   ·rw[List.getElem?_append_left (by rw[ZQ]; exact hj)] at h;obtain⟨m,h3,h4⟩:=zJw c (a+1) hc j n h;exact⟨m,by rw[show a+(j+1)=a+1+j from by omega]; exact h3,h4⟩
   ·rw[List.getElem?_append_right (by rw[ZQ]; omega),ZQ] at h;obtain⟨m,h3,h4⟩:=zJw r _ hr _ n h;exact⟨m,by rw[show a+(j+1)=a+1+c.size+(j-c.size) from by omega]; exact h3,h4⟩
theorem zJT {L:List TT.xB}:∀(f:Fo) (a:Nat),VE L a f→VE L a f.z
 | .nil,a,_=>trivial
 | .cons k p t x c r,a,⟨⟨n,h1,h2,h3,h4,h5⟩,hc,hr⟩=>⟨⟨n,h1,h2,h3,h4,by rw[zNw]; exact h5⟩,zJT c _ hc,by rw[zDO]; exact zJT r _ hr⟩
theorem zPK {L L':List TT.xB}{f g:Fo}{a:Nat}(h:VE L a f)(h':VE L' a g)(e:g.z=f.z)(j:Nat)(hj:j<f.size):∃m m',L[a+j]?=some m∧L'[a+j]?=some m'∧m.kind=m'.kind∧m.num=m'.num∧m.text=m'.text∧m.kids=m'.kids:=by
 have h':VE L' a f.z:=by rw[←e]; exact zJT g a h'
 have h:=zJT f a h
 have hl:j<(f.z.flat a).length:=by rw[ZQ,zDO]; exact hj
 obtain⟨m,h1,h2,h3,h4,h5⟩:=zJw _ _ h j _ (yG hl);obtain⟨m',AD,AE,AA,AC,AB⟩:=zJw _ _ h' j _ (yG hl);exact⟨m,m',h1,AD,by rw[h2,AE],by rw[h3,AA],(zCk h4).trans (zCk AC).symm,by rw[h5,AB]⟩
def zSv (u:Tok):Nat:=60+u.text.length
def zST (k:Nat):Nat:=if k=1∨k=4 then 0 else if k=6 then 80 else if k=2∨k=3∨(7≤k∧k≤19) then 100 else 25
def zS0 (n:Nd):Nat:=n.text.length+zST n.kind
def val (s:Ps):Nat:=(s.nd.map zS0).sum+(s.ts.map zSv).sum
section
variable {α β:Type} {s:Ps} {c d:Nat}
end








structure AtD (pre:List Nd)(i k p:Nat)(t:Bs)(x:Int)(f:Fo)(s:Ps)(d:Nat):Prop where
 len:pre.length=i
 nd:s.nd=pre++⟨k,p,t,x,f.roots (i+1)⟩::f.flat (i+1)
 dp:s.deep=d
 dl:d≤64
def GD (pre:List Nd)(i k p:Nat)(t:Bs)(x:Int)(f:Fo)(d:Nat)(s:Ps):Prop:=∃g:Fo,d+zDM g.zBK≤64∧AtD pre i k p t x (f.app g) s d
theorem zIL:∀f g:Fo,(f.app g).zBK=f.zBK++g.zBK
 | .nil,g=>rfl
 | .cons k p t x c r,g=>by show zPB k c.zBK c.kinds::(r.app g).zBK=zPB k c.zBK c.kinds::(r.zBK++g.zBK); rw[zIL r g]
theorem zLm:∀a b:List Nat,zDM (a++b)=max (zDM a) (zDM b)
 | [],b=>by show zDM b=max 0 (zDM b); omega
 | x::a,b=>by show max x (zDM (a++b))=max (max x (zDM a)) (zDM b); rw[zLm a b]; omega
section
variable {pre:List Nd} {i k p:Nat} {t:Bs} {x:Int} {f:Fo} {s:Ps} {d:Nat}
theorem AtD.adv (h:AtD pre i k p t x f s d):AtD pre i k p t x f s.adv d:=⟨h.len,h.nd,h.dp,h.dl⟩
theorem AtD.deep (h:AtD pre i k p t x f s d)(e:Nat)(he:e≤64):AtD pre i k p t x f { s with deep:=e } e:=⟨h.len,h.nd,rfl,he⟩
theorem AtD.on (h:AtD pre i k p t x f s d)(g:Nd→Nd)(k':Nat)(t':Bs)(x':Int)(hg:∀c,g ⟨k,p,t,x,c⟩=⟨k',p,t',x',c⟩):AtD pre i k' p t' x' f (s.on i g) d:=⟨h.len,by
 show s.nd.modify i g=_
 rw[h.nd,zAB _ _ _ _ _ h.len,hg],h.dp,h.dl⟩
theorem AtD.text (h:AtD pre i k p t x f s d)(t':Bs):AtD pre i k p t' x f (s.text i t') d:=h.on _ k t' x fun c=>rfl
theorem AtD.num (h:AtD pre i k p t x f s d)(x':Int):AtD pre i k p t x' f (s.num i x') d:=h.on _ k t x' fun c=>rfl
theorem AtD.kind (h:AtD pre i k p t x f s d)(k':Nat):AtD pre i k' p t x f (s.kind i k') d:=h.on _ k' t x fun c=>rfl
theorem AtD.size (h:AtD pre i k p t x f s d):s.nd.length=i+1+f.size:=by
 rw[h.nd,yM,zJ,ZQ,h.len]; omega
theorem AtD.add (h:AtD pre i k p t x f s d)(k2 p2:Nat)(t2:Bs)(x2:Int):AtD (zEf pre i k p t x f) s.nd.length k2 p2 t2 x2 .nil ((s.kid i).add ⟨k2,p2,t2,x2,[]⟩) d:=by
 have hs:=h.size;refine⟨?_,?_,h.dp,h.dl⟩
 ·unfold zEf;rw[yM,zJ,ZQ,h.len]; omega
 ·show s.nd.modify i _++_=_
  rw[hs,h.nd,zAB _ _ _ _ _ h.len]
  rfl
theorem AtD.xH (h:AtD pre i k p t x f s d)(k2:Nat):AtD (zEf pre i k p t x f) s.nd.length k2 (s.kid i).hd.at_ [] 0 .nil (s.xH i k2) d:=h.add k2 _ [] 0
theorem GD.adv (h:GD pre i k p t x f d s):GD pre i k p t x f d s.adv:=by
 obtain⟨g,h1,h2⟩:=h;exact⟨g,h1,h2.adv⟩
end
section
variable {pre:List Nd} {i k p:Nat} {t:Bs} {x:Int} {f:Fo} {s:Ps} {d:Nat}
end

section
variable {pre:List Nd} {i k p:Nat} {t:Bs} {x:Int} {f:Fo} {s:Ps} {d:Nat}
end
theorem d2 {d:Nat}{f g:Fo}(h1:d+zDM f.zBK≤64)(h2:d+zDM g.zBK≤64):d+zDM (f.app g).zBK≤64:=by
 rw[zIL,zLm]; omega
section
variable {pre:List Nd} {i k p:Nat} {t:Bs} {x:Int} {f:Fo} {s:Ps} {d:Nat}
end
section
variable {pre:List Nd} {i k p:Nat} {t:Bs} {x:Int} {f:Fo} {s:Ps} {d:Nat}
end
end Go.Proofs.YtioffpjajhalaaaGreatDoor
namespace Go.Proofs.YtioffpjajhalaaaGreatDoor.TT
open Go Go.RowKit
structure zSZ (w:World)(x:xB):Prop where
 kids:Cells w x.kA (xD x.kids)
structure zH7 (w:World)(A:Option Addr)(l:List xB):Prop where
 cells:Cells w A (YN l)
 ok:∀x ∈ l,zSZ w x
theorem zH7.ext {w w':World}{A:Option Addr}{l:List xB}(h:zH7 w A l)(hx:Ext w w'):zH7 w' A l:=⟨h.cells.ext hx,fun x hm=>⟨(h.ok x hm).kids.ext hx⟩⟩
theorem vV.c {w:World}{A:Option Addr}{l:List xB}(h:vV w A l):zH7 w A l:=⟨h.cells,fun x hm=>⟨(h.ok x hm).kids⟩⟩
theorem zH7.at_ {w:World}{A:Option Addr}{l:List xB}(h:zH7 w A l)(k:Nat)(hk:k<l.length) :
  ∃b AA,A=some ⟨b,AA,none⟩∧b<w.heap.size∧∀j,j<5→w.cell? ⟨b,AA+k*5+j,none⟩=(l[k].cells)[j]?:=by
 obtain⟨b,AA,hA,hb,hc⟩:=h.cells.at_ (by rw[zBJ]; omega);exact⟨b,AA,hA,hb,fun j hj=>by rw[Nat.add_assoc,hc _ (by rw[zBJ]; omega),zHt l k j hk hj]⟩
theorem zJy {l m:List Int}(h:l.length=m.length)(hh:∀j (h1:j<l.length) (h2:j<m.length),l[j]=m[j]):l=m:=List.ext_getElem h hh
theorem zIp (L M:Option Addr)(ls ms:List Int)(n c m d:Nat)(w:World)(hn:n=ls.length)(hm:m=ms.length)(hl:Cells w L (xD ls))(hw:Cells w M (xD ms))(hlen:ls.length≤9000)(hwl:ms.length≤9000)(b:Bool)(hb:Hid ((ls==ms)=b)) :
  Calls Tryz.prog 50 #[.slice L n c,.slice M m d] w fun e w'=>e=.returned (.bool b)∧Ext w w':=by
 subst hn hm;have HL:=yD hl;have HW:=yD hw;clear hl hw
 by_cases AB:ls.length=ms.length
 ·have e0:((ls.length:Int)==(ms.length:Int))=true:=by rw[AB]; simp
  have e1:((ls.length:Int) != (ms.length:Int))=false:=by rw[AB]; simp
  have AF:=yD AB;clear AB
  go_enter Tryz.func50,Tryz.ntmps50
  go_wp2_with fail
  go_loopw [13] (fun i wr=>∃k:Nat,k≤ls.length∧i=.int .i64 k∧Hid (Ext w wr)∧Hid (∀j (h1:j<ls.length) (h2:j<ms.length),j<k→ls[j]=ms[j])) (fun i _=>ls.length-(intOf i).toNat)
  case atStart=>exact⟨0,zT _,rfl,yD (Ext.refl _),yD fun j h1 h2 hj=>by omega⟩
  case round=>
   obtain⟨k,hk,rfl,HX,HR⟩:=hrel;obtain⟨wa,rfl⟩:∃wa:World,wa=wr:=⟨_,rfl⟩
   by_cases AJ:k<ls.length
   ·have d0:decide ((k:Int)<(ls.length:Int))=true:=yP (by omega)
    have AC:k<ms.length:=by have:=AF.out; omega
    obtain⟨b1,AI,rfl,AN,AK⟩:=zCC (HL.out.ext HX.out) k AJ;obtain⟨b2,AG,rfl,AL,AM⟩:=zCC (HW.out.ext HX.out) k AC
    have q1:(k:Int)<(ls.length:Int):=by omega
    have q2:(k:Int)<(ms.length:Int):=by omega
    have AE:Hid (ls[k]=ms[k]→∀j (h1:j<ls.length) (h2:j<ms.length),j<k+1→ls[j]=ms[j]):=yD (by
     intro h j h1 h2 h3
     by_cases hj:j=k
     ·subst hj; exact h
     ·exact HR.out j h1 h2 (by omega))
    have AH:Hid (ls[k]≠ms[k]→b=false):=yD (by
     intro h;rw[←hb.out,yF];rintro rfl
     exact h rfl)
    generalize ls[k]=x at *;generalize ms[k]=y at *
    by_cases AA:x=y
    ·have HY:=yD (AE.out AA)
     have e5:(x==y)=true:=by rw[AA]; simp
     have e6:(x != y)=false:=by rw[AA]; simp
     clear AA
     go_wp2_with fail
     go_quiet (fail)
     rename_i nq;have AD:=yD (Ext.drewN HX.out nq)
     go_wp2_with fail
     go_roundw
     case rel=>exact⟨k+1,by omega,by go_num,AD,HY⟩
     case measure=>simp[intOf]; omega
    ·have HN:=yD (AH.out AA);have e5:(x==y)=false:=beq_eq_false_iff_ne.2 AA
     have e6:(x != y)=true:=by rw[bne,e5]; rfl
     clear AA
     go_wp2_with fail
     go_quiet (fail)
     rename_i nq;have AD:=yD (Ext.drewN HX.out nq)
     go_wp2_with fail
     go_ret;exact⟨xE HN.out.symm,AD.out⟩
   ·obtain rfl:k=ls.length:=by omega
    have d0:decide ((ls.length:Int)<(ls.length:Int))=false:=by simp
    have HB:Hid (b=true):=yD (by
     rw[←hb.out,zN]
     exact zJy AF.out (fun j h1 h2=>HR.out j h1 h2 h1))
    go_wp2_with fail
    go_ret;exact⟨xE HB.out.symm,HX.out⟩
 ·have e0:((ls.length:Int)==(ms.length:Int))=false:=by rw[yF]; omega
  have e1:((ls.length:Int) != (ms.length:Int))=true:=by rw[bne,e0]; rfl
  have HB:Hid (b=false):=yD (by rw[←hb.out,yF]; rintro rfl; exact AB rfl)
  go_enter Tryz.func50,Tryz.ntmps50
  go_wp2_with fail
  go_ret;exact⟨xE HB.out.symm,Ext.refl _⟩
end Go.Proofs.YtioffpjajhalaaaGreatDoor.TT
