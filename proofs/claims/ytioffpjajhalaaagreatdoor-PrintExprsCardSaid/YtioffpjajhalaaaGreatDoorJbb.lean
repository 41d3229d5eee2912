/- How printed pieces are read as words: each piece ahead of what follows. No program in sight; no condition. (and what follows of it). The conditions stand at each lemma. -/
import Derived.Test.YtioffpjajhalaaaGreatDoorJaa
import Derived.Test.YtioffpjajhalaaaGreatDoorJba
import Derived.Test.YtioffpjajhalaaaGreatDoorJab
import Derived.Test.YtioffpjajhalaaaGreatDoorJav
set_option linter.unusedVariables false
set_option linter.unusedSimpArgs false
set_option maxRecDepth 100000
set_option maxHeartbeats 16000000
namespace Go.Proofs.YtioffpjajhalaaaGreatDoor
abbrev Sk:=Nat × Bs × Int
def Tok.sk (t:Tok):Sk:=(t.kind,t.text,t.n)
def LX (s:Bs)(l:List Sk)(rest:Bs):Prop:=∀p,∃us:List Tok,us.map Tok.sk=l∧VJ p (s++rest)=zAv.pre us (VJ (p+s.length) rest)
theorem zUM (a b:List Tok)(r:zAv):zAv.pre a (zAv.pre b r)=zAv.pre (a++b) r:=by
 cases r with
 | ok l=>simp[zAv.pre]
 | err p e=>rfl
theorem LX.nil (rest:Bs):LX [] [] rest:=fun p=>⟨[],rfl,(zL2 _).symm⟩
theorem LX.app {a b rest:Bs}{la lb:List Sk}(ha:LX a la (b++rest))(hb:LX b lb rest):LX (a++b) (la++lb) rest:=fun p=>by
 obtain⟨u,hu,e⟩:=ha p;obtain⟨v,hv,e2⟩:=hb (p+a.length);refine⟨u++v,by rw[List.map_append,hu,hv],?_⟩;rw[List.append_assoc,e,e2,zUM,yM,Nat.add_assoc]
theorem LX.skip {c:UInt8}(h:YF c=true)(rest:Bs):LX [c] [] rest:=fun p=>⟨[],rfl,by
 have hs:step ([c]++rest)=.skip 1:=by
  show XM c rest=_
  unfold XM;rw[if_pos h]
 rw[zL2,zGN hs]
 rfl⟩
theorem LX.tok {s rest:Bs}{kd:Nat}{n:Int}(h:step (s++rest)=.tok kd s.length n):LX s [(kd,s,n)] rest:=fun p=>⟨[⟨kd,p,p+s.length,s,n⟩],rfl,by
 rw[zNF h,List.drop_left,List.take_left]
 cases VJ (p+s.length) rest <;> rfl⟩
theorem zRg:∀c ∈ zPY,YF c=false∧(c==35)=false∧jJ c=false∧jA c=false∧zHj c=true:=by decide
theorem LX.mark {c:UInt8}(hc:c ∈ zPY){rest:Bs}(h:(c==61&&rest.head?==some 61)=false):LX [c] [(3,[c],0)] rest:=by
 obtain⟨h1,h2,h3,h4,h5⟩:=zRg c hc;refine LX.tok ?_
 show XM c rest=_
 unfold XM;rw[h1,h2,h3,h4,h,h5]
 rfl
theorem LX.eq2 (rest:Bs):LX [61,61] [(3,[61,61],0)] rest:=LX.tok (by
 show XM 61 (61::rest)=_
 unfold XM
 rfl)
theorem zPy {p:UInt8→Bool}:∀(r rest:Bs),r.all p=true→rest.head?.all (fun c=>!p c)=true→(r++rest).takeWhile p=r
 | [],[],_,_=>rfl
 | [],c::rest,_,h=>by
  have h:(!p c)=true:=h;rw[Bool.not_eq_true'] at h
  show List.takeWhile p (c::rest)=[]
  rw[List.takeWhile_cons,h]
  rfl
 | c::r,rest,h,h2=>by
  rw[List.all_cons,zF] at h
  show List.takeWhile p (c::(r++rest))=c::r
  rw[List.takeWhile_cons,h.1]
  show c::_=_
  rw[zPy r rest h.2 h2]
def zQz (rest:Bs):Bool:=rest.head?.all fun c=>!JA c
theorem LX.name {t rest:Bs}(ht:zAo t=true)(h:zQz rest=true):LX t [(1,t,0)] rest:=by
 cases t with
 | nil=>cases ht
 | cons c r=>
  have ht:(jJ c&&r.all JA)=true:=ht;rw[zF] at ht;obtain⟨h1,h2⟩:=zMk ht.1;refine LX.tok ?_
  show XM c (r++rest)=_
  unfold XM;rw[h1,h2,ht.1,zPy r rest ht.2 h]
  show Step.tok 1 (1+r.length) 0=.tok 1 (r.length+1) 0
  rw[Nat.add_comm]
theorem zJ6:∀(a:Bs) (n:Int) (d:UInt8),zAU n (a++[d])=(zAU n a).bind fun m=>if 2147483647<m*10+((d.toNat:Int)-48) then none else some (m*10+((d.toNat:Int)-48))
 | [],n,d=>rfl
 | c::a,n,d=>by
  show(if _ then none else zAU _ (a++[d]))=Option.bind (if _ then none else zAU _ a) _
  split
  ·rfl
  ·exact zJ6 a _ d
theorem zLK {d:Nat}(h:d<10):(UInt8.ofNat (48+d)).toNat=48+d:=by
 rw[UInt8.toNat_ofNat'];omega
theorem zU2:∀(u:Nat),u≤2147483647→zAU 0 (Lib.decDigits u)=some (u:Int)∧(Lib.decDigits u).all jA=true∧Lib.decDigits u≠[]:=by
 intro u
 induction u using Nat.strongRecOn with
 | ind u ih=>
  intro hu
  have hd:∀d,d<10→jA (UInt8.ofNat (48+d))=true:=fun d h=>by
   unfold jA;rw[zLK h];simp only[zF,zE];omega
  rw[Lib.decDigits]
  split
  ·rename_i h;refine⟨?_,?_,by simp⟩
   ·show(if 2147483647<(0:Int)*10+(((UInt8.ofNat (48+u)).toNat:Int)-48) then none else some ((0:Int)*10+(((UInt8.ofNat (48+u)).toNat:Int)-48)))=_
    rw[zLK h,if_neg (by omega)]
    congr 1
    omega
   ·rw[List.all_cons,hd u h]; rfl
  ·rename_i h;have hm:u % 10<10:=Nat.mod_lt _ (by decide);obtain⟨h1,h2,h3⟩:=ih (u / 10) (by omega) (by omega);refine⟨?_,?_,by simp⟩
   ·rw[zJ6,h1]
    show(if _ then none else some _)=_
    rw[zLK hm,if_neg (by omega)]
    congr 1
    omega
   ·rw[List.all_append,h2,List.all_cons,hd _ hm]; rfl
theorem LX.num {x:Int}(h0:0≤x)(h1:x≤2147483647){rest:Bs}(h:zQz rest=true):LX (Lib.itoa x) [(2,Lib.itoa x,x)] rest:=by
 obtain⟨u,rfl⟩:∃u:Nat,x=(u:Int):=⟨x.toNat,by omega⟩;rw[Lib.itoa_nonneg];obtain⟨e1,e2,e3⟩:=zU2 u (by omega)
 have hr:rest.head?.all (fun c=>!jA c)=true:=by
  cases rest with
  | nil=>rfl
  | cons c r=>
   have h:(!JA c)=true:=h;unfold JA at h
   show(!jA c)=true
   cases hd:jA c with
   | false=>rfl
   | true=>rw[hd] at h; simp at h
 cases hs:Lib.decDigits u with
 | nil=>exact absurd hs e3
 | cons c r=>
  rw[hs] at e1 e2;rw[List.all_cons,zF] at e2
  have hk:YF c=false∧(c==35)=false∧jJ c=false:=by
   have hd:=e2.1;unfold jA at hd;simp only[zF,zE] at hd
   have AA:∀d:UInt8,d.toNat<48→(c==d)=false:=fun d hx=>by
    rw[yF]; intro e; subst e; omega
   refine⟨?_,AA 35 (by decide),?_⟩
   ·unfold YF;rw[AA 32 (by decide),AA 9 (by decide),AA 10 (by decide),AA 13 (by decide)]; rfl
   ·unfold jJ;simp only[Bool.and_eq_false_iff,yH];omega
  refine LX.tok ?_
  show XM c (r++rest)=_
  unfold XM zKD;rw[hk.1,hk.2.1,hk.2.2,e2.1,zPy r rest e2.2 hr,e1]
  show Step.tok 2 (1+r.length) _=.tok 2 (r.length+1) _
  rw[Nat.add_comm]
def okW (M:Nat)(t:Tok):Prop:=t.at_≤M∧(t.kind=1→zAo t.text=true)∧(t.kind=2→0≤t.n∧t.n≤2147483647)
def KR {α:Type}(Q:α→Ps→Prop)(r:Res α):Prop:=∀a s,r=.ok a s→Q a s
theorem jG {α:Type}{Q:α→Ps→Prop}{a:α}{s:Ps}(q:Q a s):KR Q (.ok a s):=fun b t e=>by injection e with e1 e2; subst e1; subst e2; exact q
theorem YE {α:Type}{Q:α→Ps→Prop}{e:Int}{p:Nat}:KR Q (.err e p:Res α):=fun b t h=>by cases h
theorem xD {α β:Type}{Q:α→Ps→Prop}{T:β→Ps→Prop}{r:Res α}{f:α→Ps→Res β}(h:KR Q r)(k:∀a s,Q a s→KR T (f a s)):KR T (r.bind f):=fun b t e=>by
 cases r with
 | ok a s=>exact k a s (h a s rfl) b t e
 | err i p=>cases e
theorem vW {α:Type}{Q:α→Ps→Prop}{c:Prop} [Decidable c] {a b:Res α}(h:KR Q a)(k:KR Q b):KR Q (if c then a else b):=by
 split
 ·exact h
 ·exact k
theorem vC {α:Type}{Q T:α→Ps→Prop}{r:Res α}(h:KR Q r)(k:∀a s,Q a s→T a s):KR T r:=fun a s e=>k a s (h a s e)
structure AtN (M:Nat)(pre:List Nd)(i k p:Nat)(t:Bs)(x:Int)(f:Fo)(s:Ps):Prop where
 len:pre.length=i
 pm:p≤M
 nd:s.nd=pre++⟨k,p,t,x,f.roots (i+1)⟩::f.flat (i+1)
 ts:∀u ∈ s.ts,okW M u
def XO (pre:List Nd)(i k p:Nat)(t:Bs)(x:Int)(f:Fo):List Nd:=pre++⟨k,p,t,x,f.roots (i+1)++[i+1+f.size]⟩::f.flat (i+1)
theorem zBu (pre post:List Nd)(n:Nd)(g:Nd→Nd)(i:Nat)(h:pre.length=i):(pre++n::post).modify i g=pre++g n::post:=by
 subst h
 induction pre with
 | nil=>rfl
 | cons a l ih=>
  rw[zZ,zJ,List.modify_succ_cons,ih]
  rfl
def JE (M:Nat)(pre:List Nd)(i k p:Nat)(t:Bs)(x:Int)(f:Fo)(Q:List Nat→Prop)(s:Ps):Prop:=∃g:Fo,g.ok M∧Q g.kinds∧AtN M pre i k p t x (f.app g) s
section
variable {M:Nat} {pre:List Nd} {i k p:Nat} {t:Bs} {x:Int} {f:Fo} {s:Ps}
theorem AtN.adv (h:AtN M pre i k p t x f s):AtN M pre i k p t x f s.adv:=⟨h.len,h.pm,h.nd,fun u hu=>h.ts u (List.mem_of_mem_tail hu)⟩
theorem AtN.deep (h:AtN M pre i k p t x f s)(d:Nat):AtN M pre i k p t x f { s with deep:=d }:=⟨h.len,h.pm,h.nd,h.ts⟩
theorem AtN.hd (h:AtN M pre i k p t x f s):okW M s.hd:=by
 unfold Ps.hd
 cases e:s.ts with
 | nil=>exact⟨zT _,fun e=>(by cases e),fun e=>(by cases e)⟩
 | cons t l=>exact h.ts t (by rw[e]; simp)
theorem AtN.on (h:AtN M pre i k p t x f s)(g:Nd→Nd)(k':Nat)(t':Bs)(x':Int)(hg:∀c,g ⟨k,p,t,x,c⟩=⟨k',p,t',x',c⟩):AtN M pre i k' p t' x' f (s.on i g):=⟨h.len,h.pm,by
 show s.nd.modify i g=_
 rw[h.nd,zBu _ _ _ _ _ h.len,hg],h.ts⟩
theorem AtN.text (h:AtN M pre i k p t x f s)(t':Bs):AtN M pre i k p t' x f (s.text i t'):=h.on _ k t' x fun c=>rfl
theorem AtN.num (h:AtN M pre i k p t x f s)(x':Int):AtN M pre i k p t x' f (s.num i x'):=h.on _ k t x' fun c=>rfl
theorem AtN.kind (h:AtN M pre i k p t x f s)(k':Nat):AtN M pre i k' p t x f (s.kind i k'):=h.on _ k' t x fun c=>rfl
theorem AtN.size (h:AtN M pre i k p t x f s):s.nd.length=i+1+f.size:=by
 rw[h.nd,yM,zJ,vK,h.len]; omega
theorem AtN.add (h:AtN M pre i k p t x f s)(k2 p2:Nat)(t2:Bs)(x2:Int)(h2:p2≤M):AtN M (XO pre i k p t x f) s.nd.length k2 p2 t2 x2 .nil ((s.kid i).add ⟨k2,p2,t2,x2,[]⟩):=by
 have hs:=h.size;refine⟨?_,h2,?_,h.ts⟩
 ·unfold XO;rw[yM,zJ,vK,h.len]; omega
 ·show s.nd.modify i _++_=_
  rw[hs,h.nd,zBu _ _ _ _ _ h.len]
  rfl
theorem AtN.xB (h:AtN M pre i k p t x f s)(k2:Nat):AtN M (XO pre i k p t x f) s.nd.length k2 (s.kid i).hd.at_ [] 0 .nil (s.xB i k2):=h.add k2 _ [] 0 h.hd.1
theorem AtN.close {j k2 p2:Nat}{t2:Bs}{x2:Int}{g:Fo}(h0:pre.length=i)(hp:p≤M)(h:AtN M (XO pre i k p t x f) j k2 p2 t2 x2 g s):AtN M pre i k p t x (f.app (Fo.one k2 p2 t2 x2 g)) s:=by
 have hj:j=i+1+f.size:=by
  rw[←h.len];unfold XO;rw[yM,zJ,vK,h0]; omega
 subst hj;refine⟨h0,hp,?_,h.ts⟩;rw[h.nd,zES,zF6];unfold XO;simp[Fo.one,Fo.roots,Fo.flat]
theorem AtN.zGf {s0:Ps}{j k2 p2:Nat}{t2:Bs}{x2:Int}{g:Fo}{Q:List Nat→Prop}(h:AtN M (XO pre i k p t x f) j k2 p2 t2 x2 g s)(h0:AtN M pre i k p t x f s0)(hg:g.ok M)(hk:xU k2 t2 x2 g.kinds)(hQ:Q [k2]):JE M pre i k p t x f Q s:=⟨Fo.one k2 p2 t2 x2 g,⟨⟨hk,h.pm⟩,hg,trivial⟩,hQ,h.close h0.len h0.pm⟩
theorem JE.mono {Q T:List Nat→Prop}(h:JE M pre i k p t x f Q s)(hQ:∀l,Q l→T l):JE M pre i k p t x f T s:=by
 obtain⟨g,h1,h2,h3⟩:=h;exact⟨g,h1,hQ _ h2,h3⟩
theorem JE.behind {g:Fo}{Q T:List Nat→Prop}(hg:g.ok M)(h:JE M pre i k p t x (f.app g) Q s)(hQ:∀l,Q l→T (g.kinds++l)):JE M pre i k p t x f T s:=by
 obtain⟨g2,h1,h2,h3⟩:=h;refine⟨g.app g2,zBX hg h1,by rw[XR]; exact hQ _ h2,?_⟩;rw[←zIF]; exact h3
theorem JE.none {Q:List Nat→Prop}(h:AtN M pre i k p t x f s)(hQ:Q []):JE M pre i k p t x f Q s:=⟨.nil,trivial,hQ,by rw[zEV]; exact h⟩
theorem JE.adv {Q:List Nat→Prop}(h:JE M pre i k p t x f Q s):JE M pre i k p t x f Q s.adv:=by
 obtain⟨g,h1,h2,h3⟩:=h;exact⟨g,h1,h2,h3.adv⟩
theorem JE.deep {Q:List Nat→Prop}(h:JE M pre i k p t x f Q s)(d:Nat):JE M pre i k p t x f Q { s with deep:=d }:=by
 obtain⟨g,h1,h2,h3⟩:=h;exact⟨g,h1,h2,h3.deep d⟩
end
theorem zKK (t:Bs):TT.VB t=zAo t:=by
 have hl:∀c:UInt8,TT.jJ (c.toNat:Int)=jJ c:=fun c=>by
  unfold TT.jJ jJ
  congr 1
  ·exact decide_eq_decide.2 (by omega)
  ·exact decide_eq_decide.2 (by omega)
 have hd:∀c:UInt8,TT.jA (c.toNat:Int)=jA c:=fun c=>by
  unfold TT.jA jA
  congr 1
  ·exact decide_eq_decide.2 (by omega)
  ·exact decide_eq_decide.2 (by omega)
 have hu:∀c:UInt8,((c.toNat:Int)==95)=(c==95):=fun c=>by
  rw[Bool.eq_iff_iff,zN,zN]
  constructor
  ·intro h;apply UInt8.toNat_inj.1
   show c.toNat=95
   omega
  ·intro h;subst h
   rfl
 have hw:∀c:UInt8,TT.JA (c.toNat:Int)=JA c:=fun c=>by
  unfold TT.JA JA;rw[hl,hd,hu,Bool.or_assoc]
 cases t with
 | nil=>rfl
 | cons c r=>
  show(TT.jJ (c.toNat:Int)&&r.all fun c=>TT.JA (c.toNat:Int))=(jJ c&&r.all JA)
  rw[hl,show(fun c:UInt8=>TT.JA (c.toNat:Int))=JA from funext hw]
theorem XF {k:Nat}{t:Bs}{x:Int}(hk:TT.zC2 (k:Int)=true)(ht:zAo t=true)(h0:0≤x)(h1:x≤TT.XP (k:Int)):TT.JR (k:Int) x t=true:=by
 unfold TT.JR;rw[hk,zKK,ht,yP h0,yP h1]
 rfl
theorem ZB {k:Nat}{x:Int}(hk:TT.zC2 (k:Int)=false)(h0:0≤x)(h1:x≤TT.XP (k:Int)):TT.JR (k:Int) x []=true:=by
 unfold TT.JR;rw[hk,yP h0,yP h1]
 rfl
theorem zW1 (a u:Int):TT.isR [a] [u]=TT.jH u a:=by unfold TT.isR; simp[TT.zOv]
theorem zXp (a b u v:Int):TT.isR [a,b] [u,v]=(TT.jH u a&&TT.jH v b):=by unfold TT.isR; simp[TT.zO5]
theorem zVs (a b c u v w:Int):TT.isR [a,b,c] [u,v,w]=(TT.jH u a&&(TT.jH v b&&TT.jH w c)):=by unfold TT.isR; simp[TT.zOG]
theorem zWH (a b c d u v w z:Int):TT.isR [a,b,c,d] [u,v,w,z]=(TT.jH u a&&(TT.jH v b&&(TT.jH w c&&TT.jH z d))):=by unfold TT.isR; simp[TT.zOX]
def isE (k:Nat):Prop:=21≤k∧k≤26
theorem zFF {k:Nat}(h:isE k):TT.jH 0 (k:Int)=true:=by
 obtain⟨h1,h2⟩:=h;unfold TT.jH TT.ZQ;rw[if_pos rfl,yP (by omega),yP (by omega)]
 rfl
theorem zQp {t:Bs}(ht:zAo t=true):xU 5 t 0 []:=⟨by decide,by decide,XF (by decide) ht (by decide) (by decide),by decide⟩
theorem zPl {x:Int}(h0:0≤x)(h1:x≤2147483647):xU 21 [] x []:=⟨by decide,by decide,ZB (by decide) h0 (by simpa [TT.XP] using h1),by decide⟩
theorem zTJ {t:Bs}(ht:zAo t=true):xU 22 t 0 []:=⟨by decide,by decide,XF (by decide) ht (by decide) (by decide),by decide⟩
theorem zJL {k e:Nat}{t:Bs}(hk:k=16∨k=17∨k=20∨k=26)(hw:TT.JR (k:Int) 0 t=true)(he:isE e):xU k t 0 [e]:=⟨by omega,by omega,hw,by
 have h1:=zFF he
 rcases hk with rfl | rfl | rfl | rfl <;> (show TT.isR [(e:Int)] [0]=true; rw[zW1]; exact h1)⟩
theorem zVj {k e d:Nat}(hk:k=23∨k=24∨k=25)(he:isE e)(hd:isE d):xU k [] 0 [e,d]:=⟨by omega,by omega,by rcases hk with rfl | rfl | rfl <;> exact ZB (by decide) (by decide) (by decide),by
 have h1:=zFF he;have h2:=zFF hd
 rcases hk with rfl | rfl | rfl <;> (show TT.isR [(e:Int),(d:Int)] [0,0]=true; rw[zXp,h1,h2]; rfl)⟩
section
variable {M:Nat} {pre:List Nd} {i k p:Nat} {t:Bs} {x:Int} {f:Fo} {s:Ps}
theorem YR (h:AtN M pre i k p t x f s)(b:Bs):KR (fun _ s'=>AtN M pre i k p t x f s') (vE b s):=vW (jG h.adv) YE
theorem zVq (h:AtN M pre i k p t x f s)(kk:Nat):KR (fun u s'=>okW M u∧u.kind=kk∧AtN M pre i k p t x f s') (ofP kk s):=by
 unfold ofP
 split
 ·rename_i hk;exact jG ⟨h.hd,hk,h.adv⟩
 ·exact YE
theorem zAT (h:AtN M pre i k p t x f s):KR (fun _ s'=>∃t',zAo t'=true∧AtN M pre i k p t' x f s') (vS i s):=xD (zVq h 1) fun u s' hu=>jG ⟨u.text,hu.1.2.1 hu.2.1,hu.2.2.text _⟩
theorem zGe (h:AtN M pre i k p t x f s):KR (fun _ s'=>JE M pre i k p t x f (· = [5]) s') (JN i s):=vC (zAT (h.xB 5)) fun _ s' ⟨t',ht,h'⟩=>h'.zGf h trivial (zQp ht) rfl
theorem zKF (h:AtN M pre i k p t x f s):KR (fun _ s'=>JE M pre i k p t x f (· = [21]) s') (JX i s):=xD (zVq (h.xB 21) 2) fun u s' hu=>jG ((hu.2.2.num u.n).zGf h trivial (zPl (hu.1.2.2 hu.2.1).1 (hu.1.2.2 hu.2.1).2) rfl)
theorem zGS {α:Type}{Q:α→Ps→Prop}{body:Pm α}(a z:Bs)(hb:∀d,KR Q (body { s.adv with deep:=d }))(h1:∀a s,Q a s→Q a s.adv)(h2:∀a s d,Q a s→Q a { s with deep:=d }):KR Q (xY a z body s):=by
 unfold xY;refine vW (vW YE (xD (hb _) fun y u hu=>vW (jG (h2 _ _ _ hu)) (xD (Q:=fun _ s'=>Q y s') ?_ fun _ v hv=>jG (h2 _ _ _ hv)))) YE;unfold vE;exact vW (jG (h1 _ _ hu)) YE
end
def exK:Ex→Nat
 | .leaf k _ _ _=>k
 | .neg _ _=>26
 | .bin k _ _ _=>k
def QX (M:Nat):Ex→Prop
 | .leaf k p t n=>((k=22∧zAo t=true∧n=0)∨(k=21∧t=[]∧0≤n∧n≤2147483647))∧p≤M
 | .neg p a=>QX M a∧p≤M
 | .bin k p a b=>(k=23∨k=24∨k=25)∧QX M a∧QX M b∧p≤M
theorem QX.is {M:Nat}:∀ {e:Ex},QX M e→isE (exK e)
 | .leaf k p t n,h=>by
  show 21≤k∧k≤26
  rcases h.1 with h | h <;> (have:=h.1; omega)
 | .neg p a,h=>⟨by show 21≤26; decide,by show 26≤26; decide⟩
 | .bin k p a b,h=>by
  show 21≤k∧k≤26
  have:=h.1; omega
theorem QX.pos {M:Nat}:∀ {e:Ex},QX M e→e.pos≤M
 | .leaf k p t n,h=>h.2
 | .neg p a,h=>h.2
 | .bin k p a b,h=>h.2.2.2
theorem zFE {M:Nat}:∀(e:Ex) {pre:List Nd} {i k p:Nat} {t:Bs} {x:Int} {f:Fo} {s:Ps},AtN M pre i k p t x f s→QX M e→JE M pre i k p t x f (· = [exK e]) (zAe i e s)
 | .leaf k2 p2 t2 x2,pre,i,k,p,t,x,f,s,h,q=>by
  refine(h.add k2 p2 t2 x2 q.2).zGf h trivial ?_ rfl
  rcases q.1 with ⟨rfl,ht,rfl⟩ | ⟨rfl,rfl,h0,h1⟩
  ·exact zTJ ht
  ·exact zPl h0 h1
 | .neg p2 a,pre,i,k,p,t,x,f,s,h,q=>by
  obtain⟨g,h1,h2,h3⟩:=zFE a (h.add 26 p2 [] 0 q.2) q.1;exact AtN.zGf (g:=g) h3 h h1 (by rw[h2]; exact zJL (by simp) (ZB (by decide) (by decide) (by decide)) (QX.is q.1)) rfl
 | .bin k2 p2 a b,pre,i,k,p,t,x,f,s,h,q=>by
  obtain⟨g,h1,h2,h3⟩:=zFE a (h.add k2 p2 [] 0 q.2.2.2) q.2.1;obtain⟨g',AC,AB,AA⟩:=zFE b h3 q.2.2.1
  have hk:(g.app g').kinds=[exK a,exK b]:=by rw[XR,h2,AB]; rfl
  exact AtN.zGf (g:=g.app g') AA h (zBX h1 AC) (by rw[hk]; exact zVj q.1 (QX.is q.2.1) (QX.is q.2.2.1)) rfl
def ER (M:Nat)(N:List Nd)(e:Ex)(s:Ps):Prop:=QX M e∧s.nd=N∧∀u ∈ s.ts,okW M u
def TW (M:Nat)(N:List Nd)(s:Ps):Prop:=s.nd=N∧∀u ∈ s.ts,okW M u
section
variable {M:Nat} {N:List Nd}
theorem TW.adv {s:Ps}(h:TW M N s):TW M N s.adv:=⟨h.1,fun u hu=>h.2 u (List.mem_of_mem_tail hu)⟩
theorem TW.hd {s:Ps}(h:TW M N s):okW M s.hd:=by
 unfold Ps.hd
 cases e:s.ts with
 | nil=>exact⟨zT _,fun e=>(by cases e),fun e=>(by cases e)⟩
 | cons t l=>exact h.2 t (by rw[e]; simp)
theorem zMh {ms:List (Bs × Nat)}(hm:∀m ∈ ms,m.2=23∨m.2=24∨m.2=25){s:Ps}{k:Nat}(h:zAi ms s=some k):k=23∨k=24∨k=25:=by
 unfold zAi at h;obtain⟨m,h1,rfl⟩:=Option.map_eq_some_iff.1 h;exact hm m (List.mem_of_find?_eq_some h1)
theorem zLi {ms:List (Bs × Nat)}(hm:∀m ∈ ms,m.2=23∨m.2=24∨m.2=25){part:Pm Ex}(hp:∀s,TW M N s→KR (ER M N) (part s)):∀(f:Nat) (e:Ex) (s:Ps),TW M N s→QX M e→KR (ER M N) (ZE ms part f e s)
 | 0,e,s,h,q=>YE
 | f+1,e,s,h,q=>by
  unfold ZE
  split
  ·exact jG ⟨q,h⟩
  ·rename_i k hk;exact xD (hp _ h.adv) fun r u hu=>zLi hm hp f _ _ hu.2 ⟨zMh hm hk,q,hu.1,q.pos⟩
theorem zOb {ms:List (Bs × Nat)}(hm:∀m ∈ ms,m.2=23∨m.2=24∨m.2=25){part:Pm Ex}(hp:∀s,TW M N s→KR (ER M N) (part s)){s:Ps}(h:TW M N s):KR (ER M N) (ZL ms part s):=xD (hp s h) fun e u hu=>zLi hm hp _ _ _ hu.2 hu.1
theorem zNE {part:Pm Ex}(hp:∀s,TW M N s→KR (ER M N) (part s)){s:Ps}(h:TW M N s):KR (ER M N) (sumOf part s):=zOb (by decide) (fun s h=>zOb (by decide) hp h) h
theorem zGG:∀(f:Nat) (s:Ps),TW M N s→KR (ER M N) (xM f s)
 | 0,s,h=>YE
 | f+1,s,h=>by
  have hw:∀(AA:Pm Ex) (a z:Bs),(∀s,TW M N s→KR (ER M N) (AA s))→KR (ER M N) (xY a z AA s):=fun AA a z hb=>zGS a z (fun d=>hb _ ⟨h.adv.1,h.adv.2⟩) (fun e s hs=>⟨hs.1,TW.adv hs.2⟩) fun e s d hs=>⟨hs.1,hs.2⟩;unfold xM
  split
  ·rename_i hk;exact jG ⟨⟨.inl ⟨rfl,h.hd.2.1 hk,rfl⟩,h.hd.1⟩,h.adv⟩
  ·split
   ·rename_i hk;exact jG ⟨⟨.inr ⟨rfl,rfl,h.hd.2.2 hk⟩,h.hd.1⟩,h.adv⟩
   ·exact vW (xD (hw _ _ _ fun s h=>zGG f s h) fun a u hu=>jG ⟨⟨hu.1,h.hd.1⟩,hu.2⟩) (hw _ _ _ fun s h=>zNE (fun s h=>zGG f s h) h)
end
section
variable {M:Nat} {pre:List Nd} {i k p:Nat} {t:Bs} {x:Int} {f:Fo} {s:Ps}
def zWI (l:List Nat):Prop:=∃e,isE e∧l=[e]
theorem zDv (h:AtN M pre i k p t x f s):KR (fun _ s'=>JE M pre i k p t x f zWI s') (XC i s):=xD (zNE (N:=s.nd) (fun s h=>zGG _ s h) ⟨rfl,h.ts⟩) fun e u hu=>jG ((zFE e ⟨h.len,h.pm,hu.2.1.trans h.nd,hu.2.2⟩ hu.1).mono fun l hl=>⟨_,QX.is hu.1,hl⟩)
theorem zSu (h:AtN M pre i k p t x f s):KR (fun _ s'=>JE M pre i k p t x f zWI s') (zD5 i s):=zGS _ _ (fun d=>zDv (h.adv.deep d)) (fun _ _ h=>h.adv) fun _ _ d h=>h.deep d
theorem zOz (h:AtN M pre i k p t x f s):KR (fun _ s'=>JE M pre i k p t x f (· = [20]) s') (zEn i s):=xD (zAT (h.xB 20)) fun _ u ⟨t',ht,hu⟩=>vC (zSu hu) fun _ v ⟨g,h1,⟨e,h2,h3⟩,h4⟩=>AtN.zGf (g:=g) h4 h h1 (by rw[h3]; exact zJL (by simp) (XF (by decide) ht (by decide) (by decide)) h2) rfl
theorem zPT (h:AtN M pre i k p t x f s):KR (fun _ s'=>JE M pre i k p t x f (· = [20,5]) s') (zEF i s):=xD (zOz h) fun _ u ⟨g,h1,h2,h3⟩=>xD (YR h3 _) fun _ v hv=>vC (zGe hv) fun _ w hw=>hw.behind h1 fun l hl=>by rw[h2,hl]; rfl
theorem zQe {P:Nat→Prop}{one:Pm Unit}(ho:∀f s,AtN M pre i k p t x f s→KR (fun _ s'=>JE M pre i k p t x f (fun l=>∃e,P e∧l=[e]) s') (one s)):∀(n:Nat) (f:Fo) (s:Ps),AtN M pre i k p t x f s→KR (fun _ s'=>JE M pre i k p t x f (fun l=>∀e ∈ l,P e) s') (JU one n s)
 | 0,f,s,h=>YE
 | n+1,f,s,h=>by
  unfold JU;refine vW (xD (ho f _ h.adv) fun _ u ⟨g,h1,⟨e,h2,h3⟩,h4⟩=>vC (zQe ho n _ u h4) fun _ v hv=>hv.behind h1 fun l hl=>?_) (jG (JE.none h fun e he=>by cases he));intro d hd;rw[h3] at hd
  rcases List.mem_cons.1 hd with rfl | hd
  ·exact h2
  ·exact hl d hd
theorem zPC {P:Nat→Prop}{one:Pm Unit}(ho:∀f s,AtN M pre i k p t x f s→KR (fun _ s'=>JE M pre i k p t x f (fun l=>∃e,P e∧l=[e]) s') (one s))(h:AtN M pre i k p t x f s):KR (fun _ s'=>JE M pre i k p t x f (fun l=>0<l.length∧∀e ∈ l,P e) s') (JC one s):=xD (ho f s h) fun _ u ⟨g,h1,⟨e,h2,h3⟩,h4⟩=>vC (zQe ho _ _ u h4) fun _ v hv=>hv.behind h1 fun l hl=>by
  rw[h3];refine⟨by simp,fun d hd=>?_⟩
  rcases List.mem_cons.1 hd with rfl | hd
  ·exact h2
  ·exact hl d hd
end
theorem zPP {k:Nat}{x:Int}(hk:TT.zC2 (k:Int)=false)(h1:TT.XP (k:Int)=1)(hx:x=0∨x=1):TT.JR (k:Int) x []=true:=ZB hk (by omega) (by omega)
theorem zW5 {k:Nat}{x:Int}(h1:TT.XP (k:Int)=1)(hx:x=0∨x=1):x≤TT.XP (k:Int):=by omega
theorem nk7 {t:Bs}{x:Int}(ht:zAo t=true)(hx:x=0∨x=1):xU 7 t x [20,5]:=⟨by decide,by decide,XF (by decide) ht (by omega) (zW5 (by decide) hx),by decide⟩
theorem nk8 {e:Nat}(he:isE e):xU 8 [] 0 [20,5,e]:=⟨by decide,by decide,ZB (by decide) (by decide) (by decide),by
 show TT.isR [20,5,(e:Int)] [20,5,0]=true
 rw[zVs,zFF he]; rfl⟩
theorem nk9 {l:List Nat}(h0:0<l.length)(hl:∀e ∈ l,isE e):xU 9 [] 0 (20::l):=⟨by decide,by decide,ZB (by decide) (by decide) (by decide),by
 show(decide (1<((20:Int)::l.map fun (j:Nat)=>(j:Int)).length)&&(true&&TT.zCY ((20:Int)::l.map fun (j:Nat)=>(j:Int)) 1 0))=true
 rw[yP (by simp; omega)]
 show(l.map fun (j:Nat)=>(j:Int)).all (TT.zE7 0)=true
 rw[List.all_map,zG]
 exact fun e he=>zFF (hl e he)⟩
theorem zXv:xU 10 [] 0 [20]:=⟨by decide,by decide,ZB (by decide) (by decide) (by decide),by decide⟩
theorem zXs {t:Bs}(ht:zAo t=true):xU 11 t 0 [5,5]:=⟨by decide,by decide,XF (by decide) ht (by decide) (by decide),by decide⟩
theorem zXm {x:Int}(hx:x=0∨x=1):xU 12 [] x [5]:=⟨by decide,by decide,zPP (by decide) (by decide) hx,by decide⟩
theorem zXq {l:List Nat}(hl:l=[5]∨l=[20]):xU 13 [] 0 l:=⟨by decide,by decide,ZB (by decide) (by decide) (by decide),by rcases hl with rfl | rfl <;> decide⟩
theorem zW8 {x:Int}{e d:Nat}{l:List Nat}(hx:x=0∨x=1)(he:isE e)(hd:isE d)(hl:l=[6]∨l=[6,6]):xU 14 [] x (e::d::l):=⟨by decide,by decide,zPP (by decide) (by decide) hx,by
 rcases hl with rfl | rfl
 ·show(TT.isR [(e:Int),(d:Int),6] [0,0,6]||TT.isR [(e:Int),(d:Int),6] [0,0,6,6])=true
  rw[zVs,zFF he,zFF hd]; rfl
 ·show(TT.isR [(e:Int),(d:Int),6,6] [0,0,6]||TT.isR [(e:Int),(d:Int),6,6] [0,0,6,6])=true
  rw[zWH,zFF he,zFF hd]; rfl⟩
theorem zXw {t:Bs}(ht:zAo t=true):xU 15 t 0 [21,21,6]:=⟨by decide,by decide,XF (by decide) ht (by decide) (by decide),by decide⟩
theorem zMf {l:List Nat}{w:Int}{P:Nat→Prop}(h:∀e ∈ l,P e)(hw:∀e:Nat,P e→TT.zE7 w (e:Int)=true):TT.zCY (l.map fun (j:Nat)=>(j:Int)) 0 w=true:=by
 unfold TT.zCY;rw[List.drop_zero,List.all_map,zG];exact fun e he=>hw e (h e he)
theorem zVe (e:Nat)(h:e=5):TT.zE7 5 (e:Int)=true:=by subst h; decide
def isS (k:Nat):Prop:=7≤k∧k≤19
theorem nk6 {l:List Nat}(hl:∀e ∈ l,isS e):xU 6 [] 0 l:=⟨by decide,by decide,ZB (by decide) (by decide) (by decide),zMf hl fun e he=>by
 obtain⟨h1,h2⟩:=he
 show TT.zA5 (e:Int)=true
 unfold TT.zA5
 rw[yP (by omega),yP (by omega)]; rfl⟩
theorem nk2 {t:Bs}{l:List Nat}(ht:zAo t=true)(h0:0<l.length)(hl:∀e ∈ l,e=5):xU 2 t 0 l:=⟨by decide,by decide,XF (by decide) ht (by decide) (by decide),by
 show(decide (0<(l.map fun (j:Nat)=>(j:Int)).length)&&TT.zCY _ 0 5)=true
 rw[yN,yP h0,zMf hl zVe]; rfl⟩
theorem nk3 {t:Bs}{x:Int}(ht:zAo t=true)(hx:x=0∨x=1):xU 3 t x [4,6]:=⟨by decide,by decide,XF (by decide) ht (by omega) (zW5 (by decide) hx),by decide⟩
theorem nk4 {l:List Nat}(hl:∀e ∈ l,e=5):xU 4 [] 0 l:=⟨by decide,by decide,ZB (by decide) (by decide) (by decide),zMf hl zVe⟩
theorem nk1 {l:List Nat}(hl:∀e ∈ l,e=2∨e=3):xU 1 [] 0 l:=⟨by decide,by decide,ZB (by decide) (by decide) (by decide),by
 show(l.map fun (j:Nat)=>(j:Int)).all TT.zBR=true
 rw[List.all_map,zG];intro e he
 rcases hl e he with rfl | rfl <;> decide⟩
def zCA (M:Nat)(pre:List Nd)(i k p:Nat)(s:Ps):Prop:=∃t x g,AtN M pre i k p t x g s∧g.ok M∧xU k t x g.kinds
theorem zCA.zGf {M:Nat}{s0:Ps}{pre:List Nd}{i k p:Nat}{t:Bs}{x:Int}{f:Fo}{j k2 p2:Nat}{s:Ps}{Q:List Nat→Prop}(h0:AtN M pre i k p t x f s0)(h:zCA M (XO pre i k p t x f) j k2 p2 s)(hQ:Q [k2]):JE M pre i k p t x f Q s:=by
 obtain⟨t2,x2,g,h1,h2,h3⟩:=h;exact h1.zGf h0 h2 h3 hQ
def StK (M:Nat)(st:Nat→Pm Unit):Prop:=∀(pre:List Nd) (i k p:Nat) (t:Bs) (x:Int) (f:Fo) (s:Ps),AtN M pre i k p t x f s→KR (fun _ s'=>JE M pre i k p t x f (fun l=>∃e,isS e∧l=[e]) s') (st i s)
section
variable {M:Nat} {pre:List Nd} {i k p:Nat} {t:Bs} {x:Int} {f:Fo} {s:Ps}
theorem zUK (h:AtN M pre i 7 p [] 0 .nil s):KR (fun _ s'=>zCA M pre i 7 p s') (zGb i s):=xD (zAT h) fun _ s1 ⟨t',ht,h1⟩=>xD (YR h1 _) fun _ s2 h2=>xD (zPT h2) fun _ s3 ⟨g,hg,hk,h3⟩=>vW (xD (YR h3.adv _) fun _ s4 h4=>jG ⟨_,_,_,h4.num 1,hg,by rw[show(Fo.nil.app g).kinds=_ from hk]; exact nk7 ht (.inr rfl)⟩) (jG ⟨_,_,_,h3,hg,by rw[show(Fo.nil.app g).kinds=_ from hk]; exact nk7 ht (.inl rfl)⟩)
theorem zWF (h:AtN M pre i 8 p [] 0 .nil s):KR (fun _ s'=>zCA M pre i 8 p s') (zL4 i s):=xD (zPT h) fun _ s1 ⟨g,hg,hk,h1⟩=>xD (YR h1 _) fun _ s2 h2=>vC (zDv h2) fun _ s3 ⟨g2,hg2,⟨e,he,hk2⟩,h3⟩=>⟨_,_,_,h3,zBX hg hg2,by rw[XR,show(Fo.nil.app g).kinds=_ from hk,hk2]; exact nk8 he⟩
theorem zRC (h:AtN M pre i 9 p [] 0 .nil s):KR (fun _ s'=>zCA M pre i 9 p s') (zCm i s):=xD (zOz h) fun _ s1 ⟨g,hg,hk,h1⟩=>xD (YR h1 _) fun _ s2 h2=>xD (zPC (P:=isE) (fun f s h=>zDv h) h2) fun _ s3 ⟨g2,hg2,⟨hl0,hl⟩,h3⟩=>vC (YR h3 _) fun _ s4 h4=>⟨_,_,_,h4,zBX hg hg2,by rw[XR,show(Fo.nil.app g).kinds=_ from hk]; exact nk9 hl0 hl⟩
theorem zQ6 (h:AtN M pre i 10 p [] 0 .nil s):KR (fun _ s'=>zCA M pre i 10 p s') (zEn i s):=vC (zOz h) fun _ s1 ⟨g,hg,hk,h1⟩=>⟨_,_,_,h1,hg,by rw[show(Fo.nil.app g).kinds=_ from hk]; exact zXv⟩
theorem zVa (h:AtN M pre i 11 p [] 0 .nil s):KR (fun _ s'=>zCA M pre i 11 p s') (zFH i s):=xD (zAT h) fun _ s1 ⟨t',ht,h1⟩=>xD (YR h1 _) fun _ s2 h2=>xD (zGe h2) fun _ s3 ⟨g,hg,hk,h3⟩=>xD (YR h3 _) fun _ s4 h4=>vC (zGe h4) fun _ s5 ⟨g2,hg2,hk2,h5⟩=>⟨_,_,_,h5,zBX hg hg2,by rw[XR,show(Fo.nil.app g).kinds=_ from hk,hk2]; exact zXs ht⟩
theorem zTZ (h:AtN M pre i 12 p [] 0 .nil s):KR (fun _ s'=>zCA M pre i 12 p s') (zFR i s):=xD (zGe h) fun _ s1 ⟨g,hg,hk,h1⟩=>vW (jG ⟨_,_,_,h1.adv.num 1,hg,by rw[show(Fo.nil.app g).kinds=_ from hk]; exact zXm (.inr rfl)⟩) (vC (YR h1 _) fun _ s2 h2=>⟨_,_,_,h2,hg,by rw[show(Fo.nil.app g).kinds=_ from hk]; exact zXm (.inl rfl)⟩)
theorem zOJ (h:AtN M pre i 13 p [] 0 .nil s):KR (fun _ s'=>zCA M pre i 13 p s') (zAw i s):=xD (zAT (h.xB 5)) fun _ s1 ⟨t',ht,h1⟩=>vW (vC (zSu (h1.kind 20)) fun _ s2 ⟨g,hg,⟨e,he,hk⟩,h2⟩=>⟨_,_,_,AtN.close (g:=g) h.len h.pm h2,⟨⟨by rw[hk]; exact zJL (by simp) (XF (by decide) ht (by decide) (by decide)) he,h2.pm⟩,hg,trivial⟩,zXq (.inr rfl)⟩) (jG ⟨_,_,_,h1.close h.len h.pm,⟨⟨zQp ht,h1.pm⟩,trivial,trivial⟩,zXq (.inl rfl)⟩)
theorem zUZ (h:AtN M pre i k p t 0 f s):KR (fun _ s'=>∃x,(x=0∨x=1)∧AtN M pre i k p t x f s') (zCN i s):=vW (jG ⟨1,.inr rfl,h.adv.num 1⟩) (vC (YR h _) fun _ s1 h1=>⟨0,.inl rfl,h1⟩)
theorem zWh (h:AtN M pre i 16 p [] 0 .nil s):KR (fun _ s'=>zCA M pre i 16 p s') (zLI i s):=xD (zAT h) fun _ s1 ⟨t',ht,h1⟩=>xD (YR h1 _) fun _ s2 h2=>vC (zDv h2) fun _ s3 ⟨g,hg,⟨e,he,hk⟩,h3⟩=>⟨_,_,_,h3,hg,by rw[show(Fo.nil.app g).kinds=_ from hk]; exact zJL (by simp) (XF (by decide) ht (by decide) (by decide)) he⟩
theorem zUp (h:AtN M pre i 17 p [] 0 .nil s):KR (fun _ s'=>zCA M pre i 17 p s') (XC i s):=vC (zDv h) fun _ s3 ⟨g,hg,⟨e,he,hk⟩,h3⟩=>⟨_,_,_,h3,hg,by rw[show(Fo.nil.app g).kinds=_ from hk]; exact zJL (by simp) (ZB (by decide) (by decide) (by decide)) he⟩
theorem zMy {st:Nat→Pm Unit}(hst:StK M st):∀(n:Nat) (f:Fo) (s:Ps),AtN M pre i k p t x f s→KR (fun _ s'=>JE M pre i k p t x f (fun l=>∀e ∈ l,isS e) s') (ZJ st i n s)
 | 0,f,s,h=>YE
 | n+1,f,s,h=>by
  unfold ZJ;refine vW (jG (JE.none h fun e he=>by cases he)) (xD (hst _ _ _ _ _ _ _ _ h) fun _ u ⟨g,h1,⟨e,h2,h3⟩,h4⟩=>vC (zMy hst n _ u h4) fun _ v hv=>hv.behind h1 fun l hl=>?_);intro d hd;rw[h3] at hd
  rcases List.mem_cons.1 hd with rfl | hd
  ·exact h2
  ·exact hl d hd
theorem zDO {st:Nat→Pm Unit}(hst:StK M st)(h:AtN M pre i k p t x f s):KR (fun _ s'=>JE M pre i k p t x f (· = [6]) s') (XN st i s):=by
 have h6:=h.xB 6;refine vC (zGS (Q:=fun _ s'=>JE M (XO pre i k p t x f) s.nd.length 6 (s.kid i).hd.at_ [] 0 .nil (fun l=>∀e ∈ l,isS e) s') _ _ (fun d=>zMy hst _ _ _ (h6.adv.deep d)) (fun _ _ h=>h.adv) fun _ _ d h=>h.deep d) fun _ s' ⟨g,h1,h2,h3⟩=>?_;exact AtN.zGf (g:=g) h3 h h1 (nk6 h2) rfl
theorem zQq {st:Nat→Pm Unit}(hst:StK M st)(h:AtN M pre i 14 p [] 0 .nil s):KR (fun _ s'=>zCA M pre i 14 p s') (zAx st i s):=xD (zDv h) fun _ s1 ⟨g1,hg1,⟨e,he,hk1⟩,h1⟩=>xD (zUZ h1) fun _ s2 ⟨x',hx,h2⟩=>xD (zDv h2) fun _ s3 ⟨g2,hg2,⟨d,hd,hk2⟩,h3⟩=>xD (zDO hst h3) fun _ s4 ⟨g3,hg3,hk3,h4⟩=>by
 have hk:(((Fo.nil.app g1).app g2).app g3).kinds=e::d::[6]:=by rw[XR,XR,show(Fo.nil.app g1).kinds=_ from hk1,hk2,hk3]; rfl
 have hg:=zBX (zBX hg1 hg2) hg3;unfold zC4;refine vW (vC (zDO hst h4.adv) fun _ s5 ⟨g4,hg4,hk4,h5⟩=>⟨_,_,_,h5,zBX hg hg4,?_⟩) (jG ⟨_,_,_,h4,hg,?_⟩)
 ·rw[XR,hk,hk4];exact zW8 hx he hd (.inr rfl)
 ·rw[hk];exact zW8 hx he hd (.inl rfl)
theorem zUC {st:Nat→Pm Unit}(hst:StK M st)(h:AtN M pre i 15 p [] 0 .nil s):KR (fun _ s'=>zCA M pre i 15 p s') (zDC st i s):=xD (zAT h) fun _ s1 ⟨t',ht,h1⟩=>xD (YR h1 _) fun _ s2 h2=>xD (zKF h2) fun _ s3 ⟨g1,hg1,hk1,h3⟩=>xD (YR h3 _) fun _ s4 h4=>xD (zKF h4) fun _ s5 ⟨g2,hg2,hk2,h5⟩=>vC (zDO hst h5) fun _ s6 ⟨g3,hg3,hk3,h6⟩=>⟨_,_,_,h6,zBX (zBX hg1 hg2) hg3,by rw[XR,XR,show(Fo.nil.app g1).kinds=_ from hk1,hk2,hk3]; exact zXw ht⟩
theorem zSq {st:Nat→Pm Unit}(hst:StK M st)(hk:isS k)(h:AtN M pre i k p [] 0 .nil s):KR (fun _ s'=>zCA M pre i k p s') (YO st k i s):=by
 unfold YO
 split
 ·rename_i e; subst e; exact zUK h
 split
 ·rename_i e; subst e; exact zWF h
 split
 ·rename_i e; subst e; exact zRC h
 split
 ·rename_i e; subst e; exact zQ6 h
 split
 ·rename_i e; subst e; exact zVa h
 split
 ·rename_i e; subst e; exact zTZ h
 split
 ·rename_i e; subst e; exact zOJ h
 split
 ·rename_i e; subst e; exact zQq hst h
 split
 ·rename_i e; subst e; exact zUC hst h
 split
 ·rename_i e; subst e; exact zWh h
 split
 ·rename_i e; subst e; exact zUp h
 ·have hc:k=18∨k=19:=by obtain⟨h1,h2⟩:=hk; omega
  refine jG ⟨_,_,_,h,trivial,?_⟩
  rcases hc with rfl | rfl
  ·exact⟨by decide,by decide,ZB (by decide) (by decide) (by decide),by decide⟩
  ·exact⟨by decide,by decide,ZB (by decide) (by decide) (by decide),by decide⟩
end
theorem zJJ {b:Bs}{k:Nat}(h:jN b=some k):isS k:=by
 unfold jN at h;obtain⟨m,h1,rfl⟩:=Option.map_eq_some_iff.1 h;exact(show ∀m ∈ zGJ,7≤m.2∧m.2≤19 by decide) m (List.mem_of_find?_eq_some h1)
theorem zPD {M:Nat}:∀n:Nat,StK M (jO n)
 | 0=>fun pre i k p t x f s h=>YE
 | n+1=>fun pre i k p t x f s h=>by
  unfold jO
  split
  ·exact YE
  ·rename_i k2 hk
   have hS:isS k2:=by
    split at hk
    ·exact zJJ hk
    ·cases hk
   refine xD (zSq (zPD n) hS (h.xB k2).adv) fun _ u hu=>?_;have hG:JE M pre i k p t x f (fun l=>∃e,isS e∧l=[e]) u:=zCA.zGf h hu ⟨k2,hS,rfl⟩;refine vW (jG hG) ?_;obtain⟨g,h1,h2,h3⟩:=hG;exact vC (YR h3 _) fun _ v hv=>⟨g,h1,h2,hv⟩
section
variable {M:Nat} {pre:List Nd} {i k p:Nat} {t:Bs} {x:Int} {f:Fo} {s:Ps}
theorem zNq (h:AtN M pre i k p t x f s):KR (fun _ s'=>JE M pre i k p t x f (fun l=>0<l.length∧∀e ∈ l,e=5) s') (JC (JN i) s):=zPC (P:=(· = 5)) (fun f s h=>vC (zGe h) fun _ u hu=>hu.mono fun l hl=>⟨5,rfl,hl⟩) h
theorem zTa (h:AtN M pre i k p t x f s):KR (fun _ s'=>JE M pre i k p t x f (· = [2]) s') (zAX i s):=xD (YR (h.xB 2) _) fun _ s1 h1=>xD (zAT h1) fun _ s2 ⟨t',ht,h2⟩=>xD (YR h2 _) fun _ s3 h3=>xD (zNq h3) fun _ s4 ⟨g,hg,⟨hl0,hl⟩,h4⟩=>xD (YR h4 _) fun _ s5 h5=>vC (YR h5 _) fun _ s6 h6=>AtN.zGf (g:=g) h6 h hg (nk2 ht hl0 hl) rfl
theorem zRZ (h:AtN M pre i k p t x f s):KR (fun _ s'=>JE M pre i k p t x f (· = [4]) s') (JM i s):=by
 have h4:=h.xB 4;unfold JM;exact vW (jG (h4.zGf h trivial (nk4 fun e he=>by cases he) rfl)) (vC (zNq h4) fun _ s1 ⟨g,hg,⟨_,hl⟩,h1⟩=>AtN.zGf (g:=g) h1 h hg (nk4 hl) rfl)
theorem zU9 (h:AtN M pre i k p t x f s):KR (fun _ s'=>JE M pre i k p t x f (· = [3]) s') (zCB i s):=xD (YR (h.xB 3) _) fun _ s1 h1=>xD (zAT h1) fun _ s2 ⟨t',ht,h2⟩=>xD (YR h2 _) fun _ s3 h3=>xD (zRZ h3) fun _ s4 ⟨g,hg,hk,h4⟩=>xD (YR h4 _) fun _ s5 h5=>by
 refine xD (Q:=fun _ s'=>∃x',(x'=0∨x'=1)∧AtN M (XO pre i k p t x f) s.nd.length 3 (s.kid i).hd.at_ t' x' (Fo.nil.app g) s') ?_ fun _ s6 ⟨x',hx,h6⟩=>?_
 ·exact vW (jG ⟨1,.inr rfl,h5.adv.num 1⟩) (jG ⟨0,.inl rfl,h5⟩)
 ·exact vC (zDO (zPD _) h6) fun _ s7 ⟨g2,hg2,hk2,h7⟩=>AtN.zGf (g:=(Fo.nil.app g).app g2) h7 h (zBX hg hg2) (by rw[XR,show(Fo.nil.app g).kinds=_ from hk,hk2]; exact nk3 ht hx) rfl
theorem zJU {M:Nat}{k p:Nat}{t:Bs}{x:Int}:∀(n:Nat) (f:Fo) (s:Ps),AtN M pre 0 k p t x f s→KR (fun _ s'=>JE M pre 0 k p t x f (fun l=>∀e ∈ l,e=2∨e=3) s') (vY n s)
 | 0,f,s,h=>YE
 | n+1,f,s,h=>by
  have hh:∀(y:Nat),(y=2∨y=3)→∀u:Ps,JE M pre 0 k p t x f (· = [y]) u→KR (fun _ s'=>JE M pre 0 k p t x f (fun l=>∀e ∈ l,e=2∨e=3) s') (vY n u):=fun y hy u ⟨g,h1,h2,h3⟩=>vC (zJU n _ u h3) fun _ v hv=>hv.behind h1 fun l hl e he=>by
   rw[h2] at he
   rcases List.mem_cons.1 he with rfl | he
   ·exact hy
   ·exact hl e he
  unfold vY;exact vW (jG (JE.none h fun e he=>by cases he)) (vW (xD (zTa h) fun _ u hu=>hh 2 (.inl rfl) u hu) (vW (xD (zU9 h) fun _ u hu=>hh 3 (.inr rfl) u hu) YE))
end
theorem zMi {M:Nat}{ts:List Tok}{nd:List Nd}(ht:∀t ∈ ts,okW M t)(h:XY ts=.ok nd):TT.jT (nd.map zAy)=true∧∀n ∈ nd,n.pos≤M:=by
 unfold XY at h
 split at h
 ·rename_i a s hs;injection h with h;subst h
  have AA:(⟨ts,[],0⟩:Ps).hd.at_≤M:=by
   cases ts with
   | nil=>exact zT _
   | cons t l=>exact(ht t (List.mem_cons_self ..)).1
  have h0:AtN M [] 0 1 (⟨ts,[],0⟩:Ps).hd.at_ [] 0 .nil ((⟨ts,[],0⟩:Ps).node 1):=⟨rfl,AA,rfl,ht⟩;obtain⟨g,h1,h2,h3⟩:=zJU _ _ _ h0 a s hs
  have e:s.nd=(Fo.one 1 (⟨ts,[],0⟩:Ps).hd.at_ [] 0 g).flat 0:=by
   rw[h3.nd]
   show _=_::(g.flat 1++[])
   rw[List.append_nil]
   rfl
  rw[e];have AB:(Fo.one 1 (⟨ts,[],0⟩:Ps).hd.at_ [] 0 g).ok M:=⟨⟨nk1 h2,AA⟩,h1,trivial⟩;exact⟨zPz _ _ _ _ AB,zIY _ _ AB⟩
 ·cases h
theorem zS5 {s:Bs}{kd k:Nat}{n:Int}(h:step s=.tok kd k n){M:Nat}(p q:Nat)(hp:p≤M):okW M ⟨kd,p,q,s.take k,n⟩:=by
 cases s with
 | nil=>cases h
 | cons c r=>
  have h:XM c r=.tok kd k n:=h;unfold XM at h
  split at h
  ·cases h
  split at h
  ·cases h
  split at h
  ·rename_i hl;injection h with h1 h2 h3;subst h1 h2 h3;refine⟨hp,fun _=>?_,fun e=>(by cases e)⟩
   show zAo ((c::r).take (1+(r.takeWhile JA).length))=true
   rw[Nat.add_comm,List.take_succ_cons,zIH]
   show(jJ c&&(r.takeWhile JA).all JA)=true
   rw[hl,List.all_takeWhile]
   rfl
  split at h
  ·rename_i hd;unfold zKD at h
   split at h
   ·cases h
   ·rename_i m hm;injection h with e1 e2 e3;subst e1 e2 e3;have h1:=zJ2 _ _ _ (by decide) hm
    have h2:=zJM _ _ _ (Int.le_refl 0) (fun x hx=>by
     rcases List.mem_cons.1 hx with rfl | hx
     ·exact hd
     ·exact(List.all_eq_true.1 (List.all_takeWhile) x hx)) hm
    exact⟨hp,fun e=>(by cases e),fun _=>⟨by show 0≤m; omega,h1⟩⟩
  split at h
  ·injection h with h1 h2 h3; subst h1; exact⟨hp,fun e=>(by cases e),fun e=>(by cases e)⟩
  split at h
  ·injection h with h1 h2 h3; subst h1; exact⟨hp,fun e=>(by cases e),fun e=>(by cases e)⟩
  ·cases h
theorem zMX:∀(f p:Nat) (s:Bs) (l:List Tok),zBn f p s=.ok l→(∀t ∈ l,t.at_≤p+s.length)→∀t ∈ l,okW (p+s.length) t
 | 0,p,s,l,h,hM=>by cases h
 | f+1,p,s,l,h,hM=>by
  have AA:∀(M f p:Nat) (s:Bs) (l:List Tok),zBn f p s=.ok l→(∀t ∈ l,t.at_≤M)→∀t ∈ l,okW M t:=by
   intro M f
   induction f with
   | zero=>intro p s l h; cases h
   | succ f ih=>
    intro p s l h hM;unfold zBn at h
    split at h
    ·injection h with h;subst h;intro t ht;have h0:=hM t ht;rw[yK] at ht;subst ht;exact⟨h0,fun e=>(by cases e),fun e=>(by cases e)⟩
    ·exact ih _ _ l h hM
    ·rename_i kd k n hs
     cases hr:zBn f (p+k) (s.drop k) with
     | err a e=>rw[hr] at h; cases h
     | ok m=>
      rw[hr] at h;injection h with h;subst h;intro t ht
      rcases List.mem_cons.1 ht with rfl | ht
      ·exact zS5 hs _ _ (hM _ (List.mem_cons_self ..))
      ·exact ih _ _ m hr (fun t ht=>hM t (List.mem_cons_of_mem _ ht)) t ht
    ·cases h
  exact AA _ _ _ _ _ h hM
theorem zDU {l:Bs}{y:List Nd}(h:VU l=.ok y)(hl:l.length≤65536):TT.jT (y.map zAy)=true∧∀n ∈ y,n.pos≤l.length:=by
 unfold VU at h
 have hs:zDS l=VJ 0 l:=by unfold zDS; rw[if_neg (by omega)]
 rw[hs] at h
 cases h1:VJ 0 l with
 | err a e=>rw[h1] at h; cases h
 | ok ts=>
  rw[h1] at h;obtain⟨_,_,AA⟩:=zEX h1
  have:=zMX _ _ _ _ h1 (fun t ht=>by have:=AA t ht; omega)
  rw[Nat.zero_add] at this;exact zMi this h
end Go.Proofs.YtioffpjajhalaaaGreatDoor
