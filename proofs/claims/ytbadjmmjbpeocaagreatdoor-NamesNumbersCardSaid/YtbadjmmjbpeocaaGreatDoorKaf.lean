/- What a source's tree is, as plain Lean: a reading of tokens, with nodes as they come; one reading for the program and for the document. (and what follows of it). The conditions stand at each lemma. -/
import Derived.Test.YtbadjmmjbpeocaaGreatDoorKaa
import Derived.Test.YtbadjmmjbpeocaaGreatDoorKab
set_option linter.unusedVariables false
set_option linter.unusedSimpArgs false
set_option maxRecDepth 100000
set_option maxHeartbeats 16000000
namespace Go.Proofs.YtbadjmmjbpeocaaGreatDoor
structure Nd where
 kind:Nat
 pos:Nat
 text:Bs
 num:Int
 kids:List Nat
 deriving DecidableEq
structure Ps where
 ts:List Tok
 nd:List Nd
 deep:Nat
 deriving DecidableEq
inductive Res (α:Type) where
 | ok (a:α) (s:Ps)
 | err (e:Int) (at_:Nat)
 deriving DecidableEq
def Res.bind {α β:Type}:Res α→(α→Ps→Res β)→Res β
 | .ok a s,f=>f a s
 | .err e p,_=>.err e p
theorem VR {α β:Type}(a:α)(s:Ps)(f:α→Ps→Res β):(Res.ok a s).bind f=f a s:=rfl
abbrev Pm (α:Type):=Ps→Res α
def zUU:Tok:=⟨4,0,0,[],0⟩
def Ps.hd (s:Ps):Tok:=s.ts.headD zUU
def Ps.adv (s:Ps):Ps:={ s with ts:=s.ts.tail }
def isP (t:Bs)(s:Ps):Bool:=(s.hd.kind != 4&&s.hd.kind != 2)&&s.hd.text==t
def vW (t:Bs):Pm Unit:=fun s=>if isP t s=true then .ok () s.adv else .err 50 s.hd.at_
def ofP (k:Nat):Pm Tok:=fun s=>if s.hd.kind=k then .ok s.hd s.adv else .err 50 s.hd.at_
def Ps.add (s:Ps)(n:Nd):Ps:={ s with nd:=s.nd++[n] }
def Ps.on (s:Ps)(i:Nat)(f:Nd→Nd):Ps:={ s with nd:=s.nd.modify i f }
def Ps.kid (s:Ps)(i:Nat):Ps:=s.on i fun n=>{ n with kids:=n.kids++[s.nd.length] }
def Ps.node (s:Ps)(k:Nat):Ps:=s.add ⟨k,s.hd.at_,[],0,[]⟩
def Ps.text (s:Ps)(i:Nat)(t:Bs):Ps:=s.on i fun n=>{ n with text:=t }
def Ps.num (s:Ps)(i:Nat)(x:Int):Ps:=s.on i fun n=>{ n with num:=x }
def Ps.kind (s:Ps)(i:Nat)(k:Nat):Ps:=s.on i fun n=>{ n with kind:=k }
def Ps.xJ (s:Ps)(i k:Nat):Ps:=(s.kid i).node k
def jS (i:Nat):Pm Unit:=fun s=>(ofP 1 s).bind fun t s=>.ok () (s.text i t.text)
def zAI (i:Nat):Pm Unit:=fun s=>jS s.nd.length (s.xJ i 5)
def zCY (i:Nat):Pm Unit:=fun s=>(ofP 2 s).bind fun t s=>.ok () (s.num i t.n)
def zCG (i:Nat):Pm Unit:=fun s=>zCY s.nd.length (s.xJ i 21)
def jF {α:Type}(a z:Bs)(body:Pm α):Pm α:=fun s=>
 if isP a s=true then
  if s.deep=64 then .err 51 s.hd.at_
  else (body { s.adv with deep:=s.deep+1 }).bind fun x s=>
   if z=[] then .ok x { s with deep:=s.deep-1 }
   else (vW z s).bind fun _ s=>.ok x { s with deep:=s.deep-1 }
 else .err 50 s.hd.at_
inductive Ex where
 | leaf (kind pos:Nat) (text:Bs) (num:Int)
 | neg (pos:Nat) (a:Ex)
 | bin (kind pos:Nat) (a b:Ex)
 deriving DecidableEq
def Ex.pos:Ex→Nat
 | .leaf _ p _ _=>p
 | .neg p _=>p
 | .bin _ p _ _=>p
def zKJ:List (Bs × Nat):=[([42],25)]
def zJ5:List (Bs × Nat):=[([43],23),([45],24)]
def zDR (ms:List (Bs × Nat))(s:Ps):Option Nat:=(ms.find? fun m=>isP m.1 s).map Prod.snd
def VY (ms:List (Bs × Nat))(part:Pm Ex):Nat→Ex→Pm Ex
 | 0,_,_=>.err 0 0
 | f+1,e,s=>match zDR ms s with
  | none=>.ok e s
  | some k=>(part s.adv).bind fun r s=>VY ms part f (.bin k e.pos e r) s
def XB (ms:List (Bs × Nat))(part:Pm Ex):Pm Ex:=fun s=>(part s).bind fun e s=>VY ms part (s.ts.length+1) e s
def zR4 (part:Pm Ex):Pm Ex:=XB zKJ part
def zEr (part:Pm Ex):Pm Ex:=XB zJ5 (zR4 part)
def vL:Nat→Pm Ex
 | 0,_=>.err 0 0
 | f+1,s=>
  if s.hd.kind=1 then .ok (.leaf 22 s.hd.at_ s.hd.text 0) s.adv
  else if s.hd.kind=2 then .ok (.leaf 21 s.hd.at_ [] s.hd.n) s.adv
  else if isP [45] s=true then (jF [45] [] (vL f) s).bind fun a t=>.ok (.neg s.hd.at_ a) t
  else jF [40] [41] (zEr (vL f)) s
def zP4:Pm Ex:=fun s=>zEr (vL s.ts.length) s
def zB8 (i:Nat):Ex→Ps→Ps
 | .leaf k p t n,s=>(s.kid i).add ⟨k,p,t,n,[]⟩
 | .neg p a,s=>zB8 s.nd.length a ((s.kid i).add ⟨26,p,[],0,[]⟩)
 | .bin k p a b,s=>zB8 s.nd.length b (zB8 s.nd.length a ((s.kid i).add ⟨k,p,[],0,[]⟩))
def zAB (i:Nat):Pm Unit:=fun s=>(zP4 s).bind fun e s=>.ok () (zB8 i e s)
def zBI (one:Pm Unit):Nat→Pm Unit
 | 0,_=>.err 0 0
 | f+1,s=>if isP [44] s=true then (one s.adv).bind fun _ s=>zBI one f s else .ok () s
def zAh (one:Pm Unit):Pm Unit:=fun s=>(one s).bind fun _ s=>zBI one (s.ts.length+1) s
def zGg (i:Nat):Pm Unit:=jF [91] [93] (zAB i)
def zJL (i:Nat):Pm Unit:=fun s=>(jS s.nd.length (s.xJ i 20)).bind fun _ t=>zGg s.nd.length t
def zJy (i:Nat):Pm Unit:=fun s=>(zJL i s).bind fun _ s=>(vW [46] s).bind fun _ s=>zAI i s
def XA (st:Nat→Pm Unit)(i:Nat):Nat→Pm Unit
 | 0,_=>.err 0 0
 | f+1,s=>if isP [125] s=true then .ok () s else (st i s).bind fun _ s=>XA st i f s
def zAX (st:Nat→Pm Unit)(i:Nat):Pm Unit:=fun s=>jF [123] [125] (fun t=>XA st s.nd.length (t.ts.length+1) t) (s.xJ i 6)
def zKM (i:Nat):Pm Unit:=fun s=>(jS i s).bind fun _ s=>(vW [61] s).bind fun _ s=>(zJy i s).bind fun _ s=>
 if isP [102,111,114] s=true then (vW [117,112,100,97,116,101] s.adv).bind fun _ s=>.ok () (s.num i 1) else .ok () s
def zQB (i:Nat):Pm Unit:=fun s=>(zJy i s).bind fun _ s=>(vW [61] s).bind fun _ s=>zAB i s
def zET (i:Nat):Pm Unit:=fun s=>(zJL i s).bind fun _ s=>(vW [40] s).bind fun _ s=>(zAh (zAB i) s).bind fun _ s=>vW [41] s
def zJZ (i:Nat):Pm Unit:=fun s=>(jS i s).bind fun _ s=>(vW [61] s).bind fun _ s=>(zAI i s).bind fun _ s=>(vW [46] s).bind fun _ s=>zAI i s
def zJ9 (i:Nat):Pm Unit:=fun s=>(zAI i s).bind fun _ s=>if isP [97,108,108] s=true then .ok () (s.adv.num i 1) else vW [115,104,97,114,101,100] s
def zDj (i:Nat):Pm Unit:=fun s=>(jS s.nd.length (s.xJ i 5)).bind fun _ t=>if isP [91] t=true then zGg s.nd.length (t.kind s.nd.length 20) else .ok () t
def zE6 (i:Nat):Pm Unit:=fun s=>if isP [61,61] s=true then .ok () (s.adv.num i 1) else vW [60] s
def zGO (st:Nat→Pm Unit)(i:Nat):Pm Unit:=fun s=>if isP [101,108,115,101] s=true then zAX st i s.adv else .ok () s
def zDk (st:Nat→Pm Unit)(i:Nat):Pm Unit:=fun s=>(zAB i s).bind fun _ s=>(zE6 i s).bind fun _ s=>(zAB i s).bind fun _ s=>(zAX st i s).bind fun _ s=>zGO st i s
def zGw (st:Nat→Pm Unit)(i:Nat):Pm Unit:=fun s=>(jS i s).bind fun _ s=>(vW [61] s).bind fun _ s=>(zCG i s).bind fun _ s=>(vW [116,111] s).bind fun _ s=>(zCG i s).bind fun _ s=>zAX st i s
def zPP (i:Nat):Pm Unit:=fun s=>(jS i s).bind fun _ s=>(vW [61] s).bind fun _ s=>zAB i s
def zUo:Pm Unit:=fun s=>.ok () s
def zJb:List (Bs × Nat):=[([114,101,97,100],7),([115,101,116],8),([112,117,116],9),([100,101,108,101,116,101],10),([115,99,97,110],11),([108,111,99,107],12),([114,101,108,101,97,115,101],13),([105,102],14),([102,111,114],15),([108,101,116],16),([101,109,105,116],17),([114,111,108,108,98,97,99,107],18),([99,104,111,112],19)]
def ZM (t:Bs):Option Nat:=(zJb.find? fun m=>m.1==t).map Prod.snd
def VO (st:Nat→Pm Unit)(k i:Nat):Pm Unit:=
 if k=7 then zKM i else if k=8 then zQB i else if k=9 then zET i else if k=10 then zJL i else if k=11 then zJZ i
 else if k=12 then zJ9 i else if k=13 then zDj i else if k=14 then zDk st i else if k=15 then zGw st i else if k=16 then zPP i
 else if k=17 then zAB i else zUo
def YO:Nat→Nat→Pm Unit
 | 0,_,_=>.err 0 0
 | f+1,i,s=>match (if s.hd.kind=1 then ZM s.hd.text else none) with
  | none=>.err 50 s.hd.at_
  | some k=>(VO (YO f) k s.nd.length (s.xJ i k).adv).bind fun _ s=>if k=14∨k=15 then .ok () s else vW [59] s
def zD3 (i:Nat):Pm Unit:=fun s=>zAX (YO s.ts.length) i s
def zCX (i:Nat):Pm Unit:=fun s=>(vW [116,97,98,108,101] (s.xJ i 2)).bind fun _ t=>(jS s.nd.length t).bind fun _ t=>(vW [40] t).bind fun _ t=>(zAh (zAI s.nd.length) t).bind fun _ t=>(vW [41] t).bind fun _ t=>vW [59] t
def zB6 (i:Nat):Pm Unit:=fun s=>let n:=s.nd.length; let t:=s.xJ i 4; if isP [41] t=true then .ok () t else zAh (zAI n) t
def zAd (i:Nat):Pm Unit:=fun s=>if isP [115,105,110,103,108,101] s=true then .ok () (s.adv.num i 1) else .ok () s
def zEl (i:Nat):Pm Unit:=fun s=>(vW [112,114,111,99] (s.xJ i 3)).bind fun _ t=>(jS s.nd.length t).bind fun _ t=>(vW [40] t).bind fun _ t=>(zB6 s.nd.length t).bind fun _ t=>(vW [41] t).bind fun _ t=>
 (zAd s.nd.length t).bind fun _ t=>zD3 s.nd.length t
def ZY:Nat→Pm Unit
 | 0,_=>.err 0 0
 | f+1,s=>if s.hd.kind=4 then .ok () s
  else if isP [116,97,98,108,101] s=true then (zCX 0 s).bind fun _ s=>ZY f s
  else if isP [112,114,111,99] s=true then (zEl 0 s).bind fun _ s=>ZY f s
  else .err 50 s.hd.at_
def zDh:Pm Unit:=fun s=>ZY (s.ts.length+1) (s.node 1)
inductive zNI where
 | ok (l:List Nd)
 | err (at_:Nat) (e:Int)
 deriving DecidableEq
def zCZ (ts:List Tok):zNI:=match zDh ⟨ts,[],0⟩ with
 | .ok _ s=>.ok s.nd
 | .err e p=>.err p e
structure zEq (s:Ps):Prop where
 last:∃l e,s.ts=l++[e]∧e.kind=4
 deep:s.deep≤64
structure Good (s:Ps):Prop where
 last:∃l e,s.ts=l++[e]∧e.kind=4
 deep:s.deep≤64
 few:∀n ∈ s.nd,n.kids.length≤s.nd.length
theorem Good.base {s:Ps}(h:Good s):zEq s:=⟨h.last,h.deep⟩
theorem zEq.ne {s:Ps}(h:zEq s):s.ts≠[]:=by
 obtain⟨l,e,h,_⟩:=h.last;rw[h]
 simp
theorem zEq.pos {s:Ps}(h:zEq s):0<s.ts.length:=List.length_pos_iff.2 h.ne
theorem zEq.hd {s:Ps}(h:zEq s):∃t r,s.ts=t::r∧s.hd=t:=by
 cases hs:s.ts with
 | nil=>exact absurd hs h.ne
 | cons t r=>exact⟨t,r,rfl,by unfold Ps.hd; rw[hs]; rfl⟩
theorem zEq.adv {s:Ps}(h:zEq s)(hk:s.hd.kind≠4):zEq s.adv:=by
 refine⟨?_,h.deep⟩;obtain⟨l,e,hl,he⟩:=h.last
 cases l with
 | nil=>
  exfalso
  apply hk;unfold Ps.hd;rw[hl];exact he
 | cons t r=>
  refine⟨r,e,?_,he⟩
  show s.ts.tail=_
  rw[hl]
  rfl
def Ps.phi (s:Ps):Nat:=s.nd.length+2*s.ts.length
structure ZI (s s':Ps):Prop where
 xS:Good s'
 phi:s'.phi≤s.phi
 ts:s'.ts.length≤s.ts.length
 nd:s.nd.length≤s'.nd.length
 deep:s'.deep=s.deep
theorem ZI.refl {s:Ps}(h:Good s):ZI s s:=⟨h,zX _,zX _,zX _,rfl⟩
theorem ZI.trans {a b c:Ps}(h:ZI a b)(k:ZI b c):ZI a c:=⟨k.xS,Nat.le_trans k.phi h.phi,Nat.le_trans k.ts h.ts,Nat.le_trans h.nd k.nd,k.deep.trans h.deep⟩
def jO {α:Type}(s:Ps):Res α→Prop
 | .ok _ s'=>ZI s s'
 | .err _ _=>True
def zA8 {α:Type}(m:Pm α):Prop:=∀s,Good s→jO s (m s)
theorem Good.pos {s:Ps}(h:Good s):0<s.ts.length:=h.base.pos
theorem Good.adv {s:Ps}(h:Good s)(hk:s.hd.kind≠4):Good s.adv:=⟨(h.base.adv hk).last,h.deep,h.few⟩
theorem jX {s:Ps}:s.adv.ts.length=s.ts.length-1:=by show s.ts.tail.length=_; simp
theorem VL {s:Ps}(h:Good s)(hk:s.hd.kind≠4):ZI s s.adv:=by
 have:=h.pos
 have ht:=jX (s:=s);exact⟨h.adv hk,by unfold Ps.phi; rw[ht]; show s.nd.length+_≤_; omega,by omega,zX _,rfl⟩
theorem vN {t:Bs}{s:Ps}(h:isP t s=true):s.hd.kind≠4∧s.hd.kind≠2∧s.hd.text=t:=by
 unfold isP at h;simp only[zG,zE,zO] at h;exact⟨h.1.1,h.1.2,h.2⟩
theorem zDL {s:Ps}{i:Nat}{f:Nd→Nd}:(s.on i f).nd.length=s.nd.length:=by unfold Ps.on; simp
theorem zSN {s:Ps}{i:Nat}{f:Nd→Nd}(m:Nat)(hk:∀n ∈ s.nd,(f n).kids.length≤m)(h:∀n ∈ s.nd,n.kids.length≤m):∀n ∈ (s.on i f).nd,n.kids.length≤m:=by
 intro n hn;have hn':n ∈ s.nd.modify i f:=hn;obtain⟨a,ha,rfl⟩:=List.mem_iff_getElem.1 hn'
 have ha':a<s.nd.length:=by rw[List.length_modify] at ha; exact ha
 rw[List.getElem_modify]
 split
 ·exact hk _ (yO ha')
 ·exact h _ (yO ha')
theorem zAq {s:Ps}{i:Nat}{f:Nd→Nd}(h:Good s)(hk:∀n,(f n).kids=n.kids):ZI s (s.on i f):=⟨⟨h.last,h.deep,by rw[zDL]; exact zSN _ (fun n hn=>by rw[hk]; exact h.few n hn) h.few⟩,by unfold Ps.phi; rw[zDL]; exact zX _,zX _,by rw[zDL]; exact zX _,rfl⟩
theorem jO.trans {α:Type}{a b:Ps}{r:Res α}(h:ZI a b)(k:jO b r):jO a r:=by
 cases r with
 | ok x s=>exact h.trans k
 | err _ _=>trivial
theorem jO.bind {α β:Type}{s:Ps}{r:Res α}{f:α→Ps→Res β}(h:jO s r)(k:∀a s',r=.ok a s'→Good s'→jO s' (f a s')):jO s (r.bind f):=by
 cases r with
 | ok a s'=>exact jO.trans h (k a s' rfl h.xS)
 | err e p=>trivial
theorem xQ (t:Bs):zA8 (vW t):=by
 intro s h;unfold vW
 split
 ·rename_i hi;exact VL h (vN hi).1
 ·trivial
theorem zUg (k:Nat)(hk:k≠4):zA8 (ofP k):=by
 intro s h;unfold ofP
 split
 ·rename_i hi;exact VL h (by rw[hi]; exact hk)
 ·trivial
theorem ZQ (i:Nat):zA8 (jS i):=fun s h=>(zUg 1 (by decide) s h).bind fun t s' _ h'=>zAq h' (fun _=>rfl)
def JM {α:Type}(s:Ps):Res α→Prop
 | .ok _ s'=>Good s'∧s'.phi+2≤s.phi∧s'.ts.length+1≤s.ts.length∧s.nd.length≤s'.nd.length∧s'.deep=s.deep
 | .err _ _=>True
theorem jT (s:Ps)(i k:Nat):(s.xJ i k).nd.length=s.nd.length+1:=by
 show((s.kid i).nd++[_]).length=_
 rw[yP]
 show(s.on i _).nd.length+1=_
 rw[zDL]
theorem zBB {s:Ps}(h:∀n ∈ s.nd,n.kids.length≤s.nd.length)(i:Nat)(x:Nd)(hx:x.kids=[]):∀n ∈ ((s.kid i).add x).nd,n.kids.length≤((s.kid i).add x).nd.length:=by
 have hl:((s.kid i).add x).nd.length=s.nd.length+1:=by
  show((s.kid i).nd++[_]).length=_
  rw[yP]
  show(s.on i _).nd.length+1=_
  rw[zDL]
 intro n hn;rw[hl]
 rcases List.mem_append.1 hn with hn | hn
 ·exact zSN (s.nd.length+1) (fun n hn=>by have:=h n hn; simp; omega) (fun n hn=>by have:=h n hn; omega) n hn
 ·rw[List.mem_singleton.1 hn,hx]
  simp
theorem vM {s:Ps}(h:Good s)(i k:Nat):Good (s.xJ i k):=⟨h.last,h.deep,zBB h.few i _ rfl⟩
theorem YR (s:Ps)(i k:Nat):(s.xJ i k).ts=s.ts:=rfl
theorem zLr (s:Ps)(i k:Nat):(s.xJ i k).deep=s.deep:=rfl
theorem JM.at {α:Type}{s:Ps}{i k:Nat}{r:Res α}(h:JM (s.xJ i k) r):jO s r:=by
 cases r with
 | ok a s'=>
  obtain⟨h1,h2,h3,h4,h5⟩:=h;have hl:=jT s i k;unfold Ps.phi at h2;rw[hl,YR] at h2;rw[YR] at h3;rw[hl] at h4;rw[zLr] at h5;exact⟨h1,by unfold Ps.phi; omega,by omega,by omega,h5⟩
 | err _ _=>trivial
theorem JM.bind {α β:Type}{s:Ps}{r:Res α}{f:α→Ps→Res β}(h:JM s r)(k:∀a s',r=.ok a s'→Good s'→jO s' (f a s')):JM s (r.bind f):=by
 cases r with
 | ok a s'=>
  have hk:=k a s' rfl h.1
  show JM s (f a s')
  obtain⟨h1,h2,h3,h4,h5⟩:=h
  cases hr:f a s' with
  | ok b s2=>
   rw[hr] at hk
   have:=hk.phi
   have:=hk.ts
   have:=hk.nd
   exact⟨hk.xS,by omega,by omega,by omega,hk.deep.trans h5⟩
  | err _ _=>trivial
 | err e p=>trivial
theorem zC5 {s:Ps}(h:Good s)(hk:s.hd.kind≠4):JM s (.ok () s.adv:Res Unit):=by
 have:=h.pos
 have ht:=jX (s:=s);exact⟨h.adv hk,by unfold Ps.phi; rw[ht]; show s.nd.length+_+2≤_; omega,by omega,zX _,rfl⟩
theorem zNe {s:Ps}(k:Nat)(hk:k≠4)(h:Good s):JM s (ofP k s):=by
 unfold ofP
 split
 ·rename_i hi
  have h0:s.hd.kind≠4:=by rw[hi]; exact hk
  exact zC5 h h0
 ·trivial
theorem zFz {s:Ps}(t:Bs)(h:Good s):JM s (vW t s):=by
 unfold vW
 split
 ·rename_i hi;exact zC5 h (vN hi).1
 ·trivial
theorem zAC {s:Ps}(i:Nat)(h:Good s):JM s (jS i s):=(zNe 1 (by decide) h).bind fun t s' _ h'=>zAq h' (fun _=>rfl)
theorem YB (i:Nat):zA8 (zAI i):=fun s h=>JM.at (zAC _ (vM h i 5))
theorem zCR (i:Nat):zA8 (zCG i):=fun s h=>JM.at ((zNe 2 (by decide) (vM h i 21)).bind fun t s' _ h'=>zAq h' (fun _=>rfl))
theorem zFV {α:Type}{s:Ps}(a z:Bs){body:Pm α}(hb:∀t,Good t→t.ts.length<s.ts.length→jO t (body t))(h:Good s):JM s (jF a z body s):=by
 unfold jF
 split
 ·rename_i hi
  split
  ·trivial
  ·rename_i hd;have hk:=(vN hi).1;have hdl:=h.deep;have hp:=h.pos;have g:Good { s.adv with deep:=s.deep+1 }:=⟨(h.adv hk).last,by show s.deep+1≤64; omega,h.few⟩;have hbt:=hb _ g (by show s.adv.ts.length<_; rw[jX]; omega)
   cases hr:body { s.adv with deep:=s.deep+1 } with
   | err e p=>trivial
   | ok x t=>
    rw[hr] at hbt;have hl:t.ts.length≤s.adv.ts.length:=hbt.ts;have hn:s.nd.length≤t.nd.length:=hbt.nd;have hdp:t.deep=s.deep+1:=hbt.deep;have hph:t.phi≤s.nd.length+2*s.adv.ts.length:=hbt.phi;have hal:=jX (s:=s);have g2:∀u:Ps,Good u→u.deep=s.deep+1→Good { u with deep:=u.deep-1 }:=fun u gu hu=>⟨gu.last,by show u.deep-1≤64; omega,gu.few⟩
    show JM s (if z=[] then Res.ok x { t with deep:=t.deep-1 } else (vW z t).bind fun _ s=>.ok x { s with deep:=s.deep-1 })
    split
    ·exact⟨g2 t hbt.xS hdp,by show t.phi+2≤s.phi; unfold Ps.phi at hph ⊢; omega,by show t.ts.length+1≤_; omega,hn,by show t.deep-1=s.deep; omega⟩
    ·have ht:=xQ z t hbt.xS
     cases hq:vW z t with
     | err e p=>trivial
     | ok y u=>
      rw[hq] at ht;have h1:u.ts.length≤t.ts.length:=ht.ts;have h2:t.nd.length≤u.nd.length:=ht.nd;have h3:u.deep=t.deep:=ht.deep;have h4:u.phi≤t.phi:=ht.phi;exact⟨g2 u ht.xS (by omega),by show u.phi+2≤s.phi; unfold Ps.phi at hph h4 ⊢; omega,by show u.ts.length+1≤_; omega,by show s.nd.length≤u.nd.length; omega,by show u.deep-1=s.deep; omega⟩
 ·trivial
theorem JM.zVk {α:Type}{s:Ps}{r:Res α}(h:JM s r):jO s r:=by
 cases r with
 | ok a s'=>
  obtain⟨h1,h2,h3,h4,h5⟩:=h;exact⟨h1,by omega,by omega,h4,h5⟩
 | err _ _=>trivial
def Ex.size:Ex→Nat
 | .leaf ..=>1
 | .neg _ a=>a.size+1
 | .bin _ _ a b=>a.size+b.size+1
def zDb (s:Ps):Res Ex→Prop
 | .ok e s'=>Good s'∧s'.ts.length+e.size≤s.ts.length∧s'.nd=s.nd∧s'.deep=s.deep
 | .err _ _=>True
theorem zIP {ms:List (Bs × Nat)}{s:Ps}{k:Nat}(h:zDR ms s=some k):s.hd.kind≠4:=by
 unfold zDR at h
 cases hf:ms.find? fun m=>isP m.1 s with
 | none=>rw[hf] at h; cases h
 | some m=>exact(vN (t:=m.1) (List.find?_some (p:=fun m:Bs × Nat=>isP m.1 s) hf)).1
theorem zIN {ms:List (Bs × Nat)}{part:Pm Ex}(n:Nat)(hp:∀t,Good t→t.ts.length≤n→zDb t (part t))(s:Ps):∀(f:Nat) (e:Ex) (t:Ps),Good t→t.ts.length≤n→t.ts.length+e.size≤s.ts.length→t.nd=s.nd→t.deep=s.deep→zDb s (VY ms part f e t)
 | 0,_,_,_,_,_,_,_=>trivial
 | f+1,e,t,g,hl,hs,hn,hd=>by
  unfold VY
  split
  ·exact⟨g,hs,hn,hd⟩
  ·rename_i k hk;have h4:=zIP hk;have hpos:=g.pos;have hal:=jX (s:=t);have hpt:=hp t.adv (g.adv h4) (by omega)
   cases hr:part t.adv with
   | err e p=>trivial
   | ok r u=>
    rw[hr] at hpt;obtain⟨h1,h2,h3,h5⟩:=hpt;exact zIN n hp s f (.bin k e.pos e r) u h1 (by omega) (by show u.ts.length+(e.size+r.size+1)≤_; omega) (h3.trans hn) (h5.trans hd)
theorem zEi {ms:List (Bs × Nat)}{part:Pm Ex}(n:Nat)(hp:∀t,Good t→t.ts.length≤n→zDb t (part t)):∀s,Good s→s.ts.length≤n→zDb s (XB ms part s):=by
 intro s g hl;have hpt:=hp s g hl;unfold XB
 cases hr:part s with
 | err e p=>trivial
 | ok e u=>
  rw[hr] at hpt;obtain⟨h1,h2,h3,h5⟩:=hpt;exact zIN n hp s _ e u h1 (by omega) h2 h3 h5
theorem zGv {part:Pm Ex}(n:Nat)(hp:∀t,Good t→t.ts.length≤n→zDb t (part t)):∀s,Good s→s.ts.length≤n→zDb s (zEr part s):=zEi n (zEi n hp)
def zUG (s:Ps):Res Ex→Prop
 | .ok e s'=>Good s'∧s'.ts.length+e.size+1≤s.ts.length∧s'.nd=s.nd∧s'.deep=s.deep
 | .err _ _=>True
theorem zFY {s:Ps}(a z:Bs){body:Pm Ex}(hb:∀t,Good t→t.ts.length<s.ts.length→zDb t (body t))(h:Good s):zUG s (jF a z body s):=by
 unfold jF
 split
 ·rename_i hi
  split
  ·trivial
  ·rename_i hd;have hk:=(vN hi).1;have hdl:=h.deep;have hp:=h.pos;have g:Good { s.adv with deep:=s.deep+1 }:=⟨(h.adv hk).last,by show s.deep+1≤64; omega,h.few⟩;have hal:=jX (s:=s);have hbt:=hb _ g (by show s.adv.ts.length<_; omega)
   cases hr:body { s.adv with deep:=s.deep+1 } with
   | err e p=>trivial
   | ok x t=>
    rw[hr] at hbt;obtain⟨h1,h2,h3,h4⟩:=hbt;have h2':t.ts.length+x.size≤s.adv.ts.length:=h2;have h4':t.deep=s.deep+1:=h4;have g2:∀u:Ps,Good u→u.deep=s.deep+1→Good { u with deep:=u.deep-1 }:=fun u gu hu=>⟨gu.last,by show u.deep-1≤64; omega,gu.few⟩;simp only[VR]
    split
    ·exact⟨g2 t h1 h4',by show t.ts.length+_+1≤_; omega,h3,by show t.deep-1=s.deep; omega⟩
    ·have ht:=xQ z t h1
     cases hq:vW z t with
     | err e p=>trivial
     | ok y u=>
      rw[hq] at ht;have h1':u.ts.length≤t.ts.length:=ht.ts;have h3':u.deep=t.deep:=ht.deep
      have hnd:u.nd=t.nd:=by
       unfold vW at hq
       split at hq
       ·injection hq with _ e2;rw[←e2]; rfl
       ·cases hq
      exact⟨g2 u ht.xS (by omega),by show u.ts.length+_+1≤_; omega,hnd.trans h3,by show u.deep-1=s.deep; omega⟩
 ·trivial
theorem JN:∀(f:Nat) (s:Ps),Good s→s.ts.length≤f→zDb s (vL f s)
 | 0,s,g,hl=>absurd g.pos (by omega)
 | f+1,s,g,hl=>by
  have hp:=g.pos;have hal:=jX (s:=s);unfold vL
  split
  ·rename_i hk;exact⟨g.adv (by omega),by show s.adv.ts.length+1≤_; omega,rfl,rfl⟩
  ·split
   ·rename_i hk;exact⟨g.adv (by omega),by show s.adv.ts.length+1≤_; omega,rfl,rfl⟩
   ·split
    ·have h:=zFY [45] [] (body:=vL f) (fun t gt ht=>JN f t gt (by omega)) g
     cases hr:jF [45] [] (vL f) s with
     | err e p=>trivial
     | ok a t=>
      rw[hr] at h;obtain⟨h1,h2,h3,h4⟩:=h;exact⟨h1,by show t.ts.length+(a.size+1)≤_; omega,h3,h4⟩
    ·have h:=zFY [40] [41] (body:=zEr (vL f)) (fun t gt ht=>zGv f (fun t gt ht=>JN f t gt ht) t gt (by omega)) g
     cases hr:jF [40] [41] (zEr (vL f)) s with
     | err e p=>trivial
     | ok a t=>
      rw[hr] at h;obtain⟨h1,h2,h3,h4⟩:=h;exact⟨h1,by omega,h3,h4⟩
theorem zIK (s:Ps)(g:Good s):zDb s (zP4 s):=zGv _ (fun t gt ht=>JN _ t gt ht) s g (zX _)
theorem zBK (s:Ps)(i:Nat)(n:Nd):((s.kid i).add n).nd.length=s.nd.length+1:=by
 show((s.kid i).nd++[_]).length=_
 rw[yP]
 show(s.on i _).nd.length+1=_
 rw[zDL]
theorem zCJ:∀(e:Ex) (i:Nat) (s:Ps),(zB8 i e s).nd.length=s.nd.length+e.size∧(zB8 i e s).ts=s.ts∧(zB8 i e s).deep=s.deep
 | .leaf k p t n,i,s=>⟨zBK s i _,rfl,rfl⟩
 | .neg p a,i,s=>by
  obtain⟨h1,h2,h3⟩:=zCJ a s.nd.length ((s.kid i).add ⟨26,p,[],0,[]⟩);refine⟨?_,h2,h3⟩
  show(zB8 s.nd.length a _).nd.length=s.nd.length+(a.size+1)
  rw[h1,zBK];omega
 | .bin k p a b,i,s=>by
  obtain⟨h1,h2,h3⟩:=zCJ a s.nd.length ((s.kid i).add ⟨k,p,[],0,[]⟩);obtain⟨h4,h5,h6⟩:=zCJ b s.nd.length (zB8 s.nd.length a ((s.kid i).add ⟨k,p,[],0,[]⟩));refine⟨?_,h5.trans h2,h6.trans h3⟩
  show(zB8 s.nd.length b _).nd.length=s.nd.length+(a.size+b.size+1)
  rw[h4,h1,zBK];omega
theorem zFE:∀(e:Ex) (i:Nat) (s:Ps),(∀n ∈ s.nd,n.kids.length≤s.nd.length)→∀n ∈ (zB8 i e s).nd,n.kids.length≤(zB8 i e s).nd.length
 | .leaf k p t n,i,s,h=>zBB h i _ rfl
 | .neg p a,i,s,h=>zFE a _ _ (zBB h i _ rfl)
 | .bin k p a b,i,s,h=>zFE b _ _ (zFE a _ _ (zBB h i _ rfl))
theorem ZV (i:Nat):zA8 (zAB i):=by
 intro s g;unfold zAB;have h:=zIK s g
 cases hr:zP4 s with
 | err e p=>trivial
 | ok e t=>
  rw[hr] at h;obtain⟨h1,h2,h3,h4⟩:=h;obtain⟨p1,p2,p3⟩:=zCJ e i t;refine⟨⟨by rw[p2]; exact h1.last,by rw[p3]; exact h1.deep,zFE e i t h1.few⟩,?_,by rw[p2]; omega,by rw[p1,h3]; omega,by rw[p3,h4]⟩;unfold Ps.phi;rw[p1,p2,h3];omega
theorem zKp {one:Pm Unit}(h:zA8 one):∀f,zA8 (zBI one f)
 | 0=>fun _ _=>trivial
 | f+1=>fun s g=>by
  unfold zBI
  split
  ·rename_i hi;have hk:=(vN hi).1;exact jO.trans (VL g hk) ((h _ (g.adv hk)).bind fun _ t _ gt=>zKp h f t gt)
  ·exact ZI.refl g
theorem zBu {one:Pm Unit}(h:zA8 one):zA8 (zAh one):=fun s g=>(h s g).bind fun _ t _ gt=>zKp h _ t gt
theorem zIE (i:Nat):zA8 (zGg i):=fun s g=>(zFV [91] [93] (fun t gt _=>ZV i t gt) g).zVk
theorem zEy (i:Nat):zA8 (zJL i):=fun s g=>JM.at ((zAC _ (vM g i 20)).bind fun _ t _ gt=>zIE _ t gt)
theorem zES (i:Nat):zA8 (zJy i):=fun s g=>(zEy i s g).bind fun _ t _ gt=>(xQ _ t gt).bind fun _ t _ gt=>YB i t gt
theorem zQs (i:Nat):zA8 (zKM i):=fun s g=>(ZQ i s g).bind fun _ t _ gt=>(xQ _ t gt).bind fun _ t _ gt=>(zES i t gt).bind fun _ t _ gt=>by
 split
 ·rename_i hi;exact jO.trans (VL gt (vN hi).1) ((xQ _ _ (gt.adv (vN hi).1)).bind fun _ t _ gt=>zAq gt (fun _=>rfl))
 ·exact ZI.refl gt
theorem zSR (i:Nat):zA8 (zQB i):=fun s g=>(zES i s g).bind fun _ t _ gt=>(xQ _ t gt).bind fun _ t _ gt=>ZV i t gt
theorem zNz (i:Nat):zA8 (zET i):=fun s g=>(zEy i s g).bind fun _ t _ gt=>(xQ _ t gt).bind fun _ t _ gt=>(zBu (ZV i) t gt).bind fun _ t _ gt=>xQ _ t gt
theorem zQ4 (i:Nat):zA8 (zJZ i):=fun s g=>(ZQ i s g).bind fun _ t _ gt=>(xQ _ t gt).bind fun _ t _ gt=>(YB i t gt).bind fun _ t _ gt=>(xQ _ t gt).bind fun _ t _ gt=>YB i t gt
theorem zP6 (i:Nat):zA8 (zJ9 i):=fun s g=>(YB i s g).bind fun _ t _ gt=>by
 split
 ·rename_i hi;exact(VL gt (vN hi).1).trans (zAq (gt.adv (vN hi).1) (fun _=>rfl))
 ·exact xQ _ t gt
theorem zK4 (i:Nat):zA8 (zDj i):=fun s g=>JM.at ((zAC _ (vM g i 5)).bind fun _ t _ gt=>by
 split
 ·have l1:ZI t (t.kind s.nd.length 20):=zAq gt (fun _=>rfl);exact jO.trans l1 (zIE _ _ l1.xS)
 ·exact ZI.refl gt)
theorem zRK (i:Nat):zA8 (zPP i):=fun s g=>(ZQ i s g).bind fun _ t _ gt=>(xQ _ t gt).bind fun _ t _ gt=>ZV i t gt
theorem zQx (i:Nat):zA8 (zE6 i):=fun s g=>by
 unfold zE6
 split
 ·rename_i hi;exact(VL g (vN hi).1).trans (zAq (g.adv (vN hi).1) (fun _=>rfl))
 ·exact xQ _ s g
def zDo (n:Nat)(st:Nat→Pm Unit):Prop:=∀i s,Good s→s.ts.length≤n→jO s (st i s)
theorem zFq {n:Nat}{st:Nat→Pm Unit}(h:zDo n st)(i:Nat):∀f s,Good s→s.ts.length≤n→jO s (XA st i f s)
 | 0,_,_,_=>trivial
 | f+1,s,g,hl=>by
  unfold XA
  split
  ·exact ZI.refl g
  ·have h1:=h i s g hl
   cases hr:st i s with
   | err e p=>trivial
   | ok a t=>
    rw[hr] at h1
    have:=h1.ts
    exact jO.trans h1 (zFq h i f t h1.xS (by omega))
theorem JU {n:Nat}{st:Nat→Pm Unit}(h:zDo n st)(i:Nat)(s:Ps)(g:Good s)(hl:s.ts.length≤n+1):jO s (zAX st i s):=
 JM.at (zFV [123] [125] (fun t gt ht=>zFq h _ _ t gt (by rw[YR] at ht; omega)) (vM g i 6))
theorem zQd {n:Nat}{st:Nat→Pm Unit}(h:zDo n st)(i:Nat)(s:Ps)(g:Good s)(hl:s.ts.length≤n+1):jO s (zGO st i s):=by
 unfold zGO
 split
 ·rename_i hi;have hk:=(vN hi).1;have hal:=jX (s:=s);exact jO.trans (VL g hk) (JU h i _ (g.adv hk) (by omega))
 ·exact ZI.refl g
theorem jO.zFQ {α β:Type}{s:Ps}{r:Res α}{f:α→Ps→Res β}(h:jO s r)(k:∀a s',Good s'→s'.ts.length≤s.ts.length→jO s' (f a s')):jO s (r.bind f):=by
 cases r with
 | ok a s'=>exact jO.trans h (k a s' h.xS h.ts)
 | err e p=>trivial
theorem zMT {n:Nat}{st:Nat→Pm Unit}(h:zDo n st)(i:Nat)(s:Ps)(g:Good s)(hl:s.ts.length≤n+1):jO s (zDk st i s):=
 (ZV i s g).zFQ fun _ t gt l1=>(zQx i t gt).zFQ fun _ t gt l2=>(ZV i t gt).zFQ fun _ t gt l3=>(JU h i t gt (by omega)).zFQ fun _ t gt l4=>zQd h i t gt (by omega)
theorem zQU {n:Nat}{st:Nat→Pm Unit}(h:zDo n st)(i:Nat)(s:Ps)(g:Good s)(hl:s.ts.length≤n+1):jO s (zGw st i s):=
 (ZQ i s g).zFQ fun _ t gt l1=>(xQ _ t gt).zFQ fun _ t gt l2=>(zCR i t gt).zFQ fun _ t gt l3=>(xQ _ t gt).zFQ fun _ t gt l4=>(zCR i t gt).zFQ fun _ t gt l5=>JU h i t gt (by omega)
theorem zDt {n:Nat}{st:Nat→Pm Unit}(h:zDo n st)(k i:Nat)(s:Ps)(g:Good s)(hl:s.ts.length≤n+1):jO s (VO st k i s):=by
 unfold VO
 split
 ·exact zQs i s g
 split
 ·exact zSR i s g
 split
 ·exact zNz i s g
 split
 ·exact zEy i s g
 split
 ·exact zQ4 i s g
 split
 ·exact zP6 i s g
 split
 ·exact zK4 i s g
 split
 ·exact zMT h i s g hl
 split
 ·exact zQU h i s g hl
 split
 ·exact zRK i s g
 split
 ·exact ZV i s g
 ·exact ZI.refl g
theorem zAD:∀f,zDo f (YO f)
 | 0,_,_,_,_=>trivial
 | f+1,i,s,g,hl=>by
  unfold YO
  split
  ·trivial
  ·rename_i k hk
   have h1:s.hd.kind=1:=by
    split at hk
    ·assumption
    ·cases hk
   have h4:(s.xJ i k).hd.kind≠4:=by show s.hd.kind≠4; omega
   refine JM.at (i:=i) (k:=k) ?_;refine JM.bind (r:=.ok () (s.xJ i k).adv) (zC5 (vM g i k) h4) (f:=fun _ t=>(VO (YO f) k s.nd.length t).bind fun _ s=>if k=14∨k=15 then .ok () s else vW [59] s) ?_;intro _ t ht gt;injection ht with _ ht;have hal:=jX (s:=s.xJ i k);rw[YR] at hal
   have:=g.pos
   refine(zDt (zAD f) k _ t gt (by rw[←ht,hal]; omega)).bind fun _ u _ gu=>?_
   split
   ·exact ZI.refl gu
   ·exact xQ _ u gu
theorem zCV (i:Nat):zA8 (zD3 i):=fun s g=>JU (zAD s.ts.length) i s g (by omega)
theorem zJt (i:Nat):zA8 (zCX i):=fun s g=>JM.at ((zFz _ (vM g i 2)).bind fun _ t _ gt=>(ZQ _ t gt).bind fun _ t _ gt=>(xQ _ t gt).bind fun _ t _ gt=>(zBu (YB _) t gt).bind fun _ t _ gt=>(xQ _ t gt).bind fun _ t _ gt=>xQ _ t gt)
theorem zGT (i:Nat):zA8 (zAd i):=fun s g=>by
 unfold zAd
 split
 ·rename_i hi;exact(VL g (vN hi).1).trans (zAq (g.adv (vN hi).1) (fun _=>rfl))
 ·exact ZI.refl g
end Go.Proofs.YtbadjmmjbpeocaaGreatDoor
