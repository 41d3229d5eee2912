/- What a tree's names stand for, as plain Lean: a reading of a right tree, its first error told at its node. (and what follows of it). The conditions stand at each lemma. -/
import Derived.Test.YtbadjmmjbpeocaaGreatKaa
import Derived.Test.YtbadjmmjbpeocaaGreatKae
set_option linter.unusedVariables false
set_option linter.unusedSimpArgs false
set_option maxRecDepth 100000
set_option maxHeartbeats 16000000
namespace Go.Proofs.YtbadjmmjbpeocaaGreat
structure Nt where
 name:Bs
 zAX:List Bs
 deriving DecidableEq
structure Np where
 name:Bs
 params:Nat
 vars:List Bs
 single:Bool
 root:Nat
 deriving DecidableEq
structure Vr where
 name:Bs
 n:Nat
 loop:Bool
 deriving DecidableEq
structure Nr where
 xG:List Nt
 procs:List Np
 of:List Int
 vars:List Bs
 blocks:List (List Vr)
 deriving DecidableEq
inductive YU (α:Type) where
 | ok (a:α)
 | err (i:Nat) (e:Int)
 deriving DecidableEq
def YU.bind {α β:Type}:YU α→(α→YU β)→YU β
 | .ok a,f=>f a
 | .err i e,_=>.err i e
abbrev Nn:=Nr→YU Nr
def xB (t:List Nd)(i:Nat):Nd:=t.getD i ⟨0,0,[],0,[]⟩
def Nr.set (s:Nr)(i:Nat)(x:Int):Nr:={ s with of:=s.of.set i x }
def zB0 (s:Nr)(t:Bs):Option Nat:=s.xG.findIdx? fun x=>x.name==t
def zC2 (s:Nr)(t:Bs):Option Nat:=s.procs.findIdx? fun x=>x.name==t
def zSC (s:Nr)(k:Nat)(t:Bs):Option Nat:=((s.xG[k]?).map fun x=>x.zAX.findIdx? fun c=>c==t).join
def VE (s:Nr)(t:Bs):Option Vr:=s.blocks.findSome? fun b=>b.find? fun v=>v.name==t
def zAq (t:List Nd):List Nat→List Bs→Nr→YU (List Bs × Nr)
 | [],cs,s=>.ok (cs,s)
 | k::l,cs,s=>if cs.contains (xB t k).text=true then .err k 71 else zAq t l (cs++[(xB t k).text]) (s.set k cs.length)
def JU (t:List Nd)(i:Nat):Nn:=fun s=>
 if (zB0 s (xB t i).text).isSome=true then .err i 71
 else if s.xG.length<64∧(xB t i).kids.length≤16 then
  (zAq t (xB t i).kids [] s).bind fun x=>.ok { x.2.set i s.xG.length with xG:=s.xG++[⟨(xB t i).text,x.1⟩] }
 else .err i 3
def zB2 (t:List Nd)(i:Nat):Nn:=fun s=>
 if (zC2 s (xB t i).text).isSome=true then .err i 71
 else if s.procs.length<64 then .ok { s.set i s.procs.length with procs:=s.procs++[⟨(xB t i).text,0,[],(xB t i).num==1,i⟩] }
 else .err i 3
def XI (t:List Nd):List Nat→Nn
 | [],s=>.ok s
 | k::l,s=>((if (xB t k).kind=2 then JU t k else zB2 t k) s).bind (XI t l)
def vV (t:List Nd)(i:Nat)(loop:Bool):Nn:=fun s=>
 if s.vars.length<64 then .ok { s.set i s.vars.length with vars:=s.vars++[(xB t i).text],blocks:=(⟨(xB t i).text,s.vars.length,loop⟩::s.blocks.headD [])::s.blocks.tail }
 else .err i 3
def ZU (t:List Nd)(i:Nat):Nn:=fun s=>match VE s (xB t i).text with
 | none=>vV t i false s
 | some v=>if v.loop=true then .err i 71 else .ok (s.set i v.n)
def jQ (does:Nn):Nn:=fun s=>(does { s with blocks:=[]::s.blocks }).bind fun s=>.ok { s with blocks:=s.blocks.tail }
def ofN (t:List Nd)(i:Nat):Nn:=fun s=>match zB0 s (xB t i).text with
 | none=>.err i 70
 | some k=>.ok (s.set i k)
def ZI (t:List Nd)(i:Nat)(table:Int):Nn:=fun s=>match zSC s table.toNat (xB t i).text with
 | none=>.err i 70
 | some c=>.ok (s.set i c)
def vE (one:Nat→Nn):List Nat→Nn
 | [],s=>.ok s
 | k::l,s=>(one k s).bind (vE one l)
def xW (t:List Nd):Nat→Nat→Nn
 | 0,_,s=>.ok s
 | f+1,i,s=>
  ((if (xB t i).kind=22 then (match VE s (xB t i).text with | none=>.err i 70 | some v=>.ok (s.set i v.n))
   else if (xB t i).kind=20 then ofN t i s else .ok s):YU Nr).bind (vE (xW t f) (xB t i).kids)
def ZL (t:List Nd)(i j:Nat):Nat:=(xB t i).kids.getD j 0
def zAL (s:Nr)(i:Nat):Int:=s.of.getD i (-1)
def jN (t:List Nd)(st:Nat→Nn)(i:Nat)(top:Bool):Nn:=
 jQ (vE (fun k s=>if (top||(xB t k).kind != 19)=true then st k s else .err k 73) (xB t i).kids)
def ZC (t:List Nd)(i:Nat):Nn:=fun s=>if (xB t i).kind=7∨(xB t i).kind=11∨(xB t i).kind=16 then ZU t i s else .ok s
def vF (t:List Nd):Nat→Nat→Nn
 | 0,_,s=>.ok s
 | f+1,i,s=>
  ((if (xB t i).kind=7∨(xB t i).kind=8 then
    (xW t (f+1) (ZL t i 0) s).bind fun s=>(ZI t (ZL t i 1) (zAL s (ZL t i 0)) s).bind (vE (xW t (f+1)) ((xB t i).kids.drop 2))
   else if (xB t i).kind=9 then
    (ofN t (ZL t i 0) s).bind fun s=>
     (if (xB t i).kids.length=((s.xG[(zAL s (ZL t i 0)).toNat]?).map fun x=>x.zAX.length).getD 0+1 then YU.ok (s.set i (zAL s (ZL t i 0))) else .err i 72).bind
      (vE (xW t (f+1)) (xB t i).kids)
   else if (xB t i).kind=11 then (ofN t (ZL t i 0) s).bind fun s=>ZI t (ZL t i 1) (zAL s (ZL t i 0)) s
   else if (xB t i).kind=15 then
    (if (VE s (xB t i).text).isSome=true then .err i 71
     else jQ (fun s=>(vV t i true s).bind (jN t (vF t f) (ZL t i 2) false)) s)
   else vE (fun k s=>if (xB t k).kind=5 then ofN t k s else if (xB t k).kind=6 then jN t (vF t f) k false s else xW t (f+1) k s) (xB t i).kids s):YU Nr).bind (ZC t i)
def ZR (t:List Nd):List Nat→Nn
 | [],s=>.ok s
 | k::l,s=>if (VE s (xB t k).text).isSome=true then .err k 71 else (vV t k false s).bind (ZR t l)
def zFY (t:List Nd)(j:Nat):Nn:=fun s=>match s.procs[j]? with
 | none=>.ok s
 | some p=>(jQ (fun s=>(ZR t (xB t (ZL t p.root 0)).kids s).bind (jN t (vF t t.length) (ZL t p.root 1) true)) { s with vars:=[] }).bind fun s=>
   .ok { s with procs:=s.procs.set j { p with params:=(xB t (ZL t p.root 0)).kids.length,vars:=s.vars } }
def JY (t:List Nd):Nat→Nat→Nn
 | 0,_,s=>.ok s
 | f+1,j,s=>if j<s.procs.length then (zFY t j s).bind (JY t f (j+1)) else .ok s
def jL (t:List Nd):YU Nr:=
 (XI t (xB t 0).kids ⟨[],[],List.replicate t.length (-1),[],[]⟩).bind fun s=>JY t s.procs.length 0 s
structure Qn where
 xG:List Nt
 procs:List Np
 of:List Int
 vars:List Bs
 params:Nat
 there:List Vr
 e:Int
 at_:Nat
 deriving DecidableEq
def Qn.fail (i:Nat)(e:Int)(q:Qn):Qn:=if q.e=0 then { q with e:=e,at_:=i } else q
def Qn.set (q:Qn)(i:Nat)(x:Int):Qn:={ q with of:=q.of.set i x }
def zHy (o:Option Nat):Int:=match o with
 | some k=>k
 | none=>-1
def Qn.tab (q:Qn)(t:Bs):Int:=zHy (q.xG.findIdx? fun x=>x.name==t)
def Qn.proc (q:Qn)(t:Bs):Int:=zHy (q.procs.findIdx? fun x=>x.name==t)
def Qn.find (q:Qn)(t:Bs):Option Vr:=q.there.find? fun v=>v.name==t
structure Sim (s:Nr)(q:Qn):Prop where
 xG:q.xG=s.xG
 procs:q.procs=s.procs
 of:q.of=s.of
 vars:q.vars=s.vars
 there:q.there=s.blocks.flatten
 e:q.e=0
def zKK (x:YU Nr)(q:Qn):Prop:=match x with
 | .ok s=>Sim s q
 | .err i e=>q.e=e∧q.at_=i∧e≠0
def zG3 (M:Qn→Qn):Prop:=∀q,q.e≠0→(M q).e=q.e∧(M q).at_=q.at_
structure zMb (m:Nn)(M:Qn→Qn):Prop where
 dead:zG3 M
 live:∀s q,Sim s q→zKK (m s) (M q)
theorem zG3.comp {M N:Qn→Qn}(h:zG3 M)(k:zG3 N):zG3 fun q=>N (M q):=fun q hq=>by
 obtain⟨h1,h2⟩:=h q hq;obtain⟨k1,k2⟩:=k (M q) (by rw[h1]; exact hq);exact⟨k1.trans h1,k2.trans h2⟩
theorem zKK.bind {x:YU Nr}{q:Qn}{f:Nr→YU Nr}{N:Qn→Qn}(h:zKK x q)(hN:zG3 N)(k:∀s,x=.ok s→Sim s q→zKK (f s) (N q)):zKK (x.bind f) (N q):=by
 cases x with
 | ok s=>exact k s rfl h
 | err i e=>
  obtain⟨h1,h2,h3⟩:=h;obtain⟨k1,k2⟩:=hN q (by rw[h1]; exact h3);exact⟨k1.trans h1,k2.trans h2,h3⟩
theorem zMb.bind {m f:Nn}{M N:Qn→Qn}(h:zMb m M)(k:zMb f N):zMb (fun s=>(m s).bind f) fun q=>N (M q):=
 ⟨h.dead.comp k.dead,fun s q hs=>zKK.bind (h.live s q hs) k.dead fun s' _ hs'=>k.live s' _ hs'⟩
theorem Sim.set {s:Nr}{q:Qn}(h:Sim s q)(i:Nat)(x:Int):Sim (s.set i x) (q.set i x):=⟨h.xG,h.procs,by show q.of.set i x=s.of.set i x; rw[h.of],h.vars,h.there,h.e⟩
theorem Sim.tab {s:Nr}{q:Qn}(h:Sim s q)(t:Bs):q.tab t=zHy (zB0 s t):=by unfold Qn.tab zB0; rw[h.xG]
theorem Sim.proc {s:Nr}{q:Qn}(h:Sim s q)(t:Bs):q.proc t=zHy (zC2 s t):=by unfold Qn.proc zC2; rw[h.procs]
theorem Sim.find {s:Nr}{q:Qn}(h:Sim s q)(t:Bs):q.find t=VE s t:=by
 unfold Qn.find VE;rw[h.there,List.find?_flatten]
def zAS (k:Nat):Prop:=21≤k∧k≤26
def zAb (t:List Nd)(i:Nat):Prop:=match (xB t i).kind with
 | 2=>True
 | 3=>∃a b,(xB t i).kids=[a,b]∧(xB t b).kind=6
 | 6=>∀k ∈ (xB t i).kids,7≤(xB t k).kind∧(xB t k).kind≤19
 | 7=>∃a b,(xB t i).kids=[a,b]∧(xB t a).kind=20
 | 8=>∃a b c,(xB t i).kids=[a,b,c]∧(xB t a).kind=20∧zAS (xB t c).kind
 | 9=>∃a l,(xB t i).kids=a::l∧(xB t a).kind=20∧∀k ∈ l,zAS (xB t k).kind
 | 10=>∃a,(xB t i).kids=[a]∧(xB t a).kind=20
 | 11=>∃a b,(xB t i).kids=[a,b]
 | 12=>∃a,(xB t i).kids=[a]∧((xB t a).kind=5∨(xB t a).kind=20)
 | 13=>∃a,(xB t i).kids=[a]∧((xB t a).kind=5∨(xB t a).kind=20)
 | 14=>∃a b l,(xB t i).kids=a::b::l∧zAS (xB t a).kind∧zAS (xB t b).kind∧∀k ∈ l,(xB t k).kind=6
 | 15=>∃a b c,(xB t i).kids=[a,b,c]∧(xB t c).kind=6
 | 16=>∃a,(xB t i).kids=[a]∧zAS (xB t a).kind
 | 17=>∃a,(xB t i).kids=[a]∧zAS (xB t a).kind
 | 18=>(xB t i).kids=[]
 | 19=>(xB t i).kids=[]
 | 20=>∃a,(xB t i).kids=[a]∧zAS (xB t a).kind
 | _=>∀k ∈ (xB t i).kids,zAS (xB t k).kind
structure XK (t:List Nd):Prop where
 up:∀i,∀k ∈ (xB t i).kids,i<k∧k<t.length
 form:∀i,i<t.length→(xB t i).kind≠1→(xB t i).kind≠4→zAb t i
theorem zLQ {t:List Nd}(R:XK t){i:Nat}(hi:i<t.length)(hx:zAS (xB t i).kind):∀k ∈ (xB t i).kids,zAS (xB t k).kind∧k<t.length:=by
 have h:=R.form i hi (by have:=hx.1; omega) (by have:=hx.1; omega);have hx':=hx;unfold zAS at hx';unfold zAb at h;obtain⟨x,hk⟩:∃x,x=(xB t i).kind:=⟨_,rfl⟩;rw[←hk] at h hx'
 have:x=21∨x=22∨x=23∨x=24∨x=25∨x=26:=by omega
 rcases this with rfl | rfl | rfl | rfl | rfl | rfl <;> exact fun k hk=>⟨h k hk,(R.up i k hk).2⟩
structure YX (i:Nat)(s s':Nr):Prop where
 xG:s'.xG=s.xG
 procs:s'.procs=s.procs
 vars:s'.vars=s.vars
 blocks:s'.blocks=s.blocks
 len:s'.of.length=s.of.length
 of:∀j,j<i→s'.of[j]?=s.of[j]?
theorem YX.refl (i:Nat)(s:Nr):YX i s s:=⟨rfl,rfl,rfl,rfl,rfl,fun _ _=>rfl⟩
theorem YX.trans {i:Nat}{a b c:Nr}(h:YX i a b)(k:YX i b c):YX i a c:=⟨k.xG.trans h.xG,k.procs.trans h.procs,k.vars.trans h.vars,k.blocks.trans h.blocks,k.len.trans h.len,fun j hj=>(k.of j hj).trans (h.of j hj)⟩
theorem YX.low {i j:Nat}{a b:Nr}(h:YX i a b)(hij:j≤i):YX j a b:=⟨h.xG,h.procs,h.vars,h.blocks,h.len,fun k hk=>h.of k (by omega)⟩
theorem YX.set (s:Nr)(i:Nat)(x:Int):YX i s (s.set i x):=⟨rfl,rfl,rfl,rfl,by show(s.of.set i x).length=_; rw[zB],fun j hj=>by show(s.of.set i x)[j]?=_; rw[List.getElem?_set_ne (by omega)]⟩
theorem zIH {t:List Nd}{i:Nat}{s s':Nr}(h:ofN t i s=.ok s'):∃k,zB0 s (xB t i).text=some k∧s'=s.set i k:=by
 unfold ofN at h
 cases hk:zB0 s (xB t i).text with
 | none=>rw[hk] at h; cases h
 | some k=>rw[hk] at h; injection h with h; exact⟨k,rfl,h.symm⟩
theorem zFW {t:List Nd}{i:Nat}{x:Int}{s s':Nr}(h:ZI t i x s=.ok s'):YX i s s':=by
 unfold ZI at h
 split at h
 ·cases h
 ·injection h with h; rw[←h]; exact YX.set _ _ _
theorem jZ {x:YU Nr}{f:Nr→YU Nr}{s':Nr}(h:x.bind f=.ok s'):∃m,x=.ok m∧f m=.ok s':=by
 cases x with
 | ok m=>exact⟨m,rfl,h⟩
 | err i e=>cases h
theorem zGB {one:Nat→Nn}{i:Nat}:∀(l:List Nat) (s s':Nr),(∀k ∈ l,∀a b,one k a=.ok b→YX i a b)→vE one l s=.ok s'→YX i s s'
 | [],s,s',_,h=>by injection h with h; rw[←h]; exact YX.refl _ _
 | k::l,s,s',hk,h=>by
  obtain⟨m,h1,h2⟩:=jZ h;exact(hk k (List.mem_cons_self ..) s m h1).trans (zGB l m s' (fun x hx=>hk x (List.mem_cons_of_mem _ hx)) h2)
theorem YI {t:List Nd}(R:XK t):∀(f i:Nat) (s s':Nr),xW t f i s=.ok s'→YX i s s'
 | 0,i,s,s',h=>by injection h with h; rw[←h]; exact YX.refl _ _
 | f+1,i,s,s',h=>by
  unfold xW at h;obtain⟨m,h1,h2⟩:=jZ h;have hk:=zGB (i:=i) _ m s' (fun k hm a b hab=>(YI R f k a b hab).low (zV (R.up i k hm).1)) h2;refine YX.trans ?_ hk
  split at h1
  ·split at h1
   ·cases h1
   ·injection h1 with h1; rw[←h1]; exact YX.set _ _ _
  ·split at h1
   ·obtain⟨k,_,rfl⟩:=zIH h1; exact YX.set _ _ _
   ·injection h1 with h1; rw[←h1]; exact YX.refl _ _
structure YT (s s':Nr):Prop where
 xG:s'.xG=s.xG
 procs:s'.procs=s.procs
 len:s'.of.length=s.of.length
 blocks:∃n b rest,s.blocks=b::rest∧s'.blocks=(n++b)::rest
theorem YX.toS {i:Nat}{s s':Nr}(h:YX i s s')(hb:s.blocks≠[]):YT s s':=⟨h.xG,h.procs,h.len,by
 cases hs:s.blocks with
 | nil=>exact absurd hs hb
 | cons b rest=>exact⟨[],b,rest,rfl,by rw[h.blocks,hs]; rfl⟩⟩
theorem YT.ne {s s':Nr}(h:YT s s'):s'.blocks≠[]:=by obtain⟨n,b,rest,_,h2⟩:=h.blocks; rw[h2]; simp
theorem YT.trans {a b c:Nr}(h:YT a b)(k:YT b c):YT a c:=by
 obtain⟨n,x,rest,h1,h2⟩:=h.blocks;obtain⟨m,y,rest',k1,k2⟩:=k.blocks;rw[h2] at k1;injection k1 with e1 e2;subst e1 e2;exact⟨k.xG.trans h.xG,k.procs.trans h.procs,k.len.trans h.len,m++n,x,rest,h1,by rw[k2,List.append_assoc]⟩
theorem YT.refl {s:Nr}(hb:s.blocks≠[]):YT s s:=(YX.refl 0 s).toS hb
theorem zAt {t:List Nd}{i:Nat}{b:Bool}{s s':Nr}(hb:s.blocks≠[])(h:vV t i b s=.ok s'):YT s s':=by
 unfold vV at h
 split at h
 ·injection h with h;rw[←h];refine⟨rfl,rfl,by show(s.of.set i _).length=_; rw[zB],?_⟩
  cases hs:s.blocks with
  | nil=>exact absurd hs hb
  | cons x rest=>exact⟨[⟨(xB t i).text,s.vars.length,b⟩],x,rest,rfl,by simp[hs]⟩
 ·cases h
theorem zLG {t:List Nd}{i:Nat}{s s':Nr}(hb:s.blocks≠[])(h:ZU t i s=.ok s'):YT s s':=by
 unfold ZU at h
 split at h
 ·exact zAt hb h
 ·split at h
  ·cases h
  ·injection h with h; rw[←h]; exact(YX.set s i _).toS hb
theorem zA7 {one:Nat→Nn}:∀(l:List Nat) (s s':Nr),s.blocks≠[]→(∀k ∈ l,∀a b,a.blocks≠[]→one k a=.ok b→YT a b)→vE one l s=.ok s'→YT s s'
 | [],s,s',hb,_,h=>by injection h with h; rw[←h]; exact YT.refl hb
 | k::l,s,s',hb,hk,h=>by
  obtain⟨m,h1,h2⟩:=jZ h;have a:=hk k (List.mem_cons_self ..) s m hb h1;exact a.trans (zA7 l m s' a.ne (fun x hx=>hk x (List.mem_cons_of_mem _ hx)) h2)
theorem zG2 {does:Nn}{s s':Nr}(hd:∀a b,a.blocks≠[]→does a=.ok b→YT a b)(h:jQ does s=.ok s'):s'.xG=s.xG∧s'.procs=s.procs∧s'.of.length=s.of.length∧s'.blocks=s.blocks:=by
 unfold jQ at h;obtain⟨m,h1,h2⟩:=jZ h;have hk:=hd _ m (by simp) h1;injection h2 with h2;obtain⟨n,b,rest,e1,e2⟩:=hk.blocks;injection e1 with e1 e3;subst e1 e3;rw[←h2];exact⟨hk.xG,hk.procs,hk.len,by show m.blocks.tail=_; rw[e2]; rfl⟩
theorem zGg {does:Nn}{s s':Nr}(hb:s.blocks≠[])(hd:∀a b,a.blocks≠[]→does a=.ok b→YT a b)(h:jQ does s=.ok s'):YT s s':=by
 obtain⟨h1,h2,h3,h4⟩:=zG2 hd h;refine⟨h1,h2,h3,?_⟩
 cases hs:s.blocks with
 | nil=>exact absurd hs hb
 | cons b rest=>exact⟨[],b,rest,rfl,by rw[h4,hs]; rfl⟩
theorem zAA {t:List Nd}{st:Nat→Nn}(hst:∀k a b,a.blocks≠[]→st k a=.ok b→YT a b){i:Nat}{top:Bool}{s s':Nr}(hb:s.blocks≠[])(h:jN t st i top s=.ok s'):YT s s':=by
 unfold jN at h;refine zGg hb (fun a b ha hab=>zA7 _ a b ha (fun k _ x y hx hxy=>?_) hab) h
 split at hxy
 ·exact hst k x y hx hxy
 ·cases hxy
theorem zA9 {t:List Nd}(R:XK t):∀(f i:Nat) (s s':Nr),s.blocks≠[]→vF t f i s=.ok s'→YT s s'
 | 0,i,s,s',hb,h=>by injection h with h; rw[←h]; exact YT.refl hb
 | f+1,i,s,s',hb,h=>by
  have ih:∀k a b,a.blocks≠[]→vF t f k a=.ok b→YT a b:=fun k a b=>zA9 R f k a b;unfold vF at h;obtain⟨m,h1,h2⟩:=jZ h
  have hm:YT s m:=by
   split at h1
   ·obtain⟨a,ha,h3⟩:=jZ h1;obtain⟨b,hb',h4⟩:=jZ h3;have k1:=(YI R _ _ _ _ ha).toS hb;have k2:=(zFW hb').toS k1.ne;exact(k1.trans k2).trans (zA7 _ b m k2.ne (fun k _ x y hx hxy=>(YI R _ _ _ _ hxy).toS hx) h4)
   ·split at h1
    ·obtain⟨a,ha,h3⟩:=jZ h1;obtain⟨b,hb',h4⟩:=jZ h3;obtain⟨k,_,rfl⟩:=zIH ha;have k1:=(YX.set s (ZL t i 0) (k:Int)).toS hb
     have k2:YT (s.set (ZL t i 0) k) b:=by
      split at hb'
      ·injection hb' with hb'; rw[←hb']; exact(YX.set _ _ _).toS k1.ne
      ·cases hb'
     exact(k1.trans k2).trans (zA7 _ b m k2.ne (fun k _ x y hx hxy=>(YI R _ _ _ _ hxy).toS hx) h4)
    ·split at h1
     ·obtain⟨a,ha,h3⟩:=jZ h1;obtain⟨k,_,rfl⟩:=zIH ha;have k1:=(YX.set s (ZL t i 0) (k:Int)).toS hb;exact k1.trans ((zFW h3).toS k1.ne)
     ·split at h1
      ·split at h1
       ·cases h1
       ·refine zGg hb (fun a b ha hab=>?_) h1;obtain⟨c,hc,h3⟩:=jZ hab;have k1:=zAt ha hc;exact k1.trans (zAA ih k1.ne h3)
      ·refine zA7 _ s m hb (fun k _ x y hx hxy=>?_) h1
       split at hxy
       ·obtain⟨j,_,rfl⟩:=zIH hxy; exact(YX.set _ _ _).toS hx
       ·split at hxy
        ·exact zAA ih hx hxy
        ·exact(YI R _ _ _ _ hxy).toS hx
  refine hm.trans ?_;unfold ZC at h2
  split at h2
  ·exact zLG hm.ne h2
  ·injection h2 with h2; rw[←h2]; exact YT.refl hm.ne
inductive Sub (t:List Nd):Nat→Nat→Prop
 | self (i:Nat):Sub t i i
 | kid {i k j:Nat}:k ∈ (xB t i).kids→Sub t k j→Sub t i j
theorem Sub.none {t:List Nd}{i j:Nat}(h:Sub t i j)(hk:(xB t i).kids=[]):j=i:=by
 cases h with
 | self=>rfl
 | kid h _=>rw[hk] at h; cases h
theorem Sub.trans {t:List Nd}{i j k:Nat}(h:Sub t i j)(g:Sub t j k):Sub t i k:=by
 induction h with
 | self=>exact g
 | kid hk _ ih=>exact .kid hk (ih g)
def zFI (k:Nat):Prop:=k=22∨k=7∨k=11∨k=15∨k=16
def zBN (t:List Nd)(s:Nr)(j:Nat)(x:Int):Prop:=
 (zFI (xB t j).kind→∃n:Nat,x=(n:Int)∧s.vars[n]?=some (xB t j).text) ∧
 ((xB t j).kind=20→∃n:Nat,x=(n:Int)∧(s.xG[n]?).map (·.name)=some (xB t j).text)
def zFa (t:List Nd)(s:Nr)(j:Nat):Prop:=zBN t s j (s.of.getD j (-1))
structure BIn (s:Nr):Prop where
 few:s.vars.length≤64
 bl:∀b ∈ s.blocks,∀v ∈ b,s.vars[v.n]?=some v.name
structure zBJ (t:List Nd)(F:Nat→Prop)(s s':Nr):Prop where
 len:s'.of.length=s.of.length
 xG:s'.xG=s.xG
 procs:s'.procs=s.procs
 vars:∃e,s'.vars=s.vars++e
 inn:BIn s'
 val:∀j,zFa t s j→zFa t s' j
 fr:∀j,¬F j→s'.of.getD j (-1)=s.of.getD j (-1)
theorem zBN.up {t:List Nd}{s s':Nr}{j:Nat}{x:Int}(h:zBN t s j x)(ht:s'.xG=s.xG)(hv:∃e,s'.vars=s.vars++e):zBN t s' j x:=by
 obtain⟨e,he⟩:=hv;refine⟨fun k=>?_,fun k=>?_⟩
 ·obtain⟨n,h1,h2⟩:=h.1 k;refine⟨n,h1,?_⟩;obtain⟨h3,_⟩:=List.getElem?_eq_some_iff.1 h2;rw[he,List.getElem?_append_left h3];exact h2
 ·rw[ht]; exact h.2 k
theorem zBJ.refl {t:List Nd}{F:Nat→Prop}{s:Nr}(h:BIn s):zBJ t F s s:=⟨rfl,rfl,rfl,⟨[],by simp⟩,h,fun _ h=>h,fun _ _=>rfl⟩
theorem zBJ.trans {t:List Nd}{F:Nat→Prop}{a b c:Nr}(h:zBJ t F a b)(k:zBJ t F b c):zBJ t F a c:=
 ⟨k.len.trans h.len,k.xG.trans h.xG,k.procs.trans h.procs,(by
  obtain⟨e,he⟩:=h.vars;obtain⟨d,hd⟩:=k.vars
  exact⟨e++d,by rw[hd,he,List.append_assoc]⟩),k.inn,fun j hj=>k.val j (h.val j hj),fun j hj=>(k.fr j hj).trans (h.fr j hj)⟩
theorem zBJ.mono {t:List Nd}{F G:Nat→Prop}{a b:Nr}(h:zBJ t F a b)(hg:∀j,F j→G j):zBJ t G a b:=⟨h.len,h.xG,h.procs,h.vars,h.inn,h.val,fun j hj=>h.fr j fun k=>hj (hg j k)⟩
theorem zAm {l:List Int}{i:Nat}{x:Int}(h:i<l.length):(l.set i x).getD i (-1)=x:=by
 rw[yH,List.getElem?_set_self h]; rfl
theorem vGsn {l:List Int}{i j:Nat}{x:Int}(h:j≠i):(l.set i x).getD j (-1)=l.getD j (-1):=by
 rw[yH,yH,List.getElem?_set_ne (Ne.symm h)]
theorem zBJ.set {t:List Nd}{s:Nr}(h:BIn s)(i:Nat)(hi:i<s.of.length)(x:Int)(hx:zBN t s i x):zBJ t (fun j=>j=i) s (s.set i x)∧zFa t (s.set i x) i:=by
 have e:(s.set i x).of.getD i (-1)=x:=zAm hi;refine⟨⟨by show(s.of.set i x).length=_; rw[zB],rfl,rfl,⟨[],by simp[Nr.set]⟩,⟨h.few,h.bl⟩,fun j hj=>?_,fun j hj=>vGsn hj⟩,?_⟩
 ·by_cases hji:j=i
  ·subst hji;unfold zFa;rw[e];exact hx
  ·unfold zFa;rw[show(s.set i x).of.getD j (-1)=s.of.getD j (-1) from vGsn hji];exact hj
 ·unfold zFa;rw[e];exact hx
theorem zF5 {α β:Type}{f:α→Option β}:∀ {l:List α} {b:β},l.findSome? f=some b→∃a ∈ l,f a=some b
 | x::l,b,h=>by
  rw[List.findSome?_cons] at h
  cases hx:f x with
  | some c=>rw[hx] at h; injection h with h; subst h; exact⟨x,List.mem_cons_self ..,hx⟩
  | none=>rw[hx] at h; obtain⟨a,h1,h2⟩:=zF5 h; exact⟨a,List.mem_cons_of_mem _ h1,h2⟩
theorem zIe {s:Nr}(h:BIn s){n:Bs}{v:Vr}(hf:VE s n=some v):s.vars[v.n]?=some n:=by
 obtain⟨b,hb,hv⟩:=zF5 hf;have h1:=List.find?_some hv;have h2:=h.bl b hb v (List.mem_of_find?_eq_some hv);rw[h2]
 simp at h1
 rw[h1]
theorem zOx {s:Nr}{n:Bs}{k:Nat}(h:zB0 s n=some k):(s.xG[k]?).map (·.name)=some n:=by
 unfold zB0 at h;rw[List.findIdx?_eq_some_iff_getElem] at h;obtain⟨h1,h2,_⟩:=h;rw[yJ h1]
 simp at h2 ⊢
 exact h2
def XV (t:List Nd)(m:Nn)(F G:Nat→Prop):Prop:=∀s s',BIn s→s.blocks≠[]→s.of.length=t.length→m s=.ok s'→zBJ t F s s'∧YT s s'∧∀j,G j→zFa t s' j
theorem XV.mono {t:List Nd}{m:Nn}{F F' G G':Nat→Prop}(h:XV t m F G)(hf:∀j,F j→F' j)(hg:∀j,G' j→G j):XV t m F' G':=fun s s' a b c d=>let ⟨x,z,y⟩:=h s s' a b c d; ⟨x.mono hf,z,fun j hj=>y j (hg j hj)⟩
theorem zHH {t:List Nd}{F G:Nat→Prop}(hg:∀j s,G j→zFa t s j):XV t YU.ok F G:=fun s s' h hb _ e=>by injection e with e; subst e; exact⟨zBJ.refl h,YT.refl hb,fun j hj=>hg j s hj⟩
theorem JL {t:List Nd}{m f:Nn}{F G G':Nat→Prop}(hm:XV t m F G)(hf:XV t f F G'):XV t (fun s=>(m s).bind f) F fun j=>G j∨G' j:=fun s s' h1 h2 h3 e=>by
 obtain⟨x,e1,e2⟩:=jZ e;obtain⟨a,ka,va⟩:=hm s x h1 h2 h3 e1;obtain⟨b,kb,vb⟩:=hf x s' a.inn ka.ne (a.len.trans h3) e2
 exact⟨a.trans b,ka.trans kb,fun j hj=>by
  rcases hj with hj | hj
  ·exact b.val j (va j hj)
  ·exact vb j hj⟩
theorem zEP {t:List Nd}{s:Nr}(i:Nat)(hi:i<t.length)(x:Int)(h1:BIn s)(h2:s.blocks≠[])(h3:s.of.length=t.length)(hx:zBN t s i x):zBJ t (fun j=>j=i) s (s.set i x)∧YT s (s.set i x)∧∀j,j=i→zFa t (s.set i x) j:=by
 obtain⟨a,b⟩:=zBJ.set (t:=t) h1 i (by omega) x hx;exact⟨a,(YX.set s i x).toS h2,fun j hj=>by rw[hj]; exact b⟩
theorem zPb {t:List Nd}{i:Nat}(hi:i<t.length)(hk:¬zFI (xB t i).kind):XV t (ofN t i) (fun j=>j=i) (fun j=>j=i):=fun s s' h1 h2 h3 e=>by
 obtain⟨k,hk',rfl⟩:=zIH e;exact zEP i hi _ h1 h2 h3 ⟨fun h=>absurd h hk,fun _=>⟨k,rfl,zOx hk'⟩⟩
theorem zMT {t:List Nd}{i:Nat}{x:Int}(hi:i<t.length)(hk:¬zFI (xB t i).kind)(h20:(xB t i).kind≠20):XV t (ZI t i x) (fun j=>j=i) (fun j=>j=i):=fun s s' h1 h2 h3 e=>by
 unfold ZI at e
 split at e
 ·cases e
 ·injection e with e;subst e;exact zEP i hi _ h1 h2 h3 ⟨fun h=>absurd h hk,fun h=>absurd h h20⟩
theorem zCd {t:List Nd}{one:Nat→Nn}{F:Nat→Prop}{G:Nat→Nat→Prop}:∀(l:List Nat),(∀k ∈ l,XV t (one k) F (G k))→XV t (vE one l) F fun j=>∃k ∈ l,G k j
 | [],_=>zHH fun j s h=>by obtain⟨k,hk,_⟩:=h; cases hk
 | k::l,h=>(JL (h k (List.mem_cons_self ..)) (zCd l fun x hx=>h x (List.mem_cons_of_mem _ hx))).mono (fun _ h=>h) fun j hj=>by
  obtain⟨x,hx,hg⟩:=hj
  rcases List.mem_cons.1 hx with rfl | hx
  ·exact .inl hg
  ·exact .inr ⟨x,hx,hg⟩
theorem zRG {t:List Nd}{i:Nat}(hi:i<t.length)(h20:(xB t i).kind≠20):XV t (fun s=>match VE s (xB t i).text with | none=>.err i 70 | some v=>.ok (s.set i v.n)) (fun j=>j=i) (fun j=>j=i):=fun s s' h1 h2 h3 e=>by
 simp only at e
 split at e
 ·cases e
 ·rename_i v hv;injection e with e;subst e;exact zEP i hi _ h1 h2 h3 ⟨fun _=>⟨v.n,rfl,zIe h1 hv⟩,fun h=>absurd h h20⟩
theorem zDG {t:List Nd}{i:Nat}{b:Bool}(hi:i<t.length)(h20:(xB t i).kind≠20):XV t (vV t i b) (fun j=>j=i) (fun j=>j=i):=fun s s' h1 h2 h3 e=>by
 have hk:=zAt h2 e;unfold vV at e
 split at e
 ·rename_i hl;injection e with e;obtain⟨s0,hs0⟩:∃s0:Nr,s0 = { s with vars:=s.vars++[(xB t i).text],blocks:=(⟨(xB t i).text,s.vars.length,b⟩::s.blocks.headD [])::s.blocks.tail }:=⟨_,rfl⟩
  have hn:s0.vars[s.vars.length]?=some (xB t i).text:=by rw[hs0]; simp
  have hup:∀ {m:Nat} {x:Bs},s.vars[m]?=some x→s0.vars[m]?=some x:=fun {m x} h=>by
   obtain⟨h3,_⟩:=List.getElem?_eq_some_iff.1 h;rw[hs0]
   show(s.vars++_)[m]?=_
   rw[List.getElem?_append_left h3];exact h
  have hb0:BIn s0:=by
   refine⟨by rw[hs0]; simp; omega,fun c hc v hv=>?_⟩;rw[hs0] at hc
   rcases List.mem_cons.1 hc with rfl | hc
   ·rcases List.mem_cons.1 hv with rfl | hv
    ·exact hn
    ·cases hbl:s.blocks with
     | nil=>exact absurd hbl h2
     | cons y ys=>
      rw[hbl] at hv;exact hup (h1.bl y (by rw[hbl]; exact List.mem_cons_self ..) v hv)
   ·exact hup (h1.bl c (List.mem_of_mem_tail hc) v hv)
  have hst0:zBJ t (fun j=>j=i) s s0:=⟨by rw[hs0],by rw[hs0],by rw[hs0],⟨_,by rw[hs0]⟩,hb0,fun j hj=>by
   have:=zBN.up (s':=s0) hj (by rw[hs0]) ⟨_,by rw[hs0]⟩
   unfold zFa;rw[show s0.of=s.of by rw[hs0]]
   exact this,fun j _=>by rw[hs0]⟩
  obtain⟨a,b⟩:=zBJ.set (t:=t) hb0 i (by rw[show s0.of=s.of by rw[hs0]]; omega) (s.vars.length:Int) ⟨fun _=>⟨_,rfl,hn⟩,fun h=>absurd h h20⟩
  have es:s'=s0.set i s.vars.length:=by rw[←e,hs0]; rfl
  rw[←es] at a b;exact⟨hst0.trans a,hk,fun j hj=>by rw[hj]; exact b⟩
 ·cases e
theorem zNQ {t:List Nd}{i:Nat}(hi:i<t.length)(h20:(xB t i).kind≠20):XV t (ZU t i) (fun j=>j=i) (fun j=>j=i):=fun s s' h1 h2 h3 e=>by
 unfold ZU at e
 split at e
 ·exact zDG hi h20 s s' h1 h2 h3 e
 ·rename_i v hv
  split at e
  ·cases e
  ·injection e with e;subst e;exact zEP i hi _ h1 h2 h3 ⟨fun _=>⟨v.n,rfl,zIe h1 hv⟩,fun h=>absurd h h20⟩
theorem zHa {t:List Nd}{m:Nn}{F G:Nat→Prop}(h:XV t m F G):XV t (jQ m) F G:=fun s s' h1 h2 h3 e=>by
 unfold jQ at e;obtain⟨x,e1,e2⟩:=jZ e;injection e2 with e2
 have hb1:BIn { s with blocks:=[]::s.blocks }:=⟨h1.few,fun c hc v hv=>by
  rcases List.mem_cons.1 hc with rfl | hc
  ·cases hv
  ·exact h1.bl c hc v hv⟩
 obtain⟨a,k,b⟩:=h _ x hb1 (by simp) h3 e1;obtain⟨n,c,rest,f1,f2⟩:=k.blocks;injection f1 with f1 f3;subst f1 f3
 have hbl:s'.blocks=s.blocks:=by rw[←e2,show({ x with blocks:=x.blocks.tail }:Nr).blocks=x.blocks.tail from rfl,f2]; rfl
 have hv:s'.vars=x.vars:=by rw[←e2]
 have ho:s'.of=x.of:=by rw[←e2]
 have htb:s'.xG=x.xG:=by rw[←e2]
 have hpr:s'.procs=x.procs:=by rw[←e2]
 have hval:∀j,zFa t x j→zFa t s' j:=fun j hj=>by
  unfold zFa;rw[ho];exact zBN.up hj htb ⟨[],by rw[hv]; simp⟩
 refine⟨⟨by rw[ho]; exact a.len,htb.trans a.xG,hpr.trans a.procs,by rw[hv]; exact a.vars,⟨by rw[hv]; exact a.inn.few,fun c hc v hv'=>?_⟩,fun j hj=>hval j (a.val j hj),fun j hj=>by rw[ho]; exact a.fr j hj⟩,⟨htb.trans k.xG,hpr.trans k.procs,by rw[ho]; exact k.len,?_⟩,fun j hj=>hval j (b j hj)⟩
 ·rw[hv];rw[hbl] at hc;exact a.inn.bl c (by rw[f2]; exact List.mem_cons_of_mem _ hc) v hv'
 ·cases hs:s.blocks with
  | nil=>exact absurd hs h2
  | cons c r=>exact⟨[],c,r,rfl,by rw[hbl,hs]; rfl⟩
theorem zBj {t:List Nd}{s:Nr}{j:Nat}(h1:¬zFI (xB t j).kind)(h2:(xB t j).kind≠20):zFa t s j:=⟨fun h=>absurd h h1,fun h=>absurd h h2⟩
end Go.Proofs.YtbadjmmjbpeocaaGreat
