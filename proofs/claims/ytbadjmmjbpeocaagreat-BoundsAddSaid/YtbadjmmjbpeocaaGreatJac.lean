/- What the plain reading of names keeps. (and what follows of it). The conditions stand at each lemma. -/
import Derived.Test.YtbadjmmjbpeocaaGreatJaa
import Derived.Test.YtbadjmmjbpeocaaGreatJab
import Derived.Lib.Strings
import Derived.Lib.Slices
import Derived.Lib.Walk
import Derived.Lib.Bytealg
import Derived.Lib.BytesEntry
import Derived.Lib.Hide
import Derived.Deep.QuietTactic
import Derived.Deep.LoopGhost
import Derived.BigQuiet
import Derived.Laws.BytesArg
import Derived.Laws.IdiomRangeMap
import Derived.Lib.ConvBytes
set_option linter.unusedVariables false
set_option linter.unusedSimpArgs false
set_option maxRecDepth 100000
set_option maxHeartbeats 16000000
namespace Go.Proofs.YtbadjmmjbpeocaaGreat
structure YY (i:Nat)(s s':Nr):Prop where
 xH:s'.xH=s.xH
 procs:s'.procs=s.procs
 vars:s'.vars=s.vars
 blocks:s'.blocks=s.blocks
 len:s'.of.length=s.of.length
 of:∀j,j<i→s'.of[j]?=s.of[j]?
theorem YY.refl (i:Nat)(s:Nr):YY i s s:=⟨rfl,rfl,rfl,rfl,rfl,fun _ _=>rfl⟩
theorem YY.trans {i:Nat}{a b c:Nr}(h:YY i a b)(k:YY i b c):YY i a c:=⟨k.xH.trans h.xH,k.procs.trans h.procs,k.vars.trans h.vars,k.blocks.trans h.blocks,k.len.trans h.len,fun j hj=>(k.of j hj).trans (h.of j hj)⟩
theorem YY.low {i j:Nat}{a b:Nr}(h:YY i a b)(hij:j≤i):YY j a b:=⟨h.xH,h.procs,h.vars,h.blocks,h.len,fun k hk=>h.of k (by omega)⟩
theorem YY.set (s:Nr)(i:Nat)(x:Int):YY i s (s.set i x):=⟨rfl,rfl,rfl,rfl,by show(s.of.set i x).length=_; rw[zB],fun j hj=>by show(s.of.set i x)[j]?=_; rw[List.getElem?_set_ne (by omega)]⟩
theorem zL2 {t:List Nd}{i:Nat}{s s':Nr}(h:ofN t i s=.ok s'):∃k,zCw s (yZ t i).text=some k∧s'=s.set i k:=by
 unfold ofN at h
 cases hk:zCw s (yZ t i).text with
 | none=>rw[hk] at h; cases h
 | some k=>rw[hk] at h; injection h with h; exact⟨k,rfl,h.symm⟩
theorem zFU {t:List Nd}{i:Nat}{x:Int}{s s':Nr}(h:YR t i x s=.ok s'):YY i s s':=by
 unfold YR at h
 split at h
 ·cases h
 ·injection h with h; rw[←h]; exact YY.set _ _ _
theorem XD {x:XH Nr}{f:Nr→XH Nr}{s':Nr}(h:x.bind f=.ok s'):∃m,x=.ok m∧f m=.ok s':=by
 cases x with
 | ok m=>exact⟨m,rfl,h⟩
 | err i e=>cases h
theorem zGt {one:Nat→Nn}{i:Nat}:∀(l:List Nat) (s s':Nr),(∀k ∈ l,∀a b,one k a=.ok b→YY i a b)→vJ one l s=.ok s'→YY i s s'
 | [],s,s',_,h=>by injection h with h; rw[←h]; exact YY.refl _ _
 | k::l,s,s',hk,h=>by
  obtain⟨m,h1,h2⟩:=XD h;exact(hk k (List.mem_cons_self ..) s m h1).trans (zGt l m s' (fun x hx=>hk x (List.mem_cons_of_mem _ hx)) h2)
theorem YF {t:List Nd}(R:zBU t):∀(f i:Nat) (s s':Nr),vD t f i s=.ok s'→YY i s s'
 | 0,i,s,s',h=>by injection h with h; rw[←h]; exact YY.refl _ _
 | f+1,i,s,s',h=>by
  unfold vD at h;obtain⟨m,h1,h2⟩:=XD h;have hk:=zGt (i:=i) _ m s' (fun k hm a b AA=>(YF R f k a b AA).low (zV (R.up i k hm).1)) h2;refine YY.trans ?_ hk
  split at h1
  ·split at h1
   ·cases h1
   ·injection h1 with h1; rw[←h1]; exact YY.set _ _ _
  ·split at h1
   ·obtain⟨k,_,rfl⟩:=zL2 h1; exact YY.set _ _ _
   ·injection h1 with h1; rw[←h1]; exact YY.refl _ _
structure YW (s s':Nr):Prop where
 xH:s'.xH=s.xH
 procs:s'.procs=s.procs
 len:s'.of.length=s.of.length
 blocks:∃n b rest,s.blocks=b::rest∧s'.blocks=(n++b)::rest
theorem YY.toS {i:Nat}{s s':Nr}(h:YY i s s')(hb:s.blocks≠[]):YW s s':=⟨h.xH,h.procs,h.len,by
 cases hs:s.blocks with
 | nil=>exact absurd hs hb
 | cons b rest=>exact⟨[],b,rest,rfl,by rw[h.blocks,hs]; rfl⟩⟩
theorem YW.ne {s s':Nr}(h:YW s s'):s'.blocks≠[]:=by obtain⟨n,b,AA,_,h2⟩:=h.blocks; rw[h2]; simp
theorem YW.trans {a b c:Nr}(h:YW a b)(k:YW b c):YW a c:=by
 obtain⟨n,x,AA,h1,h2⟩:=h.blocks;obtain⟨m,y,AB,k1,k2⟩:=k.blocks;rw[h2] at k1;injection k1 with e1 e2;subst e1 e2;exact⟨k.xH.trans h.xH,k.procs.trans h.procs,k.len.trans h.len,m++n,x,AA,h1,by rw[k2,List.append_assoc]⟩
theorem YW.refl {s:Nr}(hb:s.blocks≠[]):YW s s:=(YY.refl 0 s).toS hb
theorem zA8 {t:List Nd}{i:Nat}{b:Bool}{s s':Nr}(hb:s.blocks≠[])(h:jF t i b s=.ok s'):YW s s':=by
 unfold jF at h
 split at h
 ·injection h with h;rw[←h];refine⟨rfl,rfl,by show(s.of.set i _).length=_; rw[zB],?_⟩
  cases hs:s.blocks with
  | nil=>exact absurd hs hb
  | cons x rest=>exact⟨[⟨(yZ t i).text,s.vars.length,b⟩],x,rest,rfl,by simp[hs]⟩
 ·cases h
theorem zLr {t:List Nd}{i:Nat}{s s':Nr}(hb:s.blocks≠[])(h:YQ t i s=.ok s'):YW s s':=by
 unfold YQ at h
 split at h
 ·exact zA8 hb h
 ·split at h
  ·cases h
  ·injection h with h; rw[←h]; exact(YY.set s i _).toS hb
theorem zA7 {one:Nat→Nn}:∀(l:List Nat) (s s':Nr),s.blocks≠[]→(∀k ∈ l,∀a b,a.blocks≠[]→one k a=.ok b→YW a b)→vJ one l s=.ok s'→YW s s'
 | [],s,s',hb,_,h=>by injection h with h; rw[←h]; exact YW.refl hb
 | k::l,s,s',hb,hk,h=>by
  obtain⟨m,h1,h2⟩:=XD h;have a:=hk k (List.mem_cons_self ..) s m hb h1;exact a.trans (zA7 l m s' a.ne (fun x hx=>hk x (List.mem_cons_of_mem _ hx)) h2)
theorem zGW {does:Nn}{s s':Nr}(hd:∀a b,a.blocks≠[]→does a=.ok b→YW a b)(h:ZH does s=.ok s'):s'.xH=s.xH∧s'.procs=s.procs∧s'.of.length=s.of.length∧s'.blocks=s.blocks:=by
 unfold ZH at h;obtain⟨m,h1,h2⟩:=XD h;have hk:=hd _ m (by simp) h1;injection h2 with h2;obtain⟨n,b,AA,e1,e2⟩:=hk.blocks;injection e1 with e1 e3;subst e1 e3;rw[←h2];exact⟨hk.xH,hk.procs,hk.len,by show m.blocks.tail=_; rw[e2]; rfl⟩
theorem zF8 {does:Nn}{s s':Nr}(hb:s.blocks≠[])(hd:∀a b,a.blocks≠[]→does a=.ok b→YW a b)(h:ZH does s=.ok s'):YW s s':=by
 obtain⟨h1,h2,h3,h4⟩:=zGW hd h;refine⟨h1,h2,h3,?_⟩
 cases hs:s.blocks with
 | nil=>exact absurd hs hb
 | cons b rest=>exact⟨[],b,rest,rfl,by rw[h4,hs]; rfl⟩
theorem zAB {t:List Nd}{st:Nat→Nn}(hst:∀k a b,a.blocks≠[]→st k a=.ok b→YW a b){i:Nat}{top:Bool}{s s':Nr}(hb:s.blocks≠[])(h:ZJ t st i top s=.ok s'):YW s s':=by
 unfold ZJ at h;refine zF8 hb (fun a b ha AB=>zA7 _ a b ha (fun k _ x y hx AA=>?_) AB) h
 split at AA
 ·exact hst k x y hx AA
 ·cases AA
theorem zBa {t:List Nd}(R:zBU t):∀(f i:Nat) (s s':Nr),s.blocks≠[]→vP t f i s=.ok s'→YW s s'
 | 0,i,s,s',hb,h=>by injection h with h; rw[←h]; exact YW.refl hb
 | f+1,i,s,s',hb,h=>by
  have ih:∀k a b,a.blocks≠[]→vP t f k a=.ok b→YW a b:=fun k a b=>zBa R f k a b;unfold vP at h;obtain⟨m,h1,h2⟩:=XD h
  have hm:YW s m:=by
   split at h1
   ·obtain⟨a,ha,h3⟩:=XD h1;obtain⟨b,AB,h4⟩:=XD h3;have k1:=(YF R _ _ _ _ ha).toS hb;have k2:=(zFU AB).toS k1.ne;exact(k1.trans k2).trans (zA7 _ b m k2.ne (fun k _ x y hx AA=>(YF R _ _ _ _ AA).toS hx) h4)
   ·split at h1
    ·obtain⟨a,ha,h3⟩:=XD h1;obtain⟨b,AB,h4⟩:=XD h3;obtain⟨k,_,rfl⟩:=zL2 ha;have k1:=(YY.set s (VQ t i 0) (k:Int)).toS hb
     have k2:YW (s.set (VQ t i 0) k) b:=by
      split at AB
      ·injection AB with AB; rw[←AB]; exact(YY.set _ _ _).toS k1.ne
      ·cases AB
     exact(k1.trans k2).trans (zA7 _ b m k2.ne (fun k _ x y hx AA=>(YF R _ _ _ _ AA).toS hx) h4)
    ·split at h1
     ·obtain⟨a,ha,h3⟩:=XD h1;obtain⟨k,_,rfl⟩:=zL2 ha;have k1:=(YY.set s (VQ t i 0) (k:Int)).toS hb;exact k1.trans ((zFU h3).toS k1.ne)
     ·split at h1
      ·split at h1
       ·cases h1
       ·refine zF8 hb (fun a b ha AC=>?_) h1;obtain⟨c,hc,h3⟩:=XD AC;have k1:=zA8 ha hc;exact k1.trans (zAB ih k1.ne h3)
      ·refine zA7 _ s m hb (fun k _ x y hx AA=>?_) h1
       split at AA
       ·obtain⟨j,_,rfl⟩:=zL2 AA; exact(YY.set _ _ _).toS hx
       ·split at AA
        ·exact zAB ih hx AA
        ·exact(YF R _ _ _ _ AA).toS hx
  refine hm.trans ?_;unfold ZN at h2
  split at h2
  ·exact zLr hm.ne h2
  ·injection h2 with h2; rw[←h2]; exact YW.refl hm.ne
def Dq (q r:Qn):Prop:=r.e=q.e∧r.at_=q.at_
theorem Dq.step {q r:Qn}{M:Qn→Qn}(h:Dq q r)(hq:q.e≠0)(hM:zGX M):Dq q (M r):=by
 have:=hM r (by rw[h.1]; exact hq)
 exact⟨this.1.trans h.1,this.2.trans h.2⟩
theorem Dq.refl (q:Qn):Dq q q:=⟨rfl,rfl⟩
theorem Sim.push {s:Nr}{q:Qn}(h:Sim s q):Sim { s with blocks:=[]::s.blocks } q:=⟨h.xH,h.procs,h.of,h.vars,by rw[h.there]; rfl,h.e⟩
theorem zFk {t:List Nd}{i a:Nat}{l:List Nat}(h:(yZ t i).kids=a::l):VQ t i 0=a:=by unfold VQ; rw[h]; rfl
theorem zMJ {t:List Nd}{i a b:Nat}{l:List Nat}(h:(yZ t i).kids=a::b::l):VQ t i 1=b:=by unfold VQ; rw[h]; rfl
theorem zUO {t:List Nd}{i a b c:Nat}{l:List Nat}(h:(yZ t i).kids=a::b::c::l):VQ t i 2=c:=by unfold VQ; rw[h]; rfl
structure zPL (s:Nr)(q:Qn):Prop where
 xH:q.xH=s.xH
 procs:q.procs=s.procs
 of:q.of=s.of
 e:q.e=0
 blocks:s.blocks=[]
def zPl (x:XH Nr)(q:Qn):Prop:=match x with
 | .ok s=>zPL s q
 | .err i e=>q.e=e∧q.at_=i∧e≠0
theorem zPl.bind {x:XH Nr}{q:Qn}{f:Nr→XH Nr}{N:Qn→Qn}(h:zPl x q)(hN:zGX N)(k:∀s,x=.ok s→zPL s q→zPl (f s) (N q)):zPl (x.bind f) (N q):=by
 cases x with
 | ok s=>exact k s rfl h
 | err i e=>
  obtain⟨h1,h2,h3⟩:=h;obtain⟨k1,k2⟩:=hN q (by rw[h1]; exact h3);exact⟨k1.trans h1,k2.trans h2,h3⟩
theorem zPL.proc {s:Nr}{q:Qn}(h:zPL s q)(t:Bs):q.proc t=zHm (zC6 s t):=by unfold Qn.proc zC6; rw[h.procs]
theorem zPL.tab {s:Nr}{q:Qn}(h:zPL s q)(t:Bs):q.tab t=zHm (zCw s t):=by unfold Qn.tab zCw; rw[h.xH]
theorem zDO {t:List Nd}:∀(l:List Nat) (s s':Nr),s.blocks≠[]→XE t l s=.ok s'→YW s s'
 | [],s,s',hb,h=>by injection h with h; rw[←h]; exact YW.refl hb
 | k::l,s,s',hb,h=>by
  unfold XE at h
  split at h
  ·cases h
  ·obtain⟨m,h1,h2⟩:=XD h;have k1:=zA8 hb h1;exact k1.trans (zDO l m s' k1.ne h2)
inductive Tm where
 | num (n:Int)
 | var (k:Int)
 | plus
 | minus
 | times
 | neg
 deriving DecidableEq
def zLp (t:List Nd)(of:List Int):Nat→Nat→List Tm
 | 0,_=>[]
 | f+1,i=>
  let out:=(yZ t i).kids.flatMap (zLp t of f)
  if (yZ t i).kind=21 then [.num (yZ t i).num]
  else if (yZ t i).kind=22 then [.var (of.getD i (-1))]
  else if (yZ t i).kind=23 then out++[.plus]
  else if (yZ t i).kind=24 then out++[.minus]
  else if (yZ t i).kind=25 then out++[.times]
  else if (yZ t i).kind=26 then out++[.neg]
  else []
def okI (x:Int):Prop:=-9223372036854775808≤x∧x≤9223372036854775807
def okT (t:Tok):Prop:=okI t.n∧t.text.length≤1500∧t.at_≤1500
def okN (n:Nd):Prop:=n.kind<256∧okI n.num∧n.text.length≤1500∧n.pos≤1500
structure KS (s:Ps):Prop where
 nd:∀n ∈ s.nd,okN n
 ts:∀t ∈ s.ts,okT t
def KP {α:Type}(Q:α→Prop)(r:Res α):Prop:=∀a s,r=.ok a s→KS s∧Q a
def QT {α:Type}(_:α):Prop:=True
theorem VE {α:Type}{Q:α→Prop}{a:α}{s:Ps}(h:KS s)(q:Q a):KP Q (.ok a s):=fun b t e=>by injection e with e1 e2; subst e1; subst e2; exact⟨h,q⟩
theorem zBM {α:Type}{Q:α→Prop}{e:Int}{p:Nat}:KP Q (.err e p:Res α):=fun b t h=>by cases h
theorem vB {α β:Type}{Q:α→Prop}{T:β→Prop}{r:Res α}{f:α→Ps→Res β}(h:KP Q r)(k:∀a s,KS s→Q a→KP T (f a s)):KP T (r.bind f):=fun b t e=>by
 cases r with
 | ok a s=>exact k a s (h a s rfl).1 (h a s rfl).2 b t e
 | err i p=>cases e
theorem XW {α:Type}{Q:α→Prop}{c:Prop} [Decidable c] {a b:Res α}(h:KP Q a)(k:KP Q b):KP Q (if c then a else b):=by
 split
 ·exact h
 ·exact k
theorem zKR {x:Int}(h:-1000≤x)(h2:x≤1000):okI x:=⟨by omega,by omega⟩
section
variable {s:Ps}
theorem KS.adv (h:KS s):KS s.adv:=⟨h.nd,fun t ht=>h.ts t (List.mem_of_mem_tail ht)⟩
theorem KS.deep (h:KS s)(d:Nat):KS { s with deep:=d }:=⟨h.nd,h.ts⟩
theorem ok0:okI 0:=zKR (by decide) (by decide)
theorem KS.hd (h:KS s):okT s.hd:=by
 unfold Ps.hd
 cases e:s.ts with
 | nil=>exact⟨ok0,zW _,zW _⟩
 | cons t l=>exact h.ts t (by rw[e]; simp)
theorem KS.add (h:KS s){n:Nd}(hn:okN n):KS (s.add n):=⟨fun m hm=>by
 rcases List.mem_append.1 hm with hm | hm
 ·exact h.nd m hm
 ·rw[yN] at hm; subst hm; exact hn,h.ts⟩
theorem KS.on (h:KS s)(i:Nat){f:Nd→Nd}(hf:∀n,okN n→okN (f n)):KS (s.on i f):=⟨fun m hm=>by
 obtain⟨j,hj⟩:=List.mem_iff_getElem?.1 hm;have hj:(s.nd.modify i f)[j]?=some m:=hj;rw[List.getElem?_modify] at hj
 try simp only[Option.map_eq_map] at hj
 obtain⟨y,hy,rfl⟩:=Option.map_eq_some_iff.1 hj
 have:=h.nd y (yB hy)
 by_cases AA:i=j
 ·rw[if_pos AA]; exact hf y this
 ·rw[if_neg AA]; exact this,h.ts⟩
theorem KS.kid (h:KS s)(i:Nat):KS (s.kid i):=h.on i fun n hn=>hn
theorem KS.node (h:KS s){k:Nat}(hk:k<256):KS (s.node k):=h.add ⟨hk,ok0,zW _,h.hd.2.2⟩
theorem KS.text (h:KS s)(i:Nat){t:Bs}(ht:t.length≤1500):KS (s.text i t):=h.on i fun n hn=>⟨hn.1,hn.2.1,ht,hn.2.2.2⟩
theorem KS.num (h:KS s)(i:Nat){x:Int}(hx:okI x):KS (s.num i x):=h.on i fun n hn=>⟨hn.1,hx,hn.2.2⟩
theorem KS.kind (h:KS s)(i:Nat){k:Nat}(hk:k<256):KS (s.kind i k):=h.on i fun n hn=>⟨hk,hn.2⟩
theorem KS.xI (h:KS s)(i:Nat){k:Nat}(hk:k<256):KS (s.xI i k):=(h.kid i).node hk
theorem YB (h:KS s)(t:Bs):KP QT (vX t s):=XW (VE h.adv trivial) zBM
theorem zTY (h:KS s)(k:Nat):KP okT (ofP k s):=XW (VE h.adv h.hd) zBM
theorem zAT (h:KS s)(i:Nat):KP QT (jS i s):=vB (zTY h 1) fun t s hs ht=>VE (hs.text _ ht.2.1) trivial
theorem zE7 (h:KS s)(i:Nat):KP QT (zAI i s):=zAT (h.xI i (by decide)) _
theorem zSb (h:KS s)(i:Nat):KP QT (zCW i s):=vB (zTY h 2) fun t s hs ht=>VE (hs.num _ ht.1) trivial
theorem zKe (h:KS s)(i:Nat):KP QT (zCt i s):=zSb (h.xI i (by decide)) _
theorem zEZ {α:Type}{Q:α→Prop}{body:Pm α}(hb:∀s,KS s→KP Q (body s))(h:KS s)(a z:Bs):KP Q (jE a z body s):=by
 unfold jE;refine XW (XW zBM (vB (hb _ (h.adv.deep _)) fun x t ht hx=>XW (VE (ht.deep _) hx) (vB (YB ht z) fun _ u hu _=>VE (hu.deep _) hx))) zBM
end
def QE:Ex→Prop
 | .leaf k p t n=>k<256∧okI n∧t.length≤1500∧p≤1500
 | .neg p a=>p≤1500∧QE a
 | .bin k p a b=>k<256∧p≤1500∧QE a∧QE b
theorem QE.pos:∀ {e:Ex},QE e→e.pos≤1500
 | .leaf _ _ _ _,h=>h.2.2.2
 | .neg _ _,h=>h.1
 | .bin _ _ _ _,h=>h.2.1
theorem zLI:∀(e:Ex) (i:Nat) (s:Ps),KS s→QE e→KS (zBT i e s)
 | .leaf k p t n,i,s,h,q=>(h.kid i).add q
 | .neg p a,i,s,h,q=>zLI a _ _ ((h.kid i).add ⟨show 26<256 by decide,ok0,zW _,q.1⟩) q.2
 | .bin k p a b,i,s,h,q=>zLI b _ _ (zLI a _ _ ((h.kid i).add ⟨q.1,ok0,zW _,q.2.1⟩) q.2.2.1) q.2.2.2
theorem zS9 {ms:List (Bs × Nat)}(hm:∀m ∈ ms,m.2<256){s:Ps}{k:Nat}(h:zD2 ms s=some k):k<256:=by
 unfold zD2 at h;obtain⟨m,h1,rfl⟩:=Option.map_eq_some_iff.1 h;exact hm m (List.mem_of_find?_eq_some h1)
theorem zKK {ms:List (Bs × Nat)}(hm:∀m ∈ ms,m.2<256){part:Pm Ex}(hp:∀s,KS s→KP QE (part s)):∀(f:Nat) (e:Ex) (s:Ps),KS s→QE e→KP QE (VX ms part f e s)
 | 0,e,s,h,q=>zBM
 | f+1,e,s,h,q=>by
  unfold VX
  split
  ·exact VE h q
  ·rename_i k hk;exact vB (hp _ h.adv) fun r t ht hr=>zKK hm hp f _ _ ht ⟨zS9 hm hk,q.pos,q,hr⟩
theorem zMx {ms:List (Bs × Nat)}(hm:∀m ∈ ms,m.2<256){part:Pm Ex}(hp:∀s,KS s→KP QE (part s)){s:Ps}(h:KS s):KP QE (XB ms part s):=vB (hp s h) fun e t ht q=>zKK hm hp _ _ _ ht q
theorem zMM {part:Pm Ex}(hp:∀s,KS s→KP QE (part s)){s:Ps}(h:KS s):KP QE (zEA part s):=zMx (by decide) (fun s h=>zMx (by decide) hp h) h
theorem zGF:∀(f:Nat) (s:Ps),KS s→KP QE (vM f s)
 | 0,s,h=>zBM
 | f+1,s,h=>by
  unfold vM;exact XW (VE h.adv ⟨by decide,ok0,h.hd.2⟩) (XW (VE h.adv ⟨by decide,h.hd.1,zW _,h.hd.2.2⟩) (XW (vB (zEZ (fun s h=>zGF f s h) h _ _) fun a t ht q=>VE ht ⟨h.hd.2.2,q⟩) (zEZ (fun s h=>zMM (fun s h=>zGF f s h) h) h _ _)))
section
variable {s:Ps}
theorem zDK (h:KS s)(i:Nat):KP QT (zAC i s):=vB (zMM (fun s h=>zGF _ s h) h) fun e t ht q=>VE (zLI _ _ _ ht q) trivial
theorem zPd {one:Pm Unit}(ho:∀s,KS s→KP QT (one s)):∀(f:Nat) (s:Ps),KS s→KP QT (zBE one f s)
 | 0,s,h=>zBM
 | f+1,s,h=>by unfold zBE; exact XW (vB (ho _ h.adv) fun _ t ht _=>zPd ho f t ht) (VE h trivial)
theorem zL5 {one:Pm Unit}(ho:∀s,KS s→KP QT (one s))(h:KS s):KP QT (zAg one s):=vB (ho _ h) fun _ t ht _=>zPd ho _ t ht
theorem zSO (h:KS s)(i:Nat):KP QT (zGg i s):=zEZ (fun s h=>zDK h i) h _ _
theorem zOP (h:KS s)(i:Nat):KP QT (zJt i s):=vB (zAT (h.xI i (by decide)) _) fun _ t ht _=>zSO ht _
theorem zPi (h:KS s)(i:Nat):KP QT (zIC i s):=vB (zOP h i) fun _ t ht _=>vB (YB ht _) fun _ u hu _=>zE7 hu i
end
end Go.Proofs.YtbadjmmjbpeocaaGreat
namespace Go.Proofs.YtbadjmmjbpeocaaGreat.EV
open Go Go.RowKit
def zUg (w:World)(B g:Nat)(xs:List Int):Prop:=
 ∃A c,Blk w g 67 #[.slice A xs.length c]∧(A=none→c=0)∧w.ownsRow B 2 1 (.slice A xs.length c) xs.length (xs.map (Value.int .i64))∧B≤g
theorem zUg.ext {w w':World}{B g:Nat}{xs:List Int}(h:zUg w B g xs)(hx:Ext w w'):zUg w' B g xs:=by
 obtain⟨A,c,hb,hA,ho,hg⟩:=h;exact⟨A,c,hb.ext hx,hA,zB1 ho hx,hg⟩
abbrev zTW:=Int × Int × Int
def zTW.ok (t:zTW):Prop:=(0≤t.1∧t.1<256)∧(-9223372036854775808≤t.2.1∧t.2.1≤9223372036854775807)∧(-9223372036854775808≤t.2.2∧t.2.2≤9223372036854775807)
end Go.Proofs.YtbadjmmjbpeocaaGreat.EV
namespace Go.Proofs.YtbadjmmjbpeocaaGreat
open Go Go.RowKit

end Go.Proofs.YtbadjmmjbpeocaaGreat
namespace Go.Proofs.YtbadjmmjbpeocaaGreat
theorem zLh {p:UInt8→Bool}(r:Bs):r.take (r.takeWhile p).length=r.takeWhile p:=by
 have h:=List.takeWhile_prefix p (l:=r);exact(List.prefix_iff_eq_take.1 h).symm
theorem zR7 {p:UInt8→Bool}:∀(r:Bs),r.takeWhile p=r→∀x ∈ r,p x=true
 | [],_,x,hx=>by cases hx
 | c::r,h,x,hx=>by
  rw[List.takeWhile_cons] at h
  split at h
  ·rename_i hc;injection h with _ h
   rcases List.mem_cons.1 hx with rfl | hx
   ·exact hc
   ·exact zR7 r h x hx
  ·cases h
def Tok.word (t:Tok):Nat × Bs × Int:=(t.kind,t.text,t.n)
def again:List Tok→List Bs→Bs
 | t::l,sp::m=>t.text++(sp++again l m)
 | _,_=>[]
end Go.Proofs.YtbadjmmjbpeocaaGreat
namespace Go.Proofs.YtbadjmmjbpeocaaGreat
open Go Go.RowKit
theorem Calls.zEQ {P:Program}{f:FuncId}{args:Array Value}{w:World}{a n:Nat}{v:Value}
  (h:Calls P f args (w.drewN (a+n)) fun e w'=>e=.returned v∧w'=w.drewN (a+n)):Calls P f args (w.drewN (a+n)) fun e AA=>e=.returned v∧∃m,AA=w.drewN (a+m):=
 h.mono fun _ _ ⟨he,hm⟩=>⟨he,n,hm⟩
def zDl (l:Bs):List Int:=l.map fun b=>(b.toNat:Int)
def vE (l:Bs):List Value:=l.map fun b=>.int .u8 (b.toNat:Int)
def xG (l:Bs):ByteArray:=⟨l.toArray⟩
theorem jU (l:Bs):(vE l).length=l.length:=by simp[vE]
theorem zGw (l:Bs):(zDl l).length=l.length:=by simp[zDl]
theorem VZ (l:Bs)(i:Nat)(h:i<l.length):(vE l)[i]?=some (.int .u8 (l[i].toNat:Int)):=by simp[vE,h]
theorem zHO (l:Bs)(i:Nat)(h:i<l.length):(zDl l).getD i 0=(l[i].toNat:Int):=by simp[zDl,h]
theorem zBt (l:Bs):Lib.bytesOf (zDl l)=l:=by
 unfold Lib.bytesOf zDl;rw[List.map_map]
 conv=>rhs; rw[←List.map_id l]
 apply List.map_congr_left;intro b _
 simp
theorem zD6 (l:Bs):strOfNums (zDl l)=xG l:=by
 have h:=zBt l;unfold Lib.bytesOf at h;unfold strOfNums xG;rw[h]
structure Mod (g:Nat)(w w':World):Prop where
 os:w'.os=w.os
 tape:w'.tape=w.tape
 output:w'.output=w.output
 size:w.heap.size≤w'.heap.size
 other:∀k,k<w.heap.size→k≠g→w'.heap[k]?=w.heap[k]?
section
variable {g:Nat} {w w' w'':World}
theorem Mod.refl (g:Nat)(w:World):Mod g w w:=⟨rfl,rfl,rfl,zX _,fun _ _ _=>rfl⟩
theorem Mod.trans (h:Mod g w w')(k:Mod g w' w''):Mod g w w'':=
 ⟨k.os.trans h.os,k.tape.trans h.tape,k.output.trans h.output,Nat.le_trans h.size k.size,fun i hi hg=>(k.other i (yU hi h.size) hg).trans (h.other i hi hg)⟩
theorem Mod.ZV (h:Ext w w')(g:Nat):Mod g w w':=⟨h.os,h.tape,h.output,h.size,fun k hk _=>h.block k hk⟩
theorem Mod.zFR (h:Touch g w w'):Mod g w w':=⟨h.os,h.tape,h.output,Nat.le_of_eq h.size.symm,fun k _ hg=>h.other k hg⟩
theorem Mod.drewN (h:Mod g w w')(n:Nat):Mod g w (w'.drewN n):=⟨h.os,h.tape,h.output,h.size,h.other⟩
theorem Mod.setCell (h:Mod g w w')(i:Nat)(u:Value):Mod g w (w'.setCell ⟨g,i,none⟩ u):=
 h.trans ⟨rfl,rfl,rfl,by simp[World.setCell],fun k _ hg=>zS _ _ _ _ hg⟩
theorem Mod.far (h:Mod g w w'){b:Nat}(hb:w.heap.size≤b)(i:Nat)(u:Value):Mod g w (w'.setCell ⟨b,i,none⟩ u):=
 ⟨h.os,h.tape,h.output,by simp[World.setCell]; exact h.size,fun k hk hg=>(zS _ _ _ _ (show k≠b by omega)).trans (h.other k hk hg)⟩
theorem Mod.alloc (h:Mod g w w')(o:Obj):Mod g w (w'.alloc o):=
 ⟨h.os,h.tape,h.output,by have:=h.size; simp; omega,fun k hk hg=>(Below.heap_alloc _ _ _ (by have:=h.size; omega)).trans (h.other k hk hg)⟩
theorem Mod.ext {w0:World}(h:Mod g w w')(hx:Ext w0 w)(hB:w0.heap.size≤g):Ext w0 w':=
 Below.trans hx ⟨h.os,h.tape,h.output,h.size,fun k hk=>h.other k (by have:=hx.size; omega) (by omega)⟩
theorem Mod.blk {k:Nat}{t:TypeId}{cs:Array Value}(h:Mod g w w')(hb:Blk w k t cs)(hk:k≠g):Blk w' k t cs:=(h.other k hb.lt hk).trans hb
theorem Mod.cells {A:Option Addr}{cs:List Value}(h:Mod g w w')(hc:Cells w A cs)(hk:∀b AA,A=some ⟨b,AA,none⟩→b≠g):Cells w' A cs:=by
 rcases hc with hc | ⟨b,AA,hA,hb,AB⟩
 ·exact .inl hc
 ·refine .inr ⟨b,AA,hA,yU hb h.size,fun k AC=>?_⟩;rw[World.cell?_of_block (w:=w) (h.other b hb (hk b AA hA))];exact AB k AC
theorem Mod.own {base:Nat}{e:TypeId}{size n:Nat}{v:Value}{xs:List Value}(h:Mod g w w')(ho:w.ownsRow base e size v n xs)(hk:v.ownBlock≠some g):w'.ownsRow base e size v n xs:=by
 refine⟨ho.1,?_⟩
 rcases ho.2 with hn | ⟨g',cap,AA,rfl,hb,hh,r⟩
 ·exact .inl hn
 ·exact .inr ⟨g',cap,AA,rfl,hb,(h.other g' (Array.getElem?_eq_some_iff.1 hh).1 (fun e=>hk (by rw[e]; rfl))).trans hh,r⟩
theorem Blk.drewN {t:TypeId}{cs:Array Value}(h:Blk w g t cs)(n:Nat):Blk (w.drewN n) g t cs:=h
end
theorem zHk (s:ByteArray)(c:Int)(w:World) :
  Calls Tryz.prog 133 #[.string s,.int .u8 c] w fun e w'=>e=.returned (.int .i64 (Lib.indexByte s.data.toList c.toNat.toUInt8))∧w'=w:=by
 go_enter Tryz.func133,Tryz.ntmps133
 go_wp2
 rw[run_callFunc_extern Tryz.func155 (by kernel_rfl) (by kernel_rfl) (by kernel_rfl) (e:=Extern.BytealgIndexByte.indexByte) (by kernel_rfl),Lib.run_indexByteString];simp only[Result.andThen];rw[Oper.upon_value]
 go_wp2
 go_ret;exact⟨rfl,rfl⟩
theorem zEI (s:ByteArray)(c:Int)(w:World) :
  Calls Tryz.prog 97 #[.string s,.int .u8 c] w fun e w'=>e=.returned (.int .i64 (Lib.indexByte s.data.toList c.toNat.toUInt8))∧w'=w:=by
 go_enter Tryz.func97,Tryz.ntmps97
 go_wp2_with (go_at_call 133; refine(zHk _ _ _).mono ?_; rintro e w' ⟨rfl,rfl⟩)
 go_ret;exact⟨rfl,rfl⟩
def zAn (s:ByteArray)(p:UInt8→Bool):Prop:=∀n:Nat,n<256→decide (0≤Lib.indexByte s.data.toList n.toUInt8)=p n.toUInt8
theorem zEt {s:ByteArray}{p:UInt8→Bool}(hs:zAn s p)(c:UInt8)(w:World) :
  Calls Tryz.prog 97 #[.string s,.int .u8 (c.toNat:Int)] w fun e w'=>e=.returned (.int .i64 (Lib.indexByte s.data.toList c))∧w'=w:=by
 have h:=zEI s (c.toNat:Int) w;rw[show((c.toNat:Int).toNat).toUInt8=c from by simp] at h;exact h
theorem zAn.at_ {s:ByteArray}{p:UInt8→Bool}(hs:zAn s p)(c:UInt8):decide (0≤Lib.indexByte s.data.toList c)=p c:=by
 have h:=hs c.toNat c.toNat_lt
 simpa using h
theorem zFE (b o n c:Nat)(l:Bs)(cv:Int)(w:World)(hx:l.length=n)
  (hc:∀i (h:i<l.length),w.cell? ⟨b,o+i,none⟩=some (.int .u8 (l[i].toNat:Int))) :
  Calls Tryz.prog 95 #[.slice (some ⟨b,o,none⟩) n c,.int .u8 cv] w fun e w'=>e=.returned (.int .i64 (Lib.indexByte l cv.toNat.toUInt8))∧w'=w:=by
 subst hx
 have AA:∀i,i<l.length→w.cell? ⟨b,o+i,none⟩=some (.int .u8 ((zDl l).getD i 0)):=fun i hi=>by rw[zHO l i hi]; exact hc i hi
 clear hc;have h:=Lib.run_indexByteSlice (P:=Tryz.prog) w b o l.length c (zDl l) (zGw l) AA cv;rw[zBt] at h;clear AA
 go_enter Tryz.func95,Tryz.ntmps95
 go_wp2
 rw[run_callFunc_extern Tryz.func132 (by kernel_rfl) (by kernel_rfl) (by kernel_rfl) (e:=Extern.BytealgIndexByte.indexByte) (by kernel_rfl),h];simp only[Result.andThen];rw[Oper.upon_value]
 go_wp2
 go_ret;exact⟨rfl,rfl⟩
structure Rd (w:World)(g:Nat)(A:Option Addr)(l:Bs)(c k:Nat):Prop where
 blk:Blk w g 146 #[.slice A l.length c,.int .i64 (k:Int)]
 src:Cells w A (vE l)
 far:0<l.length→∀b off,A=some ⟨b,off,none⟩→b≠g
 le:k≤l.length
 cap:l.length≤c
 zIv:A=none→c=0
 big:l.length≤140737488355328
theorem Rd.byte {w:World}{g:Nat}{A:Option Addr}{l:Bs}{c k:Nat}(h:Rd w g A l c k)(h0:0<l.length):∃b AA,A=some ⟨b,AA,none⟩∧b≠g∧b<w.heap.size∧∀i (hi:i<l.length),w.cell? ⟨b,AA+i,none⟩=some (.int .u8 (l[i].toNat:Int)):=by
 obtain⟨b,AA,rfl,hb,hc⟩:=h.src.at_ (by rw[jU]; exact h0);exact⟨b,AA,rfl,h.far h0 b AA rfl,hb,fun i hi=>by rw[hc i (by rw[jU]; exact hi),VZ l i hi]⟩
theorem Rd.drewN {w:World}{g:Nat}{A:Option Addr}{l:Bs}{c k:Nat}(h:Rd w g A l c k)(n:Nat):Rd (w.drewN n) g A l c k:=⟨h.blk,h.src,h.far,h.le,h.cap,h.zIv,h.big⟩
theorem Mod.zUo {g:Nat}{w w':World}{A:Option Addr}{l:Bs}(h:Mod g w w')(hc:Cells w A (vE l))(hk:0<l.length→∀b off,A=some ⟨b,off,none⟩→b≠g):Cells w' A (vE l):=by
 by_cases h0:0<l.length
 ·exact h.cells hc (hk h0)
 ·have:l=[]:=List.eq_nil_of_length_eq_zero (by omega)
  subst this;exact .inl rfl
theorem Rd.put {w:World}{g:Nat}{A:Option Addr}{l:Bs}{c k:Nat}(h:Rd w g A l c k)(k':Nat)(hk:k'≤l.length):Rd (w.setCell ⟨g,1,none⟩ (.int .i64 (k':Int))) g A l c k':=
 ⟨h.blk.put 1 _,((Mod.refl g w).setCell 1 _).zUo h.src h.far,h.far,hk,h.cap,h.zIv,h.big⟩
theorem zO9 {a b:Bs}(h:a=b):Ending.returned (.string (xG a))=.returned (.string (xG b)):=by rw[h]
theorem zTn {p:UInt8→Bool}{l:Bs}{k:Nat}(h:k<l.length):(l.drop k).takeWhile p=if p l[k] then l[k]::(l.drop (k+1)).takeWhile p else []:=by
 rw[List.drop_eq_getElem_cons h,List.takeWhile_cons]
def zDT (A:Option Addr)(c k:Nat):Option Addr:=if c=k then A else A.map (·.add k)
theorem zPf {P:Program}(W:World)(t e:TypeId)(ht:P.underlying t=some (.slice e))(hz:∀w,(Go.sizeOf e).run P w=.ok 1 w)(A:Option Addr)(len cap l h:Nat)(hlh:l≤h)(hh:h≤cap) :
  (Instr.slice t (.slice A len cap) (some (.int .i64 (l:Int))) (some (.int .i64 (h:Int))) none).run P W=.ok (.slice (zDT A cap l) (h-l) (cap-l)) W:=by
 have AA:P.underlying t=some (.slice (P.elem t)):=by simp[Program.elem,ht]
 have he:P.elem t=e:=by simp[Program.elem,ht]
 rw[run_slice_lh W t _ _ _ AA .i64 .i64 _ _ (by omega) (by omega) (by omega),he,hz];simp[Result.andThen,sliced,zDT]
theorem zB2 {P:Program}(W:World)(t e:TypeId)(ht:P.underlying t=some (.slice e))(hz:∀w,(Go.sizeOf e).run P w=.ok 1 w)(A:Option Addr)(len cap l:Nat)(hlh:l≤len) :
  (Instr.slice t (.slice A len cap) (some (.int .i64 (l:Int))) none none).run P W=.ok (.slice (zDT A cap l) (len-l) (cap-l)) W:=by
 have AA:P.underlying t=some (.slice (P.elem t)):=by simp[Program.elem,ht]
 have he:P.elem t=e:=by simp[Program.elem,ht]
 rw[run_slice_l W t _ _ _ AA .i64 _ (by omega) (by omega),he,hz];simp[Result.andThen,sliced,zDT]
theorem zDj {w:World}{A:Option Addr}{l:Bs}{c:Nat}(h:Cells w A (vE l))(hc:l.length≤c)(k m:Nat):Cells w (zDT A c k) (vE ((l.drop k).take m)):=by
 by_cases hk:k<l.length
 ·rcases h with h | ⟨b,AB,rfl,hb,AA⟩
  ·have:(vE l).length=0:=by rw[h]; rfl
   rw[jU] at this;omega
  ·refine .inr ⟨b,AB+k,?_,hb,fun i hi=>?_⟩
   ·unfold zDT;rw[if_neg (by omega)];simp only[Option.map_some,Addr.add]
    split
    ·rename_i h0; subst h0; rfl
    ·rfl
   ·rw[jU] at hi
    have AC:i<m∧k+i<l.length:=by rw[List.length_take,List.length_drop] at hi; omega
    rw[Nat.add_assoc,AA (k+i) (by rw[jU]; omega),VZ l _ AC.2,VZ _ i hi]
    simp
 ·refine .inl ?_;rw[List.drop_eq_nil_of_le (by omega)];simp[vE]
theorem zBr {P:Program}{w:World}{src e dst:TypeId}(hs:P.underlying src=some (.slice e))(he:P.underlying e=some (.int .u8))(hd:P.underlying dst=some .string){A:Option Addr}{l:Bs}{n c:Nat}(hn:n=l.length)(h:Cells w A (vE l)) :
  (convert src dst (.slice A n c)).run P w=.ok (.string (xG l)) w:=by
 subst hn;rw[←zD6]
 by_cases h0:0<l.length
 ·obtain⟨b,AB,rfl,hb,AA⟩:=h.at_ (by rw[jU]; exact h0);exact run_convert_bytes_arg w src e hs he b AB _ c (zDl l) (zGw l) (fun i hi=>by rw[AA i (by rw[jU]; exact hi),VZ l i hi,zHO l i hi]) dst hd
 ·have:l=[]:=List.eq_nil_of_length_eq_zero (by omega)
  subst this
  cases A with
  | none=>exact run_convert_bytes_nil w src e hs he _ _ dst hd
  | some a=>
   rw[run_convert_bytes_string w src dst e _ _ c hs he hd]
   have hl:(loadCells a 0).run P w=.ok #[] w:=by
    simp[loadCells,loadCellsFrom]
   simp[Conv.bytesToString,hl,Result.andThen,zDl,strOfNums]
   rfl
theorem zCF:∀w,(Go.sizeOf 5).run Tryz.prog w=.ok 1 w:=fun w=>by kernel_rfl
theorem zEY (g:Nat)(A:Option Addr)(l:Bs)(c k:Nat)(s:ByteArray)(p:UInt8→Bool)(hs:zAn s p)(w:World)(hr:Rd w g A l c k) :
  Calls Tryz.prog 94 #[.pointer (some ⟨g,0,none⟩),.string s] w fun e w'=>e=.returned (.string (xG ((l.drop k).takeWhile p)))∧Mod g w w'∧Rd w' g A l c (k+((l.drop k).takeWhile p).length):=by
 have AJ:=hr.big;have AK:=hr.le;have AI:=hr.cap;have HR:=yG hr;have HS:=yG hs;obtain⟨u,HU⟩:∃u,Hid ((l.drop k).takeWhile p=u):=⟨_,yG rfl⟩;have c0:=hr.blk.cell 0;have c1:=hr.blk.cell 1;clear hr hs
 go_enter Tryz.func94,Tryz.ntmps94
 go_wp2_with fail
 go_loopg [] (l.length-k) (fun gk wr=>∃k':Nat,k≤k'∧k'≤l.length∧gk=l.length-k'∧Hid (Mod g w wr∧Rd wr g A l c k'∧(l.drop k).takeWhile p=(l.drop k).take (k'-k)++(l.drop k').takeWhile p))
 case atStart=>exact⟨k,zX _,AK,rfl,yG ⟨Mod.refl _ _,HR.out,by simp⟩⟩
 case round=>
  obtain⟨k',AL,AN,rfl,HW⟩:=hrel;have b0:wr.cell? ⟨g,0,none⟩=some (.slice A l.length c):=HW.out.2.1.blk.cell 0;have b1:wr.cell? ⟨g,1,none⟩=some (.int .i64 (k':Int)):=HW.out.2.1.blk.cell 1;have f1:=HW.out.2.1.blk.frozen 1
  have AB:∀(u:Bs),(l.drop k').takeWhile p=[]→Hid ((l.drop k).takeWhile p=(l.drop k).take (k'-k)∧k+((l.drop k).takeWhile p).length=k'):=fun _ e=>by
   have h:=HW.out.2.2;rw[e,List.append_nil] at h;refine yG ⟨h,?_⟩;rw[h,List.length_take,List.length_drop];omega
  have AG:=yG AB;clear AB;have AO:∀W,(Instr.slice 22 (.slice A l.length c) (some (.int .i64 (k:Int))) (some (.int .i64 (k':Int))) none).run Tryz.prog W=.ok (.slice (zDT A c k) (k'-k) (c-k)) W:=fun W=>zPf W _ _ Tryz.underlying22 zCF A _ c k k' AL (by omega)
  have AP:∀n,(convert 22 9 (.slice (zDT A c k) (k'-k) (c-k))).run Tryz.prog (wr.drewN n)=.ok (.string (xG ((l.drop k).take (k'-k)))) (wr.drewN n):=fun n=>
   zBr Tryz.underlying22 Tryz.underlying5 Tryz.underlying9 (by simp; omega) (show Cells (wr.drewN n) _ _ from zDj HW.out.2.1.src (by omega) k _)
  by_cases AD:k'<l.length
  ·have d0:decide ((k':Int)<(l.length:Int))=true:=yS (by omega);obtain⟨b,AQ,hA,AR,AM,AH⟩:=HW.out.2.1.byte (by omega);have e0:=AH k' AD
   have q0:(k':Int)<(l.length:Int):=by omega
   have AE:=zTn (p:=p) AD;have hp:=HS.out.at_ l[k'];have AF:=yJ AD;generalize l[k']=x at *;have HX:=yG AF;have AC:=yG AE;clear AH AF AE
   cases hpx:p x with
   | true=>
    rw[hpx] at hp;rw[hpx] at AC;clear hpx;subst hA
    go_wp2_with fail
    go_quiet ((go_at_call 97; exact Calls.quiet_of_same (zEt HS.out x _)))
    go_wp2_with fail
    go_roundg (l.length-(k'+1))
    case measure=>omega
    case rel=>
     refine⟨k'+1,by omega,by omega,rfl,yG ⟨((HW.out.1.drewN _).setCell 1 _),(HW.out.2.1.drewN _).put (k'+1) (by omega),?_⟩⟩;have hh:=HW.out.2.2;rw[AC.out] at hh;simp only[if_true] at hh;rw[hh,show k'+1-k=(k'-k)+1 from by omega,List.take_add_one,List.getElem?_drop,show k+(k'-k)=k' from by omega,HX.out]
     simp
   | false=>
    rw[hpx] at hp;rw[hpx] at AC;have AA:=AG.out [] AC.out;clear hpx;subst hA
    go_wp2_with fail
    go_quiet ((go_at_call 97; exact Calls.quiet_of_same (zEt HS.out x _)))
    go_wp2_with fail
    go_quiet (fail)
    go_wp2_with fail
    go_ret;exact⟨zO9 AA.out.1.symm,(HW.out.1.drewN _).drewN _,by rw[AA.out.2]; exact(HW.out.2.1.drewN _).drewN _⟩
  ·have d0:decide ((k':Int)<(l.length:Int))=false:=yR (by omega);have AA:=AG.out [] (by rw[List.drop_eq_nil_of_le (by omega)]; rfl)
   go_wp2_with fail
   go_quiet (fail)
   go_wp2_with fail
   go_quiet (fail)
   go_wp2_with fail
   go_ret;exact⟨zO9 AA.out.1.symm,(HW.out.1.drewN _).drewN _,by rw[AA.out.2]; exact(HW.out.2.1.drewN _).drewN _⟩
theorem zG5:∀(s:Bs) (p:Nat),zAZ p s=zAZ (p+(s.takeWhile XK).length) (s.drop (s.takeWhile XK).length)
 | [],p=>rfl
 | c::r,p=>by
  rw[List.takeWhile_cons]
  split
  ·rename_i h
   have hs:step (c::r)=.skip 1:=by show zAY c r=_; unfold zAY; rw[if_pos h]
   rw[zKJ hs,zK]
   show zAZ (p+1) r=zAZ _ (r.drop _)
   rw[zG5 r (p+1),show p+1+(r.takeWhile XK).length=p+((r.takeWhile XK).length+1) from by omega]
  ·rfl
theorem zQL {s:Bs}(h:s.head?=some 35)(p:Nat):zAZ p s=zAZ (p+(s.takeWhile fun x=>x != 10).length) (s.drop (s.takeWhile fun x=>x != 10).length)∧0<(s.takeWhile fun x=>x != 10).length:=by
 cases s with
 | nil=>cases h
 | cons c r=>
  injection h with h;subst h;have hs:step (35::r)=.skip (1+(r.takeWhile fun x=>x != 10).length):=rfl;have ht:((35:UInt8)::r).takeWhile (fun x=>x != 10)=35::r.takeWhile fun x=>x != 10:=rfl;rw[ht,zK,zKJ hs,Nat.add_comm 1];exact⟨rfl,by omega⟩
theorem zLK (s:Bs)(c:UInt8):Lib.indexByte s c=if (s.takeWhile fun x=>x != c).length<s.length then ((s.takeWhile fun x=>x != c).length:Int) else -1:=by
 induction s with
 | nil=>rfl
 | cons b s ih=>
  unfold Lib.indexByte;rw[List.takeWhile_cons]
  by_cases hb:(b==c)=true
  ·have:(b != c)=false:=by rw[bne,hb]; rfl
   rw[if_pos hb,this]
   simp
  ·have AA:(b==c)=false:=by simpa using hb
   have:(b != c)=true:=by rw[bne,AA]; rfl
   rw[if_neg hb,this,ih];simp only[if_true,zK]
   split
   ·rename_i h;rw[if_neg (by simp),if_pos (by omega)];omega
   ·rename_i h;rw[if_pos (by rfl),if_neg (by omega)]
theorem zOK:zAn ⟨#[32,9,10,13]⟩ XK:=by unfold zAn; decide +kernel
theorem zMo (g:Nat)(A:Option Addr)(l:Bs)(c k:Nat)(w:World)(hr:Rd w g A l c k) :
  Calls Tryz.prog 67 #[.pointer (some ⟨g,0,none⟩)] w fun e w'=>e=.returned (.tuple #[])∧∃k',k≤k'∧Mod g w w'∧Rd w' g A l c k'∧zAZ k (l.drop k)=zAZ k' (l.drop k')∧∀x,(l.drop k').head?=some x→XK x=false∧(x==35)=false:=by
 have AU:=hr.big;have AV:=hr.le;have AS:=hr.cap;have HR:=yG hr;clear hr
 go_enter Tryz.func67,Tryz.ntmps67
 go_wp2_with fail
 go_loopg [] (l.length-k) (fun gk wr=>∃k':Nat,k≤k'∧k'≤l.length∧gk=l.length-k'∧Hid (Mod g w wr∧Rd wr g A l c k'∧zAZ k (l.drop k)=zAZ k' (l.drop k')))
 case atStart=>exact⟨k,zX _,AV,rfl,yG ⟨Mod.refl _ _,HR.out,rfl⟩⟩
 case round=>
  obtain⟨k1,Ai,Af,rfl,HW⟩:=hrel
  go_wp2_with fail
  refine(zEY g A l c k1 _ XK zOK wr HW.out.2.1).mono ?_;rintro e w1 ⟨rfl,AG,AF⟩;have AD:=HW.out.2.2.trans (zG5 (l.drop k1) k1);rw[List.drop_drop] at AD
  have AP:∀x,(l.drop (k1+((l.drop k1).takeWhile XK).length)).head?=some x→XK x=false:=by
   intro x hx;rw[←List.drop_drop] at hx;generalize l.drop k1=s at hx;clear AD AF AG
   induction s with
   | nil=>simp at hx
   | cons a s ih=>
    rw[List.takeWhile_cons] at hx
    split at hx
    ·exact ih (by simpa using hx)
    ·rename_i ha
     simp at hx
     subst hx
     simpa using ha
  have AX:k1≤k1+((l.drop k1).takeWhile XK).length:=by omega
  have HM:=yG (HW.out.1.trans AG);have AA:=yG AF;have AE:=yG AD;have AZ:=yG AP;clear AG AF AD AP HW;generalize k1+((l.drop k1).takeWhile XK).length=k2 at *;have AT:=AA.out.le;have b0:w1.cell? ⟨g,0,none⟩=some (.slice A l.length c):=AA.out.blk.cell 0;have b1:w1.cell? ⟨g,1,none⟩=some (.int .i64 (k2:Int)):=AA.out.blk.cell 1;have f1:=AA.out.blk.frozen 1
  by_cases AM:k2<l.length
  ·have d0:((k2:Int)==(l.length:Int))=false:=by rw[yI]; omega
   obtain⟨b,AB,hA,Ak,Ac,AL⟩:=AA.out.byte (by omega);have e0:=AL k2 AM
   have q0:(k2:Int)<(l.length:Int):=by omega
   have AR:=List.drop_eq_getElem_cons AM
   have AW:=yG AL
   generalize l[k2]=x at *;have AN:=yG AR;clear AL AR;subst hA
   by_cases hx:x=35
   ·subst hx;have Ab:w1.cell? ⟨b,AB+k2,none⟩=some (.int .u8 35):=e0;clear e0
    have Aj:∀W,(Instr.slice 22 (.slice (some ⟨b,AB,none⟩) l.length c) (some (.int .i64 (k2:Int))) none none).run Tryz.prog W=.ok (.slice (some ⟨b,AB+k2,none⟩) (l.length-k2) (c-k2)) W:=fun W=>by
     rw[zB2 W _ _ Tryz.underlying22 zCF _ _ c k2 AT];unfold zDT;rw[if_neg (by omega)];simp only[Option.map_some,Addr.add]
     split
     ·rename_i h0; subst h0; rfl
     ·rfl
    have AQ:∀W:World,(∀i (h:i<(l.drop k2).length),W.cell? ⟨b,AB+k2+i,none⟩=some (.int .u8 ((l.drop k2)[i].toNat:Int)))→Calls Tryz.prog 95 #[.slice (some ⟨b,AB+k2,none⟩) (l.length-k2) (c-k2),.int .u8 10] W fun e w'=>e=.returned (.int .i64 (Lib.indexByte (l.drop k2) 10))∧w'=W:=fun W hW=>
     zFE b (AB+k2) (l.length-k2) (c-k2) (l.drop k2) 10 W (by simp) hW
    have AO:Hid (∀i (h:i<(l.drop k2).length),w1.cell? ⟨b,AB+k2+i,none⟩=some (.int .u8 ((l.drop k2)[i].toNat:Int))):=yG fun i hi=>by
     rw[List.length_drop] at hi;rw[Nat.add_assoc,AW.out (k2+i) (by omega),List.getElem_drop]
    have AJ:=yG AQ;have AK:=yG (zLK (l.drop k2) 10);have AH:=yG (zQL (s:=l.drop k2) (by rw[AN.out]; rfl) k2)
    have Ad:((l.drop k2).takeWhile fun x=>x != 10).length≤l.length-k2:=by have:=zM7 (fun x:UInt8=>x != 10) (l.drop k2); rw[List.length_drop] at this; exact this
    have Ah:=AH.out.2;clear AQ;generalize ((l.drop k2).takeWhile fun x=>x != 10).length=j at *;obtain⟨z,hz⟩:∃z,Lib.indexByte (l.drop k2) 10=z:=⟨_,rfl⟩;rw[hz] at AK AJ;clear hz;have AI:∀(v:Int),v=(j:Int)→True:=fun _ _=>trivial
    by_cases hj:j<(l.drop k2).length
    ·have AC:Hid (z=(j:Int)):=yG (by rw[AK.out,if_pos hj])
     have Aa:0≤z:=by rw[AC.out]; omega
     have Ae:z≤140737488355328:=by rw[AC.out]; omega
     have d2:decide (z<0)=false:=yR (by omega);clear AI
     go_wp2_with fail
     go_quiet (fail)
     go_wp2_with fail
     go_quiet ((go_at_call 95; exact Calls.zEQ (AJ.out _ (by exact AO.out))))
     go_wp2_with fail
     go_roundg (l.length-(k2+j))
     case measure=>omega
     case rel=>
      refine⟨k2+j,by omega,by omega,rfl,yG ⟨(HM.out.drewN _).setCell 1 _,?_,?_⟩⟩
      ·rw[show((k2:Int)+z)=((k2+j:Nat):Int) from by rw[AC.out]; omega];exact(AA.out.drewN _).put (k2+j) (by omega)
      ·have h:=AE.out.trans AH.out.1;rw[List.drop_drop] at h;exact h
    ·have Ag:j=l.length-k2:=by rw[List.length_drop] at hj; omega
     have AC:Hid (z=-1):=yG (by rw[AK.out,if_neg hj])
     have Aa:z<0:=by rw[AC.out]; omega
     have d2:decide (z<0)=true:=yS (by omega)
     go_wp2_with fail
     go_quiet (fail)
     go_wp2_with fail
     go_quiet ((go_at_call 95; exact Calls.zEQ (AJ.out _ (by exact AO.out))))
     go_wp2_with fail
     go_quiet (fail)
     go_wp2_with fail
     go_roundg (l.length-(k2+j))
     case measure=>omega
     case rel=>
      refine⟨k2+j,by omega,by omega,rfl,yG ⟨(HM.out.drewN _).setCell 1 _,?_,?_⟩⟩
      ·rw[show((k2:Int)+((l.length:Int)-(k2:Int)))=((k2+j:Nat):Int) from by omega];exact(AA.out.drewN _).put (k2+j) (by omega)
      ·have h:=AE.out.trans AH.out.1;rw[List.drop_drop] at h;exact h
   ·have d1:((x.toNat:Int) != 35)=true:=by
     rw[zE];intro h;apply hx
     have:x.toNat=35:=by omega
     exact UInt8.toNat_inj.1 this
    have AY:=yG (show(x==35)=false by simpa using hx);clear hx
    go_wp2_with fail
    go_quiet (fail)
    go_wp2_with fail
    refine bodyPost_ret (v:=.tuple #[]) (by simp[results,Tryz.results67,go_sem]) rfl ?_;exact⟨rfl,k2,by omega,HM.out.drewN _,AA.out.drewN _,AE.out,fun y hy=>⟨AZ.out y hy,by rw[AN.out] at hy; injection hy with hy; subst hy; exact AY.out⟩⟩
  ·obtain rfl:k2=l.length:=by omega
   have d0:((l.length:Int)==(l.length:Int))=true:=by simp
   go_wp2_with fail
   go_quiet (fail)
   go_wp2_with fail
   refine bodyPost_ret (v:=.tuple #[]) (by simp[results,Tryz.results67,go_sem]) rfl ?_;exact⟨rfl,l.length,by omega,HM.out.drewN _,AA.out.drewN _,AE.out,fun y hy=>by simp at hy⟩
def zMY {α:Type}:Sem α→Prop
 | .pure _=>True
 | .getObj _ k=>∀o,zMY (k o)
 | .setObj _ _ k=>zMY k
 | .choose _ k=>∀n,zMY (k n)
 | .halt _=>True
 | _=>False
theorem zDx {α:Type}{P:Program}:∀(s:Sem α),zMY s→∀(w:World) (v:α) (w':World),s.run P w=.ok v w'→w'.tape=w.tape
 | .pure a,_,w,v,w',h=>by
  simp only[Sem.run] at h;injection h with _ h;rw[h]
 | .getObj r k,ht,w,v,w',h=>by
  simp only[Sem.run] at h
  split at h
  ·cases h
  ·have hh:=zDx (k _) (ht _) _ _ _ h;exact hh
  ·cases h
 | .setObj r o k,ht,w,v,w',h=>by
  simp only[Sem.run] at h
  split at h
  ·cases h
  ·have hh:=zDx k ht _ _ _ h;exact hh
  ·cases h
 | .choose q k,ht,w,v,w',h=>by
  simp only[Sem.run] at h
  split at h
  ·have hh:=zDx (k _) (ht _) _ _ _ h;exact hh
  ·have hh:=zDx (k _) (ht _) _ _ _ h;exact hh
 | .halt x,_,w,v,w',h=>by simp[Sem.run] at h
 | .load ..,ht,_,_,_,_=>ht.elim
 | .store ..,ht,_,_,_,_=>ht.elim
 | .new ..,ht,_,_,_,_=>ht.elim
 | .shape ..,ht,_,_,_,_=>ht.elim
 | .freeze ..,ht,_,_,_,_=>ht.elim
 | .frozen ..,ht,_,_,_,_=>ht.elim
 | .sys ..,ht,_,_,_,_=>ht.elim
 | .program ..,ht,_,_,_,_=>ht.elim
 | .mark ..,ht,_,_,_,_=>ht.elim
theorem zBc {α β:Type}:∀(s:Sem α) (f:α→Sem β),zMY s→(∀a,zMY (f a))→zMY (s >>= f)
 | .pure a,f,_,hf=>hf a
 | .getObj r k,f,hs,hf=>fun o=>zBc (k o) f (hs o) hf
 | .setObj r o k,f,hs,hf=>zBc k f hs hf
 | .choose q k,f,hs,hf=>fun n=>zBc (k n) f (hs n) hf
 | .halt x,f,_,_=>trivial
 | .load ..,_,hs,_=>hs.elim
 | .store ..,_,hs,_=>hs.elim
 | .new ..,_,hs,_=>hs.elim
 | .shape ..,_,hs,_=>hs.elim
 | .freeze ..,_,hs,_=>hs.elim
 | .frozen ..,_,hs,_=>hs.elim
 | .sys ..,_,hs,_=>hs.elim
 | .program ..,_,hs,_=>hs.elim
 | .mark ..,_,hs,_=>hs.elim
theorem zPC (r:Nat)(ty:TypeId):zMY (Instr.next (.pointer (some ⟨r,0,none⟩)) false ty):=by
 unfold Instr.next;refine zBc _ _ (fun _=>trivial) fun o=>?_
 split
 ·rename_i h; cases h
 ·exact trivial
 ·refine zBc _ _ (fun _=>trivial) fun o=>?_
  split
  ·split
   ·exact trivial
   ·refine zBc _ _ (fun _=>trivial) fun n=>?_
    split
    ·exact zBc _ _ trivial fun _=>trivial
    ·exact trivial
    ·exact trivial
  ·exact trivial
 ·exact trivial
theorem zP3 {P:Program}{r:Nat}{ty:TypeId}{w w':World}{v:Value}(h:(Instr.next (.pointer (some ⟨r,0,none⟩)) false ty).run P w=.ok v w'):w'.tape=w.tape:=zDx _ (zPC r ty) _ _ _ h
def JB (c:UInt8):Nat:=if JC c then 1 else if ZU c then 2 else if zH8 c then 3 else 0
def zBB:ByteArray:=⟨#[97,98,99,100,101,102,103,104,105,106,107,108,109,110,111,112,113,114,115,116,117,118,119,120,121,122]⟩
def zCD:ByteArray:=⟨#[48,49,50,51,52,53,54,55,56,57]⟩
def zEM:ByteArray:=⟨#[123,125,40,41,91,93,59,44,46,43,45,42,60,61]⟩
theorem zGZ:zAn zBB JC:=by unfold zAn; decide +kernel
theorem zFu:zAn zCD ZU:=by unfold zAn; decide +kernel
theorem zK6:zAn zEM zH8:=by unfold zAn; decide +kernel
def JM:Array MapEntry:=#[{ key:=.int .u8 1,val:=.string zBB,born:=0 },{ key:=.int .u8 2,val:=.string zCD,born:=1 },{ key:=.int .u8 3,val:=.string zEM,born:=2 }]
theorem zG6:∀n:Nat,n<256→(JC n.toUInt8=true→JB n.toUInt8=1)∧(ZU n.toUInt8=true→JB n.toUInt8=2)∧(zH8 n.toUInt8=true→JB n.toUInt8=3)∧(JC n.toUInt8=false→ZU n.toUInt8=false→zH8 n.toUInt8=false→JB n.toUInt8=0):=by decide +kernel
def zEq (c:UInt8)(x:MapEntry):Bool:=match x.val with | .string s=>decide (0≤Lib.indexByte s.data.toList c) | _=>false
theorem zOM (c:UInt8)(e:MapEntry)(he:e ∈ JM.toList):∃(k:Int) (s:ByteArray),e.key=.int .u8 k∧e.val=.string s∧(decide (0≤Lib.indexByte s.data.toList c)=true→(JB c:Int)=k):=by
 have h:=zG6 c.toNat c.toNat_lt;rw[show c.toNat.toUInt8=c from by simp] at h
 have AA:e = { key:=.int .u8 1,val:=.string zBB,born:=0 } ∨ e = { key:=.int .u8 2,val:=.string zCD,born:=1 } ∨ e = { key:=.int .u8 3,val:=.string zEM,born:=2 }:=by simpa [JM] using he
 rcases AA with rfl | rfl | rfl
 ·exact⟨1,zBB,rfl,rfl,fun hh=>by rw[zGZ.at_] at hh; rw[h.1 hh]; rfl⟩
 ·exact⟨2,zCD,rfl,rfl,fun hh=>by rw[zFu.at_] at hh; rw[h.2.1 hh]; rfl⟩
 ·exact⟨3,zEM,rfl,rfl,fun hh=>by rw[zK6.at_] at hh; rw[h.2.2.1 hh]; rfl⟩
theorem zTH (c:UInt8)(h:∀x ∈ JM.toList,zEq c x=false):(JB c:Int)=0:=by
 have hk:=zG6 c.toNat c.toNat_lt;rw[show c.toNat.toUInt8=c from by simp] at hk;have h1:=h { key:=.int .u8 1,val:=.string zBB,born:=0 } (by simp[JM]);have h2:=h { key:=.int .u8 2,val:=.string zCD,born:=1 } (by simp[JM]);have h3:=h { key:=.int .u8 3,val:=.string zEM,born:=2 } (by simp[JM]);simp only[zEq,zGZ.at_,zFu.at_,zK6.at_] at h1 h2 h3;rw[hk.2.2.2 h1 h2 h3]
 rfl
theorem zCm:MapKept.Stamped JM 3:=by
 refine⟨?_,?_,?_⟩
 ·intro x hx
  have AA:x = { key:=.int .u8 1,val:=.string zBB,born:=0 } ∨ x = { key:=.int .u8 2,val:=.string zCD,born:=1 } ∨ x = { key:=.int .u8 3,val:=.string zEM,born:=2 }:=by simpa [JM] using hx
  rcases AA with rfl | rfl | rfl <;> decide
 ·simp[JM]
 ·simp[JM]
theorem Ext.alike {w w1 w2:World}(h:Ext w w1)(ha:w2.Alike w1)(ht:w2.tape=w1.tape):Ext w w2:=by
 obtain⟨a,b,c⟩:=ha;exact⟨b.trans h.os,ht.trans h.tape,c.trans h.output,by rw[a]; exact h.size,fun k hk=>by rw[a]; exact h.block k hk⟩
theorem zF6 (c:UInt8)(w:World) :
  Calls Tryz.prog 96 #[.int .u8 (c.toNat:Int)] w fun e w'=>e=.returned (.int .u8 (JB c:Int))∧Ext w w':=by
 go_enter Tryz.func96,Tryz.ntmps96
 go_wp2_with (refine zCk rfl 178 rfl ?_)
 intro w1 Aj Ag AX;refine ZO rfl 178 (.tmp 6) (.const (.int .u8 1)) (.const (.string zBB)) rfl Tryz.underlying178 Tryz.underlying5 w.heap.size 0 #[] 1 (.string zBB) rfl rfl rfl Ag rfl ?_;intro w2 AQ Ai;refine ZO rfl 178 (.tmp 6) (.const (.int .u8 2)) (.const (.string zCD)) rfl Tryz.underlying178 Tryz.underlying5 w.heap.size 1 _ 2 (.string zCD) rfl rfl rfl Ai rfl ?_;intro w3 AP Ae;refine ZO rfl 178 (.tmp 6) (.const (.int .u8 3)) (.const (.string zEM)) rfl Tryz.underlying178 Tryz.underlying5 w.heap.size 2 _ 3 (.string zEM) rfl rfl rfl Ae rfl ?_;intro w4 AO Ak;have Ah:Ext w w4:=AO.ext (AP.ext (AQ.ext Aj (zX _)) (zX _)) (zX _);have AF:w4.heap[w.heap.size]?=some (.map JM 3):=Ak
 have Al:w4.heap.size=w.heap.size+1:=by rw[AO.size,AP.size,AQ.size,AX]
 have AT:=yG Ah;have Ar:=yG Al;clear Aj Ag AX AQ Ai AP Ae AO Ak Ah Al;have Ap:=run_range_map (P:=Tryz.prog) w4 178 5 9 w.heap.size JM 3 Tryz.underlying178 AF;have Ao:=yG AF;clear AF
 go_wp2_with fail
 go_loopw [] (fun wr=>∃(w5:World) (AA:Array Nat),w5.Alike w4∧Hid (w5.tape=w4.tape)∧wr=w5.alloc (.mapIter (some w.heap.size) 3 AA 3)∧Hid (∀x ∈ JM.toList,AA.contains x.born=true→zEq c x=false)) (fun wr=>(leftOf JM (wr.iterSeen w4.heap.size)).size)
 case atStart=>exact⟨w4,#[],⟨rfl,rfl,rfl⟩,yG rfl,rfl,yG fun x _ h=>by simp at h⟩
 case round=>
  obtain⟨w5,AA,AN,HT,rfl,AW⟩:=hrel
  have AR:w5.heap.size=w4.heap.size:=by rw[AN.1]
  have AL:w5.heap[w.heap.size]?=some (.map JM 3):=by rw[AN.1]; exact Ao.out
  have AS:=run_next_map (P:=Tryz.prog) w5 0 w.heap.size 3 3 AA JM 3 AL zCm.1 (zX _);rw[AR] at AS;have Ad:=yG AR;have AM:=yG AN;clear AN AR
  rcases AS with ⟨h0,AB⟩ | ⟨e,he,w6,AC,AB⟩
  ·have Am:∀ty,(Instr.next (.pointer (some ⟨w4.heap.size,0,none⟩)) false ty).run Tryz.prog (w5.alloc (.mapIter (some w.heap.size) 3 AA 3))=_:=fun _=>AB;have hk:=zTH c fun x hx=>AW.out x hx (all_seen JM AA h0 x hx);have HK:=yG hk;have HX:Hid (Ext w (w5.alloc (.mapIter (some w.heap.size) 3 AA 3))):=yG (((AT.out).alike AM.out HT.out).trans (Ext.alloc _ _));clear hk h0 AB AL
   go_wp2_with fail
   go_ret;exact⟨JG HK.out.symm,HX.out⟩
  ·obtain⟨kk,s,AH,AD,AI⟩:=zOM c e (mem_left he).1;have AJ:=zP3 AB;have AZ:w6.tape=w5.tape:=AJ;clear AJ;rw[AD,AH] at AB;have Am:∀ty,(Instr.next (.pointer (some ⟨w4.heap.size,0,none⟩)) false ty).run Tryz.prog (w5.alloc (.mapIter (some w.heap.size) 3 AA 3))=_:=fun _=>AB
   have AG:w6.heap.size=w4.heap.size:=by rw[AC.1]; exact Ad.out
   have AY:w6.heap[w.heap.size]?=some (.map JM 3):=by rw[AC.1]; exact AL
   have An:=run_entry_map (P:=Tryz.prog) w6 w.heap.size 3 AA JM 3 e AY (mem_left he).1 zCm.2.1;rw[AG,AD,AH] at An;have AK:Hid (w6.Alike w4):=yG ⟨AC.1.trans AM.out.1,AC.2.1.trans AM.out.2.1,AC.2.2.trans AM.out.2.2⟩;have AV:Hid (w6.tape=w4.tape):=yG (AZ.trans HT.out);have HX:Hid (Ext w (w6.alloc (.mapIter (some w.heap.size) 3 (AA.push e.born) 3))):=yG (((AT.out).alike AK.out AV.out).trans (Ext.alloc _ _));have Ab:=yG AI
   have Af:zEq c e=decide (0≤Lib.indexByte s.data.toList c):=by unfold zEq; rw[AD]
   have Aa:=yG Af;have HE:=yG he;have Ac:=yG AG
   have AE:∀W:World,Calls Tryz.prog 97 #[.string s,.int .u8 (c.toNat:Int)] W fun e w'=>e=.returned (.int .i64 (Lib.indexByte s.data.toList c))∧w'=W:=fun W=>by
    have h:=zEI s (c.toNat:Int) W;rw[show((c.toNat:Int).toNat).toUInt8=c from by simp] at h;exact h
   have AU:=yG AE;clear AI Af he AG AB AE AH AD AC AZ AL AY;obtain⟨t,ht⟩:∃t,decide (0≤Lib.indexByte s.data.toList c)=t:=⟨_,rfl⟩;rw[ht] at Ab Aa;generalize Lib.indexByte s.data.toList c=z at *
   cases t with
   | true=>
    have hz:0≤z:=of_decide_eq_true ht
    go_wp2_with ((go_at_call 97; refine(AU.out _).mono ?_; rintro e' w' ⟨rfl,rfl⟩))
    go_ret;exact⟨JG (Ab.out (by trivial)).symm,HX.out⟩
   | false=>
    have hz:¬0≤z:=of_decide_eq_false ht
    have Aq:z<0:=by omega
    go_wp2_with ((go_at_call 97; refine(AU.out _).mono ?_; rintro e' w' ⟨rfl,rfl⟩))
    go_roundw
    case rel=>
     refine⟨w6,AA.push e.born,AK.out,AV,rfl,yG fun x hx hc=>?_⟩;rw[contains_push] at hc
     rcases Bool.or_eq_true _ _ ▸ hc with h1 | h1
     ·exact AW.out x hx h1
     ·have:x=e:=born_inj zCm.2.1 hx (mem_left HE.out).1 (beq_iff_eq.1 h1)
      subst this;exact Aa.out
    case measure=>
     rw[←Ac.out,World.iterSeen_alloc,Ac.out,←Ad.out,World.iterSeen_alloc];exact left_shrinks JM AA e HE.out
theorem Ext.bytesWorld (w:World)(e:TypeId)(s:ByteArray):Ext w (Lib.bytesWorld w e s):=
 ⟨rfl,rfl,rfl,by rw[Lib.bytesWorld_size]; omega,fun k hk=>Lib.bytesWorld_at_old w e s k hk⟩
theorem zM4:∀(l:Bs) (n:Int) (m:Int),0≤n→(∀c ∈ l,ZU c=true)→zCA n l=some m→0≤m
 | [],n,m,h,_,e=>by injection e with e; omega
 | c::r,n,m,h,hd,e=>by
  unfold zCA at e
  split at e
  ·cases e
  ·have hc:=hd c (List.mem_cons_self ..);simp[ZU] at hc;exact zM4 r _ m (by omega) (fun x hx=>hd x (List.mem_cons_of_mem _ hx)) e
def zH1:Option Int→Value
 | some n=>.tuple #[.int .i64 n,.int .i64 0]
 | none=>.tuple #[.int .i64 0,.int .i64 31]
theorem zPq {r r':Option Int}{v:Value}(h:r=r')(hv:zH1 r'=v):Ending.returned v=.returned (zH1 r):=by rw[h,hv]
theorem VV (l:Bs):(xG l).toList=l:=by
 rw[←zD6,Lib.strOfNums_toList,zBt]
theorem zOd (l:Bs)(hd:∀c ∈ l,ZU c=true)(hl:l.length≤140737488355328)(w:World)(r:Option Int)(hr:Hid (zCA 0 l=r)) :
  Calls Tryz.prog 98 #[.string (xG l)] w fun e w'=>e=.returned (zH1 r)∧Ext w w':=by
 have AH:=Lib.run_convert_string_bytes (P:=Tryz.prog) w 9 22 5 (xG l) Tryz.underlying9 Tryz.underlying22 Tryz.underlying5
 have AE:(xG l).size=l.length:=by simp[xG,ByteArray.size]
 have AA:∀j (h:j<l.length),(Lib.bytesWorld w 5 (xG l)).cell? ⟨w.heap.size,j,none⟩=some (.int .u8 (l[j].toNat:Int)):=fun j h=>by
  rw[Lib.bytesWorld_cell w 5 (xG l) j (by rw[AE]; exact h)];simp[xG,h]
 have HX:=yG (Ext.bytesWorld w 5 (xG l));have HC:=yG AA;have HD:=yG hd;rw[AE] at AH;clear AA AE hd;generalize Lib.bytesWorld w 5 (xG l)=w1 at *;generalize grownCap w l.length 0 5=cp at *;generalize w.heap.size=gs at *
 go_enter Tryz.func98,Tryz.ntmps98
 go_wp2_with fail
 go_loop [2,9] (fun n i=>∃(k:Nat) (m:Int),k≤l.length∧i=.int .i64 k∧n=.int .i64 m∧0≤m∧m≤2147483647∧Hid (zCA m (l.drop k)=r)) (fun _ i=>l.length-(intOf i).toNat)
 case atStart=>exact⟨0,0,zW _,rfl,rfl,by omega,by omega,hr⟩
 case round=>
  obtain⟨k,m,hk,rfl,rfl,AK,AL,HN⟩:=hrel
  by_cases AC:k<l.length
  ·have e0:=HC.out k AC;have AG:=HD.out _ (yO AC);have AD:=HN.out;rw[List.drop_eq_getElem_cons AC] at AD;have AF:=yG AD;clear AD;generalize l[k]=c at *
   have hc:48≤c.toNat∧c.toNat≤57:=by simpa [ZU] using AG
   obtain⟨AJ,AI⟩:=hc;clear AG
   have q0:(k:Int)<(l.length:Int):=by omega
   by_cases AB:2147483647<m*10+((c.toNat:Int)-48)
   ·have HR:Hid (r=none):=yG (by rw[←AF.out]; unfold zCA; rw[if_pos AB])
    go_wp2_with fail
    go_ret2;exact⟨zPq HR.out rfl,HX.out⟩
   ·have HR:Hid (zCA (m*10+((c.toNat:Int)-48)) (l.drop (k+1))=r):=yG (by rw[←AF.out]; conv=>rhs; unfold zCA; rw[if_neg AB])
    go_wp2_with fail
    go_round
    case rel=>exact⟨k+1,m*10+((c.toNat:Int)-48),by omega,by go_num,by go_num,by omega,by omega,HR⟩
    case measure=>simp[intOf]; omega
  ·obtain rfl:k=l.length:=by omega
   have HR:Hid (r=some m):=yG (by rw[←HN.out,List.drop_eq_nil_of_le (zX _)]; rfl)
   go_wp2_with fail
   go_ret2;exact⟨zPq HR.out rfl,HX.out⟩
theorem zQl (v1 v2:Value)(a b:Bs)(w:World)
  (h1:(convert 22 9 v1).run Tryz.prog w=.ok (.string (xG a)) w) (h2:(convert 22 9 v2).run Tryz.prog w=.ok (.string (xG b)) w) :
  Calls Tryz.prog 134 #[v1,v2] w fun e w'=>e=.returned (.bool (a==b))∧w'=w:=by
 have HE:=yG (show((xG a).toList==(xG b).toList)=(a==b) by rw[VV,VV])
 go_enter Tryz.func134,Tryz.ntmps134
 go_wp2_with fail
 go_ret;exact⟨zCo HE.out,rfl⟩
theorem zIQ (A B:Option Addr)(a b:Bs)(n m c d:Nat)(w:World)(hn:n=a.length)(hm:m=b.length)(hc:n≤c)(hA:Cells w A (vE a))(hB:Cells w B (vE b)) :
  Calls Tryz.prog 99 #[.slice A n c,.slice B m d] w fun e w'=>e=.returned (.bool (decide (b.length≤a.length)&&(a.take b.length==b)))∧w'=w:=by
 subst hn hm;have h2:=zBr (P:=Tryz.prog) (n:=b.length) (c:=d) Tryz.underlying22 Tryz.underlying5 Tryz.underlying9 rfl hB;have HA:=yG hA;clear hA hB
 by_cases AA:b.length≤a.length
 ·have d0:decide (b.length≤a.length)=true:=yS AA
  have h1:=zBr (P:=Tryz.prog) (w:=w) (A:=A) (l:=a.take b.length) (n:=b.length) (c:=c) Tryz.underlying22 Tryz.underlying5 Tryz.underlying9 (by simp; omega) (by
   have h:=zDj HA.out hc 0 b.length;rw[List.drop_zero] at h;unfold zDT at h
   split at h
   ·exact h
   ·cases A with
    | none=>exact h
    | some x=>exact h)
  have H:=yG (zQl _ _ _ _ _ h1 h2);have HD:Hid ((a.take b.length==b)=(decide (b.length≤a.length)&&(a.take b.length==b))):=yG (by rw[d0,Bool.true_and]);clear h1 h2
  go_enter Tryz.func99,Tryz.ntmps99
  go_wp2_with fail
  refine H.out.mono ?_;rintro e w' ⟨rfl,rfl⟩
  go_wp2_with fail
  go_ret;exact⟨zCo HD.out,rfl⟩
 ·have d0:decide (b.length≤a.length)=false:=yR AA;have HD:Hid (false=(decide (b.length≤a.length)&&(a.take b.length==b))):=yG (by rw[d0,Bool.false_and])
  go_enter Tryz.func99,Tryz.ntmps99
  go_wp2_with fail
  go_ret;exact⟨zCo HD.out,rfl⟩
end Go.Proofs.YtbadjmmjbpeocaaGreat
