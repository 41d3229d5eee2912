/- What the plain reading of names keeps. (and what follows of it). The conditions stand at each lemma. -/
import Derived.Test.YtbadjmmjbpeocaaGreatDoorKaa
import Derived.Test.YtbadjmmjbpeocaaGreatDoorKaq
import Derived.Test.YtbadjmmjbpeocaaGreatDoorKag
set_option linter.unusedVariables false
set_option linter.unusedSimpArgs false
set_option maxRecDepth 100000
set_option maxHeartbeats 16000000
namespace Go.Proofs.YtbadjmmjbpeocaaGreatDoor
structure YU (i:Nat)(s s':Nr):Prop where
 xH:s'.xH=s.xH
 procs:s'.procs=s.procs
 vars:s'.vars=s.vars
 blocks:s'.blocks=s.blocks
 len:s'.of.length=s.of.length
 of:∀j,j<i→s'.of[j]?=s.of[j]?
theorem YU.refl (i:Nat)(s:Nr):YU i s s:=⟨rfl,rfl,rfl,rfl,rfl,fun _ _=>rfl⟩
theorem YU.trans {i:Nat}{a b c:Nr}(h:YU i a b)(k:YU i b c):YU i a c:=⟨k.xH.trans h.xH,k.procs.trans h.procs,k.vars.trans h.vars,k.blocks.trans h.blocks,k.len.trans h.len,fun j hj=>(k.of j hj).trans (h.of j hj)⟩
theorem YU.low {i j:Nat}{a b:Nr}(h:YU i a b)(hij:j≤i):YU j a b:=⟨h.xH,h.procs,h.vars,h.blocks,h.len,fun k hk=>h.of k (by omega)⟩
theorem YU.set (s:Nr)(i:Nat)(x:Int):YU i s (s.set i x):=⟨rfl,rfl,rfl,rfl,by show(s.of.set i x).length=_; rw[zB],fun j hj=>by show(s.of.set i x)[j]?=_; rw[List.getElem?_set_ne (by omega)]⟩
theorem zJr {t:List Nd}{i:Nat}{s s':Nr}(h:ofN t i s=.ok s'):∃k,zCg s (xC t i).text=some k∧s'=s.set i k:=by
 unfold ofN at h
 cases hk:zCg s (xC t i).text with
 | none=>rw[hk] at h; cases h
 | some k=>rw[hk] at h; injection h with h; exact⟨k,rfl,h.symm⟩
theorem zFL {t:List Nd}{i:Nat}{x:Int}{s s':Nr}(h:ZH t i x s=.ok s'):YU i s s':=by
 unfold ZH at h
 split at h
 ·cases h
 ·injection h with h; rw[←h]; exact YU.set _ _ _
theorem ZA {x:YQ Nr}{f:Nr→YQ Nr}{s':Nr}(h:x.bind f=.ok s'):∃m,x=.ok m∧f m=.ok s':=by
 cases x with
 | ok m=>exact⟨m,rfl,h⟩
 | err i e=>cases h
theorem zGx {one:Nat→Nn}{i:Nat}:∀(l:List Nat) (s s':Nr),(∀k ∈ l,∀a b,one k a=.ok b→YU i a b)→vD one l s=.ok s'→YU i s s'
 | [],s,s',_,h=>by injection h with h; rw[←h]; exact YU.refl _ _
 | k::l,s,s',hk,h=>by
  obtain⟨m,h1,h2⟩:=ZA h;exact(hk k (List.mem_cons_self ..) s m h1).trans (zGx l m s' (fun x hx=>hk x (List.mem_cons_of_mem _ hx)) h2)
theorem YE {t:List Nd}(R:VA t):∀(f i:Nat) (s s':Nr),xX t f i s=.ok s'→YU i s s'
 | 0,i,s,s',h=>by injection h with h; rw[←h]; exact YU.refl _ _
 | f+1,i,s,s',h=>by
  unfold xX at h;obtain⟨m,h1,h2⟩:=ZA h;have hk:=zGx (i:=i) _ m s' (fun k hm a b hab=>(YE R f k a b hab).low (zV (R.up i k hm).1)) h2;refine YU.trans ?_ hk
  split at h1
  ·split at h1
   ·cases h1
   ·injection h1 with h1; rw[←h1]; exact YU.set _ _ _
  ·split at h1
   ·obtain⟨k,_,rfl⟩:=zJr h1; exact YU.set _ _ _
   ·injection h1 with h1; rw[←h1]; exact YU.refl _ _
structure YP (s s':Nr):Prop where
 xH:s'.xH=s.xH
 procs:s'.procs=s.procs
 len:s'.of.length=s.of.length
 blocks:∃n b rest,s.blocks=b::rest∧s'.blocks=(n++b)::rest
theorem YU.toS {i:Nat}{s s':Nr}(h:YU i s s')(hb:s.blocks≠[]):YP s s':=⟨h.xH,h.procs,h.len,by
 cases hs:s.blocks with
 | nil=>exact absurd hs hb
 | cons b rest=>exact⟨[],b,rest,rfl,by rw[h.blocks,hs]; rfl⟩⟩
theorem YP.ne {s s':Nr}(h:YP s s'):s'.blocks≠[]:=by obtain⟨n,b,rest,_,h2⟩:=h.blocks; rw[h2]; simp
theorem YP.trans {a b c:Nr}(h:YP a b)(k:YP b c):YP a c:=by
 obtain⟨n,x,rest,h1,h2⟩:=h.blocks;obtain⟨m,y,rest',k1,k2⟩:=k.blocks;rw[h2] at k1;injection k1 with e1 e2;subst e1 e2;exact⟨k.xH.trans h.xH,k.procs.trans h.procs,k.len.trans h.len,m++n,x,rest,h1,by rw[k2,List.append_assoc]⟩
theorem YP.refl {s:Nr}(hb:s.blocks≠[]):YP s s:=(YU.refl 0 s).toS hb
theorem zAu {t:List Nd}{i:Nat}{b:Bool}{s s':Nr}(hb:s.blocks≠[])(h:vT t i b s=.ok s'):YP s s':=by
 unfold vT at h
 split at h
 ·injection h with h;rw[←h];refine⟨rfl,rfl,by show(s.of.set i _).length=_; rw[zB],?_⟩
  cases hs:s.blocks with
  | nil=>exact absurd hs hb
  | cons x rest=>exact⟨[⟨(xC t i).text,s.vars.length,b⟩],x,rest,rfl,by simp[hs]⟩
 ·cases h
theorem zLi {t:List Nd}{i:Nat}{s s':Nr}(hb:s.blocks≠[])(h:ZR t i s=.ok s'):YP s s':=by
 unfold ZR at h
 split at h
 ·exact zAu hb h
 ·split at h
  ·cases h
  ·injection h with h; rw[←h]; exact(YU.set s i _).toS hb
theorem zBb {one:Nat→Nn}:∀(l:List Nat) (s s':Nr),s.blocks≠[]→(∀k ∈ l,∀a b,a.blocks≠[]→one k a=.ok b→YP a b)→vD one l s=.ok s'→YP s s'
 | [],s,s',hb,_,h=>by injection h with h; rw[←h]; exact YP.refl hb
 | k::l,s,s',hb,hk,h=>by
  obtain⟨m,h1,h2⟩:=ZA h;have a:=hk k (List.mem_cons_self ..) s m hb h1;exact a.trans (zBb l m s' a.ne (fun x hx=>hk x (List.mem_cons_of_mem _ hx)) h2)
theorem zGY {does:Nn}{s s':Nr}(hd:∀a b,a.blocks≠[]→does a=.ok b→YP a b)(h:jQ does s=.ok s'):s'.xH=s.xH∧s'.procs=s.procs∧s'.of.length=s.of.length∧s'.blocks=s.blocks:=by
 unfold jQ at h;obtain⟨m,h1,h2⟩:=ZA h;have hk:=hd _ m (by simp) h1;injection h2 with h2;obtain⟨n,b,rest,e1,e2⟩:=hk.blocks;injection e1 with e1 e3;subst e1 e3;rw[←h2];exact⟨hk.xH,hk.procs,hk.len,by show m.blocks.tail=_; rw[e2]; rfl⟩
theorem zF4 {does:Nn}{s s':Nr}(hb:s.blocks≠[])(hd:∀a b,a.blocks≠[]→does a=.ok b→YP a b)(h:jQ does s=.ok s'):YP s s':=by
 obtain⟨h1,h2,h3,h4⟩:=zGY hd h;refine⟨h1,h2,h3,?_⟩
 cases hs:s.blocks with
 | nil=>exact absurd hs hb
 | cons b rest=>exact⟨[],b,rest,rfl,by rw[h4,hs]; rfl⟩
theorem zAA {t:List Nd}{st:Nat→Nn}(hst:∀k a b,a.blocks≠[]→st k a=.ok b→YP a b){i:Nat}{top:Bool}{s s':Nr}(hb:s.blocks≠[])(h:jN t st i top s=.ok s'):YP s s':=by
 unfold jN at h;refine zF4 hb (fun a b ha hab=>zBb _ a b ha (fun k _ x y hx hxy=>?_) hab) h
 split at hxy
 ·exact hst k x y hx hxy
 ·cases hxy
theorem zBe {t:List Nd}(R:VA t):∀(f i:Nat) (s s':Nr),s.blocks≠[]→vF t f i s=.ok s'→YP s s'
 | 0,i,s,s',hb,h=>by injection h with h; rw[←h]; exact YP.refl hb
 | f+1,i,s,s',hb,h=>by
  have ih:∀k a b,a.blocks≠[]→vF t f k a=.ok b→YP a b:=fun k a b=>zBe R f k a b;unfold vF at h;obtain⟨m,h1,h2⟩:=ZA h
  have hm:YP s m:=by
   split at h1
   ·obtain⟨a,ha,h3⟩:=ZA h1;obtain⟨b,hb',h4⟩:=ZA h3;have k1:=(YE R _ _ _ _ ha).toS hb;have k2:=(zFL hb').toS k1.ne;exact(k1.trans k2).trans (zBb _ b m k2.ne (fun k _ x y hx hxy=>(YE R _ _ _ _ hxy).toS hx) h4)
   ·split at h1
    ·obtain⟨a,ha,h3⟩:=ZA h1;obtain⟨b,hb',h4⟩:=ZA h3;obtain⟨k,_,rfl⟩:=zJr ha;have k1:=(YU.set s (YI t i 0) (k:Int)).toS hb
     have k2:YP (s.set (YI t i 0) k) b:=by
      split at hb'
      ·injection hb' with hb'; rw[←hb']; exact(YU.set _ _ _).toS k1.ne
      ·cases hb'
     exact(k1.trans k2).trans (zBb _ b m k2.ne (fun k _ x y hx hxy=>(YE R _ _ _ _ hxy).toS hx) h4)
    ·split at h1
     ·obtain⟨a,ha,h3⟩:=ZA h1;obtain⟨k,_,rfl⟩:=zJr ha;have k1:=(YU.set s (YI t i 0) (k:Int)).toS hb;exact k1.trans ((zFL h3).toS k1.ne)
     ·split at h1
      ·split at h1
       ·cases h1
       ·refine zF4 hb (fun a b ha hab=>?_) h1;obtain⟨c,hc,h3⟩:=ZA hab;have k1:=zAu ha hc;exact k1.trans (zAA ih k1.ne h3)
      ·refine zBb _ s m hb (fun k _ x y hx hxy=>?_) h1
       split at hxy
       ·obtain⟨j,_,rfl⟩:=zJr hxy; exact(YU.set _ _ _).toS hx
       ·split at hxy
        ·exact zAA ih hx hxy
        ·exact(YE R _ _ _ _ hxy).toS hx
  refine hm.trans ?_;unfold ZC at h2
  split at h2
  ·exact zLi hm.ne h2
  ·injection h2 with h2; rw[←h2]; exact YP.refl hm.ne
inductive Sub (t:List Nd):Nat→Nat→Prop
 | self (i:Nat):Sub t i i
 | kid {i k j:Nat}:k ∈ (xC t i).kids→Sub t k j→Sub t i j
theorem Sub.none {t:List Nd}{i j:Nat}(h:Sub t i j)(hk:(xC t i).kids=[]):j=i:=by
 cases h with
 | self=>rfl
 | kid h _=>rw[hk] at h; cases h
theorem Sub.trans {t:List Nd}{i j k:Nat}(h:Sub t i j)(g:Sub t j k):Sub t i k:=by
 induction h with
 | self=>exact g
 | kid hk _ ih=>exact .kid hk (ih g)
def zDq (k:Nat):Prop:=k=22∨k=7∨k=11∨k=15∨k=16
def zBR (t:List Nd)(s:Nr)(j:Nat)(x:Int):Prop:=
 (zDq (xC t j).kind→∃n:Nat,x=(n:Int)∧s.vars[n]?=some (xC t j).text) ∧
 ((xC t j).kind=20→∃n:Nat,x=(n:Int)∧(s.xH[n]?).map (·.name)=some (xC t j).text)
def zE0 (t:List Nd)(s:Nr)(j:Nat):Prop:=zBR t s j (s.of.getD j (-1))
structure BIn (s:Nr):Prop where
 few:s.vars.length≤64
 bl:∀b ∈ s.blocks,∀v ∈ b,s.vars[v.n]?=some v.name
structure zBL (t:List Nd)(F:Nat→Prop)(s s':Nr):Prop where
 len:s'.of.length=s.of.length
 xH:s'.xH=s.xH
 procs:s'.procs=s.procs
 vars:∃e,s'.vars=s.vars++e
 inn:BIn s'
 val:∀j,zE0 t s j→zE0 t s' j
 fr:∀j,¬F j→s'.of.getD j (-1)=s.of.getD j (-1)
theorem zBR.up {t:List Nd}{s s':Nr}{j:Nat}{x:Int}(h:zBR t s j x)(ht:s'.xH=s.xH)(hv:∃e,s'.vars=s.vars++e):zBR t s' j x:=by
 obtain⟨e,he⟩:=hv;refine⟨fun k=>?_,fun k=>?_⟩
 ·obtain⟨n,h1,h2⟩:=h.1 k;refine⟨n,h1,?_⟩;obtain⟨h3,_⟩:=List.getElem?_eq_some_iff.1 h2;rw[he,List.getElem?_append_left h3];exact h2
 ·rw[ht]; exact h.2 k
theorem zBL.refl {t:List Nd}{F:Nat→Prop}{s:Nr}(h:BIn s):zBL t F s s:=⟨rfl,rfl,rfl,⟨[],by simp⟩,h,fun _ h=>h,fun _ _=>rfl⟩
theorem zBL.trans {t:List Nd}{F:Nat→Prop}{a b c:Nr}(h:zBL t F a b)(k:zBL t F b c):zBL t F a c:=
 ⟨k.len.trans h.len,k.xH.trans h.xH,k.procs.trans h.procs,(by
  obtain⟨e,he⟩:=h.vars;obtain⟨d,hd⟩:=k.vars
  exact⟨e++d,by rw[hd,he,List.append_assoc]⟩),k.inn,fun j hj=>k.val j (h.val j hj),fun j hj=>(k.fr j hj).trans (h.fr j hj)⟩
theorem zBL.mono {t:List Nd}{F G:Nat→Prop}{a b:Nr}(h:zBL t F a b)(hg:∀j,F j→G j):zBL t G a b:=⟨h.len,h.xH,h.procs,h.vars,h.inn,h.val,fun j hj=>h.fr j fun k=>hj (hg j k)⟩
theorem zAo {l:List Int}{i:Nat}{x:Int}(h:i<l.length):(l.set i x).getD i (-1)=x:=by
 rw[yH,List.getElem?_set_self h]; rfl
theorem vGsn {l:List Int}{i j:Nat}{x:Int}(h:j≠i):(l.set i x).getD j (-1)=l.getD j (-1):=by
 rw[yH,yH,List.getElem?_set_ne (Ne.symm h)]
theorem zBL.set {t:List Nd}{s:Nr}(h:BIn s)(i:Nat)(hi:i<s.of.length)(x:Int)(hx:zBR t s i x):zBL t (fun j=>j=i) s (s.set i x)∧zE0 t (s.set i x) i:=by
 have e:(s.set i x).of.getD i (-1)=x:=zAo hi;refine⟨⟨by show(s.of.set i x).length=_; rw[zB],rfl,rfl,⟨[],by simp[Nr.set]⟩,⟨h.few,h.bl⟩,fun j hj=>?_,fun j hj=>vGsn hj⟩,?_⟩
 ·by_cases hji:j=i
  ·subst hji;unfold zE0;rw[e];exact hx
  ·unfold zE0;rw[show(s.set i x).of.getD j (-1)=s.of.getD j (-1) from vGsn hji];exact hj
 ·unfold zE0;rw[e];exact hx
theorem zFT {α β:Type}{f:α→Option β}:∀ {l:List α} {b:β},l.findSome? f=some b→∃a ∈ l,f a=some b
 | x::l,b,h=>by
  rw[List.findSome?_cons] at h
  cases hx:f x with
  | some c=>rw[hx] at h; injection h with h; subst h; exact⟨x,List.mem_cons_self ..,hx⟩
  | none=>rw[hx] at h; obtain⟨a,h1,h2⟩:=zFT h; exact⟨a,List.mem_cons_of_mem _ h1,h2⟩
theorem zIZ {s:Nr}(h:BIn s){n:Bs}{v:Vr}(hf:VJ s n=some v):s.vars[v.n]?=some n:=by
 obtain⟨b,hb,hv⟩:=zFT hf;have h1:=List.find?_some hv;have h2:=h.bl b hb v (List.mem_of_find?_eq_some hv);rw[h2]
 simp at h1
 rw[h1]
theorem zOh {s:Nr}{n:Bs}{k:Nat}(h:zCg s n=some k):(s.xH[k]?).map (·.name)=some n:=by
 unfold zCg at h;rw[List.findIdx?_eq_some_iff_getElem] at h;obtain⟨h1,h2,_⟩:=h;rw[yJ h1]
 simp at h2 ⊢
 exact h2
def XR (t:List Nd)(m:Nn)(F G:Nat→Prop):Prop:=∀s s',BIn s→s.blocks≠[]→s.of.length=t.length→m s=.ok s'→zBL t F s s'∧YP s s'∧∀j,G j→zE0 t s' j
theorem XR.mono {t:List Nd}{m:Nn}{F F' G G':Nat→Prop}(h:XR t m F G)(hf:∀j,F j→F' j)(hg:∀j,G' j→G j):XR t m F' G':=fun s s' a b c d=>let ⟨x,z,y⟩:=h s s' a b c d; ⟨x.mono hf,z,fun j hj=>y j (hg j hj)⟩
theorem zIw {t:List Nd}{F G:Nat→Prop}(hg:∀j s,G j→zE0 t s j):XR t YQ.ok F G:=fun s s' h hb _ e=>by injection e with e; subst e; exact⟨zBL.refl h,YP.refl hb,fun j hj=>hg j s hj⟩
theorem JG {t:List Nd}{m f:Nn}{F G G':Nat→Prop}(hm:XR t m F G)(hf:XR t f F G'):XR t (fun s=>(m s).bind f) F fun j=>G j∨G' j:=fun s s' h1 h2 h3 e=>by
 obtain⟨x,e1,e2⟩:=ZA e;obtain⟨a,ka,va⟩:=hm s x h1 h2 h3 e1;obtain⟨b,kb,vb⟩:=hf x s' a.inn ka.ne (a.len.trans h3) e2
 exact⟨a.trans b,ka.trans kb,fun j hj=>by
  rcases hj with hj | hj
  ·exact b.val j (va j hj)
  ·exact vb j hj⟩
theorem zEG {t:List Nd}{s:Nr}(i:Nat)(hi:i<t.length)(x:Int)(h1:BIn s)(h2:s.blocks≠[])(h3:s.of.length=t.length)(hx:zBR t s i x):zBL t (fun j=>j=i) s (s.set i x)∧YP s (s.set i x)∧∀j,j=i→zE0 t (s.set i x) j:=by
 obtain⟨a,b⟩:=zBL.set (t:=t) h1 i (by omega) x hx;exact⟨a,(YU.set s i x).toS h2,fun j hj=>by rw[hj]; exact b⟩
theorem zOZ {t:List Nd}{i:Nat}(hi:i<t.length)(hk:¬zDq (xC t i).kind):XR t (ofN t i) (fun j=>j=i) (fun j=>j=i):=fun s s' h1 h2 h3 e=>by
 obtain⟨k,hk',rfl⟩:=zJr e;exact zEG i hi _ h1 h2 h3 ⟨fun h=>absurd h hk,fun _=>⟨k,rfl,zOh hk'⟩⟩
theorem zMy {t:List Nd}{i:Nat}{x:Int}(hi:i<t.length)(hk:¬zDq (xC t i).kind)(h20:(xC t i).kind≠20):XR t (ZH t i x) (fun j=>j=i) (fun j=>j=i):=fun s s' h1 h2 h3 e=>by
 unfold ZH at e
 split at e
 ·cases e
 ·injection e with e;subst e;exact zEG i hi _ h1 h2 h3 ⟨fun h=>absurd h hk,fun h=>absurd h h20⟩
theorem zCr {t:List Nd}{one:Nat→Nn}{F:Nat→Prop}{G:Nat→Nat→Prop}:∀(l:List Nat),(∀k ∈ l,XR t (one k) F (G k))→XR t (vD one l) F fun j=>∃k ∈ l,G k j
 | [],_=>zIw fun j s h=>by obtain⟨k,hk,_⟩:=h; cases hk
 | k::l,h=>(JG (h k (List.mem_cons_self ..)) (zCr l fun x hx=>h x (List.mem_cons_of_mem _ hx))).mono (fun _ h=>h) fun j hj=>by
  obtain⟨x,hx,hg⟩:=hj
  rcases List.mem_cons.1 hx with rfl | hx
  ·exact .inl hg
  ·exact .inr ⟨x,hx,hg⟩
theorem zRJ {t:List Nd}{i:Nat}(hi:i<t.length)(h20:(xC t i).kind≠20):XR t (fun s=>match VJ s (xC t i).text with | none=>.err i 70 | some v=>.ok (s.set i v.n)) (fun j=>j=i) (fun j=>j=i):=fun s s' h1 h2 h3 e=>by
 simp only at e
 split at e
 ·cases e
 ·rename_i v hv;injection e with e;subst e;exact zEG i hi _ h1 h2 h3 ⟨fun _=>⟨v.n,rfl,zIZ h1 hv⟩,fun h=>absurd h h20⟩
theorem zDz {t:List Nd}{i:Nat}{b:Bool}(hi:i<t.length)(h20:(xC t i).kind≠20):XR t (vT t i b) (fun j=>j=i) (fun j=>j=i):=fun s s' h1 h2 h3 e=>by
 have hk:=zAu h2 e;unfold vT at e
 split at e
 ·rename_i hl;injection e with e;obtain⟨s0,hs0⟩:∃s0:Nr,s0 = { s with vars:=s.vars++[(xC t i).text],blocks:=(⟨(xC t i).text,s.vars.length,b⟩::s.blocks.headD [])::s.blocks.tail }:=⟨_,rfl⟩
  have hn:s0.vars[s.vars.length]?=some (xC t i).text:=by rw[hs0]; simp
  have hup:∀ {m:Nat} {x:Bs},s.vars[m]?=some x→s0.vars[m]?=some x:=fun {m x} h=>by
   obtain⟨h3,_⟩:=List.getElem?_eq_some_iff.1 h;rw[hs0]
   show(s.vars++_)[m]?=_
   rw[List.getElem?_append_left h3];exact h
  have hb0:BIn s0:=by
   refine⟨by rw[hs0]; simp; omega,fun c hc v hv=>?_⟩;rw[hs0] at hc
   rcases List.mem_cons.1 hc with rfl | hc
   ·rcases List.mem_cons.1 hv with rfl | hv
    ·exact hn
    ·cases hbl:s.blocks with
     | nil=>exact absurd hbl h2
     | cons y ys=>
      rw[hbl] at hv;exact hup (h1.bl y (by rw[hbl]; exact List.mem_cons_self ..) v hv)
   ·exact hup (h1.bl c (List.mem_of_mem_tail hc) v hv)
  have hst0:zBL t (fun j=>j=i) s s0:=⟨by rw[hs0],by rw[hs0],by rw[hs0],⟨_,by rw[hs0]⟩,hb0,fun j hj=>by
   have:=zBR.up (s':=s0) hj (by rw[hs0]) ⟨_,by rw[hs0]⟩
   unfold zE0;rw[show s0.of=s.of by rw[hs0]]
   exact this,fun j _=>by rw[hs0]⟩
  obtain⟨a,b⟩:=zBL.set (t:=t) hb0 i (by rw[show s0.of=s.of by rw[hs0]]; omega) (s.vars.length:Int) ⟨fun _=>⟨_,rfl,hn⟩,fun h=>absurd h h20⟩
  have es:s'=s0.set i s.vars.length:=by rw[←e,hs0]; rfl
  rw[←es] at a b;exact⟨hst0.trans a,hk,fun j hj=>by rw[hj]; exact b⟩
 ·cases e
theorem zNx {t:List Nd}{i:Nat}(hi:i<t.length)(h20:(xC t i).kind≠20):XR t (ZR t i) (fun j=>j=i) (fun j=>j=i):=fun s s' h1 h2 h3 e=>by
 unfold ZR at e
 split at e
 ·exact zDz hi h20 s s' h1 h2 h3 e
 ·rename_i v hv
  split at e
  ·cases e
  ·injection e with e;subst e;exact zEG i hi _ h1 h2 h3 ⟨fun _=>⟨v.n,rfl,zIZ h1 hv⟩,fun h=>absurd h h20⟩
theorem zG4 {t:List Nd}{m:Nn}{F G:Nat→Prop}(h:XR t m F G):XR t (jQ m) F G:=fun s s' h1 h2 h3 e=>by
 unfold jQ at e;obtain⟨x,e1,e2⟩:=ZA e;injection e2 with e2
 have hb1:BIn { s with blocks:=[]::s.blocks }:=⟨h1.few,fun c hc v hv=>by
  rcases List.mem_cons.1 hc with rfl | hc
  ·cases hv
  ·exact h1.bl c hc v hv⟩
 obtain⟨a,k,b⟩:=h _ x hb1 (by simp) h3 e1;obtain⟨n,c,rest,f1,f2⟩:=k.blocks;injection f1 with f1 f3;subst f1 f3
 have hbl:s'.blocks=s.blocks:=by rw[←e2,show({ x with blocks:=x.blocks.tail }:Nr).blocks=x.blocks.tail from rfl,f2]; rfl
 have hv:s'.vars=x.vars:=by rw[←e2]
 have ho:s'.of=x.of:=by rw[←e2]
 have htb:s'.xH=x.xH:=by rw[←e2]
 have hpr:s'.procs=x.procs:=by rw[←e2]
 have hval:∀j,zE0 t x j→zE0 t s' j:=fun j hj=>by
  unfold zE0;rw[ho];exact zBR.up hj htb ⟨[],by rw[hv]; simp⟩
 refine⟨⟨by rw[ho]; exact a.len,htb.trans a.xH,hpr.trans a.procs,by rw[hv]; exact a.vars,⟨by rw[hv]; exact a.inn.few,fun c hc v hv'=>?_⟩,fun j hj=>hval j (a.val j hj),fun j hj=>by rw[ho]; exact a.fr j hj⟩,⟨htb.trans k.xH,hpr.trans k.procs,by rw[ho]; exact k.len,?_⟩,fun j hj=>hval j (b j hj)⟩
 ·rw[hv];rw[hbl] at hc;exact a.inn.bl c (by rw[f2]; exact List.mem_cons_of_mem _ hc) v hv'
 ·cases hs:s.blocks with
  | nil=>exact absurd hs h2
  | cons c r=>exact⟨[],c,r,rfl,by rw[hbl,hs]; rfl⟩
theorem zBn {t:List Nd}{s:Nr}{j:Nat}(h1:¬zDq (xC t j).kind)(h2:(xC t j).kind≠20):zE0 t s j:=⟨fun h=>absurd h h1,fun h=>absurd h h2⟩
end Go.Proofs.YtbadjmmjbpeocaaGreatDoor
namespace Go.Proofs.YtbadjmmjbpeocaaGreatDoor
open Go Go.RowKit
abbrev Tx:=Nd × Int × Hd2
def zIO (x:Tx):List Value:=[.int .u8 (x.1.kind:Int),.int .i64 x.2.1,.string (xI x.1.text),.int .i64 x.1.num,.slice x.2.2.1 x.1.kids.length x.2.2.2]
def tcs (l:List Tx):List Value:=l.flatMap zIO
theorem zIB (l:List Tx):(tcs l).length=l.length*5:=by
 unfold tcs
 induction l with
 | nil=>rfl
 | cons t l ih=>rw[List.flatMap_cons,yP,ih,zK]; show 5+_=_; omega
theorem zRG (l:List Tx):∀(i:Nat) (hi:i<l.length) (j:Nat),j<5→(tcs l)[i*5+j]?=(zIO l[i])[j]?:=by
 induction l with
 | nil=>intro i hi; simp at hi
 | cons x l ih=>
  intro i hi j hj
  show(zIO x++tcs l)[i*5+j]?=_
  match i,hi with
  | 0,_=>rw[Nat.zero_mul,Nat.zero_add,List.getElem?_append_left (by show j<5; exact hj)]; rfl
  | i+1,hi=>
   have e:(i+1)*5+j=5+(i*5+j):=by omega
   rw[e,List.getElem?_append_right (by show 5≤_; omega),show 5+(i*5+j)-(zIO x).length=i*5+j from by show 5+(i*5+j)-5=_; omega];exact ih i (by simpa using hi) j hj
def tN (l:List Tx):List Nd:=l.map Prod.fst
theorem zAk (l:List Tx):(tN l).length=l.length:=by simp[tN]
theorem zCu {l:List Tx}{i:Nat}(h:i<l.length):xC (tN l) i=l[i].1:=by
 unfold xC tN;rw[yH,zN,yJ h]
 rfl
def YY (l:List Tx)(i:Nat):Int:=(l[i]?.map (·.2.1)).getD 0
def hdN (l:List Tx)(i:Nat):Hd2:=(l[i]?.map (·.2.2)).getD (none,0)
def vX (l:List Tx)(i:Nat):Array Value:=#[.int .u8 ((xC (tN l) i).kind:Int),.int .i64 (YY l i),.string (xI (xC (tN l) i).text),.int .i64 (xC (tN l) i).num,.slice (hdN l i).1 (xC (tN l) i).kids.length (hdN l i).2]
theorem zNq {l:List Tx}{i:Nat}(h:i<l.length):zIO l[i]=(vX l i).toList:=by
 unfold vX YY hdN;rw[zCu h,yJ h]
 rfl
theorem xD.grown {w w':World}{M:Nat→Prop}{o:Option Nat}(hg:w.grownBy w' o)(h:∀g,o=some g→M g):xD w M w' M:=
 ⟨hg.os,hg.tape,hg.output,hg.size,fun b hb hM=>hg.block b hb fun e=>hM (h b e.symm),fun b h=>.inl h⟩
theorem xD.less {w w':World}{M M' N:Nat→Prop}(h:xD w M w' M')(hN:∀b,N b→M' b∨w.heap.size≤b):xD w M w' N:=
 ⟨h.os,h.tape,h.output,h.size,h.jL,fun b hb=>by
  rcases hN b hb with h1 | h1
  ·exact h.zDv b h1
  ·exact .inr h1⟩
def zBs (o:Option Nat):Option Value:=o.map fun (n:Nat)=>Value.int .i64 (n:Int)
def vfV (b:List Vr)(n:Bs):Option Value:=(b.find? fun v=>v.name==n).map fun v=>.agg #[.int .i64 (v.n:Int),.bool v.loop]
def YK (l:List Nat):List Value:=l.map fun b=>Value.map (some b)
def strs (l:List Bs):List Value:=l.map fun b=>Value.string (xI b)
def ofc (l:List Int):List Value:=l.map (Value.int .i64)
def zM1 (x:Nt × Hd2):List Value:=[.string (xI x.1.name),.slice x.2.1 x.1.zA0.length x.2.2]
def JI (l:List Nt)(h:List Hd2):List Value:=(l.zip h).flatMap zM1
theorem zCp (l:List Nat):(YK l).length=l.length:=by simp[YK]
theorem zIS (l:List Bs):(strs l).length=l.length:=by simp[strs]
theorem zOl (l:List Int)(i:Nat)(h:i<l.length):(ofc l)[i]?=some (.int .i64 (l.getD i (-1))):=by
 unfold ofc;rw[zN,yJ h,yH,yJ h]
 rfl
theorem zFU (l:List Int)(i:Nat)(x:Int):(ofc l).set i (.int .i64 x)=ofc (l.set i x):=by unfold ofc; rw[List.map_set]
def zGS (w:World)(M:Nat→Prop)(b n:Nat)(f:Bs→Option Value):Prop:=MF Tryz.prog 9 w b n f∧¬M b
theorem zGS.xG {w w':World}{M M':Nat→Prop}{b n:Nat}{f:Bs→Option Value}(h:zGS w M b n f)(k:xD w M w' M'):zGS w' M' b n f:=
 ⟨h.1.jL (k.jL b h.1.lt h.2),fun h1=>by rcases k.zDv b h1 with h2 | h2 <;> first | exact h.2 h2 | (have:=h.1.lt; omega)⟩
structure zAT (w:World)(M:Nat→Prop)(A:Option Addr)(l:List Tx):Prop where
 row:XE w M A (tcs l)
 kids:∀x ∈ l,XE w M x.2.2.1 (ints x.1.kids)
 text:∀x ∈ l,x.1.text.length≤maxLen
 zUw:∀x ∈ l,x.1.kids.length≤x.2.2.2
theorem zAT.xG {w w':World}{M M':Nat→Prop}{A:Option Addr}{l:List Tx}(h:zAT w M A l)(k:xD w M w' M'):zAT w' M' A l:=⟨h.row.xG k,fun x hx=>(h.kids x hx).xG k,h.text,h.zUw⟩
theorem zAT.at_ {w:World}{M:Nat→Prop}{A:Option Addr}{l:List Tx}(h:zAT w M A l)(k:Nat)(hk:k<l.length) :
  ∃b off,A=some ⟨b,off,none⟩∧b<w.heap.size∧∀j,j<5→w.cell? ⟨b,off+k*5+j,none⟩=(vX l k).toList[j]?:=by
 obtain⟨b,off,hA,hb,hcc⟩:=h.row.cells.at_ (by rw[zIB]; omega);refine⟨b,off,hA,hb,fun j hj=>?_⟩;rw[Nat.add_assoc,hcc _ (by rw[zIB]; omega),zRG l k hk j hj,zNq hk]
theorem zAT.kid {w:World}{M:Nat→Prop}{A:Option Addr}{l:List Tx}(h:zAT w M A l)(i:Nat)(hi:i<l.length):XE w M (hdN l i).1 (ints (xC (tN l) i).kids):=by
 have:=h.kids l[i] (yO hi)
 rw[zCu hi];unfold hdN;rw[yJ hi];exact this
theorem zAT.txt {w:World}{M:Nat→Prop}{A:Option Addr}{l:List Tx}(h:zAT w M A l)(i:Nat):(xC (tN l) i).text.length≤maxLen:=by
 by_cases hi:i<l.length
 ·rw[zCu hi]; exact h.text _ (yO hi)
 ·unfold xC;rw[yH,zM (by rw[zAk]; omega)];exact zW _
structure StN where
 a:Nat
 p:Nat
 bo:Nat
 co:Nat
 A:Option Addr
 ct:Nat
 l:List Tx
 At:Option Addr
 cT:Nat
 th:List Hd2
 Ac:Option Addr
 cc:Nat
 cm:List Nat
 mt:Nat
 bp:Nat
 cP:Nat
 nP:Nat
 B:Nat
structure DyN where
 j:Nat
 pc:Array Value
 Av:Option Addr
 cv:Nat
 Ab:Option Addr
 cb:Nat
 bm:List Nat
def xM (S:StN)(R:DyN)(b:Nat):Prop:=b=S.a∨b=S.bo∨b=S.bp∨R.Av=some ⟨b,0,none⟩∨R.Ab=some ⟨b,0,none⟩∨b ∈ R.bm
structure zKG (w:World)(M:Nat→Prop)(S:StN)(xH:List Nt):Prop where
 prog:Safe w M S.p 35 #[.slice S.A S.l.length S.ct,.slice S.At xH.length S.cT,.slice (some ⟨S.bp,0,none⟩) S.nP S.cP,.slice (some ⟨S.bo,0,none⟩) S.l.length S.co]
 tree:zAT w M S.A S.l
 zA2:XE w M S.At (JI xH S.th)
 thl:S.th.length=xH.length
 zA0:XE w M S.Ac (YK S.cm)
 cml:S.cm.length=xH.length
 zD8:∀(k b:Nat) (x:Nt),xH[k]?=some x→S.cm[k]?=some b→zGS w M b 64 fun n=>zBs (x.zA0.findIdx? fun c=>c==n)
 mt:zGS w M S.mt 64 fun n=>zBs (xH.findIdx? fun x=>x.name==n)
theorem zKG.xG {w w':World}{M M':Nat→Prop}{S:StN}{xH:List Nt}(h:zKG w M S xH)(k:xD w M w' M'):zKG w' M' S xH:=
 ⟨h.prog.xG k,h.tree.xG k,h.zA2.xG k,h.thl,h.zA0.xG k,h.cml,fun i b x h1 h2=>(h.zD8 i b x h1 h2).xG k,h.mt.xG k⟩
structure NB (w:World)(S:StN)(s:Nr)(R:DyN):Prop where
 st:zKG w (xM S R) S s.xH
 rd:Blk w S.a 86 #[.pointer (some ⟨S.p,0,none⟩),.map (some S.mt),.slice S.Ac s.xH.length S.cc,.pointer (some ⟨S.bp,R.j*5,none⟩),.slice R.Ab s.blocks.length R.cb]
 of:Blk w S.bo 3 (ofc s.of).toArray
 len:s.of.length=S.l.length
 pr:Blk w S.bp 42 R.pc
 pv:R.pc[R.j*5+2]?=some (.slice R.Av s.vars.length R.cv)
 vars:w.ownsRow S.B 9 1 (.slice R.Av s.vars.length R.cv) s.vars.length (strs s.vars)
 blocks:w.ownsRow S.B 184 1 (.slice R.Ab s.blocks.length R.cb) s.blocks.length (YK R.bm.reverse)
 bml:R.bm.length=s.blocks.length
 maps:∀(k b:Nat) (x:List Vr),s.blocks[k]?=some x→R.bm[k]?=some b→MF Tryz.prog 9 w b s.vars.length (vfV x)
 own:∀b ∈ R.bm,S.B≤b
 nodup:R.bm.Nodup
 few:s.vars.length≤64
 low:S.B≤w.heap.size
 vz:s.vars.length=0→R.cv=0
theorem NB.ZU {w:World}{S:StN}{s:Nr}{R:DyN}(h:NB w S s R){b:Nat}(hb:xM S R b):b<w.heap.size:=by
 rcases hb with rfl | rfl | rfl | hb | hb | hb
 ·exact h.rd.lt
 ·exact h.of.lt
 ·exact h.pr.lt
 ·exact(jE h.vars hb).2
 ·exact(jE h.blocks hb).2
 ·obtain⟨k,hk,rfl⟩:=List.getElem_of_mem hb
  have hk':k<s.blocks.length:=by rw[←h.bml]; exact hk
  exact(h.maps k _ _ (yJ hk') (yJ hk)).lt
theorem NB.zGN {w:World}{S:StN}{s:Nr}{R:DyN}(h:NB w S s R){b:Nat}(hb:b ∈ R.bm):∃n f,MF Tryz.prog 9 w b n f:=by
 obtain⟨k,hk,rfl⟩:=List.getElem_of_mem hb
 have hk':k<s.blocks.length:=by rw[←h.bml]; exact hk
 exact⟨_,_,h.maps k _ _ (yJ hk') (yJ hk)⟩
theorem xD.zFD {w w':World}{G G':Nat→Prop}(h:xD w G w' G)(hg:∀b,G b→G' b):xD w G' w' G':=⟨h.os,h.tape,h.output,h.size,fun b hb hn=>h.jL b hb fun k=>hn (hg b k),fun b h=>.inl h⟩
structure Kept (w':World)(S:StN)(s:Nr)(R:DyN)(G:Nat→Prop):Prop where
 st:zKG w' (xM S R) S s.xH
 rd:¬G S.a→Blk w' S.a 86 #[.pointer (some ⟨S.p,0,none⟩),.map (some S.mt),.slice S.Ac s.xH.length S.cc,.pointer (some ⟨S.bp,R.j*5,none⟩),.slice R.Ab s.blocks.length R.cb]
 of:¬G S.bo→Blk w' S.bo 3 (ofc s.of).toArray
 pr:¬G S.bp→Blk w' S.bp 42 R.pc
 vars:(∀b,R.Av=some ⟨b,0,none⟩→¬G b)→w'.ownsRow S.B 9 1 (.slice R.Av s.vars.length R.cv) s.vars.length (strs s.vars)
 blocks:(∀b,R.Ab=some ⟨b,0,none⟩→¬G b)→w'.ownsRow S.B 184 1 (.slice R.Ab s.blocks.length R.cb) s.blocks.length (YK R.bm.reverse)
 maps:∀(k b:Nat) (x:List Vr),¬G b→s.blocks[k]?=some x→R.bm[k]?=some b→MF Tryz.prog 9 w' b s.vars.length (vfV x)
 low:S.B≤w'.heap.size
theorem ZK {w w':World}{B:Nat}{t:TypeId}{s n c m:Nat}{A:Option Addr}{xs:List Value}(h:w.ownsRow B t s (.slice A m c) n xs)(hk:∀b,A=some ⟨b,0,none⟩→w'.heap[b]?=w.heap[b]?):w'.ownsRow B t s (.slice A m c) n xs:=by
 refine⟨h.1,?_⟩
 rcases h.2 with hn | ⟨g,cap,cur,hv,hb,hh,r⟩
 ·exact .inl hn
 ·injection hv with e1 e2 e3;exact .inr ⟨g,cap,cur,by rw[e1,e2,e3],hb,(hk g e1).trans hh,r⟩
theorem NB.kept {w w':World}{S:StN}{s:Nr}{R:DyN}(h:NB w S s R){G:Nat→Prop}(hM:∀g,G g→g<w.heap.size→xM S R g)(hg:xD w G w' G):Kept w' S s R G∧xD w (xM S R) w' (xM S R):=by
 have hm:xD w (xM S R) w' (xM S R):=⟨hg.os,hg.tape,hg.output,hg.size,fun b hb hn=>hg.jL b hb fun k=>hn (hM b k hb),fun b h=>.inl h⟩;refine⟨⟨h.st.xG hm,fun hn=>(hg.jL _ h.rd.lt hn).trans h.rd,fun hn=>(hg.jL _ h.of.lt hn).trans h.of,fun hn=>(hg.jL _ h.pr.lt hn).trans h.pr,fun hn=>?_,fun hn=>?_,fun k b x hn h1 h2=>?_,Nat.le_trans h.low hg.size⟩,hm⟩
 ·exact ZK h.vars fun b e=>hg.jL b (jE h.vars e).2 (hn b e)
 ·exact ZK h.blocks fun b e=>hg.jL b (jE h.blocks e).2 (hn b e)
 ·have hm':=h.maps k b x h1 h2;exact hm'.jL (hg.jL b hm'.lt hn)
theorem zP3 (w:World)(g i:Nat)(u:Value):w.grownBy (w.setCell ⟨g,i,none⟩ u) (some g):=⟨rfl,rfl,rfl,by simp[World.setCell],fun k _ hk=>zS w ⟨g,i,none⟩ u k fun e=>hk (by rw[e])⟩
theorem JE (w:World)(g i:Nat)(u:Value):xD w (fun b=>b=g) (w.setCell ⟨g,i,none⟩ u) fun b=>b=g:=xD.grown (zP3 w g i u) fun b e=>by injection e with e; exact e.symm
theorem NB.ext {w w':World}{S:StN}{s:Nr}{R:DyN}(h:NB w S s R)(hx:Ext w w'):NB w' S s R:=by
 have k:=(h.kept (G:=fun _=>False) (fun g hg _=>hg.elim) (xD.ext hx)).1;exact⟨k.st,k.rd id,k.of id,h.len,k.pr id,h.pv,k.vars fun _ _=>id,k.blocks fun _ _=>id,h.bml,fun i b x h1 h2=>k.maps i b x id h1 h2,h.own,h.nodup,h.few,k.low,h.vz⟩
theorem NB.VT {w:World}{S:StN}{s:Nr}{R:DyN}(h:NB w S s R):∀b,R.Av=some ⟨b,0,none⟩→b≠S.bo∧b≠S.a∧b≠S.bp∧R.Ab≠some ⟨b,0,none⟩∧b ∉ R.bm:=fun b e=>by
 obtain⟨cur,hc⟩:=xY h.vars e;refine⟨Blk.differ hc h.of (by decide),Blk.differ hc h.rd (by decide),Blk.differ hc h.pr (by decide),fun e2=>?_,fun hm=>?_⟩
 ·obtain⟨cur2,hc2⟩:=xY h.blocks e2;exact Blk.differ hc hc2 (by decide) rfl
 ·obtain⟨n,f,hf⟩:=h.zGN hm;exact hf.ne hc rfl
theorem NB.VM {w:World}{S:StN}{s:Nr}{R:DyN}(h:NB w S s R):∀b,R.Ab=some ⟨b,0,none⟩→b≠S.bo∧b≠S.a∧b≠S.bp∧b ∉ R.bm:=fun b e=>by
 obtain⟨cur,hc⟩:=xY h.blocks e;refine⟨Blk.differ hc h.of (by decide),Blk.differ hc h.rd (by decide),Blk.differ hc h.pr (by decide),fun hm=>?_⟩;obtain⟨n,f,hf⟩:=h.zGN hm;exact hf.ne hc rfl
theorem NB.of_map {w:World}{S:StN}{s:Nr}{R:DyN}(h:NB w S s R):∀b ∈ R.bm,b≠S.bo∧b≠S.a∧b≠S.bp:=fun b hm=>by
 obtain⟨n,f,hf⟩:=h.zGN hm;exact⟨hf.ne h.of,hf.ne h.rd,hf.ne h.pr⟩
theorem NB.apart {w:World}{S:StN}{s:Nr}{R:DyN}(h:NB w S s R):S.bo≠S.a∧S.bo≠S.bp∧S.a≠S.bp:=⟨Blk.differ h.of h.rd (by decide),Blk.differ h.of h.pr (by decide),Blk.differ h.rd h.pr (by decide)⟩
theorem NB.setOf {w:World}{S:StN}{s:Nr}{R:DyN}(h:NB w S s R)(i:Nat)(x:Int) :
  NB (w.setCell ⟨S.bo,i,none⟩ (.int .i64 x)) S (s.set i x) R∧xD w (xM S R) (w.setCell ⟨S.bo,i,none⟩ (.int .i64 x)) (xM S R):=by
 obtain⟨k,hm⟩:=h.kept (G:=fun b=>b=S.bo) (fun g e _=>.inr (.inl e)) (JE w S.bo i (.int .i64 x));obtain⟨n1,n2,n3⟩:=h.apart;refine⟨⟨k.st,k.rd (Ne.symm n1),?_,by show(s.of.set i x).length=_; rw[zB]; exact h.len,k.pr (Ne.symm n2),h.pv,k.vars fun b e=>(h.VT b e).1,k.blocks fun b e=>(h.VM b e).1,h.bml,fun j b y h1 h2=>k.maps j b y (h.of_map b (yB h2)).1 h1 h2,h.own,h.nodup,h.few,k.low,h.vz⟩,hm⟩
 have:=h.of.put i (.int .i64 x)
 rw[yD,zFU] at this;exact this
theorem zR6 (v:Vr)(b:List Vr):(fun y=>if y=v.name then some (Value.agg #[.int .i64 (v.n:Int),.bool v.loop]) else vfV b y)=vfV (v::b):=by
 funext y
 unfold vfV;rw[List.find?_cons]
 by_cases e:y=v.name
 ·subst e; simp
 ·rw[if_neg e]
  have:(v.name==y)=false:=by rw[yI]; exact fun h=>e h.symm
  rw[this]
theorem NB.declare {w w1 w3:World}{S:StN}{s:Nr}{R:DyN}(h:NB w S s R)(hl:s.vars.length<64)(i:Nat)(name:Bs)(loop:Bool)(x:List Vr)(rest:List (List Vr))(b0:Nat)(bs:List Nat)(hb:s.blocks=x::rest)(hbm:R.bm=b0::bs)
  (hg1:w.grownBy w1 (Value.slice R.Av s.vars.length R.cv).ownBlock) (A':Option Addr) (c':Nat) (ho1:w1.ownsRow S.B 9 1 (.slice A' (s.vars.length+1) c') (s.vars.length+1) (strs s.vars++[.string (xI name)]))
  (hm3:MF Tryz.prog 9 w3 b0 (s.vars.length+1) fun y=>if y=name then some (.agg #[.int .i64 (s.vars.length:Int),.bool loop]) else vfV x y) (hg3:(w1.setCell ⟨S.bp,R.j*5+2,none⟩ (.slice A' (s.vars.length+1) c')).grownBy w3 (some b0)) (hn:∀b,A'=some ⟨b,0,none⟩→R.Av=some ⟨b,0,none⟩∨w.heap.size≤b) :
  NB (w3.setCell ⟨S.bo,i,none⟩ (.int .i64 (s.vars.length:Int))) S { s.set i s.vars.length with vars:=s.vars++[name],blocks:=(⟨name,s.vars.length,loop⟩::x)::rest } { R with pc:=R.pc.setIfInBounds (R.j*5+2) (.slice A' (s.vars.length+1) c'),Av:=A',cv:=c' } ∧
  xD w (xM S R) (w3.setCell ⟨S.bo,i,none⟩ (.int .i64 (s.vars.length:Int))) (xM S { R with pc:=R.pc.setIfInBounds (R.j*5+2) (.slice A' (s.vars.length+1) c'),Av:=A',cv:=c' }):=by
 have hb0:b0 ∈ R.bm:=by rw[hbm]; exact List.mem_cons_self ..
 obtain⟨G,hG⟩:∃G:Nat→Prop,G=fun b=>R.Av=some ⟨b,0,none⟩∨b=S.bp∨b=b0∨b=S.bo:=⟨_,rfl⟩
 have m1:xD w G w1 G:=xD.grown hg1 fun g e=>by rw[hG]; exact .inl (xP h.vars e)
 have m2:=(JE w1 S.bp (R.j*5+2) (.slice A' (s.vars.length+1) c')).zFD (G':=G) fun b e=>by rw[hG]; exact .inr (.inl e)
 have m3:xD _ G w3 G:=xD.grown hg3 fun g e=>by injection e with e; rw[hG]; exact .inr (.inr (.inl e.symm))
 have m4:=(JE w3 S.bo i (.int .i64 (s.vars.length:Int))).zFD (G':=G) fun b e=>by rw[hG]; exact .inr (.inr (.inr e))
 have hGM:∀g,G g→g<w.heap.size→xM S R g:=fun g hg _=>by
  rw[hG] at hg
  rcases hg with e | e | e | e
  ·exact .inr (.inr (.inr (.inl e)))
  ·exact .inr (.inr (.inl e))
  ·exact .inr (.inr (.inr (.inr (.inr (by rw[e]; exact hb0)))))
  ·exact .inr (.inl e)
 obtain⟨k,hm⟩:=h.kept hGM (((m1.trans m2).trans m3).trans m4);obtain⟨n1,n2,n3⟩:=h.apart;obtain⟨p1,p2,p3⟩:=h.of_map b0 hb0
 have hGa:¬G S.a:=by
  rw[hG];rintro (e | e | e | e)
  ·exact(h.VT _ e).2.1 rfl
  ·exact n3 e
  ·exact p2 e.symm
  ·exact n1 e.symm
 have hmv:xD w (xM S R) (w3.setCell ⟨S.bo,i,none⟩ (.int .i64 (s.vars.length:Int))) (xM S { R with pc:=R.pc.setIfInBounds (R.j*5+2) (.slice A' (s.vars.length+1) c'),Av:=A',cv:=c' }):=hm.less fun b hb=>by
  rcases hb with e | e | e | e | e | e
  ·exact .inl (.inl e)
  ·exact .inl (.inr (.inl e))
  ·exact .inl (.inr (.inr (.inl e)))
  ·rcases hn b e with e | e
   ·exact .inl (.inr (.inr (.inr (.inl e))))
   ·exact .inr e
  ·exact .inl (.inr (.inr (.inr (.inr (.inl e)))))
  ·exact .inl (.inr (.inr (.inr (.inr (.inr e)))))
 have hbp1:Blk w1 S.bp 42 R.pc:=h.pr.grown hg1 fun e=>(h.VT _ (xP h.vars e.symm)).2.2.1 rfl;have hbo1:Blk w1 S.bo 3 (ofc s.of).toArray:=h.of.grown hg1 fun e=>(h.VT _ (xP h.vars e.symm)).1 rfl
 have hA0:∀b,A'=some ⟨b,0,none⟩→b≠S.bp∧b≠b0∧b≠S.bo:=fun b e=>by
  obtain⟨cur,hc⟩:=xY ho1 e;refine⟨Blk.differ hc hbp1 (by decide),fun e2=>?_,Blk.differ hc hbo1 (by decide)⟩;subst e2
  rcases hn b e with e3 | e3
  ·exact(h.VT b e3).2.2.2.2 hb0
  ·obtain⟨n,f,hf⟩:=h.zGN hb0
   have:=hf.lt
   omega
 refine⟨⟨(h.st.xG hmv),(by have:=k.rd hGa; rw[hb] at this; exact this),?_,by show(s.of.set i _).length=_; rw[zB]; exact h.len,?_,?_,?_,?_,?_,?_,?_,?_,?_,k.low,fun h=>by simp at h⟩,hmv⟩
 ·have h3:Blk w3 S.bo 3 (ofc s.of).toArray:=(hbo1.far (p:=⟨S.bp,R.j*5+2,none⟩) n2 _).grown hg3 fun e=>by injection e with e; exact p1 e.symm
  have:=h3.put i (.int .i64 (s.vars.length:Int))
  rw[yD,zFU] at this;exact this
 ·exact((hbp1.put (R.j*5+2) (.slice A' (s.vars.length+1) c')).grown hg3 fun e=>by injection e with e; exact p3 e.symm).far (p:=⟨S.bo,i,none⟩) (Ne.symm n2) _
 ·have:=h.pv
  obtain⟨h5,_⟩:=Array.getElem?_eq_some_iff.1 this;simp only[yP,List.length_singleton];rw[Array.getElem?_setIfInBounds_self_of_lt h5]
 ·have:=ZK (w':=w3.setCell ⟨S.bo,i,none⟩ (.int .i64 (s.vars.length:Int))) ho1 fun b e=>by
   obtain⟨q1,q2,q3⟩:=hA0 b e;have hlt:=(jE ho1 e).2;rw[zS w3 ⟨S.bo,i,none⟩ _ b q3,hg3.block b (by simpa [World.setCell] using hlt) (fun e2=>q2 (by injection e2))];exact zS w1 ⟨S.bp,R.j*5+2,none⟩ _ b q1
  simpa [strs] using this
 ·have:=k.blocks fun b e=>by
   rw[hG];obtain⟨q1,q2,q3,q4⟩:=h.VM b e;rintro (e2 | e2 | e2 | e2)
   ·exact(h.VT b e2).2.2.2.1 e
   ·exact q3 e2
   ·exact q4 (by rw[e2]; exact hb0)
   ·exact q1 e2
  rw[hb] at this
  simpa using this
 ·have:=h.bml
  rw[hb] at this
  simpa using this
 ·intro kk b y h1 h2
  have hlen:(s.vars++[name]).length=s.vars.length+1:=by simp
  show MF _ _ _ b (s.vars++[name]).length _
  rw[hlen]
  cases kk with
  | zero=>
   simp only[yM,yY] at h1;have h2:R.bm[0]?=some b:=h2;rw[hbm] at h2;simp only[yM,yY] at h2;subst h1 h2;rw[zR6 ⟨name,s.vars.length,loop⟩ x] at hm3;exact hm3.jL (zS w3 ⟨S.bo,i,none⟩ _ b0 p1)
  | succ kk=>
   have h1:s.blocks[kk+1]?=some y:=by rw[hb]; exact h1
   refine(k.maps (kk+1) b y ?_ h1 h2).mono (Nat.le_succ _);have hbm':=yB h2;obtain⟨q1,q2,q3⟩:=h.of_map b hbm';rw[hG];rintro (e | e | e | e)
   ·exact(h.VT b e).2.2.2.2 hbm'
   ·exact q3 e
   ·have hnd:=h.nodup;have h2:R.bm[kk+1]?=some b:=h2;rw[hbm] at hnd h2;rw[List.nodup_cons] at hnd;exact hnd.1 (by rw[←e]; exact yB (i:=kk) h2)
   ·exact q1 e
 ·exact h.own
 ·exact h.nodup
 ·simp; omega
theorem zTE:vfV []=fun _=>none:=rfl
theorem NB.push {w w1 w2:World}{S:StN}{s:Nr}{R:DyN}(h:NB w S s R)(hx:Ext w w1)(b0:Nat)(h0:w.heap.size≤b0)(hm1:MF Tryz.prog 9 w1 b0 0 fun _=>none)
  (hg2:w1.grownBy w2 (Value.slice R.Ab s.blocks.length R.cb).ownBlock) (A':Option Addr) (c':Nat) (ho2:w2.ownsRow S.B 184 1 (.slice A' (s.blocks.length+1) c') (s.blocks.length+1) (YK R.bm.reverse++[.map (some b0)])) (hn:∀b,A'=some ⟨b,0,none⟩→R.Ab=some ⟨b,0,none⟩∨w.heap.size≤b) :
  NB (w2.setCell ⟨S.a,4,none⟩ (.slice A' (s.blocks.length+1) c')) S { s with blocks:=[]::s.blocks } { R with Ab:=A',cb:=c',bm:=b0::R.bm } ∧
  xD w (xM S R) (w2.setCell ⟨S.a,4,none⟩ (.slice A' (s.blocks.length+1) c')) (xM S { R with Ab:=A',cb:=c',bm:=b0::R.bm }):=by
 obtain⟨G,hG⟩:∃G:Nat→Prop,G=fun b=>R.Ab=some ⟨b,0,none⟩∨b=S.a:=⟨_,rfl⟩;have m1:xD w G w1 G:=xD.ext hx
 have m2:xD w1 G w2 G:=xD.grown hg2 fun g e=>by rw[hG]; exact .inl (xP h.blocks e)
 have m3:=(JE w2 S.a 4 (.slice A' (s.blocks.length+1) c')).zFD (G':=G) fun b e=>by rw[hG]; exact .inr e
 have hGM:∀g,G g→g<w.heap.size→xM S R g:=fun g hg _=>by
  rw[hG] at hg
  rcases hg with e | e
  ·exact .inr (.inr (.inr (.inr (.inl e))))
  ·exact .inl e
 obtain⟨k,hm⟩:=h.kept hGM ((m1.trans m2).trans m3);obtain⟨n1,n2,n3⟩:=h.apart
 have hG1:∀ {b:Nat},b≠S.a→R.Ab≠some ⟨b,0,none⟩→¬G b:=fun h1 h2 hg=>by
  rw[hG] at hg
  rcases hg with e | e
  ·exact h2 e
  ·exact h1 e
 have hmv:xD w (xM S R) (w2.setCell ⟨S.a,4,none⟩ (.slice A' (s.blocks.length+1) c')) (xM S { R with Ab:=A',cb:=c',bm:=b0::R.bm }):=hm.less fun b hb=>by
  rcases hb with e | e | e | e | e | e
  ·exact .inl (.inl e)
  ·exact .inl (.inr (.inl e))
  ·exact .inl (.inr (.inr (.inl e)))
  ·exact .inl (.inr (.inr (.inr (.inl e))))
  ·rcases hn b e with e | e
   ·exact .inl (.inr (.inr (.inr (.inr (.inl e)))))
   ·exact .inr e
  ·rcases List.mem_cons.1 e with e | e
   ·exact .inr (by rw[e]; exact h0)
   ·exact .inl (.inr (.inr (.inr (.inr (.inr e)))))
 have hrd1:Blk w2 S.a 86 _:=(h.rd.ext hx).grown hg2 fun e=>(h.VM _ (xP h.blocks e.symm)).2.1 rfl
 have hA0:∀b,A'=some ⟨b,0,none⟩→b≠S.a:=fun b e=>by
  obtain⟨cur,hc⟩:=xY ho2 e;exact Blk.differ hc hrd1 (by decide)
 have hm0:∀b,R.Ab=some ⟨b,0,none⟩→b≠b0:=fun b e=>by have:=(jE h.blocks e).2; omega
 refine⟨⟨h.st.xG hmv,?_,k.of (hG1 n1 fun e=>(h.VM _ e).1 rfl),h.len,k.pr (hG1 (Ne.symm n3) fun e=>(h.VM _ e).2.2.1 rfl),h.pv,k.vars fun b e=>hG1 (h.VT b e).2.1 (h.VT b e).2.2.2.1,?_,?_,?_,?_,?_,h.few,k.low,h.vz⟩,hmv⟩
 ·have:=hrd1.put 4 (.slice A' (s.blocks.length+1) c')
  simpa using this
 ·have:=ZK (w':=w2.setCell ⟨S.a,4,none⟩ (.slice A' (s.blocks.length+1) c')) ho2 fun b e=>zS w2 ⟨S.a,4,none⟩ _ b (hA0 b e)
  simpa [YK] using this
 ·simp[h.bml]
 ·intro kk b y h1 h2
  cases kk with
  | zero=>
   simp only[yM,yY] at h1 h2;subst h1 h2;rw[zTE];have h3:MF Tryz.prog 9 w2 b0 0 fun _=>none:=hm1.jL (hg2.block b0 hm1.lt fun e=>hm0 b0 (xP h.blocks e.symm) rfl);exact(h3.jL (zS w2 ⟨S.a,4,none⟩ _ b0 (h3.ne hrd1))).mono (zW _)
  | succ kk=>
   have hbm':=yB (i:=kk) h2;exact k.maps kk b y (hG1 (h.of_map b hbm').2.1 fun e=>(h.VM b e).2.2.2 hbm') h1 h2
 ·intro b hb
  rcases List.mem_cons.1 hb with rfl | hb
  ·exact Nat.le_trans h.low h0
  ·exact h.own b hb
 ·rw[List.nodup_cons];refine⟨fun hb=>?_,h.nodup⟩;obtain⟨n,f,hf⟩:=h.zGN hb
  have:=hf.lt
  omega
theorem NB.pop {w:World}{S:StN}{s:Nr}{R:DyN}(h:NB w S s R)(x:List Vr)(rest:List (List Vr))(hb:s.blocks=x::rest) :
  NB (w.setCell ⟨S.a,4,none⟩ (.slice R.Ab rest.length R.cb)) S { s with blocks:=s.blocks.tail } { R with bm:=R.bm.tail } ∧
  xD w (xM S R) (w.setCell ⟨S.a,4,none⟩ (.slice R.Ab rest.length R.cb)) (xM S { R with bm:=R.bm.tail }):=by
 obtain⟨k,hm⟩:=h.kept (G:=fun b=>b=S.a) (fun g e _=>.inl e) (JE w S.a 4 (.slice R.Ab rest.length R.cb));obtain⟨n1,n2,n3⟩:=h.apart
 have hmv:xD w (xM S R) (w.setCell ⟨S.a,4,none⟩ (.slice R.Ab rest.length R.cb)) (xM S { R with bm:=R.bm.tail }):=hm.less fun b hb=>by
  rcases hb with e | e | e | e | e | e
  ·exact .inl (.inl e)
  ·exact .inl (.inr (.inl e))
  ·exact .inl (.inr (.inr (.inl e)))
  ·exact .inl (.inr (.inr (.inr (.inl e))))
  ·exact .inl (.inr (.inr (.inr (.inr (.inl e)))))
  ·exact .inl (.inr (.inr (.inr (.inr (.inr (List.mem_of_mem_tail e))))))
 cases hbm:R.bm with
 | nil=>have:=h.bml; rw[hbm,hb] at this; cases this
 | cons b0 bs=>
  refine⟨⟨h.st.xG (by rw[←hbm]; exact hmv),?_,k.of n1,h.len,k.pr (Ne.symm n3),h.pv,k.vars fun b e=>(h.VT b e).2.1,?_,?_,?_,?_,?_,h.few,k.low,h.vz⟩,by rw[←hbm]; exact hmv⟩
  ·have:=h.rd.put 4 (.slice R.Ab rest.length R.cb)
   rw[show({ s with blocks:=s.blocks.tail }:Nr).blocks=rest by show s.blocks.tail=rest; rw[hb]; rfl]
   simpa using this
  ·have h1:=h.blocks;rw[hb,hbm,List.reverse_cons] at h1
   have h2:w.ownsRow S.B 184 1 (.slice R.Ab (rest.length+1) R.cb) (rest.length+1) (YK bs.reverse++[.map (some b0)]):=by simpa [YK] using h1
   obtain⟨b,e1,e2,_,_,h3⟩:=zRg h2
   have:=ZK (w':=w.setCell ⟨S.a,4,none⟩ (.slice R.Ab rest.length R.cb)) h3 fun b e=>zS w ⟨S.a,4,none⟩ _ b (h.VM b e).2.1
   rw[show({ s with blocks:=s.blocks.tail }:Nr).blocks=rest by show s.blocks.tail=rest; rw[hb]; rfl];exact this
  ·have:=h.bml
   rw[hb,hbm] at this;rw[show({ s with blocks:=s.blocks.tail }:Nr).blocks=rest by show s.blocks.tail=rest; rw[hb]; rfl]
   simpa using this
  ·intro kk b y h1 h2
   have h1:s.blocks[kk+1]?=some y:=by
    have h1:s.blocks.tail[kk]?=some y:=h1;rw[hb] at h1 ⊢;exact h1
   have h2:R.bm[kk+1]?=some b:=by rw[hbm]; exact h2
   exact k.maps (kk+1) b y (h.of_map b (yB h2)).2.1 h1 h2
  ·intro b hb';exact h.own b (by rw[hbm]; exact List.mem_cons_of_mem _ hb')
  ·have:=h.nodup
   rw[hbm,List.nodup_cons] at this;exact this.2
end Go.Proofs.YtbadjmmjbpeocaaGreatDoor
