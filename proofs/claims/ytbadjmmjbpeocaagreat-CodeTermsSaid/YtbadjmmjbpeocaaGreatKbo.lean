/- A right tree has all that the plain laws of names and of terms want: forms, kids, ends. (and what follows of it). The conditions stand at each lemma. -/
import Derived.Test.YtbadjmmjbpeocaaGreatKaa
import Derived.Test.YtbadjmmjbpeocaaGreatKbm
import Derived.Test.YtbadjmmjbpeocaaGreatKbn
import Derived.Test.YtbadjmmjbpeocaaGreatKae
import Derived.Test.YtbadjmmjbpeocaaGreatKaz
import Derived.Deep.Cut
set_option linter.unusedVariables false
set_option linter.unusedSimpArgs false
set_option maxRecDepth 100000
set_option maxHeartbeats 16000000
namespace Go.Proofs.YtbadjmmjbpeocaaGreat
open Go Go.RowKit
structure zD3 (t:List Nd):Prop where
 pos:0<t.length
 top:(xB t 0).kind=1
 up:∀i,i<t.length→∀k ∈ (xB t i).kids,i<k∧k<t.length
 ok:∀i,i<t.length→jV ((xB t i).kind:Int) ((xB t i).kids.map fun k=>((xB t k).kind:Int))=true
 le:∀i,i<t.length→(xB t i).kind≤26
 ends:∃ks,zHP t ks∧TT.zBM ks 0=some t.length
theorem zRR {L:List TT.xQ}(h:TT.VR L=true)(hsm:∀x ∈ L,TT.zEF x):zD3 (tN (txM L)):=by
 have hX:=zPf h hsm;rw[TT.zKx] at h;unfold TT.zLx at h;simp only[zG,zF,zO] at h;obtain⟨h0,h1,h2,h3,h4⟩:=h;rw[TT.zDS] at h2;have hk:∀i (hi:i<L.length),∀k ∈ L[i].kids,(i:Int)<k∧k<(L.length:Int):=fun i hi k hk=>h2 i hi k (by rw[TT.zDm L i hi]; exact hk)
 have hnb:∀x ∈ L,x.kind≤26∧jV x.kind (TT.ZE L x.kids)=true:=fun x hx=>by
  have:=List.all_eq_true.1 h4 x hx
  unfold TT.zMI at this;simp only[zG,zF] at this;exact⟨this.2.1,this.2.2.2⟩
 have hkids:∀i (hi:i<L.length),(xB (tN (txM L)) i).kids=L[i].kids.map Int.toNat:=fun i hi=>by rw[zFX hi]; rfl
 have hkind:∀i (hi:i<L.length),((xB (tN (txM L)) i).kind:Int)=L[i].kind:=fun i hi=>by
  rw[zFX hi];exact Int.toNat_of_nonneg (hX.nodes _ (yO hi)).kind
 have hlen:(tN (txM L)).length=L.length:=by rw[jF,JG]
 have hf:∀i,i<(tN (txM L)).length→jV ((xB (tN (txM L)) i).kind:Int) ((xB (tN (txM L)) i).kids.map fun k=>((xB (tN (txM L)) k).kind:Int))=true:=fun i hi=>by
  rw[hlen] at hi
  have e:(xB (tN (txM L)) i).kids.map (fun k=>((xB (tN (txM L)) k).kind:Int))=TT.ZE L L[i].kids:=by
   rw[hkids i hi,List.map_map];unfold TT.ZE;apply List.map_congr_left;intro k hk'
   have:=hk i hi k hk'
   obtain⟨a,rfl⟩:∃a:Nat,k=(a:Int):=⟨k.toNat,by omega⟩
   have ha:a<L.length:=by omega
   simp only[Function.comp,zI];rw[hkind a ha,TT.zCc ha]
  rw[e,hkind i hi];exact(hnb _ (yO hi)).2
 refine⟨by rw[hlen]; exact h0,?_,fun i hi k hk'=>hX.right.up i k hk',hf,fun i hi=>(by rw[hlen] at hi; have h1:=hkind i hi; have h2:=(hnb _ (yO hi)).1; omega),TT.zCv L,⟨by rw[TT.XP,hlen],fun i=>?_⟩,by rw[hlen]; exact h3⟩
 ·have e:((xB (tN (txM L)) 0).kind:Int)=1:=by
   rw[hkind 0 h0,←TT.zCc h0];exact h1
  omega
 ·by_cases hi:i<L.length
  ·rw[TT.zDm L i hi,hkids i hi,List.map_map]
   have:∀(l:List Int),(∀k ∈ l,0≤k)→l=l.map ((fun (k:Nat)=>(k:Int)) ∘ Int.toNat):=fun l hl=>by
    conv=>lhs; rw[←List.map_id l]
    apply List.map_congr_left;intro k hk'
    have:=hl k hk'
    simp only[id,Function.comp];omega
   exact this _ fun k hk'=>by have:=hk i hi k hk'; omega
  ·rw[zLc (by omega)];unfold TT.zCv;rw[yH,zM (by rw[yQ]; omega)]
   rfl
theorem zD3.right {t:List Nd} (F:zD3 t):XK t:=zLm F.up F.ok
theorem zD3.is {t:List Nd} (F:zD3 t) {i:Nat}{x:Nat}(hi:i<t.length)(hk:(xB t i).kind=x):jV (x:Int) ((xB t i).kids.map fun k=>((xB t k).kind:Int))=true:=by have:=F.ok i hi; rwa [hk] at this
theorem zD3.exT {t:List Nd} (F:zD3 t):ExT t:=by
 refine⟨fun i hi h=>?_,fun i hi h=>?_⟩
 ·have e:isR ((xB t i).kids.map fun k=>((xB t k).kind:Int)) [0,0]=true:=by
   rcases h with h | h | h <;> · have:=F.is hi h; simpa [jV] using this
  obtain⟨a,b,hab,_⟩:=zJp e;exact⟨a,b,hab⟩
 ·have e:isR ((xB t i).kids.map fun k=>((xB t k).kind:Int)) [0]=true:=by
   have:=F.is hi h; simpa [jV] using this
  obtain⟨a,ha,_⟩:=zLA e;exact⟨a,ha⟩
theorem zD3.cov {t:List Nd} (F:zD3 t):zSB t:=by
 refine⟨fun i hi h=>?_,fun i hi h a b e=>?_,fun i hi h a b c e=>?_,fun i hi h a b e=>?_,fun i hi h a b c e=>?_⟩
 ·have:(xB t i).kids.length=0:=by
   rcases h with h | h <;> · have:=F.is hi h; simpa [jV] using this
  exact List.length_eq_zero_iff.1 this
 ·obtain⟨a',b',hab,_,hb⟩:=zJp (show isR _ [20,5]=true by have:=F.is hi h; simpa [jV] using this);rw[e] at hab;injection hab with e1 e2;injection e2 with e2;subst e1; subst e2
  have:=JX (by decide) hb
  omega
 ·obtain⟨a',b',c',hab,_,hb,_⟩:=zRQ (show isR _ [20,5,0]=true by have:=F.is hi h; simpa [jV] using this);rw[e] at hab;injection hab with e1 e2;injection e2 with e2;subst e1; subst e2
  have:=JX (by decide) hb
  omega
 ·obtain⟨a',b',hab,ha,hb⟩:=zJp (show isR _ [5,5]=true by have:=F.is hi h; simpa [jV] using this);rw[e] at hab;injection hab with e1 e2;injection e2 with e2;subst e1; subst e2;have h1:=JX (by decide) ha;have h2:=JX (by decide) hb;exact⟨by omega,by omega⟩
 ·obtain⟨a',b',c',hab,ha,hb,_⟩:=zRQ (show isR _ [21,21,6]=true by have:=F.is hi h; simpa [jV] using this);rw[e] at hab;injection hab with e1 e2;injection e2 with e2;subst e1; subst e2;have h1:=JX (by decide) ha;have h2:=JX (by decide) hb;exact⟨by omega,by omega⟩
theorem zLd {t:List Nd}{i:Nat}(h:zDg ((xB t i).kids.map fun k=>((xB t k).kind:Int)) 0 5=true):∀k ∈ (xB t i).kids,(xB t k).kind=5:=fun k hk=>by
 unfold zDg at h;simp only[List.drop_zero,List.all_map,zH] at h
 have:=h k hk
 simp[zKh] at this;omega
theorem zD3.proc {t:List Nd} (F:zD3 t):zPi t:=by
 refine⟨fun i hi h=>?_,fun i hi h=>zLd (by have:=F.is hi h; simpa [jV] using this)⟩;obtain⟨a,b,hab,ha,hb⟩:=zJp (show isR _ [4,6]=true by have:=F.is hi h; simpa [jV] using this);have h1:=JX (by decide) ha;have h2:=JX (by decide) hb;exact⟨a,b,hab,by omega,by omega⟩
theorem zD3.tree {t:List Nd} (F:zD3 t):zPC t:=by
 obtain⟨ks,hk,he⟩:=F.ends;obtain⟨h1,h2⟩:=zF0 hk _ 0 _ he;refine⟨F.right,F.cov,F.proc,F.pos,F.top,zPz F.top (F.ok 0 F.pos),fun i hi h=>zLd ?_,fun j hj=>(h2 j).2 ⟨zW _,hj⟩,zN0 hk he⟩
 have:=F.is hi h
 have:(decide (0<((xB t i).kids.map fun k=>((xB t k).kind:Int)).length)&&zDg ((xB t i).kids.map fun k=>((xB t k).kind:Int)) 0 5)=true:=by simpa [jV] using this
 rw[zG] at this;exact this.2
theorem zG5 {T:Nat→List Tm}{g:Nat→Option Nat}{len:Nat}(hT:∀a e,g a=some e→a+(T a).length≤e):∀(l:List Nat) (a0 e:Nat),TT.zCJ g len (l.map fun (k:Nat)=>(k:Int)) (some a0)=some e→a0+(l.flatMap T).length≤e
 | [],a0,e,h=>by injection h with h; subst h; exact zX _
 | k::l,a0,e,h=>by
  rw[List.map_cons,TT.VQ] at h
  split at h
  ·rename_i hc
   have hk:k=a0:=by omega
   subst hk
   cases ha:g k with
   | none=>rw[ha,TT.zAs] at h; cases h
   | some a1=>
    rw[ha] at h;have h1:=hT k a1 ha;have h2:=zG5 hT l a1 e h;rw[List.flatMap_cons,yP];omega
  ·cases h
theorem zIB {t:List Nd}{ks:List (List Int)}(hk:zHP t ks)(of:List Int):∀(f i e:Nat),TT.zFu ks f i=some e→∀q,i+1+((xB t i).kids.flatMap (vD t of q)).length≤e
 | 0,i,e,h,q=>by cases h
 | f+1,i,e,h,q=>by
  unfold TT.zFu at h
  split at h
  ·rw[hk.2 i] at h;refine zG5 (fun a e ha=>?_) _ _ _ h
   cases q with
   | zero=>show a+0≤e; have:=(zF0 hk f a e ha).1; omega
   | succ q=>
    have hr:=zIB hk of f a e ha q;unfold vD
    dsimp only
    split
    ·show a+1≤e; omega
    split
    ·show a+1≤e; omega
    split
    ·rw[yP]; show a+(_+1)≤e; omega
    split
    ·rw[yP]; show a+(_+1)≤e; omega
    split
    ·rw[yP]; show a+(_+1)≤e; omega
    split
    ·rw[yP]; show a+(_+1)≤e; omega
    ·show a+0≤e; omega
  ·cases h
theorem zD3.few {t:List Nd}(F:zD3 t)(of:List Int)(i q:Nat)(hi:i<t.length):i+1+((xB t i).kids.flatMap (vD t of q)).length≤t.length:=by
 obtain⟨ks,hk,he⟩:=F.ends;have hs:=TT.zIS ks ks.length 0 _ (by omega) he i (zW _) hi;obtain⟨e,h⟩:=Option.isSome_iff_exists.1 hs;have h1:=zIB hk of _ i e h q;have h2:=(TT.zBu h).2;rw[hk.1] at h2;omega
end Go.Proofs.YtbadjmmjbpeocaaGreat
namespace Go.Proofs.YtbadjmmjbpeocaaGreat
def okI (x:Int):Prop:=-9223372036854775808≤x∧x≤9223372036854775807
def okT (t:Tok):Prop:=okI t.n∧t.text.length≤1500∧t.at_≤1500
def okN (n:Nd):Prop:=n.kind<256∧okI n.num∧n.text.length≤1500∧n.pos≤1500
structure KS (s:Ps):Prop where
 nd:∀n ∈ s.nd,okN n
 ts:∀t ∈ s.ts,okT t
def KP {α:Type}(Q:α→Prop)(r:Res α):Prop:=∀a s,r=.ok a s→KS s∧Q a
def QT {α:Type}(_:α):Prop:=True
theorem VC {α:Type}{Q:α→Prop}{a:α}{s:Ps}(h:KS s)(q:Q a):KP Q (.ok a s):=fun b t e=>by injection e with e1 e2; subst e1; subst e2; exact⟨h,q⟩
theorem zBO {α:Type}{Q:α→Prop}{e:Int}{p:Nat}:KP Q (.err e p:Res α):=fun b t h=>by cases h
theorem xZ {α β:Type}{Q:α→Prop}{T:β→Prop}{r:Res α}{f:α→Ps→Res β}(h:KP Q r)(k:∀a s,KS s→Q a→KP T (f a s)):KP T (r.bind f):=fun b t e=>by
 cases r with
 | ok a s=>exact k a s (h a s rfl).1 (h a s rfl).2 b t e
 | err i p=>cases e
theorem XY {α:Type}{Q:α→Prop}{c:Prop} [Decidable c] {a b:Res α}(h:KP Q a)(k:KP Q b):KP Q (if c then a else b):=by
 split
 ·exact h
 ·exact k
theorem zK8 {x:Int}(h:-1000≤x)(h2:x≤1000):okI x:=⟨by omega,by omega⟩
section
variable {s:Ps}
theorem KS.adv (h:KS s):KS s.adv:=⟨h.nd,fun t ht=>h.ts t (List.mem_of_mem_tail ht)⟩
theorem KS.deep (h:KS s)(d:Nat):KS { s with deep:=d }:=⟨h.nd,h.ts⟩
theorem ok0:okI 0:=zK8 (by decide) (by decide)
theorem KS.hd (h:KS s):okT s.hd:=by
 unfold Ps.hd
 cases e:s.ts with
 | nil=>exact⟨ok0,zW _,zW _⟩
 | cons t l=>exact h.ts t (by rw[e]; simp)
theorem KS.add (h:KS s){n:Nd}(hn:okN n):KS (s.add n):=⟨fun m hm=>by
 rcases List.mem_append.1 hm with hm | hm
 ·exact h.nd m hm
 ·rw[yN] at hm; subst hm; exact hn,h.ts⟩
theorem KS.on (h:KS s)(i:Nat){f:Nd→Nd}(hf:∀n,okN n→okN (f n)):KS (s.on i f):=⟨fun m hm=>by
 obtain⟨j,hj⟩:=List.mem_iff_getElem?.1 hm;have hj:(s.nd.modify i f)[j]?=some m:=hj;rw[List.getElem?_modify] at hj
 try simp only[Option.map_eq_map] at hj
 obtain⟨y,hy,rfl⟩:=Option.map_eq_some_iff.1 hj
 have:=h.nd y (yB hy)
 by_cases hij:i=j
 ·rw[if_pos hij]; exact hf y this
 ·rw[if_neg hij]; exact this,h.ts⟩
theorem KS.kid (h:KS s)(i:Nat):KS (s.kid i):=h.on i fun n hn=>hn
theorem KS.node (h:KS s){k:Nat}(hk:k<256):KS (s.node k):=h.add ⟨hk,ok0,zW _,h.hd.2.2⟩
theorem KS.text (h:KS s)(i:Nat){t:Bs}(ht:t.length≤1500):KS (s.text i t):=h.on i fun n hn=>⟨hn.1,hn.2.1,ht,hn.2.2.2⟩
theorem KS.num (h:KS s)(i:Nat){x:Int}(hx:okI x):KS (s.num i x):=h.on i fun n hn=>⟨hn.1,hx,hn.2.2⟩
theorem KS.kind (h:KS s)(i:Nat){k:Nat}(hk:k<256):KS (s.kind i k):=h.on i fun n hn=>⟨hk,hn.2⟩
theorem KS.xI (h:KS s)(i:Nat){k:Nat}(hk:k<256):KS (s.xI i k):=(h.kid i).node hk
theorem YD (h:KS s)(t:Bs):KP QT (vX t s):=XY (VC h.adv trivial) zBO
theorem zT2 (h:KS s)(k:Nat):KP okT (ofP k s):=XY (VC h.adv h.hd) zBO
theorem zAR (h:KS s)(i:Nat):KP QT (jT i s):=xZ (zT2 h 1) fun t s hs ht=>VC (hs.text _ ht.2.1) trivial
theorem zE6 (h:KS s)(i:Nat):KP QT (zAH i s):=zAR (h.xI i (by decide)) _
theorem zSd (h:KS s)(i:Nat):KP QT (zCX i s):=xZ (zT2 h 2) fun t s hs ht=>VC (hs.num _ ht.1) trivial
theorem zKs (h:KS s)(i:Nat):KP QT (zCx i s):=zSd (h.xI i (by decide)) _
theorem zE0 {α:Type}{Q:α→Prop}{body:Pm α}(hb:∀s,KS s→KP Q (body s))(h:KS s)(a z:Bs):KP Q (jE a z body s):=by
 unfold jE;refine XY (XY zBO (xZ (hb _ (h.adv.deep _)) fun x t ht hx=>XY (VC (ht.deep _) hx) (xZ (YD ht z) fun _ u hu _=>VC (hu.deep _) hx))) zBO
end
def QE:Ex→Prop
 | .leaf k p t n=>k<256∧okI n∧t.length≤1500∧p≤1500
 | .neg p a=>p≤1500∧QE a
 | .bin k p a b=>k<256∧p≤1500∧QE a∧QE b
theorem QE.pos:∀ {e:Ex},QE e→e.pos≤1500
 | .leaf _ _ _ _,h=>h.2.2.2
 | .neg _ _,h=>h.1
 | .bin _ _ _ _,h=>h.2.1
theorem zLW:∀(e:Ex) (i:Nat) (s:Ps),KS s→QE e→KS (zBW i e s)
 | .leaf k p t n,i,s,h,q=>(h.kid i).add q
 | .neg p a,i,s,h,q=>zLW a _ _ ((h.kid i).add ⟨show 26<256 by decide,ok0,zW _,q.1⟩) q.2
 | .bin k p a b,i,s,h,q=>zLW b _ _ (zLW a _ _ ((h.kid i).add ⟨q.1,ok0,zW _,q.2.1⟩) q.2.2.1) q.2.2.2
theorem zTe {ms:List (Bs × Nat)}(hm:∀m ∈ ms,m.2<256){s:Ps}{k:Nat}(h:zDW ms s=some k):k<256:=by
 unfold zDW at h;obtain⟨m,h1,rfl⟩:=Option.map_eq_some_iff.1 h;exact hm m (List.mem_of_find?_eq_some h1)
theorem zK1 {ms:List (Bs × Nat)}(hm:∀m ∈ ms,m.2<256){part:Pm Ex}(hp:∀s,KS s→KP QE (part s)):∀(f:Nat) (e:Ex) (s:Ps),KS s→QE e→KP QE (VU ms part f e s)
 | 0,e,s,h,q=>zBO
 | f+1,e,s,h,q=>by
  unfold VU
  split
  ·exact VC h q
  ·rename_i k hk;exact xZ (hp _ h.adv) fun r t ht hr=>zK1 hm hp f _ _ ht ⟨zTe hm hk,q.pos,q,hr⟩
theorem zMH {ms:List (Bs × Nat)}(hm:∀m ∈ ms,m.2<256){part:Pm Ex}(hp:∀s,KS s→KP QE (part s)){s:Ps}(h:KS s):KP QE (XD ms part s):=xZ (hp s h) fun e t ht q=>zK1 hm hp _ _ _ ht q
theorem zMY {part:Pm Ex}(hp:∀s,KS s→KP QE (part s)){s:Ps}(h:KS s):KP QE (zEA part s):=zMH (by decide) (fun s h=>zMH (by decide) hp h) h
theorem zGM:∀(f:Nat) (s:Ps),KS s→KP QE (vL f s)
 | 0,s,h=>zBO
 | f+1,s,h=>by
  unfold vL;exact XY (VC h.adv ⟨by decide,ok0,h.hd.2⟩) (XY (VC h.adv ⟨by decide,h.hd.1,zW _,h.hd.2.2⟩) (XY (xZ (zE0 (fun s h=>zGM f s h) h _ _) fun a t ht q=>VC ht ⟨h.hd.2.2,q⟩) (zE0 (fun s h=>zMY (fun s h=>zGM f s h) h) h _ _)))
section
variable {s:Ps}
theorem zDE (h:KS s)(i:Nat):KP QT (zAB i s):=xZ (zMY (fun s h=>zGM _ s h) h) fun e t ht q=>VC (zLW _ _ _ ht q) trivial
theorem zPq {one:Pm Unit}(ho:∀s,KS s→KP QT (one s)):∀(f:Nat) (s:Ps),KS s→KP QT (zBF one f s)
 | 0,s,h=>zBO
 | f+1,s,h=>by unfold zBF; exact XY (xZ (ho _ h.adv) fun _ t ht _=>zPq ho f t ht) (VC h trivial)
theorem zMg {one:Pm Unit}(ho:∀s,KS s→KP QT (one s))(h:KS s):KP QT (zAc one s):=xZ (ho _ h) fun _ t ht _=>zPq ho _ t ht
theorem zSU (h:KS s)(i:Nat):KP QT (zGo i s):=zE0 (fun s h=>zDE h i) h _ _
theorem zO0 (h:KS s)(i:Nat):KP QT (zJH i s):=xZ (zAR (h.xI i (by decide)) _) fun _ t ht _=>zSU ht _
theorem zPu (h:KS s)(i:Nat):KP QT (zIR i s):=xZ (zO0 h i) fun _ t ht _=>xZ (YD ht _) fun _ u hu _=>zE6 hu i
end
theorem ok1:okI 1:=zK8 (by decide) (by decide)
theorem zTP {t:Bs}{k:Nat}(h:ZN t=some k):k<256:=by
 unfold ZN at h;obtain⟨m,h1,rfl⟩:=Option.map_eq_some_iff.1 h;exact(show ∀m ∈ zIp,m.2<256 by decide) m (List.mem_of_find?_eq_some h1)
section
variable {s:Ps}
theorem zS9 (h:KS s)(i:Nat):KP QT (zK9 i s):=xZ (zAR h i) fun _ s h _=>xZ (YD h _) fun _ s h _=>xZ (zPu h i) fun _ s h _=>XY (xZ (YD h.adv _) fun _ s h _=>VC (h.num _ ok1) trivial) (VC h trivial)
theorem zUg (h:KS s)(i:Nat):KP QT (zQA i s):=xZ (zPu h i) fun _ s h _=>xZ (YD h _) fun _ s h _=>zDE h i
theorem zQM (h:KS s)(i:Nat):KP QT (zE3 i s):=xZ (zO0 h i) fun _ s h _=>xZ (YD h _) fun _ s h _=>xZ (zMg (fun s h=>zDE h i) h) fun _ s h _=>YD h _
theorem zTw (h:KS s)(i:Nat):KP QT (zKl i s):=xZ (zAR h i) fun _ s h _=>xZ (YD h _) fun _ s h _=>xZ (zE6 h i) fun _ s h _=>xZ (YD h _) fun _ s h _=>zE6 h i
theorem zS6 (h:KS s)(i:Nat):KP QT (zKu i s):=xZ (zE6 h i) fun _ s h _=>XY (VC (h.adv.num _ ok1) trivial) (YD h _)
theorem zOi (h:KS s)(i:Nat):KP QT (zDq i s):=xZ (zAR (h.xI i (by decide)) _) fun _ t h _=>XY (zSU (h.kind _ (by decide)) _) (VC h trivial)
theorem zS0 (h:KS s)(i:Nat):KP QT (zFf i s):=XY (VC (h.adv.num _ ok1) trivial) (YD h _)
theorem zUl (h:KS s)(i:Nat):KP QT (zPW i s):=xZ (zAR h i) fun _ s h _=>xZ (YD h _) fun _ s h _=>zDE h i
theorem zMM {st:Nat→Pm Unit}(hst:∀i s,KS s→KP QT (st i s))(i:Nat):∀(f:Nat) (s:Ps),KS s→KP QT (XC st i f s)
 | 0,s,h=>zBO
 | f+1,s,h=>by unfold XC; exact XY (VC h trivial) (xZ (hst i s h) fun _ t ht _=>zMM hst i f t ht)
theorem zDN {st:Nat→Pm Unit}(hst:∀i s,KS s→KP QT (st i s))(h:KS s)(i:Nat):KP QT (zAU st i s):=zE0 (fun t ht=>zMM hst _ _ t ht) (h.xI i (by decide)) _ _
theorem zTn {st:Nat→Pm Unit}(hst:∀i s,KS s→KP QT (st i s))(h:KS s)(i:Nat):KP QT (zGT st i s):=XY (zDN hst h.adv i) (VC h trivial)
theorem zPK {st:Nat→Pm Unit}(hst:∀i s,KS s→KP QT (st i s))(h:KS s)(i:Nat):KP QT (zDr st i s):=xZ (zDE h i) fun _ s h _=>xZ (zS0 h i) fun _ s h _=>xZ (zDE h i) fun _ s h _=>xZ (zDN hst h i) fun _ s h _=>zTn hst h i
theorem zTs {st:Nat→Pm Unit}(hst:∀i s,KS s→KP QT (st i s))(h:KS s)(i:Nat):KP QT (zGA st i s):=xZ (zAR h i) fun _ s h _=>xZ (YD h _) fun _ s h _=>xZ (zKs h i) fun _ s h _=>xZ (YD h _) fun _ s h _=>xZ (zKs h i) fun _ s h _=>zDN hst h i
theorem zRq {st:Nat→Pm Unit}(hst:∀i s,KS s→KP QT (st i s))(h:KS s)(k i:Nat):KP QT (VI st k i s):=by
 unfold VI
 split
 ·exact zS9 h i
 split
 ·exact zUg h i
 split
 ·exact zQM h i
 split
 ·exact zO0 h i
 split
 ·exact zTw h i
 split
 ·exact zS6 h i
 split
 ·exact zOi h i
 split
 ·exact zPK hst h i
 split
 ·exact zTs hst h i
 split
 ·exact zUl h i
 split
 ·exact zDE h i
 ·exact VC h trivial
theorem zPa:∀(f i:Nat) (s:Ps),KS s→KP QT (YS f i s)
 | 0,i,s,h=>zBO
 | f+1,i,s,h=>by
  unfold YS
  split
  ·exact zBO
  ·rename_i k hk
   have hlt:k<256:=by
    split at hk
    ·exact zTP hk
    ·cases hk
   exact xZ (zRq (fun i s h=>zPa f i s h) (h.xI i hlt).adv _ _) fun _ t ht _=>XY (VC ht trivial) (YD ht _)
theorem zSz (h:KS s)(i:Nat):KP QT (zEa i s):=zDN (fun i s h=>zPa _ i s h) h i
theorem zSe (h:KS s)(i:Nat):KP QT (zCW i s):=xZ (YD (h.xI i (by decide)) _) fun _ t h _=>xZ (zAR h _) fun _ t h _=>xZ (YD h _) fun _ t h _=>xZ (zMg (fun s h=>zE6 h _) h) fun _ t h _=>xZ (YD h _) fun _ t h _=>YD h _
theorem zRn (h:KS s)(i:Nat):KP QT (zBT i s):=XY (VC (h.xI i (by decide)) trivial) (zMg (fun s h=>zE6 h _) (h.xI i (by decide)))
theorem zQr (h:KS s)(i:Nat):KP QT (VY i s):=XY (VC (h.adv.num _ ok1) trivial) (VC h trivial)
theorem zTb (h:KS s)(i:Nat):KP QT (zEt i s):=xZ (YD (h.xI i (by decide)) _) fun _ t h _=>xZ (zAR h _) fun _ t h _=>xZ (YD h _) fun _ t h _=>xZ (zRn h _) fun _ t h _=>xZ (YD h _) fun _ t h _=>xZ (zQr h _) fun _ t h _=>zSz h _
theorem zHY:∀(f:Nat) (s:Ps),KS s→KP QT (YB f s)
 | 0,s,h=>zBO
 | f+1,s,h=>by unfold YB; exact XY (VC h trivial) (XY (xZ (zSe h _) fun _ t ht _=>zHY f t ht) (XY (xZ (zTb h _) fun _ t ht _=>zHY f t ht) zBO))
theorem zN3 (h:KS s):KP QT (zDp s):=zHY _ _ (h.node (by decide))
end
theorem zLs {ts:List Tok}{nd:List Nd}(ht:∀t ∈ ts,okT t)(h:zC1 ts=.ok nd):∀n ∈ nd,okN n:=by
 unfold zC1 at h
 split at h
 ·rename_i a s hs;injection h with h;subst h;exact(zN3 ⟨fun n hn=>(by cases hn),ht⟩ _ _ hs).1.nd
 ·cases h
theorem zNJ:∀(l:Bs) (n m:Int),n≤2147483647→zCC n l=some m→m≤2147483647
 | [],n,m,h,e=>by injection e with e; omega
 | c::r,n,m,h,e=>by
  unfold zCC at e
  split at e
  ·cases e
  ·exact zNJ r _ m (by omega) e
theorem zR4 {s:Bs}{kd k:Nat}{n:Int}(h:step s=.tok kd k n):okI n:=by
 cases s with
 | nil=>cases h
 | cons c r=>
  have h:zAY c r=.tok kd k n:=h;unfold zAY at h
  split at h
  ·cases h
  split at h
  ·cases h
  split at h
  ·injection h with _ _ h; subst h; exact ok0
  split at h
  ·rename_i hd;unfold zPk at h
   split at h
   ·cases h
   ·rename_i m hm;injection h with _ _ h;subst h;have h1:=zNJ _ _ _ (by decide) hm
    have h2:=zNg _ _ _ (Int.le_refl 0) (fun x hx=>by
     rcases List.mem_cons.1 hx with rfl | hx
     ·exact hd
     ·exact(List.all_eq_true.1 (List.all_takeWhile) x hx)) hm
    exact⟨by omega,by omega⟩
  split at h
  ·injection h with _ _ h; subst h; exact ok0
  split at h
  ·injection h with _ _ h; subst h; exact ok0
  ·cases h
theorem zIi:∀(f p:Nat) (s:Bs) (l:List Tok),s.length≤1500→zD6 f p s=.ok l→∀t ∈ l,okI t.n∧t.text.length≤1500
 | 0,p,s,l,hl,h=>by cases h
 | f+1,p,s,l,hl,h=>by
  unfold zD6 at h
  split at h
  ·injection h with h;subst h;intro t ht;rw[yN] at ht;subst ht;exact⟨ok0,zW _⟩
  ·exact zIi f _ _ l (by rw[List.length_drop]; omega) h
  ·rename_i kd k n hs
   cases hr:zD6 f (p+k) (s.drop k) with
   | err a e=>rw[hr] at h; cases h
   | ok m=>
    rw[hr] at h;injection h with h;subst h;intro t ht
    rcases List.mem_cons.1 ht with rfl | ht
    ·exact⟨zR4 hs,by show(List.take k s).length≤1500; rw[List.length_take]; omega⟩
    ·exact zIi f _ _ m (by rw[List.length_drop]; omega) hr t ht
  ·cases h
theorem zEL:∀f,zA5 (YB f)
 | 0=>fun s _=>by unfold YB; trivial
 | f+1=>fun s h=>by
  unfold YB
  split
  ·exact ZJ.refl h
  ·split
   ·exact(zIJ 0 s h).bind fun _ t _ ht=>zEL f t ht
   ·split
    ·exact(zKf 0 s h).bind fun _ t _ ht=>zEL f t ht
    ·trivial
theorem zGV {l:Bs}{y:List Nd}(h:zCk l=.ok y)(hl:l.length≤1500):y.length≤3003∧∀n ∈ y,n.kids.length≤3003∧okN n:=by
 unfold zCk at h
 have hs:zFA l=zAZ 0 l:=by unfold zFA; rw[if_neg (by omega)]
 rw[hs] at h
 cases h1:zAZ 0 l with
 | err a e=>rw[h1] at h; cases h
 | ok ts=>
  rw[h1] at h;have h2:zC1 ts=.ok y:=h;obtain⟨hlast,hlen,hat⟩:=zK2 h1
  have hk:=zLs (fun t ht=>by
   have:=zIi _ 0 l ts hl h1 t ht
   exact⟨this.1,this.2,by have:=hat t ht; omega⟩) h2
  have hg:Good ((⟨ts,[],0⟩:Ps).node 1):=⟨hlast,zW _,fun n hn=>by
   have hn:n ∈ [(⟨1,(⟨ts,[],0⟩:Ps).hd.at_,[],0,[]⟩:Nd)]:=hn;rw[List.mem_singleton.1 hn]
   exact zW _⟩
  have hw:=zEL (ts.length+1) _ hg
  have e:zC1 ts=match YB (ts.length+1) ((⟨ts,[],0⟩:Ps).node 1) with
   | .ok _ s=>.ok s.nd
   | .err e p=>.err p e:=rfl
  rw[e] at h2
  cases hq:YB (ts.length+1) ((⟨ts,[],0⟩:Ps).node 1) with
  | err e p=>rw[hq] at h2; cases h2
  | ok a s=>
   rw[hq] at h2 hw;injection h2 with h2;subst h2;have hp:=hw.phi;unfold Ps.phi at hp;have h0:((⟨ts,[],0⟩:Ps).node 1).nd.length=1:=rfl;have h3:((⟨ts,[],0⟩:Ps).node 1).ts.length=ts.length:=rfl;rw[h0,h3] at hp;exact⟨by omega,fun n hn=>⟨by have:=hw.xR.few n hn; omega,hk n hn⟩⟩
end Go.Proofs.YtbadjmmjbpeocaaGreat
namespace Go.Proofs.YtbadjmmjbpeocaaGreat
open Go Go.RowKit
theorem zHX {P:Program}{ρ:Operand→Value}{o:Oper}{w:World}{F:Value→World→Prop}(ty:TypeId)(x y:Operand)(ho:o.op=.store ty x y)(g:Nat)(cells:Array Value)(hx:ρ x=.pointer (some ⟨g,0,none⟩))(hy:ρ y=.agg cells)
  (t:TypeId) (old:Array Value) (hg:Blk w g t old) (hi:(P.info? ty).map (·.size)=some cells.size) (hold:old.size=cells.size) (h1:cells.toList.all (·.oneCell')=true)
  (h:∀w',Touch g w w'→Blk w' g t cells→F undef w'):xA P ρ o w F:=by
 have h1':cells.all (·.oneCell')=true:=by rw[←Array.all_toList]; exact h1
 have hT:=zDy w g t old cells hg;unfold xA execOp;simp only[ho,hx,hy,Instr.storeAt,Instr.sureAddr,Sem.run_bind,Sem.run_pure,Result.andThen_ok,run_storeVar_row w g t ty old cells hg hi hold h1'];exact h _ hT.1 hT.2
structure Laid (g:Nat)(t:TypeId)(old new:Array Value)(a b:World):Prop where
 jR:Touch g a b
 here:Blk a g t old∨Blk a g t new→Blk b g t old∨Blk b g t new
 new:Blk a g t new→Blk b g t new
theorem Touch.refl (g:Nat)(w:World):Touch g w w:=⟨rfl,rfl,rfl,rfl,fun _ _=>rfl⟩
theorem Touch.trans {g:Nat}{a b c:World}(h:Touch g a b)(k:Touch g b c):Touch g a c:=⟨k.os.trans h.os,k.tape.trans h.tape,k.output.trans h.output,k.size.trans h.size,fun i hi=>(k.other i hi).trans (h.other i hi)⟩
theorem Laid.refl {g:Nat}{t:TypeId}{old new:Array Value}(w:World):Laid g t old new w w:=⟨Touch.refl g w,id,id⟩
theorem Laid.trans {g:Nat}{t:TypeId}{old new:Array Value}{a b c:World}(h:Laid g t old new a b)(k:Laid g t old new b c):Laid g t old new a c:=⟨h.jR.trans k.jR,fun q=>k.here (h.here q),fun q=>k.new (h.new q)⟩
theorem zBY {P:Program}{fn:Func}{p q:Tmp}{ty:TypeId}(h:fn.results=#[.cell p ty,.tmp q])(tmps:Array Value)(w:World)(g:Nat)(t:TypeId)(cs:Array Value)(d:TypeDesc)
  (hp:tmps.getD p undef=.pointer (some ⟨g,0,none⟩)) (hg:Blk w g t cs) (hu:P.underlying ty=some d) (hd:(match d with | .struct _ | .array _ _=>true | _=>false)=true) (hi:(P.info? ty).map (·.size)=some cs.size) :
  (results fn tmps).run P w=.ok (.tuple #[.agg cs,tmps.getD q undef]) w:=by
 have hp':tmps[p]?.getD undef=.pointer (some ⟨g,0,none⟩):=by simpa using hp
 simp[results,h,hp',asAddr,run_loadVar_row w g t ty cs (0,0) d hg hu hd hi]
theorem zRl {l:List Pw}:∀u,(zB4 l)[0]?=some u→¬okv u:=fun u h=>by
 cases l with
 | nil=>cases h
 | cons x l=>injection h with h; subst h; exact fun h=>h
theorem zTk {l:List Int}:∀u,(ofc l)[0]?=some u→¬okv u:=fun u h=>by
 cases l with
 | nil=>cases h
 | cons x l=>injection h with h; subst h; exact fun h=>h
theorem zLI.zUG {w:World}{M G:Nat→Prop}{A At Ap:Option Addr}{l:List Tx}{th:List Hd2}{ps:List Pw}{bo:Nat}{s:Nr}(h:zLI w M A At Ap l th ps bo s)(hG:∀b,G b→∃t cells,Blk w b t cells∧∀u ∈ cells.toList,okv u):zLI w G A At Ap l th ps bo s:=
 ⟨h.tree.other hG,h.zBP.other hG zKz,h.thl,fun k x y e1 e2=>(h.zHr k x y e1 e2).other hG zEe,h.procs.other hG zRl,h.psl,fun x hx=>(h.vars x hx).other hG zEe,h.of.other hG zTk,h.len⟩
def zSg (l:Bs):Prop:=(∃a er,zCk l=.err a er)∨∃nh:List (Nd × Hd2),zCk l=.ok (nh.map Prod.fst)∧(TT.VR (nh.map toT)=false∨∃i er,jL (nh.map Prod.fst)=.err i er)
def zSQ (l:Bs)(w:World)(e:Ending)(w':World):Prop:=Ext w w'∧((e=.returned (.tuple #[.agg XE,.bool false])∧zSg l) ∨
 ∃(nh:List (Nd × Hd2)) (s:Nr) (v:Value),zCk l=.ok (nh.map Prod.fst)∧TT.VR (nh.map toT)=true∧jL (nh.map Prod.fst)=.ok s∧e=.returned (.tuple #[v,.bool true])∧zNt w' (nh.map toT) s v)
theorem zT7 {l:Bs}{nh:List (Nd × Hd2)}(hp:zCk l=.ok (nh.map Prod.fst))(hl:l.length≤1500):(nh.map toT).length≤9000∧(∀x ∈ nh.map toT,TT.zEF x)∧(∀x ∈ nh.map toT,-9223372036854775808≤x.pos∧x.pos≤9223372036854775807)∧∀x ∈ nh,x.1.kind<256 ∧ -9223372036854775808≤x.1.num∧x.1.num≤9223372036854775807:=by
 obtain⟨h1,h2⟩:=zGV hp hl;rw[yQ] at h1;refine⟨by rw[yQ]; omega,fun x hx=>?_,fun x hx=>?_,fun x hx=>?_⟩
 ·obtain⟨y,hy,rfl⟩:=List.mem_map.1 hx;obtain⟨h3,h4⟩:=h2 y.1 (List.mem_map.2 ⟨y,hy,rfl⟩);refine⟨?_,?_⟩
  ·show(xH y.1.text).size≤9000
   have:(xH y.1.text).size=y.1.text.length:=by simp[xH,ByteArray.size]
   have:=h4.2.2.1
   omega
  ·show(y.1.kids.map fun (k:Nat)=>(k:Int)).length≤9000
   rw[yQ];omega
 ·obtain⟨y,hy,rfl⟩:=List.mem_map.1 hx;obtain⟨h3,h4⟩:=h2 y.1 (List.mem_map.2 ⟨y,hy,rfl⟩)
  show -9223372036854775808≤(y.1.pos:Int)∧(y.1.pos:Int)≤9223372036854775807
  have:=h4.2.2.2
  omega
 ·obtain⟨h3,h4⟩:=h2 x.1 (List.mem_map.2 ⟨x,hx,rfl⟩);exact⟨h4.1,h4.2.1⟩
theorem zMq (A:Option Addr)(l:Bs)(n c:Nat)(w:World)(hn:n=l.length)(hl:l.length≤1500)(hcap:l.length≤c)(hnil:A=none→c=0)(hC:Cells w A (vC l)) :
  Calls Tryz.prog 8 #[.slice A n c] w (zSQ l w):=by
 subst hn;have HC:=yG hC;clear hC;obtain⟨w1,HW1⟩:∃w1,Hid (w.alloc (.cells XE 32)=w1):=⟨_,yG rfl⟩;have HX1:Hid (Ext w w1):=yG (by rw[←HW1.out]; exact Ext.alloc _ _);obtain⟨g0,HG0⟩:∃g0,Hid (w.heap.size=g0):=⟨_,yG rfl⟩;have HP1:Hid (Blk w1 g0 32 XE):=yG (by rw[←HW1.out,←HG0.out]; exact Blk.new _ _ _)
 cases hr:zCk l with
 | err a er=>
  have HR:=yG hr;clear hr
  go_enter Tryz.func8,Tryz.ntmps8
  go_wp2_with fail
  have HW1':Hid (w.alloc (.cells #[.slice none 0 0,.slice none 0 0,.slice none 0 0,.slice none 0 0] 32)=w1):=HW1;rw[HW1'.out,HG0.out];refine(zLh A l l.length c w1 rfl (by omega) hcap hnil (HC.out.ext HX1.out)).mono ?_;rintro e w2 ⟨hx2,hp⟩;rw[HR.out] at hp;obtain⟨g2,rfl,_,_⟩:=hp;have HX2:=yG (HX1.out.trans hx2);have HP2:=yG (HP1.out.ext hx2);clear hx2 HP1
  go_upto_region 2 with fail
  have HX3:=yG (HX2.out.trans (Ext.alloc w2 (.cells #[.slice none 0 0] 27)));have HP3:=yG (HP2.out.ext (Ext.alloc w2 (.cells #[.slice none 0 0] 27)));generalize w2.alloc (.cells #[.slice none 0 0] 27)=w3 at *
  go_wp2_with (refine vI rfl 32 (.tmp 2) (.tmp 15) rfl g0 XE rfl rfl 32 _ HP3.out (by kernel_rfl) rfl (by rfl) ?_; intro w4 ht4 hb4)
  refine bodyPost_ret (zBY rfl _ _ g0 32 XE _ rfl hb4 Tryz.underlying32 rfl (by kernel_rfl)) rfl ?_;exact⟨ht4.ext HX3.out (by rw[HG0.out]; exact zX _),.inl ⟨rfl,.inl ⟨a,er,HR.out⟩⟩⟩
 | ok nd=>
  have HR:=yG hr;clear hr
  go_enter Tryz.func8,Tryz.ntmps8
  go_wp2_with fail
  have HW1':Hid (w.alloc (.cells #[.slice none 0 0,.slice none 0 0,.slice none 0 0,.slice none 0 0] 32)=w1):=HW1;rw[HW1'.out,HG0.out];refine(zLh A l l.length c w1 rfl (by omega) hcap hnil (HC.out.ext HX1.out)).mono ?_;rintro e w2 ⟨hx2,hp⟩;rw[HR.out] at hp;obtain⟨A2,c2,nh,rfl,rfl,hns⟩:=hp;have HX2:=yG (HX1.out.trans hx2);have HP2:=yG (HP1.out.ext hx2);have HNS:=yG hns;clear hx2 HP1 hns;obtain⟨hs1,hs2,hs3,hs4⟩:=zT7 HR.out hl;have HT2:=yG (HNS.out.toT hs4)
  go_upto_region 2 with fail
  have hx3:Ext w2 (w2.alloc (.cells #[.slice A2 nh.length c2] 27)):=Ext.alloc _ _;have HX3:=yG (HX2.out.trans hx3);have HP3:=yG (HP2.out.ext hx3);have HT3:=yG (HT2.out.ext hx3);have HB3:=yG (Blk.new w2 27 #[.slice A2 nh.length c2]);have q3:(w2.alloc (.cells #[.slice A2 nh.length c2] 27)).cell? ⟨w2.heap.size,0,none⟩=some (.slice A2 nh.length c2):=HB3.out.cell 0;have hz2:A2=none→c2=0:=zNu HNS.out.row;generalize w2.heap.size=g3 at *;generalize w2.alloc (.cells #[.slice A2 nh.length c2] 27)=w3 at *;have HS:=yG (show(∀x ∈ nh.map toT,TT.zEF x)∧∀x ∈ nh.map toT,-9223372036854775808≤x.pos∧x.pos≤9223372036854775807 from⟨hs2,hs3⟩);have HLN:Hid (nh.length=(nh.map toT).length):=yG (by rw[yQ]);clear hs2 hs3 hs4 hx3
  go_wp2_with fail
  refine(zMA A l l.length c rfl A2 (nh.map toT) nh.length c2 HLN.out w3 (by omega) hcap (HC.out.ext HX3.out) HT3.out hz2 hs1 HS.out.1 HS.out.2).mono ?_;intro e w4 hpost
  have hcs:∃a0 n0 d0 a1 n1 d1 a2 n2 d2 a3 n3 d3 ev,e=.returned (.tuple #[.agg #[.slice a0 n0 d0,.slice a1 n1 d1,.slice a2 n2 d2,.slice a3 n3 d3],ev])∧Ext w3 w4 ∧
    ((ev=.nilIface∧TT.VR (nh.map toT)=true∧∃s,jL (nh.map Prod.fst)=.ok s∧zNt w4 (nh.map toT) s (.agg #[.slice a0 n0 d0,.slice a1 n1 d1,.slice a2 n2 d2,.slice a3 n3 d3]))∨((∃t v,ev=.iface t v)∧#[.slice a0 n0 d0,.slice a1 n1 d1,.slice a2 n2 d2,.slice a3 n3 d3]=XE∧zSg l)):=by
   split at hpost
   ·rename_i hr;obtain⟨hX,hx,hres⟩:=hpost;rw[zSo] at hres
    cases hq:jL (nh.map Prod.fst) with
    | ok s=>
     rw[hq] at hres;obtain⟨v,rfl,hv⟩:=hres;obtain⟨M,A',At,Ap,l',th,ps,bo,ct,cT,cP,co,rfl,hrest⟩:=hv.out;exact⟨_,_,_,_,_,_,_,_,_,_,_,_,_,rfl,hx,.inl ⟨rfl,hr,s,rfl,⟨M,A',At,Ap,l',th,ps,bo,ct,cT,cP,co,rfl,hrest⟩⟩⟩
    | err i er=>
     rw[hq] at hres;obtain⟨g,rfl,_⟩:=hres;exact⟨_,_,_,_,_,_,_,_,_,_,_,_,_,rfl,hx,.inr ⟨⟨_,_,rfl⟩,rfl,.inr ⟨nh,HR.out,.inr ⟨i,er,hq⟩⟩⟩⟩
   ·rename_i hr;obtain⟨rfl,hx⟩:=hpost;exact⟨_,_,_,_,_,_,_,_,_,_,_,_,_,rfl,hx,.inr ⟨⟨_,_,rfl⟩,rfl,.inr ⟨nh,HR.out,.inl (by simpa using hr)⟩⟩⟩
  obtain⟨a0,n0,d0,a1,n1,d1,a2,n2,d2,a3,n3,d3,ev,rfl,hx4,hcase⟩:=hcs;have HX4:=yG (HX3.out.trans hx4);have HP4:=yG (HP3.out.ext hx4);have HCS:=yG hcase;clear hpost hx4 hcase HP3 HP2 HT2 HT3 q3
  go_upto_region 5 with fail
  have hx5:Ext w4 (w4.alloc (.cells #[.slice a0 n0 d0,.slice a1 n1 d1,.slice a2 n2 d2,.slice a3 n3 d3] 32)):=Ext.alloc _ _;have HX5:=yG (HX4.out.trans hx5);have HP5:=yG (HP4.out.ext hx5);have HB5:=yG (Blk.new w4 32 #[.slice a0 n0 d0,.slice a1 n1 d1,.slice a2 n2 d2,.slice a3 n3 d3]);have HNE:Hid (w4.heap.size≠g0):=yG (by have:=HP4.out.lt; omega);generalize w4.heap.size=g5 at *;generalize w4.alloc (.cells #[.slice a0 n0 d0,.slice a1 n1 d1,.slice a2 n2 d2,.slice a3 n3 d3] 32)=w5 at *;have s0:w5.cell? ⟨g5,0,none⟩=some (.slice a0 n0 d0):=HB5.out.cell 0;have s1:w5.cell? ⟨g5,1,none⟩=some (.slice a1 n1 d1):=HB5.out.cell 1;have s2:w5.cell? ⟨g5,2,none⟩=some (.slice a2 n2 d2):=HB5.out.cell 2;have s3:w5.cell? ⟨g5,3,none⟩=some (.slice a3 n3 d3):=HB5.out.cell 3;have cell:∀(a b:World) (i:Nat),Laid g0 32 XE #[.slice a0 n0 d0,.slice a1 n1 d1,.slice a2 n2 d2,.slice a3 n3 d3] a b→b.cell? ⟨g5,i,none⟩=a.cell? ⟨g5,i,none⟩:=fun a b i h=>World.cell?_of_block (w:=a) (h.jR.other g5 HNE.out);have HCELL:=yG cell;have HX45:=yG hx5;clear cell hx5;have h59:∀w9:World,Laid g0 32 XE #[.slice a0 n0 d0,.slice a1 n1 d1,.slice a2 n2 d2,.slice a3 n3 d3] w5 w9→xC w4 (fun b=>b=g0) w9 (fun b=>b=g0):=fun w9 h=>⟨h.jR.os.trans HX45.out.os,h.jR.tape.trans HX45.out.tape,h.jR.output.trans HX45.out.output,by rw[h.jR.size]; exact HX45.out.size,fun b hb hn=>(h.jR.other b hn).trans (HX45.out.block b hb),fun b hb=>.inl hb⟩;have H59:=yG h59;clear h59
  rcases HCS.out with ⟨rfl,hr,s,hres,hps⟩ | ⟨⟨t,v,rfl⟩,hz,hno⟩
  ·have HPS:=yG hps;have HRR:=yG hr;have HRS:=yG hres;clear hr hres hps HCS;refine YA (R:=Laid g0 32 XE #[.slice a0 n0 d0,.slice a1 n1 d1,.slice a2 n2 d2,.slice a3 n3 d3]) (w0:=w5) 5 [.det (.agg #[.slice a0 n0 d0,.slice a1 n1 d1,.slice a2 n2 d2,.slice a3 n3 d3]),.det .nilIface,.det (.bool true),.fact fun _ w=>Blk w g0 32 #[.slice a0 n0 d0,.slice a1 n1 d1,.slice a2 n2 d2,.slice a3 n3 d3],.det (.bool true)] (by kernel_rfl) (by kernel_rfl) (by kernel_rfl) (fun _ _ _=>Laid.trans) ⟨⟨rfl,rfl,rfl,rfl,fun _ _=>rfl⟩,id,id⟩ ?_;apply yZ (.agg #[.slice a0 n0 d0,.slice a1 n1 d1,.slice a2 n2 d2,.slice a3 n3 d3]) rfl rfl rfl
   ·intro w' hw' hH;clear hH;have z0:=(HCELL.out _ _ 0 hw').trans s0;have z1:=(HCELL.out _ _ 1 hw').trans s1;have z2:=(HCELL.out _ _ 2 hw').trans s2;have z3:=(HCELL.out _ _ 3 hw').trans s3;simp[xA,go_sem,z0,z1,z2,z3];exact Laid.refl _
   apply yZ .nilIface rfl rfl rfl
   ·intro w' hw' hH;clear hH;simp[xA,go_sem];exact Laid.refl _
   apply yZ (.bool true) rfl rfl rfl
   ·intro w' hw' hH;clear hH;simp[xA,go_sem];exact Laid.refl _
   apply vB (fun _ w=>Blk w g0 32 #[.slice a0 n0 d0,.slice a1 n1 d1,.slice a2 n2 d2,.slice a3 n3 d3]) (fun _ _ _ h k=>k.new h) rfl rfl rfl
   ·intro w' hw' hH;clear hH;have hold:=hw'.here (.inl HP5.out)
    have hsz:∃old:Array Value,Blk w' g0 32 old∧old.size=4:=by
     rcases hold with h | h
     ·exact⟨_,h,rfl⟩
     ·exact⟨_,h,rfl⟩
    obtain⟨old,hb,hs⟩:=hsz;refine zHX 32 (.tmp 2) (.tmp 22) rfl g0 #[.slice a0 n0 d0,.slice a1 n1 d1,.slice a2 n2 d2,.slice a3 n3 d3] rfl rfl 32 old hb (by kernel_rfl) hs rfl ?_;intro w9 ht9 hb9;exact⟨hb9,ht9,fun _=>.inr hb9,fun _=>hb9⟩
   intro v9;apply yZ (.bool true) rfl rfl rfl
   ·intro w' hw' hH;clear hH;simp[xA,go_sem];exact Laid.refl _
   apply xX;intro w9 hw9 hH;have hb9:Blk w9 g0 32 #[.slice a0 n0 d0,.slice a1 n1 d1,.slice a2 n2 d2,.slice a3 n3 d3]:=hH (none,fun w=>Blk w g0 32 #[.slice a0 n0 d0,.slice a1 n1 d1,.slice a2 n2 d2,.slice a3 n3 d3]) (by simp);have HX9:Hid (Ext w w9):=yG (hw9.jR.ext HX5.out (by rw[HG0.out]; exact zX _));clear hH;refine(show wpList Tryz.prog _ _ [] _ _ from ?_)
   try simp only[Act.put,yD,yF,yE]
   go_wp2_with fail
   refine bodyPost_ret (zBY rfl _ _ g0 32 #[.slice a0 n0 d0,.slice a1 n1 d1,.slice a2 n2 d2,.slice a3 n3 d3] _ rfl hb9 Tryz.underlying32 rfl (by kernel_rfl)) rfl ?_;obtain⟨M,A',At,Ap,l',th,ps,bo,ct,cT,cP,co,hve,hprg,htn,hpn⟩:=HPS.out.out;have hmv:=H59.out w9 hw9
   have hfar:∀b,b=g0→∃t cells,Blk w4 b t cells∧∀u ∈ cells.toList,okv u:=fun b hb=>by
    subst hb;refine⟨_,_,HP4.out,fun u hu=>?_⟩;unfold XE at hu;simp only[zU,List.not_mem_nil,or_false,or_self] at hu;subst hu
    trivial
   exact⟨HX9.out,.inr ⟨nh,s,_,HR.out,HRR.out,HRS.out,rfl,⟨(fun b=>b=g0),A',At,Ap,l',th,ps,bo,ct,cT,cP,co,hve,(hprg.zUG hfar).xE hmv,htn,hpn⟩⟩⟩
  ·have HZZ:=yG hz;have HNO:=yG hno;clear hz hno HCS;refine YA (R:=Laid g0 32 XE #[.slice a0 n0 d0,.slice a1 n1 d1,.slice a2 n2 d2,.slice a3 n3 d3]) (w0:=w5) 5 [.det (.agg #[.slice a0 n0 d0,.slice a1 n1 d1,.slice a2 n2 d2,.slice a3 n3 d3]),.det (.iface t v),.det (.bool false),.fact fun _ w=>Blk w g0 32 #[.slice a0 n0 d0,.slice a1 n1 d1,.slice a2 n2 d2,.slice a3 n3 d3],.det (.bool false)] (by kernel_rfl) (by kernel_rfl) (by kernel_rfl) (fun _ _ _=>Laid.trans) ⟨⟨rfl,rfl,rfl,rfl,fun _ _=>rfl⟩,id,id⟩ ?_;apply yZ (.agg #[.slice a0 n0 d0,.slice a1 n1 d1,.slice a2 n2 d2,.slice a3 n3 d3]) rfl rfl rfl
   ·intro w' hw' hH;clear hH;have z0:=(HCELL.out _ _ 0 hw').trans s0;have z1:=(HCELL.out _ _ 1 hw').trans s1;have z2:=(HCELL.out _ _ 2 hw').trans s2;have z3:=(HCELL.out _ _ 3 hw').trans s3;simp[xA,go_sem,z0,z1,z2,z3];exact Laid.refl _
   apply yZ (.iface t v) rfl rfl rfl
   ·intro w' hw' hH;clear hH;simp[xA,go_sem];exact Laid.refl _
   apply yZ (.bool false) rfl rfl rfl
   ·intro w' hw' hH;clear hH;simp[xA,go_sem];exact Laid.refl _
   apply vB (fun _ w=>Blk w g0 32 #[.slice a0 n0 d0,.slice a1 n1 d1,.slice a2 n2 d2,.slice a3 n3 d3]) (fun _ _ _ h k=>k.new h) rfl rfl rfl
   ·intro w' hw' hH;clear hH;have hold:=hw'.here (.inl HP5.out)
    have hsz:∃old:Array Value,Blk w' g0 32 old∧old.size=4:=by
     rcases hold with h | h
     ·exact⟨_,h,rfl⟩
     ·exact⟨_,h,rfl⟩
    obtain⟨old,hb,hs⟩:=hsz;refine zHX 32 (.tmp 2) (.tmp 22) rfl g0 #[.slice a0 n0 d0,.slice a1 n1 d1,.slice a2 n2 d2,.slice a3 n3 d3] rfl rfl 32 old hb (by kernel_rfl) hs rfl ?_;intro w9 ht9 hb9;exact⟨hb9,ht9,fun _=>.inr hb9,fun _=>hb9⟩
   intro v9;apply yZ (.bool false) rfl rfl rfl
   ·intro w' hw' hH;clear hH;simp[xA,go_sem];exact Laid.refl _
   apply xX;intro w9 hw9 hH;have hb9:Blk w9 g0 32 #[.slice a0 n0 d0,.slice a1 n1 d1,.slice a2 n2 d2,.slice a3 n3 d3]:=hH (none,fun w=>Blk w g0 32 #[.slice a0 n0 d0,.slice a1 n1 d1,.slice a2 n2 d2,.slice a3 n3 d3]) (by simp);have HX9:Hid (Ext w w9):=yG (hw9.jR.ext HX5.out (by rw[HG0.out]; exact zX _));clear hH;refine(show wpList Tryz.prog _ _ [] _ _ from ?_)
   try simp only[Act.put,yD,yF,yE]
   go_wp2_with fail
   refine bodyPost_ret (zBY rfl _ _ g0 32 #[.slice a0 n0 d0,.slice a1 n1 d1,.slice a2 n2 d2,.slice a3 n3 d3] _ rfl hb9 Tryz.underlying32 rfl (by kernel_rfl)) rfl ?_;exact⟨HX9.out,.inl ⟨by rw[HZZ.out]; rfl,HNO.out⟩⟩
end Go.Proofs.YtbadjmmjbpeocaaGreat
