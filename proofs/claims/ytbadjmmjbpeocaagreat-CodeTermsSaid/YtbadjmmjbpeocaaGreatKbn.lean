/- Statements, blocks, procedures: all nodes beneath them that name something come to have their numbers. (and what follows of it). The conditions stand at each lemma. -/
import Derived.Test.YtbadjmmjbpeocaaGreatKaa
import Derived.Test.YtbadjmmjbpeocaaGreatKag
import Derived.Test.YtbadjmmjbpeocaaGreatKbj
set_option linter.unusedVariables false
set_option linter.unusedSimpArgs false
set_option maxRecDepth 100000
set_option maxHeartbeats 16000000
namespace Go.Proofs.YtbadjmmjbpeocaaGreat
structure zSB (t:List Nd):Prop where
 flat:∀i,i<t.length→(xB t i).kind=5∨(xB t i).kind=21→(xB t i).kids=[]
 f7:∀i,i<t.length→(xB t i).kind=7→∀a b,(xB t i).kids=[a,b]→(xB t b).kind=5
 f8:∀i,i<t.length→(xB t i).kind=8→∀a b c,(xB t i).kids=[a,b,c]→(xB t b).kind=5
 f11:∀i,i<t.length→(xB t i).kind=11→∀a b,(xB t i).kids=[a,b]→(xB t a).kind=5∧(xB t b).kind=5
 f15:∀i,i<t.length→(xB t i).kind=15→∀a b c,(xB t i).kids=[a,b,c]→(xB t a).kind=21∧(xB t b).kind=21
theorem zTS {t:List Nd}{m:Nn}{F G:Nat→Prop}(c:Nr→Prop) [∀s,Decidable (c s)] (a:Nat)(b:Int)(h:XV t m F G):XV t (fun s=>if c s then m s else .err a b) F G:=fun s s' h1 h2 h3 e=>by
 simp only at e
 split at e
 ·exact h s s' h1 h2 h3 e
 ·cases e
theorem zNZ {t:List Nd}{m:Nn}{F G:Nat→Prop}(c:Nr→Prop) [∀s,Decidable (c s)] (a:Nat)(b:Int)(h:XV t m F G):XV t (fun s=>if c s then .err a b else m s) F G:=fun s s' h1 h2 h3 e=>by
 simp only at e
 split at e
 ·cases e
 ·exact h s s' h1 h2 h3 e
theorem XV.zUT {t:List Nd}{m:Nn}{F G:Nat→Prop}(h:XV t m F G)(E:Nat→Prop)(hE:∀j s,E j→zFa t s j):XV t m F fun j=>G j∨E j:=fun s s' a b c d=>by
 obtain⟨x,y,z⟩:=h s s' a b c d
 exact⟨x,y,fun j hj=>by
  rcases hj with hj | hj
  ·exact z j hj
  ·exact hE j s' hj⟩
theorem zBh {t:List Nd}{i j:Nat}(h:Sub t i j):j=i∨∃k ∈ (xB t i).kids,Sub t k j:=by
 cases h with
 | self=>exact .inl rfl
 | kid hk h=>exact .inr ⟨_,hk,h⟩
theorem zKG {t:List Nd}(R:XK t):∀(f i:Nat),t.length≤f+i→i<t.length→(zAS (xB t i).kind∨(xB t i).kind=20)→XV t (xW t f i) (Sub t i) (Sub t i)
 | 0,i,h,hi,_=>absurd h (by omega)
 | f+1,i,h,hi,hx=>by
  have hk:∀k ∈ (xB t i).kids,zAS (xB t k).kind∧k<t.length:=by
   rcases hx with hx | hx
   ·exact zLQ R hi hx
   ·have hf:=R.form i hi (by omega) (by omega);unfold zAb at hf;rw[hx] at hf;obtain⟨a,ha,hb⟩:=hf;intro k hm;have hu:=R.up i k hm;rw[ha] at hm;rw[List.mem_singleton.1 hm] at hu ⊢;exact⟨hb,hu.2⟩
  have hkids:XV t (vE (xW t f) (xB t i).kids) (Sub t i) fun j=>∃k ∈ (xB t i).kids,Sub t k j:=zCd _ fun k hm=>(zKG R f k (by have:=(R.up i k hm).1; omega) (hk k hm).2 (.inl (hk k hm).1)).mono (fun j hj=>.kid hm hj) fun _ h=>h
  have key:∀ {m:Nn},XV t m (fun j=>j=i) (fun j=>j=i)→XV t (fun s=>(m s).bind (vE (xW t f) (xB t i).kids)) (Sub t i) (Sub t i):=fun {m} hm=>
   (JL (hm.mono (F':=Sub t i) (fun j hj=>by rw[hj]; exact .self i) fun _ h=>h) hkids).mono (fun _ h=>h) fun j hj=>zBh hj
  have e:xW t (f+1) i=fun s=>((if (xB t i).kind=22 then (match VE s (xB t i).text with | none=>.err i 70 | some v=>.ok (s.set i v.n))
   else if (xB t i).kind=20 then ofN t i s else .ok s):YU Nr).bind (vE (xW t f) (xB t i).kids):=by
   funext s
   rfl
  rw[e]
  by_cases h22:(xB t i).kind=22
  ·simp only[if_pos h22];exact key (zRG hi (by omega))
  ·by_cases h20:(xB t i).kind=20
   ·simp only[if_neg h22,if_pos h20];exact key (zPb hi (by unfold zFI; omega))
   ·simp only[if_neg h22,if_neg h20];refine key (zHH fun j s hj=>?_);rw[hj];refine zBj ?_ h20
    have:=hx.resolve_right h20
    unfold zAS at this;unfold zFI;omega
theorem zIA {t:List Nd}(R:XK t){st:Nat→Nn}{i:Nat}{top:Bool}(hi:i<t.length)(h6:(xB t i).kind=6)(hst:∀k ∈ (xB t i).kids,7≤(xB t k).kind→(xB t k).kind≤19→XV t (st k) (Sub t k) (Sub t k)) :
  XV t (jN t st i top) (Sub t i) (Sub t i):=by
 have hf:=R.form i hi (by omega) (by omega);unfold zAb at hf;rw[h6] at hf
 have h1:XV t (vE (fun k s=>if (top||(xB t k).kind != 19)=true then st k s else .err k 73) (xB t i).kids) (Sub t i) fun j=>∃k ∈ (xB t i).kids,Sub t k j:=
  zCd _ fun k hm=>(zTS (fun _=>(top||(xB t k).kind != 19)=true) k 73 (hst k hm (hf k hm).1 (hf k hm).2)).mono (fun j hj=>.kid hm hj) fun _ h=>h
 intro s s' a b c d;obtain⟨x,y,z⟩:=zHa h1 s s' a b c d;refine⟨x,y,fun j hj=>?_⟩
 rcases zBh hj with rfl | hj
 ·exact zBj (by unfold zFI; omega) (by omega)
 ·exact z j hj
theorem zPX {t:List Nd}{i:Nat}(hi:i<t.length)(h7:7≤(xB t i).kind∧(xB t i).kind≤19):XV t (ZC t i) (fun j=>j=i) fun j=>j=i∧(xB t i).kind≠15:=by
 have e:ZC t i=fun s=>if (xB t i).kind=7∨(xB t i).kind=11∨(xB t i).kind=16 then ZU t i s else .ok s:=rfl;rw[e]
 by_cases h:(xB t i).kind=7∨(xB t i).kind=11∨(xB t i).kind=16
 ·simp only[if_pos h];exact(zNQ hi (by omega)).mono (fun _ h=>h) fun _ h=>h.1
 ·simp only[if_neg h];refine zHH fun j s hj=>?_;obtain⟨rfl,h15⟩:=hj;exact zBj (by unfold zFI; omega) (by omega)
theorem zKV {t:List Nd}(R:XK t)(C:zSB t):∀(f i:Nat),t.length≤f+i→i<t.length→7≤(xB t i).kind→(xB t i).kind≤19→XV t (vF t f i) (Sub t i) (Sub t i)
 | 0,i,h,hi,_,_=>absurd h (by omega)
 | f+1,i,h,hi,h7,h19=>by
  have hup:=R.up i;have hform:=R.form i hi (by omega) (by omega);have hw5:∀ {k j:Nat},k<t.length→(xB t k).kind=5∨(xB t k).kind=21→Sub t k j→j=k:=fun {k j} hk h5 hs=>hs.none (C.flat k hk h5);have hex:∀k ∈ (xB t i).kids,zAS (xB t k).kind∨(xB t k).kind=20→XV t (xW t (f+1) k) (Sub t i) (Sub t k):=fun k hm hx=>(zKG R (f+1) k (by have:=(hup k hm).1; omega) (hup k hm).2 hx).mono (fun j hj=>.kid hm hj) fun _ h=>h;have hofk:∀k ∈ (xB t i).kids,(xB t k).kind=5∨(xB t k).kind=20→XV t (ofN t k) (Sub t i) (fun j=>j=k):=fun k hm hx=>(zPb (hup k hm).2 (by unfold zFI; omega)).mono (fun j hj=>by rw[hj]; exact .kid hm (.self k)) fun _ h=>h
  have hbl:∀k ∈ (xB t i).kids,(xB t k).kind=6→XV t (jN t (vF t f) k false) (Sub t i) (Sub t k):=fun k hm h6=>
   (zIA R (hup k hm).2 h6 fun x hx a b=>zKV R C f x (by have:=(hup k hm).1; have:=(R.up k x hx).1; omega) (R.up k x hx).2 a b).mono (fun j hj=>.kid hm hj) fun _ h=>h
  have fin:∀ {m:Nn} {G:Nat→Prop},XV t m (Sub t i) G→(∀j,(∃k ∈ (xB t i).kids,Sub t k j)→G j)→((xB t i).kind=15→G i)→XV t (fun s=>(m s).bind (ZC t i)) (Sub t i) (Sub t i):=fun {m G} hm hg h15=>
   (JL hm ((zPX hi ⟨h7,h19⟩).mono (F':=Sub t i) (fun j hj=>by rw[hj]; exact .self i) fun _ h=>h)).mono (fun _ h=>h) fun j hj=>by
    rcases zBh hj with rfl | hj
    ·by_cases hk:(xB t j).kind=15
     ·exact .inl (h15 hk)
     ·exact .inr ⟨rfl,hk⟩
    ·exact .inl (hg j hj)
  have e:vF t (f+1) i=fun s=>((if (xB t i).kind=7∨(xB t i).kind=8 then
    (xW t (f+1) (ZL t i 0) s).bind fun s=>(ZI t (ZL t i 1) (zAL s (ZL t i 0)) s).bind (vE (xW t (f+1)) ((xB t i).kids.drop 2))
   else if (xB t i).kind=9 then
    (ofN t (ZL t i 0) s).bind fun s=>
     (if (xB t i).kids.length=((s.xG[(zAL s (ZL t i 0)).toNat]?).map fun x=>x.zAX.length).getD 0+1 then YU.ok (s.set i (zAL s (ZL t i 0))) else .err i 72).bind
      (vE (xW t (f+1)) (xB t i).kids)
   else if (xB t i).kind=11 then (ofN t (ZL t i 0) s).bind fun s=>ZI t (ZL t i 1) (zAL s (ZL t i 0)) s
   else if (xB t i).kind=15 then
    (if (VE s (xB t i).text).isSome=true then .err i 71
     else jQ (fun s=>(vV t i true s).bind (jN t (vF t f) (ZL t i 2) false)) s)
   else vE (fun k s=>if (xB t k).kind=5 then ofN t k s else if (xB t k).kind=6 then jN t (vF t f) k false s else xW t (f+1) k s) (xB t i).kids s):YU Nr).bind (ZC t i):=by
   funext s
   rw[vF]
  rw[e]
  have hcol:∀k ∈ (xB t i).kids,(xB t k).kind=5→∀y:Nat,XV t (fun s=>ZI t k (zAL s y) s) (Sub t i) (fun j=>j=k):=fun k hm h5 y s s' a b c d=>
   ((zMT (x:=zAL s y) (hup k hm).2 (by unfold zFI; omega) (by omega)).mono (F':=Sub t i) (fun j hj=>by rw[hj]; exact .kid hm (.self k)) fun _ h=>h) s s' a b c d
  by_cases c78:(xB t i).kind=7∨(xB t i).kind=8
  ·simp only[if_pos c78]
   have hk:∃a b l,(xB t i).kids=a::b::l∧(xB t a).kind=20∧(xB t b).kind=5∧∀k ∈ l,zAS (xB t k).kind:=by
    unfold zAb at hform
    rcases c78 with hk | hk
    ·rw[hk] at hform;obtain⟨a,b,h1,h2⟩:=hform;exact⟨a,b,[],h1,h2,C.f7 i hi hk a b h1,fun k hk=>by cases hk⟩
    ·rw[hk] at hform;obtain⟨a,b,c,h1,h2,h3⟩:=hform;exact⟨a,b,[c],h1,h2,C.f8 i hi hk a b c h1,fun k hk=>by rw[List.mem_singleton.1 hk]; exact h3⟩
   obtain⟨a,b,l,hkk,ha,hb,hl⟩:=hk
   have k0:ZL t i 0=a:=by unfold ZL; rw[hkk]; rfl
   have k1:ZL t i 1=b:=by unfold ZL; rw[hkk]; rfl
   rw[k0,k1]
   have hma:a ∈ (xB t i).kids:=by rw[hkk]; simp
   have hmb:b ∈ (xB t i).kids:=by rw[hkk]; simp
   have hd:(xB t i).kids.drop 2=l:=by rw[hkk]; rfl
   rw[hd]
   have hml:∀k ∈ l,k ∈ (xB t i).kids:=fun k hk=>by rw[hkk]; exact List.mem_cons_of_mem _ (List.mem_cons_of_mem _ hk)
   refine fin (JL (hex a hma (.inr ha)) (JL (hcol b hmb hb a) (zCd l fun k hk=>hex k (hml k hk) (.inl (hl k hk))))) (fun j hj=>?_) (fun h15=>by omega);obtain⟨k,hk,hs⟩:=hj;rw[hkk] at hk
   rcases List.mem_cons.1 hk with rfl | hk
   ·exact .inl hs
   ·rcases List.mem_cons.1 hk with rfl | hk
    ·exact .inr (.inl (hw5 (hup k hmb).2 (.inl hb) hs))
    ·exact .inr (.inr ⟨k,hk,hs⟩)
  ·simp only[if_neg c78]
   by_cases c9:(xB t i).kind=9
   ·simp only[if_pos c9];have hf:=hform;unfold zAb at hf;rw[c9] at hf;obtain⟨a,l,hkk,ha,hl⟩:=hf
    have k0:ZL t i 0=a:=by unfold ZL; rw[hkk]; rfl
    rw[k0]
    have hma:a ∈ (xB t i).kids:=by rw[hkk]; simp
    have hall:∀k ∈ (xB t i).kids,zAS (xB t k).kind∨(xB t k).kind=20:=fun k hk=>by
     rw[hkk] at hk
     rcases List.mem_cons.1 hk with rfl | hk
     ·exact .inr ha
     ·exact .inl (hl k hk)
    have hset:XV t (fun s=>(if (xB t i).kids.length=((s.xG[(zAL s a).toNat]?).map fun x=>x.zAX.length).getD 0+1 then YU.ok (s.set i (zAL s a)) else .err i 72)) (Sub t i) (fun j=>j=i):=fun s s' h1 h2 h3 e=>by
     simp only at e
     split at e
     ·injection e with e;subst e;obtain⟨x,y,z⟩:=zEP (t:=t) i hi (zAL s a) h1 h2 h3 ⟨fun hv=>absurd hv (by unfold zFI; omega),fun hv=>by omega⟩;exact⟨x.mono fun j hj=>by rw[hj]; exact .self i,y,z⟩
     ·cases e
    exact fin (JL (hofk a hma (.inr ha)) (JL hset (zCd _ fun k hk=>hex k hk (hall k hk)))) (fun j hj=>.inr (.inr hj)) (fun h15=>by omega)
   ·simp only[if_neg c9]
    by_cases c11:(xB t i).kind=11
    ·simp only[if_pos c11];have hf:=hform;unfold zAb at hf;rw[c11] at hf;obtain⟨a,b,hkk⟩:=hf;obtain⟨ha,hb⟩:=C.f11 i hi c11 a b hkk
     have k0:ZL t i 0=a:=by unfold ZL; rw[hkk]; rfl
     have k1:ZL t i 1=b:=by unfold ZL; rw[hkk]; rfl
     rw[k0,k1]
     have hma:a ∈ (xB t i).kids:=by rw[hkk]; simp
     have hmb:b ∈ (xB t i).kids:=by rw[hkk]; simp
     refine fin (JL (hofk a hma (.inl ha)) (hcol b hmb hb a)) (fun j hj=>?_) (fun h15=>by omega);obtain⟨k,hk,hs⟩:=hj;rw[hkk] at hk
     rcases List.mem_cons.1 hk with rfl | hk
     ·exact .inl (hw5 (hup k hma).2 (.inl ha) hs)
     ·rw[List.mem_singleton.1 hk] at hs;exact .inr (hw5 (hup b hmb).2 (.inl hb) hs)
    ·simp only[if_neg c11]
     by_cases c15:(xB t i).kind=15
     ·simp only[if_pos c15];have hf:=hform;unfold zAb at hf;rw[c15] at hf;obtain⟨a,b,c,hkk,hc⟩:=hf;obtain⟨ha,hb⟩:=C.f15 i hi c15 a b c hkk
      have k2:ZL t i 2=c:=by unfold ZL; rw[hkk]; rfl
      rw[k2]
      have hma:a ∈ (xB t i).kids:=by rw[hkk]; simp
      have hmb:b ∈ (xB t i).kids:=by rw[hkk]; simp
      have hmc:c ∈ (xB t i).kids:=by rw[hkk]; simp
      have hin:XV t (fun s=>(vV t i true s).bind (jN t (vF t f) c false)) (Sub t i) fun j=>j=i∨Sub t c j:=
       JL ((zDG hi (by omega)).mono (F':=Sub t i) (fun j hj=>by rw[hj]; exact .self i) fun _ h=>h) (hbl c hmc hc)
      have hua:=(hup a hma).2;have hub:=(hup b hmb).2;refine fin (XV.zUT (zNZ (fun s=>(VE s (xB t i).text).isSome=true) i 71 (zHa hin)) (fun j=>j=a∨j=b) fun j s hj=>?_) (fun j hj=>?_) (fun _=>.inl (.inl rfl))
      ·rcases hj with rfl | rfl
       ·exact zBj (by unfold zFI; omega) (by omega)
       ·exact zBj (by unfold zFI; omega) (by omega)
      ·obtain⟨k,hk,hs⟩:=hj;rw[hkk] at hk
       rcases List.mem_cons.1 hk with rfl | hk
       ·exact .inr (.inl (hw5 hua (.inr ha) hs))
       ·rcases List.mem_cons.1 hk with rfl | hk
        ·exact .inr (.inr (hw5 hub (.inr hb) hs))
        ·rw[List.mem_singleton.1 hk] at hs;exact .inl (.inr hs)
     ·simp only[if_neg c15]
      have hall:∀k ∈ (xB t i).kids,(xB t k).kind=5∨(xB t k).kind=6∨zAS (xB t k).kind∨(xB t k).kind=20:=by
       intro k hk;have hf:=hform;unfold zAb at hf
       have hcs:(xB t i).kind=10∨(xB t i).kind=12∨(xB t i).kind=13∨(xB t i).kind=14∨(xB t i).kind=16∨(xB t i).kind=17∨(xB t i).kind=18∨(xB t i).kind=19:=by omega
       rcases hcs with hx | hx | hx | hx | hx | hx | hx | hx <;> rw[hx] at hf
       ·obtain⟨a,h1,h2⟩:=hf;rw[h1] at hk; rw[List.mem_singleton.1 hk]; exact .inr (.inr (.inr h2))
       ·obtain⟨a,h1,h2⟩:=hf;rw[h1] at hk; rw[List.mem_singleton.1 hk]
        rcases h2 with h2 | h2
        ·exact .inl h2
        ·exact .inr (.inr (.inr h2))
       ·obtain⟨a,h1,h2⟩:=hf;rw[h1] at hk; rw[List.mem_singleton.1 hk]
        rcases h2 with h2 | h2
        ·exact .inl h2
        ·exact .inr (.inr (.inr h2))
       ·obtain⟨a,b,l,h1,h2,h3,h4⟩:=hf;rw[h1] at hk
        rcases List.mem_cons.1 hk with rfl | hk
        ·exact .inr (.inr (.inl h2))
        ·rcases List.mem_cons.1 hk with rfl | hk
         ·exact .inr (.inr (.inl h3))
         ·exact .inr (.inl (h4 k hk))
       ·obtain⟨a,h1,h2⟩:=hf;rw[h1] at hk; rw[List.mem_singleton.1 hk]; exact .inr (.inr (.inl h2))
       ·obtain⟨a,h1,h2⟩:=hf;rw[h1] at hk; rw[List.mem_singleton.1 hk]; exact .inr (.inr (.inl h2))
       ·have h1:(xB t i).kids=[]:=hf;rw[h1] at hk; cases hk
       ·have h1:(xB t i).kids=[]:=hf;rw[h1] at hk; cases hk
      refine fin (G:=fun j=>∃k ∈ (xB t i).kids,Sub t k j) (zCd _ fun k hk=>?_) (fun j hj=>hj) (fun h15=>absurd h15 c15)
      by_cases d5:(xB t k).kind=5
      ·simp only[if_pos d5];exact(hofk k hk (.inl d5)).mono (fun _ h=>h) fun j hj=>hw5 (hup k hk).2 (.inl d5) hj
      ·by_cases d6:(xB t k).kind=6
       ·simp only[if_neg d5,if_pos d6];exact hbl k hk d6
       ·simp only[if_neg d5,if_neg d6];exact hex k hk (by rcases hall k hk with h | h | h | h; exact absurd h d5; exact absurd h d6; exact .inl h; exact .inr h)
theorem zG4 {t:List Nd}:∀(l:List Nat),(∀k ∈ l,k<t.length∧(xB t k).kind≠20)→XV t (ZR t l) (fun j=>j ∈ l) (fun j=>j ∈ l)
 | [],_=>by
  have e:ZR t []=YU.ok:=by funext s; rfl
  rw[e]
  exact zHH fun j s h=>by cases h
 | k::l,h=>by
  have e:ZR t (k::l)=fun s=>if (VE s (xB t k).text).isSome=true then .err k 71 else (vV t k false s).bind (ZR t l):=by funext s; rfl
  rw[e];refine(zNZ (fun s=>(VE s (xB t k).text).isSome=true) k 71 (JL ((zDG (h k (List.mem_cons_self ..)).1 (h k (List.mem_cons_self ..)).2).mono (F':=fun j=>j ∈ k::l) (fun j hj=>by rw[hj]; exact List.mem_cons_self ..) fun _ h=>h) ((zG4 l fun x hx=>h x (List.mem_cons_of_mem _ hx)).mono (fun j hj=>List.mem_cons_of_mem _ hj) fun _ h=>h))).mono (fun _ h=>h) fun j hj=>?_
  rcases List.mem_cons.1 hj with rfl | hj
  ·exact .inl rfl
  ·exact .inr hj
def zHv (t:List Nd)(p j:Nat):Prop:=∃k ∈ (xB t p).kids,Sub t k j
structure zPi (t:List Nd):Prop where
 two:∀i,i<t.length→(xB t i).kind=3→∃a b,(xB t i).kids=[a,b]∧(xB t a).kind=4∧(xB t b).kind=6
 words:∀i,i<t.length→(xB t i).kind=4→∀k ∈ (xB t i).kids,(xB t k).kind=5
structure zPg (t:List Nd)(s:Nr)(p:Np):Prop where
 few:p.vars.length≤64
 names:∀i,zHv t p.root i→zBN t { s with vars:=p.vars } i (s.of.getD i (-1))
theorem zTt {t:List Nd}(R:XK t)(C:zSB t)(P:zPi t){s s':Nr}{j:Nat}{p:Np}(hp:s.procs[j]?=some p)(hr:p.root<t.length)(h3:(xB t p.root).kind=3)(hb:s.blocks=[])(hl:s.of.length=t.length)(h:zFY t j s=.ok s') :
  ∃q,s'.procs=s.procs.set j q∧q.root=p.root∧q.name=p.name∧s'.xG=s.xG∧s'.blocks=[]∧s'.of.length=t.length∧zPg t s' q∧∀i,¬zHv t p.root i→s'.of.getD i (-1)=s.of.getD i (-1):=by
 unfold zFY at h;rw[hp] at h
 simp only at h
 obtain⟨x,e1,e2⟩:=jZ h;injection e2 with e2;unfold jQ at e1;obtain⟨y,f1,f2⟩:=jZ e1;injection f2 with f2;obtain⟨a,b,hkk,ha,hb6⟩:=P.two _ hr h3
 have k0:ZL t p.root 0=a:=by unfold ZL; rw[hkk]; rfl
 have k1:ZL t p.root 1=b:=by unfold ZL; rw[hkk]; rfl
 rw[k0,k1] at f1
 have hma:a ∈ (xB t p.root).kids:=by rw[hkk]; simp
 have hmb:b ∈ (xB t p.root).kids:=by rw[hkk]; simp
 have hal:=(R.up _ a hma).2;have hbl:=(R.up _ b hmb).2;have hwords:=P.words a hal ha
 have hD:XV t (fun s=>(ZR t (xB t a).kids s).bind (jN t (vF t t.length) b true)) (zHv t p.root) fun j=>j ∈ (xB t a).kids∨Sub t b j:=
  JL ((zG4 _ fun k hk=>⟨(R.up a k hk).2,by rw[hwords k hk]; decide⟩).mono (F':=zHv t p.root) (fun j hj=>⟨a,hma,.kid hj (.self j)⟩) fun _ h=>h)
   ((zIA R hbl hb6 fun k hk h7 h19=>zKV R C t.length k (by omega) (R.up b k hk).2 h7 h19).mono (fun j hj=>⟨b,hmb,hj⟩) fun _ h=>h)
 obtain⟨st,ke,va⟩:=hD (⟨s.xG,s.procs,s.of,[],[]::s.blocks⟩:Nr) y ⟨zW _,fun c hc v hv=>(by
  rcases List.mem_cons.1 hc with rfl | hc
  ·cases hv
  ·rw[hb] at hc
   cases hc)⟩ (by simp) hl f1
 obtain⟨n,c,rest,g1,g2⟩:=ke.blocks;injection g1 with g1 g3;subst g1
 have g3:rest=[]:=by rw[←g3]; exact hb
 subst g3
 have hxo:x.of=y.of:=by rw[←f2]
 have hxt:x.xG=y.xG:=by rw[←f2]
 have hxv:x.vars=y.vars:=by rw[←f2]
 have hxp:x.procs=y.procs:=by rw[←f2]
 have hxb:x.blocks=[]:=by rw[←f2]; show y.blocks.tail=[]; rw[g2]; rfl
 have hso:s'.of=y.of:=by rw[←e2,←hxo]
 have hst:s'.xG=y.xG:=by rw[←e2,←hxt]
 refine⟨{ p with params:=(xB t a).kids.length,vars:=x.vars },?_,rfl,rfl,hst.trans st.xG,by rw[←e2]; exact hxb,by rw[hso]; exact st.len.trans hl,⟨by show x.vars.length≤64; rw[hxv]; exact st.inn.few,fun i hi=>?_⟩,fun i hi=>by rw[hso]; exact st.fr i hi⟩
 ·rw[←e2,k0]
  show x.procs.set j _=_
  rw[hxp,st.procs]
 ·have hval:∀z,zFa t y z→zBN t { s' with vars:=x.vars } z (s'.of.getD z (-1)):=fun z hz=>by
   rw[hso];exact zBN.up hz hst ⟨[],by simp[hxv]⟩
  refine hval i ?_;obtain⟨k,hk,hs⟩:=hi;rw[hkk] at hk
  rcases List.mem_cons.1 hk with rfl | hk
  ·rcases zBh hs with rfl | ⟨z,hz,hs⟩
   ·exact zBj (by unfold zFI; omega) (by omega)
   ·have h5:=hwords z hz;rw[hs.none (C.flat z (R.up k z hz).2 (.inl h5))];exact va z (.inl hz)
  ·rw[List.mem_singleton.1 hk] at hs;exact va i (.inr hs)
def zOc (t:List Nd)(l:List Np):Prop:=∀(a b:Nat) (p q:Np),l[a]?=some p→l[b]?=some q→a≠b→∀i,zHv t p.root i→¬zHv t q.root i
theorem zKi {t:List Nd}(R:XK t)(C:zSB t)(P:zPi t):∀(f j:Nat) (s s':Nr),s.procs.length≤f+j→s.blocks=[]→s.of.length=t.length→(∀p ∈ s.procs,p.root<t.length∧(xB t p.root).kind=3)→zOc t s.procs →
  (∀k p,k<j→s.procs[k]?=some p→zPg t s p)→JY t f j s=.ok s' →
  s'.of.length=t.length∧s'.xG=s.xG∧s'.procs.map (fun p=>(p.name,p.root))=s.procs.map (fun p=>(p.name,p.root))∧(∀p ∈ s'.procs,zPg t s' p)∧∀i,(∀p ∈ s.procs,¬zHv t p.root i)→s'.of.getD i (-1)=s.of.getD i (-1)
 | 0,j,s,s',hf,hb,hl,hr,hA,hv,h=>by
  injection h with h;subst h;exact⟨hl,rfl,rfl,fun p hp=>by obtain⟨k,hk,rfl⟩:=List.getElem_of_mem hp; exact hv k _ (by omega) (yJ hk),fun _ _=>rfl⟩
 | f+1,j,s,s',hf,hb,hl,hr,hA,hv,h=>by
  unfold JY at h
  split at h
  ·rename_i hj;obtain⟨x,e1,e2⟩:=jZ h;have hpj:=yJ hj;obtain⟨q,h1,h2,h3,h4,h5,h6,h7,h8⟩:=zTt R C P hpj (hr _ (yO hj)).1 (hr _ (yO hj)).2 hb hl e1
   have hlen:x.procs.length=s.procs.length:=by rw[h1,zB]
   have hmap:x.procs.map (fun p:Np=>(p.name,p.root))=s.procs.map (fun p:Np=>(p.name,p.root)):=by
    apply List.ext_getElem?;intro k;rw[h1,zN,zN,List.getElem?_set]
    by_cases hk:j=k
    ·subst hk;simp[hj,h2,h3]
    ·rw[if_neg hk]
   have hroot:∀(k:Nat) (p:Np),x.procs[k]?=some p→∃p':Np,s.procs[k]?=some p'∧p'.root=p.root:=fun k p hp=>by
    have e:(x.procs.map (fun p:Np=>(p.name,p.root)))[k]?=some (p.name,p.root):=by rw[zN,hp]; rfl
    rw[hmap,zN] at e
    cases hs:s.procs[k]? with
    | none=>rw[hs] at e; cases e
    | some p'=>rw[hs] at e; simp at e; exact⟨p',rfl,e.2⟩
   have hrx:∀p ∈ x.procs,p.root<t.length∧(xB t p.root).kind=3:=fun p hp=>by
    obtain⟨k,hk,rfl⟩:=List.getElem_of_mem hp;obtain⟨p',h9,h10⟩:=hroot k _ (yJ hk);rw[←h10];exact hr p' (yB h9)
   have hAx:zOc t x.procs:=fun a b p q' ha hb' hab i=>by
    obtain⟨p1,h9,h10⟩:=hroot a p ha;obtain⟨q1,h11,h12⟩:=hroot b q' hb';rw[←h10,←h12];exact hA a b p1 q1 h9 h11 hab i
   obtain⟨r1,r2,r3,r4,r5⟩:=zKi R C P f (j+1) x s' (by omega) h5 h6 hrx hAx (fun k p hk hp=>by
    by_cases hkj:k=j
    ·subst hkj;rw[h1,List.getElem?_set_self hj] at hp;injection hp with hp;subst hp;exact h7
    ·rw[h1,List.getElem?_set_ne (Ne.symm hkj)] at hp;have hold:=hv k p (by omega) hp;refine⟨hold.few,fun i hi=>?_⟩;rw[h8 i fun hi'=>hA k j p _ hp hpj hkj i hi hi']
     exact zBN.up (hold.names i hi) h4 ⟨[],by simp⟩) e2
   refine⟨r1,r2.trans h4,r3.trans hmap,r4,fun i hi=>?_⟩;rw[r5 i fun p hp=>?_,h8 i (hi _ (yO hj))];obtain⟨k,hk,rfl⟩:=List.getElem_of_mem hp;obtain⟨p',h9,h10⟩:=hroot k _ (yJ hk);rw[←h10];exact hi p' (yB h9)
  ·rename_i hj;injection h with h;subst h;exact⟨hl,rfl,rfl,fun p hp=>by obtain⟨k,hk,rfl⟩:=List.getElem_of_mem hp; exact hv k _ (by omega) (yJ hk),fun _ _=>rfl⟩
structure zHq (t:List Nd)(s:Nr)(j:Nat):Prop where
 tab:(xB t j).kind=2→∃n:Nat,s.of.getD j (-1)=(n:Int)∧(s.xG[n]?).map (·.name)=some (xB t j).text
 proc:(xB t j).kind=3→∃(n:Nat) (p:Np),s.of.getD j (-1)=(n:Int)∧s.procs[n]?=some p∧p.name=(xB t j).text∧p.root=j
theorem zM3 {t:List Nd}:∀(l:List Nat) (cs cs':List Bs) (s s':Nr),zAq t l cs s=.ok (cs',s')→s'.of.length=s.of.length∧s'.procs=s.procs∧s'.xG=s.xG∧s'.blocks=s.blocks∧s'.vars=s.vars∧∀j,j ∉ l→s'.of.getD j (-1)=s.of.getD j (-1)
 | [],cs,cs',s,s',h=>by
  unfold zAq at h;injection h with h;injection h with h1 h2;subst h2;exact⟨rfl,rfl,rfl,rfl,rfl,fun _ _=>rfl⟩
 | k::l,cs,cs',s,s',h=>by
  unfold zAq at h
  split at h
  ·cases h
  ·obtain⟨h1,h2,h3,h4,h5,h6⟩:=zM3 l _ _ _ _ h;refine⟨h1.trans ?_,h2,h3,h4,h5,fun j hj=>(h6 j fun hm=>hj (List.mem_cons_of_mem _ hm)).trans (vGsn fun e=>hj (by rw[e]; exact List.mem_cons_self ..))⟩
   show(s.of.set k _).length=_
   rw[zB]
structure zEp (t:List Nd)(s s':Nr):Prop where
 len:s'.of.length=s.of.length
 blocks:s'.blocks=s.blocks
 xG:∃e,s'.xG=s.xG++e
 procs:∃e,s'.procs=s.procs++e
 val:∀j,zHq t s j→zHq t s' j
theorem zEp.refl (t:List Nd)(s:Nr):zEp t s s:=⟨rfl,rfl,⟨[],by simp⟩,⟨[],by simp⟩,fun _ h=>h⟩
theorem zEp.trans {t:List Nd}{a b c:Nr}(h:zEp t a b)(k:zEp t b c):zEp t a c:=by
 obtain⟨e,he⟩:=h.xG;obtain⟨d,hd⟩:=k.xG;obtain⟨e1,he1⟩:=h.procs;obtain⟨d1,hd1⟩:=k.procs;exact⟨k.len.trans h.len,k.blocks.trans h.blocks,⟨e++d,by rw[hd,he,List.append_assoc]⟩,⟨e1++d1,by rw[hd1,he1,List.append_assoc]⟩,fun j hj=>k.val j (h.val j hj)⟩
theorem zPE {α:Type}{l e:List α}{n:Nat}{x:α}(h:l[n]?=some x):(l++e)[n]?=some x:=by
 obtain⟨h1,_⟩:=List.getElem?_eq_some_iff.1 h;rw[List.getElem?_append_left h1];exact h
theorem zHq.up {t:List Nd}{s s':Nr}{j:Nat}(h:zHq t s j)(ho:s'.of.getD j (-1)=s.of.getD j (-1))(ht:∃e,s'.xG=s.xG++e)(hp:∃e,s'.procs=s.procs++e):zHq t s' j:=by
 obtain⟨e,he⟩:=ht;obtain⟨d,hd⟩:=hp;refine⟨fun hk=>?_,fun hk=>?_⟩
 ·obtain⟨n,h1,h2⟩:=h.tab hk;refine⟨n,ho.trans h1,?_⟩
  cases hs:s.xG[n]? with
  | none=>rw[hs] at h2; cases h2
  | some x=>rw[he,zPE hs,←hs]; exact h2
 ·obtain⟨n,p,h1,h2,h3⟩:=h.proc hk;exact⟨n,p,ho.trans h1,by rw[hd]; exact zPE h2,h3⟩
theorem zRC {t:List Nd}{s s':Nr}{i:Nat}(hi:i<s.of.length)(h2:(xB t i).kind=2)(hw:∀k ∈ (xB t i).kids,(xB t k).kind=5)(h:JU t i s=.ok s'):zEp t s s'∧zHq t s' i∧s'.procs=s.procs:=by
 unfold JU at h
 split at h
 ·cases h
 ·split at h
  ·cases hc:zAq t (xB t i).kids [] s with
   | err a b=>rw[hc] at h; cases h
   | ok x=>
    obtain⟨cs,y⟩:=x;rw[hc] at h;injection h with h;obtain⟨h3,h4,h5,h6,h7,h8⟩:=zM3 _ _ _ _ _ hc
    have ho:∀j,j≠i→(xB t j).kind≠5→s'.of.getD j (-1)=s.of.getD j (-1):=fun j hj hk=>by
     rw[←h];refine(vGsn hj).trans (h8 j fun hm=>hk (hw j hm))
    have hoi:s'.of.getD i (-1)=(s.xG.length:Int):=by
     rw[←h];exact zAm (show i<y.of.length by have h3':y.of.length=s.of.length:=h3; omega)
    have ht:s'.xG=s.xG++[⟨(xB t i).text,cs⟩]:=by rw[←h]
    have hp:s'.procs=s.procs:=by rw[←h]; exact h4
    have hvi:zHq t s' i:=⟨fun _=>⟨s.xG.length,hoi,by rw[ht]; simp⟩,fun hk=>by omega⟩;refine⟨⟨?_,by rw[←h]; exact h6,⟨_,ht⟩,⟨[],by rw[hp]; simp⟩,fun j hj=>?_⟩,hvi,hp⟩
    ·rw[←h]
     show(y.of.set i _).length=_
     rw[zB];exact h3
    ·by_cases hji:j=i
     ·rw[hji]; exact hvi
     ·by_cases hk:(xB t j).kind=5
      ·exact⟨fun hk'=>by omega,fun hk'=>by omega⟩
      ·exact hj.up (ho j hji hk) ⟨_,ht⟩ ⟨[],by rw[hp]; simp⟩
  ·cases h
theorem zTo {t:List Nd}{s s':Nr}{i:Nat}(hi:i<s.of.length)(h3:(xB t i).kind=3)(h:zB2 t i s=.ok s'):zEp t s s'∧zHq t s' i∧s'.procs.map (·.root)=s.procs.map (·.root)++[i]:=by
 unfold zB2 at h
 split at h
 ·cases h
 ·split at h
  ·injection h with h
   have ho:∀j,j≠i→s'.of.getD j (-1)=s.of.getD j (-1):=fun j hj=>by rw[←h]; exact vGsn hj
   have hoi:s'.of.getD i (-1)=(s.procs.length:Int):=by rw[←h]; exact zAm hi
   have ht:s'.xG=s.xG:=by rw[←h]; rfl
   have hp:s'.procs=s.procs++[⟨(xB t i).text,0,[],(xB t i).num==1,i⟩]:=by rw[←h]
   have hvi:zHq t s' i:=⟨fun hk=>by omega,fun _=>⟨s.procs.length,_,hoi,by rw[hp]; simp; rfl,rfl,rfl⟩⟩;refine⟨⟨?_,by rw[←h]; rfl,⟨[],by rw[ht]; simp⟩,⟨_,hp⟩,fun j hj=>?_⟩,hvi,by rw[hp]; simp⟩
   ·rw[←h]
    show(s.of.set i _).length=_
    rw[zB]
   ·by_cases hji:j=i
    ·rw[hji]; exact hvi
    ·exact hj.up (ho j hji) ⟨[],by rw[ht]; simp⟩ ⟨_,hp⟩
  ·cases h
theorem zMn {t:List Nd}:∀(l:List Nat) (s s':Nr),(∀k ∈ l,k<s.of.length∧((xB t k).kind=2∨(xB t k).kind=3))→(∀k ∈ l,(xB t k).kind=2→∀c ∈ (xB t k).kids,(xB t c).kind=5)→XI t l s=.ok s' →
  zEp t s s'∧(∀k ∈ l,zHq t s' k)∧s'.procs.map (·.root)=s.procs.map (·.root)++l.filter fun k=>(xB t k).kind==3
 | [],s,s',_,_,h=>by
  injection h with h;subst h;exact⟨zEp.refl t s,fun k hk=>(by cases hk),by simp⟩
 | k::l,s,s',hk,hw,h=>by
  obtain⟨x,e1,e2⟩:=jZ h;have hk0:=hk k (List.mem_cons_self ..)
  have one:zEp t s x∧zHq t x k∧x.procs.map (·.root)=s.procs.map (·.root)++[k].filter fun k=>(xB t k).kind==3:=by
   split at e1
   ·rename_i h2;obtain⟨a,b,c⟩:=zRC hk0.1 h2 (hw k (List.mem_cons_self ..) h2) e1;refine⟨a,b,?_⟩;rw[c];simp[h2]
   ·rename_i h2;have h3:=hk0.2.resolve_left h2;obtain⟨a,b,c⟩:=zTo hk0.1 h3 e1;refine⟨a,b,?_⟩;rw[c];simp[h3]
  obtain⟨a,b,c⟩:=one;obtain⟨r1,r2,r3⟩:=zMn l x s' (fun y hy=>by have:=hk y (List.mem_cons_of_mem _ hy); exact⟨by rw[a.len]; exact this.1,this.2⟩) (fun y hy=>hw y (List.mem_cons_of_mem _ hy)) e2;refine⟨a.trans r1,fun y hy=>?_,?_⟩
  ·rcases List.mem_cons.1 hy with rfl | hy
   ·exact r1.val _ b
   ·exact r2 y hy
  ·rw[r3,c,List.append_assoc,←List.filter_append]
   rfl
structure zPC (t:List Nd):Prop where
 R:XK t
 C:zSB t
 P:zPi t
 pos:0<t.length
 top:(xB t 0).kind=1
 kids:∀k ∈ (xB t 0).kids,(xB t k).kind=2∨(xB t k).kind=3
 zAX:∀i,i<t.length→(xB t i).kind=2→∀c ∈ (xB t i).kids,(xB t c).kind=5
 all:∀j,j<t.length→Sub t 0 j
 apart:(xB t 0).kids.Pairwise (fun a b=>a<b∧∀j,Sub t a j→¬Sub t b j)
structure zDo (t:List Nd)(s:Nr):Prop where
 len:s.of.length=t.length
 zSj:∀k ∈ (xB t 0).kids,zHq t s k
 procs:∀p ∈ s.procs,zPg t s p
 roots:s.procs.map (·.root)=(xB t 0).kids.filter fun k=>(xB t k).kind==3
theorem zF1 {t:List Nd}{p j:Nat}(h:zHv t p j):Sub t p j:=let ⟨_,hk,hs⟩:=h; .kid hk hs
theorem zTE {t:List Nd}(R:XK t){p j:Nat}(h:zHv t p j):j≠p:=by
 have up:∀ {a b:Nat},Sub t a b→a≤b:=fun {a b} hs=>by
  induction hs with
  | self=>omega
  | kid hk _ ih=>have:=(R.up _ _ hk).1; omega
 obtain⟨k,hk,hs⟩:=h;have h1:=(R.up p k hk).1;have h2:=up hs;omega
theorem zMN {t:List Nd}(T:zPC t){s:Nr}(h:jL t=.ok s):zDo t s:=by
 unfold jL at h;obtain⟨x,e1,e2⟩:=jZ h;have hkl:∀k ∈ (xB t 0).kids,k<t.length:=fun k hk=>(T.R.up 0 k hk).2;obtain⟨a,b,c⟩:=zMn _ _ x (fun k hk=>⟨by show k<(List.replicate t.length (-1:Int)).length; rw[zD]; exact hkl k hk,T.kids k hk⟩) (fun k hk h2=>T.zAX k (hkl k hk) h2) e1
 have hxl:x.of.length=t.length:=by rw[a.len]; show(List.replicate t.length (-1:Int)).length=_; rw[zD]
 have c':x.procs.map (·.root)=(xB t 0).kids.filter fun k=>(xB t k).kind==3:=by rw[c]; rfl
 have hin:∀p ∈ x.procs,p.root ∈ (xB t 0).kids∧(xB t p.root).kind=3:=fun p hp=>by
  have:p.root ∈ x.procs.map (·.root):=List.mem_map.2 ⟨p,hp,rfl⟩
  rw[c'] at this;have h1:=List.mem_filter.1 this;exact⟨h1.1,by simpa using h1.2⟩
 have hpw:(x.procs.map (·.root)).Pairwise (fun a b=>a<b∧∀j,Sub t a j→¬Sub t b j):=by rw[c']; exact T.apart.sublist List.filter_sublist
 have hA:zOc t x.procs:=by
  have key:∀(a b:Nat) (p q:Np),x.procs[a]?=some p→x.procs[b]?=some q→a<b→∀i,zHv t p.root i→¬zHv t q.root i:=fun a b p q ha hb hab i h1 h2=>by
   obtain⟨ha1,ha2⟩:=List.getElem?_eq_some_iff.1 ha;obtain⟨hb1,hb2⟩:=List.getElem?_eq_some_iff.1 hb
   have:=(List.pairwise_iff_getElem.1 hpw) a b (by rw[yQ]; exact ha1) (by rw[yQ]; exact hb1) hab
   rw[zA,zA,ha2,hb2] at this;exact this.2 i (zF1 h1) (zF1 h2)
  intro a b p q ha hb hab i h1 h2
  rcases Nat.lt_or_gt_of_ne hab with h | h
  ·exact key a b p q ha hb h i h1 h2
  ·exact key b a q p hb ha h i h2 h1
 obtain⟨r1,r2,r3,r4,r5⟩:=zKi T.R T.C T.P x.procs.length 0 x s (by omega) a.blocks hxl (fun p hp=>⟨hkl _ (hin p hp).1,(hin p hp).2⟩) hA (fun k p hk=>by omega) e2
 have hr:s.procs.map (·.root)=x.procs.map (·.root):=by
  have:=congrArg (List.map Prod.snd) r3
  simpa [List.map_map,Function.comp_def] using this
 refine⟨r1,fun k hk=>?_,r4,hr.trans c'⟩;have hv:=b k hk
 have ho:s.of.getD k (-1)=x.of.getD k (-1):=r5 k fun p hp hown=>by
  have hp':=hin p hp
  by_cases hpk:p.root=k
  ·exact zTE T.R hown hpk.symm
  ·obtain⟨u,hu1,hu2⟩:=List.getElem_of_mem hp'.1;obtain⟨v,hv1,hv2⟩:=List.getElem_of_mem hk;have hne:u≠v:=fun e=>hpk (by subst e; rw[←hu2,←hv2])
   rcases Nat.lt_or_gt_of_ne hne with hlt | hlt
   ·have:=(List.pairwise_iff_getElem.1 T.apart) u v hu1 hv1 hlt
    rw[hu2,hv2] at this;exact this.2 k (zF1 hown) (.self k)
   ·have:=(List.pairwise_iff_getElem.1 T.apart) v u hv1 hu1 hlt
    rw[hu2,hv2] at this;exact this.2 k (.self k) (zF1 hown)
 refine⟨fun h2=>?_,fun h3=>?_⟩
 ·rw[ho,r2];exact hv.tab h2
 ·obtain⟨n,p,h4,h5,h6,h7⟩:=hv.proc h3
  have e:(x.procs.map (fun p=>(p.name,p.root)))[n]?=some (p.name,p.root):=by rw[zN,h5]; rfl
  rw[←r3,zN] at e
  cases hs:s.procs[n]? with
  | none=>rw[hs] at e; cases e
  | some q=>
   rw[hs] at e
   simp at e
   exact⟨n,q,ho.trans h4,hs,e.1.trans h6,e.2.trans h7⟩
theorem zDo.zS1 {t:List Nd}(T:zPC t){s:Nr}(h:zDo t s){j:Nat}(hj:j<t.length)(hk:(xB t j).kind≠1∧(xB t j).kind≠2∧(xB t j).kind≠3∧(xB t j).kind≠5):∃p ∈ s.procs,zHv t p.root j:=by
 rcases zBh (T.all j hj) with rfl | ⟨k,hm,hs⟩
 ·exact absurd T.top hk.1
 ·rcases T.kids k hm with h2 | h3
  ·rcases zBh hs with rfl | ⟨c,hc,hs⟩
   ·exact absurd h2 hk.2.1
   ·have h5:=T.zAX k (T.R.up 0 k hm).2 h2 c hc
    have:=hs.none (T.C.flat c (T.R.up k c hc).2 (.inl h5))
    subst this;exact absurd h5 hk.2.2.2
  ·have:k ∈ s.procs.map (·.root):=by rw[h.roots]; exact List.mem_filter.2 ⟨hm,by simp[h3]⟩
   obtain⟨p,hp,rfl⟩:=List.mem_map.1 this;refine⟨p,hp,?_⟩
   rcases zBh hs with rfl | hs
   ·exact absurd h3 hk.2.2.1
   ·exact hs
theorem zDo.zUw {t:List Nd}(T:zPC t){s:Nr}(h:zDo t s){j:Nat}(hj:j<t.length)(hk:(xB t j).kind=22):0≤s.of.getD j (-1)∧s.of.getD j (-1)<64:=by
 obtain⟨p,hp,ho⟩:=h.zS1 T hj (by omega);have hv:=h.procs p hp;obtain⟨n,h1,h2⟩:=(hv.names j ho).1 (.inl hk);obtain⟨h3,_⟩:=List.getElem?_eq_some_iff.1 h2;have hf:=hv.few;have h3:n<p.vars.length:=h3;omega
inductive Tm where
 | num (n:Int)
 | var (k:Int)
 | plus
 | minus
 | times
 | neg
 deriving DecidableEq
structure Ar where
 add:Int→Int→Int
 sub:Int→Int→Int
 mul:Int→Int→Int
def vD (t:List Nd)(of:List Int):Nat→Nat→List Tm
 | 0,_=>[]
 | f+1,i=>
  let out:=(xB t i).kids.flatMap (vD t of f)
  if (xB t i).kind=21 then [.num (xB t i).num]
  else if (xB t i).kind=22 then [.var (of.getD i (-1))]
  else if (xB t i).kind=23 then out++[.plus]
  else if (xB t i).kind=24 then out++[.minus]
  else if (xB t i).kind=25 then out++[.times]
  else if (xB t i).kind=26 then out++[.neg]
  else []
def runT (A:Ar)(vars:List Int):List Tm→List Int→Option (List Int)
 | [],st=>some st
 | .num n::l,st=>runT A vars l (n::st)
 | .var k::l,st=>if 0≤k∧k<(vars.length:Int) then runT A vars l (vars.getD k.toNat 0::st) else none
 | .plus::l,y::x::st=>runT A vars l (A.add x y::st)
 | .minus::l,y::x::st=>runT A vars l (A.sub x y::st)
 | .times::l,y::x::st=>runT A vars l (A.mul x y::st)
 | .neg::l,y::st=>runT A vars l (A.sub 0 y::st)
 | _::_,_=>none
def zSK (A:Ar)(vars:List Int)(l:List Tm):Option Int:=match runT A vars l [] with
 | some [x]=>some x
 | _=>none
def XA (A:Ar)(t:List Nd)(of vars:List Int):Nat→Nat→Int
 | 0,_=>0
 | f+1,i=>
  if (xB t i).kind=21 then (xB t i).num
  else if (xB t i).kind=22 then vars.getD (of.getD i (-1)).toNat 0
  else if (xB t i).kind=26 then A.sub 0 (XA A t of vars f (ZL t i 0))
  else if (xB t i).kind=23 then A.add (XA A t of vars f (ZL t i 0)) (XA A t of vars f (ZL t i 1))
  else if (xB t i).kind=24 then A.sub (XA A t of vars f (ZL t i 0)) (XA A t of vars f (ZL t i 1))
  else A.mul (XA A t of vars f (ZL t i 0)) (XA A t of vars f (ZL t i 1))
structure ExT (t:List Nd):Prop where
 two:∀i,i<t.length→(xB t i).kind=23∨(xB t i).kind=24∨(xB t i).kind=25→∃a b,(xB t i).kids=[a,b]
 one:∀i,i<t.length→(xB t i).kind=26→∃a,(xB t i).kids=[a]
theorem zKJ {t:List Nd}(R:XK t)(E:ExT t)(A:Ar)(of vars:List Int)(hv:∀i,i<t.length→(xB t i).kind=22→0≤of.getD i (-1)∧of.getD i (-1)<(vars.length:Int)) :
  ∀(f i:Nat) (l:List Tm) (st:List Int),t.length≤f+i→i<t.length→zAS (xB t i).kind→runT A vars (vD t of f i++l) st=runT A vars l (XA A t of vars f i::st)
 | 0,i,l,st,h,hi,_=>absurd h (by omega)
 | f+1,i,l,st,h,hi,hx=>by
  have hk:=zLQ R hi hx;have hup:=R.up i;have ih:=fun k l st (hm:k ∈ (xB t i).kids)=>zKJ R E A of vars hv f k l st (by have:=(hup k hm).1; omega) (hk k hm).2 (hk k hm).1;unfold vD XA
  dsimp only
  obtain⟨x,hxk⟩:∃x,(xB t i).kind=x:=⟨_,rfl⟩;have hx':=hx;unfold zAS at hx';rw[hxk] at hx' ⊢
  have hcs:x=21∨x=22∨x=23∨x=24∨x=25∨x=26:=by omega
  rcases hcs with rfl | rfl | rfl | rfl | rfl | rfl
  ·rw[if_pos rfl,if_pos rfl]
   rfl
  ·rw[if_neg (by decide),if_pos rfl,if_neg (by decide),if_pos rfl]
   show(if _ then _ else _)=_
   rw[if_pos (hv i hi hxk)]
   rfl
  ·obtain⟨a,b,hab⟩:=E.two i hi (by omega);rw[if_neg (by decide),if_neg (by decide),if_pos rfl,if_neg (by decide),if_neg (by decide),if_neg (by decide),if_pos rfl,zCN hab,zHs hab];rw[hab] at ih ⊢;rw[show List.flatMap (vD t of f) [a,b]++[Tm.plus]++l=vD t of f a++(vD t of f b++(Tm.plus::l)) by simp,ih a _ _ (by simp),ih b _ _ (by simp)]
   rfl
  ·obtain⟨a,b,hab⟩:=E.two i hi (by omega);rw[if_neg (by decide),if_neg (by decide),if_neg (by decide),if_pos rfl,if_neg (by decide),if_neg (by decide),if_neg (by decide),if_neg (by decide),if_pos rfl,zCN hab,zHs hab];rw[hab] at ih ⊢;rw[show List.flatMap (vD t of f) [a,b]++[Tm.minus]++l=vD t of f a++(vD t of f b++(Tm.minus::l)) by simp,ih a _ _ (by simp),ih b _ _ (by simp)]
   rfl
  ·obtain⟨a,b,hab⟩:=E.two i hi (by omega);rw[if_neg (by decide),if_neg (by decide),if_neg (by decide),if_neg (by decide),if_pos rfl,if_neg (by decide),if_neg (by decide),if_neg (by decide),if_neg (by decide),if_neg (by decide),zCN hab,zHs hab];rw[hab] at ih ⊢;rw[show List.flatMap (vD t of f) [a,b]++[Tm.times]++l=vD t of f a++(vD t of f b++(Tm.times::l)) by simp,ih a _ _ (by simp),ih b _ _ (by simp)]
   rfl
  ·obtain⟨a,ha⟩:=E.one i hi hxk;rw[if_neg (by decide),if_neg (by decide),if_neg (by decide),if_neg (by decide),if_neg (by decide),if_pos rfl,if_neg (by decide),if_neg (by decide),if_pos rfl,zCN ha];rw[ha] at ih ⊢;rw[show List.flatMap (vD t of f) [a]++[Tm.neg]++l=vD t of f a++(Tm.neg::l) by simp,ih a _ _ (by simp)]
   rfl
theorem zOz {t:List Nd}(R:XK t)(E:ExT t)(A:Ar)(of vars:List Int)(hv:∀i,i<t.length→(xB t i).kind=22→0≤of.getD i (-1)∧of.getD i (-1)<(vars.length:Int))(i:Nat)(hi:i<t.length)(hx:zAS (xB t i).kind):zSK A vars (vD t of t.length i)=some (XA A t of vars t.length i):=by
 have h:=zKJ R E A of vars hv t.length i [] [] (by omega) hi hx;rw[List.append_nil] at h;unfold zSK;rw[h]
 rfl
end Go.Proofs.YtbadjmmjbpeocaaGreat
