/- Two readings side by side: rows, statements, blocks, programs. (and what follows of it). The conditions stand at each lemma. -/
import Derived.Test.YtioffpjajhalaaaGreatDoorKaa
import Derived.Test.YtioffpjajhalaaaGreatDoorKas
import Derived.Test.YtioffpjajhalaaaGreatDoorKar
set_option linter.unusedVariables false
set_option linter.unusedSimpArgs false
set_option maxRecDepth 100000
set_option maxHeartbeats 16000000
namespace Go.Proofs.YtioffpjajhalaaaGreatDoor
variable {c:Cx}
theorem go_more {one one':Pm Unit}(h:∀s s',Rel c s s'→zBz c (one s) (one' s'))(h1:∀s,Lst s→xX s (one s))(h2:∀s,Lst s→xX s (one' s)):∀(f f':Nat) (s s':Ps),Rel c s s'→s.ts.length<f→s'.ts.length<f'→zBz c (zAG one f s) (zAG one' f' s')
 | 0,_,_,_,_,l,_=>absurd l (by omega)
 | _,0,_,_,_,_,l=>absurd l (by omega)
 | f+1,f'+1,s,s',r,l1,l2=>by
  rcases r.cut with ⟨e1,e2⟩ | ⟨ht,ha⟩
  ·exact .VI ((zB2 h1 _ s r.lst l1).inV e1) ((zB2 h2 _ s' r.XQ l2).inV e2)
  ·rw[zAG,zAG,ht.isP [44]]
   split
   ·rename_i hi;have hk:=(vG hi).1;have q1:=r.lst.len hk;have q2:=r.XQ.len (by rw[ht.1]; exact hk);have b1:=h1 _ (ha hk).lst;have b2:=h2 _ (ha hk).XQ;refine(h _ _ (ha hk)).bind (fun x x' u u' hx AA w ru=>?_) (fun x u hx l=>?_) (fun x u hx l=>?_)
    ·rw[hx] at b1;rw[AA] at b2;have c1:=b1.2.len;have c2:=b2.2.len;exact go_more h h1 h2 f f' u u' ru (by omega) (by omega)
    ·rw[hx] at b1;have c1:=b1.2.len;exact zB2 h1 f u l (by omega)
    ·rw[hx] at b2;have c2:=b2.2.len;exact zB2 h2 f' u l (by omega)
   ·exact .okU r
theorem go_list {one one':Pm Unit}(h:∀s s',Rel c s s'→zBz c (one s) (one' s'))(h1:∀s,Lst s→xX s (one s))(h2:∀s,Lst s→xX s (one' s)){s s':Ps}(r:Rel c s s'):zBz c (XV one s) (XV one' s'):=
 (h s s' r).bind (fun x x' u u' _ _ w ru=>go_more h h1 h2 _ _ u u' ru (Nat.lt_succ_self _) (Nat.lt_succ_self _)) (fun x u _ l=>zB2 h1 _ u l (Nat.lt_succ_self _)) (fun x u _ l=>zB2 h2 _ u l (Nat.lt_succ_self _))
theorem go_key (i:Nat){s s':Ps}(r:Rel c s s'):zHh c (zCI i s) (zCI (c.ι i) s'):=
 go_within [91] [93] (by decide) r (fun t t' rt _ _=>go_expr i rt) (fun t l _=>jH i l) (fun t l _=>jH _ l)
theorem go_row (i:Nat){s s':Ps}(r:Rel c s s'):zBz c (zG9 i s) (zG9 (c.ι i) s'):=by
 rcases r.cut with ⟨e1,e2⟩ | ⟨ht,ha⟩
 ·exact .VI ((zF9 i r.lst).inV e1) ((zF9 _ r.XQ).inV e2)
 ·have h:=(go_named s.nd.length r.top (r.yX ht.2.2.2 i 20)).zEl (f:=fun _ t=>zCI s.nd.length t) (f':=fun _ t=>zCI (c.ι s.nd.length) t) (W2:=EqU) (fun _ _ u u' _ _ _ ru=>go_key s.nd.length ru) (fun _ u _ l=>(zF2 _ l).at) (fun _ u _ l=>(zF2 _ l).at);rw[←r.len] at h;exact h.inV
theorem go_cell (i:Nat){s s':Ps}(r:Rel c s s'):zBz c (zGF i s) (zGF (c.ι i) s'):=
 (go_row i r).bind (fun _ _ u u' _ _ _ ru=>(go_take _ ru).inV.bind (fun _ _ u u' _ _ _ ru=>(go_word i ru).inV) (fun _ u _ l=>(jF i l).at) (fun _ u _ l=>(jF _ l).at)) (fun _ u _ l=>(xP _ l).at.bind fun _ u _ l _=>(jF i l).at) (fun _ u _ l=>(xP _ l).at.bind fun _ u _ l _=>(jF _ l).at)
theorem zA1 (i:Nat){t:Ps}(ht:Lst t):xX t (if isP [102,111,114] t=true then (xY [117,112,100,97,116,101] t.adv).bind fun _ s=>.ok () (s.num i 1) else .ok () t):=by
 split
 ·rename_i hi;exact xX.trans (Tl.adv t) ((xP _ (ht.adv (vG hi).1)).at.bind fun _ u _ hu _=>vL hu rfl)
 ·exact vL ht rfl
theorem go_read (i:Nat)(hn0:i≠0){s s':Ps}(r:Rel c s s'):zBz c (zGC i s) (zGC (c.ι i) s'):=
 (go_named i hn0 r).inV.bind (fun _ _ u u' _ _ _ ru=>(go_take _ ru).inV.bind (fun _ _ u u' _ _ _ ru=>(go_cell i ru).bind (fun _ _ u u' _ _ _ ru=>by
  rcases ru.cut with ⟨e1,e2⟩ | ⟨ht,ha⟩
  ·exact .VI ((zA1 i ru.lst).inV e1) ((zA1 _ ru.XQ).inV e2)
  ·rw[ht.isP]
   split
   ·rename_i hi;exact(go_take _ (ha (vG hi).1)).inV.bind (fun _ _ u u' _ _ _ ru=>.okU (ru.num i hn0 1)) (fun _ u _ l=>vL l rfl) (fun _ u _ l=>vL l rfl)
   ·exact .okU ru) (fun _ u _ l=>zA1 i l) (fun _ u _ l=>zA1 _ l)) (fun _ u _ l=>(zDC i l).bind fun _ u _ l _=>zA1 i l) (fun _ u _ l=>(zDC _ l).bind fun _ u _ l _=>zA1 _ l))
  (fun _ u _ l=>(xP _ l).at.bind fun _ u _ l _=>(zDC i l).bind fun _ u _ l _=>zA1 i l) (fun _ u _ l=>(xP _ l).at.bind fun _ u _ l _=>(zDC _ l).bind fun _ u _ l _=>zA1 _ l)
theorem go_set (i:Nat){s s':Ps}(r:Rel c s s'):zBz c (zL2 i s) (zL2 (c.ι i) s'):=
 (go_cell i r).bind (fun _ _ u u' _ _ _ ru=>(go_take _ ru).inV.bind (fun _ _ u u' _ _ _ ru=>go_expr i ru) (fun _ u _ l=>jH i l) (fun _ u _ l=>jH _ l)) (fun _ u _ l=>(xP _ l).at.bind fun _ u _ l _=>jH i l) (fun _ u _ l=>(xP _ l).at.bind fun _ u _ l _=>jH _ l)
theorem go_upsert (i:Nat){s s':Ps}(r:Rel c s s'):zBz c (zCu i s) (zCu (c.ι i) s'):=
 (go_row i r).bind (fun _ _ u u' _ _ _ ru=>(go_take _ ru).inV.bind (fun _ _ u u' _ _ _ ru=>(go_list (fun s s' r=>go_expr i r) (fun s l=>jH i l) (fun s l=>jH _ l) ru).bind (fun _ _ u u' _ _ _ ru=>(go_take _ ru).inV) (fun _ u _ l=>(xP _ l).at) (fun _ u _ l=>(xP _ l).at))
   (fun _ u _ l=>(zBS (fun s l=>jH i l) l).bind fun _ u _ l _=>(xP _ l).at) (fun _ u _ l=>(zBS (fun s l=>jH _ l) l).bind fun _ u _ l _=>(xP _ l).at))
  (fun _ u _ l=>(xP _ l).at.bind fun _ u _ l _=>(zBS (fun s l=>jH i l) l).bind fun _ u _ l _=>(xP _ l).at) (fun _ u _ l=>(xP _ l).at.bind fun _ u _ l _=>(zBS (fun s l=>jH _ l) l).bind fun _ u _ l _=>(xP _ l).at)
theorem go_scan (i:Nat)(hn0:i≠0){s s':Ps}(r:Rel c s s'):zBz c (zF5 i s) (zF5 (c.ι i) s'):=
 (go_named i hn0 r).inV.bind (fun _ _ u u' _ _ _ ru=>(go_take _ ru).inV.bind (fun _ _ u u' _ _ _ ru=>(go_word i ru).inV.bind (fun _ _ u u' _ _ _ ru=>(go_take _ ru).inV.bind (fun _ _ u u' _ _ _ ru=>(go_word i ru).inV) (fun _ u _ l=>(jF _ l).at) (fun _ u _ l=>(jF _ l).at))
    (fun _ u _ l=>(xP _ l).at.bind fun _ u _ l _=>(jF _ l).at) (fun _ u _ l=>(xP _ l).at.bind fun _ u _ l _=>(jF _ l).at))
   (fun _ u _ l=>(jF _ l).at.bind fun _ u _ l _=>(xP _ l).at.bind fun _ u _ l _=>(jF _ l).at) (fun _ u _ l=>(jF _ l).at.bind fun _ u _ l _=>(xP _ l).at.bind fun _ u _ l _=>(jF _ l).at))
  (fun _ u _ l=>(xP _ l).at.bind fun _ u _ l _=>(jF _ l).at.bind fun _ u _ l _=>(xP _ l).at.bind fun _ u _ l _=>(jF _ l).at) (fun _ u _ l=>(xP _ l).at.bind fun _ u _ l _=>(jF _ l).at.bind fun _ u _ l _=>(xP _ l).at.bind fun _ u _ l _=>(jF _ l).at)
theorem zFt (i:Nat){t:Ps}(ht:Lst t):xX t (if isP [97,108,108] t=true then .ok () (t.adv.num i 1) else xY [115,104,97,114,101,100] t):=by
 split
 ·rename_i hi;exact xX.trans (Tl.adv t) (vL (ht.adv (vG hi).1) rfl)
 ·exact(xP _ ht).at
theorem go_lock (i:Nat)(hn0:i≠0){s s':Ps}(r:Rel c s s'):zBz c (zGg i s) (zGg (c.ι i) s'):=
 (go_word i r).inV.bind (fun _ _ u u' _ _ _ ru=>by
  rcases ru.cut with ⟨e1,e2⟩ | ⟨ht,ha⟩
  ·exact .VI ((zFt i ru.lst).inV e1) ((zFt _ ru.XQ).inV e2)
  ·rw[ht.isP]
   split
   ·rename_i hi;exact .okU ((ha (vG hi).1).num i hn0 1)
   ·exact(go_take _ ru).inV) (fun _ u _ l=>zFt i l) (fun _ u _ l=>zFt _ l)
theorem zCs (n:Nat){t:Ps}(ht:Lst t):xX t (if isP [91] t=true then zCI n (t.kind n 20) else .ok () t):=by
 split
 ·exact xX.of (s2:=t.kind n 20) rfl (zF2 _ (ht.of (t:=t.kind n 20) rfl)).at
 ·exact vL ht rfl
theorem go_release (i:Nat){s s':Ps}(r:Rel c s s'):zBz c (zBh i s) (zBh (c.ι i) s'):=by
 rcases r.cut with ⟨e1,e2⟩ | ⟨ht,ha⟩
 ·exact .VI ((zE2 i r.lst).inV e1) ((zE2 _ r.XQ).inV e2)
 ·have h:=(go_named s.nd.length r.top (r.yX ht.2.2.2 i 5)).inV.bind (f:=fun _ t=>if isP [91] t=true then zCI s.nd.length (t.kind s.nd.length 20) else .ok () t) (f':=fun _ t=>if isP [91] t=true then zCI (c.ι s.nd.length) (t.kind (c.ι s.nd.length) 20) else .ok () t) (W2:=EqU) (fun _ _ u u' _ _ _ ru=>by
   rcases ru.cut with ⟨e1,e2⟩ | ⟨ht,ha⟩
   ·exact .VI ((zCs _ ru.lst).inV e1) ((zCs _ ru.XQ).inV e2)
   ·rw[ht.isP]
    split
    ·exact(go_key _ (ru.kind s.nd.length 20 r.top)).inV
    ·exact .okU ru) (fun _ u _ l=>zCs _ l) (fun _ u _ l=>zCs _ l)
  rw[←r.len] at h;exact h
theorem go_less (i:Nat)(hn0:i≠0){s s':Ps}(r:Rel c s s'):zBz c (zCR i s) (zCR (c.ι i) s'):=by
 rcases r.cut with ⟨e1,e2⟩ | ⟨ht,ha⟩
 ·exact .VI ((zC0 i r.lst).inV e1) ((zC0 _ r.XQ).inV e2)
 ·unfold zCR;rw[ht.isP]
  split
  ·rename_i hi;exact .okU ((ha (vG hi).1).num i hn0 1)
  ·exact(go_take _ r).inV
theorem go_let (i:Nat)(hn0:i≠0){s s':Ps}(r:Rel c s s'):zBz c (zLF i s) (zLF (c.ι i) s'):=
 (go_named i hn0 r).inV.bind (fun _ _ u u' _ _ _ ru=>(go_take _ ru).inV.bind (fun _ _ u u' _ _ _ ru=>go_expr i ru) (fun _ u _ l=>jH i l) (fun _ u _ l=>jH _ l)) (fun _ u _ l=>(xP _ l).at.bind fun _ u _ l _=>jH i l) (fun _ u _ l=>(xP _ l).at.bind fun _ u _ l _=>jH _ l)
structure GS (c:Cx)(n n':Nat)(st st':Nat→Pm Unit):Prop where
 go:∀i s s',Rel c s s'→s.ts.length≤n→s'.ts.length≤n'→zBz c (st i s) (st' (c.ι i) s')
 s1:zMs n st
 s2:zMs n' st'
theorem go_until {n n':Nat}{st st':Nat→Pm Unit}(h:GS c n n' st st')(i:Nat):∀(f f':Nat) (s s':Ps),Rel c s s'→s.ts.length≤n→s'.ts.length≤n'→s.ts.length<f→s'.ts.length<f'→zBz c (YF st i f s) (YF st' (c.ι i) f' s')
 | 0,_,_,_,_,_,_,l,_=>absurd l (by omega)
 | _,0,_,_,_,_,_,_,l=>absurd l (by omega)
 | f+1,f'+1,s,s',r,l1,l2,l3,l4=>by
  rcases r.cut with ⟨e1,e2⟩ | ⟨ht,ha⟩
  ·exact .VI ((zAX h.s1 i _ s r.lst l1 l3).inV e1) ((zAX h.s2 _ _ s' r.XQ l2 l4).inV e2)
  ·rw[YF,YF,ht.isP]
   split
   ·exact .okU r
   ·have b1:=h.s1 i s r.lst l1;have b2:=h.s2 (c.ι i) s' r.XQ l2;refine(h.go i s s' r l1 l2).bind (fun x x' u u' hx AA w ru=>?_) (fun x u hx l=>?_) (fun x u hx l=>?_)
    ·rw[hx] at b1;rw[AA] at b2;have c1:=b1.2.2;have c2:=b2.2.2;exact go_until h i f f' u u' ru (by omega) (by omega) (by omega) (by omega)
    ·rw[hx] at b1;have c1:=b1.2.2;exact zAX h.s1 i f u l (by omega) (by omega)
    ·rw[hx] at b2;have c2:=b2.2.2;exact zAX h.s2 _ f' u l (by omega) (by omega)
theorem go_block {n n':Nat}{st st':Nat→Pm Unit}(h:GS c n n' st st')(i:Nat){s s':Ps}(r:Rel c s s')(l1:s.ts.length≤n+1)(l2:s'.ts.length≤n'+1):zHh c (ZC st i s) (ZC st' (c.ι i) s'):=by
 rcases r.cut with ⟨e1,e2⟩ | ⟨ht,ha⟩
 ·exact .VI ((XM h.s1 i r.lst l1).inS e1) ((XM h.s2 _ r.XQ l2).inS e2)
 ·have hr:=r.yX ht.2.2.2 i 6
  have:=go_within (W:=EqU) [123] [125] (by decide) hr (body:=fun t=>YF st s.nd.length (t.ts.length+1) t) (body':=fun t=>YF st' (c.ι s.nd.length) (t.ts.length+1) t) (fun t t' rt q1 q2=>by
    rw[ZZ] at q1 q2
    exact go_until h _ _ _ t t' rt (by omega) (by omega) (Nat.lt_succ_self _) (Nat.lt_succ_self _)) (fun t l q=>by
    rw[ZZ] at q
    exact zAX h.s1 _ _ t l (by omega) (Nat.lt_succ_self _)) (fun t l q=>by
    rw[ZZ] at q
    exact zAX h.s2 _ _ t l (by omega) (Nat.lt_succ_self _))
  rw[←r.len] at this;exact this
theorem go_else {n n':Nat}{st st':Nat→Pm Unit}(h:GS c n n' st st')(i:Nat){s s':Ps}(r:Rel c s s')(l1:s.ts.length≤n+1)(l2:s'.ts.length≤n'+1):zBz c (zAR st i s) (zAR st' (c.ι i) s'):=by
 rcases r.cut with ⟨e1,e2⟩ | ⟨ht,ha⟩
 ·exact .VI ((zCP h.s1 i r.lst l1).inV e1) ((zCP h.s2 _ r.XQ l2).inV e2)
 ·unfold zAR;rw[ht.isP]
  split
  ·rename_i hi;have hk:=(vG hi).1;have q1:=r.lst.len hk;have q2:=r.XQ.len (by rw[ht.1]; exact hk);exact(go_block h i (ha hk) (by omega) (by omega)).inV
  ·exact .okU r
theorem Out.zBd {c:Cx}{x x':Res Unit}{f f':Unit→Ps→Res Unit}{n n':Nat}(h:zBz c x x')(hl:∀t,x=.ok () t→t.ts.length≤n)(hl':∀t,x'=.ok () t→t.ts.length≤n')
  (k:∀t t',Rel c t t'→t.ts.length≤n→t'.ts.length≤n'→zBz c (f () t) (f' () t')) (s1:∀t,Lst t→t.ts.length≤n→xX t (f () t)) (s2:∀t,Lst t→t.ts.length≤n'→xX t (f' () t)):zBz c (x.bind f) (x'.bind f'):=
 h.bind (fun _ _ t t' e e' _ r=>k t t' r (hl t e) (hl' t' e')) (fun _ t e l=>s1 t l (hl t e)) (fun _ t e l=>s2 t l (hl' t e))
theorem xX.le {s:Ps}{r:Res Unit}(h:xX s r){n:Nat}(hn:s.ts.length≤n):∀t,r=.ok () t→t.ts.length≤n:=fun t e=>by
 rw[e] at h
 have:=h.2.len
 omega
theorem go_branch {n n':Nat}{st st':Nat→Pm Unit}(h:GS c n n' st st')(i:Nat)(hn0:i≠0){s s':Ps}(r:Rel c s s')(l1:s.ts.length≤n+1)(l2:s'.ts.length≤n'+1):zBz c (zBi st i s) (zBi st' (c.ι i) s'):=by
 have t1:∀t,Lst t→t.ts.length≤n+1→xX t ((ZC st i t).bind fun _ s=>zAR st i s):=fun t l q=>(XM h.s1 i l q).at.bind fun _ u _ lu q2=>zCP h.s1 i lu (by omega);have AB:∀t,Lst t→t.ts.length≤n'+1→xX t ((ZC st' (c.ι i) t).bind fun _ s=>zAR st' (c.ι i) s):=fun t l q=>(XM h.s2 _ l q).at.bind fun _ u _ lu q2=>zCP h.s2 _ lu (by omega);have t2:∀t,Lst t→t.ts.length≤n+1→xX t ((JS i t).bind fun _ s=>(ZC st i s).bind fun _ s=>zAR st i s):=fun t l q=>(jH i l).bind fun _ u _ lu q2=>t1 u lu (by omega);have AA:∀t,Lst t→t.ts.length≤n'+1→xX t ((JS (c.ι i) t).bind fun _ s=>(ZC st' (c.ι i) s).bind fun _ s=>zAR st' (c.ι i) s):=fun t l q=>(jH _ l).bind fun _ u _ lu q2=>AB u lu (by omega);have t3:∀t,Lst t→t.ts.length≤n+1→xX t ((zCR i t).bind fun _ s=>(JS i s).bind fun _ s=>(ZC st i s).bind fun _ s=>zAR st i s):=fun t l q=>(zC0 i l).bind fun _ u _ lu q2=>t2 u lu (by omega);have AC:∀t,Lst t→t.ts.length≤n'+1→xX t ((zCR (c.ι i) t).bind fun _ s=>(JS (c.ι i) s).bind fun _ s=>(ZC st' (c.ι i) s).bind fun _ s=>zAR st' (c.ι i) s):=fun t l q=>(zC0 _ l).bind fun _ u _ lu q2=>AA u lu (by omega)
 exact(go_expr i r).zBd ((jH i r.lst).le l1) ((jH _ r.XQ).le l2) (fun t t' rt q1 q2=>
  (go_less i hn0 rt).zBd ((zC0 i rt.lst).le q1) ((zC0 _ rt.XQ).le q2) (fun t t' rt q1 q2=>
   (go_expr i rt).zBd ((jH i rt.lst).le q1) ((jH _ rt.XQ).le q2) (fun t t' rt q1 q2=>
    (go_block h i rt q1 q2).inV.zBd ((XM h.s1 i rt.lst q1).at.le q1) ((XM h.s2 _ rt.XQ q2).at.le q2) (fun t t' rt q1 q2=>go_else h i rt q1 q2)
     (fun t l q=>zCP h.s1 i l q) (fun t l q=>zCP h.s2 _ l q)) t1 AB) t2 AA) t3 AC
theorem go_loopS {n n':Nat}{st st':Nat→Pm Unit}(h:GS c n n' st st')(i:Nat)(hn0:i≠0){s s':Ps}(r:Rel c s s')(l1:s.ts.length≤n+1)(l2:s'.ts.length≤n'+1):zBz c (zD7 st i s) (zD7 st' (c.ι i) s'):=by
 have t1:∀t,Lst t→t.ts.length≤n+1→xX t ((YL i t).bind fun _ s=>ZC st i s):=fun t l q=>(XN i l).at.bind fun _ u _ lu q2=>(XM h.s1 i lu (by omega)).at;have AB:∀t,Lst t→t.ts.length≤n'+1→xX t ((YL (c.ι i) t).bind fun _ s=>ZC st' (c.ι i) s):=fun t l q=>(XN _ l).at.bind fun _ u _ lu q2=>(XM h.s2 _ lu (by omega)).at;have t2:∀t,Lst t→t.ts.length≤n+1→xX t ((xY [116,111] t).bind fun _ s=>(YL i s).bind fun _ s=>ZC st i s):=fun t l q=>(xP _ l).at.bind fun _ u _ lu q2=>t1 u lu (by omega);have AA:∀t,Lst t→t.ts.length≤n'+1→xX t ((xY [116,111] t).bind fun _ s=>(YL (c.ι i) s).bind fun _ s=>ZC st' (c.ι i) s):=fun t l q=>(xP _ l).at.bind fun _ u _ lu q2=>AB u lu (by omega);have t3:∀t,Lst t→t.ts.length≤n+1→xX t ((YL i t).bind fun _ s=>(xY [116,111] s).bind fun _ s=>(YL i s).bind fun _ s=>ZC st i s):=fun t l q=>(XN i l).at.bind fun _ u _ lu q2=>t2 u lu (by omega);have AC:∀t,Lst t→t.ts.length≤n'+1→xX t ((YL (c.ι i) t).bind fun _ s=>(xY [116,111] s).bind fun _ s=>(YL (c.ι i) s).bind fun _ s=>ZC st' (c.ι i) s):=fun t l q=>(XN _ l).at.bind fun _ u _ lu q2=>AA u lu (by omega);have t4:∀t,Lst t→t.ts.length≤n+1→xX t ((xY [61] t).bind fun _ s=>(YL i s).bind fun _ s=>(xY [116,111] s).bind fun _ s=>(YL i s).bind fun _ s=>ZC st i s):=fun t l q=>(xP _ l).at.bind fun _ u _ lu q2=>t3 u lu (by omega)
 have AD:∀t,Lst t→t.ts.length≤n'+1→xX t ((xY [61] t).bind fun _ s=>(YL (c.ι i) s).bind fun _ s=>(xY [116,111] s).bind fun _ s=>(YL (c.ι i) s).bind fun _ s=>ZC st' (c.ι i) s):=fun t l q=>(xP _ l).at.bind fun _ u _ lu q2=>AC u lu (by omega)
 exact(go_named i hn0 r).inV.zBd ((XX i r.lst).at.le l1) ((XX _ r.XQ).at.le l2) (fun t t' rt q1 q2=>
  (go_take _ rt).inV.zBd ((xP _ rt.lst).at.le q1) ((xP _ rt.XQ).at.le q2) (fun t t' rt q1 q2=>
   (go_number i rt).inV.zBd ((XN i rt.lst).at.le q1) ((XN _ rt.XQ).at.le q2) (fun t t' rt q1 q2=>
    (go_take _ rt).inV.zBd ((xP _ rt.lst).at.le q1) ((xP _ rt.XQ).at.le q2) (fun t t' rt q1 q2=>
     (go_number i rt).inV.zBd ((XN i rt.lst).at.le q1) ((XN _ rt.XQ).at.le q2) (fun t t' rt q1 q2=>(go_block h i rt q1 q2).inV)
      (fun t l q=>(XM h.s1 i l q).at) (fun t l q=>(XM h.s2 _ l q).at)) t1 AB) t2 AA) t3 AC) t4 AD
theorem go_reads {n n':Nat}{st st':Nat→Pm Unit}(h:GS c n n' st st')(k i:Nat)(hn0:i≠0){s s':Ps}(r:Rel c s s')(l1:s.ts.length≤n+1)(l2:s'.ts.length≤n'+1):zBz c (JB st k i s) (JB st' k (c.ι i) s'):=by
 have e:∀(st:Nat→Pm Unit) (j:Nat) (s:Ps),JB st k j s=if k=7 then zGC j s else if k=8 then zL2 j s else if k=9 then zCu j s else if k=10 then zG9 j s else if k=11 then zF5 j s
   else if k=12 then zGg j s else if k=13 then zBh j s else if k=14 then zBi st j s else if k=15 then zD7 st j s else if k=16 then zLF j s else if k=17 then JS j s else zSR s:=by
  intro st j s;unfold JB
  split; · rfl
  split; · rfl
  split; · rfl
  split; · rfl
  split; · rfl
  split; · rfl
  split; · rfl
  split; · rfl
  split; · rfl
  split; · rfl
  split <;> rfl
 rw[e,e]
 by_cases h7:k=7
 ·rw[if_pos h7,if_pos h7]; exact go_read i hn0 r
 rw[if_neg h7,if_neg h7]
 by_cases h8:k=8
 ·rw[if_pos h8,if_pos h8]; exact go_set i r
 rw[if_neg h8,if_neg h8]
 by_cases h9:k=9
 ·rw[if_pos h9,if_pos h9]; exact go_upsert i r
 rw[if_neg h9,if_neg h9]
 by_cases AH:k=10
 ·rw[if_pos AH,if_pos AH]; exact go_row i r
 rw[if_neg AH,if_neg AH]
 by_cases AG:k=11
 ·rw[if_pos AG,if_pos AG]; exact go_scan i hn0 r
 rw[if_neg AG,if_neg AG]
 by_cases AD:k=12
 ·rw[if_pos AD,if_pos AD]; exact go_lock i hn0 r
 rw[if_neg AD,if_neg AD]
 by_cases AA:k=13
 ·rw[if_pos AA,if_pos AA]; exact go_release i r
 rw[if_neg AA,if_neg AA]
 by_cases AC:k=14
 ·rw[if_pos AC,if_pos AC]; exact go_branch h i hn0 r l1 l2
 rw[if_neg AC,if_neg AC]
 by_cases AB:k=15
 ·rw[if_pos AB,if_pos AB]; exact go_loopS h i hn0 r l1 l2
 rw[if_neg AB,if_neg AB]
 by_cases AE:k=16
 ·rw[if_pos AE,if_pos AE]; exact go_let i hn0 r
 rw[if_neg AE,if_neg AE]
 by_cases AF:k=17
 ·rw[if_pos AF,if_pos AF]; exact go_expr i r
 rw[if_neg AF,if_neg AF];exact .okU r
theorem zPF (k:Nat){t:Ps}(l:Lst t):xX t (if k=14∨k=15 then .ok () t else xY [59] t):=by
 split
 ·exact vL l rfl
 ·exact(xP _ l).at
theorem go_stmt:∀(f f':Nat),GS c f f' (YK f) (YK f')
 | 0,f'=>⟨fun i s s' r l _=>absurd r.lst.pos (by omega),zAJ 0,zAJ f'⟩
 | f+1,0=>⟨fun i s s' r _ l=>absurd r.XQ.pos (by omega),zAJ _,zAJ 0⟩
 | f+1,f'+1=>⟨fun i s s' r l1 l2=>by
  rcases r.cut with ⟨e1,e2⟩ | ⟨ht,ha⟩
  ·exact .VI ((zAJ _ i s r.lst l1).inS e1).in ((zAJ _ _ s' r.XQ l2).inS e2).in
  ·rw[YK,YK]
   have hq:(if s'.hd.kind=1 then vP s'.hd.text else none)=(if s.hd.kind=1 then vP s.hd.text else none):=by rw[ht.1,ht.2.1]
   rw[hq]
   cases hk:(if s.hd.kind=1 then vP s.hd.text else none) with
   | none=>
    rw[ht.2.2.2];exact .fail 50 _ rfl rfl
   | some k=>
    have h1:s.hd.kind=1:=by
     split at hk
     ·assumption
     ·cases hk
    have h4:s.hd.kind≠4:=by omega
    have AD:s'.hd.kind≠4:=by rw[ht.1]; exact h4
    have q1:=r.lst.len h4;have q2:=r.XQ.len AD;have hr:=r.yX ht.2.2.2 i k;have AC:Rel c (s.yX i k).adv (s'.yX (c.ι i) k).adv:=⟨(ha h4).zBX,hr.ne,hr.nd,hr.deep,(ha h4).lst.of rfl,(ha h4).XQ.of rfl⟩;have AB:s'.nd.length=c.ι s.nd.length:=r.len;have g:=go_reads (go_stmt f f') k s.nd.length r.top AC (by show s.adv.ts.length≤_; omega) (by show s'.adv.ts.length≤_; omega)
    have AA:=g.bind (f:=fun _ s=>if k=14∨k=15 then .ok () s else xY [59] s) (f':=fun _ s=>if k=14∨k=15 then .ok () s else xY [59] s) (W2:=EqU) (fun _ _ u u' _ _ _ ru=>by
     split
     ·exact .okU ru
     ·exact(go_take _ ru).inV) (fun _ u _ l=>zPF k l) (fun _ u _ l=>zPF k l)
    rw[←AB] at AA
    exact AA,zAJ _,zAJ _⟩
theorem go_blockP (i:Nat){s s':Ps}(r:Rel c s s'):zHh c (VN i s) (VN (c.ι i) s'):=go_block (go_stmt _ _) i r (by omega) (by omega)
theorem go_table {s s':Ps}(r:Rel c s s'):zHh c (zBb 0 s) (zBb 0 s'):=by
 rcases r.cut with ⟨e1,e2⟩ | ⟨ht,ha⟩
 ·exact .VI ((zDz 0 r.lst).inS e1) ((zDz 0 r.XQ).inS e2)
 ·have hr:=r.yX ht.2.2.2 0 2;have z:c.ι 0=0:=rfl;rw[z] at hr;have t1:∀(n:Nat) (t:Ps),Lst t→xX t ((xY [41] t).bind fun _ t=>xY [59] t):=fun n t l=>(xP _ l).at.bind fun _ u _ l _=>(xP _ l).at;have t2:∀(n:Nat) (t:Ps),Lst t→xX t ((XV (JA n) t).bind fun _ t=>(xY [41] t).bind fun _ t=>xY [59] t):=fun n t l=>(zBS (fun s g=>(jF _ g).at) l).bind fun _ u _ l _=>t1 n u l;have t3:∀(n:Nat) (t:Ps),Lst t→xX t ((xY [40] t).bind fun _ t=>(XV (JA n) t).bind fun _ t=>(xY [41] t).bind fun _ t=>xY [59] t):=fun n t l=>(xP _ l).at.bind fun _ u _ l _=>t2 n u l;have t4:∀(n:Nat) (t:Ps),Lst t→xX t ((jC n t).bind fun _ t=>(xY [40] t).bind fun _ t=>(XV (JA n) t).bind fun _ t=>(xY [41] t).bind fun _ t=>xY [59] t):=fun n t l=>(XX _ l).at.bind fun _ u _ l _=>t3 n u l
  have h:=(go_take [116,97,98,108,101] hr).zEl (W2:=EqU) (f:=fun _ t=>(jC s.nd.length t).bind fun _ t=>(xY [40] t).bind fun _ t=>(XV (JA s.nd.length) t).bind fun _ t=>(xY [41] t).bind fun _ t=>xY [59] t)
   (f':=fun _ t=>(jC (c.ι s.nd.length) t).bind fun _ t=>(xY [40] t).bind fun _ t=>(XV (JA (c.ι s.nd.length)) t).bind fun _ t=>(xY [41] t).bind fun _ t=>xY [59] t)
   (fun _ _ u u' _ _ _ ru=>(go_named s.nd.length r.top ru).zEl (fun _ _ u u' _ _ _ ru=>(go_take [40] ru).zEl (fun _ _ u u' _ _ _ ru=>
    (go_list (fun s2 AA r=>(go_word s.nd.length r).inV) (fun s2 l=>(jF _ l).at) (fun s2 l=>(jF _ l).at) ru).zJw (fun _ _ u u' _ _ _ ru=>(go_take [41] ru).zEl (fun _ _ u u' _ _ _ ru=>go_take [59] ru) (fun _ u _ l=>(xP _ l).at) (fun _ u _ l=>(xP _ l).at))
     (fun _ u _ l=>(xP _ l).bind fun _ u _ l _=>(xP _ l).at) (fun _ u _ l=>(xP _ l).bind fun _ u _ l _=>(xP _ l).at))
    (fun _ u _ l=>t2 _ u l) (fun _ u _ l=>t2 _ u l)) (fun _ u _ l=>t3 _ u l) (fun _ u _ l=>t3 _ u l)) (fun _ u _ l=>t4 _ u l) (fun _ u _ l=>t4 _ u l)
  rw[←r.len] at h;exact h
theorem go_names (i:Nat){s s':Ps}(r:Rel c s s'):zBz c (VG i s) (VG (c.ι i) s'):=by
 rcases r.cut with ⟨e1,e2⟩ | ⟨ht,ha⟩
 ·exact .VI ((zFk i r.lst).inV e1) ((zFk _ r.XQ).inV e2)
 ·have hr:=r.yX ht.2.2.2 i 4;have e:∀(j:Nat) (s:Ps),VG j s=if isP [41] (s.yX j 4)=true then .ok () (s.yX j 4) else XV (JA s.nd.length) (s.yX j 4):=fun _ _=>rfl;have hp:isP [41] (s'.yX (c.ι i) 4)=isP [41] (s.yX i 4):=ht.isP [41];rw[e,e,hp]
  split
  ·exact .okU hr
  ·have h:=go_list (one:=JA s.nd.length) (one':=JA (c.ι s.nd.length)) (fun s2 AA r=>(go_word s.nd.length r).inV) (fun s2 l=>(jF _ l).at) (fun s2 l=>(jF _ l).at) hr;rw[←r.len] at h;exact h
theorem go_single (i:Nat)(hn0:i≠0){s s':Ps}(r:Rel c s s'):zBz c (YE i s) (YE (c.ι i) s'):=by
 rcases r.cut with ⟨e1,e2⟩ | ⟨ht,ha⟩
 ·exact .VI ((zEh i r.lst).inV e1) ((zEh _ r.XQ).inV e2)
 ·unfold YE;rw[ht.isP]
  split
  ·rename_i hi;exact .okU ((ha (vG hi).1).num i hn0 1)
  ·exact .okU r
theorem go_proc {s s':Ps}(r:Rel c s s'):zHh c (zCS 0 s) (zCS 0 s'):=by
 rcases r.cut with ⟨e1,e2⟩ | ⟨ht,ha⟩
 ·exact .VI ((zEQ 0 r.lst).inS e1) ((zEQ 0 r.XQ).inS e2)
 ·have hr:=r.yX ht.2.2.2 0 3;have z:c.ι 0=0:=rfl;rw[z] at hr
  have t1:∀(n:Nat) (t:Ps),Lst t→ZX t ((YE n t).bind fun _ t=>VN n t):=fun n t l=>by
   have h:=zEh n l
   cases hs:YE n t with
   | err e a=>rw[hs] at h; exact h
   | ok a u=>
    rw[hs] at h;have hb:=zDW n h.1
    show ZX t (VN n u)
    cases hq:VN n u with
    | err e a=>rw[hq] at hb; obtain⟨h1,x,hx,AA⟩:=hb; exact⟨h1,x,h.2.mem hx,AA⟩
    | ok b v=>rw[hq] at hb; have:=h.2.len; exact⟨hb.1,h.2.trans hb.2.1,by have:=hb.2.2; omega⟩
  have t2:∀(n:Nat) (t:Ps),Lst t→ZX t ((xY [41] t).bind fun _ t=>(YE n t).bind fun _ t=>VN n t):=fun n t l=>(xP _ l).bind fun _ u _ l _=>(t1 n u l).at;have t3:∀(n:Nat) (t:Ps),Lst t→xX t ((VG n t).bind fun _ t=>(xY [41] t).bind fun _ t=>(YE n t).bind fun _ t=>VN n t):=fun n t l=>(zFk _ l).bind fun _ u _ l _=>(t2 n u l).at;have t4:∀(n:Nat) (t:Ps),Lst t→xX t ((xY [40] t).bind fun _ t=>(VG n t).bind fun _ t=>(xY [41] t).bind fun _ t=>(YE n t).bind fun _ t=>VN n t):=fun n t l=>(xP _ l).at.bind fun _ u _ l _=>t3 n u l;have t5:∀(n:Nat) (t:Ps),Lst t→xX t ((jC n t).bind fun _ t=>(xY [40] t).bind fun _ t=>(VG n t).bind fun _ t=>(xY [41] t).bind fun _ t=>(YE n t).bind fun _ t=>VN n t):=fun n t l=>(XX _ l).at.bind fun _ u _ l _=>t4 n u l
  have h:=(go_take [112,114,111,99] hr).zEl (W2:=EqU) (f:=fun _ t=>(jC s.nd.length t).bind fun _ t=>(xY [40] t).bind fun _ t=>(VG s.nd.length t).bind fun _ t=>(xY [41] t).bind fun _ t=>(YE s.nd.length t).bind fun _ t=>VN s.nd.length t)
   (f':=fun _ t=>(jC (c.ι s.nd.length) t).bind fun _ t=>(xY [40] t).bind fun _ t=>(VG (c.ι s.nd.length) t).bind fun _ t=>(xY [41] t).bind fun _ t=>(YE (c.ι s.nd.length) t).bind fun _ t=>VN (c.ι s.nd.length) t)
   (fun _ _ u u' _ _ _ ru=>(go_named s.nd.length r.top ru).zEl (fun _ _ u u' _ _ _ ru=>(go_take [40] ru).zEl (fun _ _ u u' _ _ _ ru=>(go_names s.nd.length ru).zJw (fun _ _ u u' _ _ _ ru=>(go_take [41] ru).zEl (fun _ _ u u' _ _ _ ru=>
     (go_single s.nd.length r.top ru).zJw (fun _ _ u u' _ _ _ ru=>go_blockP s.nd.length ru) (fun _ u _ l=>zDW _ l) (fun _ u _ l=>zDW _ l)) (fun _ u _ l=>(t1 _ u l).at) (fun _ u _ l=>(t1 _ u l).at)) (fun _ u _ l=>t2 _ u l) (fun _ u _ l=>t2 _ u l))
    (fun _ u _ l=>t3 _ u l) (fun _ u _ l=>t3 _ u l)) (fun _ u _ l=>t4 _ u l) (fun _ u _ l=>t4 _ u l)) (fun _ u _ l=>t5 _ u l) (fun _ u _ l=>t5 _ u l)
  rw[←r.len] at h;exact h
inductive zP4 (c:Cx) (s s':Ps) (x x':Res Unit):Prop where
 | zQZ (u u':Ps) (f f':Nat) (r:Rel c u u') (e:u.ts=c.V) (e':u'.ts=c.V') (l:u.ts.length<f) (l':u'.ts.length<f') (h:x=jT f u) (h':x'=jT f' u') (d:u.deep=s.deep) (g:Good u)
 | done (u u':Ps) (r:Rel c u u') (h:x=.ok () u) (h':x'=.ok () u') (k:u.hd.kind=4) (t:Tl s u) (n:u.ts≠c.V∨u'.ts≠c.V')
 | fail (e:Int) (p:Nat) (h:x=.err e p) (h':x'=.err e (c.φ p))
 | VI (y y':Res Unit) (k k':Unit→Ps→Res Unit) (i:InS c.V y) (i':InS c.V' y') (h:x=y.bind k) (h':x'=y'.bind k')
theorem zP4.step {c:Cx}{s s' t t':Ps}{x x':Res Unit}(ht:Tl s t)(hd:t.deep=s.deep)(h:zP4 c t t' x x'):zP4 c s s' x x':=by
 cases h with
 | zQZ u u' f f' r e e' l l' h h' d g=>exact .zQZ u u' f f' r e e' l l' h h' (d.trans hd) g
 | done u u' r h h' k t n=>exact .done u u' r h h' k (ht.trans t) n
 | fail e p h h'=>exact .fail e p h h'
 | VI y y' k k' i i' h h'=>exact .VI y y' k k' i i' h h'
theorem zE9 (c:Cx):∀(f f':Nat) (s s':Ps),Rel c s s'→Good s→s.ts.length<f→s'.ts.length<f'→zP4 c s s' (jT f s) (jT f' s')
 | 0,_,_,_,_,_,l,_=>absurd l (by omega)
 | _,0,_,_,_,_,_,l=>absurd l (by omega)
 | f+1,f'+1,s,s',r,g,l1,l2=>by
  by_cases hc:s.ts=c.V∧s'.ts=c.V'
  ·exact .zQZ s s' (f+1) (f'+1) r hc.1 hc.2 l1 l2 rfl rfl rfl g
  ·rcases r.cut with AC | ⟨ht,ha⟩
   ·exact absurd AC hc
   ·by_cases hk:s.hd.kind=4
    ·have AA:s'.hd.kind=4:=by rw[ht.1]; exact hk
     refine .done s s' r (by rw[jT,if_pos hk]) (by rw[jT,if_pos AA]) hk (Tl.refl s) ?_
     by_cases h1:s.ts=c.V
     ·exact .inr fun h2=>hc ⟨h1,h2⟩
     ·exact .inl h1
    ·have AA:s'.hd.kind≠4:=by rw[ht.1]; exact hk
     rw[jT,jT,if_neg hk,if_neg AA,ht.isP,ht.isP]
     have AB:∀(m:Pm Unit),zHh c (m s) (m s')→ZX s (m s)→ZX s' (m s')→jW s (m s)→zP4 c s s' ((m s).bind fun _ s=>jT f s) ((m s').bind fun _ s=>jT f' s):=by
      intro m ho h1 h2 hf
      cases ho with
      | both a a' t t' h h' w rt=>
       rw[h] at h1 hf;rw[h'] at h2;have q1:=h1.2.2;have q2:=h2.2.2;rw[h,h'];exact zP4.step h1.2.1 hf.deep (zE9 c f f' t t' rt hf.yY (by omega) (by omega))
      | fail e p h h'=>rw[h,h']; exact .fail e p rfl rfl
      | VI i i'=>exact .VI _ _ _ _ i i' rfl rfl
     split
     ·exact AB (zBb 0) (go_table r) (zDz 0 r.lst) (zDz 0 r.XQ) (zFW 0 s g)
     ·split
      ·refine AB (zCS 0) (go_proc r) (zEQ 0 r.lst) (zEQ 0 r.XQ) ?_;exact zGQ 0 s g
      ·rw[ht.2.2.2];exact .fail 50 _ rfl rfl
theorem zPM {s:Bs}{kd k:Nat}{n:Int}(h:step s=.tok kd k n):kd≠4:=by
 cases s with
 | nil=>cases h
 | cons c r=>
  have h':jS c r=.tok kd k n:=h;unfold jS at h'
  split at h'
  ·cases h'
  split at h'
  ·cases h'
  split at h'
  ·injection h' with h1; omega
  split at h'
  ·unfold zDb at h'
   split at h'
   ·cases h'
   ·injection h' with h1; omega
  split at h'
  ·injection h' with h1; omega
  split at h'
  ·injection h' with h1; omega
  ·cases h'
def Ends (ts:List Tok):Prop:=∃m e,ts=m++[e]∧e.kind=4∧∀t ∈ m,t.kind≠4
theorem zHi:∀(f p:Nat) (s:Bs) (l:List Tok),zBs f p s=.ok l→Ends l
 | 0,p,s,l,h=>by cases h
 | f+1,p,s,l,h=>by
  unfold zBs at h
  split at h
  ·injection h with h;subst h;exact⟨[],_,rfl,rfl,fun t ht=>by cases ht⟩
  ·exact zHi f _ _ l h
  ·rename_i kd k n hs
   cases hr:zBs f (p+k) (s.drop k) with
   | err a e=>rw[hr] at h; cases h
   | ok m=>
    rw[hr] at h;obtain⟨m',e,rfl,he,hm⟩:=zHi f _ _ m hr;injection h with h;subst h;refine⟨_::m',e,rfl,he,fun t ht=>?_⟩
    rcases List.mem_cons.1 ht with rfl | ht
    ·exact zPM hs
    ·exact hm t ht
  ·cases h
theorem zDt {p:Nat}{s:Bs}{l:List Tok}(h:YJ p s=.ok l):Ends l:=zHi _ p s l h
theorem zPD {c:Cx}(hφ:∀p,c.φ p=p):∀(l:List Tok),Pw c l l
 | []=>.nil
 | t::l=>.cons ⟨rfl,rfl,rfl,(hφ _).symm⟩ (zPD hφ l)
theorem zC1 {ts:List Tok}{nd:List Nd}{d:Nat}(h:Ends ts):Lst ⟨ts,nd,d⟩:=let ⟨m,e,h1,h2,_⟩:=h; ⟨m,e,h1,h2⟩
def zAS (ts:List Tok):Nd:=⟨1,(ts.headD zSW).at_,[],0,[]⟩
theorem zCz (ts:List Tok):XF ts=match jT (ts.length+1) ⟨ts,[zAS ts],0⟩ with
 | .ok _ s=>.ok s.nd
 | .err e p=>.err p e:=rfl
theorem zE8 {ts:List Tok}(h:Ends ts):Good ⟨ts,[zAS ts],0⟩:=⟨zC1 h,zT _,fun n hn=>by
 rw[List.mem_singleton.1 hn]
 simp[zAS]⟩
theorem zNl {ts:List Tok}(hb:Ends ts)(φ:Nat→Nat)(hφ:∀t ∈ ts,φ t.at_=t.at_){y:List Nd}(h:XF ts=.ok y):∃y0 Y,y=y0::Y∧y0 = { zAS ts with kids:=y0.kids } ∧ ∀n ∈ Y,φ n.pos=n.pos:=by
 obtain⟨c,hc⟩:∃c:Cx,c=⟨φ,[],[],zAS ts,[],[]⟩:=⟨_,rfl⟩
 have hV:c.V=[]:=by rw[hc]
 have AB:c.V'=[]:=by rw[hc]
 have hι:∀i,c.ι i=i:=fun i=>by rw[hc]; unfold Cx.ι; split <;> simp_all
 have hp:∀l:List Tok,(∀t ∈ l,φ t.at_=t.at_)→Pw c l l:=by
  intro l
  induction l with
  | nil=>intro _; exact .nil
  | cons t l ih=>intro hl; exact .cons ⟨rfl,rfl,rfl,by rw[hc]; exact(hl t (List.mem_cons_self ..)).symm⟩ (ih fun x hx=>hl x (List.mem_cons_of_mem _ hx))
 have hr:Rel c ⟨ts,[zAS ts],0⟩ ⟨ts,[zAS ts],0⟩:=⟨⟨ts,ts,by rw[hV,List.append_nil],by rw[AB,List.append_nil],hp ts hφ⟩,by simp,by rw[hc]; rfl,rfl,zC1 hb,zC1 hb⟩;have hw:=zE9 c (ts.length+1) (ts.length+1) _ _ hr (zE8 hb) (Nat.lt_succ_self _) (Nat.lt_succ_self _);rw[zCz] at h
 cases hq:jT (ts.length+1) ⟨ts,[zAS ts],0⟩ with
 | err e p=>rw[hq] at h; cases h
 | ok a s=>
  rw[hq] at h;injection h with h
  cases hw with
  | zQZ u u' f f' r e e' l l' h h' d g=>
   exfalso
   have:=r.lst.pos
   rw[e,hV] at this
   simp at this
  | done u u' r h1 h2 k t n=>
   rw[hq] at h1 h2;injection h1 with _ h1;injection h2 with _ h2;subst h1 h2;have AA:=r.nd
   cases hs:s.nd with
   | nil=>exact absurd hs r.ne
   | cons y0 Y=>
    rw[hs] at AA;have e:y0::Y=({ c.R0 with kids:=c.K++y0.kids.map c.ι }:Nd)::(c.A++Y.map c.mv):=AA
    have eR:c.R0=zAS ts:=by rw[hc]
    have eK:c.K=[]:=by rw[hc]
    have eA:c.A=[]:=by rw[hc]
    have hk:y0.kids.map c.ι=y0.kids:=by
     conv=>rhs; rw[←List.map_id y0.kids]
     exact List.map_congr_left fun i _=>hι i
    rw[eR,eK,eA,List.nil_append,List.nil_append,hk] at e;injection e with e1 e2;refine⟨y0,Y,by rw[←h,hs],e1,fun n hn=>?_⟩;obtain⟨i,hi,rfl⟩:=List.mem_iff_getElem.1 hn
    have:(Y.map c.mv)[i]'(by simpa using hi)=Y[i]:=by simp only[←e2]
    rw[zA] at this
    have:=congrArg Nd.pos this
    rw[hc] at this;exact this
  | fail e p h h'=>rw[hq] at h; cases h
  | VI y y' k k' i i' h h'=>
   exfalso
   cases hy:y with
   | err e p=>rw[hy,hV] at i; obtain⟨_,t,ht,_⟩:=i; cases ht
   | ok b t=>
    rw[hy,hV] at i;obtain⟨l1,pre,l2,_⟩:=i
    have:=l1.pos
    have h3:=congrArg List.length l2;rw[yN] at h3
    simp at h3
    omega
theorem zFj {l:Bs}{ts:List Tok}(h:XS l=.ok ts):YJ 0 l=.ok ts∧l.length≤65536:=by
 unfold XS at h
 split at h
 ·cases h
 ·exact⟨h,by omega⟩
theorem zLj {l:Bs}{y:List Nd}(h:jU l=.ok y):∃ts,YJ 0 l=.ok ts∧XF ts=.ok y∧l.length≤65536:=by
 unfold jU at h
 cases hl:XS l with
 | err a e=>rw[hl] at h; cases h
 | ok ts=>rw[hl] at h; exact⟨ts,(zFj hl).1,h,(zFj hl).2⟩
theorem zPh {l:Bs}(h:l.length≤65536):XS l=YJ 0 l:=by unfold XS; rw[if_neg (by omega)]
theorem zKv {s:Bs}{kd k m:Nat}{n:Int}(h:step s=.tok kd k n)(hm:k≤m):step (s.take m)=.tok kd k n:=by
 cases s with
 | nil=>cases h
 | cons c r=>
  have AA:jS c r=.tok kd k n:=h;unfold jS at AA
  split at AA
  ·cases AA
  ·rename_i h1
   split at AA
   ·cases AA
   ·rename_i h2
    split at AA
    ·rename_i h3;injection AA with e1 e2 e3;subst e1 e2 e3;obtain⟨m,rfl⟩:∃j,m=j+1:=⟨m-1,by omega⟩;rw[List.take_succ_cons]
     show jS c (r.take m)=_
     unfold jS;rw[if_neg h1,if_neg h2,if_pos h3,zDg r m (by omega)]
    ·rename_i h3
     split at AA
     ·rename_i h4;unfold zDb at AA
      split at AA
      ·cases AA
      ·rename_i v hv;injection AA with e1 e2 e3;subst e1 e2 e3;obtain⟨m,rfl⟩:∃j,m=j+1:=⟨m-1,by omega⟩;rw[List.take_succ_cons]
       show jS c (r.take m)=_
       unfold jS;rw[if_neg h1,if_neg h2,if_neg h3,if_pos h4];unfold zDb;rw[zDg r m (by omega),hv]
     ·rename_i h4
      split at AA
      ·rename_i h5;injection AA with e1 e2 e3;subst e1 e2 e3;obtain⟨m,rfl⟩:∃j,m=j+2:=⟨m-2,by omega⟩
       cases r with
       | nil=>simp at h5
       | cons d r=>
        simp at h5
        obtain⟨rfl,rfl⟩:=h5
        rfl
      ·rename_i h5
       split at AA
       ·rename_i h6;injection AA with e1 e2 e3;subst e1 e2 e3;obtain⟨m,rfl⟩:∃j,m=j+1:=⟨m-1,by omega⟩;rw[List.take_succ_cons]
        show jS c (r.take m)=_
        unfold jS;rw[if_neg h1,if_neg h2,if_neg h3,if_neg h4,if_neg ?_,if_pos h6]
        cases m with
        | zero=>simp
        | succ m=>
         cases r with
         | nil=>simp
         | cons d r=>simpa using h5
       ·cases AA
theorem zFN:∀(f p:Nat) (s:Bs) (T R:List Tok) (t:Tok),zBs f p s=.ok (T++t::R)→p≤t.at_∧t.at_≤p+s.length∧YJ p (s.take (t.at_-p))=.ok (T++[⟨4,t.at_,t.at_,[],0⟩])
 | 0,p,s,T,R,t,h=>by cases h
 | f+1,p,s,T,R,t,h=>by
  have hw:=zAe s;unfold zBs at h
  split at h
  ·injection h with h
   cases T with
   | nil=>
    injection h with h1 h2;subst h1;refine⟨zU _,Nat.le_add_right _ _,?_⟩
    show YJ p (s.take (p-p))=_
    rw[Nat.sub_self]
    rfl
   | cons a T=>simp at h
  ·rename_i k hs;rw[hs] at hw;obtain⟨h1,h2,h3⟩:=zFN f (p+k) (s.drop k) T R t h;have AA:k≤s.length:=hw.2;rw[List.length_drop] at h2;refine⟨by omega,by omega,?_⟩;rw[zAY (zEL hs (by omega)),List.drop_take,←h3]
   congr 2
   omega
  ·rename_i kd k n hs;rw[hs] at hw;have AA:k≤s.length:=hw.2;obtain⟨m,hm,e⟩:=zMj h
   cases T with
   | nil=>
    injection e with h1 h2;subst h1;refine⟨zU _,Nat.le_add_right _ _,?_⟩
    show YJ p (s.take (p-p))=_
    rw[Nat.sub_self]
    rfl
   | cons a T=>
    injection e with e1 e2;rw[←e2] at hm;obtain⟨h1,h2,h3⟩:=zFN f (p+k) (s.drop k) T R t hm;rw[List.length_drop] at h2;refine⟨by omega,by omega,?_⟩;rw[zAp (zKv hs (by omega)),List.drop_take,show t.at_-p-k=t.at_-(p+k) by omega,h3,List.take_take,Nat.min_eq_left (by omega),←e1]
    rfl
  ·cases h
theorem zPe {T V:List Tok}{E:Tok}(h:Ends (T++V))(hE:Ends (T++[E]))(hV:V≠[]){y:List Nd}(hy:XF (T++V)=.ok y):(∃x,XF (T++[E])=.ok x)∨XF (T++[E])=.err E.at_ 50:=by
 have AB:E.kind=4:=by
  obtain⟨m,e,h1,h2,_⟩:=hE
  have:=congrArg List.getLast? h1
  simp at this
  rw[this];exact h2
 obtain⟨c,hc⟩:∃c:Cx,c=⟨fun p=>p,[],[],zAS (T++[E]),V,[E]⟩:=⟨_,rfl⟩
 have eV:c.V=V:=by rw[hc]
 have AA:c.V'=[E]:=by rw[hc]
 have hr:Rel c ⟨T++V,[zAS (T++V)],0⟩ ⟨T++[E],[zAS (T++[E])],0⟩:=⟨⟨T,T,by rw[eV],by rw[AA],zPD (fun p=>by rw[hc]) T⟩,by simp,by rw[hc]; rfl,rfl,zC1 h,zC1 hE⟩;have hw:=zE9 c ((T++V).length+1) ((T++[E]).length+1) _ _ hr (zE8 h) (Nat.lt_succ_self _) (Nat.lt_succ_self _);rw[zCz] at hy ⊢
 cases hw with
 | zQZ u u' f f' r e e' l l' h h' d g=>
  left
  have hk:u'.hd.kind=4:=by unfold Ps.hd; rw[e',AA]; exact AB
  cases f' with
  | zero=>omega
  | succ f'=>
   rw[h',zLx hk];exact⟨_,rfl⟩
 | done u u' r h h' k t n=>
  left
  rw[h'];exact⟨_,rfl⟩
 | fail e p h h'=>rw[h] at hy; cases hy
 | VI z z' k k' i i' h h'=>
  right
  rw[h']
  cases hz:z' with
  | ok b u=>
   exfalso
   rw[hz,AA] at i';obtain⟨l1,pre,l2,l3⟩:=i'
   have:=l1.pos
   rw[List.length_singleton] at l3;omega
  | err e p=>
   rw[hz,AA] at i';obtain⟨h1,t,h2,h3,h4⟩:=i';obtain rfl:=List.mem_singleton.1 h2
   have:e=50:=by
    rcases h1 with rfl | rfl
    ·rfl
    ·exact absurd AB (h4 rfl)
   subst this h3
   rfl
theorem zMd {l:Bs}{ts:List Tok}{y:List Nd}(h:YJ 0 l=.ok ts)(hy:XF ts=.ok y)(hl:l.length≤65536)(k:Nat)(hk:k<ts.length):ts[k].at_≤l.length∧((∃x,jU (l.take ts[k].at_)=.ok x)∨jU (l.take ts[k].at_)=.err ts[k].at_ 50):=by
 have AA:ts=ts.take k++ts[k]::ts.drop (k+1):=by rw[←List.drop_eq_getElem_cons hk,List.take_append_drop]
 have hb:=zDt h
 have h':zBs (l.length+1) 0 l=.ok (ts.take k++ts[k]::ts.drop (k+1)):=by rw[←AA]; exact h
 obtain⟨h1,h2,h3⟩:=zFN _ _ _ _ _ _ h';rw[Nat.zero_add] at h2;rw[Nat.sub_zero] at h3;refine⟨h2,?_⟩;have he:=zDt h3
 have AB:XS (l.take ts[k].at_)=.ok (ts.take k++[⟨4,ts[k].at_,ts[k].at_,[],0⟩]):=by rw[zPh (by rw[List.length_take]; omega)]; exact h3
 rw[AA] at hb hy
 have:=zPe hb he (List.cons_ne_nil _ _) hy
 unfold jU;rw[AB];exact this
end Go.Proofs.YtioffpjajhalaaaGreatDoor
