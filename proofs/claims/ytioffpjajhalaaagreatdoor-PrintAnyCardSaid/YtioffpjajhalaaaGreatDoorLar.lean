/- The program's chain: parts with marks between them. (and what follows of it). The conditions stand at each lemma. -/
import Derived.Test.YtioffpjajhalaaaGreatDoorLaa
import Derived.Test.YtioffpjajhalaaaGreatDoorLaq
import Derived.ScopeJumps
import Derived.WalkMore
set_option linter.unusedVariables false
set_option linter.unusedSimpArgs false
set_option maxRecDepth 100000
set_option maxHeartbeats 16000000
namespace Go.Proofs.YtioffpjajhalaaaGreatDoor
open Go Go.RowKit
theorem zQl (l:Bs):(yX l).size=l.length:=by simp[yX,ByteArray.size]
theorem EX.weaken {w:World}{M M':Nat→Prop}(k:∀b,b<w.heap.size→M' b→M b):∀ {e:Ex} {cs:List Value},EX w M e cs→EX w M' e cs
 | .leaf ..,_,h=>h
 | .neg ..,_,⟨g,ca,h1,h2,h3⟩=>⟨g,ca,h1,⟨h2.1,fun h=>h2.2 (k g h2.1.lt h)⟩,EX.weaken k h3⟩
 | .bin ..,_,⟨g,ca,cb,h1,h2,h3,h4⟩=>⟨g,ca,cb,h1,⟨h2.1,fun h=>h2.2 (k g h2.1.lt h)⟩,EX.weaken k h3,EX.weaken k h4⟩
theorem Touch.xO {g:Nat}{w w':World}(h:Touch g w w'){N:Nat→Prop}(hg:N g):xK w N w' N:=
 ⟨h.os,h.tape,h.output,by rw[h.size]; exact zU _,fun b hb hN=>h.other b fun e=>hN (by rw[e]; exact hg),fun b hb=>.inl hb⟩
theorem Touch.ps {g p B:Nat}{w w':World}{s:Ps}{R:xW}(h:Touch g w w')(k:PS w p B s R)(hB:B≤g)(hM:¬xJ p R g):PS w' p B s R:=
 k.JX fun b hb=>h.other b fun e=>by
  subst e
  rcases hb with hb | hb
  ·omega
  ·exact hM hb
theorem Touch.safe {g g':Nat}{w w':World}{M:Nat→Prop}{t:TypeId}{cs:Array Value}(h:Touch g w w')(k:Safe w M g' t cs)(hn:g'≠g):Safe w' M g' t cs:=⟨(h.other g' hn).trans k.1,k.2⟩
theorem xK.ZN {g:Nat}{w w1 w2:World}{M M1:Nat→Prop}(k:xK w M w1 M1)(h:Touch g w1 w2)(hg:w.heap.size≤g):xK w M w2 M1:=
 ⟨h.os.trans k.os,h.tape.trans k.tape,h.output.trans k.output,by rw[h.size]; exact k.size,fun b hb hM=>(h.other b (by omega)).trans (k.JX b hb hM),k.zD9⟩
def under (w:World)(b:Nat):Prop:=b<w.heap.size
def VI (w:World)(p B:Nat)(R:xW)(r:Res Ex)(e:Ending)(w':World):Prop:=
 match r with
 | .ok x s'=>∃cs R',e=.returned (.agg cs.toArray)∧PS w' p B s' R'∧xK w (xJ p R) w' (xJ p R')∧EX w' (Or (xJ p R') (under w)) x cs
 | .err er a=>JE w p B R er a e w'
theorem zG8 {P:Program}{a:Act}{w:World}{Q:Exit→Act→World→Prop}{x rest:Code}(l:Nat)(J:Act→World→Prop)(μ:Act→World→Nat)(hf:findLabel x l=none)
  (first:x.wp P (Exit.then J (Exit.noGoto Q)) a w) (pass:∀a w,J a w→rest.wp P (Exit.jump l (fun a' w'=>J a' w'∧μ a' w'<μ a w) Q) a w):(Code.scope (x.seq ((Code.label l).seq rest))).wp P Q a w:=by
 refine wp_scope_jumps (rest:=.seq .skip rest) l J μ (by simp[findLabel,hf]) ?_ (fun a w h=>wp_seq (wp_skip (pass a w h)));apply wp_seq;refine wp_mono first ?_;intro e a w h
 cases e with
 | normal=>
  refine wp_seq (wp_label (wp_mono (pass a w h) ?_));intro e a w h
  cases e with
  | goto l'=>exact⟨h.1,h.2.1⟩
  | normal=>exact h
  | exit id=>exact h
  | ret=>exact h
  | panic ch=>exact h
  | outgrown=>exact h
 | goto l'=>exact h.elim
 | exit id=>exact h
 | ret=>exact h
 | panic ch=>exact h
 | outgrown=>exact h
theorem zK3 {ms:List (Bs × Nat)}{part:Pm Ex}{f:Nat}{e:Ex}{s:Ps}(h:zDt ms s=none):VW ms part (f+1) e s=.ok e s:=by rw[VW,h]
theorem zJH {ms:List (Bs × Nat)}{part:Pm Ex}{f k:Nat}{e:Ex}{s:Ps}(h:zDt ms s=some k):VW ms part (f+1) e s=(part s.adv).bind fun r s=>VW ms part f (.bin k e.pos e r) s:=by rw[VW,h]
theorem zLW {ms:List (Bs × Nat)}{s:Ps}(h:∀m ∈ ms,isP m.1 s=false):zDt ms s=none:=by
 unfold zDt;rw[List.find?_eq_none.2 (fun m hm=>by rw[h m hm]; simp)]
 rfl
theorem zG5:∀ {ms:List (Bs × Nat)} {s:Ps} (k:Nat) (hk:k<ms.length),(∀j (hj:j<ms.length),j<k→isP ms[j].1 s=false)→isP ms[k].1 s=true→zDt ms s=some ms[k].2
 | m::ms,s,0,_,_,hi=>by
  have AA:isP m.1 s=true:=hi;unfold zDt;simp[List.find?_cons,AA]
 | m::ms,s,k+1,hk,h,hi=>by
  have h0:isP m.1 s=false:=h 0 (by simp) (by omega);have ih:=zG5 (ms:=ms) (s:=s) k (by simpa using hk) (fun j hj AB=>h (j+1) (by simpa using hj) (by omega)) hi;unfold zDt at ih ⊢;rw[List.find?_cons,h0];exact ih
theorem zHH:∀(ms:List (Bs × Nat)),(∀m ∈ ms,m.1.length=1)→(ms.map Prod.fst).flatten.length=ms.length∧∀k (hk:k<ms.length),((ms.map Prod.fst).flatten.drop k).take 1=ms[k].1
 | [],_=>⟨rfl,fun k hk=>by cases hk⟩
 | m::ms,h=>by
  obtain⟨h1,h2⟩:=zHH ms (fun x hx=>h x (List.mem_cons_of_mem _ hx));obtain⟨c,hc⟩:=List.length_eq_one_iff.1 (h m (List.mem_cons_self ..));refine⟨by rw[List.map_cons,List.flatten_cons,yM,h1,h m (List.mem_cons_self ..),zJ]; omega,fun k hk=>?_⟩;rw[List.map_cons,List.flatten_cons,hc]
  match k,hk with
  | 0,_=>rw[List.getElem_cons_zero,hc]; rfl
  | k+1,hk=>exact h2 k (by simpa using hk)
theorem zJb (L:Bs)(i j:Nat):(yX L).extract i j=yX ((L.drop i).take (j-i)):=by
 apply ByteArray.ext;rw[ByteArray.data_extract]
 show(L.toArray).extract i j=((L.drop i).take (j-i)).toArray
 apply Array.ext';simp[List.extract_eq_take_drop,List.take_drop]
 try omega
def ChX (w:World)(g g0 b:Nat):Prop:=under w b∨b=g∨b=g0
def zP8 (n:Nat)(ms:List (Bs × Nat))(part:Pm Ex)(K:Nat)(first cap:Array Value)(A:Option Addr)(kc:Nat)(w:World)(p B:Nat)(s:Ps)(R:xW)(g0:Nat)(a':Act)(w':World):Prop:=
 ∃(g:Nat) (s':Ps) (R':xW) (x:Ex) (cs:List Value) (f:Nat) (u10 u11 u12 u13 u14 u15 u16 u17 u18 u19 u20 u21 u22 u23 u24 u25 u26 u27 u28 u29 u30 u31 u32 u33 u34 u35 u36 u37 u38 u39 u40 u41:Value),
  a' = { tmps:=#[.pointer (some ⟨p,0,none⟩),.func (.func K) first cap,.string (yX (ms.map Prod.fst).flatten),.slice A ms.length kc,undef,undef,undef,undef,.pointer (some ⟨g0,0,none⟩),.pointer (some ⟨g,0,none⟩),u10,u11,u12,u13,u14,u15,u16,u17,u18,u19,u20,u21,u22,u23,u24,u25,u26,u27,u28,u29,u30,u31,u32,u33,u34,u35,u36,u37,u38,u39,u40,u41],defers:=[] } ∧
  Hid (PS w' p B s' R')∧Hid (xK w (xJ p R) w' (xJ p R'))∧Hid (Good s')∧Hid (s'.ts.length≤n)∧Hid (s'.ts.length<f)∧Hid (YP ms part s=VW ms part f x s') ∧
  Hid (Safe w' (xJ p R') g 232 cs.toArray)∧Hid (w.heap.size≤g∧w.heap.size≤g0∧g≠g0∧B≤w.heap.size)∧Hid (EX w' (Or (xJ p R') (ChX w g g0)) x cs)∧Hid (Safe w' (xJ p R') g0 232 #[.int .u8 0,.int .i64 0,.string ⟨#[]⟩,.int .i64 0,.slice none 0 0,.slice none 0 0])
theorem zHR (n:Nat)(ms:List (Bs × Nat))(part:Pm Ex)(K:Nat)(first cap:Array Value)(A:Option Addr)(kc:Nat)(w:World)(p B:Nat)(s:Ps)(R:xW)(h:PS w p B s R)(hG:Good s)(hn:s.ts.length≤n)
  (h1:∀m ∈ ms,m.1.length=1) (h2:ms.length≤100) (hk:zD2 w (xJ p R) A (ms.map fun m=>.int .u8 (m.2:Int)))
  (hfine:∀t,Good t→t.ts.length≤n→zB5 t (part t)) (he:∀args w,(callFunc K args).run Tryz.prog w=.ok (.enter K args) w)
  (hcall:∀(wr:World) (s':Ps) (R':xW),xK w (xJ p R) wr (xJ p R')→PS wr p B s' R'→Good s'→s'.ts.length≤n→Calls Tryz.prog K (first++cap) wr (VI wr p B R' (part s'))) :
  Calls Tryz.prog 211 #[.pointer (some ⟨p,0,none⟩),.func (.func K) first cap,.string (yX (ms.map Prod.fst).flatten),.slice A ms.length kc] w (VI w p B R (YP ms part s)):=by
 have HP:=yD h;have BT:=yD hfine;have HC:=yD hcall;have HK:=yD hk;have HE:=yD he;have HG:=yD hG;have HN:=yD hn;have H1:=yD h1;have AP:=hfine s hG hn;have HZ:=yD (h.fresh 232 #[.int .u8 0,.int .i64 0,.string ⟨#[]⟩,.int .i64 0,.slice none 0 0,.slice none 0 0]);have AK:Hid (Ext w (w.alloc (.cells #[.int .u8 0,.int .i64 0,.string ⟨#[]⟩,.int .i64 0,.slice none 0 0,.slice none 0 0] 232))):=yD (Ext.alloc _ _);obtain⟨g0,Ag⟩:∃g0,Hid (w.heap.size=g0):=⟨_,yD rfl⟩;clear h hfine hcall hk hG hn h1
 go_enter Tryz.func211,Tryz.ntmps211
 go_wp2_with fail
 generalize w.alloc (.cells #[.int .u8 0,.int .i64 0,.string ⟨#[]⟩,.int .i64 0,.slice none 0 0,.slice none 0 0] 232)=w0 at *;rw[Ag.out];rw[Ag.out] at HZ;refine zG8 0 (zP8 n ms part K first cap A kc w p B s R g0) (fun _ w=>XO p w) rfl ?_ ?_
 ·go_wp2_with fail
  refine(HC.out w0 s R (xK.ext AK.out) (HP.out.ext AK.out) HG.out HN.out).mono ?_;intro e w1 AA
  cases hr:part s with
  | err er a=>
   rw[hr] at AA;obtain⟨rfl,ho⟩:=AA
   have HF:Hid (VI w p B R (YP ms part s) (jL er) w1):=yD (by
    unfold YP;rw[hr]
    exact JE.trans (xK.ext AK.out) ⟨rfl,ho⟩)
   exact xA (P:=Tryz.prog) (fn:=Tryz.f211) rfl HF.out
  | ok x s1=>
   rw[hr] at AA AP;obtain⟨cs,R1,rfl,Ai,Ac,Al⟩:=AA;obtain⟨A4,BG,_,_⟩:=AP;have AZ:Hid (YP ms part s=VW ms part (s1.ts.length+1) x s1):=yD (by unfold YP; rw[hr]; rfl);obtain⟨A1,c1,f1,AH,_⟩:=Al.open;have Bc:=yD Al;have Af:=yD Ai;have AS:=yD Ac;have AL:=yD (HZ.out.xO Ac);have Ab:=yD A4;have Ba:Hid (s1.ts.length≤n):=yD (by have:=HN.out; omega);have BM:=yD AH;have BQ:=yD (Ai.fresh 232 cs.toArray)
   have AE:Hid (w.heap.size≤w1.heap.size∧w.heap.size≤g0∧w1.heap.size≠g0∧B≤w.heap.size):=yD (by
    have h1:=AK.out.size;have h2:=Ac.size;have h3:=Ag.out;have h4:=AL.out.1.lt;have h5:=HP.out.pB;have h6:=HP.out.blk.lt
    omega)
   have BL:Hid (∀b,b<w1.heap.size→Or (xJ p R1) (ChX w w1.heap.size g0) b→Or (xJ p R1) (under w0) b):=yD fun b hb h=>by
    rcases h with h | h | h | h
    ·exact .inl h
    ·exact .inr (yR h AK.out.size)
    ·omega
    ·subst h; exact .inr (HZ.out.1.lt)
   clear hr Al Ai Ac A4 BG;subst AH;unfold jP;generalize x.parts.length=xm at *;generalize HY:x.node=y at *;obtain⟨yk,yp,yt,yn,AJ⟩:=y
   simp only
   go_wp2_with fail
   have AF:Hid (Ext w1 (w1.alloc (.cells (jP ⟨yk,yp,yt,yn,AJ⟩ A1 xm c1).toArray 232))):=yD (Ext.alloc _ _);exact⟨w1.heap.size,s1,R1,x,jP ⟨yk,yp,yt,yn,AJ⟩ A1 xm c1,s1.ts.length+1,_,_,_,_,_,_,_,_,_,_,_,_,_,_,_,_,_,_,_,_,_,_,_,_,_,_,_,_,_,_,_,_,rfl,yD (Af.out.ext AF.out),yD (((xK.ext AK.out).trans AS.out).trans (xK.ext AF.out)),Ab,Ba,yD (Nat.lt_succ_self _),AZ,BQ,AE,yD ((Bc.out.weaken BL.out).xO ((xK.ext AF.out).or _)),yD (AL.out.xO (xK.ext AF.out))⟩
 ·rintro a1 w1 ⟨g,s',R',x,cs,f,Bx,Bm,B2,B4,B6,Bh,B1,Bg,B7,By,Bp,Bu,Bl,Bf,Bi,B9,B5,Bj,CC,CB,B3,Br,CE,Bo,Bv,CG,B0,Bw,CA,Bn,Bq,Bt,rfl,Af,AS,Ab,BI,Ay,AZ,Ao,AE,Aw,AL⟩;obtain⟨f',rfl⟩:∃f',f=f'+1:=⟨f-1,by have:=Ay.out; omega⟩
  have Bk:(yX (ms.map Prod.fst).flatten).size=ms.length:=by rw[zQl]; exact(zHH ms H1.out).1
  have BZ:Hid (XO p w1=s'.ts.length):=yD Af.out.XO;rw[BZ.out]
  go_wp2_with fail
  go_loopw [17] (fun i' wr=>∃(k:Nat),k≤ms.length∧i'=.int .i64 k∧Hid (∀j (hj:j<ms.length),j<k→isP ms[j].1 s'=false)∧Hid (Ext w1 wr)) (fun i' _=>ms.length-(intOf i').toNat)
  case atStart=>exact⟨0,zT _,rfl,yD (fun j hj h=>absurd h (by omega)),yD (Ext.refl _)⟩
  case round=>
   obtain⟨k,hk,rfl,Ar,AG⟩:=hrel;obtain⟨wa,rfl⟩:∃wa:World,wa=wr:=⟨_,rfl⟩;have Ah:=yD (Af.out.ext AG.out)
   by_cases Aa:k<ms.length
   ·have d0:decide ((k:Int)<(ms.length:Int))=true:=yP (by omega)
    have q1:(k:Int)<(ms.length:Int):=by omega
    obtain⟨b,Az,rfl,hb,A5⟩:=((HK.out.xO AS.out).xO (xK.ext AG.out)).cells.at_ (by simp; omega)
    have e0:wa.cell? ⟨b,Az+k,none⟩=some (.int .u8 (ms[k].2:Int)):=by rw[A5 k (by simpa using Aa)]; simp[Aa]
    have Bz:=yD e0;have A9:Hid ((yX (ms.map Prod.fst).flatten).extract k (k+1)=yX ms[k].1):=yD (by rw[zJb,show k+1-k=1 by omega,(zHH ms H1.out).2 k Aa]);clear A5
    cases hi:isP ms[k].1 s' with
    | false=>
     have HI:=yD hi;clear hi
     go_wp2_with fail
     rw[A9.out];refine(zAg wa p B s' R' ms[k].1 HI Ah.out).mono ?_;rintro e w2 ⟨rfl,BC⟩;have BY:=yD (AG.out.trans BC);clear BC
     go_wp2_with fail
     go_roundw
     case rel=>exact⟨k+1,by omega,by go_num,yD (fun j hj B8=>by
      rcases Nat.lt_or_ge j k with h | h
      ·exact Ar.out j hj h
      ·obtain rfl:j=k:=by omega
       exact HI.out),BY⟩
     case measure=>simp[intOf]; omega
    | true=>
     have HI:=yD hi;have BP:=yD (zG5 k Aa Ar.out hi);have BU:=yD (vD hi).1;clear hi;have BE:=yD (Ab.out.adv BU.out)
     have A8:Hid (s'.adv.ts.length<s'.ts.length):=yD (by
      have h1:=jN (s:=s');have h2:=Ab.out.pos
      omega)
     have Ap:Hid (s'.adv.ts.length≤n):=yD (by have:=A8.out; have:=BI.out; omega);have HQ:Hid (YP ms part s=(part s'.adv).bind fun r s=>VW ms part f' (.bin ms[k].2 x.pos x r) s):=yD (by rw[AZ.out,zJH BP.out])
     go_wp2_with fail
     rw[A9.out];refine(JG wa p B s' R' ms[k].1 HI Ah.out).mono ?_;rintro e w2 ⟨rfl,R2,A0,Au⟩;have BS:=yD A0;have Ae:=yD (((AS.out.trans (xK.ext AG.out))).trans Au);have AO:=yD ((xK.ext (M:=xJ p R') AG.out).trans Au);clear A0 Au
     go_wp2_with fail
     refine(HC.out w2 s'.adv R2 Ae.out BS.out BE.out Ap.out).mono ?_;intro e w3 AA;have AP:=BT.out s'.adv BE.out Ap.out
     cases hr:part s'.adv with
     | err er a=>
      rw[hr] at AA;obtain⟨rfl,ho⟩:=AA
      have HF:Hid (VI w p B R (YP ms part s) (jL er) w3):=yD (by
       rw[HQ.out,hr]
       exact JE.trans Ae.out ⟨rfl,ho⟩)
      exact xA (P:=Tryz.prog) (fn:=Tryz.f211) rfl HF.out
     | ok r s3=>
      rw[hr] at AA AP;obtain⟨BX,R3,rfl,Av,AY,Aq⟩:=AA;obtain⟨A7,BN,_,_⟩:=AP;have AB:=yD ((Ao.out.xO AO.out).xO AY);have BF:=yD ((AL.out.xO AO.out).xO AY);have AR:=yD ((Aw.out.xO (AO.out.or _)).xO (AY.or _));obtain⟨A1,c1,f1,AH,_⟩:=AR.out.open;obtain⟨A3,c3,f3,AU,_⟩:=Aq.open
      have BO:Hid (EX w3 (Or (xJ p R3) (ChX w g g0)) r BX):=yD (Aq.weaken fun b hb h=>by
       rcases h with h | h
       ·exact .inl h
       ·refine .inr ?_;have h1:=Ae.out.size;have h2:=(Ao.out.xO AO.out).1.lt;have h3:=(AL.out.xO AO.out).1.lt;unfold under
        rcases h with h | h | h
        ·unfold under at h; omega
        ·omega
        ·omega)
      have BA:=yD Av;have BB:=yD (Ae.out.trans AY);have Be:=yD A7;have Aj:Hid (s3.ts.length≤n∧s3.ts.length<s'.ts.length):=yD (by have:=Ap.out; have:=A8.out; omega);have BH:Hid (YP ms part s=VW ms part f' (.bin ms[k].2 x.pos x r) s3):=yD (by rw[HQ.out,hr]; rfl);have BM:=yD AH;have BV:=yD AU;have A6:=x.zKG;clear hr Av AY Aq A7 BN;subst AH AU;unfold jP;have AQ:=AB.out.1.cell 0;have AM:=AB.out.1.cell 1;have AT:=AB.out.1.cell 2;have AX:=AB.out.1.cell 3;have AN:=AB.out.1.cell 4;have AV:=AB.out.1.cell 5;simp only[jP,yI,yJ,List.getElem?_cons_succ] at AQ AM AT AX AN AV;have CF:=AB.out.1.lt;rw[A6] at AM;clear A6;generalize x.parts.length=xm at *;generalize r.parts.length=rm at *;generalize HY:x.node=y at *;generalize HYR:r.node=yr at *;obtain⟨yk,yp,yt,yn,AJ⟩:=y;obtain⟨rk,rp,rt,rn,Bb⟩:=yr
      simp only at AQ AM AT AX AN AV ⊢
      have AD:Hid (Ext w3 ((w3.alloc (.cells #[.int .u8 (rk:Int),.int .i64 (rp:Int),.string (yX rt),.int .i64 rn,.slice none 0 0,.slice A3 rm c3] 232)).alloc (.cells #[.int .u8 (yk:Int),.int .i64 (x.pos:Int),.string (yX yt),.int .i64 yn,.slice none 0 0,.slice A1 xm c1,.int .u8 (rk:Int),.int .i64 (rp:Int),.string (yX rt),.int .i64 rn,.slice none 0 0,.slice A3 rm c3] 232))):=yD ((Ext.alloc _ _).trans (Ext.alloc _ _));have As:=yD ((BA.out.ext (Ext.alloc w3 (.cells #[.int .u8 (rk:Int),.int .i64 (rp:Int),.string (yX rt),.int .i64 rn,.slice none 0 0,.slice A3 rm c3] 232))).fresh 232 #[.int .u8 (yk:Int),.int .i64 (x.pos:Int),.string (yX yt),.int .i64 yn,.slice none 0 0,.slice A1 xm c1,.int .u8 (rk:Int),.int .i64 (rp:Int),.string (yX rt),.int .i64 rn,.slice none 0 0,.slice A3 rm c3]);have BJ:Hid ((w3.alloc (.cells #[.int .u8 (rk:Int),.int .i64 (rp:Int),.string (yX rt),.int .i64 rn,.slice none 0 0,.slice A3 rm c3] 232)).heap.size=w3.heap.size+1):=yD (yQ _ _);rw[BJ.out] at As
      go_wp2_with (refine vF rfl 232 (.tmp 9) (.tmp 39) rfl g #[.int .u8 (ms[k].2:Int),.int .i64 (x.pos:Int),.string ⟨#[]⟩,.int .i64 0,.slice none 0 0,.slice (some ⟨w3.heap.size+1,0,none⟩) 2 2] (by rfl) (by rfl) 232 _ (AB.out.1.ext AD.out) (by kernel_rfl) rfl rfl ?_; intro w6 AC AW)
      have At:yp=x.pos:=by have:=x.zKG; rw[HY] at this; exact this
      have CD:=yD At;have Ax:=yD (AC.ps (BA.out.ext AD.out) (Nat.le_trans AE.out.2.2.2 AE.out.1) AB.out.2);have BR:=yD ((BB.out.trans (xK.ext AD.out)).ZN AC AE.out.1);have Ad:Hid (xK w3 (Or (xJ p R3) (ChX w g g0)) w6 (Or (xJ p R3) (ChX w g g0))):=yD (((xK.ext AD.out).or _).trans (AC.xO (.inr (.inr (.inl rfl)))))
      have Bd:Hid (Safe w6 (Or (xJ p R3) (ChX w g g0)) (w3.heap.size+1) 232 (jP ⟨yk,yp,yt,yn,AJ⟩ A1 xm c1++jP ⟨rk,rp,rt,rn,Bb⟩ A3 rm c3).toArray):=yD (by
       have h1:=AB.out.1.lt;have h2:=BF.out.1.lt;have h3:=BB.out.size
       have hs:Safe _ (Or (xJ p R3) (ChX w g g0)) (w3.heap.size+1) 232 _:=⟨As.out.1,fun h=>by
        rcases h with h | h | h | h
        ·exact As.out.2 h
        ·unfold under at h; omega
        ·omega
        ·omega⟩
       rw[At]
       exact AC.safe hs (by omega))
      have BK:=yD (AC.safe (BF.out.xO (xK.ext AD.out)) (Ne.symm AE.out.2.2.1));have Am:=yD AW;have BW:Hid (EX w6 (Or (xJ p R3) (ChX w g g0)) (.bin ms[k].2 x.pos x r) (jP ⟨ms[k].2,x.pos,[],0,[]⟩ (some ⟨w3.heap.size+1,0,none⟩) 2 2)):=yD ⟨_,_,_,rfl,Bd.out,AR.out.xO Ad.out,BO.out.xO Ad.out⟩;have An:Hid (s3.ts.length<f'):=yD (by have:=Ay.out; have:=Aj.out; omega);clear AC AW At;apply wp_goto;refine(show(0=0∧zP8 n ms part K first cap (some ⟨b,Az,none⟩) kc w p B s R g0 _ w6∧XO p w6<s'.ts.length) from⟨rfl,⟨g,s3,R3,.bin ms[k].2 x.pos x r,jP ⟨ms[k].2,x.pos,[],0,[]⟩ (some ⟨w3.heap.size+1,0,none⟩) 2 2,f',_,_,_,_,_,_,_,_,_,_,_,_,_,_,_,_,_,_,_,_,_,_,_,_,_,_,_,_,_,_,_,_,rfl,Ax,BR,Be,yD Aj.out.1,An,BH,yD ⟨Am.out,AB.out.2⟩,AE,BW,BK⟩,by rw[Ax.out.XO]; exact Aj.out.2⟩)
   ·obtain rfl:k=ms.length:=by omega
    have d0:decide ((ms.length:Int)<(ms.length:Int))=false:=by simp
    have d1:decide (ms.length<ms.length)=false:=by simp
    have Ak:Hid (YP ms part s=.ok x s'):=yD (by rw[AZ.out,zK3 (zLW fun m hm=>by
     obtain⟨j,hj,rfl⟩:=List.mem_iff_getElem.1 hm
     exact Ar.out j hj hj)])
    have AI:=yD (Ao.out.xO (xK.ext AG.out));have A2:=yD (AL.out.xO (xK.ext AG.out));have BD:=yD (Aw.out.xO ((xK.ext AG.out).or _));obtain⟨A1,c1,f1,AH,_⟩:=BD.out.open;have AQ:=AI.out.1.cell 0;have AM:=AI.out.1.cell 1;have AT:=AI.out.1.cell 2;have AX:=AI.out.1.cell 3;have AN:=AI.out.1.cell 4;have AV:=AI.out.1.cell 5;subst AH;simp only[jP,yI,yJ,List.getElem?_cons_succ] at AQ AM AT AX AN AV;generalize x.parts.length=xm at *;generalize HY:x.node=y at *;obtain⟨yk,yp,yt,yn,AJ⟩:=y
    simp only at AQ AM AT AX AN AV
    go_wp2_with (refine vF rfl 232 (.tmp 8) (.tmp 41) rfl g0 #[.int .u8 (yk:Int),.int .i64 (yp:Int),.string (yX yt),.int .i64 yn,.slice none 0 0,.slice A1 xm c1] (by rfl) (by rfl) 232 _ A2.out.1 (by kernel_rfl) rfl rfl ?_; intro w6 AC AW)
    have Ad:Hid (xK wa (Or (xJ p R') (ChX w g g0)) w6 (Or (xJ p R') (ChX w g g0))):=yD (AC.xO (.inr (.inr (.inr rfl))))
    have An:Hid (VI w p B R (YP ms part s) (.returned (.agg (jP ⟨yk,yp,yt,yn,AJ⟩ A1 xm c1).toArray)) w6):=yD (by
     rw[Ak.out]
     exact⟨_,R',rfl,AC.ps Ah.out (Nat.le_trans AE.out.2.2.2 AE.out.2.1) A2.out.2,(AS.out.trans (xK.ext AG.out)).ZN AC AE.out.2.1,(BD.out.xO Ad.out).weaken (fun b hb h=>by
      rcases h with h | h
      ·exact .inl h
      ·exact .inr (.inl h))⟩)
    have Am:=yD AW;clear AC AW
    go_wp2_with fail
    exact zBh g0 232 _ _ Tryz.results211 rfl rfl Am.out Tryz.underlying232 rfl (by kernel_rfl) An.out
def zBp (F f:Nat)(m:Pm Ex):Prop:=∀(w:World) (p B:Nat) (s:Ps) (R:xW),PS w p B s R→Good s→s.ts.length≤f→Calls Tryz.prog F #[.pointer (some ⟨p,0,none⟩)] w (VI w p B R (m s))
def XQ:Array Value:=#[.int .u8 0,.int .i64 0,.string ⟨#[]⟩,.int .i64 0,.slice none 0 0,.slice none 0 0]
theorem zQ3 (f:Nat)(part:Pm Ex)(hpart:zBp 213 f part)(hfine:∀t,Good t→t.ts.length≤f→zB5 t (part t)):zBp 212 f (YP zIA part):=by
 intro w p B s R h hG hl;have HP:=yD h;have HG:=yD hG;have AP:=yD hpart;have AK:=yD hfine;have HL:=yD hl;have hm:=hmf;have AM:Hid (Ext w (w.alloc (.cells XQ 232))):=yD (Ext.alloc _ _);have AB:Hid (Ext w ((w.alloc (.cells XQ 232)).alloc (.cells #[.int .u8 25] 5))):=yD ((Ext.alloc _ _).trans (Ext.alloc _ _));have HZ:Hid (Safe ((w.alloc (.cells XQ 232)).alloc (.cells #[.int .u8 25] 5)) (xJ p R) w.heap.size 232 XQ):=yD ((h.fresh 232 XQ).xO (xK.ext (M:=xJ p R) (Ext.alloc _ _)));have hk:=(h.ext AM.out).fresh 5 #[.int .u8 25];rw[yQ] at hk;have HK:=yD hk;have AI:Hid (B≤w.heap.size):=yD (Nat.le_trans h.pB (zS h.blk.lt));clear h hG hpart hfine hl hk
 go_enter Tryz.func212,Tryz.ntmps212
 go_wp2_with fail
 refine(zHR f zIA part 213 #[.pointer (some ⟨p,0,none⟩)] #[] (some ⟨w.heap.size+1,0,none⟩) 1 _ p B s R (HP.out.ext AB.out) HG.out HL.out (by intro m hm; simp only[zIA,zR,List.not_mem_nil,or_false] at hm; rw[hm]; rfl) (by decide) HK.out.row AK.out (enters_of Tryz.func213 (by kernel_rfl) rfl) (fun wr s' R' hm hp hg hn=>AP.out wr p B s' R' hp hg hn)).mono ?_;intro e w1 AA
 cases hr:YP zIA part s with
 | err er a=>
  rw[hr] at AA;obtain⟨rfl,ho⟩:=AA;have HF:Hid (VI w p B R (Res.err er a) (jL er) w1):=yD (JE.trans (xK.ext AB.out) ⟨rfl,ho⟩);exact xA (P:=Tryz.prog) (fn:=Tryz.f212) rfl HF.out
 | ok x s1=>
  rw[hr] at AA;obtain⟨cs,R1,rfl,AG,AD,AE⟩:=AA;obtain⟨A1,c1,f1,AJ,_⟩:=AE.open;have AL:=yD AG;have AN:=yD ((xK.ext (M:=xJ p R) AB.out).trans AD);have AH:=yD (HZ.out.xO AD);have AR:=yD AE;have HR:=yD hr;clear hr AG AD AE;subst AJ;unfold jP;generalize x.parts.length=xm at *;generalize HY:x.node=y at *;obtain⟨yk,yp,yt,yn,AQ⟩:=y
  simp only
  go_wp2_with (refine vF rfl 232 (.tmp 2) (.tmp 7) rfl w.heap.size #[.int .u8 (yk:Int),.int .i64 (yp:Int),.string (yX yt),.int .i64 yn,.slice none 0 0,.slice A1 xm c1] (by rfl) (by rfl) 232 _ AH.out.1 (by kernel_rfl) rfl rfl ?_; intro w6 AC AF)
  have AS:Hid (VI w p B R (YP zIA part s) (.returned (.agg (jP ⟨yk,yp,yt,yn,AQ⟩ A1 xm c1).toArray)) w6):=yD (by rw[HR.out]; exact⟨_,R1,rfl,AC.ps AL.out AI.out AH.out.2,AN.out.ZN AC (zU _),((AR.out.weaken (M':=Or (xJ p R1) (fun b=>under w b∨b=w.heap.size)) fun b hb k=>by
   rcases k with k | k | k
   ·exact .inl k
   ·exact .inr (yR k AB.out.size)
   ·subst k; exact .inr HZ.out.1.lt).xO (AC.xO (.inr (.inr rfl)))).weaken fun b hb k=>by
   rcases k with k | k
   ·exact .inl k
   ·exact .inr (.inl k)⟩)
  have AO:=yD AF;clear AC AF
  go_wp2_with fail
  exact zBh w.heap.size 232 _ _ Tryz.results212 rfl rfl AO.out Tryz.underlying232 rfl (by kernel_rfl) AS.out
theorem zR1 (f:Nat)(part:Pm Ex)(hpart:zBp 212 f part)(hfine:∀t,Good t→t.ts.length≤f→zB5 t (part t)):zBp 207 f (YP zIa part):=by
 intro w p B s R h hG hl;have HP:=yD h;have HG:=yD hG;have AP:=yD hpart;have AK:=yD hfine;have HL:=yD hl;have hm:=hmf;have AM:Hid (Ext w (w.alloc (.cells XQ 232))):=yD (Ext.alloc _ _);have AB:Hid (Ext w ((w.alloc (.cells XQ 232)).alloc (.cells #[.int .u8 23,.int .u8 24] 5))):=yD ((Ext.alloc _ _).trans (Ext.alloc _ _));have HZ:Hid (Safe ((w.alloc (.cells XQ 232)).alloc (.cells #[.int .u8 23,.int .u8 24] 5)) (xJ p R) w.heap.size 232 XQ):=yD ((h.fresh 232 XQ).xO (xK.ext (M:=xJ p R) (Ext.alloc _ _)));have hk:=(h.ext AM.out).fresh 5 #[.int .u8 23,.int .u8 24];rw[yQ] at hk;have HK:=yD hk;have AI:Hid (B≤w.heap.size):=yD (Nat.le_trans h.pB (zS h.blk.lt));clear h hG hpart hfine hl hk
 go_enter Tryz.func207,Tryz.ntmps207
 go_wp2_with fail
 refine(zHR f zIa part 212 #[.pointer (some ⟨p,0,none⟩)] #[] (some ⟨w.heap.size+1,0,none⟩) 2 _ p B s R (HP.out.ext AB.out) HG.out HL.out (by intro m hm; simp only[zIa,zR,List.not_mem_nil,or_false] at hm; rcases hm with rfl | rfl <;> rfl) (by decide) HK.out.row AK.out (enters_of Tryz.func212 (by kernel_rfl) rfl) (fun wr s' R' hm hp hg hn=>AP.out wr p B s' R' hp hg hn)).mono ?_
 intro e w1 AA
 cases hr:YP zIa part s with
 | err er a=>
  rw[hr] at AA;obtain⟨rfl,ho⟩:=AA;have HF:Hid (VI w p B R (Res.err er a) (jL er) w1):=yD (JE.trans (xK.ext AB.out) ⟨rfl,ho⟩);exact xA (P:=Tryz.prog) (fn:=Tryz.f207) rfl HF.out
 | ok x s1=>
  rw[hr] at AA;obtain⟨cs,R1,rfl,AG,AD,AE⟩:=AA;obtain⟨A1,c1,f1,AJ,_⟩:=AE.open;have AL:=yD AG;have AN:=yD ((xK.ext (M:=xJ p R) AB.out).trans AD);have AH:=yD (HZ.out.xO AD);have AR:=yD AE;have HR:=yD hr;clear hr AG AD AE;subst AJ;unfold jP;generalize x.parts.length=xm at *;generalize HY:x.node=y at *;obtain⟨yk,yp,yt,yn,AQ⟩:=y
  simp only
  go_wp2_with (refine vF rfl 232 (.tmp 2) (.tmp 7) rfl w.heap.size #[.int .u8 (yk:Int),.int .i64 (yp:Int),.string (yX yt),.int .i64 yn,.slice none 0 0,.slice A1 xm c1] (by rfl) (by rfl) 232 _ AH.out.1 (by kernel_rfl) rfl rfl ?_; intro w6 AC AF)
  have AS:Hid (VI w p B R (YP zIa part s) (.returned (.agg (jP ⟨yk,yp,yt,yn,AQ⟩ A1 xm c1).toArray)) w6):=yD (by rw[HR.out]; exact⟨_,R1,rfl,AC.ps AL.out AI.out AH.out.2,AN.out.ZN AC (zU _),((AR.out.weaken (M':=Or (xJ p R1) (fun b=>under w b∨b=w.heap.size)) fun b hb k=>by
   rcases k with k | k | k
   ·exact .inl k
   ·exact .inr (yR k AB.out.size)
   ·subst k; exact .inr HZ.out.1.lt).xO (AC.xO (.inr (.inr rfl)))).weaken fun b hb k=>by
   rcases k with k | k
   ·exact .inl k
   ·exact .inr (.inl k)⟩)
  have AO:=yD AF;clear AC AF
  go_wp2_with fail
  exact zBh w.heap.size 232 _ _ Tryz.results207 rfl rfl AO.out Tryz.underlying232 rfl (by kernel_rfl) AS.out
theorem zLa (f:Nat)(part:Pm Ex)(hpart:zBp 213 f part)(hfine:∀t,Good t→t.ts.length≤f→zB5 t (part t)):zBp 207 f (sumOf part):=
 zR1 f (zQc part) (zQ3 f part hpart hfine) (zCT f hfine)
def EAt (w:World)(g p pos:Nat)(neg:Bool)(a:Ex)(R':xW)(w':World):Prop:=∃cs,Safe w' (xJ p R') g 232 cs.toArray∧EX w' (Or (xJ p R') (fun b=>under w b∨b=g)) (if neg then .neg pos a else a) cs
theorem EAt.xO {w:World}{g p pos:Nat}{neg:Bool}{a:Ex}{R1 R2:xW}{w1 w2:World}(h:EAt w g p pos neg a R1 w1)(k:xK w1 (xJ p R1) w2 (xJ p R2)):EAt w g p pos neg a R2 w2:=let ⟨cs,h1,h2⟩:=h; ⟨cs,h1.xO k,h2.xO (k.or _)⟩
theorem zOV (w0 w:World)(p B gb g f pos:Nat)(s:Ps)(R:xW)(part:Pm Ex)(hpart:zBp 213 f part)(h:PS w p B s R)(hG:Good s)(hl:s.ts.length≤f)(hb:Safe w (xJ p R) gb 73 #[.pointer (some ⟨p,0,none⟩)])(hg:Safe w (xJ p R) g 232 (jP ⟨26,pos,[],0,[]⟩ none 0 0).toArray)(hB:B≤g)(hw0:w0.heap.size≤w.heap.size) :
  Calls Tryz.prog 214 #[.pointer (some ⟨gb,0,none⟩),.pointer (some ⟨g,0,none⟩)] w (VB (fun b=>b=g) w p B R (part s) (EAt w0 g p pos true)):=by
 have HP:=yD h;have AT:=yD (hpart w p B s R h hG hl);have AK:=yD hg;have HB:=yD hB;have AO:=yD hw0;have cb:=hb.1.cell 0;simp only[yI,yJ] at cb;clear h hpart hG hl hb hg hB hw0
 go_enter Tryz.func214,Tryz.ntmps214
 go_wp2_with fail
 refine AT.out.mono ?_;intro e w1 AA
 cases hr:part s with
 | err er a=>
  rw[hr] at AA;obtain⟨rfl,s1,AV,R1,AD,AC⟩:=AA;have HF:Hid (VB (fun b=>b=g) w p B R (part s) (EAt w0 g p pos true) (jL er) w1):=yD (by rw[hr]; exact⟨rfl,s1,R1,AV,AD,AC.or _⟩);exact xA (P:=Tryz.prog) (fn:=Tryz.f214) rfl HF.out
 | ok x s1=>
  rw[hr] at AA;obtain⟨cs,R1,rfl,AD,AC,AI⟩:=AA;obtain⟨A1,c1,f1,AL,_⟩:=AI.open;have AB:=yD (AK.out.xO AC);have AN:=yD AC;have AQ:=yD AD;have AW:=yD AI;have AR:=yD (AD.fresh 232 cs.toArray);have AX:=yD AL;have HR:=yD hr;clear hr AD AC AI;subst AL;have c5:=AB.out.1.cell 5;have z5:=AB.out.1.frozen 5;have AU:=AB.out.1.lt;simp only[jP,yI,yJ,List.getElem?_cons_succ] at c5;unfold jP;generalize x.parts.length=xm at *;generalize HY:x.node=y at *;obtain⟨yk,yp,yt,yn,AF⟩:=y
  simp only
  go_wp2_with fail
  go_end0;rw[HR.out];obtain⟨W,hW⟩:∃W,w1.setCell ⟨g,5,none⟩ (.slice (some ⟨w1.heap.size,0,none⟩) 1 1)=W:=⟨_,rfl⟩
  have AS:W.heap.size=w1.heap.size:=by rw[←hW]; simp[World.setCell]
  have AJ:∀b,b≠g→W.heap[b]?=w1.heap[b]?:=fun b hb=>by rw[←hW]; exact zQ w1 ⟨g,5,none⟩ _ b hb
  have AG:∀ {N:Nat→Prop},N g→xK w1 N W N:=fun h=>by rw[←hW]; exact xK.set h
  have AH:Ext W (W.alloc (.cells (jP ⟨yk,yp,yt,yn,AF⟩ A1 xm c1).toArray 232)):=Ext.alloc _ _;have AP:g≠w1.heap.size:=Nat.ne_of_lt AU;have AM:=AB.out.1.put 5 (.slice (some ⟨w1.heap.size,0,none⟩) 1 1);rw[hW] at AM ⊢;have AE:=Blk.new W 232 (jP ⟨yk,yp,yt,yn,AF⟩ A1 xm c1).toArray;rw[AS] at AE;have ht:∀ {N:Nat→Prop},N g→xK w1 N (W.alloc (.cells (jP ⟨yk,yp,yt,yn,AF⟩ A1 xm c1).toArray 232)) N:=fun h=>(AG h).trans (xK.ext AH);refine⟨rfl,R1,⟨?_,?_⟩,?_⟩
  ·refine PS.ext (AQ.out.JX fun b hb=>AJ b fun e=>?_) AH;subst e
   rcases hb with hb | hb
   ·have:=HB.out; omega
   ·exact AB.out.2 hb
  ·exact(AN.out.or _).trans (ht (.inr rfl))
  ·refine⟨jP ⟨26,pos,[],0,[]⟩ (some ⟨w1.heap.size,0,none⟩) 1 1,⟨?_,AB.out.2⟩,⟨w1.heap.size,jP ⟨yk,yp,yt,yn,AF⟩ A1 xm c1,rfl,⟨AE,fun k=>?_⟩,?_⟩⟩
   ·have:=AM.ext AH
    simpa [jP] using this
   ·rcases k with k | k | k
    ·exact AR.out.2 k
    ·have h1:=AO.out;have h2:=AN.out.size;unfold under at k;omega
    ·exact AP k.symm
   ·refine((AW.out.weaken (M':=Or (xJ p R1) (fun b=>under w0 b∨b=g)) fun b hb k=>?_).xO (ht (.inr (.inr rfl))))
    rcases k with k | k | k
    ·exact .inl k
    ·exact .inr (yR k AO.out)
    ·subst k; exact .inr AK.out.1.lt
theorem zNX (w0 w:World)(p B gb g f pos:Nat)(s:Ps)(R:xW)(part:Pm Ex)(hpart:zBp 207 f part)(h:PS w p B s R)(hG:Good s)(hl:s.ts.length≤f)(hb:Safe w (xJ p R) gb 73 #[.pointer (some ⟨p,0,none⟩)])(cs0:List Value)(h6:cs0.length=6)(hg:Safe w (xJ p R) g 232 cs0.toArray)(hB:B≤g)(hw0:w0.heap.size≤w.heap.size) :
  Calls Tryz.prog 215 #[.pointer (some ⟨gb,0,none⟩),.pointer (some ⟨g,0,none⟩)] w (VB (fun b=>b=g) w p B R (part s) (EAt w0 g p pos false)):=by
 have HP:=yD h;have AL:=yD (hpart w p B s R h hG hl);have AG:=yD hg;have HB:=yD hB;have AM:=yD hw0;have H6:=yD h6;have cb:=hb.1.cell 0;simp only[yI,yJ] at cb;clear h hpart hG hl hb hg hB hw0 h6
 go_enter Tryz.func215,Tryz.ntmps215
 go_wp2_with fail
 refine AL.out.mono ?_;intro e w1 AA
 cases hr:part s with
 | err er a=>
  rw[hr] at AA;obtain⟨rfl,s1,AO,R1,AD,AB⟩:=AA;have HF:Hid (VB (fun b=>b=g) w p B R (part s) (EAt w0 g p pos false) (jL er) w1):=yD (by rw[hr]; exact⟨rfl,s1,R1,AO,AD,AB.or _⟩);exact xA (P:=Tryz.prog) (fn:=Tryz.f215) rfl HF.out
 | ok x s1=>
  rw[hr] at AA;obtain⟨cs,R1,rfl,AD,AB,AF⟩:=AA;obtain⟨A1,c1,f1,AI,_⟩:=AF.open;have AE:=yD (AG.out.xO AB);have AK:=yD AB;have AJ:=yD AD;have AP:=yD AF;have HR:=yD hr;clear hr AD AB AF;subst AI;unfold jP;generalize x.parts.length=xm at *;generalize HY:x.node=y at *;obtain⟨yk,yp,yt,yn,AN⟩:=y
  simp only
  go_wp2_with (refine vF rfl 232 (.tmp 1) (.tmp 3) rfl g #[.int .u8 (yk:Int),.int .i64 (yp:Int),.string (yX yt),.int .i64 yn,.slice none 0 0,.slice A1 xm c1] (by rfl) (by rfl) 232 _ AE.out.1 (by kernel_rfl) (by have:=H6.out; simpa using this) rfl ?_; intro w6 AC AH)
  have AQ:Hid (VB (fun b=>b=g) w p B R (part s) (EAt w0 g p pos false) (.returned (.tuple #[])) w6):=yD (by rw[HR.out]; exact⟨rfl,R1,⟨AC.ps AJ.out HB.out AE.out.2,(AK.out.or _).trans (AC.xO (.inr rfl))⟩,jP ⟨yk,yp,yt,yn,AN⟩ A1 xm c1,⟨AH,AE.out.2⟩,(AP.out.weaken (M':=Or (xJ p R1) (fun b=>under w0 b∨b=g)) fun b hb k=>by
   rcases k with k | k | k
   ·exact .inl k
   ·exact .inr (yR k AM.out)
   ·subst k; exact .inr AG.out.1.lt).xO (AC.xO (.inr (.inr rfl)))⟩)
  clear AC AH
  go_wp2_with fail
  go_end0;exact AQ.out
end Go.Proofs.YtioffpjajhalaaaGreatDoor
