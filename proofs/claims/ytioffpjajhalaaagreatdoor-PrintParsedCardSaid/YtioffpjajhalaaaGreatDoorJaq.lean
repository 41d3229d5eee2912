/- The program's chain: parts with marks between them. (and what follows of it). The conditions stand at each lemma. -/
import Derived.Test.YtioffpjajhalaaaGreatDoorJaa
import Derived.Test.YtioffpjajhalaaaGreatDoorJap
import Derived.ScopeJumps
import Derived.WalkMore
set_option linter.unusedVariables false
set_option linter.unusedSimpArgs false
set_option maxRecDepth 100000
set_option maxHeartbeats 16000000
namespace Go.Proofs.YtioffpjajhalaaaGreatDoor
open Go Go.RowKit
theorem zSW (l:Bs):(yX l).size=l.length:=by simp[yX,ByteArray.size]
theorem EX.weaken {w:World}{M M':Nat→Prop}(k:∀b,b<w.heap.size→M' b→M b):∀ {e:Ex} {cs:List Value},EX w M e cs→EX w M' e cs
 | .leaf ..,_,h=>h
 | .neg ..,_,⟨g,ca,h1,h2,h3⟩=>⟨g,ca,h1,⟨h2.1,fun h=>h2.2 (k g h2.1.lt h)⟩,EX.weaken k h3⟩
 | .bin ..,_,⟨g,ca,cb,h1,h2,h3,h4⟩=>⟨g,ca,cb,h1,⟨h2.1,fun h=>h2.2 (k g h2.1.lt h)⟩,EX.weaken k h3,EX.weaken k h4⟩
theorem Touch.xJ {g:Nat}{w w':World}(h:Touch g w w'){N:Nat→Prop}(hg:N g):xH w N w' N:=
 ⟨h.os,h.tape,h.output,by rw[h.size]; exact zU _,fun b hb hN=>h.other b fun e=>hN (by rw[e]; exact hg),fun b hb=>.inl hb⟩
theorem Touch.ps {g p B:Nat}{w w':World}{s:Ps}{R:xS}(h:Touch g w w')(k:PS w p B s R)(hB:B≤g)(hM:¬xG p R g):PS w' p B s R:=
 k.zAf fun b hb=>h.other b fun e=>by
  subst e
  rcases hb with hb | hb
  ·omega
  ·exact hM hb
theorem Touch.safe {g g':Nat}{w w':World}{M:Nat→Prop}{t:TypeId}{cs:Array Value}(h:Touch g w w')(k:Safe w M g' t cs)(hn:g'≠g):Safe w' M g' t cs:=⟨(h.other g' hn).trans k.1,k.2⟩
theorem xH.YD {g:Nat}{w w1 w2:World}{M M1:Nat→Prop}(k:xH w M w1 M1)(h:Touch g w1 w2)(hg:w.heap.size≤g):xH w M w2 M1:=
 ⟨h.os.trans k.os,h.tape.trans k.tape,h.output.trans k.output,by rw[h.size]; exact k.size,fun b hb hM=>(h.other b (by omega)).trans (k.zAf b hb hM),k.zFT⟩
def under (w:World)(b:Nat):Prop:=b<w.heap.size
def zAr (w:World)(p B:Nat)(R:xS)(r:Res Ex)(e:Ending)(w':World):Prop:=
 match r with
 | .ok x s'=>∃cs R',e=.returned (.agg cs.toArray)∧PS w' p B s' R'∧xH w (xG p R) w' (xG p R')∧EX w' (Or (xG p R') (under w)) x cs
 | .err er a=>VK w p B R er a e w'
theorem zJd {P:Program}{a:Act}{w:World}{Q:Exit→Act→World→Prop}{x rest:Code}(l:Nat)(J:Act→World→Prop)(μ:Act→World→Nat)(hf:findLabel x l=none)
  (first:x.wp P (Exit.then J (Exit.noGoto Q)) a w) (pass:∀a w,J a w→rest.wp P (Exit.jump l (fun a' w'=>J a' w'∧μ a' w'<μ a w) Q) a w):(Code.scope (x.seq ((Code.label l).seq rest))).wp P Q a w:=by
 refine wp_scope_jumps (rest:=.seq .skip rest) l J μ (by simp[findLabel,hf]) ?_ (fun a w h=>wp_seq (wp_skip (pass a w h)));apply wp_seq;refine wp_mono first ?_;intro e a w h
 cases e with
 | normal=>
  refine wp_seq (wp_label (wp_mono (pass a w h) ?_));intro e a w h
  cases e with
  | goto l'=>exact⟨h.1,h.2.1⟩
  | normal=>exact h
  | exit id=>exact h
  | ret=>exact h
  | panic ch=>exact h
  | outgrown=>exact h
 | goto l'=>exact h.elim
 | exit id=>exact h
 | ret=>exact h
 | panic ch=>exact h
 | outgrown=>exact h
theorem zN0 {ms:List (Bs × Nat)}{part:Pm Ex}{f:Nat}{e:Ex}{s:Ps}(h:zAi ms s=none):ZE ms part (f+1) e s=.ok e s:=by rw[ZE,h]
theorem zMG {ms:List (Bs × Nat)}{part:Pm Ex}{f k:Nat}{e:Ex}{s:Ps}(h:zAi ms s=some k):ZE ms part (f+1) e s=(part s.adv).bind fun r s=>ZE ms part f (.bin k e.pos e r) s:=by rw[ZE,h]
theorem zOS {ms:List (Bs × Nat)}{s:Ps}(h:∀m ∈ ms,isP m.1 s=false):zAi ms s=none:=by
 unfold zAi;rw[List.find?_eq_none.2 (fun m hm=>by rw[h m hm]; simp)]
 rfl
theorem zJb:∀ {ms:List (Bs × Nat)} {s:Ps} (k:Nat) (hk:k<ms.length),(∀j (hj:j<ms.length),j<k→isP ms[j].1 s=false)→isP ms[k].1 s=true→zAi ms s=some ms[k].2
 | m::ms,s,0,_,_,hi=>by
  have AA:isP m.1 s=true:=hi;unfold zAi;simp[List.find?_cons,AA]
 | m::ms,s,k+1,hk,h,hi=>by
  have h0:isP m.1 s=false:=h 0 (by simp) (by omega);have ih:=zJb (ms:=ms) (s:=s) k (by simpa using hk) (fun j hj AB=>h (j+1) (by simpa using hj) (by omega)) hi;unfold zAi at ih ⊢;rw[List.find?_cons,h0];exact ih
theorem zJX:∀(ms:List (Bs × Nat)),(∀m ∈ ms,m.1.length=1)→(ms.map Prod.fst).flatten.length=ms.length∧∀k (hk:k<ms.length),((ms.map Prod.fst).flatten.drop k).take 1=ms[k].1
 | [],_=>⟨rfl,fun k hk=>by cases hk⟩
 | m::ms,h=>by
  obtain⟨h1,h2⟩:=zJX ms (fun x hx=>h x (List.mem_cons_of_mem _ hx));obtain⟨c,hc⟩:=List.length_eq_one_iff.1 (h m (List.mem_cons_self ..));refine⟨by rw[List.map_cons,List.flatten_cons,yM,h1,h m (List.mem_cons_self ..),zJ]; omega,fun k hk=>?_⟩;rw[List.map_cons,List.flatten_cons,hc]
  match k,hk with
  | 0,_=>rw[List.getElem_cons_zero,hc]; rfl
  | k+1,hk=>exact h2 k (by simpa using hk)
theorem zL1 (L:Bs)(i j:Nat):(yX L).extract i j=yX ((L.drop i).take (j-i)):=by
 apply ByteArray.ext;rw[ByteArray.data_extract]
 show(L.toArray).extract i j=((L.drop i).take (j-i)).toArray
 apply Array.ext';simp[List.extract_eq_take_drop,List.take_drop]
 try omega
def ChX (w:World)(g g0 b:Nat):Prop:=under w b∨b=g∨b=g0
def zSH (n:Nat)(ms:List (Bs × Nat))(part:Pm Ex)(K:Nat)(first cap:Array Value)(A:Option Addr)(kc:Nat)(w:World)(p B:Nat)(s:Ps)(R:xS)(g0:Nat)(a':Act)(w':World):Prop:=
 ∃(g:Nat) (s':Ps) (R':xS) (x:Ex) (cs:List Value) (f:Nat) (u10 u11 u12 u13 u14 u15 u16 u17 u18 u19 u20 u21 u22 u23 u24 u25 u26 u27 u28 u29 u30 u31 u32 u33 u34 u35 u36 u37 u38 u39 u40 u41:Value),
  a' = { tmps:=#[.pointer (some ⟨p,0,none⟩),.func (.func K) first cap,.string (yX (ms.map Prod.fst).flatten),.slice A ms.length kc,undef,undef,undef,undef,.pointer (some ⟨g0,0,none⟩),.pointer (some ⟨g,0,none⟩),u10,u11,u12,u13,u14,u15,u16,u17,u18,u19,u20,u21,u22,u23,u24,u25,u26,u27,u28,u29,u30,u31,u32,u33,u34,u35,u36,u37,u38,u39,u40,u41],defers:=[] } ∧
  Hid (PS w' p B s' R')∧Hid (xH w (xG p R) w' (xG p R'))∧Hid (Good s')∧Hid (s'.ts.length≤n)∧Hid (s'.ts.length<f)∧Hid (ZL ms part s=ZE ms part f x s') ∧
  Hid (Safe w' (xG p R') g 232 cs.toArray)∧Hid (w.heap.size≤g∧w.heap.size≤g0∧g≠g0∧B≤w.heap.size)∧Hid (EX w' (Or (xG p R') (ChX w g g0)) x cs)∧Hid (Safe w' (xG p R') g0 232 #[.int .u8 0,.int .i64 0,.string ⟨#[]⟩,.int .i64 0,.slice none 0 0,.slice none 0 0])
theorem zJ9 (n:Nat)(ms:List (Bs × Nat))(part:Pm Ex)(K:Nat)(first cap:Array Value)(A:Option Addr)(kc:Nat)(w:World)(p B:Nat)(s:Ps)(R:xS)(h:PS w p B s R)(hG:Good s)(hn:s.ts.length≤n)
  (h1:∀m ∈ ms,m.1.length=1) (h2:ms.length≤100) (hk:zFJ w (xG p R) A (ms.map fun m=>.int .u8 (m.2:Int)))
  (hfine:∀t,Good t→t.ts.length≤n→zDg t (part t)) (he:∀args w,(callFunc K args).run Tryz.prog w=.ok (.enter K args) w)
  (hcall:∀(wr:World) (s':Ps) (R':xS),xH w (xG p R) wr (xG p R')→PS wr p B s' R'→Good s'→s'.ts.length≤n→Calls Tryz.prog K (first++cap) wr (zAr wr p B R' (part s'))) :
  Calls Tryz.prog 211 #[.pointer (some ⟨p,0,none⟩),.func (.func K) first cap,.string (yX (ms.map Prod.fst).flatten),.slice A ms.length kc] w (zAr w p B R (ZL ms part s)):=by
 have HP:=yD h;have BH:=yD hfine;have HC:=yD hcall;have HK:=yD hk;have HE:=yD he;have HG:=yD hG;have HN:=yD hn;have H1:=yD h1;have AY:=hfine s hG hn;have HZ:=yD (h.fresh 232 #[.int .u8 0,.int .i64 0,.string ⟨#[]⟩,.int .i64 0,.slice none 0 0,.slice none 0 0]);have AJ:Hid (Ext w (w.alloc (.cells #[.int .u8 0,.int .i64 0,.string ⟨#[]⟩,.int .i64 0,.slice none 0 0,.slice none 0 0] 232))):=yD (Ext.alloc _ _);obtain⟨g0,Ag⟩:∃g0,Hid (w.heap.size=g0):=⟨_,yD rfl⟩;clear h hfine hcall hk hG hn h1
 go_enter Tryz.func211,Tryz.ntmps211
 go_wp2_with fail
 generalize w.alloc (.cells #[.int .u8 0,.int .i64 0,.string ⟨#[]⟩,.int .i64 0,.slice none 0 0,.slice none 0 0] 232)=w0 at *;rw[Ag.out];rw[Ag.out] at HZ;refine zJd 0 (zSH n ms part K first cap A kc w p B s R g0) (fun _ w=>JP p w) rfl ?_ ?_
 ·go_wp2_with fail
  refine(HC.out w0 s R (xH.ext AJ.out) (HP.out.ext AJ.out) HG.out HN.out).mono ?_;intro e w1 AA
  cases hr:part s with
  | err er a=>
   rw[hr] at AA;obtain⟨rfl,ho⟩:=AA
   have HF:Hid (zAr w p B R (ZL ms part s) (jW er) w1):=yD (by
    unfold ZL;rw[hr]
    exact VK.trans (xH.ext AJ.out) ⟨rfl,ho⟩)
   exact yZ (P:=Tryz.prog) (fn:=Tryz.f211) rfl HF.out
  | ok x s1=>
   rw[hr] at AA AY;obtain⟨cs,R1,rfl,Ai,AZ,As⟩:=AA;obtain⟨A0,BW,_,_⟩:=AY;have Ad:Hid (ZL ms part s=ZE ms part (s1.ts.length+1) x s1):=yD (by unfold ZL; rw[hr]; rfl);obtain⟨A1,c1,f1,AH,_⟩:=As.open;have BP:=yD As;have Ab:=yD Ai;have AV:=yD AZ;have AL:=yD (HZ.out.xJ AZ);have Ac:=yD A0;have BR:Hid (s1.ts.length≤n):=yD (by have:=HN.out; omega);have BQ:=yD AH;have BK:=yD (Ai.fresh 232 cs.toArray)
   have AE:Hid (w.heap.size≤w1.heap.size∧w.heap.size≤g0∧w1.heap.size≠g0∧B≤w.heap.size):=yD (by
    have h1:=AJ.out.size;have h2:=AZ.size;have h3:=Ag.out;have h4:=AL.out.1.lt;have h5:=HP.out.pB;have h6:=HP.out.blk.lt
    omega)
   have BZ:Hid (∀b,b<w1.heap.size→Or (xG p R1) (ChX w w1.heap.size g0) b→Or (xG p R1) (under w0) b):=yD fun b hb h=>by
    rcases h with h | h | h | h
    ·exact .inl h
    ·exact .inr (yR h AJ.out.size)
    ·omega
    ·subst h; exact .inr (HZ.out.1.lt)
   clear hr As Ai AZ A0 BW;subst AH;unfold jZ;generalize x.parts.length=xm at *;generalize HY:x.node=y at *;obtain⟨yk,yp,yt,yn,AM⟩:=y
   simp only
   go_wp2_with fail
   have AG:Hid (Ext w1 (w1.alloc (.cells (jZ ⟨yk,yp,yt,yn,AM⟩ A1 xm c1).toArray 232))):=yD (Ext.alloc _ _);exact⟨w1.heap.size,s1,R1,x,jZ ⟨yk,yp,yt,yn,AM⟩ A1 xm c1,s1.ts.length+1,_,_,_,_,_,_,_,_,_,_,_,_,_,_,_,_,_,_,_,_,_,_,_,_,_,_,_,_,_,_,_,_,rfl,yD (Ab.out.ext AG.out),yD (((xH.ext AJ.out).trans AV.out).trans (xH.ext AG.out)),Ac,BR,yD (Nat.lt_succ_self _),Ad,BK,AE,yD ((BP.out.weaken BZ.out).xJ ((xH.ext AG.out).or _)),yD (AL.out.xJ (xH.ext AG.out))⟩
 ·rintro a1 w1 ⟨g,s',R',x,cs,f,Br,B6,B8,Bt,Bm,CC,Bp,B3,CE,B4,CD,CF,B7,B0,Bn,B2,Bo,CB,Bu,B1,CJ,CH,Bi,Bj,B9,Bv,Bz,CG,Bx,Bq,Bw,B5,rfl,Ab,AV,Ac,BN,BF,Ad,Ao,AE,A9,AL⟩;obtain⟨f',rfl⟩:∃f',f=f'+1:=⟨f-1,by have:=BF.out; omega⟩
  have CA:(yX (ms.map Prod.fst).flatten).size=ms.length:=by rw[zSW]; exact(zJX ms H1.out).1
  have Bc:Hid (JP p w1=s'.ts.length):=yD Ab.out.JP;rw[Bc.out]
  go_wp2_with fail
  go_loopw [17] (fun i' wr=>∃(k:Nat),k≤ms.length∧i'=.int .i64 k∧Hid (∀j (hj:j<ms.length),j<k→isP ms[j].1 s'=false)∧Hid (Ext w1 wr)) (fun i' _=>ms.length-(intOf i').toNat)
  case atStart=>exact⟨0,zT _,rfl,yD (fun j hj h=>absurd h (by omega)),yD (Ext.refl _)⟩
  case round=>
   obtain⟨k,hk,rfl,Au,AF⟩:=hrel;obtain⟨wa,rfl⟩:∃wa:World,wa=wr:=⟨_,rfl⟩;have Al:=yD (Ab.out.ext AF.out)
   by_cases Ae:k<ms.length
   ·have d0:decide ((k:Int)<(ms.length:Int))=true:=yP (by omega)
    have q1:(k:Int)<(ms.length:Int):=by omega
    obtain⟨b,Av,rfl,hb,Ay⟩:=((HK.out.xJ AV.out).xJ (xH.ext AF.out)).cells.at_ (by simp; omega)
    have e0:wa.cell? ⟨b,Av+k,none⟩=some (.int .u8 (ms[k].2:Int)):=by rw[Ay k (by simpa using Ae)]; simp[Ae]
    have Bk:=yD e0;have A4:Hid ((yX (ms.map Prod.fst).flatten).extract k (k+1)=yX ms[k].1):=yD (by rw[zL1,show k+1-k=1 by omega,(zJX ms H1.out).2 k Ae]);clear Ay
    cases hi:isP ms[k].1 s' with
    | false=>
     have HI:=yD hi;clear hi
     go_wp2_with fail
     rw[A4.out];refine(zAQ wa p B s' R' ms[k].1 HI Al.out).mono ?_;rintro e w2 ⟨rfl,A6⟩;have BJ:=yD (AF.out.trans A6);clear A6
     go_wp2_with fail
     go_roundw
     case rel=>exact⟨k+1,by omega,by go_num,yD (fun j hj Bl=>by
      rcases Nat.lt_or_ge j k with h | h
      ·exact Au.out j hj h
      ·obtain rfl:j=k:=by omega
       exact HI.out),BJ⟩
     case measure=>simp[intOf]; omega
    | true=>
     have HI:=yD hi;have BY:=yD (zJb k Ae Au.out hi);have Bb:=yD (vI hi).1;clear hi;have A8:=yD (Ac.out.adv Bb.out)
     have BC:Hid (s'.adv.ts.length<s'.ts.length):=yD (by
      have h1:=jX (s:=s');have h2:=Ac.out.pos
      omega)
     have Am:Hid (s'.adv.ts.length≤n):=yD (by have:=BC.out; have:=BN.out; omega);have HQ:Hid (ZL ms part s=(part s'.adv).bind fun r s=>ZE ms part f' (.bin ms[k].2 x.pos x r) s):=yD (by rw[Ad.out,zMG BY.out])
     go_wp2_with fail
     rw[A4.out];refine(VO wa p B s' R' ms[k].1 HI Al.out).mono ?_;rintro e w2 ⟨rfl,R2,BG,Ah⟩;have Bd:=yD BG;have Aa:=yD (((AV.out.trans (xH.ext AF.out))).trans Ah);have AR:=yD ((xH.ext (M:=xG p R') AF.out).trans Ah);clear BG Ah
     go_wp2_with fail
     refine(HC.out w2 s'.adv R2 Aa.out Bd.out A8.out Am.out).mono ?_;intro e w3 AA;have AY:=BH.out s'.adv A8.out Am.out
     cases hr:part s'.adv with
     | err er a=>
      rw[hr] at AA;obtain⟨rfl,ho⟩:=AA
      have HF:Hid (zAr w p B R (ZL ms part s) (jW er) w3):=yD (by
       rw[HQ.out,hr]
       exact VK.trans Aa.out ⟨rfl,ho⟩)
      exact yZ (P:=Tryz.prog) (fn:=Tryz.f211) rfl HF.out
     | ok r s3=>
      rw[hr] at AA AY;obtain⟨BV,R3,rfl,A5,AW,Ap⟩:=AA;obtain⟨Ax,BI,_,_⟩:=AY;have AB:=yD ((Ao.out.xJ AR.out).xJ AW);have Aw:=yD ((AL.out.xJ AR.out).xJ AW);have AT:=yD ((A9.out.xJ (AR.out.or _)).xJ (AW.or _));obtain⟨A1,c1,f1,AH,_⟩:=AT.out.open;obtain⟨A3,c3,f3,AN,_⟩:=Ap.open
      have Bg:Hid (EX w3 (Or (xG p R3) (ChX w g g0)) r BV):=yD (Ap.weaken fun b hb h=>by
       rcases h with h | h
       ·exact .inl h
       ·refine .inr ?_;have h1:=Aa.out.size;have h2:=(Ao.out.xJ AR.out).1.lt;have h3:=(AL.out.xJ AR.out).1.lt;unfold under
        rcases h with h | h | h
        ·unfold under at h; omega
        ·omega
        ·omega)
      have BB:=yD A5;have BA:=yD (Aa.out.trans AW);have BM:=yD Ax;have Ar:Hid (s3.ts.length≤n∧s3.ts.length<s'.ts.length):=yD (by have:=Am.out; have:=BC.out; omega);have Ba:Hid (ZL ms part s=ZE ms part f' (.bin ms[k].2 x.pos x r) s3):=yD (by rw[HQ.out,hr]; rfl);have BQ:=yD AH;have Bh:=yD AN;have A2:=x.zNB;clear hr A5 AW Ap Ax BI;subst AH AN;unfold jZ;have AP:=AB.out.1.cell 0;have AI:=AB.out.1.cell 1;have AX:=AB.out.1.cell 2;have AQ:=AB.out.1.cell 3;have AU:=AB.out.1.cell 4;have AO:=AB.out.1.cell 5;simp only[jZ,yI,yJ,List.getElem?_cons_succ] at AP AI AX AQ AU AO;have By:=AB.out.1.lt;rw[A2] at AI;clear A2;generalize x.parts.length=xm at *;generalize r.parts.length=rm at *;generalize HY:x.node=y at *;generalize HYR:r.node=yr at *;obtain⟨yk,yp,yt,yn,AM⟩:=y;obtain⟨rk,rp,rt,rn,BS⟩:=yr
      simp only at AP AI AX AQ AU AO ⊢
      have AC:Hid (Ext w3 ((w3.alloc (.cells #[.int .u8 (rk:Int),.int .i64 (rp:Int),.string (yX rt),.int .i64 rn,.slice none 0 0,.slice A3 rm c3] 232)).alloc (.cells #[.int .u8 (yk:Int),.int .i64 (x.pos:Int),.string (yX yt),.int .i64 yn,.slice none 0 0,.slice A1 xm c1,.int .u8 (rk:Int),.int .i64 (rp:Int),.string (yX rt),.int .i64 rn,.slice none 0 0,.slice A3 rm c3] 232))):=yD ((Ext.alloc _ _).trans (Ext.alloc _ _));have Ak:=yD ((BB.out.ext (Ext.alloc w3 (.cells #[.int .u8 (rk:Int),.int .i64 (rp:Int),.string (yX rt),.int .i64 rn,.slice none 0 0,.slice A3 rm c3] 232))).fresh 232 #[.int .u8 (yk:Int),.int .i64 (x.pos:Int),.string (yX yt),.int .i64 yn,.slice none 0 0,.slice A1 xm c1,.int .u8 (rk:Int),.int .i64 (rp:Int),.string (yX rt),.int .i64 rn,.slice none 0 0,.slice A3 rm c3]);have BL:Hid ((w3.alloc (.cells #[.int .u8 (rk:Int),.int .i64 (rp:Int),.string (yX rt),.int .i64 rn,.slice none 0 0,.slice A3 rm c3] 232)).heap.size=w3.heap.size+1):=yD (yQ _ _);rw[BL.out] at Ak
      go_wp2_with (refine vJ rfl 232 (.tmp 9) (.tmp 39) rfl g #[.int .u8 (ms[k].2:Int),.int .i64 (x.pos:Int),.string ⟨#[]⟩,.int .i64 0,.slice none 0 0,.slice (some ⟨w3.heap.size+1,0,none⟩) 2 2] (by rfl) (by rfl) 232 _ (AB.out.1.ext AC.out) (by kernel_rfl) rfl rfl ?_; intro w6 AD AS)
      have At:yp=x.pos:=by have:=x.zNB; rw[HY] at this; exact this
      have CI:=yD At;have Az:=yD (AD.ps (BB.out.ext AC.out) (Nat.le_trans AE.out.2.2.2 AE.out.1) AB.out.2);have Bf:=yD ((BA.out.trans (xH.ext AC.out)).YD AD AE.out.1);have Af:Hid (xH w3 (Or (xG p R3) (ChX w g g0)) w6 (Or (xG p R3) (ChX w g g0))):=yD (((xH.ext AC.out).or _).trans (AD.xJ (.inr (.inr (.inl rfl)))))
      have Be:Hid (Safe w6 (Or (xG p R3) (ChX w g g0)) (w3.heap.size+1) 232 (jZ ⟨yk,yp,yt,yn,AM⟩ A1 xm c1++jZ ⟨rk,rp,rt,rn,BS⟩ A3 rm c3).toArray):=yD (by
       have h1:=AB.out.1.lt;have h2:=Aw.out.1.lt;have h3:=BA.out.size
       have hs:Safe _ (Or (xG p R3) (ChX w g g0)) (w3.heap.size+1) 232 _:=⟨Ak.out.1,fun h=>by
        rcases h with h | h | h | h
        ·exact Ak.out.2 h
        ·unfold under at h; omega
        ·omega
        ·omega⟩
       rw[At]
       exact AD.safe hs (by omega))
      have BT:=yD (AD.safe (Aw.out.xJ (xH.ext AC.out)) (Ne.symm AE.out.2.2.1));have Aj:=yD AS;have BO:Hid (EX w6 (Or (xG p R3) (ChX w g g0)) (.bin ms[k].2 x.pos x r) (jZ ⟨ms[k].2,x.pos,[],0,[]⟩ (some ⟨w3.heap.size+1,0,none⟩) 2 2)):=yD ⟨_,_,_,rfl,Be.out,AT.out.xJ Af.out,Bg.out.xJ Af.out⟩;have An:Hid (s3.ts.length<f'):=yD (by have:=BF.out; have:=Ar.out; omega);clear AD AS At;apply wp_goto;refine(show(0=0∧zSH n ms part K first cap (some ⟨b,Av,none⟩) kc w p B s R g0 _ w6∧JP p w6<s'.ts.length) from⟨rfl,⟨g,s3,R3,.bin ms[k].2 x.pos x r,jZ ⟨ms[k].2,x.pos,[],0,[]⟩ (some ⟨w3.heap.size+1,0,none⟩) 2 2,f',_,_,_,_,_,_,_,_,_,_,_,_,_,_,_,_,_,_,_,_,_,_,_,_,_,_,_,_,_,_,_,_,rfl,Az,Bf,BM,yD Ar.out.1,An,Ba,yD ⟨Aj.out,AB.out.2⟩,AE,BO,BT⟩,by rw[Az.out.JP]; exact Ar.out.2⟩)
   ·obtain rfl:k=ms.length:=by omega
    have d0:decide ((ms.length:Int)<(ms.length:Int))=false:=by simp
    have d1:decide (ms.length<ms.length)=false:=by simp
    have Aq:Hid (ZL ms part s=.ok x s'):=yD (by rw[Ad.out,zN0 (zOS fun m hm=>by
     obtain⟨j,hj,rfl⟩:=List.mem_iff_getElem.1 hm
     exact Au.out j hj hj)])
    have AK:=yD (Ao.out.xJ (xH.ext AF.out));have BE:=yD (AL.out.xJ (xH.ext AF.out));have A7:=yD (A9.out.xJ ((xH.ext AF.out).or _));obtain⟨A1,c1,f1,AH,_⟩:=A7.out.open;have AP:=AK.out.1.cell 0;have AI:=AK.out.1.cell 1;have AX:=AK.out.1.cell 2;have AQ:=AK.out.1.cell 3;have AU:=AK.out.1.cell 4;have AO:=AK.out.1.cell 5;subst AH;simp only[jZ,yI,yJ,List.getElem?_cons_succ] at AP AI AX AQ AU AO;generalize x.parts.length=xm at *;generalize HY:x.node=y at *;obtain⟨yk,yp,yt,yn,AM⟩:=y
    simp only at AP AI AX AQ AU AO
    go_wp2_with (refine vJ rfl 232 (.tmp 8) (.tmp 41) rfl g0 #[.int .u8 (yk:Int),.int .i64 (yp:Int),.string (yX yt),.int .i64 yn,.slice none 0 0,.slice A1 xm c1] (by rfl) (by rfl) 232 _ BE.out.1 (by kernel_rfl) rfl rfl ?_; intro w6 AD AS)
    have Af:Hid (xH wa (Or (xG p R') (ChX w g g0)) w6 (Or (xG p R') (ChX w g g0))):=yD (AD.xJ (.inr (.inr (.inr rfl))))
    have An:Hid (zAr w p B R (ZL ms part s) (.returned (.agg (jZ ⟨yk,yp,yt,yn,AM⟩ A1 xm c1).toArray)) w6):=yD (by
     rw[Aq.out]
     exact⟨_,R',rfl,AD.ps Al.out (Nat.le_trans AE.out.2.2.2 AE.out.2.1) BE.out.2,(AV.out.trans (xH.ext AF.out)).YD AD AE.out.2.1,(A7.out.xJ Af.out).weaken (fun b hb h=>by
      rcases h with h | h
      ·exact .inl h
      ·exact .inr (.inl h))⟩)
    have Aj:=yD AS;clear AD AS
    go_wp2_with fail
    exact zCk g0 232 _ _ Tryz.results211 rfl rfl Aj.out Tryz.underlying232 rfl (by kernel_rfl) An.out
def zCy (F f:Nat)(m:Pm Ex):Prop:=∀(w:World) (p B:Nat) (s:Ps) (R:xS),PS w p B s R→Good s→s.ts.length≤f→Calls Tryz.prog F #[.pointer (some ⟨p,0,none⟩)] w (zAr w p B R (m s))
def JS:Array Value:=#[.int .u8 0,.int .i64 0,.string ⟨#[]⟩,.int .i64 0,.slice none 0 0,.slice none 0 0]
theorem zTI (f:Nat)(part:Pm Ex)(hpart:zCy 213 f part)(hfine:∀t,Good t→t.ts.length≤f→zDg t (part t)):zCy 212 f (ZL zDq part):=by
 intro w p B s R h hG hl;have HP:=yD h;have HG:=yD hG;have AN:=yD hpart;have AL:=yD hfine;have HL:=yD hl;have hm:=hmf;have AJ:Hid (Ext w (w.alloc (.cells JS 232))):=yD (Ext.alloc _ _);have AC:Hid (Ext w ((w.alloc (.cells JS 232)).alloc (.cells #[.int .u8 25] 5))):=yD ((Ext.alloc _ _).trans (Ext.alloc _ _));have HZ:Hid (Safe ((w.alloc (.cells JS 232)).alloc (.cells #[.int .u8 25] 5)) (xG p R) w.heap.size 232 JS):=yD ((h.fresh 232 JS).xJ (xH.ext (M:=xG p R) (Ext.alloc _ _)));have hk:=(h.ext AJ.out).fresh 5 #[.int .u8 25];rw[yQ] at hk;have HK:=yD hk;have AM:Hid (B≤w.heap.size):=yD (Nat.le_trans h.pB (zS h.blk.lt));clear h hG hpart hfine hl hk
 go_enter Tryz.func212,Tryz.ntmps212
 go_wp2_with fail
 refine(zJ9 f zDq part 213 #[.pointer (some ⟨p,0,none⟩)] #[] (some ⟨w.heap.size+1,0,none⟩) 1 _ p B s R (HP.out.ext AC.out) HG.out HL.out (by intro m hm; simp only[zDq,zR,List.not_mem_nil,or_false] at hm; rw[hm]; rfl) (by decide) HK.out.row AL.out (enters_of Tryz.func213 (by kernel_rfl) rfl) (fun wr s' R' hm hp hg hn=>AN.out wr p B s' R' hp hg hn)).mono ?_;intro e w1 AA
 cases hr:ZL zDq part s with
 | err er a=>
  rw[hr] at AA;obtain⟨rfl,ho⟩:=AA;have HF:Hid (zAr w p B R (Res.err er a) (jW er) w1):=yD (VK.trans (xH.ext AC.out) ⟨rfl,ho⟩);exact yZ (P:=Tryz.prog) (fn:=Tryz.f212) rfl HF.out
 | ok x s1=>
  rw[hr] at AA;obtain⟨cs,R1,rfl,AH,AE,AD⟩:=AA;obtain⟨A1,c1,f1,AI,_⟩:=AD.open;have AQ:=yD AH;have AS:=yD ((xH.ext (M:=xG p R) AC.out).trans AE);have AG:=yD (HZ.out.xJ AE);have AK:=yD AD;have HR:=yD hr;clear hr AH AE AD;subst AI;unfold jZ;generalize x.parts.length=xm at *;generalize HY:x.node=y at *;obtain⟨yk,yp,yt,yn,AR⟩:=y
  simp only
  go_wp2_with (refine vJ rfl 232 (.tmp 2) (.tmp 7) rfl w.heap.size #[.int .u8 (yk:Int),.int .i64 (yp:Int),.string (yX yt),.int .i64 yn,.slice none 0 0,.slice A1 xm c1] (by rfl) (by rfl) 232 _ AG.out.1 (by kernel_rfl) rfl rfl ?_; intro w6 AB AF)
  have AO:Hid (zAr w p B R (ZL zDq part s) (.returned (.agg (jZ ⟨yk,yp,yt,yn,AR⟩ A1 xm c1).toArray)) w6):=yD (by rw[HR.out]; exact⟨_,R1,rfl,AB.ps AQ.out AM.out AG.out.2,AS.out.YD AB (zU _),((AK.out.weaken (M':=Or (xG p R1) (fun b=>under w b∨b=w.heap.size)) fun b hb k=>by
   rcases k with k | k | k
   ·exact .inl k
   ·exact .inr (yR k AC.out.size)
   ·subst k; exact .inr HZ.out.1.lt).xJ (AB.xJ (.inr (.inr rfl)))).weaken fun b hb k=>by
   rcases k with k | k
   ·exact .inl k
   ·exact .inr (.inl k)⟩)
  have AP:=yD AF;clear AB AF
  go_wp2_with fail
  exact zCk w.heap.size 232 _ _ Tryz.results212 rfl rfl AP.out Tryz.underlying232 rfl (by kernel_rfl) AO.out
theorem zU8 (f:Nat)(part:Pm Ex)(hpart:zCy 212 f part)(hfine:∀t,Good t→t.ts.length≤f→zDg t (part t)):zCy 207 f (ZL zEb part):=by
 intro w p B s R h hG hl;have HP:=yD h;have HG:=yD hG;have AN:=yD hpart;have AL:=yD hfine;have HL:=yD hl;have hm:=hmf;have AJ:Hid (Ext w (w.alloc (.cells JS 232))):=yD (Ext.alloc _ _);have AC:Hid (Ext w ((w.alloc (.cells JS 232)).alloc (.cells #[.int .u8 23,.int .u8 24] 5))):=yD ((Ext.alloc _ _).trans (Ext.alloc _ _));have HZ:Hid (Safe ((w.alloc (.cells JS 232)).alloc (.cells #[.int .u8 23,.int .u8 24] 5)) (xG p R) w.heap.size 232 JS):=yD ((h.fresh 232 JS).xJ (xH.ext (M:=xG p R) (Ext.alloc _ _)));have hk:=(h.ext AJ.out).fresh 5 #[.int .u8 23,.int .u8 24];rw[yQ] at hk;have HK:=yD hk;have AM:Hid (B≤w.heap.size):=yD (Nat.le_trans h.pB (zS h.blk.lt));clear h hG hpart hfine hl hk
 go_enter Tryz.func207,Tryz.ntmps207
 go_wp2_with fail
 refine(zJ9 f zEb part 212 #[.pointer (some ⟨p,0,none⟩)] #[] (some ⟨w.heap.size+1,0,none⟩) 2 _ p B s R (HP.out.ext AC.out) HG.out HL.out (by intro m hm; simp only[zEb,zR,List.not_mem_nil,or_false] at hm; rcases hm with rfl | rfl <;> rfl) (by decide) HK.out.row AL.out (enters_of Tryz.func212 (by kernel_rfl) rfl) (fun wr s' R' hm hp hg hn=>AN.out wr p B s' R' hp hg hn)).mono ?_
 intro e w1 AA
 cases hr:ZL zEb part s with
 | err er a=>
  rw[hr] at AA;obtain⟨rfl,ho⟩:=AA;have HF:Hid (zAr w p B R (Res.err er a) (jW er) w1):=yD (VK.trans (xH.ext AC.out) ⟨rfl,ho⟩);exact yZ (P:=Tryz.prog) (fn:=Tryz.f207) rfl HF.out
 | ok x s1=>
  rw[hr] at AA;obtain⟨cs,R1,rfl,AH,AE,AD⟩:=AA;obtain⟨A1,c1,f1,AI,_⟩:=AD.open;have AQ:=yD AH;have AS:=yD ((xH.ext (M:=xG p R) AC.out).trans AE);have AG:=yD (HZ.out.xJ AE);have AK:=yD AD;have HR:=yD hr;clear hr AH AE AD;subst AI;unfold jZ;generalize x.parts.length=xm at *;generalize HY:x.node=y at *;obtain⟨yk,yp,yt,yn,AR⟩:=y
  simp only
  go_wp2_with (refine vJ rfl 232 (.tmp 2) (.tmp 7) rfl w.heap.size #[.int .u8 (yk:Int),.int .i64 (yp:Int),.string (yX yt),.int .i64 yn,.slice none 0 0,.slice A1 xm c1] (by rfl) (by rfl) 232 _ AG.out.1 (by kernel_rfl) rfl rfl ?_; intro w6 AB AF)
  have AO:Hid (zAr w p B R (ZL zEb part s) (.returned (.agg (jZ ⟨yk,yp,yt,yn,AR⟩ A1 xm c1).toArray)) w6):=yD (by rw[HR.out]; exact⟨_,R1,rfl,AB.ps AQ.out AM.out AG.out.2,AS.out.YD AB (zU _),((AK.out.weaken (M':=Or (xG p R1) (fun b=>under w b∨b=w.heap.size)) fun b hb k=>by
   rcases k with k | k | k
   ·exact .inl k
   ·exact .inr (yR k AC.out.size)
   ·subst k; exact .inr HZ.out.1.lt).xJ (AB.xJ (.inr (.inr rfl)))).weaken fun b hb k=>by
   rcases k with k | k
   ·exact .inl k
   ·exact .inr (.inl k)⟩)
  have AP:=yD AF;clear AB AF
  go_wp2_with fail
  exact zCk w.heap.size 232 _ _ Tryz.results207 rfl rfl AP.out Tryz.underlying232 rfl (by kernel_rfl) AO.out
theorem zN6 (f:Nat)(part:Pm Ex)(hpart:zCy 213 f part)(hfine:∀t,Good t→t.ts.length≤f→zDg t (part t)):zCy 207 f (sumOf part):=
 zU8 f (zOY part) (zTI f part hpart hfine) (zEk f hfine)
def EAt (w:World)(g p pos:Nat)(neg:Bool)(a:Ex)(R':xS)(w':World):Prop:=∃cs,Safe w' (xG p R') g 232 cs.toArray∧EX w' (Or (xG p R') (fun b=>under w b∨b=g)) (if neg then .neg pos a else a) cs
theorem EAt.xJ {w:World}{g p pos:Nat}{neg:Bool}{a:Ex}{R1 R2:xS}{w1 w2:World}(h:EAt w g p pos neg a R1 w1)(k:xH w1 (xG p R1) w2 (xG p R2)):EAt w g p pos neg a R2 w2:=let ⟨cs,h1,h2⟩:=h; ⟨cs,h1.xJ k,h2.xJ (k.or _)⟩
theorem zRu (w0 w:World)(p B gb g f pos:Nat)(s:Ps)(R:xS)(part:Pm Ex)(hpart:zCy 213 f part)(h:PS w p B s R)(hG:Good s)(hl:s.ts.length≤f)(hb:Safe w (xG p R) gb 73 #[.pointer (some ⟨p,0,none⟩)])(hg:Safe w (xG p R) g 232 (jZ ⟨26,pos,[],0,[]⟩ none 0 0).toArray)(hB:B≤g)(hw0:w0.heap.size≤w.heap.size) :
  Calls Tryz.prog 214 #[.pointer (some ⟨gb,0,none⟩),.pointer (some ⟨g,0,none⟩)] w (zAj (fun b=>b=g) w p B R (part s) (EAt w0 g p pos true)):=by
 have HP:=yD h;have AV:=yD (hpart w p B s R h hG hl);have AM:=yD hg;have HB:=yD hB;have AL:=yD hw0;have cb:=hb.1.cell 0;simp only[yI,yJ] at cb;clear h hpart hG hl hb hg hB hw0
 go_enter Tryz.func214,Tryz.ntmps214
 go_wp2_with fail
 refine AV.out.mono ?_;intro e w1 AA
 cases hr:part s with
 | err er a=>
  rw[hr] at AA;obtain⟨rfl,s1,AT,R1,AE,AD⟩:=AA;have HF:Hid (zAj (fun b=>b=g) w p B R (part s) (EAt w0 g p pos true) (jW er) w1):=yD (by rw[hr]; exact⟨rfl,s1,R1,AT,AE,AD.or _⟩);exact yZ (P:=Tryz.prog) (fn:=Tryz.f214) rfl HF.out
 | ok x s1=>
  rw[hr] at AA;obtain⟨cs,R1,rfl,AE,AD,AI⟩:=AA;obtain⟨A1,c1,f1,AK,_⟩:=AI.open;have AB:=yD (AM.out.xJ AD);have AO:=yD AD;have AW:=yD AE;have AQ:=yD AI;have AR:=yD (AE.fresh 232 cs.toArray);have AX:=yD AK;have HR:=yD hr;clear hr AE AD AI;subst AK;have c5:=AB.out.1.cell 5;have z5:=AB.out.1.frozen 5;have AU:=AB.out.1.lt;simp only[jZ,yI,yJ,List.getElem?_cons_succ] at c5;unfold jZ;generalize x.parts.length=xm at *;generalize HY:x.node=y at *;obtain⟨yk,yp,yt,yn,AF⟩:=y
  simp only
  go_wp2_with fail
  go_end0;rw[HR.out];obtain⟨W,hW⟩:∃W,w1.setCell ⟨g,5,none⟩ (.slice (some ⟨w1.heap.size,0,none⟩) 1 1)=W:=⟨_,rfl⟩
  have AP:W.heap.size=w1.heap.size:=by rw[←hW]; simp[World.setCell]
  have AG:∀b,b≠g→W.heap[b]?=w1.heap[b]?:=fun b hb=>by rw[←hW]; exact zQ w1 ⟨g,5,none⟩ _ b hb
  have AH:∀ {N:Nat→Prop},N g→xH w1 N W N:=fun h=>by rw[←hW]; exact xH.set h
  have AJ:Ext W (W.alloc (.cells (jZ ⟨yk,yp,yt,yn,AF⟩ A1 xm c1).toArray 232)):=Ext.alloc _ _;have AS:g≠w1.heap.size:=Nat.ne_of_lt AU;have AN:=AB.out.1.put 5 (.slice (some ⟨w1.heap.size,0,none⟩) 1 1);rw[hW] at AN ⊢;have AC:=Blk.new W 232 (jZ ⟨yk,yp,yt,yn,AF⟩ A1 xm c1).toArray;rw[AP] at AC;have ht:∀ {N:Nat→Prop},N g→xH w1 N (W.alloc (.cells (jZ ⟨yk,yp,yt,yn,AF⟩ A1 xm c1).toArray 232)) N:=fun h=>(AH h).trans (xH.ext AJ);refine⟨rfl,R1,⟨?_,?_⟩,?_⟩
  ·refine PS.ext (AW.out.zAf fun b hb=>AG b fun e=>?_) AJ;subst e
   rcases hb with hb | hb
   ·have:=HB.out; omega
   ·exact AB.out.2 hb
  ·exact(AO.out.or _).trans (ht (.inr rfl))
  ·refine⟨jZ ⟨26,pos,[],0,[]⟩ (some ⟨w1.heap.size,0,none⟩) 1 1,⟨?_,AB.out.2⟩,⟨w1.heap.size,jZ ⟨yk,yp,yt,yn,AF⟩ A1 xm c1,rfl,⟨AC,fun k=>?_⟩,?_⟩⟩
   ·have:=AN.ext AJ
    simpa [jZ] using this
   ·rcases k with k | k | k
    ·exact AR.out.2 k
    ·have h1:=AL.out;have h2:=AO.out.size;unfold under at k;omega
    ·exact AS k.symm
   ·refine((AQ.out.weaken (M':=Or (xG p R1) (fun b=>under w0 b∨b=g)) fun b hb k=>?_).xJ (ht (.inr (.inr rfl))))
    rcases k with k | k | k
    ·exact .inl k
    ·exact .inr (yR k AL.out)
    ·subst k; exact .inr AM.out.1.lt
theorem zQI (w0 w:World)(p B gb g f pos:Nat)(s:Ps)(R:xS)(part:Pm Ex)(hpart:zCy 207 f part)(h:PS w p B s R)(hG:Good s)(hl:s.ts.length≤f)(hb:Safe w (xG p R) gb 73 #[.pointer (some ⟨p,0,none⟩)])(cs0:List Value)(h6:cs0.length=6)(hg:Safe w (xG p R) g 232 cs0.toArray)(hB:B≤g)(hw0:w0.heap.size≤w.heap.size) :
  Calls Tryz.prog 215 #[.pointer (some ⟨gb,0,none⟩),.pointer (some ⟨g,0,none⟩)] w (zAj (fun b=>b=g) w p B R (part s) (EAt w0 g p pos false)):=by
 have HP:=yD h;have AM:=yD (hpart w p B s R h hG hl);have AG:=yD hg;have HB:=yD hB;have AL:=yD hw0;have H6:=yD h6;have cb:=hb.1.cell 0;simp only[yI,yJ] at cb;clear h hpart hG hl hb hg hB hw0 h6
 go_enter Tryz.func215,Tryz.ntmps215
 go_wp2_with fail
 refine AM.out.mono ?_;intro e w1 AA
 cases hr:part s with
 | err er a=>
  rw[hr] at AA;obtain⟨rfl,s1,AK,R1,AD,AB⟩:=AA;have HF:Hid (zAj (fun b=>b=g) w p B R (part s) (EAt w0 g p pos false) (jW er) w1):=yD (by rw[hr]; exact⟨rfl,s1,R1,AK,AD,AB.or _⟩);exact yZ (P:=Tryz.prog) (fn:=Tryz.f215) rfl HF.out
 | ok x s1=>
  rw[hr] at AA;obtain⟨cs,R1,rfl,AD,AB,AE⟩:=AA;obtain⟨A1,c1,f1,AI,_⟩:=AE.open;have AF:=yD (AG.out.xJ AB);have AQ:=yD AB;have AO:=yD AD;have AJ:=yD AE;have HR:=yD hr;clear hr AD AB AE;subst AI;unfold jZ;generalize x.parts.length=xm at *;generalize HY:x.node=y at *;obtain⟨yk,yp,yt,yn,AP⟩:=y
  simp only
  go_wp2_with (refine vJ rfl 232 (.tmp 1) (.tmp 3) rfl g #[.int .u8 (yk:Int),.int .i64 (yp:Int),.string (yX yt),.int .i64 yn,.slice none 0 0,.slice A1 xm c1] (by rfl) (by rfl) 232 _ AF.out.1 (by kernel_rfl) (by have:=H6.out; simpa using this) rfl ?_; intro w6 AC AH)
  have AN:Hid (zAj (fun b=>b=g) w p B R (part s) (EAt w0 g p pos false) (.returned (.tuple #[])) w6):=yD (by rw[HR.out]; exact⟨rfl,R1,⟨AC.ps AO.out HB.out AF.out.2,(AQ.out.or _).trans (AC.xJ (.inr rfl))⟩,jZ ⟨yk,yp,yt,yn,AP⟩ A1 xm c1,⟨AH,AF.out.2⟩,(AJ.out.weaken (M':=Or (xG p R1) (fun b=>under w0 b∨b=g)) fun b hb k=>by
   rcases k with k | k | k
   ·exact .inl k
   ·exact .inr (yR k AL.out)
   ·subst k; exact .inr AG.out.1.lt).xJ (AC.xJ (.inr (.inr rfl)))⟩)
  clear AC AH
  go_wp2_with fail
  go_end0;exact AN.out
end Go.Proofs.YtioffpjajhalaaaGreatDoor
