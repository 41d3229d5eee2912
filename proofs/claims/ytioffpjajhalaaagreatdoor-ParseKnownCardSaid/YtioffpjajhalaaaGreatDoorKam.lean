/- The program's chain: parts with marks between them. (and what follows of it). The conditions stand at each lemma. -/
import Derived.Test.YtioffpjajhalaaaGreatDoorKaa
import Derived.Test.YtioffpjajhalaaaGreatDoorKal
import Derived.ScopeJumps
import Derived.WalkMore
set_option linter.unusedVariables false
set_option linter.unusedSimpArgs false
set_option maxRecDepth 100000
set_option maxHeartbeats 16000000
namespace Go.Proofs.YtioffpjajhalaaaGreatDoor
open Go Go.RowKit
theorem zNd (l:Bs):(xE l).size=l.length:=by simp[xE,ByteArray.size]
theorem EX.weaken {w:World}{M M':Nat→Prop}(k:∀b,b<w.heap.size→M' b→M b):∀ {e:Ex} {cs:List Value},EX w M e cs→EX w M' e cs
 | .leaf ..,_,h=>h
 | .neg ..,_,⟨g,ca,h1,h2,h3⟩=>⟨g,ca,h1,⟨h2.1,fun h=>h2.2 (k g h2.1.lt h)⟩,EX.weaken k h3⟩
 | .bin ..,_,⟨g,ca,cb,h1,h2,h3,h4⟩=>⟨g,ca,cb,h1,⟨h2.1,fun h=>h2.2 (k g h2.1.lt h)⟩,EX.weaken k h3,EX.weaken k h4⟩
theorem Touch.xC {g:Nat}{w w':World}(h:Touch g w w'){N:Nat→Prop}(hg:N g):yZ w N w' N:=
 ⟨h.os,h.tape,h.output,by rw[h.size]; exact zU _,fun b hb hN=>h.other b fun e=>hN (by rw[e]; exact hg),fun b hb=>.inl hb⟩
theorem Touch.ps {g p B:Nat}{w w':World}{s:Ps}{R:vC}(h:Touch g w w')(k:PS w p B s R)(hB:B≤g)(hM:¬xO p R g):PS w' p B s R:=
 k.VS fun b hb=>h.other b fun e=>by
  subst e
  rcases hb with hb | hb
  ·omega
  ·exact hM hb
theorem Touch.safe {g g':Nat}{w w':World}{M:Nat→Prop}{t:TypeId}{cs:Array Value}(h:Touch g w w')(k:Safe w M g' t cs)(hn:g'≠g):Safe w' M g' t cs:=⟨(h.other g' hn).trans k.1,k.2⟩
theorem yZ.ZE {g:Nat}{w w1 w2:World}{M M1:Nat→Prop}(k:yZ w M w1 M1)(h:Touch g w1 w2)(hg:w.heap.size≤g):yZ w M w2 M1:=
 ⟨h.os.trans k.os,h.tape.trans k.tape,h.output.trans k.output,by rw[h.size]; exact k.size,fun b hb hM=>(h.other b (by omega)).trans (k.VS b hb hM),k.zFK⟩
def under (w:World)(b:Nat):Prop:=b<w.heap.size
def zAF (w:World)(p B:Nat)(R:vC)(r:Res Ex)(e:Ending)(w':World):Prop:=
 match r with
 | .ok x s'=>∃cs R',e=.returned (.agg cs.toArray)∧PS w' p B s' R'∧yZ w (xO p R) w' (xO p R')∧EX w' (Or (xO p R') (under w)) x cs
 | .err er a=>zAa w p B R er a e w'
theorem zJy {P:Program}{a:Act}{w:World}{Q:Exit→Act→World→Prop}{x rest:Code}(l:Nat)(J:Act→World→Prop)(μ:Act→World→Nat)(hf:findLabel x l=none)
  (first:x.wp P (Exit.then J (Exit.noGoto Q)) a w) (pass:∀a w,J a w→rest.wp P (Exit.jump l (fun a' w'=>J a' w'∧μ a' w'<μ a w) Q) a w):(Code.scope (x.seq ((Code.label l).seq rest))).wp P Q a w:=by
 refine wp_scope_jumps (rest:=.seq .skip rest) l J μ (by simp[findLabel,hf]) ?_ (fun a w h=>wp_seq (wp_skip (pass a w h)));apply wp_seq;refine wp_mono first ?_;intro e a w h
 cases e with
 | normal=>
  refine wp_seq (wp_label (wp_mono (pass a w h) ?_));intro e a w h
  cases e with
  | goto l'=>exact⟨h.1,h.2.1⟩
  | normal=>exact h
  | exit id=>exact h
  | ret=>exact h
  | panic ch=>exact h
  | outgrown=>exact h
 | goto l'=>exact h.elim
 | exit id=>exact h
 | ret=>exact h
 | panic ch=>exact h
 | outgrown=>exact h
theorem zNK {ms:List (Bs × Nat)}{part:Pm Ex}{f:Nat}{e:Ex}{s:Ps}(h:zCn ms s=none):YW ms part (f+1) e s=.ok e s:=by rw[YW,h]
theorem zMC {ms:List (Bs × Nat)}{part:Pm Ex}{f k:Nat}{e:Ex}{s:Ps}(h:zCn ms s=some k):YW ms part (f+1) e s=(part s.adv).bind fun r s=>YW ms part f (.bin k e.pos e r) s:=by rw[YW,h]
theorem zOt {ms:List (Bs × Nat)}{s:Ps}(h:∀m ∈ ms,isP m.1 s=false):zCn ms s=none:=by
 unfold zCn;rw[List.find?_eq_none.2 (fun m hm=>by rw[h m hm]; simp)]
 rfl
theorem zJs:∀ {ms:List (Bs × Nat)} {s:Ps} (k:Nat) (hk:k<ms.length),(∀j (hj:j<ms.length),j<k→isP ms[j].1 s=false)→isP ms[k].1 s=true→zCn ms s=some ms[k].2
 | m::ms,s,0,_,_,hi=>by
  have AA:isP m.1 s=true:=hi;unfold zCn;simp[List.find?_cons,AA]
 | m::ms,s,k+1,hk,h,hi=>by
  have h0:isP m.1 s=false:=h 0 (by simp) (by omega);have ih:=zJs (ms:=ms) (s:=s) k (by simpa using hk) (fun j hj AB=>h (j+1) (by simpa using hj) (by omega)) hi;unfold zCn at ih ⊢;rw[List.find?_cons,h0];exact ih
theorem zJ6:∀(ms:List (Bs × Nat)),(∀m ∈ ms,m.1.length=1)→(ms.map Prod.fst).flatten.length=ms.length∧∀k (hk:k<ms.length),((ms.map Prod.fst).flatten.drop k).take 1=ms[k].1
 | [],_=>⟨rfl,fun k hk=>by cases hk⟩
 | m::ms,h=>by
  obtain⟨h1,h2⟩:=zJ6 ms (fun x hx=>h x (List.mem_cons_of_mem _ hx));obtain⟨c,hc⟩:=List.length_eq_one_iff.1 (h m (List.mem_cons_self ..));refine⟨by rw[List.map_cons,List.flatten_cons,yN,h1,h m (List.mem_cons_self ..),zJ]; omega,fun k hk=>?_⟩;rw[List.map_cons,List.flatten_cons,hc]
  match k,hk with
  | 0,_=>rw[List.getElem_cons_zero,hc]; rfl
  | k+1,hk=>exact h2 k (by simpa using hk)
theorem zLX (L:Bs)(i j:Nat):(xE L).extract i j=xE ((L.drop i).take (j-i)):=by
 apply ByteArray.ext;rw[ByteArray.data_extract]
 show(L.toArray).extract i j=((L.drop i).take (j-i)).toArray
 apply Array.ext';simp[List.extract_eq_take_drop,List.take_drop]
 try omega
def ChX (w:World)(g g0 b:Nat):Prop:=under w b∨b=g∨b=g0
def zSd (n:Nat)(ms:List (Bs × Nat))(part:Pm Ex)(K:Nat)(first cap:Array Value)(A:Option Addr)(kc:Nat)(w:World)(p B:Nat)(s:Ps)(R:vC)(g0:Nat)(a':Act)(w':World):Prop:=
 ∃(g:Nat) (s':Ps) (R':vC) (x:Ex) (cs:List Value) (f:Nat) (u10 u11 u12 u13 u14 u15 u16 u17 u18 u19 u20 u21 u22 u23 u24 u25 u26 u27 u28 u29 u30 u31 u32 u33 u34 u35 u36 u37 u38 u39 u40 u41:Value),
  a' = { tmps:=#[.pointer (some ⟨p,0,none⟩),.func (.func K) first cap,.string (xE (ms.map Prod.fst).flatten),.slice A ms.length kc,undef,undef,undef,undef,.pointer (some ⟨g0,0,none⟩),.pointer (some ⟨g,0,none⟩),u10,u11,u12,u13,u14,u15,u16,u17,u18,u19,u20,u21,u22,u23,u24,u25,u26,u27,u28,u29,u30,u31,u32,u33,u34,u35,u36,u37,u38,u39,u40,u41],defers:=[] } ∧
  Hid (PS w' p B s' R')∧Hid (yZ w (xO p R) w' (xO p R'))∧Hid (Good s')∧Hid (s'.ts.length≤n)∧Hid (s'.ts.length<f)∧Hid (XD ms part s=YW ms part f x s') ∧
  Hid (Safe w' (xO p R') g 232 cs.toArray)∧Hid (w.heap.size≤g∧w.heap.size≤g0∧g≠g0∧B≤w.heap.size)∧Hid (EX w' (Or (xO p R') (ChX w g g0)) x cs)∧Hid (Safe w' (xO p R') g0 232 #[.int .u8 0,.int .i64 0,.string ⟨#[]⟩,.int .i64 0,.slice none 0 0,.slice none 0 0])
theorem zKl (n:Nat)(ms:List (Bs × Nat))(part:Pm Ex)(K:Nat)(first cap:Array Value)(A:Option Addr)(kc:Nat)(w:World)(p B:Nat)(s:Ps)(R:vC)(h:PS w p B s R)(hG:Good s)(hn:s.ts.length≤n)
  (h1:∀m ∈ ms,m.1.length=1) (h2:ms.length≤100) (hk:zF7 w (xO p R) A (ms.map fun m=>.int .u8 (m.2:Int)))
  (hfine:∀t,Good t→t.ts.length≤n→zDI t (part t)) (he:∀args w,(callFunc K args).run Tryz.prog w=.ok (.enter K args) w)
  (hcall:∀(wr:World) (s':Ps) (R':vC),yZ w (xO p R) wr (xO p R')→PS wr p B s' R'→Good s'→s'.ts.length≤n→Calls Tryz.prog K (first++cap) wr (zAF wr p B R' (part s'))) :
  Calls Tryz.prog 211 #[.pointer (some ⟨p,0,none⟩),.func (.func K) first cap,.string (xE (ms.map Prod.fst).flatten),.slice A ms.length kc] w (zAF w p B R (XD ms part s)):=by
 have HP:=yE h;have BL:=yE hfine;have HC:=yE hcall;have HK:=yE hk;have HE:=yE he;have HG:=yE hG;have HN:=yE hn;have H1:=yE h1;have AX:=hfine s hG hn;have HZ:=yE (h.fresh 232 #[.int .u8 0,.int .i64 0,.string ⟨#[]⟩,.int .i64 0,.slice none 0 0,.slice none 0 0]);have AI:Hid (Ext w (w.alloc (.cells #[.int .u8 0,.int .i64 0,.string ⟨#[]⟩,.int .i64 0,.slice none 0 0,.slice none 0 0] 232))):=yE (Ext.alloc _ _);obtain⟨g0,Aq⟩:∃g0,Hid (w.heap.size=g0):=⟨_,yE rfl⟩;clear h hfine hcall hk hG hn h1
 go_enter Tryz.func211,Tryz.ntmps211
 go_wp2_with fail
 generalize w.alloc (.cells #[.int .u8 0,.int .i64 0,.string ⟨#[]⟩,.int .i64 0,.slice none 0 0,.slice none 0 0] 232)=w0 at *;rw[Aq.out];rw[Aq.out] at HZ;refine zJy 0 (zSd n ms part K first cap A kc w p B s R g0) (fun _ w=>VH p w) rfl ?_ ?_
 ·go_wp2_with fail
  refine(HC.out w0 s R (yZ.ext AI.out) (HP.out.ext AI.out) HG.out HN.out).mono ?_;intro e w1 AA
  cases hr:part s with
  | err er a=>
   rw[hr] at AA;obtain⟨rfl,ho⟩:=AA
   have HF:Hid (zAF w p B R (XD ms part s) (ZH er) w1):=yE (by
    unfold XD;rw[hr]
    exact zAa.trans (yZ.ext AI.out) ⟨rfl,ho⟩)
   exact xB (P:=Tryz.prog) (fn:=Tryz.f211) rfl HF.out
  | ok x s1=>
   rw[hr] at AA AX;obtain⟨cs,R1,rfl,Ap,Aa,As⟩:=AA;obtain⟨A9,Ba,_,_⟩:=AX;have Ad:Hid (XD ms part s=YW ms part (s1.ts.length+1) x s1):=yE (by unfold XD; rw[hr]; rfl);obtain⟨A1,c1,f1,AH,_⟩:=As.open;have Bc:=yE As;have Af:=yE Ap;have AW:=yE Aa;have AK:=yE (HZ.out.xC Aa);have AZ:=yE A9;have BX:Hid (s1.ts.length≤n):=yE (by have:=HN.out; omega);have BP:=yE AH;have BO:=yE (Ap.fresh 232 cs.toArray)
   have AE:Hid (w.heap.size≤w1.heap.size∧w.heap.size≤g0∧w1.heap.size≠g0∧B≤w.heap.size):=yE (by
    have h1:=AI.out.size;have h2:=Aa.size;have h3:=Aq.out;have h4:=AK.out.1.lt;have h5:=HP.out.pB;have h6:=HP.out.blk.lt
    omega)
   have BW:Hid (∀b,b<w1.heap.size→Or (xO p R1) (ChX w w1.heap.size g0) b→Or (xO p R1) (under w0) b):=yE fun b hb h=>by
    rcases h with h | h | h | h
    ·exact .inl h
    ·exact .inr (yS h AI.out.size)
    ·omega
    ·subst h; exact .inr (HZ.out.1.lt)
   clear hr As Ap Aa A9 Ba;subst AH;unfold ZM;generalize x.parts.length=xm at *;generalize HY:x.node=y at *;obtain⟨yk,yp,yt,yn,AJ⟩:=y
   simp only
   go_wp2_with fail
   have AG:Hid (Ext w1 (w1.alloc (.cells (ZM ⟨yk,yp,yt,yn,AJ⟩ A1 xm c1).toArray 232))):=yE (Ext.alloc _ _);exact⟨w1.heap.size,s1,R1,x,ZM ⟨yk,yp,yt,yn,AJ⟩ A1 xm c1,s1.ts.length+1,_,_,_,_,_,_,_,_,_,_,_,_,_,_,_,_,_,_,_,_,_,_,_,_,_,_,_,_,_,_,_,_,rfl,yE (Af.out.ext AG.out),yE (((yZ.ext AI.out).trans AW.out).trans (yZ.ext AG.out)),AZ,BX,yE (Nat.lt_succ_self _),Ad,BO,AE,yE ((Bc.out.weaken BW.out).xC ((yZ.ext AG.out).or _)),yE (AK.out.xC (yZ.ext AG.out))⟩
 ·rintro a1 w1 ⟨g,s',R',x,cs,f,CG,B9,B1,Bv,CF,By,Bt,Bk,CE,Bp,Bg,CB,Bl,Bf,B3,CA,Br,Bw,B6,B5,B8,Bm,CC,Bx,Bq,B7,B2,Bz,B4,CD,Bo,Bj,rfl,Af,AW,AZ,BN,A2,Ad,Aj,AE,BF,AK⟩;obtain⟨f',rfl⟩:∃f',f=f'+1:=⟨f-1,by have:=A2.out; omega⟩
  have Bh:(xE (ms.map Prod.fst).flatten).size=ms.length:=by rw[zNd]; exact(zJ6 ms H1.out).1
  have BU:Hid (VH p w1=s'.ts.length):=yE Af.out.VH;rw[BU.out]
  go_wp2_with fail
  go_loopw [17] (fun i' wr=>∃(k:Nat),k≤ms.length∧i'=.int .i64 k∧Hid (∀j (hj:j<ms.length),j<k→isP ms[j].1 s'=false)∧Hid (Ext w1 wr)) (fun i' _=>ms.length-(intOf i').toNat)
  case atStart=>exact⟨0,zT _,rfl,yE (fun j hj h=>absurd h (by omega)),yE (Ext.refl _)⟩
  case round=>
   obtain⟨k,hk,rfl,Am,AF⟩:=hrel;obtain⟨wa,rfl⟩:∃wa:World,wa=wr:=⟨_,rfl⟩;have Ag:=yE (Af.out.ext AF.out)
   by_cases Ac:k<ms.length
   ·have d0:decide ((k:Int)<(ms.length:Int))=true:=yQ (by omega)
    have q1:(k:Int)<(ms.length:Int):=by omega
    obtain⟨b,Av,rfl,hb,Ay⟩:=((HK.out.xC AW.out).xC (yZ.ext AF.out)).cells.at_ (by simp; omega)
    have e0:wa.cell? ⟨b,Av+k,none⟩=some (.int .u8 (ms[k].2:Int)):=by rw[Ay k (by simpa using Ac)]; simp[Ac]
    have B0:=yE e0;have Ax:Hid ((xE (ms.map Prod.fst).flatten).extract k (k+1)=xE ms[k].1):=yE (by rw[zLX,show k+1-k=1 by omega,(zJ6 ms H1.out).2 k Ac]);clear Ay
    cases hi:isP ms[k].1 s' with
    | false=>
     have HI:=yE hi;clear hi
     go_wp2_with fail
     rw[Ax.out];refine(zA4 wa p B s' R' ms[k].1 HI Ag.out).mono ?_;rintro e w2 ⟨rfl,A4⟩;have BG:=yE (AF.out.trans A4);clear A4
     go_wp2_with fail
     go_roundw
     case rel=>exact⟨k+1,by omega,by go_num,yE (fun j hj Bu=>by
      rcases Nat.lt_or_ge j k with h | h
      ·exact Am.out j hj h
      ·obtain rfl:j=k:=by omega
       exact HI.out),BG⟩
     case measure=>simp[intOf]; omega
    | true=>
     have HI:=yE hi;have BQ:=yE (zJs k Ac Am.out hi);have BT:=yE (vG hi).1;clear hi;have BD:=yE (AZ.out.adv BT.out)
     have BA:Hid (s'.adv.ts.length<s'.ts.length):=yE (by
      have h1:=ZF (s:=s');have h2:=AZ.out.pos
      omega)
     have An:Hid (s'.adv.ts.length≤n):=yE (by have:=BA.out; have:=BN.out; omega);have HQ:Hid (XD ms part s=(part s'.adv).bind fun r s=>YW ms part f' (.bin ms[k].2 x.pos x r) s):=yE (by rw[Ad.out,zMC BQ.out])
     go_wp2_with fail
     rw[Ax.out];refine(zAf wa p B s' R' ms[k].1 HI Ag.out).mono ?_;rintro e w2 ⟨rfl,R2,A5,Ak⟩;have Bb:=yE A5;have Ae:=yE (((AW.out.trans (yZ.ext AF.out))).trans Ak);have AP:=yE ((yZ.ext (M:=xO p R') AF.out).trans Ak);clear A5 Ak
     go_wp2_with fail
     refine(HC.out w2 s'.adv R2 Ae.out Bb.out BD.out An.out).mono ?_;intro e w3 AA;have AX:=BL.out s'.adv BD.out An.out
     cases hr:part s'.adv with
     | err er a=>
      rw[hr] at AA;obtain⟨rfl,ho⟩:=AA
      have HF:Hid (zAF w p B R (XD ms part s) (ZH er) w3):=yE (by
       rw[HQ.out,hr]
       exact zAa.trans Ae.out ⟨rfl,ho⟩)
      exact xB (P:=Tryz.prog) (fn:=Tryz.f211) rfl HF.out
     | ok r s3=>
      rw[hr] at AA AX;obtain⟨BJ,R3,rfl,A7,AN,Ao⟩:=AA;obtain⟨Az,Bd,_,_⟩:=AX;have AB:=yE ((Aj.out.xC AP.out).xC AN);have BC:=yE ((AK.out.xC AP.out).xC AN);have AO:=yE ((BF.out.xC (AP.out.or _)).xC (AN.or _));obtain⟨A1,c1,f1,AH,_⟩:=AO.out.open;obtain⟨A3,c3,f3,AS,_⟩:=Ao.open
      have Be:Hid (EX w3 (Or (xO p R3) (ChX w g g0)) r BJ):=yE (Ao.weaken fun b hb h=>by
       rcases h with h | h
       ·exact .inl h
       ·refine .inr ?_;have h1:=Ae.out.size;have h2:=(Aj.out.xC AP.out).1.lt;have h3:=(AK.out.xC AP.out).1.lt;unfold under
        rcases h with h | h | h
        ·unfold under at h; omega
        ·omega
        ·omega)
      have A0:=yE A7;have Aw:=yE (Ae.out.trans AN);have BR:=yE Az;have Au:Hid (s3.ts.length≤n∧s3.ts.length<s'.ts.length):=yE (by have:=An.out; have:=BA.out; omega);have BH:Hid (XD ms part s=YW ms part f' (.bin ms[k].2 x.pos x r) s3):=yE (by rw[HQ.out,hr]; rfl);have BP:=yE AH;have BZ:=yE AS;have A8:=x.zEP;clear hr A7 AN Ao Az Bd;subst AH AS;unfold ZM;have AY:=AB.out.1.cell 0;have AL:=AB.out.1.cell 1;have AV:=AB.out.1.cell 2;have AT:=AB.out.1.cell 3;have AR:=AB.out.1.cell 4;have AQ:=AB.out.1.cell 5;simp only[ZM,yJ,yK,List.getElem?_cons_succ] at AY AL AV AT AR AQ;have Bn:=AB.out.1.lt;rw[A8] at AL;clear A8;generalize x.parts.length=xm at *;generalize r.parts.length=rm at *;generalize HY:x.node=y at *;generalize HYR:r.node=yr at *;obtain⟨yk,yp,yt,yn,AJ⟩:=y;obtain⟨rk,rp,rt,rn,BK⟩:=yr
      simp only at AY AL AV AT AR AQ ⊢
      have AD:Hid (Ext w3 ((w3.alloc (.cells #[.int .u8 (rk:Int),.int .i64 (rp:Int),.string (xE rt),.int .i64 rn,.slice none 0 0,.slice A3 rm c3] 232)).alloc (.cells #[.int .u8 (yk:Int),.int .i64 (x.pos:Int),.string (xE yt),.int .i64 yn,.slice none 0 0,.slice A1 xm c1,.int .u8 (rk:Int),.int .i64 (rp:Int),.string (xE rt),.int .i64 rn,.slice none 0 0,.slice A3 rm c3] 232))):=yE ((Ext.alloc _ _).trans (Ext.alloc _ _));have At:=yE ((A0.out.ext (Ext.alloc w3 (.cells #[.int .u8 (rk:Int),.int .i64 (rp:Int),.string (xE rt),.int .i64 rn,.slice none 0 0,.slice A3 rm c3] 232))).fresh 232 #[.int .u8 (yk:Int),.int .i64 (x.pos:Int),.string (xE yt),.int .i64 yn,.slice none 0 0,.slice A1 xm c1,.int .u8 (rk:Int),.int .i64 (rp:Int),.string (xE rt),.int .i64 rn,.slice none 0 0,.slice A3 rm c3]);have BS:Hid ((w3.alloc (.cells #[.int .u8 (rk:Int),.int .i64 (rp:Int),.string (xE rt),.int .i64 rn,.slice none 0 0,.slice A3 rm c3] 232)).heap.size=w3.heap.size+1):=yE (yR _ _);rw[BS.out] at At
      go_wp2_with (refine vD rfl 232 (.tmp 9) (.tmp 39) rfl g #[.int .u8 (ms[k].2:Int),.int .i64 (x.pos:Int),.string ⟨#[]⟩,.int .i64 0,.slice none 0 0,.slice (some ⟨w3.heap.size+1,0,none⟩) 2 2] (by rfl) (by rfl) 232 _ (AB.out.1.ext AD.out) (by kernel_rfl) rfl rfl ?_; intro w6 AC AU)
      have Al:yp=x.pos:=by have:=x.zEP; rw[HY] at this; exact this
      have Bi:=yE Al;have A6:=yE (AC.ps (A0.out.ext AD.out) (Nat.le_trans AE.out.2.2.2 AE.out.1) AB.out.2);have BI:=yE ((Aw.out.trans (yZ.ext AD.out)).ZE AC AE.out.1);have Ab:Hid (yZ w3 (Or (xO p R3) (ChX w g g0)) w6 (Or (xO p R3) (ChX w g g0))):=yE (((yZ.ext AD.out).or _).trans (AC.xC (.inr (.inr (.inl rfl)))))
      have BV:Hid (Safe w6 (Or (xO p R3) (ChX w g g0)) (w3.heap.size+1) 232 (ZM ⟨yk,yp,yt,yn,AJ⟩ A1 xm c1++ZM ⟨rk,rp,rt,rn,BK⟩ A3 rm c3).toArray):=yE (by
       have h1:=AB.out.1.lt;have h2:=BC.out.1.lt;have h3:=Aw.out.size
       have hs:Safe _ (Or (xO p R3) (ChX w g g0)) (w3.heap.size+1) 232 _:=⟨At.out.1,fun h=>by
        rcases h with h | h | h | h
        ·exact At.out.2 h
        ·unfold under at h; omega
        ·omega
        ·omega⟩
       rw[Al]
       exact AC.safe hs (by omega))
      have BM:=yE (AC.safe (BC.out.xC (yZ.ext AD.out)) (Ne.symm AE.out.2.2.1));have Ah:=yE AU;have BY:Hid (EX w6 (Or (xO p R3) (ChX w g g0)) (.bin ms[k].2 x.pos x r) (ZM ⟨ms[k].2,x.pos,[],0,[]⟩ (some ⟨w3.heap.size+1,0,none⟩) 2 2)):=yE ⟨_,_,_,rfl,BV.out,AO.out.xC Ab.out,Be.out.xC Ab.out⟩;have Ai:Hid (s3.ts.length<f'):=yE (by have:=A2.out; have:=Au.out; omega);clear AC AU Al;apply wp_goto;refine(show(0=0∧zSd n ms part K first cap (some ⟨b,Av,none⟩) kc w p B s R g0 _ w6∧VH p w6<s'.ts.length) from⟨rfl,⟨g,s3,R3,.bin ms[k].2 x.pos x r,ZM ⟨ms[k].2,x.pos,[],0,[]⟩ (some ⟨w3.heap.size+1,0,none⟩) 2 2,f',_,_,_,_,_,_,_,_,_,_,_,_,_,_,_,_,_,_,_,_,_,_,_,_,_,_,_,_,_,_,_,_,rfl,A6,BI,BR,yE Au.out.1,Ai,BH,yE ⟨Ah.out,AB.out.2⟩,AE,BY,BM⟩,by rw[A6.out.VH]; exact Au.out.2⟩)
   ·obtain rfl:k=ms.length:=by omega
    have d0:decide ((ms.length:Int)<(ms.length:Int))=false:=by simp
    have d1:decide (ms.length<ms.length)=false:=by simp
    have Ar:Hid (XD ms part s=.ok x s'):=yE (by rw[Ad.out,zNK (zOt fun m hm=>by
     obtain⟨j,hj,rfl⟩:=List.mem_iff_getElem.1 hm
     exact Am.out j hj hj)])
    have AM:=yE (Aj.out.xC (yZ.ext AF.out));have BE:=yE (AK.out.xC (yZ.ext AF.out));have BB:=yE (BF.out.xC ((yZ.ext AF.out).or _));obtain⟨A1,c1,f1,AH,_⟩:=BB.out.open;have AY:=AM.out.1.cell 0;have AL:=AM.out.1.cell 1;have AV:=AM.out.1.cell 2;have AT:=AM.out.1.cell 3;have AR:=AM.out.1.cell 4;have AQ:=AM.out.1.cell 5;subst AH;simp only[ZM,yJ,yK,List.getElem?_cons_succ] at AY AL AV AT AR AQ;generalize x.parts.length=xm at *;generalize HY:x.node=y at *;obtain⟨yk,yp,yt,yn,AJ⟩:=y
    simp only at AY AL AV AT AR AQ
    go_wp2_with (refine vD rfl 232 (.tmp 8) (.tmp 41) rfl g0 #[.int .u8 (yk:Int),.int .i64 (yp:Int),.string (xE yt),.int .i64 yn,.slice none 0 0,.slice A1 xm c1] (by rfl) (by rfl) 232 _ BE.out.1 (by kernel_rfl) rfl rfl ?_; intro w6 AC AU)
    have Ab:Hid (yZ wa (Or (xO p R') (ChX w g g0)) w6 (Or (xO p R') (ChX w g g0))):=yE (AC.xC (.inr (.inr (.inr rfl))))
    have Ai:Hid (zAF w p B R (XD ms part s) (.returned (.agg (ZM ⟨yk,yp,yt,yn,AJ⟩ A1 xm c1).toArray)) w6):=yE (by
     rw[Ar.out]
     exact⟨_,R',rfl,AC.ps Ag.out (Nat.le_trans AE.out.2.2.2 AE.out.2.1) BE.out.2,(AW.out.trans (yZ.ext AF.out)).ZE AC AE.out.2.1,(BB.out.xC Ab.out).weaken (fun b hb h=>by
      rcases h with h | h
      ·exact .inl h
      ·exact .inr (.inl h))⟩)
    have Ah:=yE AU;clear AC AU
    go_wp2_with fail
    exact JC g0 232 _ _ Tryz.results211 rfl rfl Ah.out Tryz.underlying232 rfl (by kernel_rfl) Ai.out
def zCL (F f:Nat)(m:Pm Ex):Prop:=∀(w:World) (p B:Nat) (s:Ps) (R:vC),PS w p B s R→Good s→s.ts.length≤f→Calls Tryz.prog F #[.pointer (some ⟨p,0,none⟩)] w (zAF w p B R (m s))
def VK:Array Value:=#[.int .u8 0,.int .i64 0,.string ⟨#[]⟩,.int .i64 0,.slice none 0 0,.slice none 0 0]
theorem zS2 (f:Nat)(part:Pm Ex)(hpart:zCL 213 f part)(hfine:∀t,Good t→t.ts.length≤f→zDI t (part t)):zCL 212 f (XD YI part):=by
 intro w p B s R h hG hl;have HP:=yE h;have HG:=yE hG;have AL:=yE hpart;have AO:=yE hfine;have HL:=yE hl;have hm:=hmf;have AQ:Hid (Ext w (w.alloc (.cells VK 232))):=yE (Ext.alloc _ _);have AB:Hid (Ext w ((w.alloc (.cells VK 232)).alloc (.cells #[.int .u8 25] 5))):=yE ((Ext.alloc _ _).trans (Ext.alloc _ _));have HZ:Hid (Safe ((w.alloc (.cells VK 232)).alloc (.cells #[.int .u8 25] 5)) (xO p R) w.heap.size 232 VK):=yE ((h.fresh 232 VK).xC (yZ.ext (M:=xO p R) (Ext.alloc _ _)));have hk:=(h.ext AQ.out).fresh 5 #[.int .u8 25];rw[yR] at hk;have HK:=yE hk;have AJ:Hid (B≤w.heap.size):=yE (Nat.le_trans h.pB (zS h.blk.lt));clear h hG hpart hfine hl hk
 go_enter Tryz.func212,Tryz.ntmps212
 go_wp2_with fail
 refine(zKl f YI part 213 #[.pointer (some ⟨p,0,none⟩)] #[] (some ⟨w.heap.size+1,0,none⟩) 1 _ p B s R (HP.out.ext AB.out) HG.out HL.out (by intro m hm; simp only[YI,zR,List.not_mem_nil,or_false] at hm; rw[hm]; rfl) (by decide) HK.out.row AO.out (enters_of Tryz.func213 (by kernel_rfl) rfl) (fun wr s' R' hm hp hg hn=>AL.out wr p B s' R' hp hg hn)).mono ?_;intro e w1 AA
 cases hr:XD YI part s with
 | err er a=>
  rw[hr] at AA;obtain⟨rfl,ho⟩:=AA;have HF:Hid (zAF w p B R (Res.err er a) (ZH er) w1):=yE (zAa.trans (yZ.ext AB.out) ⟨rfl,ho⟩);exact xB (P:=Tryz.prog) (fn:=Tryz.f212) rfl HF.out
 | ok x s1=>
  rw[hr] at AA;obtain⟨cs,R1,rfl,AH,AE,AD⟩:=AA;obtain⟨A1,c1,f1,AS,_⟩:=AD.open;have AR:=yE AH;have AI:=yE ((yZ.ext (M:=xO p R) AB.out).trans AE);have AF:=yE (HZ.out.xC AE);have AK:=yE AD;have HR:=yE hr;clear hr AH AE AD;subst AS;unfold ZM;generalize x.parts.length=xm at *;generalize HY:x.node=y at *;obtain⟨yk,yp,yt,yn,AM⟩:=y
  simp only
  go_wp2_with (refine vD rfl 232 (.tmp 2) (.tmp 7) rfl w.heap.size #[.int .u8 (yk:Int),.int .i64 (yp:Int),.string (xE yt),.int .i64 yn,.slice none 0 0,.slice A1 xm c1] (by rfl) (by rfl) 232 _ AF.out.1 (by kernel_rfl) rfl rfl ?_; intro w6 AC AG)
  have AP:Hid (zAF w p B R (XD YI part s) (.returned (.agg (ZM ⟨yk,yp,yt,yn,AM⟩ A1 xm c1).toArray)) w6):=yE (by rw[HR.out]; exact⟨_,R1,rfl,AC.ps AR.out AJ.out AF.out.2,AI.out.ZE AC (zU _),((AK.out.weaken (M':=Or (xO p R1) (fun b=>under w b∨b=w.heap.size)) fun b hb k=>by
   rcases k with k | k | k
   ·exact .inl k
   ·exact .inr (yS k AB.out.size)
   ·subst k; exact .inr HZ.out.1.lt).xC (AC.xC (.inr (.inr rfl)))).weaken fun b hb k=>by
   rcases k with k | k
   ·exact .inl k
   ·exact .inr (.inl k)⟩)
  have AN:=yE AG;clear AC AG
  go_wp2_with fail
  exact JC w.heap.size 232 _ _ Tryz.results212 rfl rfl AN.out Tryz.underlying232 rfl (by kernel_rfl) AP.out
theorem zT3 (f:Nat)(part:Pm Ex)(hpart:zCL 212 f part)(hfine:∀t,Good t→t.ts.length≤f→zDI t (part t)):zCL 207 f (XD ZL part):=by
 intro w p B s R h hG hl;have HP:=yE h;have HG:=yE hG;have AL:=yE hpart;have AO:=yE hfine;have HL:=yE hl;have hm:=hmf;have AQ:Hid (Ext w (w.alloc (.cells VK 232))):=yE (Ext.alloc _ _);have AB:Hid (Ext w ((w.alloc (.cells VK 232)).alloc (.cells #[.int .u8 23,.int .u8 24] 5))):=yE ((Ext.alloc _ _).trans (Ext.alloc _ _));have HZ:Hid (Safe ((w.alloc (.cells VK 232)).alloc (.cells #[.int .u8 23,.int .u8 24] 5)) (xO p R) w.heap.size 232 VK):=yE ((h.fresh 232 VK).xC (yZ.ext (M:=xO p R) (Ext.alloc _ _)));have hk:=(h.ext AQ.out).fresh 5 #[.int .u8 23,.int .u8 24];rw[yR] at hk;have HK:=yE hk;have AJ:Hid (B≤w.heap.size):=yE (Nat.le_trans h.pB (zS h.blk.lt));clear h hG hpart hfine hl hk
 go_enter Tryz.func207,Tryz.ntmps207
 go_wp2_with fail
 refine(zKl f ZL part 212 #[.pointer (some ⟨p,0,none⟩)] #[] (some ⟨w.heap.size+1,0,none⟩) 2 _ p B s R (HP.out.ext AB.out) HG.out HL.out (by intro m hm; simp only[ZL,zR,List.not_mem_nil,or_false] at hm; rcases hm with rfl | rfl <;> rfl) (by decide) HK.out.row AO.out (enters_of Tryz.func212 (by kernel_rfl) rfl) (fun wr s' R' hm hp hg hn=>AL.out wr p B s' R' hp hg hn)).mono ?_
 intro e w1 AA
 cases hr:XD ZL part s with
 | err er a=>
  rw[hr] at AA;obtain⟨rfl,ho⟩:=AA;have HF:Hid (zAF w p B R (Res.err er a) (ZH er) w1):=yE (zAa.trans (yZ.ext AB.out) ⟨rfl,ho⟩);exact xB (P:=Tryz.prog) (fn:=Tryz.f207) rfl HF.out
 | ok x s1=>
  rw[hr] at AA;obtain⟨cs,R1,rfl,AH,AE,AD⟩:=AA;obtain⟨A1,c1,f1,AS,_⟩:=AD.open;have AR:=yE AH;have AI:=yE ((yZ.ext (M:=xO p R) AB.out).trans AE);have AF:=yE (HZ.out.xC AE);have AK:=yE AD;have HR:=yE hr;clear hr AH AE AD;subst AS;unfold ZM;generalize x.parts.length=xm at *;generalize HY:x.node=y at *;obtain⟨yk,yp,yt,yn,AM⟩:=y
  simp only
  go_wp2_with (refine vD rfl 232 (.tmp 2) (.tmp 7) rfl w.heap.size #[.int .u8 (yk:Int),.int .i64 (yp:Int),.string (xE yt),.int .i64 yn,.slice none 0 0,.slice A1 xm c1] (by rfl) (by rfl) 232 _ AF.out.1 (by kernel_rfl) rfl rfl ?_; intro w6 AC AG)
  have AP:Hid (zAF w p B R (XD ZL part s) (.returned (.agg (ZM ⟨yk,yp,yt,yn,AM⟩ A1 xm c1).toArray)) w6):=yE (by rw[HR.out]; exact⟨_,R1,rfl,AC.ps AR.out AJ.out AF.out.2,AI.out.ZE AC (zU _),((AK.out.weaken (M':=Or (xO p R1) (fun b=>under w b∨b=w.heap.size)) fun b hb k=>by
   rcases k with k | k | k
   ·exact .inl k
   ·exact .inr (yS k AB.out.size)
   ·subst k; exact .inr HZ.out.1.lt).xC (AC.xC (.inr (.inr rfl)))).weaken fun b hb k=>by
   rcases k with k | k
   ·exact .inl k
   ·exact .inr (.inl k)⟩)
  have AN:=yE AG;clear AC AG
  go_wp2_with fail
  exact JC w.heap.size 232 _ _ Tryz.results207 rfl rfl AN.out Tryz.underlying232 rfl (by kernel_rfl) AP.out
theorem zNQ (f:Nat)(part:Pm Ex)(hpart:zCL 213 f part)(hfine:∀t,Good t→t.ts.length≤f→zDI t (part t)):zCL 207 f (zEn part):=
 zT3 f (zSi part) (zS2 f part hpart hfine) (zEH f hfine)
def EAt (w:World)(g p pos:Nat)(neg:Bool)(a:Ex)(R':vC)(w':World):Prop:=∃cs,Safe w' (xO p R') g 232 cs.toArray∧EX w' (Or (xO p R') (fun b=>under w b∨b=g)) (if neg then .neg pos a else a) cs
theorem EAt.xC {w:World}{g p pos:Nat}{neg:Bool}{a:Ex}{R1 R2:vC}{w1 w2:World}(h:EAt w g p pos neg a R1 w1)(k:yZ w1 (xO p R1) w2 (xO p R2)):EAt w g p pos neg a R2 w2:=let ⟨cs,h1,h2⟩:=h; ⟨cs,h1.xC k,h2.xC (k.or _)⟩
theorem zQU (w0 w:World)(p B gb g f pos:Nat)(s:Ps)(R:vC)(part:Pm Ex)(hpart:zCL 213 f part)(h:PS w p B s R)(hG:Good s)(hl:s.ts.length≤f)(hb:Safe w (xO p R) gb 73 #[.pointer (some ⟨p,0,none⟩)])(hg:Safe w (xO p R) g 232 (ZM ⟨26,pos,[],0,[]⟩ none 0 0).toArray)(hB:B≤g)(hw0:w0.heap.size≤w.heap.size) :
  Calls Tryz.prog 214 #[.pointer (some ⟨gb,0,none⟩),.pointer (some ⟨g,0,none⟩)] w (zAA (fun b=>b=g) w p B R (part s) (EAt w0 g p pos true)):=by
 have HP:=yE h;have AS:=yE (hpart w p B s R h hG hl);have AN:=yE hg;have HB:=yE hB;have AL:=yE hw0;have cb:=hb.1.cell 0;simp only[yJ,yK] at cb;clear h hpart hG hl hb hg hB hw0
 go_enter Tryz.func214,Tryz.ntmps214
 go_wp2_with fail
 refine AS.out.mono ?_;intro e w1 AA
 cases hr:part s with
 | err er a=>
  rw[hr] at AA;obtain⟨rfl,s1,AT,R1,AD,AE⟩:=AA;have HF:Hid (zAA (fun b=>b=g) w p B R (part s) (EAt w0 g p pos true) (ZH er) w1):=yE (by rw[hr]; exact⟨rfl,s1,R1,AT,AD,AE.or _⟩);exact xB (P:=Tryz.prog) (fn:=Tryz.f214) rfl HF.out
 | ok x s1=>
  rw[hr] at AA;obtain⟨cs,R1,rfl,AD,AE,AJ⟩:=AA;obtain⟨A1,c1,f1,AO,_⟩:=AJ.open;have AB:=yE (AN.out.xC AE);have AK:=yE AE;have AW:=yE AD;have AR:=yE AJ;have AQ:=yE (AD.fresh 232 cs.toArray);have AX:=yE AO;have HR:=yE hr;clear hr AD AE AJ;subst AO;have c5:=AB.out.1.cell 5;have z5:=AB.out.1.frozen 5;have AP:=AB.out.1.lt;simp only[ZM,yJ,yK,List.getElem?_cons_succ] at c5;unfold ZM;generalize x.parts.length=xm at *;generalize HY:x.node=y at *;obtain⟨yk,yp,yt,yn,AF⟩:=y
  simp only
  go_wp2_with fail
  go_end0;rw[HR.out];obtain⟨W,hW⟩:∃W,w1.setCell ⟨g,5,none⟩ (.slice (some ⟨w1.heap.size,0,none⟩) 1 1)=W:=⟨_,rfl⟩
  have AV:W.heap.size=w1.heap.size:=by rw[←hW]; simp[World.setCell]
  have AH:∀b,b≠g→W.heap[b]?=w1.heap[b]?:=fun b hb=>by rw[←hW]; exact zQ w1 ⟨g,5,none⟩ _ b hb
  have AI:∀ {N:Nat→Prop},N g→yZ w1 N W N:=fun h=>by rw[←hW]; exact yZ.set h
  have AG:Ext W (W.alloc (.cells (ZM ⟨yk,yp,yt,yn,AF⟩ A1 xm c1).toArray 232)):=Ext.alloc _ _;have AU:g≠w1.heap.size:=Nat.ne_of_lt AP;have AM:=AB.out.1.put 5 (.slice (some ⟨w1.heap.size,0,none⟩) 1 1);rw[hW] at AM ⊢;have AC:=Blk.new W 232 (ZM ⟨yk,yp,yt,yn,AF⟩ A1 xm c1).toArray;rw[AV] at AC;have ht:∀ {N:Nat→Prop},N g→yZ w1 N (W.alloc (.cells (ZM ⟨yk,yp,yt,yn,AF⟩ A1 xm c1).toArray 232)) N:=fun h=>(AI h).trans (yZ.ext AG);refine⟨rfl,R1,⟨?_,?_⟩,?_⟩
  ·refine PS.ext (AW.out.VS fun b hb=>AH b fun e=>?_) AG;subst e
   rcases hb with hb | hb
   ·have:=HB.out; omega
   ·exact AB.out.2 hb
  ·exact(AK.out.or _).trans (ht (.inr rfl))
  ·refine⟨ZM ⟨26,pos,[],0,[]⟩ (some ⟨w1.heap.size,0,none⟩) 1 1,⟨?_,AB.out.2⟩,⟨w1.heap.size,ZM ⟨yk,yp,yt,yn,AF⟩ A1 xm c1,rfl,⟨AC,fun k=>?_⟩,?_⟩⟩
   ·have:=AM.ext AG
    simpa [ZM] using this
   ·rcases k with k | k | k
    ·exact AQ.out.2 k
    ·have h1:=AL.out;have h2:=AK.out.size;unfold under at k;omega
    ·exact AU k.symm
   ·refine((AR.out.weaken (M':=Or (xO p R1) (fun b=>under w0 b∨b=g)) fun b hb k=>?_).xC (ht (.inr (.inr rfl))))
    rcases k with k | k | k
    ·exact .inl k
    ·exact .inr (yS k AL.out)
    ·subst k; exact .inr AN.out.1.lt
theorem zQb (w0 w:World)(p B gb g f pos:Nat)(s:Ps)(R:vC)(part:Pm Ex)(hpart:zCL 207 f part)(h:PS w p B s R)(hG:Good s)(hl:s.ts.length≤f)(hb:Safe w (xO p R) gb 73 #[.pointer (some ⟨p,0,none⟩)])(cs0:List Value)(h6:cs0.length=6)(hg:Safe w (xO p R) g 232 cs0.toArray)(hB:B≤g)(hw0:w0.heap.size≤w.heap.size) :
  Calls Tryz.prog 215 #[.pointer (some ⟨gb,0,none⟩),.pointer (some ⟨g,0,none⟩)] w (zAA (fun b=>b=g) w p B R (part s) (EAt w0 g p pos false)):=by
 have HP:=yE h;have AK:=yE (hpart w p B s R h hG hl);have AH:=yE hg;have HB:=yE hB;have AL:=yE hw0;have H6:=yE h6;have cb:=hb.1.cell 0;simp only[yJ,yK] at cb;clear h hpart hG hl hb hg hB hw0 h6
 go_enter Tryz.func215,Tryz.ntmps215
 go_wp2_with fail
 refine AK.out.mono ?_;intro e w1 AA
 cases hr:part s with
 | err er a=>
  rw[hr] at AA;obtain⟨rfl,s1,AM,R1,AD,AB⟩:=AA;have HF:Hid (zAA (fun b=>b=g) w p B R (part s) (EAt w0 g p pos false) (ZH er) w1):=yE (by rw[hr]; exact⟨rfl,s1,R1,AM,AD,AB.or _⟩);exact xB (P:=Tryz.prog) (fn:=Tryz.f215) rfl HF.out
 | ok x s1=>
  rw[hr] at AA;obtain⟨cs,R1,rfl,AD,AB,AF⟩:=AA;obtain⟨A1,c1,f1,AQ,_⟩:=AF.open;have AE:=yE (AH.out.xC AB);have AI:=yE AB;have AP:=yE AD;have AJ:=yE AF;have HR:=yE hr;clear hr AD AB AF;subst AQ;unfold ZM;generalize x.parts.length=xm at *;generalize HY:x.node=y at *;obtain⟨yk,yp,yt,yn,AN⟩:=y
  simp only
  go_wp2_with (refine vD rfl 232 (.tmp 1) (.tmp 3) rfl g #[.int .u8 (yk:Int),.int .i64 (yp:Int),.string (xE yt),.int .i64 yn,.slice none 0 0,.slice A1 xm c1] (by rfl) (by rfl) 232 _ AE.out.1 (by kernel_rfl) (by have:=H6.out; simpa using this) rfl ?_; intro w6 AC AG)
  have AO:Hid (zAA (fun b=>b=g) w p B R (part s) (EAt w0 g p pos false) (.returned (.tuple #[])) w6):=yE (by rw[HR.out]; exact⟨rfl,R1,⟨AC.ps AP.out HB.out AE.out.2,(AI.out.or _).trans (AC.xC (.inr rfl))⟩,ZM ⟨yk,yp,yt,yn,AN⟩ A1 xm c1,⟨AG,AE.out.2⟩,(AJ.out.weaken (M':=Or (xO p R1) (fun b=>under w0 b∨b=g)) fun b hb k=>by
   rcases k with k | k | k
   ·exact .inl k
   ·exact .inr (yS k AL.out)
   ·subst k; exact .inr AH.out.1.lt).xC (AC.xC (.inr (.inr rfl)))⟩)
  clear AC AG
  go_wp2_with fail
  go_end0;exact AO.out
end Go.Proofs.YtioffpjajhalaaaGreatDoor
