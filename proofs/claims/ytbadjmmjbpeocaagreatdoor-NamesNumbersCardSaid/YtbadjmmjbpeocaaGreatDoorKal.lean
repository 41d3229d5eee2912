/- The program's chain: parts with marks between them. (and what follows of it). The conditions stand at each lemma. -/
import Derived.Test.YtbadjmmjbpeocaaGreatDoorKaa
import Derived.Test.YtbadjmmjbpeocaaGreatDoorKak
import Derived.ScopeJumps
import Derived.WalkMore
set_option linter.unusedVariables false
set_option linter.unusedSimpArgs false
set_option maxRecDepth 100000
set_option maxHeartbeats 16000000
namespace Go.Proofs.YtbadjmmjbpeocaaGreatDoor
open Go Go.RowKit
theorem zSc (l:Bs):(xI l).size=l.length:=by simp[xI,ByteArray.size]
theorem EX.weaken {w:World}{M M':Nat→Prop}(k:∀b,b<w.heap.size→M' b→M b):∀ {e:Ex} {cs:List Value},EX w M e cs→EX w M' e cs
 | .leaf ..,_,h=>h
 | .neg ..,_,⟨g,ca,h1,h2,h3⟩=>⟨g,ca,h1,⟨h2.1,fun h=>h2.2 (k g h2.1.lt h)⟩,EX.weaken k h3⟩
 | .bin ..,_,⟨g,ca,cb,h1,h2,h3,h4⟩=>⟨g,ca,cb,h1,⟨h2.1,fun h=>h2.2 (k g h2.1.lt h)⟩,EX.weaken k h3,EX.weaken k h4⟩
theorem Touch.xG {g:Nat}{w w':World}(h:Touch g w w'){N:Nat→Prop}(hg:N g):xD w N w' N:=
 ⟨h.os,h.tape,h.output,by rw[h.size]; exact zX _,fun b hb hN=>h.other b fun e=>hN (by rw[e]; exact hg),fun b hb=>.inl hb⟩
theorem Touch.ps {g p B:Nat}{w w':World}{s:Ps}{R:xV}(h:Touch g w w')(k:PS w p B s R)(hB:B≤g)(hM:¬xL p R g):PS w' p B s R:=
 k.jL fun b hb=>h.other b fun e=>by
  subst e
  rcases hb with hb | hb
  ·omega
  ·exact hM hb
theorem Touch.safe {g g':Nat}{w w':World}{M:Nat→Prop}{t:TypeId}{cs:Array Value}(h:Touch g w w')(k:Safe w M g' t cs)(hn:g'≠g):Safe w' M g' t cs:=⟨(h.other g' hn).trans k.1,k.2⟩
theorem xD.ZX {g:Nat}{w w1 w2:World}{M M1:Nat→Prop}(k:xD w M w1 M1)(h:Touch g w1 w2)(hg:w.heap.size≤g):xD w M w2 M1:=
 ⟨h.os.trans k.os,h.tape.trans k.tape,h.output.trans k.output,by rw[h.size]; exact k.size,fun b hb hM=>(h.other b (by omega)).trans (k.jL b hb hM),k.zDv⟩
def under (w:World)(b:Nat):Prop:=b<w.heap.size
def zAn (w:World)(p B:Nat)(R:xV)(r:Res Ex)(e:Ending)(w':World):Prop:=
 match r with
 | .ok x s'=>∃cs R',e=.returned (.agg cs.toArray)∧PS w' p B s' R'∧xD w (xL p R) w' (xL p R')∧EX w' (Or (xL p R') (under w)) x cs
 | .err er a=>VH w p B R er a e w'
theorem zIW {P:Program}{a:Act}{w:World}{Q:Exit→Act→World→Prop}{x rest:Code}(l:Nat)(J:Act→World→Prop)(μ:Act→World→Nat)(hf:findLabel x l=none)
  (first:x.wp P (Exit.then J (Exit.noGoto Q)) a w) (pass:∀a w,J a w→rest.wp P (Exit.jump l (fun a' w'=>J a' w'∧μ a' w'<μ a w) Q) a w):(Code.scope (x.seq ((Code.label l).seq rest))).wp P Q a w:=by
 refine wp_scope_jumps (rest:=.seq .skip rest) l J μ (by simp[findLabel,hf]) ?_ (fun a w h=>wp_seq (wp_skip (pass a w h)));apply wp_seq;refine wp_mono first ?_;intro e a w h
 cases e with
 | normal=>
  refine wp_seq (wp_label (wp_mono (pass a w h) ?_));intro e a w h
  cases e with
  | goto l'=>exact⟨h.1,h.2.1⟩
  | normal=>exact h
  | exit id=>exact h
  | ret=>exact h
  | panic ch=>exact h
  | outgrown=>exact h
 | goto l'=>exact h.elim
 | exit id=>exact h
 | ret=>exact h
 | panic ch=>exact h
 | outgrown=>exact h
theorem zNf {ms:List (Bs × Nat)}{part:Pm Ex}{f:Nat}{e:Ex}{s:Ps}(h:zDR ms s=none):VY ms part (f+1) e s=.ok e s:=by rw[VY,h]
theorem zL2 {ms:List (Bs × Nat)}{part:Pm Ex}{f k:Nat}{e:Ex}{s:Ps}(h:zDR ms s=some k):VY ms part (f+1) e s=(part s.adv).bind fun r s=>VY ms part f (.bin k e.pos e r) s:=by rw[VY,h]
theorem zN9 {ms:List (Bs × Nat)}{s:Ps}(h:∀m ∈ ms,isP m.1 s=false):zDR ms s=none:=by
 unfold zDR;rw[List.find?_eq_none.2 (fun m hm=>by rw[h m hm]; simp)]
 rfl
theorem zIU:∀ {ms:List (Bs × Nat)} {s:Ps} (k:Nat) (hk:k<ms.length),(∀j (hj:j<ms.length),j<k→isP ms[j].1 s=false)→isP ms[k].1 s=true→zDR ms s=some ms[k].2
 | m::ms,s,0,_,_,hi=>by
  have hi':isP m.1 s=true:=hi;unfold zDR;simp[List.find?_cons,hi']
 | m::ms,s,k+1,hk,h,hi=>by
  have h0:isP m.1 s=false:=h 0 (by simp) (by omega);have ih:=zIU (ms:=ms) (s:=s) k (by simpa using hk) (fun j hj hjk=>h (j+1) (by simpa using hj) (by omega)) hi;unfold zDR at ih ⊢;rw[List.find?_cons,h0];exact ih
theorem zJq:∀(ms:List (Bs × Nat)),(∀m ∈ ms,m.1.length=1)→(ms.map Prod.fst).flatten.length=ms.length∧∀k (hk:k<ms.length),((ms.map Prod.fst).flatten.drop k).take 1=ms[k].1
 | [],_=>⟨rfl,fun k hk=>by cases hk⟩
 | m::ms,h=>by
  obtain⟨h1,h2⟩:=zJq ms (fun x hx=>h x (List.mem_cons_of_mem _ hx));obtain⟨c,hc⟩:=List.length_eq_one_iff.1 (h m (List.mem_cons_self ..));refine⟨by rw[List.map_cons,List.flatten_cons,yP,h1,h m (List.mem_cons_self ..),zK]; omega,fun k hk=>?_⟩;rw[List.map_cons,List.flatten_cons,hc]
  match k,hk with
  | 0,_=>rw[List.getElem_cons_zero,hc]; rfl
  | k+1,hk=>exact h2 k (by simpa using hk)
theorem zLy (L:Bs)(i j:Nat):(xI L).extract i j=xI ((L.drop i).take (j-i)):=by
 apply ByteArray.ext;rw[ByteArray.data_extract]
 show(L.toArray).extract i j=((L.drop i).take (j-i)).toArray
 apply Array.ext';simp[List.extract_eq_take_drop,List.take_drop]
 try omega
def ChX (w:World)(g g0 b:Nat):Prop:=under w b∨b=g∨b=g0
def zRZ (n:Nat)(ms:List (Bs × Nat))(part:Pm Ex)(K:Nat)(first cap:Array Value)(A:Option Addr)(kc:Nat)(w:World)(p B:Nat)(s:Ps)(R:xV)(g0:Nat)(a':Act)(w':World):Prop:=
 ∃(g:Nat) (s':Ps) (R':xV) (x:Ex) (cs:List Value) (f:Nat) (u10 u11 u12 u13 u14 u15 u16 u17 u18 u19 u20 u21 u22 u23 u24 u25 u26 u27 u28 u29 u30 u31 u32 u33 u34 u35 u36 u37 u38 u39 u40 u41:Value),
  a' = { tmps:=#[.pointer (some ⟨p,0,none⟩),.func (.func K) first cap,.string (xI (ms.map Prod.fst).flatten),.slice A ms.length kc,undef,undef,undef,undef,.pointer (some ⟨g0,0,none⟩),.pointer (some ⟨g,0,none⟩),u10,u11,u12,u13,u14,u15,u16,u17,u18,u19,u20,u21,u22,u23,u24,u25,u26,u27,u28,u29,u30,u31,u32,u33,u34,u35,u36,u37,u38,u39,u40,u41],defers:=[] } ∧
  Hid (PS w' p B s' R')∧Hid (xD w (xL p R) w' (xL p R'))∧Hid (Good s')∧Hid (s'.ts.length≤n)∧Hid (s'.ts.length<f)∧Hid (XB ms part s=VY ms part f x s') ∧
  Hid (Safe w' (xL p R') g 225 cs.toArray)∧Hid (w.heap.size≤g∧w.heap.size≤g0∧g≠g0∧B≤w.heap.size)∧Hid (EX w' (Or (xL p R') (ChX w g g0)) x cs)∧Hid (Safe w' (xL p R') g0 225 #[.int .u8 0,.int .i64 0,.string ⟨#[]⟩,.int .i64 0,.slice none 0 0,.slice none 0 0])
theorem zJC (n:Nat)(ms:List (Bs × Nat))(part:Pm Ex)(K:Nat)(first cap:Array Value)(A:Option Addr)(kc:Nat)(w:World)(p B:Nat)(s:Ps)(R:xV)(h:PS w p B s R)(hG:Good s)(hn:s.ts.length≤n)
  (h1:∀m ∈ ms,m.1.length=1) (h2:ms.length≤100) (hk:XE w (xL p R) A (ms.map fun m=>.int .u8 (m.2:Int)))
  (hfine:∀t,Good t→t.ts.length≤n→zDb t (part t)) (he:∀args w,(callFunc K args).run Tryz.prog w=.ok (.enter K args) w)
  (hcall:∀(wr:World) (s':Ps) (R':xV),xD w (xL p R) wr (xL p R')→PS wr p B s' R'→Good s'→s'.ts.length≤n→Calls Tryz.prog K (first++cap) wr (zAn wr p B R' (part s'))) :
  Calls Tryz.prog 167 #[.pointer (some ⟨p,0,none⟩),.func (.func K) first cap,.string (xI (ms.map Prod.fst).flatten),.slice A ms.length kc] w (zAn w p B R (XB ms part s)):=by
 have HP:=yG h;have HFI:=yG hfine;have HC:=yG hcall;have HK:=yG hk;have HE:=yG he;have HG:=yG hG;have HN:=yG hn;have H1:=yG h1;have hff:=hfine s hG hn;have HZ:=yG (h.fresh 225 #[.int .u8 0,.int .i64 0,.string ⟨#[]⟩,.int .i64 0,.slice none 0 0,.slice none 0 0]);have HX0:Hid (Ext w (w.alloc (.cells #[.int .u8 0,.int .i64 0,.string ⟨#[]⟩,.int .i64 0,.slice none 0 0,.slice none 0 0] 225))):=yG (Ext.alloc _ _);obtain⟨g0,HG0⟩:∃g0,Hid (w.heap.size=g0):=⟨_,yG rfl⟩;clear h hfine hcall hk hG hn h1
 go_enter Tryz.func167,Tryz.ntmps167
 go_wp2_with fail
 generalize w.alloc (.cells #[.int .u8 0,.int .i64 0,.string ⟨#[]⟩,.int .i64 0,.slice none 0 0,.slice none 0 0] 225)=w0 at *;rw[HG0.out];rw[HG0.out] at HZ;refine zIW 0 (zRZ n ms part K first cap A kc w p B s R g0) (fun _ w=>JH p w) rfl ?_ ?_
 ·go_wp2_with fail
  refine(HC.out w0 s R (xD.ext HX0.out) (HP.out.ext HX0.out) HG.out HN.out).mono ?_;intro e w1 hpost
  cases hr:part s with
  | err er a=>
   rw[hr] at hpost;obtain⟨rfl,ho⟩:=hpost
   have HF:Hid (zAn w p B R (XB ms part s) (jW er) w1):=yG (by
    unfold XB;rw[hr]
    exact VH.trans (xD.ext HX0.out) ⟨rfl,ho⟩)
   exact xE (P:=Tryz.prog) (fn:=Tryz.f167) rfl HF.out
  | ok x s1=>
   rw[hr] at hpost hff;obtain⟨cs,R1,rfl,hp1,hm1,hx1⟩:=hpost;obtain⟨hg1,hl1,_,_⟩:=hff;have HCH:Hid (XB ms part s=VY ms part (s1.ts.length+1) x s1):=yG (by unfold XB; rw[hr]; rfl);obtain⟨A1,c1,f1,hcs,_⟩:=hx1.open;have HX1:=yG hx1;have HP1:=yG hp1;have HM1:=yG hm1;have HZ1:=yG (HZ.out.xG hm1);have HG1:=yG hg1;have HL1:Hid (s1.ts.length≤n):=yG (by have:=HN.out; omega);have HCS:=yG hcs;have HFR:=yG (hp1.fresh 225 cs.toArray)
   have HBD:Hid (w.heap.size≤w1.heap.size∧w.heap.size≤g0∧w1.heap.size≠g0∧B≤w.heap.size):=yG (by
    have h1:=HX0.out.size;have h2:=hm1.size;have h3:=HG0.out;have h4:=HZ1.out.1.lt;have h5:=HP.out.pB;have h6:=HP.out.blk.lt
    omega)
   have HWK:Hid (∀b,b<w1.heap.size→Or (xL p R1) (ChX w w1.heap.size g0) b→Or (xL p R1) (under w0) b):=yG fun b hb h=>by
    rcases h with h | h | h | h
    ·exact .inl h
    ·exact .inr (yU h HX0.out.size)
    ·omega
    ·subst h; exact .inr (HZ.out.1.lt)
   clear hr hx1 hp1 hm1 hg1 hl1;subst hcs;unfold jZ;generalize x.parts.length=xm at *;generalize HY:x.node=y at *;obtain⟨yk,yp,yt,yn,yks⟩:=y
   simp only
   go_wp2_with fail
   have HEXT:Hid (Ext w1 (w1.alloc (.cells (jZ ⟨yk,yp,yt,yn,yks⟩ A1 xm c1).toArray 225))):=yG (Ext.alloc _ _);exact⟨w1.heap.size,s1,R1,x,jZ ⟨yk,yp,yt,yn,yks⟩ A1 xm c1,s1.ts.length+1,_,_,_,_,_,_,_,_,_,_,_,_,_,_,_,_,_,_,_,_,_,_,_,_,_,_,_,_,_,_,_,_,rfl,yG (HP1.out.ext HEXT.out),yG (((xD.ext HX0.out).trans HM1.out).trans (xD.ext HEXT.out)),HG1,HL1,yG (Nat.lt_succ_self _),HCH,HFR,HBD,yG ((HX1.out.weaken HWK.out).xG ((xD.ext HEXT.out).or _)),yG (HZ1.out.xG (xD.ext HEXT.out))⟩
 ·rintro a1 w1 ⟨g,s',R',x,cs,f,u10,u11,u12,u13,u14,u15,u16,u17,u18,u19,u20,u21,u22,u23,u24,u25,u26,u27,u28,u29,u30,u31,u32,u33,u34,u35,u36,u37,u38,u39,u40,u41,rfl,HP1,HM1,HG1,HN1,HF1,HCH,HGX,HBD,HEX,HZ1⟩;obtain⟨f',rfl⟩:∃f',f=f'+1:=⟨f-1,by have:=HF1.out; omega⟩
  have hfl:(xI (ms.map Prod.fst).flatten).size=ms.length:=by rw[zSc]; exact(zJq ms H1.out).1
  have HLA:Hid (JH p w1=s'.ts.length):=yG HP1.out.JH;rw[HLA.out]
  go_wp2_with fail
  go_loopw [17] (fun i' wr=>∃(k:Nat),k≤ms.length∧i'=.int .i64 k∧Hid (∀j (hj:j<ms.length),j<k→isP ms[j].1 s'=false)∧Hid (Ext w1 wr)) (fun i' _=>ms.length-(intOf i').toNat)
  case atStart=>exact⟨0,zW _,rfl,yG (fun j hj h=>absurd h (by omega)),yG (Ext.refl _)⟩
  case round=>
   obtain⟨k,hk,rfl,HNO,HXR⟩:=hrel;obtain⟨wa,rfl⟩:∃wa:World,wa=wr:=⟨_,rfl⟩;have HPA:=yG (HP1.out.ext HXR.out)
   by_cases hlt:k<ms.length
   ·have d0:decide ((k:Int)<(ms.length:Int))=true:=yS (by omega)
    have q1:(k:Int)<(ms.length:Int):=by omega
    obtain⟨b,off,rfl,hb,hcc⟩:=((HK.out.xG HM1.out).xG (xD.ext HXR.out)).cells.at_ (by simp; omega)
    have e0:wa.cell? ⟨b,off+k,none⟩=some (.int .u8 (ms[k].2:Int)):=by rw[hcc k (by simpa using hlt)]; simp[hlt]
    have HE0:=yG e0;have HFL:Hid ((xI (ms.map Prod.fst).flatten).extract k (k+1)=xI ms[k].1):=yG (by rw[zLy,show k+1-k=1 by omega,(zJq ms H1.out).2 k hlt]);clear hcc
    cases hi:isP ms[k].1 s' with
    | false=>
     have HI:=yG hi;clear hi
     go_wp2_with fail
     rw[HFL.out];refine(zAR wa p B s' R' ms[k].1 HI HPA.out).mono ?_;rintro e w2 ⟨rfl,hx2⟩;have HX2:=yG (HXR.out.trans hx2);clear hx2
     go_wp2_with fail
     go_roundw
     case rel=>exact⟨k+1,by omega,by go_num,yG (fun j hj hjk=>by
      rcases Nat.lt_or_ge j k with h | h
      ·exact HNO.out j hj h
      ·obtain rfl:j=k:=by omega
       exact HI.out),HX2⟩
     case measure=>simp[intOf]; omega
    | true=>
     have HI:=yG hi;have HMK:=yG (zIU k hlt HNO.out hi);have HK4:=yG (vN hi).1;clear hi;have HGA:=yG (HG1.out.adv HK4.out)
     have HLN:Hid (s'.adv.ts.length<s'.ts.length):=yG (by
      have h1:=jX (s:=s');have h2:=HG1.out.pos
      omega)
     have HNA:Hid (s'.adv.ts.length≤n):=yG (by have:=HLN.out; have:=HN1.out; omega);have HQ:Hid (XB ms part s=(part s'.adv).bind fun r s=>VY ms part f' (.bin ms[k].2 x.pos x r) s):=yG (by rw[HCH.out,zL2 HMK.out])
     go_wp2_with fail
     rw[HFL.out];refine(VN wa p B s' R' ms[k].1 HI HPA.out).mono ?_;rintro e w2 ⟨rfl,R2,hp2,hm2⟩;have HP2:=yG hp2;have HM2:=yG (((HM1.out.trans (xD.ext HXR.out))).trans hm2);have HT2:=yG ((xD.ext (M:=xL p R') HXR.out).trans hm2);clear hp2 hm2
     go_wp2_with fail
     refine(HC.out w2 s'.adv R2 HM2.out HP2.out HGA.out HNA.out).mono ?_;intro e w3 hpost;have hff:=HFI.out s'.adv HGA.out HNA.out
     cases hr:part s'.adv with
     | err er a=>
      rw[hr] at hpost;obtain⟨rfl,ho⟩:=hpost
      have HF:Hid (zAn w p B R (XB ms part s) (jW er) w3):=yG (by
       rw[HQ.out,hr]
       exact VH.trans HM2.out ⟨rfl,ho⟩)
      exact xE (P:=Tryz.prog) (fn:=Tryz.f167) rfl HF.out
     | ok r s3=>
      rw[hr] at hpost hff;obtain⟨cs3,R3,rfl,hp3,hm3,hx3⟩:=hpost;obtain⟨hg3,hl3,_,_⟩:=hff;have HBX3:=yG ((HGX.out.xG HT2.out).xG hm3);have HZ3:=yG ((HZ1.out.xG HT2.out).xG hm3);have HEX3:=yG ((HEX.out.xG (HT2.out.or _)).xG (hm3.or _));obtain⟨A1,c1,f1,hcs,_⟩:=HEX3.out.open;obtain⟨A3,c3,f3,hcs3,_⟩:=hx3.open
      have HR3:Hid (EX w3 (Or (xL p R3) (ChX w g g0)) r cs3):=yG (hx3.weaken fun b hb h=>by
       rcases h with h | h
       ·exact .inl h
       ·refine .inr ?_;have h1:=HM2.out.size;have h2:=(HGX.out.xG HT2.out).1.lt;have h3:=(HZ1.out.xG HT2.out).1.lt;unfold under
        rcases h with h | h | h
        ·unfold under at h; omega
        ·omega
        ·omega)
      have HP3:=yG hp3;have HM3:=yG (HM2.out.trans hm3);have HG3:=yG hg3;have HL3:Hid (s3.ts.length≤n∧s3.ts.length<s'.ts.length):=yG (by have:=HNA.out; have:=HLN.out; omega);have HQ3:Hid (XB ms part s=VY ms part f' (.bin ms[k].2 x.pos x r) s3):=yG (by rw[HQ.out,hr]; rfl);have HCS:=yG hcs;have HCS3:=yG hcs3;have hps:=x.zMS;clear hr hp3 hm3 hx3 hg3 hl3;subst hcs hcs3;unfold jZ;have ee0:=HBX3.out.1.cell 0;have ee1:=HBX3.out.1.cell 1;have ee2:=HBX3.out.1.cell 2;have ee3:=HBX3.out.1.cell 3;have ee4:=HBX3.out.1.cell 4;have ee5:=HBX3.out.1.cell 5;simp only[jZ,yL,yM,List.getElem?_cons_succ] at ee0 ee1 ee2 ee3 ee4 ee5;have hgl:=HBX3.out.1.lt;rw[hps] at ee1;clear hps;generalize x.parts.length=xm at *;generalize r.parts.length=rm at *;generalize HY:x.node=y at *;generalize HYR:r.node=yr at *;obtain⟨yk,yp,yt,yn,yks⟩:=y;obtain⟨rk,rp,rt,rn,rks⟩:=yr
      simp only at ee0 ee1 ee2 ee3 ee4 ee5 ⊢
      have HE45:Hid (Ext w3 ((w3.alloc (.cells #[.int .u8 (rk:Int),.int .i64 (rp:Int),.string (xI rt),.int .i64 rn,.slice none 0 0,.slice A3 rm c3] 225)).alloc (.cells #[.int .u8 (yk:Int),.int .i64 (x.pos:Int),.string (xI yt),.int .i64 yn,.slice none 0 0,.slice A1 xm c1,.int .u8 (rk:Int),.int .i64 (rp:Int),.string (xI rt),.int .i64 rn,.slice none 0 0,.slice A3 rm c3] 225))):=yG ((Ext.alloc _ _).trans (Ext.alloc _ _));have HGS:=yG ((HP3.out.ext (Ext.alloc w3 (.cells #[.int .u8 (rk:Int),.int .i64 (rp:Int),.string (xI rt),.int .i64 rn,.slice none 0 0,.slice A3 rm c3] 225))).fresh 225 #[.int .u8 (yk:Int),.int .i64 (x.pos:Int),.string (xI yt),.int .i64 yn,.slice none 0 0,.slice A1 xm c1,.int .u8 (rk:Int),.int .i64 (rp:Int),.string (xI rt),.int .i64 rn,.slice none 0 0,.slice A3 rm c3]);have HSZ:Hid ((w3.alloc (.cells #[.int .u8 (rk:Int),.int .i64 (rp:Int),.string (xI rt),.int .i64 rn,.slice none 0 0,.slice A3 rm c3] 225)).heap.size=w3.heap.size+1):=yG (yT _ _);rw[HSZ.out] at HGS
      go_wp2_with (refine vK rfl 225 (.tmp 9) (.tmp 39) rfl g #[.int .u8 (ms[k].2:Int),.int .i64 (x.pos:Int),.string ⟨#[]⟩,.int .i64 0,.slice none 0 0,.slice (some ⟨w3.heap.size+1,0,none⟩) 2 2] (by rfl) (by rfl) 225 _ (HBX3.out.1.ext HE45.out) (by kernel_rfl) rfl rfl ?_; intro w6 ht6 hb6)
      have hyp:yp=x.pos:=by have:=x.zMS; rw[HY] at this; exact this
      have HY2:=yG hyp;have HP6:=yG (ht6.ps (HP3.out.ext HE45.out) (Nat.le_trans HBD.out.2.2.2 HBD.out.1) HBX3.out.2);have HM6:=yG ((HM3.out.trans (xD.ext HE45.out)).ZX ht6 HBD.out.1);have HN6:Hid (xD w3 (Or (xL p R3) (ChX w g g0)) w6 (Or (xL p R3) (ChX w g g0))):=yG (((xD.ext HE45.out).or _).trans (ht6.xG (.inr (.inr (.inl rfl)))))
      have HS6:Hid (Safe w6 (Or (xL p R3) (ChX w g g0)) (w3.heap.size+1) 225 (jZ ⟨yk,yp,yt,yn,yks⟩ A1 xm c1++jZ ⟨rk,rp,rt,rn,rks⟩ A3 rm c3).toArray):=yG (by
       have h1:=HBX3.out.1.lt;have h2:=HZ3.out.1.lt;have h3:=HM3.out.size
       have hs:Safe _ (Or (xL p R3) (ChX w g g0)) (w3.heap.size+1) 225 _:=⟨HGS.out.1,fun h=>by
        rcases h with h | h | h | h
        ·exact HGS.out.2 h
        ·unfold under at h; omega
        ·omega
        ·omega⟩
       rw[hyp]
       exact ht6.safe hs (by omega))
      have HZ6:=yG (ht6.safe (HZ3.out.xG (xD.ext HE45.out)) (Ne.symm HBD.out.2.2.1));have HB6:=yG hb6;have HX6:Hid (EX w6 (Or (xL p R3) (ChX w g g0)) (.bin ms[k].2 x.pos x r) (jZ ⟨ms[k].2,x.pos,[],0,[]⟩ (some ⟨w3.heap.size+1,0,none⟩) 2 2)):=yG ⟨_,_,_,rfl,HS6.out,HEX3.out.xG HN6.out,HR3.out.xG HN6.out⟩;have HF6:Hid (s3.ts.length<f'):=yG (by have:=HF1.out; have:=HL3.out; omega);clear ht6 hb6 hyp;apply wp_goto;refine(show(0=0∧zRZ n ms part K first cap (some ⟨b,off,none⟩) kc w p B s R g0 _ w6∧JH p w6<s'.ts.length) from⟨rfl,⟨g,s3,R3,.bin ms[k].2 x.pos x r,jZ ⟨ms[k].2,x.pos,[],0,[]⟩ (some ⟨w3.heap.size+1,0,none⟩) 2 2,f',_,_,_,_,_,_,_,_,_,_,_,_,_,_,_,_,_,_,_,_,_,_,_,_,_,_,_,_,_,_,_,_,rfl,HP6,HM6,HG3,yG HL3.out.1,HF6,HQ3,yG ⟨HB6.out,HBX3.out.2⟩,HBD,HX6,HZ6⟩,by rw[HP6.out.JH]; exact HL3.out.2⟩)
   ·obtain rfl:k=ms.length:=by omega
    have d0:decide ((ms.length:Int)<(ms.length:Int))=false:=by simp
    have d1:decide (ms.length<ms.length)=false:=by simp
    have HRES:Hid (XB ms part s=.ok x s'):=yG (by rw[HCH.out,zNf (zN9 fun m hm=>by
     obtain⟨j,hj,rfl⟩:=List.mem_iff_getElem.1 hm
     exact HNO.out j hj hj)])
    have HBA:=yG (HGX.out.xG (xD.ext HXR.out));have HZA:=yG (HZ1.out.xG (xD.ext HXR.out));have HXA:=yG (HEX.out.xG ((xD.ext HXR.out).or _));obtain⟨A1,c1,f1,hcs,_⟩:=HXA.out.open;have ee0:=HBA.out.1.cell 0;have ee1:=HBA.out.1.cell 1;have ee2:=HBA.out.1.cell 2;have ee3:=HBA.out.1.cell 3;have ee4:=HBA.out.1.cell 4;have ee5:=HBA.out.1.cell 5;subst hcs;simp only[jZ,yL,yM,List.getElem?_cons_succ] at ee0 ee1 ee2 ee3 ee4 ee5;generalize x.parts.length=xm at *;generalize HY:x.node=y at *;obtain⟨yk,yp,yt,yn,yks⟩:=y
    simp only at ee0 ee1 ee2 ee3 ee4 ee5
    go_wp2_with (refine vK rfl 225 (.tmp 8) (.tmp 41) rfl g0 #[.int .u8 (yk:Int),.int .i64 (yp:Int),.string (xI yt),.int .i64 yn,.slice none 0 0,.slice A1 xm c1] (by rfl) (by rfl) 225 _ HZA.out.1 (by kernel_rfl) rfl rfl ?_; intro w6 ht6 hb6)
    have HN6:Hid (xD wa (Or (xL p R') (ChX w g g0)) w6 (Or (xL p R') (ChX w g g0))):=yG (ht6.xG (.inr (.inr (.inr rfl))))
    have HF6:Hid (zAn w p B R (XB ms part s) (.returned (.agg (jZ ⟨yk,yp,yt,yn,yks⟩ A1 xm c1).toArray)) w6):=yG (by
     rw[HRES.out]
     exact⟨_,R',rfl,ht6.ps HPA.out (Nat.le_trans HBD.out.2.2.2 HBD.out.2.1) HZA.out.2,(HM1.out.trans (xD.ext HXR.out)).ZX ht6 HBD.out.2.1,(HXA.out.xG HN6.out).weaken (fun b hb h=>by
      rcases h with h | h
      ·exact .inl h
      ·exact .inr (.inl h))⟩)
    have HB6:=yG hb6;clear ht6 hb6
    go_wp2_with fail
    exact zCQ g0 225 _ _ Tryz.results167 rfl rfl HB6.out Tryz.underlying225 rfl (by kernel_rfl) HF6.out
def zCv (F f:Nat)(m:Pm Ex):Prop:=∀(w:World) (p B:Nat) (s:Ps) (R:xV),PS w p B s R→Good s→s.ts.length≤f→Calls Tryz.prog F #[.pointer (some ⟨p,0,none⟩)] w (zAn w p B R (m s))
def JK:Array Value:=#[.int .u8 0,.int .i64 0,.string ⟨#[]⟩,.int .i64 0,.slice none 0 0,.slice none 0 0]
theorem zSY (f:Nat)(part:Pm Ex)(hpart:zCv 169 f part)(hfine:∀t,Good t→t.ts.length≤f→zDb t (part t)):zCv 168 f (XB zKJ part):=by
 intro w p B s R h hG hl;have HP:=yG h;have HG:=yG hG;have HPA:=yG hpart;have HFI:=yG hfine;have HL:=yG hl;have hm:=hmf;have HX1:Hid (Ext w (w.alloc (.cells JK 225))):=yG (Ext.alloc _ _);have HX2:Hid (Ext w ((w.alloc (.cells JK 225)).alloc (.cells #[.int .u8 25] 5))):=yG ((Ext.alloc _ _).trans (Ext.alloc _ _));have HZ:Hid (Safe ((w.alloc (.cells JK 225)).alloc (.cells #[.int .u8 25] 5)) (xL p R) w.heap.size 225 JK):=yG ((h.fresh 225 JK).xG (xD.ext (M:=xL p R) (Ext.alloc _ _)));have hk:=(h.ext HX1.out).fresh 5 #[.int .u8 25];rw[yT] at hk;have HK:=yG hk;have HBW:Hid (B≤w.heap.size):=yG (Nat.le_trans h.pB (zV h.blk.lt));clear h hG hpart hfine hl hk
 go_enter Tryz.func168,Tryz.ntmps168
 go_wp2_with fail
 refine(zJC f zKJ part 169 #[.pointer (some ⟨p,0,none⟩)] #[] (some ⟨w.heap.size+1,0,none⟩) 1 _ p B s R (HP.out.ext HX2.out) HG.out HL.out (by intro m hm; simp only[zKJ,zU,List.not_mem_nil,or_false] at hm; rw[hm]; rfl) (by decide) HK.out.row HFI.out (enters_of Tryz.func169 (by kernel_rfl) rfl) (fun wr s' R' hm hp hg hn=>HPA.out wr p B s' R' hp hg hn)).mono ?_;intro e w1 hpost
 cases hr:XB zKJ part s with
 | err er a=>
  rw[hr] at hpost;obtain⟨rfl,ho⟩:=hpost;have HF:Hid (zAn w p B R (Res.err er a) (jW er) w1):=yG (VH.trans (xD.ext HX2.out) ⟨rfl,ho⟩);exact xE (P:=Tryz.prog) (fn:=Tryz.f168) rfl HF.out
 | ok x s1=>
  rw[hr] at hpost;obtain⟨cs,R1,rfl,hp1,hm1,hx1⟩:=hpost;obtain⟨A1,c1,f1,hcs,_⟩:=hx1.open;have HP1:=yG hp1;have HM1:=yG ((xD.ext (M:=xL p R) HX2.out).trans hm1);have HZ1:=yG (HZ.out.xG hm1);have HE1:=yG hx1;have HR:=yG hr;clear hr hp1 hm1 hx1;subst hcs;unfold jZ;generalize x.parts.length=xm at *;generalize HY:x.node=y at *;obtain⟨yk,yp,yt,yn,yks⟩:=y
  simp only
  go_wp2_with (refine vK rfl 225 (.tmp 2) (.tmp 7) rfl w.heap.size #[.int .u8 (yk:Int),.int .i64 (yp:Int),.string (xI yt),.int .i64 yn,.slice none 0 0,.slice A1 xm c1] (by rfl) (by rfl) 225 _ HZ1.out.1 (by kernel_rfl) rfl rfl ?_; intro w6 ht6 hb6)
  have HF6:Hid (zAn w p B R (XB zKJ part s) (.returned (.agg (jZ ⟨yk,yp,yt,yn,yks⟩ A1 xm c1).toArray)) w6):=yG (by rw[HR.out]; exact⟨_,R1,rfl,ht6.ps HP1.out HBW.out HZ1.out.2,HM1.out.ZX ht6 (zX _),((HE1.out.weaken (M':=Or (xL p R1) (fun b=>under w b∨b=w.heap.size)) fun b hb k=>by
   rcases k with k | k | k
   ·exact .inl k
   ·exact .inr (yU k HX2.out.size)
   ·subst k; exact .inr HZ.out.1.lt).xG (ht6.xG (.inr (.inr rfl)))).weaken fun b hb k=>by
   rcases k with k | k
   ·exact .inl k
   ·exact .inr (.inl k)⟩)
  have HB6:=yG hb6;clear ht6 hb6
  go_wp2_with fail
  exact zCQ w.heap.size 225 _ _ Tryz.results168 rfl rfl HB6.out Tryz.underlying225 rfl (by kernel_rfl) HF6.out
theorem zUc (f:Nat)(part:Pm Ex)(hpart:zCv 168 f part)(hfine:∀t,Good t→t.ts.length≤f→zDb t (part t)):zCv 164 f (XB zJ5 part):=by
 intro w p B s R h hG hl;have HP:=yG h;have HG:=yG hG;have HPA:=yG hpart;have HFI:=yG hfine;have HL:=yG hl;have hm:=hmf;have HX1:Hid (Ext w (w.alloc (.cells JK 225))):=yG (Ext.alloc _ _);have HX2:Hid (Ext w ((w.alloc (.cells JK 225)).alloc (.cells #[.int .u8 23,.int .u8 24] 5))):=yG ((Ext.alloc _ _).trans (Ext.alloc _ _));have HZ:Hid (Safe ((w.alloc (.cells JK 225)).alloc (.cells #[.int .u8 23,.int .u8 24] 5)) (xL p R) w.heap.size 225 JK):=yG ((h.fresh 225 JK).xG (xD.ext (M:=xL p R) (Ext.alloc _ _)));have hk:=(h.ext HX1.out).fresh 5 #[.int .u8 23,.int .u8 24];rw[yT] at hk;have HK:=yG hk;have HBW:Hid (B≤w.heap.size):=yG (Nat.le_trans h.pB (zV h.blk.lt));clear h hG hpart hfine hl hk
 go_enter Tryz.func164,Tryz.ntmps164
 go_wp2_with fail
 refine(zJC f zJ5 part 168 #[.pointer (some ⟨p,0,none⟩)] #[] (some ⟨w.heap.size+1,0,none⟩) 2 _ p B s R (HP.out.ext HX2.out) HG.out HL.out (by intro m hm; simp only[zJ5,zU,List.not_mem_nil,or_false] at hm; rcases hm with rfl | rfl <;> rfl) (by decide) HK.out.row HFI.out (enters_of Tryz.func168 (by kernel_rfl) rfl) (fun wr s' R' hm hp hg hn=>HPA.out wr p B s' R' hp hg hn)).mono ?_
 intro e w1 hpost
 cases hr:XB zJ5 part s with
 | err er a=>
  rw[hr] at hpost;obtain⟨rfl,ho⟩:=hpost;have HF:Hid (zAn w p B R (Res.err er a) (jW er) w1):=yG (VH.trans (xD.ext HX2.out) ⟨rfl,ho⟩);exact xE (P:=Tryz.prog) (fn:=Tryz.f164) rfl HF.out
 | ok x s1=>
  rw[hr] at hpost;obtain⟨cs,R1,rfl,hp1,hm1,hx1⟩:=hpost;obtain⟨A1,c1,f1,hcs,_⟩:=hx1.open;have HP1:=yG hp1;have HM1:=yG ((xD.ext (M:=xL p R) HX2.out).trans hm1);have HZ1:=yG (HZ.out.xG hm1);have HE1:=yG hx1;have HR:=yG hr;clear hr hp1 hm1 hx1;subst hcs;unfold jZ;generalize x.parts.length=xm at *;generalize HY:x.node=y at *;obtain⟨yk,yp,yt,yn,yks⟩:=y
  simp only
  go_wp2_with (refine vK rfl 225 (.tmp 2) (.tmp 7) rfl w.heap.size #[.int .u8 (yk:Int),.int .i64 (yp:Int),.string (xI yt),.int .i64 yn,.slice none 0 0,.slice A1 xm c1] (by rfl) (by rfl) 225 _ HZ1.out.1 (by kernel_rfl) rfl rfl ?_; intro w6 ht6 hb6)
  have HF6:Hid (zAn w p B R (XB zJ5 part s) (.returned (.agg (jZ ⟨yk,yp,yt,yn,yks⟩ A1 xm c1).toArray)) w6):=yG (by rw[HR.out]; exact⟨_,R1,rfl,ht6.ps HP1.out HBW.out HZ1.out.2,HM1.out.ZX ht6 (zX _),((HE1.out.weaken (M':=Or (xL p R1) (fun b=>under w b∨b=w.heap.size)) fun b hb k=>by
   rcases k with k | k | k
   ·exact .inl k
   ·exact .inr (yU k HX2.out.size)
   ·subst k; exact .inr HZ.out.1.lt).xG (ht6.xG (.inr (.inr rfl)))).weaken fun b hb k=>by
   rcases k with k | k
   ·exact .inl k
   ·exact .inr (.inl k)⟩)
  have HB6:=yG hb6;clear ht6 hb6
  go_wp2_with fail
  exact zCQ w.heap.size 225 _ _ Tryz.results164 rfl rfl HB6.out Tryz.underlying225 rfl (by kernel_rfl) HF6.out
theorem zNl (f:Nat)(part:Pm Ex)(hpart:zCv 169 f part)(hfine:∀t,Good t→t.ts.length≤f→zDb t (part t)):zCv 164 f (zEr part):=
 zUc f (zR4 part) (zSY f part hpart hfine) (zEi f hfine)
def EAt (w:World)(g p pos:Nat)(neg:Bool)(a:Ex)(R':xV)(w':World):Prop:=∃cs,Safe w' (xL p R') g 225 cs.toArray∧EX w' (Or (xL p R') (fun b=>under w b∨b=g)) (if neg then .neg pos a else a) cs
theorem EAt.xG {w:World}{g p pos:Nat}{neg:Bool}{a:Ex}{R1 R2:xV}{w1 w2:World}(h:EAt w g p pos neg a R1 w1)(k:xD w1 (xL p R1) w2 (xL p R2)):EAt w g p pos neg a R2 w2:=let ⟨cs,h1,h2⟩:=h; ⟨cs,h1.xG k,h2.xG (k.or _)⟩
theorem zQF (w0 w:World)(p B gb g f pos:Nat)(s:Ps)(R:xV)(part:Pm Ex)(hpart:zCv 169 f part)(h:PS w p B s R)(hG:Good s)(hl:s.ts.length≤f)(hb:Safe w (xL p R) gb 70 #[.pointer (some ⟨p,0,none⟩)])(hg:Safe w (xL p R) g 225 (jZ ⟨26,pos,[],0,[]⟩ none 0 0).toArray)(hB:B≤g)(hw0:w0.heap.size≤w.heap.size) :
  Calls Tryz.prog 170 #[.pointer (some ⟨gb,0,none⟩),.pointer (some ⟨g,0,none⟩)] w (zAi (fun b=>b=g) w p B R (part s) (EAt w0 g p pos true)):=by
 have HP:=yG h;have HPA:=yG (hpart w p B s R h hG hl);have HGX:=yG hg;have HB:=yG hB;have HW0:=yG hw0;have cb:=hb.1.cell 0;simp only[yL,yM] at cb;clear h hpart hG hl hb hg hB hw0
 go_enter Tryz.func170,Tryz.ntmps170
 go_wp2_with fail
 refine HPA.out.mono ?_;intro e w1 hpost
 cases hr:part s with
 | err er a=>
  rw[hr] at hpost;obtain⟨rfl,s1,hat,R1,hp1,hm1⟩:=hpost;have HF:Hid (zAi (fun b=>b=g) w p B R (part s) (EAt w0 g p pos true) (jW er) w1):=yG (by rw[hr]; exact⟨rfl,s1,R1,hat,hp1,hm1.or _⟩);exact xE (P:=Tryz.prog) (fn:=Tryz.f170) rfl HF.out
 | ok x s1=>
  rw[hr] at hpost;obtain⟨cs,R1,rfl,hp1,hm1,hx1⟩:=hpost;obtain⟨A1,c1,f1,hcs,_⟩:=hx1.open;have HG1:=yG (HGX.out.xG hm1);have HM1:=yG hm1;have HP1:=yG hp1;have HE1:=yG hx1;have HS1:=yG (hp1.fresh 225 cs.toArray);have HCS:=yG hcs;have HR:=yG hr;clear hr hp1 hm1 hx1;subst hcs;have c5:=HG1.out.1.cell 5;have z5:=HG1.out.1.frozen 5;have hgl:=HG1.out.1.lt;simp only[jZ,yL,yM,List.getElem?_cons_succ] at c5;unfold jZ;generalize x.parts.length=xm at *;generalize HY:x.node=y at *;obtain⟨yk,yp,yt,yn,yks⟩:=y
  simp only
  go_wp2_with fail
  go_end0;rw[HR.out];obtain⟨W,hW⟩:∃W,w1.setCell ⟨g,5,none⟩ (.slice (some ⟨w1.heap.size,0,none⟩) 1 1)=W:=⟨_,rfl⟩
  have hsz:W.heap.size=w1.heap.size:=by rw[←hW]; simp[World.setCell]
  have hoth:∀b,b≠g→W.heap[b]?=w1.heap[b]?:=fun b hb=>by rw[←hW]; exact zS w1 ⟨g,5,none⟩ _ b hb
  have hset:∀ {N:Nat→Prop},N g→xD w1 N W N:=fun h=>by rw[←hW]; exact xD.set h
  have hx2:Ext W (W.alloc (.cells (jZ ⟨yk,yp,yt,yn,yks⟩ A1 xm c1).toArray 225)):=Ext.alloc _ _;have hne:g≠w1.heap.size:=Nat.ne_of_lt hgl;have hbg:=HG1.out.1.put 5 (.slice (some ⟨w1.heap.size,0,none⟩) 1 1);rw[hW] at hbg ⊢;have hnew:=Blk.new W 225 (jZ ⟨yk,yp,yt,yn,yks⟩ A1 xm c1).toArray;rw[hsz] at hnew;have ht:∀ {N:Nat→Prop},N g→xD w1 N (W.alloc (.cells (jZ ⟨yk,yp,yt,yn,yks⟩ A1 xm c1).toArray 225)) N:=fun h=>(hset h).trans (xD.ext hx2);refine⟨rfl,R1,⟨?_,?_⟩,?_⟩
  ·refine PS.ext (HP1.out.jL fun b hb=>hoth b fun e=>?_) hx2;subst e
   rcases hb with hb | hb
   ·have:=HB.out; omega
   ·exact HG1.out.2 hb
  ·exact(HM1.out.or _).trans (ht (.inr rfl))
  ·refine⟨jZ ⟨26,pos,[],0,[]⟩ (some ⟨w1.heap.size,0,none⟩) 1 1,⟨?_,HG1.out.2⟩,⟨w1.heap.size,jZ ⟨yk,yp,yt,yn,yks⟩ A1 xm c1,rfl,⟨hnew,fun k=>?_⟩,?_⟩⟩
   ·have:=hbg.ext hx2
    simpa [jZ] using this
   ·rcases k with k | k | k
    ·exact HS1.out.2 k
    ·have h1:=HW0.out;have h2:=HM1.out.size;unfold under at k;omega
    ·exact hne k.symm
   ·refine((HE1.out.weaken (M':=Or (xL p R1) (fun b=>under w0 b∨b=g)) fun b hb k=>?_).xG (ht (.inr (.inr rfl))))
    rcases k with k | k | k
    ·exact .inl k
    ·exact .inr (yU k HW0.out)
    ·subst k; exact .inr HGX.out.1.lt
theorem zP0 (w0 w:World)(p B gb g f pos:Nat)(s:Ps)(R:xV)(part:Pm Ex)(hpart:zCv 164 f part)(h:PS w p B s R)(hG:Good s)(hl:s.ts.length≤f)(hb:Safe w (xL p R) gb 70 #[.pointer (some ⟨p,0,none⟩)])(cs0:List Value)(h6:cs0.length=6)(hg:Safe w (xL p R) g 225 cs0.toArray)(hB:B≤g)(hw0:w0.heap.size≤w.heap.size) :
  Calls Tryz.prog 171 #[.pointer (some ⟨gb,0,none⟩),.pointer (some ⟨g,0,none⟩)] w (zAi (fun b=>b=g) w p B R (part s) (EAt w0 g p pos false)):=by
 have HP:=yG h;have HPA:=yG (hpart w p B s R h hG hl);have HGX:=yG hg;have HB:=yG hB;have HW0:=yG hw0;have H6:=yG h6;have cb:=hb.1.cell 0;simp only[yL,yM] at cb;clear h hpart hG hl hb hg hB hw0 h6
 go_enter Tryz.func171,Tryz.ntmps171
 go_wp2_with fail
 refine HPA.out.mono ?_;intro e w1 hpost
 cases hr:part s with
 | err er a=>
  rw[hr] at hpost;obtain⟨rfl,s1,hat,R1,hp1,hm1⟩:=hpost;have HF:Hid (zAi (fun b=>b=g) w p B R (part s) (EAt w0 g p pos false) (jW er) w1):=yG (by rw[hr]; exact⟨rfl,s1,R1,hat,hp1,hm1.or _⟩);exact xE (P:=Tryz.prog) (fn:=Tryz.f171) rfl HF.out
 | ok x s1=>
  rw[hr] at hpost;obtain⟨cs,R1,rfl,hp1,hm1,hx1⟩:=hpost;obtain⟨A1,c1,f1,hcs,_⟩:=hx1.open;have HG1:=yG (HGX.out.xG hm1);have HM1:=yG hm1;have HP1:=yG hp1;have HE1:=yG hx1;have HR:=yG hr;clear hr hp1 hm1 hx1;subst hcs;unfold jZ;generalize x.parts.length=xm at *;generalize HY:x.node=y at *;obtain⟨yk,yp,yt,yn,yks⟩:=y
  simp only
  go_wp2_with (refine vK rfl 225 (.tmp 1) (.tmp 3) rfl g #[.int .u8 (yk:Int),.int .i64 (yp:Int),.string (xI yt),.int .i64 yn,.slice none 0 0,.slice A1 xm c1] (by rfl) (by rfl) 225 _ HG1.out.1 (by kernel_rfl) (by have:=H6.out; simpa using this) rfl ?_; intro w6 ht6 hb6)
  have HF6:Hid (zAi (fun b=>b=g) w p B R (part s) (EAt w0 g p pos false) (.returned (.tuple #[])) w6):=yG (by rw[HR.out]; exact⟨rfl,R1,⟨ht6.ps HP1.out HB.out HG1.out.2,(HM1.out.or _).trans (ht6.xG (.inr rfl))⟩,jZ ⟨yk,yp,yt,yn,yks⟩ A1 xm c1,⟨hb6,HG1.out.2⟩,(HE1.out.weaken (M':=Or (xL p R1) (fun b=>under w0 b∨b=g)) fun b hb k=>by
   rcases k with k | k | k
   ·exact .inl k
   ·exact .inr (yU k HW0.out)
   ·subst k; exact .inr HGX.out.1.lt).xG (ht6.xG (.inr (.inr rfl)))⟩)
  clear ht6 hb6
  go_wp2_with fail
  go_end0;exact HF6.out
end Go.Proofs.YtbadjmmjbpeocaaGreatDoor
