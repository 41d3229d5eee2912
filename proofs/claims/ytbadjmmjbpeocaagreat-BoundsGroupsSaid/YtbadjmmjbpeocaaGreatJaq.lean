/- The program's factor, and an expression as a kid. (and what follows of it). The conditions stand at each lemma. -/
import Derived.Test.YtbadjmmjbpeocaaGreatJaa
import Derived.Test.YtbadjmmjbpeocaaGreatJap
set_option linter.unusedVariables false
set_option linter.unusedSimpArgs false
set_option maxRecDepth 100000
set_option maxHeartbeats 16000000
namespace Go.Proofs.YtbadjmmjbpeocaaGreat
open Go Go.RowKit
theorem PS.zDV {w:World}{p B:Nat}{s:Ps}{R:xX}(h:PS w p B s R){g i:Nat}{u:Value}(hB:B≤g)(hM:¬xK p R g):PS (w.setCell ⟨g,i,none⟩ u) p B s R:=
 h.jL fun b hb=>zS w ⟨g,i,none⟩ _ b fun e=>by
  subst e
  rcases hb with hb | hb
  ·omega
  ·exact hM hb
theorem Safe.set {w:World}{M:Nat→Prop}{g g' i:Nat}{t:TypeId}{cs:Array Value}{u:Value}(h:Safe w M g' t cs)(hn:g'≠g):Safe (w.setCell ⟨g,i,none⟩ u) M g' t cs:=⟨(zS w ⟨g,i,none⟩ _ g' hn).trans h.1,h.2⟩
theorem Safe.put {w:World}{M:Nat→Prop}{g:Nat}{t:TypeId}{cs:Array Value}(h:Safe w M g t cs)(i:Nat)(u:Value):Safe (w.setCell ⟨g,i,none⟩ u) M g t (cs.setIfInBounds i u):=⟨h.1.put i u,h.2⟩
theorem Safe.ext {w w':World}{M:Nat→Prop}{g:Nat}{t:TypeId}{cs:Array Value}(h:Safe w M g t cs)(hx:Ext w w'):Safe w' M g t cs:=⟨h.1.ext hx,h.2⟩
theorem xC.JA {w w1:World}{M M1:Nat→Prop}(k:xC w M w1 M1){g i:Nat}{u:Value}(hg:w.heap.size≤g):xC w M (w1.setCell ⟨g,i,none⟩ u) M1:=
 ⟨k.os,k.tape,k.output,by have:=k.size; simp[World.setCell]; omega,fun b hb hM=>(zS w1 ⟨g,i,none⟩ u b (fun e=>by subst e; exact absurd hb (Nat.not_lt.2 hg))).trans (k.jL b hb hM),k.zDI⟩
theorem xC.zPn {w w1 w2:World}{M M1 M2 X:Nat→Prop}(h0:xC w M w1 M1)(h:xC w1 (Or M1 X) w2 (Or M2 X))(hX:∀b,X b→w.heap.size≤b):xC w M w2 M2:=
 ⟨h.os.trans h0.os,h.tape.trans h0.tape,h.output.trans h0.output,Nat.le_trans h0.size h.size,fun b hb hm=>(h.jL b (yU hb h0.size) fun k=>by
   rcases k with k | k
   ·rcases h0.zDI b k with k | k
    ·exact hm k
    ·omega
   ·have:=hX b k; omega).trans (h0.jL b hb hm),fun b hb=>by
  rcases h.zDI b (.inl hb) with (h1 | h1) | h1
  ·exact h0.zDI b h1
  ·exact .inr (hX b h1)
  ·exact .inr (Nat.le_trans h0.size h1)⟩
theorem zQu {f:Nat}{s:Ps}(h:s.hd.kind=1):vM (f+1) s=.ok (.leaf 22 s.hd.at_ s.hd.text 0) s.adv:=by unfold vM; rw[if_pos h]
theorem zRb {f:Nat}{s:Ps}(h:s.hd.kind=2):vM (f+1) s=.ok (.leaf 21 s.hd.at_ [] s.hd.n) s.adv:=by unfold vM; rw[if_neg (by omega),if_pos h]
theorem zKi {f:Nat}{s:Ps}(h1:s.hd.kind≠1)(h2:s.hd.kind≠2)(h3:isP [45] s=true):vM (f+1) s=(jE [45] [] (vM f) s).bind fun a t=>.ok (.neg s.hd.at_ a) t:=by
 rw[vM,if_neg h1,if_neg h2,if_pos h3]
theorem zKd {f:Nat}{s:Ps}(h1:s.hd.kind≠1)(h2:s.hd.kind≠2)(h3:isP [45] s=false):vM (f+1) s=jE [40] [41] (zEA (vM f)) s:=by
 rw[vM,if_neg h1,if_neg h2,h3]
 rfl
theorem zUv (f:Nat)(w:World)(p B:Nat)(s:Ps)(R:xX)(h:PS w p B s R)(hG:Good s)(hl:s.ts.length≤f+1)(hk:s.hd.kind=1) :
  Calls Tryz.prog 180 #[.pointer (some ⟨p,0,none⟩)] w (zAp w p B R (vM (f+1) s)):=by
 have HP:=yG h;have HG:=yG hG;have HL:=yG hl;have HK:=yG hk;clear hk;have hm:=hmf;have Al:=zAf;have An:=zDp;obtain⟨W0,AE⟩:∃W0,Hid ((w.alloc (.cells #[.pointer (some ⟨p,0,none⟩)] 99)).alloc (.cells JR 225)=W0):=⟨_,yG rfl⟩;have AM:Hid (Ext w W0):=yG (by rw[←AE.out]; exact(Ext.alloc _ _).trans (Ext.alloc _ _));have AG:Hid (Safe W0 (xK p R) w.heap.size 99 #[.pointer (some ⟨p,0,none⟩)]):=yG (by rw[←AE.out]; exact(h.fresh 99 _).ext (Ext.alloc _ _))
 have AQ:Hid (Safe W0 (xK p R) (w.heap.size+1) 225 JR):=yG (by
  have:=(h.ext (Ext.alloc w (.cells #[.pointer (some ⟨p,0,none⟩)] 99))).fresh 225 JR
  rw[yT] at this;rw[←AE.out]
  exact this)
 have AH:Hid (B≤w.heap.size):=yG (Nat.le_trans h.pB (zV h.blk.lt));have AV:Hid ((w.alloc (.cells #[.pointer (some ⟨p,0,none⟩)] 99)).alloc (.cells #[.int .u8 0,.int .i64 0,.string ⟨#[]⟩,.int .i64 0,.slice none 0 0,.slice none 0 0] 225)=W0):=yG AE.out;obtain⟨gb,AO⟩:∃gb,Hid (w.heap.size=gb):=⟨_,yG rfl⟩;obtain⟨g,AR⟩:∃g,Hid (w.heap.size+1=g):=⟨_,yG rfl⟩;rw[AR.out] at AQ;rw[AO.out] at AG;have AA:Hid (gb≠g∧w.heap.size≤g):=yG (by have:=AO.out; have:=AR.out; omega);clear h hG hl
 go_enter Tryz.func180,Tryz.ntmps180
 go_upto_region 1 with fail
 rw[AV.out,AR.out,AO.out];have AS:=AG.out.1.cell 0;simp only[yL,yM] at AS
 go_wp2_with fail
 refine(ZC W0 p s R (HP.out.ext AM.out).ts).mono ?_;rintro e w1 ⟨rfl,AJ⟩;have AI:=yG (AM.out.trans AJ);have AT:=yG (HP.out.ext AI.out);have AN:=yG (AG.out.ext AJ);have AD:=yG (AQ.out.ext AJ);clear AJ AS;unfold ZY;have c1:=AD.out.1.cell 1;have z1:=AD.out.1.frozen 1;simp only[JR,yL,yM,List.getElem?_cons_succ] at c1;have Ad:=AD.out.1.lt;have Ae:=AN.out.1.lt;have Ah:=AA.out.1
 go_upto_region 4 with fail
 obtain⟨W2,AL⟩:∃W2,Hid ((w1.setCell ⟨g,1,none⟩ (.int .i64 (s.hd.at_:Int))).alloc (.cells #[.int .u8 (s.hd.kind:Int),.int .i64 (s.hd.at_:Int),.int .i64 (s.hd.en:Int),.string (xG s.hd.text),.int .i64 s.hd.n] 104)=W2):=⟨_,yG rfl⟩;have AF:Hid (Ext (w1.setCell ⟨g,1,none⟩ (.int .i64 (s.hd.at_:Int))) W2):=yG (by rw[←AL.out]; exact Ext.alloc _ _);have Aj:Hid (PS W2 p B s R):=yG ((AT.out.zDV (Nat.le_trans AH.out AA.out.2) AD.out.2).ext AF.out);have AW:Hid (xC w (xK p R) W2 (xK p R)):=yG (((xC.ext AI.out).JA AA.out.2).trans (xC.ext AF.out));have Ai:Hid (Safe W2 (xK p R) gb 99 #[.pointer (some ⟨p,0,none⟩)]):=yG ((AN.out.set Ah).ext AF.out);have Ab:Hid (Safe W2 (xK p R) g 225 #[.int .u8 0,.int .i64 (s.hd.at_:Int),.string ⟨#[]⟩,.int .i64 0,.slice none 0 0,.slice none 0 0]):=yG ((AD.out.put 1 (.int .i64 (s.hd.at_:Int))).ext AF.out)
 have Af:Hid (Blk W2 w1.heap.size 104 #[.int .u8 (s.hd.kind:Int),.int .i64 (s.hd.at_:Int),.int .i64 (s.hd.en:Int),.string (xG s.hd.text),.int .i64 s.hd.n]):=yG (by
  have:=Blk.new (w1.setCell ⟨g,1,none⟩ (.int .i64 (s.hd.at_:Int))) 104 #[.int .u8 (s.hd.kind:Int),.int .i64 (s.hd.at_:Int),.int .i64 (s.hd.en:Int),.string (xG s.hd.text),.int .i64 s.hd.n]
  rw[AL.out,show(w1.setCell ⟨g,1,none⟩ (.int .i64 (s.hd.at_:Int))).heap.size=w1.heap.size by simp[World.setCell]] at this
  exact this)
 rw[AL.out];have Am:Hid (w.heap.size≤w1.heap.size):=yG AI.out.size;generalize w1.heap.size=gt at *;clear AL AF AT AN AD AI AQ AG AM AE AV c1 z1 Ad Ae;have t0:=Af.out.cell 0;have cb:=Ai.out.1.cell 0;simp only[yL,yM,List.getElem?_cons_succ] at t0 cb;rw[HK.out] at t0
 go_wp2_with fail
 refine(zHy W2 p B s R 1 HK (by decide) Aj.out).mono ?_;rintro e w3 ⟨rfl,ho⟩;unfold ZY;have AX:=yG ho.1;have AZ:=yG (AW.out.trans ho.2);have AC:=yG (Ab.out.xE ho.2);have c0:=AC.out.1.cell 0;have c2:=AC.out.1.cell 2;have z0:=AC.out.1.frozen 0;have z2:=AC.out.1.frozen 2;simp only[yL,yM,List.getElem?_cons_succ] at c0 c2;clear ho t0 cb
 go_upto_region 11 with fail
 have Aa:=yG ((AX.out.zDV (i:=0) (u:=.int .u8 22) (Nat.le_trans AH.out AA.out.2) AC.out.2).zDV (i:=2) (u:=.string (xG s.hd.text)) (Nat.le_trans AH.out AA.out.2) AC.out.2);have Ac:=yG ((AZ.out.JA (i:=0) (u:=.int .u8 22) AA.out.2).JA (i:=2) (u:=.string (xG s.hd.text)) AA.out.2);have AB:Hid (Safe _ _ g 225 (jY ⟨22,s.hd.at_,s.hd.text,0,[]⟩ none 0 0).toArray):=yG ((AC.out.put 0 (.int .u8 22)).put 2 (.string (xG s.hd.text)));clear c0 c2 z0 z2;generalize (w3.setCell ⟨g,0,none⟩ (.int .u8 22)).setCell ⟨g,2,none⟩ (.string (xG s.hd.text))=W4 at *;have AY:Hid (EX W4 (Or (xK p R.adv) (fun b=>under w b∨b=g)) (.leaf 22 s.hd.at_ s.hd.text 0) (jY ⟨22,s.hd.at_,s.hd.text,0,[]⟩ none 0 0)):=yG rfl;have AP:=yG (zQu (f:=f) HK.out);have c0:=AB.out.1.cell 0;have c1:=AB.out.1.cell 1;have c2:=AB.out.1.cell 2;have c3:=AB.out.1.cell 3;have c4:=AB.out.1.cell 4;have c5:=AB.out.1.cell 5;simp only[jY,yL,yM,List.getElem?_cons_succ] at c0 c1 c2 c3 c4 c5
 go_wp2_with (refine xQ rfl 225 (.tmp 2) (.tmp 43) rfl g #[.int .u8 22,.int .i64 (s.hd.at_:Int),.string (xG s.hd.text),.int .i64 0,.slice none 0 0,.slice none 0 0] (by rfl) (by rfl) 225 _ AB.out.1 (by kernel_rfl) rfl rfl ?_; intro w6 AK AU)
 have Ak:Hid (zAp w p B R (vM (f+1) s) (.returned (.agg #[.int .u8 22,.int .i64 (s.hd.at_:Int),.string (xG s.hd.text),.int .i64 0,.slice none 0 0,.slice none 0 0])) w6):=yG (by
  rw[AP.out]
  exact⟨_,R.adv,rfl,AK.ps Aa.out (Nat.le_trans AH.out AA.out.2) AB.out.2,Ac.out.jQ AK AA.out.2,(AY.out.xE (AK.xE (.inr (.inr rfl)))).weaken fun b hb k=>by
   rcases k with k | k
   ·exact .inl k
   ·exact .inr (.inl k)⟩)
 have Ag:=yG AU;clear AK AU
 go_wp2_with fail
 exact JH g 225 _ _ Tryz.results180 rfl rfl Ag.out Tryz.underlying225 rfl (by kernel_rfl) Ak.out
theorem zUc (f:Nat)(w:World)(p B:Nat)(s:Ps)(R:xX)(h:PS w p B s R)(hG:Good s)(hl:s.ts.length≤f+1)(hk:s.hd.kind=2) :
  Calls Tryz.prog 180 #[.pointer (some ⟨p,0,none⟩)] w (zAp w p B R (vM (f+1) s)):=by
 have HP:=yG h;have HG:=yG hG;have HL:=yG hl;have HK:=yG hk;clear hk;have hm:=hmf;have Al:=zAf;have An:=zDp;obtain⟨W0,AE⟩:∃W0,Hid ((w.alloc (.cells #[.pointer (some ⟨p,0,none⟩)] 99)).alloc (.cells JR 225)=W0):=⟨_,yG rfl⟩;have AM:Hid (Ext w W0):=yG (by rw[←AE.out]; exact(Ext.alloc _ _).trans (Ext.alloc _ _));have AG:Hid (Safe W0 (xK p R) w.heap.size 99 #[.pointer (some ⟨p,0,none⟩)]):=yG (by rw[←AE.out]; exact(h.fresh 99 _).ext (Ext.alloc _ _))
 have AQ:Hid (Safe W0 (xK p R) (w.heap.size+1) 225 JR):=yG (by
  have:=(h.ext (Ext.alloc w (.cells #[.pointer (some ⟨p,0,none⟩)] 99))).fresh 225 JR
  rw[yT] at this;rw[←AE.out]
  exact this)
 have AH:Hid (B≤w.heap.size):=yG (Nat.le_trans h.pB (zV h.blk.lt));have AV:Hid ((w.alloc (.cells #[.pointer (some ⟨p,0,none⟩)] 99)).alloc (.cells #[.int .u8 0,.int .i64 0,.string ⟨#[]⟩,.int .i64 0,.slice none 0 0,.slice none 0 0] 225)=W0):=yG AE.out;obtain⟨gb,AO⟩:∃gb,Hid (w.heap.size=gb):=⟨_,yG rfl⟩;obtain⟨g,AR⟩:∃g,Hid (w.heap.size+1=g):=⟨_,yG rfl⟩;rw[AR.out] at AQ;rw[AO.out] at AG;have AA:Hid (gb≠g∧w.heap.size≤g):=yG (by have:=AO.out; have:=AR.out; omega);clear h hG hl
 go_enter Tryz.func180,Tryz.ntmps180
 go_upto_region 1 with fail
 rw[AV.out,AR.out,AO.out];have AS:=AG.out.1.cell 0;simp only[yL,yM] at AS
 go_wp2_with fail
 refine(ZC W0 p s R (HP.out.ext AM.out).ts).mono ?_;rintro e w1 ⟨rfl,AJ⟩;have AI:=yG (AM.out.trans AJ);have AT:=yG (HP.out.ext AI.out);have AN:=yG (AG.out.ext AJ);have AD:=yG (AQ.out.ext AJ);clear AJ AS;unfold ZY;have c1:=AD.out.1.cell 1;have z1:=AD.out.1.frozen 1;simp only[JR,yL,yM,List.getElem?_cons_succ] at c1;have Ad:=AD.out.1.lt;have Ae:=AN.out.1.lt;have Ah:=AA.out.1
 go_upto_region 4 with fail
 obtain⟨W2,AL⟩:∃W2,Hid ((w1.setCell ⟨g,1,none⟩ (.int .i64 (s.hd.at_:Int))).alloc (.cells #[.int .u8 (s.hd.kind:Int),.int .i64 (s.hd.at_:Int),.int .i64 (s.hd.en:Int),.string (xG s.hd.text),.int .i64 s.hd.n] 104)=W2):=⟨_,yG rfl⟩;have AF:Hid (Ext (w1.setCell ⟨g,1,none⟩ (.int .i64 (s.hd.at_:Int))) W2):=yG (by rw[←AL.out]; exact Ext.alloc _ _);have Aj:Hid (PS W2 p B s R):=yG ((AT.out.zDV (Nat.le_trans AH.out AA.out.2) AD.out.2).ext AF.out);have AW:Hid (xC w (xK p R) W2 (xK p R)):=yG (((xC.ext AI.out).JA AA.out.2).trans (xC.ext AF.out));have Ai:Hid (Safe W2 (xK p R) gb 99 #[.pointer (some ⟨p,0,none⟩)]):=yG ((AN.out.set Ah).ext AF.out);have Ab:Hid (Safe W2 (xK p R) g 225 #[.int .u8 0,.int .i64 (s.hd.at_:Int),.string ⟨#[]⟩,.int .i64 0,.slice none 0 0,.slice none 0 0]):=yG ((AD.out.put 1 (.int .i64 (s.hd.at_:Int))).ext AF.out)
 have Af:Hid (Blk W2 w1.heap.size 104 #[.int .u8 (s.hd.kind:Int),.int .i64 (s.hd.at_:Int),.int .i64 (s.hd.en:Int),.string (xG s.hd.text),.int .i64 s.hd.n]):=yG (by
  have:=Blk.new (w1.setCell ⟨g,1,none⟩ (.int .i64 (s.hd.at_:Int))) 104 #[.int .u8 (s.hd.kind:Int),.int .i64 (s.hd.at_:Int),.int .i64 (s.hd.en:Int),.string (xG s.hd.text),.int .i64 s.hd.n]
  rw[AL.out,show(w1.setCell ⟨g,1,none⟩ (.int .i64 (s.hd.at_:Int))).heap.size=w1.heap.size by simp[World.setCell]] at this
  exact this)
 rw[AL.out];have Am:Hid (w.heap.size≤w1.heap.size):=yG AI.out.size;generalize w1.heap.size=gt at *;clear AL AF AT AN AD AI AQ AG AM AE AV c1 z1 Ad Ae;have t0:=Af.out.cell 0;have cb:=Ai.out.1.cell 0;simp only[yL,yM,List.getElem?_cons_succ] at t0 cb;rw[HK.out] at t0
 go_wp2_with fail
 refine(zHy W2 p B s R 2 HK (by decide) Aj.out).mono ?_;rintro e w3 ⟨rfl,ho⟩;unfold ZY;have AX:=yG ho.1;have AZ:=yG (AW.out.trans ho.2);have AC:=yG (Ab.out.xE ho.2);have c0:=AC.out.1.cell 0;have c2:=AC.out.1.cell 3;have z0:=AC.out.1.frozen 0;have z2:=AC.out.1.frozen 3;simp only[yL,yM,List.getElem?_cons_succ] at c0 c2;clear ho t0 cb
 go_upto_region 11 with fail
 have Aa:=yG ((AX.out.zDV (i:=0) (u:=.int .u8 21) (Nat.le_trans AH.out AA.out.2) AC.out.2).zDV (i:=3) (u:=.int .i64 s.hd.n) (Nat.le_trans AH.out AA.out.2) AC.out.2);have Ac:=yG ((AZ.out.JA (i:=0) (u:=.int .u8 21) AA.out.2).JA (i:=3) (u:=.int .i64 s.hd.n) AA.out.2);have AB:Hid (Safe _ _ g 225 (jY ⟨21,s.hd.at_,[],s.hd.n,[]⟩ none 0 0).toArray):=yG ((AC.out.put 0 (.int .u8 21)).put 3 (.int .i64 s.hd.n));clear c0 c2 z0 z2;generalize (w3.setCell ⟨g,0,none⟩ (.int .u8 21)).setCell ⟨g,3,none⟩ (.int .i64 s.hd.n)=W4 at *;have AY:Hid (EX W4 (Or (xK p R.adv) (fun b=>under w b∨b=g)) (.leaf 21 s.hd.at_ [] s.hd.n) (jY ⟨21,s.hd.at_,[],s.hd.n,[]⟩ none 0 0)):=yG rfl;have AP:=yG (zRb (f:=f) HK.out);have c0:=AB.out.1.cell 0;have c1:=AB.out.1.cell 1;have c2:=AB.out.1.cell 2;have c3:=AB.out.1.cell 3;have c4:=AB.out.1.cell 4;have c5:=AB.out.1.cell 5;simp only[jY,yL,yM,List.getElem?_cons_succ] at c0 c1 c2 c3 c4 c5
 go_wp2_with (refine xQ rfl 225 (.tmp 2) (.tmp 43) rfl g #[.int .u8 21,.int .i64 (s.hd.at_:Int),.string ⟨#[]⟩,.int .i64 s.hd.n,.slice none 0 0,.slice none 0 0] (by rfl) (by rfl) 225 _ AB.out.1 (by kernel_rfl) rfl rfl ?_; intro w6 AK AU)
 have Ak:Hid (zAp w p B R (vM (f+1) s) (.returned (.agg #[.int .u8 21,.int .i64 (s.hd.at_:Int),.string ⟨#[]⟩,.int .i64 s.hd.n,.slice none 0 0,.slice none 0 0])) w6):=yG (by
  rw[AP.out]
  exact⟨_,R.adv,rfl,AK.ps Aa.out (Nat.le_trans AH.out AA.out.2) AB.out.2,Ac.out.jQ AK AA.out.2,(AY.out.xE (AK.xE (.inr (.inr rfl)))).weaken fun b hb k=>by
   rcases k with k | k
   ·exact .inl k
   ·exact .inr (.inl k)⟩)
 have Ag:=yG AU;clear AK AU
 go_wp2_with fail
 exact JH g 225 _ _ Tryz.results180 rfl rfl Ag.out Tryz.underlying225 rfl (by kernel_rfl) Ak.out
theorem zUk (f:Nat)(w:World)(p B:Nat)(s:Ps)(R:xX)(h:PS w p B s R)(hG:Good s)(hl:s.ts.length≤f+1)(h1:s.hd.kind≠1)(h2:s.hd.kind≠2)(h3:isP [45] s=true)(ih:zCc 180 f (vM f)) :
  Calls Tryz.prog 180 #[.pointer (some ⟨p,0,none⟩)] w (zAp w p B R (vM (f+1) s)):=by
 have HP:=yG h;have HG:=yG hG;have HL:=yG hl;have Al:=yG h1;have Aj:=yG h2;have HI:=yG h3;have A6:=yG ih
 have n1:((s.hd.kind:Int)==1)=false:=by rw[yI]; omega
 have n2:((s.hd.kind:Int)==2)=false:=by rw[yI]; omega
 have m1:¬(s.hd.kind:Int)=1:=by omega
 have m2:¬(s.hd.kind:Int)=2:=by omega
 clear h1 h2 h3 ih;have hm:=hmf;have A9:=zAf;have BB:=zDp;obtain⟨W0,AF⟩:∃W0,Hid ((w.alloc (.cells #[.pointer (some ⟨p,0,none⟩)] 99)).alloc (.cells JR 225)=W0):=⟨_,yG rfl⟩;have AP:Hid (Ext w W0):=yG (by rw[←AF.out]; exact(Ext.alloc _ _).trans (Ext.alloc _ _));have AI:Hid (Safe W0 (xK p R) w.heap.size 99 #[.pointer (some ⟨p,0,none⟩)]):=yG (by rw[←AF.out]; exact(h.fresh 99 _).ext (Ext.alloc _ _))
 have AU:Hid (Safe W0 (xK p R) (w.heap.size+1) 225 JR):=yG (by
  have:=(h.ext (Ext.alloc w (.cells #[.pointer (some ⟨p,0,none⟩)] 99))).fresh 225 JR
  rw[yT] at this;rw[←AF.out]
  exact this)
 have AJ:Hid (B≤w.heap.size):=yG (Nat.le_trans h.pB (zV h.blk.lt));have Ah:Hid ((w.alloc (.cells #[.pointer (some ⟨p,0,none⟩)] 99)).alloc (.cells #[.int .u8 0,.int .i64 0,.string ⟨#[]⟩,.int .i64 0,.slice none 0 0,.slice none 0 0] 225)=W0):=yG AF.out;obtain⟨gb,AT⟩:∃gb,Hid (w.heap.size=gb):=⟨_,yG rfl⟩;obtain⟨g,AX⟩:∃g,Hid (w.heap.size+1=g):=⟨_,yG rfl⟩;rw[AX.out] at AU;rw[AT.out] at AI;have AA:Hid (gb≠g∧w.heap.size≤g):=yG (by have:=AT.out; have:=AX.out; omega);clear h hG hl
 go_enter Tryz.func180,Tryz.ntmps180
 go_upto_region 1 with fail
 rw[Ah.out,AX.out,AT.out];have AY:=AI.out.1.cell 0;simp only[yL,yM] at AY
 go_wp2_with fail
 refine(ZC W0 p s R (HP.out.ext AP.out).ts).mono ?_;rintro e w1 ⟨rfl,AL⟩;have AK:=yG (AP.out.trans AL);have AZ:=yG (HP.out.ext AK.out);have AQ:=yG (AI.out.ext AL);have AD:=yG (AU.out.ext AL);clear AL AY;unfold ZY;have c1:=AD.out.1.cell 1;have z1:=AD.out.1.frozen 1;simp only[JR,yL,yM,List.getElem?_cons_succ] at c1;have Au:=AD.out.1.lt;have A3:=AQ.out.1.lt;have Af:=AA.out.1
 go_upto_region 4 with fail
 obtain⟨W2,AN⟩:∃W2,Hid ((w1.setCell ⟨g,1,none⟩ (.int .i64 (s.hd.at_:Int))).alloc (.cells #[.int .u8 (s.hd.kind:Int),.int .i64 (s.hd.at_:Int),.int .i64 (s.hd.en:Int),.string (xG s.hd.text),.int .i64 s.hd.n] 104)=W2):=⟨_,yG rfl⟩;have AH:Hid (Ext (w1.setCell ⟨g,1,none⟩ (.int .i64 (s.hd.at_:Int))) W2):=yG (by rw[←AN.out]; exact Ext.alloc _ _);have Ai:Hid (PS W2 p B s R):=yG ((AZ.out.zDV (Nat.le_trans AJ.out AA.out.2) AD.out.2).ext AH.out);have Ap:Hid (xC w (xK p R) W2 (xK p R)):=yG (((xC.ext AK.out).JA AA.out.2).trans (xC.ext AH.out));have Ag:Hid (Safe W2 (xK p R) gb 99 #[.pointer (some ⟨p,0,none⟩)]):=yG ((AQ.out.set Af).ext AH.out);have At:Hid (Safe W2 (xK p R) g 225 #[.int .u8 0,.int .i64 (s.hd.at_:Int),.string ⟨#[]⟩,.int .i64 0,.slice none 0 0,.slice none 0 0]):=yG ((AD.out.put 1 (.int .i64 (s.hd.at_:Int))).ext AH.out)
 have Av:Hid (Blk W2 w1.heap.size 104 #[.int .u8 (s.hd.kind:Int),.int .i64 (s.hd.at_:Int),.int .i64 (s.hd.en:Int),.string (xG s.hd.text),.int .i64 s.hd.n]):=yG (by
  have:=Blk.new (w1.setCell ⟨g,1,none⟩ (.int .i64 (s.hd.at_:Int))) 104 #[.int .u8 (s.hd.kind:Int),.int .i64 (s.hd.at_:Int),.int .i64 (s.hd.en:Int),.string (xG s.hd.text),.int .i64 s.hd.n]
  rw[AN.out,show(w1.setCell ⟨g,1,none⟩ (.int .i64 (s.hd.at_:Int))).heap.size=w1.heap.size by simp[World.setCell]] at this
  exact this)
 rw[AN.out];have BA:Hid (w.heap.size≤w1.heap.size):=yG AK.out.size;generalize w1.heap.size=gt at *;clear AN AH AZ AQ AD AK AU AI AP AF Ah c1 z1 Au A3;have t0:=Av.out.cell 0;have cb:=Ag.out.1.cell 0;simp only[yL,yM,List.getElem?_cons_succ] at t0 cb
 go_upto_region 8 with fail
 go_wp2_with fail
 refine(XP W2 p B s R [45] true HI Ai.out).mono ?_;rintro e w3 ⟨rfl,AE⟩;have Ay:=yG (Ai.out.ext AE);have As:=yG (Ap.out.trans (xC.ext AE));have Am:=yG (Ag.out.ext AE);have AO:=yG (At.out.ext AE);have c0:=AO.out.1.cell 0;have z0:=AO.out.1.frozen 0;simp only[yL,yM,List.getElem?_cons_succ] at c0;have Ao:=Am.out.1.cell 0;simp only[yL,yM] at Ao;clear AE t0 cb
 go_upto_region 10 with fail
 have Ar:=yG (Ay.out.zDV (i:=0) (u:=.int .u8 26) (Nat.le_trans AJ.out AA.out.2) AO.out.2);have AR:=yG (As.out.JA (i:=0) (u:=.int .u8 26) AA.out.2);have A4:Hid (Safe _ _ g 225 (jY ⟨26,s.hd.at_,[],0,[]⟩ none 0 0).toArray):=yG (AO.out.put 0 (.int .u8 26));have Ac:=yG (Am.out.set (g:=g) (i:=0) (u:=.int .u8 26) Af);clear c0 z0 Ao;generalize w3.setCell ⟨g,0,none⟩ (.int .u8 26)=W5 at *;have Ab:=Ac.out.1.cell 0;simp only[yL,yM] at Ab
 go_wp2_with fail
 have Aw:Hid (w.heap.size≤W5.heap.size):=yG AR.out.size;refine(zCv (fun b=>b=g) W5 p B s R [45] [] 181 #[] #[.pointer (some ⟨gb,0,none⟩),.pointer (some ⟨g,0,none⟩)] (vM f) (EAt w g p s.hd.at_ true) Ar.out (enters_of Tryz.func181 (by kernel_rfl) rfl) (fun x R1 w1 R2 w2 h k=>h.xE k) ?_ ?_).mono ?_
 ·intro hi hd x s' hr;have AS:Good { s.adv with deep:=s.deep+1 }:=⟨(HG.out.base.adv (vO hi).1).last,by show s.deep+1≤64; have:=HG.out.deep; omega,HG.out.few⟩
  have AV:({ s.adv with deep:=s.deep+1 }:Ps).ts.length≤f:=by show s.adv.ts.length≤f; rw[jW]; have:=HL.out; omega
  have Aa:=JU f _ AS AV;rw[hr] at Aa;exact Aa.2.2.2
 ·intro hi hd wr R' hm hp;have AS:Good { s.adv with deep:=s.deep+1 }:=⟨(HG.out.base.adv (vO hi).1).last,by show s.deep+1≤64; have:=HG.out.deep; omega,HG.out.few⟩
  have AV:({ s.adv with deep:=s.deep+1 }:Ps).ts.length≤f:=by show s.adv.ts.length≤f; rw[jW]; have:=HL.out; omega
  exact zQy w wr p B gb g f s.hd.at_ _ R' (vM f) A6.out hp AS AV (Ac.out.xE hm) (A4.out.xE hm) (Nat.le_trans AJ.out AA.out.2) (Nat.le_trans Aw.out hm.size)
 ·intro e w6 AG
  rcases AG.unit with ⟨x,s6,R6,hr,rfl,ho,cs,Ak,An⟩ | ⟨er,at_,hr,rfl,s6,R6,A5,ho⟩
  rotate_left
  ·have HF:Hid (zAp w p B R (vM (f+1) s) (jV er) w6):=yG (by rw[zKi Al.out Aj.out HI.out,hr]; exact⟨rfl,s6,A5,R6,ho.1,xC.zPn AR.out ho.2 (fun b hb=>by rw[hb]; exact AA.out.2)⟩);exact xD (P:=Tryz.prog) (fn:=Tryz.f180) rfl HF.out
  have AW:Hid (vM (f+1) s=.ok (Ex.neg s.hd.at_ x) s6):=yG (by rw[zKi Al.out Aj.out HI.out,hr]; rfl);have Az:=yG ho.1;have A0:=yG (xC.zPn AR.out ho.2 (fun b hb=>by rw[hb]; exact AA.out.2));have AC:EX w6 (Or (xK p R6) (fun b=>under w b∨b=g)) (Ex.neg s.hd.at_ x) cs:=An;obtain⟨A1,Ad,f1,A2,_⟩:=AC.open;subst A2;have AB:=yG Ak;have Aq:=yG AC;clear hr ho Ak An AC Ab;generalize (Ex.neg s.hd.at_ x)=xx at *;generalize xx.parts.length=xm at *;generalize HY:xx.node=y at *;obtain⟨yk,yp,yt,yn,A8⟩:=y;have c0:=AB.out.1.cell 0;have c1:=AB.out.1.cell 1;have c2:=AB.out.1.cell 2;have c3:=AB.out.1.cell 3;have c4:=AB.out.1.cell 4;have c5:=AB.out.1.cell 5;simp only[jY,yL,yM,List.getElem?_cons_succ] at c0 c1 c2 c3 c4 c5
  go_wp2_with (refine xQ rfl 225 (.tmp 2) (.tmp 43) rfl g #[.int .u8 (yk:Int),.int .i64 (yp:Int),.string (xG yt),.int .i64 yn,.slice none 0 0,.slice A1 xm Ad] (by rfl) (by rfl) 225 _ AB.out.1 (by kernel_rfl) rfl rfl ?_; intro w6 AM Ae)
  have A7:Hid (zAp w p B R (vM (f+1) s) (.returned (.agg #[.int .u8 (yk:Int),.int .i64 (yp:Int),.string (xG yt),.int .i64 yn,.slice none 0 0,.slice A1 xm Ad])) w6):=yG (by
   rw[AW.out]
   exact⟨_,R6,rfl,AM.ps Az.out (Nat.le_trans AJ.out AA.out.2) AB.out.2,A0.out.jQ AM AA.out.2,(Aq.out.xE (AM.xE (.inr (.inr rfl)))).weaken fun b hb k=>by
    rcases k with k | k
    ·exact .inl k
    ·exact .inr (.inl k)⟩)
  have Ax:=yG Ae;clear AM Ae
  go_wp2_with fail
  exact JH g 225 _ _ Tryz.results180 rfl rfl Ax.out Tryz.underlying225 rfl (by kernel_rfl) A7.out
theorem zUJ (f:Nat)(w:World)(p B:Nat)(s:Ps)(R:xX)(h:PS w p B s R)(hG:Good s)(hl:s.ts.length≤f+1)(h1:s.hd.kind≠1)(h2:s.hd.kind≠2)(h3:isP [45] s=false)(ih:zCc 180 f (vM f)) :
  Calls Tryz.prog 180 #[.pointer (some ⟨p,0,none⟩)] w (zAp w p B R (vM (f+1) s)):=by
 have HP:=yG h;have HG:=yG hG;have HL:=yG hl;have Ak:=yG h1;have Ai:=yG h2;have HI:=yG h3;have A6:=yG ih
 have n1:((s.hd.kind:Int)==1)=false:=by rw[yI]; omega
 have n2:((s.hd.kind:Int)==2)=false:=by rw[yI]; omega
 have m1:¬(s.hd.kind:Int)=1:=by omega
 have m2:¬(s.hd.kind:Int)=2:=by omega
 clear h1 h2 h3 ih;have hm:=hmf;have A9:=zAf;have BB:=zDp;obtain⟨W0,AF⟩:∃W0,Hid ((w.alloc (.cells #[.pointer (some ⟨p,0,none⟩)] 99)).alloc (.cells JR 225)=W0):=⟨_,yG rfl⟩;have AN:Hid (Ext w W0):=yG (by rw[←AF.out]; exact(Ext.alloc _ _).trans (Ext.alloc _ _));have AI:Hid (Safe W0 (xK p R) w.heap.size 99 #[.pointer (some ⟨p,0,none⟩)]):=yG (by rw[←AF.out]; exact(h.fresh 99 _).ext (Ext.alloc _ _))
 have AS:Hid (Safe W0 (xK p R) (w.heap.size+1) 225 JR):=yG (by
  have:=(h.ext (Ext.alloc w (.cells #[.pointer (some ⟨p,0,none⟩)] 99))).fresh 225 JR
  rw[yT] at this;rw[←AF.out]
  exact this)
 have AT:Hid (B≤w.heap.size):=yG (Nat.le_trans h.pB (zV h.blk.lt));have Ag:Hid ((w.alloc (.cells #[.pointer (some ⟨p,0,none⟩)] 99)).alloc (.cells #[.int .u8 0,.int .i64 0,.string ⟨#[]⟩,.int .i64 0,.slice none 0 0,.slice none 0 0] 225)=W0):=yG AF.out;obtain⟨gb,AR⟩:∃gb,Hid (w.heap.size=gb):=⟨_,yG rfl⟩;obtain⟨g,AX⟩:∃g,Hid (w.heap.size+1=g):=⟨_,yG rfl⟩;rw[AX.out] at AS;rw[AR.out] at AI;have AB:Hid (gb≠g∧w.heap.size≤g):=yG (by have:=AR.out; have:=AX.out; omega);clear h hG hl
 go_enter Tryz.func180,Tryz.ntmps180
 go_upto_region 1 with fail
 rw[Ag.out,AX.out,AR.out];have AY:=AI.out.1.cell 0;simp only[yL,yM] at AY
 go_wp2_with fail
 refine(ZC W0 p s R (HP.out.ext AN.out).ts).mono ?_;rintro e w1 ⟨rfl,AK⟩;have AJ:=yG (AN.out.trans AK);have AZ:=yG (HP.out.ext AJ.out);have AO:=yG (AI.out.ext AK);have AD:=yG (AS.out.ext AK);clear AK AY;unfold ZY;have c1:=AD.out.1.cell 1;have z1:=AD.out.1.frozen 1;simp only[JR,yL,yM,List.getElem?_cons_succ] at c1;have At:=AD.out.1.lt;have A3:=AO.out.1.lt;have Av:=AB.out.1
 go_upto_region 4 with fail
 obtain⟨W2,AM⟩:∃W2,Hid ((w1.setCell ⟨g,1,none⟩ (.int .i64 (s.hd.at_:Int))).alloc (.cells #[.int .u8 (s.hd.kind:Int),.int .i64 (s.hd.at_:Int),.int .i64 (s.hd.en:Int),.string (xG s.hd.text),.int .i64 s.hd.n] 104)=W2):=⟨_,yG rfl⟩;have AH:Hid (Ext (w1.setCell ⟨g,1,none⟩ (.int .i64 (s.hd.at_:Int))) W2):=yG (by rw[←AM.out]; exact Ext.alloc _ _);have Ah:Hid (PS W2 p B s R):=yG ((AZ.out.zDV (Nat.le_trans AT.out AB.out.2) AD.out.2).ext AH.out);have Ao:Hid (xC w (xK p R) W2 (xK p R)):=yG (((xC.ext AJ.out).JA AB.out.2).trans (xC.ext AH.out));have Af:Hid (Safe W2 (xK p R) gb 99 #[.pointer (some ⟨p,0,none⟩)]):=yG ((AO.out.set Av).ext AH.out);have As:Hid (Safe W2 (xK p R) g 225 #[.int .u8 0,.int .i64 (s.hd.at_:Int),.string ⟨#[]⟩,.int .i64 0,.slice none 0 0,.slice none 0 0]):=yG ((AD.out.put 1 (.int .i64 (s.hd.at_:Int))).ext AH.out)
 have Au:Hid (Blk W2 w1.heap.size 104 #[.int .u8 (s.hd.kind:Int),.int .i64 (s.hd.at_:Int),.int .i64 (s.hd.en:Int),.string (xG s.hd.text),.int .i64 s.hd.n]):=yG (by
  have:=Blk.new (w1.setCell ⟨g,1,none⟩ (.int .i64 (s.hd.at_:Int))) 104 #[.int .u8 (s.hd.kind:Int),.int .i64 (s.hd.at_:Int),.int .i64 (s.hd.en:Int),.string (xG s.hd.text),.int .i64 s.hd.n]
  rw[AM.out,show(w1.setCell ⟨g,1,none⟩ (.int .i64 (s.hd.at_:Int))).heap.size=w1.heap.size by simp[World.setCell]] at this
  exact this)
 rw[AM.out];have BA:Hid (w.heap.size≤w1.heap.size):=yG AJ.out.size;generalize w1.heap.size=gt at *;clear AM AH AZ AO AD AJ AS AI AN AF Ag c1 z1 At A3;have t0:=Au.out.cell 0;have cb:=Af.out.1.cell 0;simp only[yL,yM,List.getElem?_cons_succ] at t0 cb
 go_upto_region 8 with fail
 go_wp2_with fail
 refine(XP W2 p B s R [45] false HI Ah.out).mono ?_;rintro e w3 ⟨rfl,AE⟩;have Ay:=yG (Ah.out.ext AE);have Ar:=yG (Ao.out.trans (xC.ext AE));have Al:=yG (Af.out.ext AE);have AW:=yG (As.out.ext AE);have c0:=AW.out.1.cell 0;have z0:=AW.out.1.frozen 0;simp only[yL,yM,List.getElem?_cons_succ] at c0;have An:=Al.out.1.cell 0;simp only[yL,yM] at An;clear AE t0 cb
 go_upto_region 3 with fail
 have Aq:=Ay;have AP:=Ar;have A4:Hid (Safe w3 (xK p R) g 225 [.int .u8 0,.int .i64 (s.hd.at_:Int),.string ⟨#[]⟩,.int .i64 0,.slice none 0 0,.slice none 0 0].toArray):=AW;have Ac:=Al;clear c0 z0 An;generalize w3=W5 at *;have Ab:=Ac.out.1.cell 0;simp only[yL,yM] at Ab
 go_wp2_with fail
 have Aw:Hid (w.heap.size≤W5.heap.size):=yG AP.out.size;refine(zCv (fun b=>b=g) W5 p B s R [40] [41] 182 #[] #[.pointer (some ⟨gb,0,none⟩),.pointer (some ⟨g,0,none⟩)] (zEA (vM f)) (EAt w g p s.hd.at_ false) Aq.out (enters_of Tryz.func182 (by kernel_rfl) rfl) (fun x R1 w1 R2 w2 h k=>h.xE k) ?_ ?_).mono ?_
 ·intro hi hd x s' hr;have AQ:Good { s.adv with deep:=s.deep+1 }:=⟨(HG.out.base.adv (vO hi).1).last,by show s.deep+1≤64; have:=HG.out.deep; omega,HG.out.few⟩
  have AU:({ s.adv with deep:=s.deep+1 }:Ps).ts.length≤f:=by show s.adv.ts.length≤f; rw[jW]; have:=HL.out; omega
  have Aa:=(zGr f (fun t gt ht=>JU f t gt ht)) _ AQ AU;rw[hr] at Aa;exact Aa.2.2.2
 ·intro hi hd wr R' hm hp;have AQ:Good { s.adv with deep:=s.deep+1 }:=⟨(HG.out.base.adv (vO hi).1).last,by show s.deep+1≤64; have:=HG.out.deep; omega,HG.out.few⟩
  have AU:({ s.adv with deep:=s.deep+1 }:Ps).ts.length≤f:=by show s.adv.ts.length≤f; rw[jW]; have:=HL.out; omega
  exact zPV w wr p B gb g f s.hd.at_ _ R' (zEA (vM f)) (zNu f _ A6.out (fun t gt ht=>JU f t gt ht)) hp AQ AU (Ac.out.xE hm) _ rfl (A4.out.xE hm) (Nat.le_trans AT.out AB.out.2) (Nat.le_trans Aw.out hm.size)
 ·intro e w6 AG
  rcases AG.unit with ⟨x,s6,R6,hr,rfl,ho,cs,Aj,Am⟩ | ⟨er,at_,hr,rfl,s6,R6,A5,ho⟩
  rotate_left
  ·have HF:Hid (zAp w p B R (vM (f+1) s) (jV er) w6):=yG (by rw[zKd Ak.out Ai.out HI.out,hr]; exact⟨rfl,s6,A5,R6,ho.1,xC.zPn AP.out ho.2 (fun b hb=>by rw[hb]; exact AB.out.2)⟩);exact xD (P:=Tryz.prog) (fn:=Tryz.f180) rfl HF.out
  have AV:Hid (vM (f+1) s=.ok x s6):=yG (by rw[zKd Ak.out Ai.out HI.out,hr]);have Az:=yG ho.1;have A0:=yG (xC.zPn AP.out ho.2 (fun b hb=>by rw[hb]; exact AB.out.2));have AC:EX w6 (Or (xK p R6) (fun b=>under w b∨b=g)) x cs:=Am;obtain⟨A1,Ad,f1,A2,_⟩:=AC.open;subst A2;have AA:=yG Aj;have Ap:=yG AC;clear hr ho Aj Am AC Ab;generalize x=xx at *;generalize xx.parts.length=xm at *;generalize HY:xx.node=y at *;obtain⟨yk,yp,yt,yn,A8⟩:=y;have c0:=AA.out.1.cell 0;have c1:=AA.out.1.cell 1;have c2:=AA.out.1.cell 2;have c3:=AA.out.1.cell 3;have c4:=AA.out.1.cell 4;have c5:=AA.out.1.cell 5;simp only[jY,yL,yM,List.getElem?_cons_succ] at c0 c1 c2 c3 c4 c5
  go_wp2_with (refine xQ rfl 225 (.tmp 2) (.tmp 43) rfl g #[.int .u8 (yk:Int),.int .i64 (yp:Int),.string (xG yt),.int .i64 yn,.slice none 0 0,.slice A1 xm Ad] (by rfl) (by rfl) 225 _ AA.out.1 (by kernel_rfl) rfl rfl ?_; intro w6 AL Ae)
  have A7:Hid (zAp w p B R (vM (f+1) s) (.returned (.agg #[.int .u8 (yk:Int),.int .i64 (yp:Int),.string (xG yt),.int .i64 yn,.slice none 0 0,.slice A1 xm Ad])) w6):=yG (by
   rw[AV.out]
   exact⟨_,R6,rfl,AL.ps Az.out (Nat.le_trans AT.out AB.out.2) AA.out.2,A0.out.jQ AL AB.out.2,(Ap.out.xE (AL.xE (.inr (.inr rfl)))).weaken fun b hb k=>by
    rcases k with k | k
    ·exact .inl k
    ·exact .inr (.inl k)⟩)
  have Ax:=yG Ae;clear AL Ae
  go_wp2_with fail
  exact JH g 225 _ _ Tryz.results180 rfl rfl Ax.out Tryz.underlying225 rfl (by kernel_rfl) A7.out
theorem zH7:∀f,zCc 180 f (vM f)
 | 0=>fun w p B s R h hG hl=>absurd hG.pos (by omega)
 | f+1=>fun w p B s R h hG hl=>by
  by_cases h1:s.hd.kind=1
  ·exact zUv f w p B s R h hG hl h1
  ·by_cases h2:s.hd.kind=2
   ·exact zUc f w p B s R h hG hl h2
   ·cases h3:isP [45] s with
    | true=>exact zUk f w p B s R h hG hl h1 h2 h3 (zH7 f)
    | false=>exact zUJ f w p B s R h hG hl h1 h2 h3 (zH7 f)
theorem zRa (w:World)(p B:Nat)(s:Ps)(R:xX)(h:PS w p B s R)(hG:Good s):Calls Tryz.prog 175 #[.pointer (some ⟨p,0,none⟩)] w (zAp w p B R (zPX s)):=
 zNu s.ts.length (vM s.ts.length) (zH7 _) (fun t gt ht=>JU _ t gt ht) w p B s R h hG (zX _)
theorem zAJ (w:World)(p B:Nat)(s:Ps)(R:xX)(i:Nat)(h:PS w p B s R)(hG:Good s)(hi:i<s.nd.length)(hbig:s.phi≤1000000) :
  Calls Tryz.prog 169 #[.pointer (some ⟨p,0,none⟩),.int .i64 (i:Int)] w (xM w p B R (zAC i s)):=by
 have HC:=yG (zRa w p B s R h hG);have AL:=yG (zHM s hG);have HI:=yG hi;have AP:=yG hbig;clear h hG hi hbig
 go_enter Tryz.func169,Tryz.ntmps169
 go_wp2_with fail
 refine HC.out.mono ?_;intro e w1 AA;have AD:=AL.out
 cases hr:zPX s with
 | err er a=>
  rw[hr] at AA;obtain⟨rfl,ho⟩:=AA;have HF:Hid (xM w p B R (zAC i s) (jV er) w1):=yG (by unfold zAC; rw[hr]; exact⟨rfl,ho⟩);exact xD (P:=Tryz.prog) (fn:=Tryz.f169) rfl HF.out
 | ok x s1=>
  rw[hr] at AA AD;obtain⟨cs,R1,rfl,AG,AE,AC⟩:=AA;obtain⟨AF,AJ,AB,_⟩:=AD;have HR:Hid (zAC i s=.ok () (zBT i x s1)):=yG (by unfold zAC; rw[hr]; rfl);have AI:=yG AG;have AM:=yG AE;have AN:=yG AC;have AO:=yG AF;have AH:Hid (i<s1.nd.length):=yG (by rw[AB]; exact HI.out);have AK:Hid (s1.nd.length+x.size≤1000000):=yG (by rw[AB]; have:=AP.out; unfold Ps.phi at this; omega);clear hr AG AE AC AF AJ AB
  go_wp2_with fail
  refine(zNn x.size x (zX _) w1 p B s1 R1 i cs AI.out AO.out AH.out AK.out (AN.out.weaken fun b _ k=>.inl k)).mono ?_;rintro e w2 ⟨rfl,ho⟩;have HO:=yG (OkP.trans AM.out ho);clear ho
  go_wp2_with fail
  go_end0;rw[HR.out];exact xM.ok HO.out
theorem bind_eq {α:Type}{whole:Res α}{r r':Res Unit}{f:Unit→Ps→Res α}(h:Hid (whole=r.bind f))(e:r=r'):whole=r'.bind f:=by rw[h.out,e]
theorem Safe.trans {w w1:World}{M M1:Nat→Prop}{g:Nat}{t:TypeId}{cs:Array Value}(h:Safe w M g t cs)(k:xC w M w1 M1):Safe w1 M1 g t cs:=h.xE k
theorem zQT (w:World)(p B g1 g2:Nat)(s:Ps)(R:xX)(i:Nat)(h:PS w p B s R)(hG:Good s)(hi:i<s.nd.length)(hbig:s.phi≤1000000)(h1:Safe w (xK p R) g1 99 #[.pointer (some ⟨p,0,none⟩)])(h2:Safe w (xK p R) g2 3 #[.int .i64 (i:Int)]) :
  Calls Tryz.prog 176 #[.pointer (some ⟨g1,0,none⟩),.pointer (some ⟨g2,0,none⟩)] w (xM w p B R (zAC i s)):=by
 have AA:=yG (Ran.refl h hG);have HI:=yG hi;have AG:=yG hbig;obtain⟨AB,AC⟩:∃x,Hid (x=zAC i s):=⟨_,yG rfl⟩;rw[←AC.out];have c1:=h1.1.cell 0;have c2:=h2.1.cell 0;simp only[yL,yM] at c1 c2;clear h hG hi hbig h1 h2
 go_enter Tryz.func176,Tryz.ntmps176
 have AD:=yG (ZE AC.out)
 go_wp2_with fail
 refine(zAJ _ p B s R i AA.out.ps AA.out.lt.xV (AA.out.idx HI.out) (AA.out.phi AG.out)).mono ?_;intro e w1 hp
 rcases Ran.go AD AA (ZX i _ AA.out.lt.xV) hp with ⟨s1,R1,AE,rfl,AF⟩ | ⟨er,a,rfl,HX,HY⟩
 rotate_left
 ·refine xD (P:=Tryz.prog) (fn:=Tryz.f176) rfl ?_;rw[HX.out];exact HY.out
 clear hp
 go_wp2_with fail
 go_end0;rw[AE.out];exact xM.ok AF.out.okp
theorem zNa (w:World)(p B:Nat)(s:Ps)(R:xX)(i:Nat)(h:PS w p B s R)(hG:Good s)(hi:i<s.nd.length)(hbig:s.phi≤1000000) :
  Calls Tryz.prog 172 #[.pointer (some ⟨p,0,none⟩),.int .i64 (i:Int)] w (xM w p B R (zGg i s)):=by
 have HP:=yG h;have HG:=yG hG;have HI:=yG hi;have AG:=yG hbig;have hm:=hmf;obtain⟨W0,AB⟩:∃W0,Hid ((w.alloc (.cells #[.pointer (some ⟨p,0,none⟩)] 99)).alloc (.cells #[.int .i64 (i:Int)] 3)=W0):=⟨_,yG rfl⟩;have AE:Hid (Ext w W0):=yG (by rw[←AB.out]; exact(Ext.alloc _ _).trans (Ext.alloc _ _));have AD:Hid (Safe W0 (xK p R) w.heap.size 99 #[.pointer (some ⟨p,0,none⟩)]):=yG (by rw[←AB.out]; exact(h.fresh 99 _).ext (Ext.alloc _ _))
 have AH:Hid (Safe W0 (xK p R) (w.heap.size+1) 3 #[.int .i64 (i:Int)]):=yG (by
  have:=(h.ext (Ext.alloc w (.cells #[.pointer (some ⟨p,0,none⟩)] 99))).fresh 3 #[.int .i64 (i:Int)]
  rw[yT] at this;rw[←AB.out]
  exact this)
 have cb:=AD.out.1.cell 0;simp only[yL,yM] at cb;clear h hG hi hbig
 go_enter Tryz.func172,Tryz.ntmps172
 go_upto_region 1 with fail
 rw[AB.out]
 go_wp2_with fail
 have xV:isP [91] s=true→Good { s.adv with deep:=s.deep+1 } ∨ s.deep=64:=fun hi=>by
  by_cases hd:s.deep=64
  ·exact .inr hd
  ·exact .inl ⟨(HG.out.base.adv (vO hi).1).last,by show s.deep+1≤64; have:=HG.out.deep; omega,HG.out.few⟩
 refine(zCv noX W0 p B s R [91] [93] 176 #[] #[.pointer (some ⟨w.heap.size,0,none⟩),.pointer (some ⟨w.heap.size+1,0,none⟩)] (zAC i) (fun _ _ _=>True) (HP.out.ext AE.out) (enters_of Tryz.func176 (by kernel_rfl) rfl) (fun _ _ _ _ _ h _=>h) (fun hi hd x s' hr=>?_) (fun hi hd wr R' hm hp=>?_)).mono ?_
 ·have AC:=(xV hi).resolve_right hd;have hf:=ZX i _ AC;rw[hr] at hf;exact hf.deep
 ·have AC:=(xV hi).resolve_right hd;refine(zQT wr p B _ _ _ R' i hp AC HI.out ?_ (AD.out.xE hm) (AH.out.xE hm)).mono fun e w2 h=>zAh.ofU h;have h1:=AG.out;have h2:=jW (s:=s)
  show s.nd.length+2*s.adv.ts.length≤1000000
  unfold Ps.phi at h1;omega
 ·intro e w1 AA;have hu:xM W0 p B R (zGg i s) e w1:=AA.toU;have AF:=xM.trans (xC.ext AE.out) hu
  rcases AF.unit with ⟨s',hr,rfl,ho⟩ | ⟨er,a,hr,he⟩
  ·have HR:Hid (zGg i s=.ok () s'):=yG hr;have HO:=yG ho;clear AA hu AF hr ho xV
   go_wp2_with fail
   go_end0;rw[HR.out];exact xM.ok HO.out
  ·have HE:=yG he;have HR:Hid (zGg i s=.err er a):=yG hr;obtain⟨rfl,_⟩:=he;refine xD (P:=Tryz.prog) (fn:=Tryz.f172) rfl ?_;rw[HR.out];exact HE.out
theorem zCC (s:Ps)(i k:Nat):(s.xI i k).phi=s.phi+1:=by
 unfold Ps.phi;rw[jT,YS];omega
theorem zH4 (w:World)(p B:Nat)(s:Ps)(R:xX)(i:Nat)(h:PS w p B s R)(hG:Good s)(hi:i<s.nd.length)(hbig:s.phi≤1000000) :
  Calls Tryz.prog 162 #[.pointer (some ⟨p,0,none⟩),.int .i64 (i:Int)] w (xM w p B R (zJt i s)):=by
 have HP:=yG h;have HG:=yG hG;have HF:=yG (h.fresh 119 #[.func (.func 106) #[.pointer (some ⟨p,0,none⟩)] #[],.func (.func 172) #[.pointer (some ⟨p,0,none⟩)] #[]]);have HX:Hid (Ext w (w.alloc (.cells #[.func (.func 106) #[.pointer (some ⟨p,0,none⟩)] #[],.func (.func 172) #[.pointer (some ⟨p,0,none⟩)] #[]] 119))):=yG (Ext.alloc _ _);have HI:=yG hi;have AC:=yG hbig
 have HQ:Hid (zDb [⟨106,#[.pointer (some ⟨p,0,none⟩)],#[],jS s.nd.length⟩,⟨172,#[.pointer (some ⟨p,0,none⟩)],#[],zGg s.nd.length⟩] (s.xI i 20)=zJt i s):=yG (by
  show((jS s.nd.length (s.xI i 20)).bind fun _ t=>(zGg s.nd.length t).bind fun _ u=>.ok () u)=(jS s.nd.length (s.xI i 20)).bind fun _ t=>zGg s.nd.length t
  cases jS s.nd.length (s.xI i 20) with
  | ok a t=>exact zKa _
  | err e q=>rfl)
 have hm:=hmf;clear h hG hi hbig
 go_enter Tryz.func162,Tryz.ntmps162
 go_wp2_with fail
 refine(zCd _ p B s R i 20 _ [⟨106,#[.pointer (some ⟨p,0,none⟩)],#[],jS s.nd.length⟩,⟨172,#[.pointer (some ⟨p,0,none⟩)],#[],zGg s.nd.length⟩] 2 (HP.out.ext HX.out) HI.out (by have:=AC.out; unfold Ps.phi at this; omega) (by simp) HG.out HF.out.row (fun f hf=>by
  simp only[zU,List.not_mem_nil,or_false] at hf
  rcases hf with rfl | rfl
  ·exact enters_of Tryz.func106 (by kernel_rfl) rfl
  ·exact enters_of Tryz.func172 (by kernel_rfl) rfl) (fun k hk s' wr R' h1 h2 h3=>by
  have AE:k<2:=hk
  match k,AE with
  | 0,_=>
   injection h1 with _ h1;subst h1;exact JY wr p B _ R' s.nd.length h3 (by rw[jT]; omega)
  | 1,_=>
   have AD:zDb [⟨106,#[.pointer (some ⟨p,0,none⟩)],#[],jS s.nd.length⟩] (s.xI i 20)=.ok () s':=h1;rw[zCp] at AD;have hf:=zAD s.nd.length (vN HG.out i 20);have AB:jS s.nd.length (s.xI i 20)=.ok () s':=AD;rw[AB] at hf;obtain⟨f1,f2,f3,f4,f5⟩:=hf;rw[zCC] at f2;rw[jT] at f4
   exact zNa wr p B s' R' s.nd.length h3 f1 (by omega) (by have:=AC.out; omega))).mono ?_
 intro e w1 AA;rw[HQ.out] at AA
 rcases AA.unit with ⟨s',hr,rfl,ho⟩ | ⟨er,a,hr,he⟩
 ·have HR:Hid (zJt i s=.ok () s'):=yG hr;have HO:=yG (OkP.trans (xC.ext HX.out) ho);clear AA hr ho
  go_wp2_with fail
  go_end0;rw[HR.out];exact xM.ok HO.out
 ·have HE:=yG (VF.trans (xC.ext HX.out) he);have HR:Hid (zJt i s=.err er a):=yG hr;obtain⟨rfl,_⟩:=he;refine xD (P:=Tryz.prog) (fn:=Tryz.f162) rfl ?_;rw[HR.out];exact HE.out
theorem zK1 (w:World)(p B:Nat)(s:Ps)(R:xX)(i:Nat)(h:PS w p B s R)(hG:Good s)(hi:i<s.nd.length)(hbig:s.phi≤1000000) :
  Calls Tryz.prog 171 #[.pointer (some ⟨p,0,none⟩),.int .i64 (i:Int)] w (xM w p B R (zIC i s)):=by
 have AB:=yG (Ran.refl h hG);have HI:=yG hi;have AE:=yG hbig;obtain⟨AD,AF⟩:∃x,Hid (x=zIC i s):=⟨_,yG rfl⟩;rw[←AF.out];have hm:=hmf;clear h hG hi hbig
 go_enter Tryz.func171,Tryz.ntmps171
 go_wp2_with fail
 refine(zH4 _ p B s R i AB.out.ps AB.out.lt.xV (AB.out.idx HI.out) (AB.out.phi AE.out)).mono ?_;intro e w2 hp
 rcases Ran.go AF AB (zEH i _ AB.out.lt.xV) hp with ⟨s2,R2,AG,rfl,AC⟩ | ⟨er,a,rfl,HX,HY⟩
 rotate_left
 ·refine xD (P:=Tryz.prog) (fn:=Tryz.f171) rfl ?_;rw[HX.out];exact HY.out
 clear hp
 go_wp2_with fail
 refine(jG _ p B s2 R2 [46] AC.out.ps).mono ?_;intro e w3 hp
 rcases Ran.go AG AC (xS _ _ AC.out.lt.xV) hp with ⟨s3,R3,AI,rfl,AA⟩ | ⟨er,a,rfl,HX,HY⟩
 rotate_left
 ·refine xD (P:=Tryz.prog) (fn:=Tryz.f171) rfl ?_;rw[HX.out];exact HY.out
 clear hp;have AH:=yG (ZE AI.out)
 go_wp2_with fail
 refine(zB6 _ p B s3 R3 i AA.out.ps AA.out.lt.xV (AA.out.idx HI.out) (AA.out.nd AE.out)).mono ?_;intro e w4 hp
 rcases Ran.go AH AA (YC i _ AA.out.lt.xV) hp with ⟨s4,R4,AK,rfl,AJ⟩ | ⟨er,a,rfl,HX,HY⟩
 rotate_left
 ·refine xD (P:=Tryz.prog) (fn:=Tryz.f171) rfl ?_;rw[HX.out];exact HY.out
 clear hp
 go_wp2_with fail
 go_end0;rw[AK.out];exact xM.ok AJ.out.okp
theorem zQc (w:World)(p B:Nat)(s:Ps)(R:xX)(i:Nat)(h:PS w p B s R)(hG:Good s)(hi:i<s.nd.length)(hbig:s.phi≤1000000) :
  Calls Tryz.prog 159 #[.pointer (some ⟨p,0,none⟩),.int .i64 (i:Int)] w (xM w p B R (zKS i s)):=by
 have AF:=yG (Ran.refl h hG);have HI:=yG hi;have AP:=yG hbig;obtain⟨AL,AN⟩:∃x,Hid (x=zKS i s):=⟨_,yG rfl⟩;rw[←AN.out];have hm:=hmf;clear h hG hi hbig
 go_enter Tryz.func159,Tryz.ntmps159
 go_wp2_with fail
 refine(JY _ p B s R i AF.out.ps (AF.out.idx HI.out)).mono ?_;intro e w5 hp
 rcases Ran.go AN AF (ZT i _ AF.out.lt.xV) hp with ⟨s5,R5,AQ,rfl,AK⟩ | ⟨er,a,rfl,HX,HY⟩
 rotate_left
 ·refine xD (P:=Tryz.prog) (fn:=Tryz.f159) rfl ?_;rw[HX.out];exact HY.out
 clear hp
 go_wp2_with fail
 refine(jG _ p B s5 R5 [61] AK.out.ps).mono ?_;intro e w6 hp
 rcases Ran.go AQ AK (xS _ _ AK.out.lt.xV) hp with ⟨s6,R6,AO,rfl,AB⟩ | ⟨er,a,rfl,HX,HY⟩
 rotate_left
 ·refine xD (P:=Tryz.prog) (fn:=Tryz.f159) rfl ?_;rw[HX.out];exact HY.out
 clear hp
 go_wp2_with fail
 refine(zK1 _ p B s6 R6 i AB.out.ps AB.out.lt.xV (AB.out.idx HI.out) (AB.out.phi AP.out)).mono ?_;intro e w7 hp
 rcases Ran.go AO AB (zE1 i _ AB.out.lt.xV) hp with ⟨s7,R7,AM,rfl,AD⟩ | ⟨er,a,rfl,HX,HY⟩
 rotate_left
 ·refine xD (P:=Tryz.prog) (fn:=Tryz.f159) rfl ?_;rw[HX.out];exact HY.out
 clear hp
 cases hi8:isP [102,111,114] s7 with
 | false=>
  have AA:=yG hi8;clear hi8;have AH:=yG (zKn (t:=[102,111,114]) (s:=s7) AM AA)
  go_wp2_with fail
  refine(zAP _ p B s7 R7 [102,111,114] AA AD.out.ps).mono ?_;rintro e w8 ⟨rfl,hx⟩;have AC:=yG (AD.out.ext hx);clear hx
  go_wp2_with fail
  go_end0;rw[AH.out];exact xM.ok AC.out.okp
 | true=>
  have AA:=yG hi8;clear hi8;have AH:=yG (zGK (t:=[102,111,114]) (s:=s7) AM AA)
  go_wp2_with fail
  refine(VJ _ p B s7 R7 [102,111,114] AA AD.out.ps).mono ?_;rintro e w8 ⟨rfl,ho⟩;obtain⟨R8,hs⟩:=AD.out.then ho (zBh AD.out.lt.xV AA);have AC:=yG hs;clear ho hs
  go_wp2_with fail
  refine(jG _ p B s7.adv R8 [117,112,100,97,116,101] AC.out.ps).mono ?_;intro e w9 hp
  rcases Ran.go AH AC (xS _ _ AC.out.lt.xV) hp with ⟨s9,R9,AR,rfl,AE⟩ | ⟨er,a,rfl,HX,HY⟩
  rotate_left
  ·refine xD (P:=Tryz.prog) (fn:=Tryz.f159) rfl ?_;rw[HX.out];exact HY.out
  clear hp;have AI:=yG (ZE AR.out)
  go_wp2_with fail
  refine(zCB _ p B s9 R9 i AE.out.ps (AE.out.idx HI.out)).mono ?_;intro e AU hp
  rcases Ran.go AI AE (ZI.num AE.out.lt.xV i 1) hp with ⟨AT,AS,AJ,rfl,AG⟩ | ⟨er,a,rfl,HX,HY⟩
  rotate_left
  ·refine xD (P:=Tryz.prog) (fn:=Tryz.f159) rfl ?_;rw[HX.out];exact HY.out
  clear hp
  go_wp2_with fail
  go_end0;rw[AJ.out];exact xM.ok AG.out.okp
theorem zRp (w:World)(p B:Nat)(s:Ps)(R:xX)(i:Nat)(h:PS w p B s R)(hG:Good s)(hi:i<s.nd.length)(hbig:s.phi≤1000000) :
  Calls Tryz.prog 160 #[.pointer (some ⟨p,0,none⟩),.int .i64 (i:Int)] w (xM w p B R (zQt i s)):=by
 have AC:=yG (Ran.refl h hG);have HI:=yG hi;have AJ:=yG hbig;obtain⟨AI,AK⟩:∃x,Hid (x=zQt i s):=⟨_,yG rfl⟩;rw[←AK.out];have hm:=hmf;clear h hG hi hbig
 go_enter Tryz.func160,Tryz.ntmps160
 go_wp2_with fail
 refine(zK1 _ p B s R i AC.out.ps AC.out.lt.xV (AC.out.idx HI.out) (AC.out.phi AJ.out)).mono ?_;intro e AS hp
 rcases Ran.go AK AC (zE1 i _ AC.out.lt.xV) hp with ⟨AN,AM,AG,rfl,AB⟩ | ⟨er,a,rfl,HX,HY⟩
 rotate_left
 ·refine xD (P:=Tryz.prog) (fn:=Tryz.f160) rfl ?_;rw[HX.out];exact HY.out
 clear hp
 go_wp2_with fail
 refine(jG _ p B AN AM [61] AB.out.ps).mono ?_;intro e AQ hp
 rcases Ran.go AG AB (xS _ _ AB.out.lt.xV) hp with ⟨AL,AO,AD,rfl,AA⟩ | ⟨er,a,rfl,HX,HY⟩
 rotate_left
 ·refine xD (P:=Tryz.prog) (fn:=Tryz.f160) rfl ?_;rw[HX.out];exact HY.out
 clear hp;have AH:=yG (ZE AD.out)
 go_wp2_with fail
 refine(zAJ _ p B AL AO i AA.out.ps AA.out.lt.xV (AA.out.idx HI.out) (AA.out.phi AJ.out)).mono ?_;intro e AR hp
 rcases Ran.go AH AA (ZX i _ AA.out.lt.xV) hp with ⟨AT,AP,AF,rfl,AE⟩ | ⟨er,a,rfl,HX,HY⟩
 rotate_left
 ·refine xD (P:=Tryz.prog) (fn:=Tryz.f160) rfl ?_;rw[HX.out];exact HY.out
 clear hp
 go_wp2_with fail
 go_end0;rw[AF.out];exact xM.ok AE.out.okp
theorem zMV (w:World)(p B:Nat)(s:Ps)(R:xX)(i:Nat)(h:PS w p B s R)(hG:Good s)(hi:i<s.nd.length)(hbig:s.phi≤1000000) :
  Calls Tryz.prog 161 #[.pointer (some ⟨p,0,none⟩),.int .i64 (i:Int)] w (xM w p B R (zE3 i s)):=by
 have AD:=yG (Ran.refl h hG);have HI:=yG hi;have AM:=yG hbig;obtain⟨AL,AN⟩:∃x,Hid (x=zE3 i s):=⟨_,yG rfl⟩;rw[←AN.out];have hm:=hmf;clear h hG hi hbig
 go_enter Tryz.func161,Tryz.ntmps161
 go_wp2_with fail
 refine(zH4 _ p B s R i AD.out.ps AD.out.lt.xV (AD.out.idx HI.out) (AD.out.phi AM.out)).mono ?_;intro e Aa hp
 rcases Ran.go AN AD (zEH i _ AD.out.lt.xV) hp with ⟨AO,AP,AF,rfl,AC⟩ | ⟨er,a,rfl,HX,HY⟩
 rotate_left
 ·refine xD (P:=Tryz.prog) (fn:=Tryz.f161) rfl ?_;rw[HX.out];exact HY.out
 clear hp
 go_wp2_with fail
 refine(jG _ p B AO AP [40] AC.out.ps).mono ?_;intro e AX hp
 rcases Ran.go AF AC (xS _ _ AC.out.lt.xV) hp with ⟨AS,AQ,AE,rfl,AA⟩ | ⟨er,a,rfl,HX,HY⟩
 rotate_left
 ·refine xD (P:=Tryz.prog) (fn:=Tryz.f161) rfl ?_;rw[HX.out];exact HY.out
 clear hp
 go_wp2_with fail
 refine(zGG _ p B AS AQ i ⟨169,#[.pointer (some ⟨p,0,none⟩)],#[],zAC i⟩ AA.out.ps AA.out.lt.xV (enters_of Tryz.func169 (by kernel_rfl) rfl) (ZX i) (fun wr s9 R9 AJ AY AU=>zAJ wr p B s9 R9 i AU AJ.xV (yU (AA.out.idx HI.out) AJ.nd) (Nat.le_trans AJ.phi (AA.out.phi AM.out)))).mono ?_;intro e AV hp
 rcases Ran.go AE AA (zBp (ZX i) _ AA.out.lt.xV) hp with ⟨AT,AR,AG,rfl,AB⟩ | ⟨er,a,rfl,HX,HY⟩
 rotate_left
 ·refine xD (P:=Tryz.prog) (fn:=Tryz.f161) rfl ?_;rw[HX.out];exact HY.out
 clear hp;have AK:=yG (ZE AG.out)
 go_wp2_with fail
 refine(jG _ p B AT AR [41] AB.out.ps).mono ?_;intro e AZ hp
 rcases Ran.go AK AB (xS _ _ AB.out.lt.xV) hp with ⟨AW,Ab,AH,rfl,AI⟩ | ⟨er,a,rfl,HX,HY⟩
 rotate_left
 ·refine xD (P:=Tryz.prog) (fn:=Tryz.f161) rfl ?_;rw[HX.out];exact HY.out
 clear hp
 go_wp2_with fail
 go_end0;rw[AH.out];exact xM.ok AI.out.okp
theorem zP2 (w:World)(p B:Nat)(s:Ps)(R:xX)(i:Nat)(h:PS w p B s R)(hG:Good s)(hi:i<s.nd.length)(hbig:s.phi≤1000000) :
  Calls Tryz.prog 163 #[.pointer (some ⟨p,0,none⟩),.int .i64 (i:Int)] w (xM w p B R (zJ7 i s)):=by
 have AE:=yG (Ran.refl h hG);have HI:=yG hi;have AN:=yG hbig;obtain⟨AM,AO⟩:∃x,Hid (x=zJ7 i s):=⟨_,yG rfl⟩;rw[←AO.out];have hm:=hmf;clear h hG hi hbig
 go_enter Tryz.func163,Tryz.ntmps163
 go_wp2_with fail
 refine(JY _ p B s R i AE.out.ps (AE.out.idx HI.out)).mono ?_;intro e Ac hp
 rcases Ran.go AO AE (ZT i _ AE.out.lt.xV) hp with ⟨AR,AP,AG,rfl,AC⟩ | ⟨er,a,rfl,HX,HY⟩
 rotate_left
 ·refine xD (P:=Tryz.prog) (fn:=Tryz.f163) rfl ?_;rw[HX.out];exact HY.out
 clear hp
 go_wp2_with fail
 refine(jG _ p B AR AP [61] AC.out.ps).mono ?_;intro e Ab hp
 rcases Ran.go AG AC (xS _ _ AC.out.lt.xV) hp with ⟨AU,AT,AJ,rfl,AA⟩ | ⟨er,a,rfl,HX,HY⟩
 rotate_left
 ·refine xD (P:=Tryz.prog) (fn:=Tryz.f163) rfl ?_;rw[HX.out];exact HY.out
 clear hp
 go_wp2_with fail
 refine(zB6 _ p B AU AT i AA.out.ps AA.out.lt.xV (AA.out.idx HI.out) (AA.out.nd AN.out)).mono ?_;intro e AY hp
 rcases Ran.go AJ AA (YC i _ AA.out.lt.xV) hp with ⟨AS,AW,AF,rfl,AD⟩ | ⟨er,a,rfl,HX,HY⟩
 rotate_left
 ·refine xD (P:=Tryz.prog) (fn:=Tryz.f163) rfl ?_;rw[HX.out];exact HY.out
 clear hp
 go_wp2_with fail
 refine(jG _ p B AS AW [46] AD.out.ps).mono ?_;intro e Aa hp
 rcases Ran.go AF AD (xS _ _ AD.out.lt.xV) hp with ⟨AQ,AV,AI,rfl,AB⟩ | ⟨er,a,rfl,HX,HY⟩
 rotate_left
 ·refine xD (P:=Tryz.prog) (fn:=Tryz.f163) rfl ?_;rw[HX.out];exact HY.out
 clear hp;have AL:=yG (ZE AI.out)
 go_wp2_with fail
 refine(zB6 _ p B AQ AV i AB.out.ps AB.out.lt.xV (AB.out.idx HI.out) (AB.out.nd AN.out)).mono ?_;intro e AZ hp
 rcases Ran.go AL AB (YC i _ AB.out.lt.xV) hp with ⟨AX,Ad,AH,rfl,AK⟩ | ⟨er,a,rfl,HX,HY⟩
 rotate_left
 ·refine xD (P:=Tryz.prog) (fn:=Tryz.f163) rfl ?_;rw[HX.out];exact HY.out
 clear hp
 go_wp2_with fail
 go_end0;rw[AH.out];exact xM.ok AK.out.okp
theorem zPZ (w:World)(p B:Nat)(s:Ps)(R:xX)(i:Nat)(h:PS w p B s R)(hG:Good s)(hi:i<s.nd.length)(hbig:s.phi≤1000000) :
  Calls Tryz.prog 164 #[.pointer (some ⟨p,0,none⟩),.int .i64 (i:Int)] w (xM w p B R (zKg i s)):=by
 have AF:=yG (Ran.refl h hG);have HI:=yG hi;have AR:=yG hbig;obtain⟨AO,AP⟩:∃x,Hid (x=zKg i s):=⟨_,yG rfl⟩;rw[←AP.out];have hm:=hmf;clear h hG hi hbig
 go_enter Tryz.func164,Tryz.ntmps164
 go_wp2_with fail
 refine(zB6 _ p B s R i AF.out.ps AF.out.lt.xV (AF.out.idx HI.out) (AF.out.nd AR.out)).mono ?_;intro e AZ hp
 rcases Ran.go AP AF (YC i _ AF.out.lt.xV) hp with ⟨AE,AJ,AG,rfl,AC⟩ | ⟨er,a,rfl,HX,HY⟩
 rotate_left
 ·refine xD (P:=Tryz.prog) (fn:=Tryz.f164) rfl ?_;rw[HX.out];exact HY.out
 clear hp
 cases hi24:isP [97,108,108] AE with
 | false=>
  have AB:=yG hi24;clear hi24;have AD:=yG (zKn (t:=[97,108,108]) (s:=AE) AG AB)
  go_wp2_with fail
  refine(zAP _ p B AE AJ [97,108,108] AB AC.out.ps).mono ?_;rintro e AQ ⟨rfl,hx⟩;have AA:=yG (AC.out.ext hx);clear hx;have AL:=yG (ZE AD.out)
  go_wp2_with fail
  refine(jG _ p B AE AJ [115,104,97,114,101,100] AA.out.ps).mono ?_;intro e AT hp
  rcases Ran.go AL AA (xS _ _ AA.out.lt.xV) hp with ⟨AU,AX,AK,rfl,AI⟩ | ⟨er,a,rfl,HX,HY⟩
  rotate_left
  ·refine xD (P:=Tryz.prog) (fn:=Tryz.f164) rfl ?_;rw[HX.out];exact HY.out
  clear hp
  go_wp2_with fail
  go_end0;rw[AK.out];exact xM.ok AI.out.okp
 | true=>
  have AB:=yG hi24;clear hi24;have AD:=yG (zGK (t:=[97,108,108]) (s:=AE) AG AB)
  go_wp2_with fail
  refine(VJ _ p B AE AJ [97,108,108] AB AC.out.ps).mono ?_;rintro e AQ ⟨rfl,ho⟩;obtain⟨AS,hs⟩:=AC.out.then ho (zBh AC.out.lt.xV AB);have AA:=yG hs;clear ho hs;have AN:=yG (ZE AD.out)
  go_wp2_with fail
  refine(zCB _ p B AE.adv AS i AA.out.ps (AA.out.idx HI.out)).mono ?_;intro e AV hp
  rcases Ran.go AN AA (ZI.num AA.out.lt.xV i 1) hp with ⟨AY,AW,AH,rfl,AM⟩ | ⟨er,a,rfl,HX,HY⟩
  rotate_left
  ·refine xD (P:=Tryz.prog) (fn:=Tryz.f164) rfl ?_;rw[HX.out];exact HY.out
  clear hp
  go_wp2_with fail
  refine bodyPost_ret (v:=.tuple #[]) (by simp[results,Tryz.results164,go_sem]) rfl ?_;rw[AH.out];exact xM.ok AM.out.okp
theorem zR4 (w:World)(p B:Nat)(s:Ps)(R:xX)(i:Nat)(h:PS w p B s R)(hG:Good s)(hi:i<s.nd.length)(hbig:s.phi≤1000000) :
  Calls Tryz.prog 168 #[.pointer (some ⟨p,0,none⟩),.int .i64 (i:Int)] w (xM w p B R (zPK i s)):=by
 have AC:=yG (Ran.refl h hG);have HI:=yG hi;have AO:=yG hbig;obtain⟨AI,AJ⟩:∃x,Hid (x=zPK i s):=⟨_,yG rfl⟩;rw[←AJ.out];have hm:=hmf;clear h hG hi hbig
 go_enter Tryz.func168,Tryz.ntmps168
 go_wp2_with fail
 refine(JY _ p B s R i AC.out.ps (AC.out.idx HI.out)).mono ?_;intro e AR hp
 rcases Ran.go AJ AC (ZT i _ AC.out.lt.xV) hp with ⟨AN,AM,AF,rfl,AB⟩ | ⟨er,a,rfl,HX,HY⟩
 rotate_left
 ·refine xD (P:=Tryz.prog) (fn:=Tryz.f168) rfl ?_;rw[HX.out];exact HY.out
 clear hp
 go_wp2_with fail
 refine(jG _ p B AN AM [61] AB.out.ps).mono ?_;intro e AQ hp
 rcases Ran.go AF AB (xS _ _ AB.out.lt.xV) hp with ⟨AK,AL,AG,rfl,AA⟩ | ⟨er,a,rfl,HX,HY⟩
 rotate_left
 ·refine xD (P:=Tryz.prog) (fn:=Tryz.f168) rfl ?_;rw[HX.out];exact HY.out
 clear hp;have AH:=yG (ZE AG.out)
 go_wp2_with fail
 refine(zAJ _ p B AK AL i AA.out.ps AA.out.lt.xV (AA.out.idx HI.out) (AA.out.phi AO.out)).mono ?_;intro e AT hp
 rcases Ran.go AH AA (ZX i _ AA.out.lt.xV) hp with ⟨AS,AP,AE,rfl,AD⟩ | ⟨er,a,rfl,HX,HY⟩
 rotate_left
 ·refine xD (P:=Tryz.prog) (fn:=Tryz.f168) rfl ?_;rw[HX.out];exact HY.out
 clear hp
 go_wp2_with fail
 go_end0;rw[AE.out];exact xM.ok AD.out.okp
theorem zJ3 (w:World)(p B:Nat)(s:Ps)(R:xX)(i:Nat)(h:PS w p B s R) :
  Calls Tryz.prog 170 #[.pointer (some ⟨p,0,none⟩),.int .i64 (i:Int)] w (xM w p B R (zT4 s)):=by
 have HP:=yG h;clear h
 go_enter Tryz.func170,Tryz.ntmps170
 go_wp2
 go_end0;exact xM.ok ⟨R,HP.out,xC.refl _ _⟩
end Go.Proofs.YtbadjmmjbpeocaaGreat
