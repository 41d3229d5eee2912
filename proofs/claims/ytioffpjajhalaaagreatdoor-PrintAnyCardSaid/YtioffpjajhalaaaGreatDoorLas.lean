/- The program's factor, and an expression as a kid. Condition: the nodes fit into memory. -/
import Derived.Test.YtioffpjajhalaaaGreatDoorLaa
import Derived.Test.YtioffpjajhalaaaGreatDoorLar
set_option linter.unusedVariables false
set_option linter.unusedSimpArgs false
set_option maxRecDepth 100000
set_option maxHeartbeats 16000000
namespace Go.Proofs.YtioffpjajhalaaaGreatDoor
open Go Go.RowKit
theorem PS.zCz {w:World}{p B:Nat}{s:Ps}{R:xW}(h:PS w p B s R){g i:Nat}{u:Value}(hB:B≤g)(hM:¬xJ p R g):PS (w.setCell ⟨g,i,none⟩ u) p B s R:=
 h.JX fun b hb=>zQ w ⟨g,i,none⟩ _ b fun e=>by
  subst e
  rcases hb with hb | hb
  ·omega
  ·exact hM hb
theorem Safe.set {w:World}{M:Nat→Prop}{g g' i:Nat}{t:TypeId}{cs:Array Value}{u:Value}(h:Safe w M g' t cs)(hn:g'≠g):Safe (w.setCell ⟨g,i,none⟩ u) M g' t cs:=⟨(zQ w ⟨g,i,none⟩ _ g' hn).trans h.1,h.2⟩
theorem Safe.put {w:World}{M:Nat→Prop}{g:Nat}{t:TypeId}{cs:Array Value}(h:Safe w M g t cs)(i:Nat)(u:Value):Safe (w.setCell ⟨g,i,none⟩ u) M g t (cs.setIfInBounds i u):=⟨h.1.put i u,h.2⟩
theorem Safe.ext {w w':World}{M:Nat→Prop}{g:Nat}{t:TypeId}{cs:Array Value}(h:Safe w M g t cs)(hx:Ext w w'):Safe w' M g t cs:=⟨h.1.ext hx,h.2⟩
theorem xK.XA {w w1:World}{M M1:Nat→Prop}(k:xK w M w1 M1){g i:Nat}{u:Value}(hg:w.heap.size≤g):xK w M (w1.setCell ⟨g,i,none⟩ u) M1:=
 ⟨k.os,k.tape,k.output,by have:=k.size; simp[World.setCell]; omega,fun b hb hM=>(zQ w1 ⟨g,i,none⟩ u b (fun e=>by subst e; exact absurd hb (Nat.not_lt.2 hg))).trans (k.JX b hb hM),k.zD9⟩
theorem xK.zNs {w w1 w2:World}{M M1 M2 X:Nat→Prop}(h0:xK w M w1 M1)(h:xK w1 (Or M1 X) w2 (Or M2 X))(hX:∀b,X b→w.heap.size≤b):xK w M w2 M2:=
 ⟨h.os.trans h0.os,h.tape.trans h0.tape,h.output.trans h0.output,Nat.le_trans h0.size h.size,fun b hb hm=>(h.JX b (yR hb h0.size) fun k=>by
   rcases k with k | k
   ·rcases h0.zD9 b k with k | k
    ·exact hm k
    ·omega
   ·have:=hX b k; omega).trans (h0.JX b hb hm),fun b hb=>by
  rcases h.zD9 b (.inl hb) with (h1 | h1) | h1
  ·exact h0.zD9 b h1
  ·exact .inr (hX b h1)
  ·exact .inr (Nat.le_trans h0.size h1)⟩
theorem zOO {f:Nat}{s:Ps}(h:s.hd.kind=1):vE (f+1) s=.ok (.leaf 22 s.hd.at_ s.hd.text 0) s.adv:=by unfold vE; rw[if_pos h]
theorem zPu {f:Nat}{s:Ps}(h:s.hd.kind=2):vE (f+1) s=.ok (.leaf 21 s.hd.at_ [] s.hd.n) s.adv:=by unfold vE; rw[if_neg (by omega),if_pos h]
theorem zId {f:Nat}{s:Ps}(h1:s.hd.kind≠1)(h2:s.hd.kind≠2)(h3:isP [45] s=true):vE (f+1) s=(vX [45] [] (vE f) s).bind fun a t=>.ok (.neg s.hd.at_ a) t:=by
 rw[vE,if_neg h1,if_neg h2,if_pos h3]
theorem zIb {f:Nat}{s:Ps}(h1:s.hd.kind≠1)(h2:s.hd.kind≠2)(h3:isP [45] s=false):vE (f+1) s=vX [40] [41] (sumOf (vE f)) s:=by
 rw[vE,if_neg h1,if_neg h2,h3]
 rfl
theorem zSC (f:Nat)(w:World)(p B:Nat)(s:Ps)(R:xW)(h:PS w p B s R)(hG:Good s)(hl:s.ts.length≤f+1)(hk:s.hd.kind=1) :
  Calls Tryz.prog 213 #[.pointer (some ⟨p,0,none⟩)] w (VI w p B R (vE (f+1) s)):=by
 have HP:=yD h;have HG:=yD hG;have HL:=yD hl;have HK:=yD hk;clear hk;have hm:=hmf;have An:=VA;have Am:=zB8;obtain⟨W0,AF⟩:∃W0,Hid ((w.alloc (.cells #[.pointer (some ⟨p,0,none⟩)] 73)).alloc (.cells XQ 232)=W0):=⟨_,yD rfl⟩;have AP:Hid (Ext w W0):=yD (by rw[←AF.out]; exact(Ext.alloc _ _).trans (Ext.alloc _ _));have AI:Hid (Safe W0 (xJ p R) w.heap.size 73 #[.pointer (some ⟨p,0,none⟩)]):=yD (by rw[←AF.out]; exact(h.fresh 73 _).ext (Ext.alloc _ _))
 have AO:Hid (Safe W0 (xJ p R) (w.heap.size+1) 232 XQ):=yD (by
  have:=(h.ext (Ext.alloc w (.cells #[.pointer (some ⟨p,0,none⟩)] 73))).fresh 232 XQ
  rw[yQ] at this;rw[←AF.out]
  exact this)
 have AG:Hid (B≤w.heap.size):=yD (Nat.le_trans h.pB (zS h.blk.lt));have AS:Hid ((w.alloc (.cells #[.pointer (some ⟨p,0,none⟩)] 73)).alloc (.cells #[.int .u8 0,.int .i64 0,.string ⟨#[]⟩,.int .i64 0,.slice none 0 0,.slice none 0 0] 232)=W0):=yD AF.out;obtain⟨gb,AR⟩:∃gb,Hid (w.heap.size=gb):=⟨_,yD rfl⟩;obtain⟨g,AQ⟩:∃g,Hid (w.heap.size+1=g):=⟨_,yD rfl⟩;rw[AQ.out] at AO;rw[AR.out] at AI;have AA:Hid (gb≠g∧w.heap.size≤g):=yD (by have:=AR.out; have:=AQ.out; omega);clear h hG hl
 go_enter Tryz.func213,Tryz.ntmps213
 go_upto_region 1 with fail
 rw[AS.out,AQ.out,AR.out];have AV:=AI.out.1.cell 0;simp only[yI,yJ] at AV
 go_wp2_with fail
 refine(jS W0 p s R (HP.out.ext AP.out).ts).mono ?_;rintro e w1 ⟨rfl,AK⟩;have AJ:=yD (AP.out.trans AK);have AU:=yD (HP.out.ext AJ.out);have AN:=yD (AI.out.ext AK);have AD:=yD (AO.out.ext AK);clear AK AV;unfold ZM;have c1:=AD.out.1.cell 1;have z1:=AD.out.1.frozen 1;simp only[XQ,yI,yJ,List.getElem?_cons_succ] at c1;have Ah:=AD.out.1.lt;have Ag:=AN.out.1.lt;have Aa:=AA.out.1
 go_upto_region 4 with fail
 obtain⟨W2,AL⟩:∃W2,Hid ((w1.setCell ⟨g,1,none⟩ (.int .i64 (s.hd.at_:Int))).alloc (.cells #[.int .u8 (s.hd.kind:Int),.int .i64 (s.hd.at_:Int),.int .i64 (s.hd.en:Int),.string (yX s.hd.text),.int .i64 s.hd.n] 29)=W2):=⟨_,yD rfl⟩;have AE:Hid (Ext (w1.setCell ⟨g,1,none⟩ (.int .i64 (s.hd.at_:Int))) W2):=yD (by rw[←AL.out]; exact Ext.alloc _ _);have Ak:Hid (PS W2 p B s R):=yD ((AU.out.zCz (Nat.le_trans AG.out AA.out.2) AD.out.2).ext AE.out);have AW:Hid (xK w (xJ p R) W2 (xJ p R)):=yD (((xK.ext AJ.out).XA AA.out.2).trans (xK.ext AE.out));have AY:Hid (Safe W2 (xJ p R) gb 73 #[.pointer (some ⟨p,0,none⟩)]):=yD ((AN.out.set Aa).ext AE.out);have AZ:Hid (Safe W2 (xJ p R) g 232 #[.int .u8 0,.int .i64 (s.hd.at_:Int),.string ⟨#[]⟩,.int .i64 0,.slice none 0 0,.slice none 0 0]):=yD ((AD.out.put 1 (.int .i64 (s.hd.at_:Int))).ext AE.out)
 have Ad:Hid (Blk W2 w1.heap.size 29 #[.int .u8 (s.hd.kind:Int),.int .i64 (s.hd.at_:Int),.int .i64 (s.hd.en:Int),.string (yX s.hd.text),.int .i64 s.hd.n]):=yD (by
  have:=Blk.new (w1.setCell ⟨g,1,none⟩ (.int .i64 (s.hd.at_:Int))) 29 #[.int .u8 (s.hd.kind:Int),.int .i64 (s.hd.at_:Int),.int .i64 (s.hd.en:Int),.string (yX s.hd.text),.int .i64 s.hd.n]
  rw[AL.out,show(w1.setCell ⟨g,1,none⟩ (.int .i64 (s.hd.at_:Int))).heap.size=w1.heap.size by simp[World.setCell]] at this
  exact this)
 rw[AL.out];have Al:Hid (w.heap.size≤w1.heap.size):=yD AJ.out.size;generalize w1.heap.size=gt at *;clear AL AE AU AN AD AJ AO AI AP AF AS c1 z1 Ah Ag;have t0:=Ad.out.cell 0;have cb:=AY.out.1.cell 0;simp only[yI,yJ,List.getElem?_cons_succ] at t0 cb;rw[HK.out] at t0
 go_wp2_with fail
 refine(zGH W2 p B s R 1 HK (by decide) Ak.out).mono ?_;rintro e w3 ⟨rfl,ho⟩;unfold ZM;have AX:=yD ho.1;have Ac:=yD (AW.out.trans ho.2);have AC:=yD (AZ.out.xO ho.2);have c0:=AC.out.1.cell 0;have c2:=AC.out.1.cell 2;have z0:=AC.out.1.frozen 0;have z2:=AC.out.1.frozen 2;simp only[yI,yJ,List.getElem?_cons_succ] at c0 c2;clear ho t0 cb
 go_upto_region 11 with fail
 have Ab:=yD ((AX.out.zCz (i:=0) (u:=.int .u8 22) (Nat.le_trans AG.out AA.out.2) AC.out.2).zCz (i:=2) (u:=.string (yX s.hd.text)) (Nat.le_trans AG.out AA.out.2) AC.out.2);have Ae:=yD ((Ac.out.XA (i:=0) (u:=.int .u8 22) AA.out.2).XA (i:=2) (u:=.string (yX s.hd.text)) AA.out.2);have AB:Hid (Safe _ _ g 232 (jP ⟨22,s.hd.at_,s.hd.text,0,[]⟩ none 0 0).toArray):=yD ((AC.out.put 0 (.int .u8 22)).put 2 (.string (yX s.hd.text)));clear c0 c2 z0 z2;generalize (w3.setCell ⟨g,0,none⟩ (.int .u8 22)).setCell ⟨g,2,none⟩ (.string (yX s.hd.text))=W4 at *;have Ai:Hid (EX W4 (Or (xJ p R.adv) (fun b=>under w b∨b=g)) (.leaf 22 s.hd.at_ s.hd.text 0) (jP ⟨22,s.hd.at_,s.hd.text,0,[]⟩ none 0 0)):=yD rfl;have AM:=yD (zOO (f:=f) HK.out);have c0:=AB.out.1.cell 0;have c1:=AB.out.1.cell 1;have c2:=AB.out.1.cell 2;have c3:=AB.out.1.cell 3;have c4:=AB.out.1.cell 4;have c5:=AB.out.1.cell 5;simp only[jP,yI,yJ,List.getElem?_cons_succ] at c0 c1 c2 c3 c4 c5
 go_wp2_with (refine vF rfl 232 (.tmp 2) (.tmp 43) rfl g #[.int .u8 22,.int .i64 (s.hd.at_:Int),.string (yX s.hd.text),.int .i64 0,.slice none 0 0,.slice none 0 0] (by rfl) (by rfl) 232 _ AB.out.1 (by kernel_rfl) rfl rfl ?_; intro w6 AH AT)
 have Aj:Hid (VI w p B R (vE (f+1) s) (.returned (.agg #[.int .u8 22,.int .i64 (s.hd.at_:Int),.string (yX s.hd.text),.int .i64 0,.slice none 0 0,.slice none 0 0])) w6):=yD (by
  rw[AM.out]
  exact⟨_,R.adv,rfl,AH.ps Ab.out (Nat.le_trans AG.out AA.out.2) AB.out.2,Ae.out.ZN AH AA.out.2,(Ai.out.xO (AH.xO (.inr (.inr rfl)))).weaken fun b hb k=>by
   rcases k with k | k
   ·exact .inl k
   ·exact .inr (.inl k)⟩)
 have Af:=yD AT;clear AH AT
 go_wp2_with fail
 exact zBh g 232 _ _ Tryz.results213 rfl rfl Af.out Tryz.underlying232 rfl (by kernel_rfl) Aj.out
theorem zSl (f:Nat)(w:World)(p B:Nat)(s:Ps)(R:xW)(h:PS w p B s R)(hG:Good s)(hl:s.ts.length≤f+1)(hk:s.hd.kind=2) :
  Calls Tryz.prog 213 #[.pointer (some ⟨p,0,none⟩)] w (VI w p B R (vE (f+1) s)):=by
 have HP:=yD h;have HG:=yD hG;have HL:=yD hl;have HK:=yD hk;clear hk;have hm:=hmf;have An:=VA;have Am:=zB8;obtain⟨W0,AF⟩:∃W0,Hid ((w.alloc (.cells #[.pointer (some ⟨p,0,none⟩)] 73)).alloc (.cells XQ 232)=W0):=⟨_,yD rfl⟩;have AP:Hid (Ext w W0):=yD (by rw[←AF.out]; exact(Ext.alloc _ _).trans (Ext.alloc _ _));have AI:Hid (Safe W0 (xJ p R) w.heap.size 73 #[.pointer (some ⟨p,0,none⟩)]):=yD (by rw[←AF.out]; exact(h.fresh 73 _).ext (Ext.alloc _ _))
 have AO:Hid (Safe W0 (xJ p R) (w.heap.size+1) 232 XQ):=yD (by
  have:=(h.ext (Ext.alloc w (.cells #[.pointer (some ⟨p,0,none⟩)] 73))).fresh 232 XQ
  rw[yQ] at this;rw[←AF.out]
  exact this)
 have AG:Hid (B≤w.heap.size):=yD (Nat.le_trans h.pB (zS h.blk.lt));have AS:Hid ((w.alloc (.cells #[.pointer (some ⟨p,0,none⟩)] 73)).alloc (.cells #[.int .u8 0,.int .i64 0,.string ⟨#[]⟩,.int .i64 0,.slice none 0 0,.slice none 0 0] 232)=W0):=yD AF.out;obtain⟨gb,AR⟩:∃gb,Hid (w.heap.size=gb):=⟨_,yD rfl⟩;obtain⟨g,AQ⟩:∃g,Hid (w.heap.size+1=g):=⟨_,yD rfl⟩;rw[AQ.out] at AO;rw[AR.out] at AI;have AA:Hid (gb≠g∧w.heap.size≤g):=yD (by have:=AR.out; have:=AQ.out; omega);clear h hG hl
 go_enter Tryz.func213,Tryz.ntmps213
 go_upto_region 1 with fail
 rw[AS.out,AQ.out,AR.out];have AV:=AI.out.1.cell 0;simp only[yI,yJ] at AV
 go_wp2_with fail
 refine(jS W0 p s R (HP.out.ext AP.out).ts).mono ?_;rintro e w1 ⟨rfl,AK⟩;have AJ:=yD (AP.out.trans AK);have AU:=yD (HP.out.ext AJ.out);have AN:=yD (AI.out.ext AK);have AD:=yD (AO.out.ext AK);clear AK AV;unfold ZM;have c1:=AD.out.1.cell 1;have z1:=AD.out.1.frozen 1;simp only[XQ,yI,yJ,List.getElem?_cons_succ] at c1;have Ah:=AD.out.1.lt;have Ag:=AN.out.1.lt;have Aa:=AA.out.1
 go_upto_region 4 with fail
 obtain⟨W2,AL⟩:∃W2,Hid ((w1.setCell ⟨g,1,none⟩ (.int .i64 (s.hd.at_:Int))).alloc (.cells #[.int .u8 (s.hd.kind:Int),.int .i64 (s.hd.at_:Int),.int .i64 (s.hd.en:Int),.string (yX s.hd.text),.int .i64 s.hd.n] 29)=W2):=⟨_,yD rfl⟩;have AE:Hid (Ext (w1.setCell ⟨g,1,none⟩ (.int .i64 (s.hd.at_:Int))) W2):=yD (by rw[←AL.out]; exact Ext.alloc _ _);have Ak:Hid (PS W2 p B s R):=yD ((AU.out.zCz (Nat.le_trans AG.out AA.out.2) AD.out.2).ext AE.out);have AW:Hid (xK w (xJ p R) W2 (xJ p R)):=yD (((xK.ext AJ.out).XA AA.out.2).trans (xK.ext AE.out));have AY:Hid (Safe W2 (xJ p R) gb 73 #[.pointer (some ⟨p,0,none⟩)]):=yD ((AN.out.set Aa).ext AE.out);have AZ:Hid (Safe W2 (xJ p R) g 232 #[.int .u8 0,.int .i64 (s.hd.at_:Int),.string ⟨#[]⟩,.int .i64 0,.slice none 0 0,.slice none 0 0]):=yD ((AD.out.put 1 (.int .i64 (s.hd.at_:Int))).ext AE.out)
 have Ad:Hid (Blk W2 w1.heap.size 29 #[.int .u8 (s.hd.kind:Int),.int .i64 (s.hd.at_:Int),.int .i64 (s.hd.en:Int),.string (yX s.hd.text),.int .i64 s.hd.n]):=yD (by
  have:=Blk.new (w1.setCell ⟨g,1,none⟩ (.int .i64 (s.hd.at_:Int))) 29 #[.int .u8 (s.hd.kind:Int),.int .i64 (s.hd.at_:Int),.int .i64 (s.hd.en:Int),.string (yX s.hd.text),.int .i64 s.hd.n]
  rw[AL.out,show(w1.setCell ⟨g,1,none⟩ (.int .i64 (s.hd.at_:Int))).heap.size=w1.heap.size by simp[World.setCell]] at this
  exact this)
 rw[AL.out];have Al:Hid (w.heap.size≤w1.heap.size):=yD AJ.out.size;generalize w1.heap.size=gt at *;clear AL AE AU AN AD AJ AO AI AP AF AS c1 z1 Ah Ag;have t0:=Ad.out.cell 0;have cb:=AY.out.1.cell 0;simp only[yI,yJ,List.getElem?_cons_succ] at t0 cb;rw[HK.out] at t0
 go_wp2_with fail
 refine(zGH W2 p B s R 2 HK (by decide) Ak.out).mono ?_;rintro e w3 ⟨rfl,ho⟩;unfold ZM;have AX:=yD ho.1;have Ac:=yD (AW.out.trans ho.2);have AC:=yD (AZ.out.xO ho.2);have c0:=AC.out.1.cell 0;have c2:=AC.out.1.cell 3;have z0:=AC.out.1.frozen 0;have z2:=AC.out.1.frozen 3;simp only[yI,yJ,List.getElem?_cons_succ] at c0 c2;clear ho t0 cb
 go_upto_region 11 with fail
 have Ab:=yD ((AX.out.zCz (i:=0) (u:=.int .u8 21) (Nat.le_trans AG.out AA.out.2) AC.out.2).zCz (i:=3) (u:=.int .i64 s.hd.n) (Nat.le_trans AG.out AA.out.2) AC.out.2);have Ae:=yD ((Ac.out.XA (i:=0) (u:=.int .u8 21) AA.out.2).XA (i:=3) (u:=.int .i64 s.hd.n) AA.out.2);have AB:Hid (Safe _ _ g 232 (jP ⟨21,s.hd.at_,[],s.hd.n,[]⟩ none 0 0).toArray):=yD ((AC.out.put 0 (.int .u8 21)).put 3 (.int .i64 s.hd.n));clear c0 c2 z0 z2;generalize (w3.setCell ⟨g,0,none⟩ (.int .u8 21)).setCell ⟨g,3,none⟩ (.int .i64 s.hd.n)=W4 at *;have Ai:Hid (EX W4 (Or (xJ p R.adv) (fun b=>under w b∨b=g)) (.leaf 21 s.hd.at_ [] s.hd.n) (jP ⟨21,s.hd.at_,[],s.hd.n,[]⟩ none 0 0)):=yD rfl;have AM:=yD (zPu (f:=f) HK.out);have c0:=AB.out.1.cell 0;have c1:=AB.out.1.cell 1;have c2:=AB.out.1.cell 2;have c3:=AB.out.1.cell 3;have c4:=AB.out.1.cell 4;have c5:=AB.out.1.cell 5;simp only[jP,yI,yJ,List.getElem?_cons_succ] at c0 c1 c2 c3 c4 c5
 go_wp2_with (refine vF rfl 232 (.tmp 2) (.tmp 43) rfl g #[.int .u8 21,.int .i64 (s.hd.at_:Int),.string ⟨#[]⟩,.int .i64 s.hd.n,.slice none 0 0,.slice none 0 0] (by rfl) (by rfl) 232 _ AB.out.1 (by kernel_rfl) rfl rfl ?_; intro w6 AH AT)
 have Aj:Hid (VI w p B R (vE (f+1) s) (.returned (.agg #[.int .u8 21,.int .i64 (s.hd.at_:Int),.string ⟨#[]⟩,.int .i64 s.hd.n,.slice none 0 0,.slice none 0 0])) w6):=yD (by
  rw[AM.out]
  exact⟨_,R.adv,rfl,AH.ps Ab.out (Nat.le_trans AG.out AA.out.2) AB.out.2,Ae.out.ZN AH AA.out.2,(Ai.out.xO (AH.xO (.inr (.inr rfl)))).weaken fun b hb k=>by
   rcases k with k | k
   ·exact .inl k
   ·exact .inr (.inl k)⟩)
 have Af:=yD AT;clear AH AT
 go_wp2_with fail
 exact zBh g 232 _ _ Tryz.results213 rfl rfl Af.out Tryz.underlying232 rfl (by kernel_rfl) Aj.out
theorem zSu (f:Nat)(w:World)(p B:Nat)(s:Ps)(R:xW)(h:PS w p B s R)(hG:Good s)(hl:s.ts.length≤f+1)(h1:s.hd.kind≠1)(h2:s.hd.kind≠2)(h3:isP [45] s=true)(ih:zBp 213 f (vE f)) :
  Calls Tryz.prog 213 #[.pointer (some ⟨p,0,none⟩)] w (VI w p B R (vE (f+1) s)):=by
 have HP:=yD h;have HG:=yD hG;have HL:=yD hl;have Af:=yD h1;have Aj:=yD h2;have HI:=yD h3;have Aw:=yD ih
 have n1:((s.hd.kind:Int)==1)=false:=by rw[yF]; omega
 have n2:((s.hd.kind:Int)==2)=false:=by rw[yF]; omega
 have m1:¬(s.hd.kind:Int)=1:=by omega
 have m2:¬(s.hd.kind:Int)=2:=by omega
 clear h1 h2 h3 ih;have hm:=hmf;have BB:=VA;have BA:=zB8;obtain⟨W0,AF⟩:∃W0,Hid ((w.alloc (.cells #[.pointer (some ⟨p,0,none⟩)] 73)).alloc (.cells XQ 232)=W0):=⟨_,yD rfl⟩;have AP:Hid (Ext w W0):=yD (by rw[←AF.out]; exact(Ext.alloc _ _).trans (Ext.alloc _ _));have AJ:Hid (Safe W0 (xJ p R) w.heap.size 73 #[.pointer (some ⟨p,0,none⟩)]):=yD (by rw[←AF.out]; exact(h.fresh 73 _).ext (Ext.alloc _ _))
 have AV:Hid (Safe W0 (xJ p R) (w.heap.size+1) 232 XQ):=yD (by
  have:=(h.ext (Ext.alloc w (.cells #[.pointer (some ⟨p,0,none⟩)] 73))).fresh 232 XQ
  rw[yQ] at this;rw[←AF.out]
  exact this)
 have AI:Hid (B≤w.heap.size):=yD (Nat.le_trans h.pB (zS h.blk.lt));have AY:Hid ((w.alloc (.cells #[.pointer (some ⟨p,0,none⟩)] 73)).alloc (.cells #[.int .u8 0,.int .i64 0,.string ⟨#[]⟩,.int .i64 0,.slice none 0 0,.slice none 0 0] 232)=W0):=yD AF.out;obtain⟨gb,AX⟩:∃gb,Hid (w.heap.size=gb):=⟨_,yD rfl⟩;obtain⟨g,AW⟩:∃g,Hid (w.heap.size+1=g):=⟨_,yD rfl⟩;rw[AW.out] at AV;rw[AX.out] at AJ;have AA:Hid (gb≠g∧w.heap.size≤g):=yD (by have:=AX.out; have:=AW.out; omega);clear h hG hl
 go_enter Tryz.func213,Tryz.ntmps213
 go_upto_region 1 with fail
 rw[AY.out,AW.out,AX.out];have Ae:=AJ.out.1.cell 0;simp only[yI,yJ] at Ae
 go_wp2_with fail
 refine(jS W0 p s R (HP.out.ext AP.out).ts).mono ?_;rintro e w1 ⟨rfl,AN⟩;have AM:=yD (AP.out.trans AN);have Ak:=yD (HP.out.ext AM.out);have AU:=yD (AJ.out.ext AN);have AD:=yD (AV.out.ext AN);clear AN Ae;unfold ZM;have c1:=AD.out.1.cell 1;have z1:=AD.out.1.frozen 1;simp only[XQ,yI,yJ,List.getElem?_cons_succ] at c1;have A7:=AD.out.1.lt;have Av:=AU.out.1.lt;have Ab:=AA.out.1
 go_upto_region 4 with fail
 obtain⟨W2,AO⟩:∃W2,Hid ((w1.setCell ⟨g,1,none⟩ (.int .i64 (s.hd.at_:Int))).alloc (.cells #[.int .u8 (s.hd.kind:Int),.int .i64 (s.hd.at_:Int),.int .i64 (s.hd.en:Int),.string (yX s.hd.text),.int .i64 s.hd.n] 29)=W2):=⟨_,yD rfl⟩;have AG:Hid (Ext (w1.setCell ⟨g,1,none⟩ (.int .i64 (s.hd.at_:Int))) W2):=yD (by rw[←AO.out]; exact Ext.alloc _ _);have Ao:Hid (PS W2 p B s R):=yD ((Ak.out.zCz (Nat.le_trans AI.out AA.out.2) AD.out.2).ext AG.out);have A0:Hid (xK w (xJ p R) W2 (xJ p R)):=yD (((xK.ext AM.out).XA AA.out.2).trans (xK.ext AG.out));have Ai:Hid (Safe W2 (xJ p R) gb 73 #[.pointer (some ⟨p,0,none⟩)]):=yD ((AU.out.set Ab).ext AG.out);have A3:Hid (Safe W2 (xJ p R) g 232 #[.int .u8 0,.int .i64 (s.hd.at_:Int),.string ⟨#[]⟩,.int .i64 0,.slice none 0 0,.slice none 0 0]):=yD ((AD.out.put 1 (.int .i64 (s.hd.at_:Int))).ext AG.out)
 have Aq:Hid (Blk W2 w1.heap.size 29 #[.int .u8 (s.hd.kind:Int),.int .i64 (s.hd.at_:Int),.int .i64 (s.hd.en:Int),.string (yX s.hd.text),.int .i64 s.hd.n]):=yD (by
  have:=Blk.new (w1.setCell ⟨g,1,none⟩ (.int .i64 (s.hd.at_:Int))) 29 #[.int .u8 (s.hd.kind:Int),.int .i64 (s.hd.at_:Int),.int .i64 (s.hd.en:Int),.string (yX s.hd.text),.int .i64 s.hd.n]
  rw[AO.out,show(w1.setCell ⟨g,1,none⟩ (.int .i64 (s.hd.at_:Int))).heap.size=w1.heap.size by simp[World.setCell]] at this
  exact this)
 rw[AO.out];have A8:Hid (w.heap.size≤w1.heap.size):=yD AM.out.size;generalize w1.heap.size=gt at *;clear AO AG Ak AU AD AM AV AJ AP AF AY c1 z1 A7 Av;have t0:=Aq.out.cell 0;have cb:=Ai.out.1.cell 0;simp only[yI,yJ,List.getElem?_cons_succ] at t0 cb
 go_upto_region 8 with fail
 go_wp2_with fail
 refine(YT W2 p B s R [45] true HI Ao.out).mono ?_;rintro e w3 ⟨rfl,AH⟩;have A2:=yD (Ao.out.ext AH);have A5:=yD (A0.out.trans (xK.ext AH));have Al:=yD (Ai.out.ext AH);have AK:=yD (A3.out.ext AH);have c0:=AK.out.1.cell 0;have z0:=AK.out.1.frozen 0;simp only[yI,yJ,List.getElem?_cons_succ] at c0;have Ac:=Al.out.1.cell 0;simp only[yI,yJ] at Ac;clear AH t0 cb
 go_upto_region 10 with fail
 have Ar:=yD (A2.out.zCz (i:=0) (u:=.int .u8 26) (Nat.le_trans AI.out AA.out.2) AK.out.2);have AR:=yD (A5.out.XA (i:=0) (u:=.int .u8 26) AA.out.2);have Au:Hid (Safe _ _ g 232 (jP ⟨26,s.hd.at_,[],0,[]⟩ none 0 0).toArray):=yD (AK.out.put 0 (.int .u8 26));have Ag:=yD (Al.out.set (g:=g) (i:=0) (u:=.int .u8 26) Ab);clear c0 z0 Ac;generalize w3.setCell ⟨g,0,none⟩ (.int .u8 26)=W5 at *;have An:=Ag.out.1.cell 0;simp only[yI,yJ] at An
 go_wp2_with fail
 have At:Hid (w.heap.size≤W5.heap.size):=yD AR.out.size;refine(zBG (fun b=>b=g) W5 p B s R [45] [] 214 #[] #[.pointer (some ⟨gb,0,none⟩),.pointer (some ⟨g,0,none⟩)] (vE f) (EAt w g p s.hd.at_ true) Ar.out (enters_of Tryz.func214 (by kernel_rfl) rfl) (fun x R1 w1 R2 w2 h k=>h.xO k) ?_ ?_).mono ?_
 ·intro hi hd x s' hr;have AS:Good { s.adv with deep:=s.deep+1 }:=⟨(HG.out.base.adv (vD hi).1).last,by show s.deep+1≤64; have:=HG.out.deep; omega,HG.out.few⟩
  have AQ:({ s.adv with deep:=s.deep+1 }:Ps).ts.length≤f:=by show s.adv.ts.length≤f; rw[jN]; have:=HL.out; omega
  have Ad:=XS f _ AS AQ;rw[hr] at Ad;exact Ad.2.2.2
 ·intro hi hd wr R' hm hp;have AS:Good { s.adv with deep:=s.deep+1 }:=⟨(HG.out.base.adv (vD hi).1).last,by show s.deep+1≤64; have:=HG.out.deep; omega,HG.out.few⟩
  have AQ:({ s.adv with deep:=s.deep+1 }:Ps).ts.length≤f:=by show s.adv.ts.length≤f; rw[jN]; have:=HL.out; omega
  exact zOV w wr p B gb g f s.hd.at_ _ R' (vE f) Aw.out hp AS AQ (Ag.out.xO hm) (Au.out.xO hm) (Nat.le_trans AI.out AA.out.2) (Nat.le_trans At.out hm.size)
 ·intro e w6 AE
  rcases AE.unit with ⟨x,s6,R6,hr,rfl,ho,cs,AZ,Am⟩ | ⟨er,at_,hr,rfl,s6,R6,Ay,ho⟩
  rotate_left
  ·have HF:Hid (VI w p B R (vE (f+1) s) (jL er) w6):=yD (by rw[zId Af.out Aj.out HI.out,hr]; exact⟨rfl,s6,Ay,R6,ho.1,xK.zNs AR.out ho.2 (fun b hb=>by rw[hb]; exact AA.out.2)⟩);exact xA (P:=Tryz.prog) (fn:=Tryz.f213) rfl HF.out
  have AT:Hid (vE (f+1) s=.ok (Ex.neg s.hd.at_ x) s6):=yD (by rw[zId Af.out Aj.out HI.out,hr]; rfl);have A4:=yD ho.1;have As:=yD (xK.zNs AR.out ho.2 (fun b hb=>by rw[hb]; exact AA.out.2));have AC:EX w6 (Or (xJ p R6) (fun b=>under w b∨b=g)) (Ex.neg s.hd.at_ x) cs:=Am;obtain⟨A1,Aa,f1,Ap,_⟩:=AC.open;subst Ap;have AB:=yD AZ;have Ax:=yD AC;clear hr ho AZ Am AC An;generalize (Ex.neg s.hd.at_ x)=xx at *;generalize xx.parts.length=xm at *;generalize HY:xx.node=y at *;obtain⟨yk,yp,yt,yn,A9⟩:=y;have c0:=AB.out.1.cell 0;have c1:=AB.out.1.cell 1;have c2:=AB.out.1.cell 2;have c3:=AB.out.1.cell 3;have c4:=AB.out.1.cell 4;have c5:=AB.out.1.cell 5;simp only[jP,yI,yJ,List.getElem?_cons_succ] at c0 c1 c2 c3 c4 c5
  go_wp2_with (refine vF rfl 232 (.tmp 2) (.tmp 43) rfl g #[.int .u8 (yk:Int),.int .i64 (yp:Int),.string (yX yt),.int .i64 yn,.slice none 0 0,.slice A1 xm Aa] (by rfl) (by rfl) 232 _ AB.out.1 (by kernel_rfl) rfl rfl ?_; intro w6 AL Ah)
  have Az:Hid (VI w p B R (vE (f+1) s) (.returned (.agg #[.int .u8 (yk:Int),.int .i64 (yp:Int),.string (yX yt),.int .i64 yn,.slice none 0 0,.slice A1 xm Aa])) w6):=yD (by
   rw[AT.out]
   exact⟨_,R6,rfl,AL.ps A4.out (Nat.le_trans AI.out AA.out.2) AB.out.2,As.out.ZN AL AA.out.2,(Ax.out.xO (AL.xO (.inr (.inr rfl)))).weaken fun b hb k=>by
    rcases k with k | k
    ·exact .inl k
    ·exact .inr (.inl k)⟩)
  have A6:=yD Ah;clear AL Ah
  go_wp2_with fail
  exact zBh g 232 _ _ Tryz.results213 rfl rfl A6.out Tryz.underlying232 rfl (by kernel_rfl) Az.out
theorem zSO (f:Nat)(w:World)(p B:Nat)(s:Ps)(R:xW)(h:PS w p B s R)(hG:Good s)(hl:s.ts.length≤f+1)(h1:s.hd.kind≠1)(h2:s.hd.kind≠2)(h3:isP [45] s=false)(ih:zBp 213 f (vE f)) :
  Calls Tryz.prog 213 #[.pointer (some ⟨p,0,none⟩)] w (VI w p B R (vE (f+1) s)):=by
 have HP:=yD h;have HG:=yD hG;have HL:=yD hl;have Ae:=yD h1;have Ai:=yD h2;have HI:=yD h3;have Aw:=yD ih
 have n1:((s.hd.kind:Int)==1)=false:=by rw[yF]; omega
 have n2:((s.hd.kind:Int)==2)=false:=by rw[yF]; omega
 have m1:¬(s.hd.kind:Int)=1:=by omega
 have m2:¬(s.hd.kind:Int)=2:=by omega
 clear h1 h2 h3 ih;have hm:=hmf;have BB:=VA;have BA:=zB8;obtain⟨W0,AF⟩:∃W0,Hid ((w.alloc (.cells #[.pointer (some ⟨p,0,none⟩)] 73)).alloc (.cells XQ 232)=W0):=⟨_,yD rfl⟩;have AO:Hid (Ext w W0):=yD (by rw[←AF.out]; exact(Ext.alloc _ _).trans (Ext.alloc _ _));have AI:Hid (Safe W0 (xJ p R) w.heap.size 73 #[.pointer (some ⟨p,0,none⟩)]):=yD (by rw[←AF.out]; exact(h.fresh 73 _).ext (Ext.alloc _ _))
 have AV:Hid (Safe W0 (xJ p R) (w.heap.size+1) 232 XQ):=yD (by
  have:=(h.ext (Ext.alloc w (.cells #[.pointer (some ⟨p,0,none⟩)] 73))).fresh 232 XQ
  rw[yQ] at this;rw[←AF.out]
  exact this)
 have AN:Hid (B≤w.heap.size):=yD (Nat.le_trans h.pB (zS h.blk.lt));have AY:Hid ((w.alloc (.cells #[.pointer (some ⟨p,0,none⟩)] 73)).alloc (.cells #[.int .u8 0,.int .i64 0,.string ⟨#[]⟩,.int .i64 0,.slice none 0 0,.slice none 0 0] 232)=W0):=yD AF.out;obtain⟨gb,AX⟩:∃gb,Hid (w.heap.size=gb):=⟨_,yD rfl⟩;obtain⟨g,AW⟩:∃g,Hid (w.heap.size+1=g):=⟨_,yD rfl⟩;rw[AW.out] at AV;rw[AX.out] at AI;have AB:Hid (gb≠g∧w.heap.size≤g):=yD (by have:=AX.out; have:=AW.out; omega);clear h hG hl
 go_enter Tryz.func213,Tryz.ntmps213
 go_upto_region 1 with fail
 rw[AY.out,AW.out,AX.out];have Ad:=AI.out.1.cell 0;simp only[yI,yJ] at Ad
 go_wp2_with fail
 refine(jS W0 p s R (HP.out.ext AO.out).ts).mono ?_;rintro e w1 ⟨rfl,AL⟩;have AK:=yD (AO.out.trans AL);have Aj:=yD (HP.out.ext AK.out);have AU:=yD (AI.out.ext AL);have AD:=yD (AV.out.ext AL);clear AL Ad;unfold ZM;have c1:=AD.out.1.cell 1;have z1:=AD.out.1.frozen 1;simp only[XQ,yI,yJ,List.getElem?_cons_succ] at c1;have A7:=AD.out.1.lt;have Av:=AU.out.1.lt;have Ap:=AB.out.1
 go_upto_region 4 with fail
 obtain⟨W2,AM⟩:∃W2,Hid ((w1.setCell ⟨g,1,none⟩ (.int .i64 (s.hd.at_:Int))).alloc (.cells #[.int .u8 (s.hd.kind:Int),.int .i64 (s.hd.at_:Int),.int .i64 (s.hd.en:Int),.string (yX s.hd.text),.int .i64 s.hd.n] 29)=W2):=⟨_,yD rfl⟩;have AG:Hid (Ext (w1.setCell ⟨g,1,none⟩ (.int .i64 (s.hd.at_:Int))) W2):=yD (by rw[←AM.out]; exact Ext.alloc _ _);have An:Hid (PS W2 p B s R):=yD ((Aj.out.zCz (Nat.le_trans AN.out AB.out.2) AD.out.2).ext AG.out);have A0:Hid (xK w (xJ p R) W2 (xJ p R)):=yD (((xK.ext AK.out).XA AB.out.2).trans (xK.ext AG.out));have Ah:Hid (Safe W2 (xJ p R) gb 73 #[.pointer (some ⟨p,0,none⟩)]):=yD ((AU.out.set Ap).ext AG.out);have A3:Hid (Safe W2 (xJ p R) g 232 #[.int .u8 0,.int .i64 (s.hd.at_:Int),.string ⟨#[]⟩,.int .i64 0,.slice none 0 0,.slice none 0 0]):=yD ((AD.out.put 1 (.int .i64 (s.hd.at_:Int))).ext AG.out)
 have Aq:Hid (Blk W2 w1.heap.size 29 #[.int .u8 (s.hd.kind:Int),.int .i64 (s.hd.at_:Int),.int .i64 (s.hd.en:Int),.string (yX s.hd.text),.int .i64 s.hd.n]):=yD (by
  have:=Blk.new (w1.setCell ⟨g,1,none⟩ (.int .i64 (s.hd.at_:Int))) 29 #[.int .u8 (s.hd.kind:Int),.int .i64 (s.hd.at_:Int),.int .i64 (s.hd.en:Int),.string (yX s.hd.text),.int .i64 s.hd.n]
  rw[AM.out,show(w1.setCell ⟨g,1,none⟩ (.int .i64 (s.hd.at_:Int))).heap.size=w1.heap.size by simp[World.setCell]] at this
  exact this)
 rw[AM.out];have A8:Hid (w.heap.size≤w1.heap.size):=yD AK.out.size;generalize w1.heap.size=gt at *;clear AM AG Aj AU AD AK AV AI AO AF AY c1 z1 A7 Av;have t0:=Aq.out.cell 0;have cb:=Ah.out.1.cell 0;simp only[yI,yJ,List.getElem?_cons_succ] at t0 cb
 go_upto_region 8 with fail
 go_wp2_with fail
 refine(YT W2 p B s R [45] false HI An.out).mono ?_;rintro e w3 ⟨rfl,AH⟩;have A2:=yD (An.out.ext AH);have A5:=yD (A0.out.trans (xK.ext AH));have Ak:=yD (Ah.out.ext AH);have AQ:=yD (A3.out.ext AH);have c0:=AQ.out.1.cell 0;have z0:=AQ.out.1.frozen 0;simp only[yI,yJ,List.getElem?_cons_succ] at c0;have Ab:=Ak.out.1.cell 0;simp only[yI,yJ] at Ab;clear AH t0 cb
 go_upto_region 3 with fail
 have Ar:=A2;have AR:=A5;have Au:Hid (Safe w3 (xJ p R) g 232 [.int .u8 0,.int .i64 (s.hd.at_:Int),.string ⟨#[]⟩,.int .i64 0,.slice none 0 0,.slice none 0 0].toArray):=AQ;have Af:=Ak;clear c0 z0 Ab;generalize w3=W5 at *;have Am:=Af.out.1.cell 0;simp only[yI,yJ] at Am
 go_wp2_with fail
 have At:Hid (w.heap.size≤W5.heap.size):=yD AR.out.size;refine(zBG (fun b=>b=g) W5 p B s R [40] [41] 215 #[] #[.pointer (some ⟨gb,0,none⟩),.pointer (some ⟨g,0,none⟩)] (sumOf (vE f)) (EAt w g p s.hd.at_ false) Ar.out (enters_of Tryz.func215 (by kernel_rfl) rfl) (fun x R1 w1 R2 w2 h k=>h.xO k) ?_ ?_).mono ?_
 ·intro hi hd x s' hr;have AS:Good { s.adv with deep:=s.deep+1 }:=⟨(HG.out.base.adv (vD hi).1).last,by show s.deep+1≤64; have:=HG.out.deep; omega,HG.out.few⟩
  have AP:({ s.adv with deep:=s.deep+1 }:Ps).ts.length≤f:=by show s.adv.ts.length≤f; rw[jN]; have:=HL.out; omega
  have Ac:=(zEK f (fun t gt ht=>XS f t gt ht)) _ AS AP;rw[hr] at Ac;exact Ac.2.2.2
 ·intro hi hd wr R' hm hp;have AS:Good { s.adv with deep:=s.deep+1 }:=⟨(HG.out.base.adv (vD hi).1).last,by show s.deep+1≤64; have:=HG.out.deep; omega,HG.out.few⟩
  have AP:({ s.adv with deep:=s.deep+1 }:Ps).ts.length≤f:=by show s.adv.ts.length≤f; rw[jN]; have:=HL.out; omega
  exact zNX w wr p B gb g f s.hd.at_ _ R' (sumOf (vE f)) (zLa f _ Aw.out (fun t gt ht=>XS f t gt ht)) hp AS AP (Af.out.xO hm) _ rfl (Au.out.xO hm) (Nat.le_trans AN.out AB.out.2) (Nat.le_trans At.out hm.size)
 ·intro e w6 AE
  rcases AE.unit with ⟨x,s6,R6,hr,rfl,ho,cs,AZ,Al⟩ | ⟨er,at_,hr,rfl,s6,R6,Ay,ho⟩
  rotate_left
  ·have HF:Hid (VI w p B R (vE (f+1) s) (jL er) w6):=yD (by rw[zIb Ae.out Ai.out HI.out,hr]; exact⟨rfl,s6,Ay,R6,ho.1,xK.zNs AR.out ho.2 (fun b hb=>by rw[hb]; exact AB.out.2)⟩);exact xA (P:=Tryz.prog) (fn:=Tryz.f213) rfl HF.out
  have AT:Hid (vE (f+1) s=.ok x s6):=yD (by rw[zIb Ae.out Ai.out HI.out,hr]);have A4:=yD ho.1;have As:=yD (xK.zNs AR.out ho.2 (fun b hb=>by rw[hb]; exact AB.out.2));have AC:EX w6 (Or (xJ p R6) (fun b=>under w b∨b=g)) x cs:=Al;obtain⟨A1,Aa,f1,Ao,_⟩:=AC.open;subst Ao;have AA:=yD AZ;have Ax:=yD AC;clear hr ho AZ Al AC Am;generalize x=xx at *;generalize xx.parts.length=xm at *;generalize HY:xx.node=y at *;obtain⟨yk,yp,yt,yn,A9⟩:=y;have c0:=AA.out.1.cell 0;have c1:=AA.out.1.cell 1;have c2:=AA.out.1.cell 2;have c3:=AA.out.1.cell 3;have c4:=AA.out.1.cell 4;have c5:=AA.out.1.cell 5;simp only[jP,yI,yJ,List.getElem?_cons_succ] at c0 c1 c2 c3 c4 c5
  go_wp2_with (refine vF rfl 232 (.tmp 2) (.tmp 43) rfl g #[.int .u8 (yk:Int),.int .i64 (yp:Int),.string (yX yt),.int .i64 yn,.slice none 0 0,.slice A1 xm Aa] (by rfl) (by rfl) 232 _ AA.out.1 (by kernel_rfl) rfl rfl ?_; intro w6 AJ Ag)
  have Az:Hid (VI w p B R (vE (f+1) s) (.returned (.agg #[.int .u8 (yk:Int),.int .i64 (yp:Int),.string (yX yt),.int .i64 yn,.slice none 0 0,.slice A1 xm Aa])) w6):=yD (by
   rw[AT.out]
   exact⟨_,R6,rfl,AJ.ps A4.out (Nat.le_trans AN.out AB.out.2) AA.out.2,As.out.ZN AJ AB.out.2,(Ax.out.xO (AJ.xO (.inr (.inr rfl)))).weaken fun b hb k=>by
    rcases k with k | k
    ·exact .inl k
    ·exact .inr (.inl k)⟩)
  have A6:=yD Ag;clear AJ Ag
  go_wp2_with fail
  exact zBh g 232 _ _ Tryz.results213 rfl rfl A6.out Tryz.underlying232 rfl (by kernel_rfl) Az.out
theorem zHh:∀f,zBp 213 f (vE f)
 | 0=>fun w p B s R h hG hl=>absurd hG.pos (by omega)
 | f+1=>fun w p B s R h hG hl=>by
  by_cases h1:s.hd.kind=1
  ·exact zSC f w p B s R h hG hl h1
  ·by_cases h2:s.hd.kind=2
   ·exact zSl f w p B s R h hG hl h2
   ·cases h3:isP [45] s with
    | true=>exact zSu f w p B s R h hG hl h1 h2 h3 (zHh f)
    | false=>exact zSO f w p B s R h hG hl h1 h2 h3 (zHh f)
theorem zPt (w:World)(p B:Nat)(s:Ps)(R:xW)(h:PS w p B s R)(hG:Good s):Calls Tryz.prog 207 #[.pointer (some ⟨p,0,none⟩)] w (VI w p B R (zN1 s)):=
 zLa s.ts.length (vE s.ts.length) (zHh _) (fun t gt ht=>XS _ t gt ht) w p B s R h hG (zU _)
theorem zAd (w:World)(p B:Nat)(s:Ps)(R:xW)(i:Nat)(h:PS w p B s R)(hG:Good s)(hi:i<s.nd.length)(hbig:s.phi≤1000000) :
  Calls Tryz.prog 200 #[.pointer (some ⟨p,0,none⟩),.int .i64 (i:Int)] w (xM w p B R (zAi i s)):=by
 have HC:=yD (zPt w p B s R h hG);have AN:=yD (zGT s hG);have HI:=yD hi;have AP:=yD hbig;clear h hG hi hbig
 go_enter Tryz.func200,Tryz.ntmps200
 go_wp2_with fail
 refine HC.out.mono ?_;intro e w1 AA;have AD:=AN.out
 cases hr:zN1 s with
 | err er a=>
  rw[hr] at AA;obtain⟨rfl,ho⟩:=AA;have HF:Hid (xM w p B R (zAi i s) (jL er) w1):=yD (by unfold zAi; rw[hr]; exact⟨rfl,ho⟩);exact xA (P:=Tryz.prog) (fn:=Tryz.f200) rfl HF.out
 | ok x s1=>
  rw[hr] at AA AD;obtain⟨cs,R1,rfl,AF,AG,AC⟩:=AA;obtain⟨AE,AK,AB,_⟩:=AD;have HR:Hid (zAi i s=.ok () (zBg i x s1)):=yD (by unfold zAi; rw[hr]; rfl);have AO:=yD AF;have AI:=yD AG;have AH:=yD AC;have AM:=yD AE;have AL:Hid (i<s1.nd.length):=yD (by rw[AB]; exact HI.out);have AJ:Hid (s1.nd.length+x.size≤1000000):=yD (by rw[AB]; have:=AP.out; unfold Ps.phi at this; omega);clear hr AF AG AC AE AK AB
  go_wp2_with fail
  refine(zKY x.size x (zU _) w1 p B s1 R1 i cs AO.out AM.out AL.out AJ.out (AH.out.weaken fun b _ k=>.inl k)).mono ?_;rintro e w2 ⟨rfl,ho⟩;have HO:=yD (OkP.trans AI.out ho);clear ho
  go_wp2_with fail
  go_end0;rw[HR.out];exact xM.ok HO.out
end Go.Proofs.YtioffpjajhalaaaGreatDoor
