/- The program's factor, and an expression as a kid. Condition: the nodes fit into memory. -/
import Derived.Test.YtioffpjajhalaaaGreatDoorKaa
import Derived.Test.YtioffpjajhalaaaGreatDoorKam
set_option linter.unusedVariables false
set_option linter.unusedSimpArgs false
set_option maxRecDepth 100000
set_option maxHeartbeats 16000000
namespace Go.Proofs.YtioffpjajhalaaaGreatDoor
open Go Go.RowKit
theorem PS.zEe {w:World}{p B:Nat}{s:Ps}{R:vC}(h:PS w p B s R){g i:Nat}{u:Value}(hB:B≤g)(hM:¬xO p R g):PS (w.setCell ⟨g,i,none⟩ u) p B s R:=
 h.VS fun b hb=>zQ w ⟨g,i,none⟩ _ b fun e=>by
  subst e
  rcases hb with hb | hb
  ·omega
  ·exact hM hb
theorem Safe.set {w:World}{M:Nat→Prop}{g g' i:Nat}{t:TypeId}{cs:Array Value}{u:Value}(h:Safe w M g' t cs)(hn:g'≠g):Safe (w.setCell ⟨g,i,none⟩ u) M g' t cs:=⟨(zQ w ⟨g,i,none⟩ _ g' hn).trans h.1,h.2⟩
theorem Safe.put {w:World}{M:Nat→Prop}{g:Nat}{t:TypeId}{cs:Array Value}(h:Safe w M g t cs)(i:Nat)(u:Value):Safe (w.setCell ⟨g,i,none⟩ u) M g t (cs.setIfInBounds i u):=⟨h.1.put i u,h.2⟩
theorem Safe.ext {w w':World}{M:Nat→Prop}{g:Nat}{t:TypeId}{cs:Array Value}(h:Safe w M g t cs)(hx:Ext w w'):Safe w' M g t cs:=⟨h.1.ext hx,h.2⟩
theorem yZ.JQ {w w1:World}{M M1:Nat→Prop}(k:yZ w M w1 M1){g i:Nat}{u:Value}(hg:w.heap.size≤g):yZ w M (w1.setCell ⟨g,i,none⟩ u) M1:=
 ⟨k.os,k.tape,k.output,by have:=k.size; simp[World.setCell]; omega,fun b hb hM=>(zQ w1 ⟨g,i,none⟩ u b (fun e=>by subst e; exact absurd hb (Nat.not_lt.2 hg))).trans (k.VS b hb hM),k.zFK⟩
theorem yZ.zPx {w w1 w2:World}{M M1 M2 X:Nat→Prop}(h0:yZ w M w1 M1)(h:yZ w1 (Or M1 X) w2 (Or M2 X))(hX:∀b,X b→w.heap.size≤b):yZ w M w2 M2:=
 ⟨h.os.trans h0.os,h.tape.trans h0.tape,h.output.trans h0.output,Nat.le_trans h0.size h.size,fun b hb hm=>(h.VS b (yS hb h0.size) fun k=>by
   rcases k with k | k
   ·rcases h0.zFK b k with k | k
    ·exact hm k
    ·omega
   ·have:=hX b k; omega).trans (h0.VS b hb hm),fun b hb=>by
  rcases h.zFK b (.inl hb) with (h1 | h1) | h1
  ·exact h0.zFK b h1
  ·exact .inr (hX b h1)
  ·exact .inr (Nat.le_trans h0.size h1)⟩
theorem zQO {f:Nat}{s:Ps}(h:s.hd.kind=1):vM (f+1) s=.ok (.leaf 22 s.hd.at_ s.hd.text 0) s.adv:=by unfold vM; rw[if_pos h]
theorem zRu {f:Nat}{s:Ps}(h:s.hd.kind=2):vM (f+1) s=.ok (.leaf 21 s.hd.at_ [] s.hd.n) s.adv:=by unfold vM; rw[if_neg (by omega),if_pos h]
theorem zKP {f:Nat}{s:Ps}(h1:s.hd.kind≠1)(h2:s.hd.kind≠2)(h3:isP [45] s=true):vM (f+1) s=(vR [45] [] (vM f) s).bind fun a t=>.ok (.neg s.hd.at_ a) t:=by
 rw[vM,if_neg h1,if_neg h2,if_pos h3]
theorem zKM {f:Nat}{s:Ps}(h1:s.hd.kind≠1)(h2:s.hd.kind≠2)(h3:isP [45] s=false):vM (f+1) s=vR [40] [41] (zEn (vM f)) s:=by
 rw[vM,if_neg h1,if_neg h2,h3]
 rfl
theorem zUA (f:Nat)(w:World)(p B:Nat)(s:Ps)(R:vC)(h:PS w p B s R)(hG:Good s)(hl:s.ts.length≤f+1)(hk:s.hd.kind=1) :
  Calls Tryz.prog 213 #[.pointer (some ⟨p,0,none⟩)] w (zAF w p B R (vM (f+1) s)):=by
 have HP:=yE h;have HG:=yE hG;have HL:=yE hl;have HK:=yE hk;clear hk;have hm:=hmf;have Al:=zAx;have Am:=zDM;obtain⟨W0,AF⟩:∃W0,Hid ((w.alloc (.cells #[.pointer (some ⟨p,0,none⟩)] 73)).alloc (.cells VK 232)=W0):=⟨_,yE rfl⟩;have AM:Hid (Ext w W0):=yE (by rw[←AF.out]; exact(Ext.alloc _ _).trans (Ext.alloc _ _));have AH:Hid (Safe W0 (xO p R) w.heap.size 73 #[.pointer (some ⟨p,0,none⟩)]):=yE (by rw[←AF.out]; exact(h.fresh 73 _).ext (Ext.alloc _ _))
 have AN:Hid (Safe W0 (xO p R) (w.heap.size+1) 232 VK):=yE (by
  have:=(h.ext (Ext.alloc w (.cells #[.pointer (some ⟨p,0,none⟩)] 73))).fresh 232 VK
  rw[yR] at this;rw[←AF.out]
  exact this)
 have AG:Hid (B≤w.heap.size):=yE (Nat.le_trans h.pB (zS h.blk.lt));have AS:Hid ((w.alloc (.cells #[.pointer (some ⟨p,0,none⟩)] 73)).alloc (.cells #[.int .u8 0,.int .i64 0,.string ⟨#[]⟩,.int .i64 0,.slice none 0 0,.slice none 0 0] 232)=W0):=yE AF.out;obtain⟨gb,AR⟩:∃gb,Hid (w.heap.size=gb):=⟨_,yE rfl⟩;obtain⟨g,AO⟩:∃g,Hid (w.heap.size+1=g):=⟨_,yE rfl⟩;rw[AO.out] at AN;rw[AR.out] at AH;have AA:Hid (gb≠g∧w.heap.size≤g):=yE (by have:=AR.out; have:=AO.out; omega);clear h hG hl
 go_enter Tryz.func213,Tryz.ntmps213
 go_upto_region 1 with fail
 rw[AS.out,AO.out,AR.out];have AU:=AH.out.1.cell 0;simp only[yJ,yK] at AU
 go_wp2_with fail
 refine(ZP W0 p s R (HP.out.ext AM.out).ts).mono ?_;rintro e w1 ⟨rfl,AI⟩;have AL:=yE (AM.out.trans AI);have AV:=yE (HP.out.ext AL.out);have AQ:=yE (AH.out.ext AI);have AD:=yE (AN.out.ext AI);clear AI AU;unfold xS;have c1:=AD.out.1.cell 1;have z1:=AD.out.1.frozen 1;simp only[VK,yJ,yK,List.getElem?_cons_succ] at c1;have AW:=AD.out.1.lt;have Ai:=AQ.out.1.lt;have Aa:=AA.out.1
 go_upto_region 4 with fail
 obtain⟨W2,AJ⟩:∃W2,Hid ((w1.setCell ⟨g,1,none⟩ (.int .i64 (s.hd.at_:Int))).alloc (.cells #[.int .u8 (s.hd.kind:Int),.int .i64 (s.hd.at_:Int),.int .i64 (s.hd.en:Int),.string (xE s.hd.text),.int .i64 s.hd.n] 29)=W2):=⟨_,yE rfl⟩;have AE:Hid (Ext (w1.setCell ⟨g,1,none⟩ (.int .i64 (s.hd.at_:Int))) W2):=yE (by rw[←AJ.out]; exact Ext.alloc _ _);have Af:Hid (PS W2 p B s R):=yE ((AV.out.zEe (Nat.le_trans AG.out AA.out.2) AD.out.2).ext AE.out);have AY:Hid (yZ w (xO p R) W2 (xO p R)):=yE (((yZ.ext AL.out).JQ AA.out.2).trans (yZ.ext AE.out));have Ad:Hid (Safe W2 (xO p R) gb 73 #[.pointer (some ⟨p,0,none⟩)]):=yE ((AQ.out.set Aa).ext AE.out);have Ak:Hid (Safe W2 (xO p R) g 232 #[.int .u8 0,.int .i64 (s.hd.at_:Int),.string ⟨#[]⟩,.int .i64 0,.slice none 0 0,.slice none 0 0]):=yE ((AD.out.put 1 (.int .i64 (s.hd.at_:Int))).ext AE.out)
 have Ah:Hid (Blk W2 w1.heap.size 29 #[.int .u8 (s.hd.kind:Int),.int .i64 (s.hd.at_:Int),.int .i64 (s.hd.en:Int),.string (xE s.hd.text),.int .i64 s.hd.n]):=yE (by
  have:=Blk.new (w1.setCell ⟨g,1,none⟩ (.int .i64 (s.hd.at_:Int))) 29 #[.int .u8 (s.hd.kind:Int),.int .i64 (s.hd.at_:Int),.int .i64 (s.hd.en:Int),.string (xE s.hd.text),.int .i64 s.hd.n]
  rw[AJ.out,show(w1.setCell ⟨g,1,none⟩ (.int .i64 (s.hd.at_:Int))).heap.size=w1.heap.size by simp[World.setCell]] at this
  exact this)
 rw[AJ.out];have An:Hid (w.heap.size≤w1.heap.size):=yE AL.out.size;generalize w1.heap.size=gt at *;clear AJ AE AV AQ AD AL AN AH AM AF AS c1 z1 AW Ai;have t0:=Ah.out.cell 0;have cb:=Ad.out.1.cell 0;simp only[yJ,yK,List.getElem?_cons_succ] at t0 cb;rw[HK.out] at t0
 go_wp2_with fail
 refine(zI1 W2 p B s R 1 HK (by decide) Af.out).mono ?_;rintro e w3 ⟨rfl,ho⟩;unfold xS;have Ag:=yE ho.1;have Ae:=yE (AY.out.trans ho.2);have AC:=yE (Ak.out.xC ho.2);have c0:=AC.out.1.cell 0;have c2:=AC.out.1.cell 2;have z0:=AC.out.1.frozen 0;have z2:=AC.out.1.frozen 2;simp only[yJ,yK,List.getElem?_cons_succ] at c0 c2;clear ho t0 cb
 go_upto_region 11 with fail
 have AZ:=yE ((Ag.out.zEe (i:=0) (u:=.int .u8 22) (Nat.le_trans AG.out AA.out.2) AC.out.2).zEe (i:=2) (u:=.string (xE s.hd.text)) (Nat.le_trans AG.out AA.out.2) AC.out.2);have AX:=yE ((Ae.out.JQ (i:=0) (u:=.int .u8 22) AA.out.2).JQ (i:=2) (u:=.string (xE s.hd.text)) AA.out.2);have AB:Hid (Safe _ _ g 232 (ZM ⟨22,s.hd.at_,s.hd.text,0,[]⟩ none 0 0).toArray):=yE ((AC.out.put 0 (.int .u8 22)).put 2 (.string (xE s.hd.text)));clear c0 c2 z0 z2;generalize (w3.setCell ⟨g,0,none⟩ (.int .u8 22)).setCell ⟨g,2,none⟩ (.string (xE s.hd.text))=W4 at *;have Ab:Hid (EX W4 (Or (xO p R.adv) (fun b=>under w b∨b=g)) (.leaf 22 s.hd.at_ s.hd.text 0) (ZM ⟨22,s.hd.at_,s.hd.text,0,[]⟩ none 0 0)):=yE rfl;have AP:=yE (zQO (f:=f) HK.out);have c0:=AB.out.1.cell 0;have c1:=AB.out.1.cell 1;have c2:=AB.out.1.cell 2;have c3:=AB.out.1.cell 3;have c4:=AB.out.1.cell 4;have c5:=AB.out.1.cell 5;simp only[ZM,yJ,yK,List.getElem?_cons_succ] at c0 c1 c2 c3 c4 c5
 go_wp2_with (refine vD rfl 232 (.tmp 2) (.tmp 43) rfl g #[.int .u8 22,.int .i64 (s.hd.at_:Int),.string (xE s.hd.text),.int .i64 0,.slice none 0 0,.slice none 0 0] (by rfl) (by rfl) 232 _ AB.out.1 (by kernel_rfl) rfl rfl ?_; intro w6 AK AT)
 have Aj:Hid (zAF w p B R (vM (f+1) s) (.returned (.agg #[.int .u8 22,.int .i64 (s.hd.at_:Int),.string (xE s.hd.text),.int .i64 0,.slice none 0 0,.slice none 0 0])) w6):=yE (by
  rw[AP.out]
  exact⟨_,R.adv,rfl,AK.ps AZ.out (Nat.le_trans AG.out AA.out.2) AB.out.2,AX.out.ZE AK AA.out.2,(Ab.out.xC (AK.xC (.inr (.inr rfl)))).weaken fun b hb k=>by
   rcases k with k | k
   ·exact .inl k
   ·exact .inr (.inl k)⟩)
 have Ac:=yE AT;clear AK AT
 go_wp2_with fail
 exact JC g 232 _ _ Tryz.results213 rfl rfl Ac.out Tryz.underlying232 rfl (by kernel_rfl) Aj.out
theorem zUj (f:Nat)(w:World)(p B:Nat)(s:Ps)(R:vC)(h:PS w p B s R)(hG:Good s)(hl:s.ts.length≤f+1)(hk:s.hd.kind=2) :
  Calls Tryz.prog 213 #[.pointer (some ⟨p,0,none⟩)] w (zAF w p B R (vM (f+1) s)):=by
 have HP:=yE h;have HG:=yE hG;have HL:=yE hl;have HK:=yE hk;clear hk;have hm:=hmf;have Al:=zAx;have Am:=zDM;obtain⟨W0,AF⟩:∃W0,Hid ((w.alloc (.cells #[.pointer (some ⟨p,0,none⟩)] 73)).alloc (.cells VK 232)=W0):=⟨_,yE rfl⟩;have AM:Hid (Ext w W0):=yE (by rw[←AF.out]; exact(Ext.alloc _ _).trans (Ext.alloc _ _));have AH:Hid (Safe W0 (xO p R) w.heap.size 73 #[.pointer (some ⟨p,0,none⟩)]):=yE (by rw[←AF.out]; exact(h.fresh 73 _).ext (Ext.alloc _ _))
 have AN:Hid (Safe W0 (xO p R) (w.heap.size+1) 232 VK):=yE (by
  have:=(h.ext (Ext.alloc w (.cells #[.pointer (some ⟨p,0,none⟩)] 73))).fresh 232 VK
  rw[yR] at this;rw[←AF.out]
  exact this)
 have AG:Hid (B≤w.heap.size):=yE (Nat.le_trans h.pB (zS h.blk.lt));have AS:Hid ((w.alloc (.cells #[.pointer (some ⟨p,0,none⟩)] 73)).alloc (.cells #[.int .u8 0,.int .i64 0,.string ⟨#[]⟩,.int .i64 0,.slice none 0 0,.slice none 0 0] 232)=W0):=yE AF.out;obtain⟨gb,AR⟩:∃gb,Hid (w.heap.size=gb):=⟨_,yE rfl⟩;obtain⟨g,AO⟩:∃g,Hid (w.heap.size+1=g):=⟨_,yE rfl⟩;rw[AO.out] at AN;rw[AR.out] at AH;have AA:Hid (gb≠g∧w.heap.size≤g):=yE (by have:=AR.out; have:=AO.out; omega);clear h hG hl
 go_enter Tryz.func213,Tryz.ntmps213
 go_upto_region 1 with fail
 rw[AS.out,AO.out,AR.out];have AU:=AH.out.1.cell 0;simp only[yJ,yK] at AU
 go_wp2_with fail
 refine(ZP W0 p s R (HP.out.ext AM.out).ts).mono ?_;rintro e w1 ⟨rfl,AI⟩;have AL:=yE (AM.out.trans AI);have AV:=yE (HP.out.ext AL.out);have AQ:=yE (AH.out.ext AI);have AD:=yE (AN.out.ext AI);clear AI AU;unfold xS;have c1:=AD.out.1.cell 1;have z1:=AD.out.1.frozen 1;simp only[VK,yJ,yK,List.getElem?_cons_succ] at c1;have AW:=AD.out.1.lt;have Ai:=AQ.out.1.lt;have Aa:=AA.out.1
 go_upto_region 4 with fail
 obtain⟨W2,AJ⟩:∃W2,Hid ((w1.setCell ⟨g,1,none⟩ (.int .i64 (s.hd.at_:Int))).alloc (.cells #[.int .u8 (s.hd.kind:Int),.int .i64 (s.hd.at_:Int),.int .i64 (s.hd.en:Int),.string (xE s.hd.text),.int .i64 s.hd.n] 29)=W2):=⟨_,yE rfl⟩;have AE:Hid (Ext (w1.setCell ⟨g,1,none⟩ (.int .i64 (s.hd.at_:Int))) W2):=yE (by rw[←AJ.out]; exact Ext.alloc _ _);have Af:Hid (PS W2 p B s R):=yE ((AV.out.zEe (Nat.le_trans AG.out AA.out.2) AD.out.2).ext AE.out);have AY:Hid (yZ w (xO p R) W2 (xO p R)):=yE (((yZ.ext AL.out).JQ AA.out.2).trans (yZ.ext AE.out));have Ad:Hid (Safe W2 (xO p R) gb 73 #[.pointer (some ⟨p,0,none⟩)]):=yE ((AQ.out.set Aa).ext AE.out);have Ak:Hid (Safe W2 (xO p R) g 232 #[.int .u8 0,.int .i64 (s.hd.at_:Int),.string ⟨#[]⟩,.int .i64 0,.slice none 0 0,.slice none 0 0]):=yE ((AD.out.put 1 (.int .i64 (s.hd.at_:Int))).ext AE.out)
 have Ah:Hid (Blk W2 w1.heap.size 29 #[.int .u8 (s.hd.kind:Int),.int .i64 (s.hd.at_:Int),.int .i64 (s.hd.en:Int),.string (xE s.hd.text),.int .i64 s.hd.n]):=yE (by
  have:=Blk.new (w1.setCell ⟨g,1,none⟩ (.int .i64 (s.hd.at_:Int))) 29 #[.int .u8 (s.hd.kind:Int),.int .i64 (s.hd.at_:Int),.int .i64 (s.hd.en:Int),.string (xE s.hd.text),.int .i64 s.hd.n]
  rw[AJ.out,show(w1.setCell ⟨g,1,none⟩ (.int .i64 (s.hd.at_:Int))).heap.size=w1.heap.size by simp[World.setCell]] at this
  exact this)
 rw[AJ.out];have An:Hid (w.heap.size≤w1.heap.size):=yE AL.out.size;generalize w1.heap.size=gt at *;clear AJ AE AV AQ AD AL AN AH AM AF AS c1 z1 AW Ai;have t0:=Ah.out.cell 0;have cb:=Ad.out.1.cell 0;simp only[yJ,yK,List.getElem?_cons_succ] at t0 cb;rw[HK.out] at t0
 go_wp2_with fail
 refine(zI1 W2 p B s R 2 HK (by decide) Af.out).mono ?_;rintro e w3 ⟨rfl,ho⟩;unfold xS;have Ag:=yE ho.1;have Ae:=yE (AY.out.trans ho.2);have AC:=yE (Ak.out.xC ho.2);have c0:=AC.out.1.cell 0;have c2:=AC.out.1.cell 3;have z0:=AC.out.1.frozen 0;have z2:=AC.out.1.frozen 3;simp only[yJ,yK,List.getElem?_cons_succ] at c0 c2;clear ho t0 cb
 go_upto_region 11 with fail
 have AZ:=yE ((Ag.out.zEe (i:=0) (u:=.int .u8 21) (Nat.le_trans AG.out AA.out.2) AC.out.2).zEe (i:=3) (u:=.int .i64 s.hd.n) (Nat.le_trans AG.out AA.out.2) AC.out.2);have AX:=yE ((Ae.out.JQ (i:=0) (u:=.int .u8 21) AA.out.2).JQ (i:=3) (u:=.int .i64 s.hd.n) AA.out.2);have AB:Hid (Safe _ _ g 232 (ZM ⟨21,s.hd.at_,[],s.hd.n,[]⟩ none 0 0).toArray):=yE ((AC.out.put 0 (.int .u8 21)).put 3 (.int .i64 s.hd.n));clear c0 c2 z0 z2;generalize (w3.setCell ⟨g,0,none⟩ (.int .u8 21)).setCell ⟨g,3,none⟩ (.int .i64 s.hd.n)=W4 at *;have Ab:Hid (EX W4 (Or (xO p R.adv) (fun b=>under w b∨b=g)) (.leaf 21 s.hd.at_ [] s.hd.n) (ZM ⟨21,s.hd.at_,[],s.hd.n,[]⟩ none 0 0)):=yE rfl;have AP:=yE (zRu (f:=f) HK.out);have c0:=AB.out.1.cell 0;have c1:=AB.out.1.cell 1;have c2:=AB.out.1.cell 2;have c3:=AB.out.1.cell 3;have c4:=AB.out.1.cell 4;have c5:=AB.out.1.cell 5;simp only[ZM,yJ,yK,List.getElem?_cons_succ] at c0 c1 c2 c3 c4 c5
 go_wp2_with (refine vD rfl 232 (.tmp 2) (.tmp 43) rfl g #[.int .u8 21,.int .i64 (s.hd.at_:Int),.string ⟨#[]⟩,.int .i64 s.hd.n,.slice none 0 0,.slice none 0 0] (by rfl) (by rfl) 232 _ AB.out.1 (by kernel_rfl) rfl rfl ?_; intro w6 AK AT)
 have Aj:Hid (zAF w p B R (vM (f+1) s) (.returned (.agg #[.int .u8 21,.int .i64 (s.hd.at_:Int),.string ⟨#[]⟩,.int .i64 s.hd.n,.slice none 0 0,.slice none 0 0])) w6):=yE (by
  rw[AP.out]
  exact⟨_,R.adv,rfl,AK.ps AZ.out (Nat.le_trans AG.out AA.out.2) AB.out.2,AX.out.ZE AK AA.out.2,(Ab.out.xC (AK.xC (.inr (.inr rfl)))).weaken fun b hb k=>by
   rcases k with k | k
   ·exact .inl k
   ·exact .inr (.inl k)⟩)
 have Ac:=yE AT;clear AK AT
 go_wp2_with fail
 exact JC g 232 _ _ Tryz.results213 rfl rfl Ac.out Tryz.underlying232 rfl (by kernel_rfl) Aj.out
theorem zUs (f:Nat)(w:World)(p B:Nat)(s:Ps)(R:vC)(h:PS w p B s R)(hG:Good s)(hl:s.ts.length≤f+1)(h1:s.hd.kind≠1)(h2:s.hd.kind≠2)(h3:isP [45] s=true)(ih:zCL 213 f (vM f)) :
  Calls Tryz.prog 213 #[.pointer (some ⟨p,0,none⟩)] w (zAF w p B R (vM (f+1) s)):=by
 have HP:=yE h;have HG:=yE hG;have HL:=yE hl;have Aj:=yE h1;have Ae:=yE h2;have HI:=yE h3;have As:=yE ih
 have n1:((s.hd.kind:Int)==1)=false:=by rw[yG]; omega
 have n2:((s.hd.kind:Int)==2)=false:=by rw[yG]; omega
 have m1:¬(s.hd.kind:Int)=1:=by omega
 have m2:¬(s.hd.kind:Int)=2:=by omega
 clear h1 h2 h3 ih;have hm:=hmf;have BB:=zAx;have A8:=zDM;obtain⟨W0,AG⟩:∃W0,Hid ((w.alloc (.cells #[.pointer (some ⟨p,0,none⟩)] 73)).alloc (.cells VK 232)=W0):=⟨_,yE rfl⟩;have AQ:Hid (Ext w W0):=yE (by rw[←AG.out]; exact(Ext.alloc _ _).trans (Ext.alloc _ _));have AL:Hid (Safe W0 (xO p R) w.heap.size 73 #[.pointer (some ⟨p,0,none⟩)]):=yE (by rw[←AG.out]; exact(h.fresh 73 _).ext (Ext.alloc _ _))
 have AS:Hid (Safe W0 (xO p R) (w.heap.size+1) 232 VK):=yE (by
  have:=(h.ext (Ext.alloc w (.cells #[.pointer (some ⟨p,0,none⟩)] 73))).fresh 232 VK
  rw[yR] at this;rw[←AG.out]
  exact this)
 have AK:Hid (B≤w.heap.size):=yE (Nat.le_trans h.pB (zS h.blk.lt));have Ag:Hid ((w.alloc (.cells #[.pointer (some ⟨p,0,none⟩)] 73)).alloc (.cells #[.int .u8 0,.int .i64 0,.string ⟨#[]⟩,.int .i64 0,.slice none 0 0,.slice none 0 0] 232)=W0):=yE AG.out;obtain⟨gb,AU⟩:∃gb,Hid (w.heap.size=gb):=⟨_,yE rfl⟩;obtain⟨g,AT⟩:∃g,Hid (w.heap.size+1=g):=⟨_,yE rfl⟩;rw[AT.out] at AS;rw[AU.out] at AL;have AA:Hid (gb≠g∧w.heap.size≤g):=yE (by have:=AU.out; have:=AT.out; omega);clear h hG hl
 go_enter Tryz.func213,Tryz.ntmps213
 go_upto_region 1 with fail
 rw[Ag.out,AT.out,AU.out];have Ak:=AL.out.1.cell 0;simp only[yJ,yK] at Ak
 go_wp2_with fail
 refine(ZP W0 p s R (HP.out.ext AQ.out).ts).mono ?_;rintro e w1 ⟨rfl,AM⟩;have AO:=yE (AQ.out.trans AM);have An:=yE (HP.out.ext AO.out);have AX:=yE (AL.out.ext AM);have AD:=yE (AS.out.ext AM);clear AM Ak;unfold xS;have c1:=AD.out.1.cell 1;have z1:=AD.out.1.frozen 1;simp only[VK,yJ,yK,List.getElem?_cons_succ] at c1;have A2:=AD.out.1.lt;have Ax:=AX.out.1.lt;have Aa:=AA.out.1
 go_upto_region 4 with fail
 obtain⟨W2,AN⟩:∃W2,Hid ((w1.setCell ⟨g,1,none⟩ (.int .i64 (s.hd.at_:Int))).alloc (.cells #[.int .u8 (s.hd.kind:Int),.int .i64 (s.hd.at_:Int),.int .i64 (s.hd.en:Int),.string (xE s.hd.text),.int .i64 s.hd.n] 29)=W2):=⟨_,yE rfl⟩;have AE:Hid (Ext (w1.setCell ⟨g,1,none⟩ (.int .i64 (s.hd.at_:Int))) W2):=yE (by rw[←AN.out]; exact Ext.alloc _ _);have Am:Hid (PS W2 p B s R):=yE ((An.out.zEe (Nat.le_trans AK.out AA.out.2) AD.out.2).ext AE.out);have A4:Hid (yZ w (xO p R) W2 (xO p R)):=yE (((yZ.ext AO.out).JQ AA.out.2).trans (yZ.ext AE.out));have Ac:Hid (Safe W2 (xO p R) gb 73 #[.pointer (some ⟨p,0,none⟩)]):=yE ((AX.out.set Aa).ext AE.out);have A7:Hid (Safe W2 (xO p R) g 232 #[.int .u8 0,.int .i64 (s.hd.at_:Int),.string ⟨#[]⟩,.int .i64 0,.slice none 0 0,.slice none 0 0]):=yE ((AD.out.put 1 (.int .i64 (s.hd.at_:Int))).ext AE.out)
 have Aw:Hid (Blk W2 w1.heap.size 29 #[.int .u8 (s.hd.kind:Int),.int .i64 (s.hd.at_:Int),.int .i64 (s.hd.en:Int),.string (xE s.hd.text),.int .i64 s.hd.n]):=yE (by
  have:=Blk.new (w1.setCell ⟨g,1,none⟩ (.int .i64 (s.hd.at_:Int))) 29 #[.int .u8 (s.hd.kind:Int),.int .i64 (s.hd.at_:Int),.int .i64 (s.hd.en:Int),.string (xE s.hd.text),.int .i64 s.hd.n]
  rw[AN.out,show(w1.setCell ⟨g,1,none⟩ (.int .i64 (s.hd.at_:Int))).heap.size=w1.heap.size by simp[World.setCell]] at this
  exact this)
 rw[AN.out];have A9:Hid (w.heap.size≤w1.heap.size):=yE AO.out.size;generalize w1.heap.size=gt at *;clear AN AE An AX AD AO AS AL AQ AG Ag c1 z1 A2 Ax;have t0:=Aw.out.cell 0;have cb:=Ac.out.1.cell 0;simp only[yJ,yK,List.getElem?_cons_succ] at t0 cb
 go_upto_region 8 with fail
 go_wp2_with fail
 refine(JI W2 p B s R [45] true HI Am.out).mono ?_;rintro e w3 ⟨rfl,AH⟩;have A6:=yE (Am.out.ext AH);have Av:=yE (A4.out.trans (yZ.ext AH));have Ai:=yE (Ac.out.ext AH);have AJ:=yE (A7.out.ext AH);have c0:=AJ.out.1.cell 0;have z0:=AJ.out.1.frozen 0;simp only[yJ,yK,List.getElem?_cons_succ] at c0;have Ah:=Ai.out.1.cell 0;simp only[yJ,yK] at Ah;clear AH t0 cb
 go_upto_region 10 with fail
 have Ap:=yE (A6.out.zEe (i:=0) (u:=.int .u8 26) (Nat.le_trans AK.out AA.out.2) AJ.out.2);have AP:=yE (Av.out.JQ (i:=0) (u:=.int .u8 26) AA.out.2);have Az:Hid (Safe _ _ g 232 (ZM ⟨26,s.hd.at_,[],0,[]⟩ none 0 0).toArray):=yE (AJ.out.put 0 (.int .u8 26));have Ab:=yE (Ai.out.set (g:=g) (i:=0) (u:=.int .u8 26) Aa);clear c0 z0 Ah;generalize w3.setCell ⟨g,0,none⟩ (.int .u8 26)=W5 at *;have AY:=Ab.out.1.cell 0;simp only[yJ,yK] at AY
 go_wp2_with fail
 have Au:Hid (w.heap.size≤W5.heap.size):=yE AP.out.size;refine(zC8 (fun b=>b=g) W5 p B s R [45] [] 214 #[] #[.pointer (some ⟨gb,0,none⟩),.pointer (some ⟨g,0,none⟩)] (vM f) (EAt w g p s.hd.at_ true) Ap.out (enters_of Tryz.func214 (by kernel_rfl) rfl) (fun x R1 w1 R2 w2 h k=>h.xC k) ?_ ?_).mono ?_
 ·intro hi hd x s' hr;have AR:Good { s.adv with deep:=s.deep+1 }:=⟨(HG.out.base.adv (vG hi).1).last,by show s.deep+1≤64; have:=HG.out.deep; omega,HG.out.few⟩
  have AW:({ s.adv with deep:=s.deep+1 }:Ps).ts.length≤f:=by show s.adv.ts.length≤f; rw[ZF]; have:=HL.out; omega
  have Al:=VO f _ AR AW;rw[hr] at Al;exact Al.2.2.2
 ·intro hi hd wr R' hm hp;have AR:Good { s.adv with deep:=s.deep+1 }:=⟨(HG.out.base.adv (vG hi).1).last,by show s.deep+1≤64; have:=HG.out.deep; omega,HG.out.few⟩
  have AW:({ s.adv with deep:=s.deep+1 }:Ps).ts.length≤f:=by show s.adv.ts.length≤f; rw[ZF]; have:=HL.out; omega
  exact zQU w wr p B gb g f s.hd.at_ _ R' (vM f) As.out hp AR AW (Ab.out.xC hm) (Az.out.xC hm) (Nat.le_trans AK.out AA.out.2) (Nat.le_trans Au.out hm.size)
 ·intro e w6 AF
  rcases AF.unit with ⟨x,s6,R6,hr,rfl,ho,cs,Ao,Ad⟩ | ⟨er,at_,hr,rfl,s6,R6,Ar,ho⟩
  rotate_left
  ·have HF:Hid (zAF w p B R (vM (f+1) s) (ZH er) w6):=yE (by rw[zKP Aj.out Ae.out HI.out,hr]; exact⟨rfl,s6,Ar,R6,ho.1,yZ.zPx AP.out ho.2 (fun b hb=>by rw[hb]; exact AA.out.2)⟩);exact xB (P:=Tryz.prog) (fn:=Tryz.f213) rfl HF.out
  have AV:Hid (vM (f+1) s=.ok (Ex.neg s.hd.at_ x) s6):=yE (by rw[zKP Aj.out Ae.out HI.out,hr]; rfl);have Aq:=yE ho.1;have A3:=yE (yZ.zPx AP.out ho.2 (fun b hb=>by rw[hb]; exact AA.out.2));have AC:EX w6 (Or (xO p R6) (fun b=>under w b∨b=g)) (Ex.neg s.hd.at_ x) cs:=Ad;obtain⟨A1,Af,f1,A0,_⟩:=AC.open;subst A0;have AB:=yE Ao;have A5:=yE AC;clear hr ho Ao Ad AC AY;generalize (Ex.neg s.hd.at_ x)=xx at *;generalize xx.parts.length=xm at *;generalize HY:xx.node=y at *;obtain⟨yk,yp,yt,yn,BA⟩:=y;have c0:=AB.out.1.cell 0;have c1:=AB.out.1.cell 1;have c2:=AB.out.1.cell 2;have c3:=AB.out.1.cell 3;have c4:=AB.out.1.cell 4;have c5:=AB.out.1.cell 5;simp only[ZM,yJ,yK,List.getElem?_cons_succ] at c0 c1 c2 c3 c4 c5
  go_wp2_with (refine vD rfl 232 (.tmp 2) (.tmp 43) rfl g #[.int .u8 (yk:Int),.int .i64 (yp:Int),.string (xE yt),.int .i64 yn,.slice none 0 0,.slice A1 xm Af] (by rfl) (by rfl) 232 _ AB.out.1 (by kernel_rfl) rfl rfl ?_; intro w6 AI AZ)
  have Ay:Hid (zAF w p B R (vM (f+1) s) (.returned (.agg #[.int .u8 (yk:Int),.int .i64 (yp:Int),.string (xE yt),.int .i64 yn,.slice none 0 0,.slice A1 xm Af])) w6):=yE (by
   rw[AV.out]
   exact⟨_,R6,rfl,AI.ps Aq.out (Nat.le_trans AK.out AA.out.2) AB.out.2,A3.out.ZE AI AA.out.2,(A5.out.xC (AI.xC (.inr (.inr rfl)))).weaken fun b hb k=>by
    rcases k with k | k
    ·exact .inl k
    ·exact .inr (.inl k)⟩)
  have At:=yE AZ;clear AI AZ
  go_wp2_with fail
  exact JC g 232 _ _ Tryz.results213 rfl rfl At.out Tryz.underlying232 rfl (by kernel_rfl) Ay.out
theorem zUK (f:Nat)(w:World)(p B:Nat)(s:Ps)(R:vC)(h:PS w p B s R)(hG:Good s)(hl:s.ts.length≤f+1)(h1:s.hd.kind≠1)(h2:s.hd.kind≠2)(h3:isP [45] s=false)(ih:zCL 213 f (vM f)) :
  Calls Tryz.prog 213 #[.pointer (some ⟨p,0,none⟩)] w (zAF w p B R (vM (f+1) s)):=by
 have HP:=yE h;have HG:=yE hG;have HL:=yE hl;have Ai:=yE h1;have Ad:=yE h2;have HI:=yE h3;have Ar:=yE ih
 have n1:((s.hd.kind:Int)==1)=false:=by rw[yG]; omega
 have n2:((s.hd.kind:Int)==2)=false:=by rw[yG]; omega
 have m1:¬(s.hd.kind:Int)=1:=by omega
 have m2:¬(s.hd.kind:Int)=2:=by omega
 clear h1 h2 h3 ih;have hm:=hmf;have BB:=zAx;have A8:=zDM;obtain⟨W0,AG⟩:∃W0,Hid ((w.alloc (.cells #[.pointer (some ⟨p,0,none⟩)] 73)).alloc (.cells VK 232)=W0):=⟨_,yE rfl⟩;have AO:Hid (Ext w W0):=yE (by rw[←AG.out]; exact(Ext.alloc _ _).trans (Ext.alloc _ _));have AJ:Hid (Safe W0 (xO p R) w.heap.size 73 #[.pointer (some ⟨p,0,none⟩)]):=yE (by rw[←AG.out]; exact(h.fresh 73 _).ext (Ext.alloc _ _))
 have AQ:Hid (Safe W0 (xO p R) (w.heap.size+1) 232 VK):=yE (by
  have:=(h.ext (Ext.alloc w (.cells #[.pointer (some ⟨p,0,none⟩)] 73))).fresh 232 VK
  rw[yR] at this;rw[←AG.out]
  exact this)
 have AU:Hid (B≤w.heap.size):=yE (Nat.le_trans h.pB (zS h.blk.lt));have Af:Hid ((w.alloc (.cells #[.pointer (some ⟨p,0,none⟩)] 73)).alloc (.cells #[.int .u8 0,.int .i64 0,.string ⟨#[]⟩,.int .i64 0,.slice none 0 0,.slice none 0 0] 232)=W0):=yE AG.out;obtain⟨gb,AS⟩:∃gb,Hid (w.heap.size=gb):=⟨_,yE rfl⟩;obtain⟨g,AR⟩:∃g,Hid (w.heap.size+1=g):=⟨_,yE rfl⟩;rw[AR.out] at AQ;rw[AS.out] at AJ;have AB:Hid (gb≠g∧w.heap.size≤g):=yE (by have:=AS.out; have:=AR.out; omega);clear h hG hl
 go_enter Tryz.func213,Tryz.ntmps213
 go_upto_region 1 with fail
 rw[Af.out,AR.out,AS.out];have Aj:=AJ.out.1.cell 0;simp only[yJ,yK] at Aj
 go_wp2_with fail
 refine(ZP W0 p s R (HP.out.ext AO.out).ts).mono ?_;rintro e w1 ⟨rfl,AK⟩;have AM:=yE (AO.out.trans AK);have Am:=yE (HP.out.ext AM.out);have AX:=yE (AJ.out.ext AK);have AD:=yE (AQ.out.ext AK);clear AK Aj;unfold xS;have c1:=AD.out.1.cell 1;have z1:=AD.out.1.frozen 1;simp only[VK,yJ,yK,List.getElem?_cons_succ] at c1;have A2:=AD.out.1.lt;have Ax:=AX.out.1.lt;have As:=AB.out.1
 go_upto_region 4 with fail
 obtain⟨W2,AL⟩:∃W2,Hid ((w1.setCell ⟨g,1,none⟩ (.int .i64 (s.hd.at_:Int))).alloc (.cells #[.int .u8 (s.hd.kind:Int),.int .i64 (s.hd.at_:Int),.int .i64 (s.hd.en:Int),.string (xE s.hd.text),.int .i64 s.hd.n] 29)=W2):=⟨_,yE rfl⟩;have AE:Hid (Ext (w1.setCell ⟨g,1,none⟩ (.int .i64 (s.hd.at_:Int))) W2):=yE (by rw[←AL.out]; exact Ext.alloc _ _);have Al:Hid (PS W2 p B s R):=yE ((Am.out.zEe (Nat.le_trans AU.out AB.out.2) AD.out.2).ext AE.out);have A4:Hid (yZ w (xO p R) W2 (xO p R)):=yE (((yZ.ext AM.out).JQ AB.out.2).trans (yZ.ext AE.out));have Ab:Hid (Safe W2 (xO p R) gb 73 #[.pointer (some ⟨p,0,none⟩)]):=yE ((AX.out.set As).ext AE.out);have A7:Hid (Safe W2 (xO p R) g 232 #[.int .u8 0,.int .i64 (s.hd.at_:Int),.string ⟨#[]⟩,.int .i64 0,.slice none 0 0,.slice none 0 0]):=yE ((AD.out.put 1 (.int .i64 (s.hd.at_:Int))).ext AE.out)
 have Aw:Hid (Blk W2 w1.heap.size 29 #[.int .u8 (s.hd.kind:Int),.int .i64 (s.hd.at_:Int),.int .i64 (s.hd.en:Int),.string (xE s.hd.text),.int .i64 s.hd.n]):=yE (by
  have:=Blk.new (w1.setCell ⟨g,1,none⟩ (.int .i64 (s.hd.at_:Int))) 29 #[.int .u8 (s.hd.kind:Int),.int .i64 (s.hd.at_:Int),.int .i64 (s.hd.en:Int),.string (xE s.hd.text),.int .i64 s.hd.n]
  rw[AL.out,show(w1.setCell ⟨g,1,none⟩ (.int .i64 (s.hd.at_:Int))).heap.size=w1.heap.size by simp[World.setCell]] at this
  exact this)
 rw[AL.out];have A9:Hid (w.heap.size≤w1.heap.size):=yE AM.out.size;generalize w1.heap.size=gt at *;clear AL AE Am AX AD AM AQ AJ AO AG Af c1 z1 A2 Ax;have t0:=Aw.out.cell 0;have cb:=Ab.out.1.cell 0;simp only[yJ,yK,List.getElem?_cons_succ] at t0 cb
 go_upto_region 8 with fail
 go_wp2_with fail
 refine(JI W2 p B s R [45] false HI Al.out).mono ?_;rintro e w3 ⟨rfl,AH⟩;have A6:=yE (Al.out.ext AH);have Av:=yE (A4.out.trans (yZ.ext AH));have Ah:=yE (Ab.out.ext AH);have AT:=yE (A7.out.ext AH);have c0:=AT.out.1.cell 0;have z0:=AT.out.1.frozen 0;simp only[yJ,yK,List.getElem?_cons_succ] at c0;have Ag:=Ah.out.1.cell 0;simp only[yJ,yK] at Ag;clear AH t0 cb
 go_upto_region 3 with fail
 have Ao:=A6;have AN:=Av;have Az:Hid (Safe w3 (xO p R) g 232 [.int .u8 0,.int .i64 (s.hd.at_:Int),.string ⟨#[]⟩,.int .i64 0,.slice none 0 0,.slice none 0 0].toArray):=AT;have Aa:=Ah;clear c0 z0 Ag;generalize w3=W5 at *;have AY:=Aa.out.1.cell 0;simp only[yJ,yK] at AY
 go_wp2_with fail
 have Au:Hid (w.heap.size≤W5.heap.size):=yE AN.out.size;refine(zC8 (fun b=>b=g) W5 p B s R [40] [41] 215 #[] #[.pointer (some ⟨gb,0,none⟩),.pointer (some ⟨g,0,none⟩)] (zEn (vM f)) (EAt w g p s.hd.at_ false) Ao.out (enters_of Tryz.func215 (by kernel_rfl) rfl) (fun x R1 w1 R2 w2 h k=>h.xC k) ?_ ?_).mono ?_
 ·intro hi hd x s' hr;have AP:Good { s.adv with deep:=s.deep+1 }:=⟨(HG.out.base.adv (vG hi).1).last,by show s.deep+1≤64; have:=HG.out.deep; omega,HG.out.few⟩
  have AW:({ s.adv with deep:=s.deep+1 }:Ps).ts.length≤f:=by show s.adv.ts.length≤f; rw[ZF]; have:=HL.out; omega
  have Ak:=(zG4 f (fun t gt ht=>VO f t gt ht)) _ AP AW;rw[hr] at Ak;exact Ak.2.2.2
 ·intro hi hd wr R' hm hp;have AP:Good { s.adv with deep:=s.deep+1 }:=⟨(HG.out.base.adv (vG hi).1).last,by show s.deep+1≤64; have:=HG.out.deep; omega,HG.out.few⟩
  have AW:({ s.adv with deep:=s.deep+1 }:Ps).ts.length≤f:=by show s.adv.ts.length≤f; rw[ZF]; have:=HL.out; omega
  exact zQb w wr p B gb g f s.hd.at_ _ R' (zEn (vM f)) (zNQ f _ Ar.out (fun t gt ht=>VO f t gt ht)) hp AP AW (Aa.out.xC hm) _ rfl (Az.out.xC hm) (Nat.le_trans AU.out AB.out.2) (Nat.le_trans Au.out hm.size)
 ·intro e w6 AF
  rcases AF.unit with ⟨x,s6,R6,hr,rfl,ho,cs,An,Ac⟩ | ⟨er,at_,hr,rfl,s6,R6,Aq,ho⟩
  rotate_left
  ·have HF:Hid (zAF w p B R (vM (f+1) s) (ZH er) w6):=yE (by rw[zKM Ai.out Ad.out HI.out,hr]; exact⟨rfl,s6,Aq,R6,ho.1,yZ.zPx AN.out ho.2 (fun b hb=>by rw[hb]; exact AB.out.2)⟩);exact xB (P:=Tryz.prog) (fn:=Tryz.f213) rfl HF.out
  have AV:Hid (vM (f+1) s=.ok x s6):=yE (by rw[zKM Ai.out Ad.out HI.out,hr]);have Ap:=yE ho.1;have A3:=yE (yZ.zPx AN.out ho.2 (fun b hb=>by rw[hb]; exact AB.out.2));have AC:EX w6 (Or (xO p R6) (fun b=>under w b∨b=g)) x cs:=Ac;obtain⟨A1,Ae,f1,A0,_⟩:=AC.open;subst A0;have AA:=yE An;have A5:=yE AC;clear hr ho An Ac AC AY;generalize x=xx at *;generalize xx.parts.length=xm at *;generalize HY:xx.node=y at *;obtain⟨yk,yp,yt,yn,BA⟩:=y;have c0:=AA.out.1.cell 0;have c1:=AA.out.1.cell 1;have c2:=AA.out.1.cell 2;have c3:=AA.out.1.cell 3;have c4:=AA.out.1.cell 4;have c5:=AA.out.1.cell 5;simp only[ZM,yJ,yK,List.getElem?_cons_succ] at c0 c1 c2 c3 c4 c5
  go_wp2_with (refine vD rfl 232 (.tmp 2) (.tmp 43) rfl g #[.int .u8 (yk:Int),.int .i64 (yp:Int),.string (xE yt),.int .i64 yn,.slice none 0 0,.slice A1 xm Ae] (by rfl) (by rfl) 232 _ AA.out.1 (by kernel_rfl) rfl rfl ?_; intro w6 AI AZ)
  have Ay:Hid (zAF w p B R (vM (f+1) s) (.returned (.agg #[.int .u8 (yk:Int),.int .i64 (yp:Int),.string (xE yt),.int .i64 yn,.slice none 0 0,.slice A1 xm Ae])) w6):=yE (by
   rw[AV.out]
   exact⟨_,R6,rfl,AI.ps Ap.out (Nat.le_trans AU.out AB.out.2) AA.out.2,A3.out.ZE AI AB.out.2,(A5.out.xC (AI.xC (.inr (.inr rfl)))).weaken fun b hb k=>by
    rcases k with k | k
    ·exact .inl k
    ·exact .inr (.inl k)⟩)
  have At:=yE AZ;clear AI AZ
  go_wp2_with fail
  exact JC g 232 _ _ Tryz.results213 rfl rfl At.out Tryz.underlying232 rfl (by kernel_rfl) Ay.out
theorem zJK:∀f,zCL 213 f (vM f)
 | 0=>fun w p B s R h hG hl=>absurd hG.pos (by omega)
 | f+1=>fun w p B s R h hG hl=>by
  by_cases h1:s.hd.kind=1
  ·exact zUA f w p B s R h hG hl h1
  ·by_cases h2:s.hd.kind=2
   ·exact zUj f w p B s R h hG hl h2
   ·cases h3:isP [45] s with
    | true=>exact zUs f w p B s R h hG hl h1 h2 h3 (zJK f)
    | false=>exact zUK f w p B s R h hG hl h1 h2 h3 (zJK f)
theorem zRq (w:World)(p B:Nat)(s:Ps)(R:vC)(h:PS w p B s R)(hG:Good s):Calls Tryz.prog 207 #[.pointer (some ⟨p,0,none⟩)] w (zAF w p B R (zKr s)):=
 zNQ s.ts.length (vM s.ts.length) (zJK _) (fun t gt ht=>VO _ t gt ht) w p B s R h hG (zU _)
theorem zA0 (w:World)(p B:Nat)(s:Ps)(R:vC)(i:Nat)(h:PS w p B s R)(hG:Good s)(hi:i<s.nd.length)(hbig:s.phi≤1000000) :
  Calls Tryz.prog 200 #[.pointer (some ⟨p,0,none⟩),.int .i64 (i:Int)] w (xQ w p B R (JS i s)):=by
 have HC:=yE (zRq w p B s R h hG);have AP:=yE (zJh s hG);have HI:=yE hi;have AM:=yE hbig;clear h hG hi hbig
 go_enter Tryz.func200,Tryz.ntmps200
 go_wp2_with fail
 refine HC.out.mono ?_;intro e w1 AA;have AD:=AP.out
 cases hr:zKr s with
 | err er a=>
  rw[hr] at AA;obtain⟨rfl,ho⟩:=AA;have HF:Hid (xQ w p B R (JS i s) (ZH er) w1):=yE (by unfold JS; rw[hr]; exact⟨rfl,ho⟩);exact xB (P:=Tryz.prog) (fn:=Tryz.f200) rfl HF.out
 | ok x s1=>
  rw[hr] at AA AD;obtain⟨cs,R1,rfl,AE,AG,AC⟩:=AA;obtain⟨AF,AH,AB,_⟩:=AD;have HR:Hid (JS i s=.ok () (JW i x s1)):=yE (by unfold JS; rw[hr]; rfl);have AN:=yE AE;have AI:=yE AG;have AL:=yE AC;have AO:=yE AF;have AK:Hid (i<s1.nd.length):=yE (by rw[AB]; exact HI.out);have AJ:Hid (s1.nd.length+x.size≤1000000):=yE (by rw[AB]; have:=AM.out; unfold Ps.phi at this; omega);clear hr AE AG AC AF AH AB
  go_wp2_with fail
  refine(zNH x.size x (zU _) w1 p B s1 R1 i cs AN.out AO.out AK.out AJ.out (AL.out.weaken fun b _ k=>.inl k)).mono ?_;rintro e w2 ⟨rfl,ho⟩;have HO:=yE (OkP.trans AI.out ho);clear ho
  go_wp2_with fail
  go_end0;rw[HR.out];exact xQ.ok HO.out
end Go.Proofs.YtioffpjajhalaaaGreatDoor
