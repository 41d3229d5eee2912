/- The program's factor, and an expression as a kid. Condition: the nodes fit into memory. -/
import Derived.Test.YtioffpjajhalaaaGreatDoorJaa
import Derived.Test.YtioffpjajhalaaaGreatDoorJaq
set_option linter.unusedVariables false
set_option linter.unusedSimpArgs false
set_option maxRecDepth 100000
set_option maxHeartbeats 16000000
namespace Go.Proofs.YtioffpjajhalaaaGreatDoor
open Go Go.RowKit
theorem PS.zDP {w:World}{p B:Nat}{s:Ps}{R:xS}(h:PS w p B s R){g i:Nat}{u:Value}(hB:B≤g)(hM:¬xG p R g):PS (w.setCell ⟨g,i,none⟩ u) p B s R:=
 h.zAf fun b hb=>zQ w ⟨g,i,none⟩ _ b fun e=>by
  subst e
  rcases hb with hb | hb
  ·omega
  ·exact hM hb
theorem Safe.set {w:World}{M:Nat→Prop}{g g' i:Nat}{t:TypeId}{cs:Array Value}{u:Value}(h:Safe w M g' t cs)(hn:g'≠g):Safe (w.setCell ⟨g,i,none⟩ u) M g' t cs:=⟨(zQ w ⟨g,i,none⟩ _ g' hn).trans h.1,h.2⟩
theorem Safe.put {w:World}{M:Nat→Prop}{g:Nat}{t:TypeId}{cs:Array Value}(h:Safe w M g t cs)(i:Nat)(u:Value):Safe (w.setCell ⟨g,i,none⟩ u) M g t (cs.setIfInBounds i u):=⟨h.1.put i u,h.2⟩
theorem Safe.ext {w w':World}{M:Nat→Prop}{g:Nat}{t:TypeId}{cs:Array Value}(h:Safe w M g t cs)(hx:Ext w w'):Safe w' M g t cs:=⟨h.1.ext hx,h.2⟩
theorem xH.XZ {w w1:World}{M M1:Nat→Prop}(k:xH w M w1 M1){g i:Nat}{u:Value}(hg:w.heap.size≤g):xH w M (w1.setCell ⟨g,i,none⟩ u) M1:=
 ⟨k.os,k.tape,k.output,by have:=k.size; simp[World.setCell]; omega,fun b hb hM=>(zQ w1 ⟨g,i,none⟩ u b (fun e=>by subst e; exact absurd hb (Nat.not_lt.2 hg))).trans (k.zAf b hb hM),k.zFT⟩
theorem xH.zQb {w w1 w2:World}{M M1 M2 X:Nat→Prop}(h0:xH w M w1 M1)(h:xH w1 (Or M1 X) w2 (Or M2 X))(hX:∀b,X b→w.heap.size≤b):xH w M w2 M2:=
 ⟨h.os.trans h0.os,h.tape.trans h0.tape,h.output.trans h0.output,Nat.le_trans h0.size h.size,fun b hb hm=>(h.zAf b (yR hb h0.size) fun k=>by
   rcases k with k | k
   ·rcases h0.zFT b k with k | k
    ·exact hm k
    ·omega
   ·have:=hX b k; omega).trans (h0.zAf b hb hm),fun b hb=>by
  rcases h.zFT b (.inl hb) with (h1 | h1) | h1
  ·exact h0.zFT b h1
  ·exact .inr (hX b h1)
  ·exact .inr (Nat.le_trans h0.size h1)⟩
theorem zRo {f:Nat}{s:Ps}(h:s.hd.kind=1):xM (f+1) s=.ok (.leaf 22 s.hd.at_ s.hd.text 0) s.adv:=by unfold xM; rw[if_pos h]
theorem zRU {f:Nat}{s:Ps}(h:s.hd.kind=2):xM (f+1) s=.ok (.leaf 21 s.hd.at_ [] s.hd.n) s.adv:=by unfold xM; rw[if_neg (by omega),if_pos h]
theorem zKB {f:Nat}{s:Ps}(h1:s.hd.kind≠1)(h2:s.hd.kind≠2)(h3:isP [45] s=true):xM (f+1) s=(xY [45] [] (xM f) s).bind fun a t=>.ok (.neg s.hd.at_ a) t:=by
 rw[xM,if_neg h1,if_neg h2,if_pos h3]
theorem zKy {f:Nat}{s:Ps}(h1:s.hd.kind≠1)(h2:s.hd.kind≠2)(h3:isP [45] s=false):xM (f+1) s=xY [40] [41] (sumOf (xM f)) s:=by
 rw[xM,if_neg h1,if_neg h2,h3]
 rfl
theorem zWf (f:Nat)(w:World)(p B:Nat)(s:Ps)(R:xS)(h:PS w p B s R)(hG:Good s)(hl:s.ts.length≤f+1)(hk:s.hd.kind=1) :
  Calls Tryz.prog 213 #[.pointer (some ⟨p,0,none⟩)] w (zAr w p B R (xM (f+1) s)):=by
 have HP:=yD h;have HG:=yD hG;have HL:=yD hl;have HK:=yD hk;clear hk;have hm:=hmf;have An:=zAh;have Am:=zDk;obtain⟨W0,AE⟩:∃W0,Hid ((w.alloc (.cells #[.pointer (some ⟨p,0,none⟩)] 73)).alloc (.cells JS 232)=W0):=⟨_,yD rfl⟩;have AO:Hid (Ext w W0):=yD (by rw[←AE.out]; exact(Ext.alloc _ _).trans (Ext.alloc _ _));have AK:Hid (Safe W0 (xG p R) w.heap.size 73 #[.pointer (some ⟨p,0,none⟩)]):=yD (by rw[←AE.out]; exact(h.fresh 73 _).ext (Ext.alloc _ _))
 have AM:Hid (Safe W0 (xG p R) (w.heap.size+1) 232 JS):=yD (by
  have:=(h.ext (Ext.alloc w (.cells #[.pointer (some ⟨p,0,none⟩)] 73))).fresh 232 JS
  rw[yQ] at this;rw[←AE.out]
  exact this)
 have AJ:Hid (B≤w.heap.size):=yD (Nat.le_trans h.pB (zS h.blk.lt));have AS:Hid ((w.alloc (.cells #[.pointer (some ⟨p,0,none⟩)] 73)).alloc (.cells #[.int .u8 0,.int .i64 0,.string ⟨#[]⟩,.int .i64 0,.slice none 0 0,.slice none 0 0] 232)=W0):=yD AE.out;obtain⟨gb,AR⟩:∃gb,Hid (w.heap.size=gb):=⟨_,yD rfl⟩;obtain⟨g,AP⟩:∃g,Hid (w.heap.size+1=g):=⟨_,yD rfl⟩;rw[AP.out] at AM;rw[AR.out] at AK;have AA:Hid (gb≠g∧w.heap.size≤g):=yD (by have:=AR.out; have:=AP.out; omega);clear h hG hl
 go_enter Tryz.func213,Tryz.ntmps213
 go_upto_region 1 with fail
 rw[AS.out,AP.out,AR.out];have AU:=AK.out.1.cell 0;simp only[yI,yJ] at AU
 go_wp2_with fail
 refine(ZG W0 p s R (HP.out.ext AO.out).ts).mono ?_;rintro e w1 ⟨rfl,AI⟩;have AH:=yD (AO.out.trans AI);have AV:=yD (HP.out.ext AH.out);have AN:=yD (AK.out.ext AI);have AD:=yD (AM.out.ext AI);clear AI AU;unfold YC;have c1:=AD.out.1.cell 1;have z1:=AD.out.1.frozen 1;simp only[JS,yI,yJ,List.getElem?_cons_succ] at c1;have Ad:=AD.out.1.lt;have Aj:=AN.out.1.lt;have AY:=AA.out.1
 go_upto_region 4 with fail
 obtain⟨W2,AL⟩:∃W2,Hid ((w1.setCell ⟨g,1,none⟩ (.int .i64 (s.hd.at_:Int))).alloc (.cells #[.int .u8 (s.hd.kind:Int),.int .i64 (s.hd.at_:Int),.int .i64 (s.hd.en:Int),.string (yX s.hd.text),.int .i64 s.hd.n] 29)=W2):=⟨_,yD rfl⟩;have AF:Hid (Ext (w1.setCell ⟨g,1,none⟩ (.int .i64 (s.hd.at_:Int))) W2):=yD (by rw[←AL.out]; exact Ext.alloc _ _);have Ac:Hid (PS W2 p B s R):=yD ((AV.out.zDP (Nat.le_trans AJ.out AA.out.2) AD.out.2).ext AF.out);have Ai:Hid (xH w (xG p R) W2 (xG p R)):=yD (((xH.ext AH.out).XZ AA.out.2).trans (xH.ext AF.out));have Aa:Hid (Safe W2 (xG p R) gb 73 #[.pointer (some ⟨p,0,none⟩)]):=yD ((AN.out.set AY).ext AF.out);have Af:Hid (Safe W2 (xG p R) g 232 #[.int .u8 0,.int .i64 (s.hd.at_:Int),.string ⟨#[]⟩,.int .i64 0,.slice none 0 0,.slice none 0 0]):=yD ((AD.out.put 1 (.int .i64 (s.hd.at_:Int))).ext AF.out)
 have AZ:Hid (Blk W2 w1.heap.size 29 #[.int .u8 (s.hd.kind:Int),.int .i64 (s.hd.at_:Int),.int .i64 (s.hd.en:Int),.string (yX s.hd.text),.int .i64 s.hd.n]):=yD (by
  have:=Blk.new (w1.setCell ⟨g,1,none⟩ (.int .i64 (s.hd.at_:Int))) 29 #[.int .u8 (s.hd.kind:Int),.int .i64 (s.hd.at_:Int),.int .i64 (s.hd.en:Int),.string (yX s.hd.text),.int .i64 s.hd.n]
  rw[AL.out,show(w1.setCell ⟨g,1,none⟩ (.int .i64 (s.hd.at_:Int))).heap.size=w1.heap.size by simp[World.setCell]] at this
  exact this)
 rw[AL.out];have Al:Hid (w.heap.size≤w1.heap.size):=yD AH.out.size;generalize w1.heap.size=gt at *;clear AL AF AV AN AD AH AM AK AO AE AS c1 z1 Ad Aj;have t0:=AZ.out.cell 0;have cb:=Aa.out.1.cell 0;simp only[yI,yJ,List.getElem?_cons_succ] at t0 cb;rw[HK.out] at t0
 go_wp2_with fail
 refine(zIN W2 p B s R 1 HK (by decide) Ac.out).mono ?_;rintro e w3 ⟨rfl,ho⟩;unfold YC;have Ab:=yD ho.1;have AX:=yD (Ai.out.trans ho.2);have AC:=yD (Af.out.xJ ho.2);have c0:=AC.out.1.cell 0;have c2:=AC.out.1.cell 2;have z0:=AC.out.1.frozen 0;have z2:=AC.out.1.frozen 2;simp only[yI,yJ,List.getElem?_cons_succ] at c0 c2;clear ho t0 cb
 go_upto_region 11 with fail
 have Ak:=yD ((Ab.out.zDP (i:=0) (u:=.int .u8 22) (Nat.le_trans AJ.out AA.out.2) AC.out.2).zDP (i:=2) (u:=.string (yX s.hd.text)) (Nat.le_trans AJ.out AA.out.2) AC.out.2);have AW:=yD ((AX.out.XZ (i:=0) (u:=.int .u8 22) AA.out.2).XZ (i:=2) (u:=.string (yX s.hd.text)) AA.out.2);have AB:Hid (Safe _ _ g 232 (jZ ⟨22,s.hd.at_,s.hd.text,0,[]⟩ none 0 0).toArray):=yD ((AC.out.put 0 (.int .u8 22)).put 2 (.string (yX s.hd.text)));clear c0 c2 z0 z2;generalize (w3.setCell ⟨g,0,none⟩ (.int .u8 22)).setCell ⟨g,2,none⟩ (.string (yX s.hd.text))=W4 at *;have Ae:Hid (EX W4 (Or (xG p R.adv) (fun b=>under w b∨b=g)) (.leaf 22 s.hd.at_ s.hd.text 0) (jZ ⟨22,s.hd.at_,s.hd.text,0,[]⟩ none 0 0)):=yD rfl;have AQ:=yD (zRo (f:=f) HK.out);have c0:=AB.out.1.cell 0;have c1:=AB.out.1.cell 1;have c2:=AB.out.1.cell 2;have c3:=AB.out.1.cell 3;have c4:=AB.out.1.cell 4;have c5:=AB.out.1.cell 5;simp only[jZ,yI,yJ,List.getElem?_cons_succ] at c0 c1 c2 c3 c4 c5
 go_wp2_with (refine vJ rfl 232 (.tmp 2) (.tmp 43) rfl g #[.int .u8 22,.int .i64 (s.hd.at_:Int),.string (yX s.hd.text),.int .i64 0,.slice none 0 0,.slice none 0 0] (by rfl) (by rfl) 232 _ AB.out.1 (by kernel_rfl) rfl rfl ?_; intro w6 AG AT)
 have Ag:Hid (zAr w p B R (xM (f+1) s) (.returned (.agg #[.int .u8 22,.int .i64 (s.hd.at_:Int),.string (yX s.hd.text),.int .i64 0,.slice none 0 0,.slice none 0 0])) w6):=yD (by
  rw[AQ.out]
  exact⟨_,R.adv,rfl,AG.ps Ak.out (Nat.le_trans AJ.out AA.out.2) AB.out.2,AW.out.YD AG AA.out.2,(Ae.out.xJ (AG.xJ (.inr (.inr rfl)))).weaken fun b hb k=>by
   rcases k with k | k
   ·exact .inl k
   ·exact .inr (.inl k)⟩)
 have Ah:=yD AT;clear AG AT
 go_wp2_with fail
 exact zCk g 232 _ _ Tryz.results213 rfl rfl Ah.out Tryz.underlying232 rfl (by kernel_rfl) Ag.out
theorem zVB (f:Nat)(w:World)(p B:Nat)(s:Ps)(R:xS)(h:PS w p B s R)(hG:Good s)(hl:s.ts.length≤f+1)(hk:s.hd.kind=2) :
  Calls Tryz.prog 213 #[.pointer (some ⟨p,0,none⟩)] w (zAr w p B R (xM (f+1) s)):=by
 have HP:=yD h;have HG:=yD hG;have HL:=yD hl;have HK:=yD hk;clear hk;have hm:=hmf;have An:=zAh;have Am:=zDk;obtain⟨W0,AE⟩:∃W0,Hid ((w.alloc (.cells #[.pointer (some ⟨p,0,none⟩)] 73)).alloc (.cells JS 232)=W0):=⟨_,yD rfl⟩;have AO:Hid (Ext w W0):=yD (by rw[←AE.out]; exact(Ext.alloc _ _).trans (Ext.alloc _ _));have AK:Hid (Safe W0 (xG p R) w.heap.size 73 #[.pointer (some ⟨p,0,none⟩)]):=yD (by rw[←AE.out]; exact(h.fresh 73 _).ext (Ext.alloc _ _))
 have AM:Hid (Safe W0 (xG p R) (w.heap.size+1) 232 JS):=yD (by
  have:=(h.ext (Ext.alloc w (.cells #[.pointer (some ⟨p,0,none⟩)] 73))).fresh 232 JS
  rw[yQ] at this;rw[←AE.out]
  exact this)
 have AJ:Hid (B≤w.heap.size):=yD (Nat.le_trans h.pB (zS h.blk.lt));have AS:Hid ((w.alloc (.cells #[.pointer (some ⟨p,0,none⟩)] 73)).alloc (.cells #[.int .u8 0,.int .i64 0,.string ⟨#[]⟩,.int .i64 0,.slice none 0 0,.slice none 0 0] 232)=W0):=yD AE.out;obtain⟨gb,AR⟩:∃gb,Hid (w.heap.size=gb):=⟨_,yD rfl⟩;obtain⟨g,AP⟩:∃g,Hid (w.heap.size+1=g):=⟨_,yD rfl⟩;rw[AP.out] at AM;rw[AR.out] at AK;have AA:Hid (gb≠g∧w.heap.size≤g):=yD (by have:=AR.out; have:=AP.out; omega);clear h hG hl
 go_enter Tryz.func213,Tryz.ntmps213
 go_upto_region 1 with fail
 rw[AS.out,AP.out,AR.out];have AU:=AK.out.1.cell 0;simp only[yI,yJ] at AU
 go_wp2_with fail
 refine(ZG W0 p s R (HP.out.ext AO.out).ts).mono ?_;rintro e w1 ⟨rfl,AI⟩;have AH:=yD (AO.out.trans AI);have AV:=yD (HP.out.ext AH.out);have AN:=yD (AK.out.ext AI);have AD:=yD (AM.out.ext AI);clear AI AU;unfold YC;have c1:=AD.out.1.cell 1;have z1:=AD.out.1.frozen 1;simp only[JS,yI,yJ,List.getElem?_cons_succ] at c1;have Ad:=AD.out.1.lt;have Aj:=AN.out.1.lt;have AY:=AA.out.1
 go_upto_region 4 with fail
 obtain⟨W2,AL⟩:∃W2,Hid ((w1.setCell ⟨g,1,none⟩ (.int .i64 (s.hd.at_:Int))).alloc (.cells #[.int .u8 (s.hd.kind:Int),.int .i64 (s.hd.at_:Int),.int .i64 (s.hd.en:Int),.string (yX s.hd.text),.int .i64 s.hd.n] 29)=W2):=⟨_,yD rfl⟩;have AF:Hid (Ext (w1.setCell ⟨g,1,none⟩ (.int .i64 (s.hd.at_:Int))) W2):=yD (by rw[←AL.out]; exact Ext.alloc _ _);have Ac:Hid (PS W2 p B s R):=yD ((AV.out.zDP (Nat.le_trans AJ.out AA.out.2) AD.out.2).ext AF.out);have Ai:Hid (xH w (xG p R) W2 (xG p R)):=yD (((xH.ext AH.out).XZ AA.out.2).trans (xH.ext AF.out));have Aa:Hid (Safe W2 (xG p R) gb 73 #[.pointer (some ⟨p,0,none⟩)]):=yD ((AN.out.set AY).ext AF.out);have Af:Hid (Safe W2 (xG p R) g 232 #[.int .u8 0,.int .i64 (s.hd.at_:Int),.string ⟨#[]⟩,.int .i64 0,.slice none 0 0,.slice none 0 0]):=yD ((AD.out.put 1 (.int .i64 (s.hd.at_:Int))).ext AF.out)
 have AZ:Hid (Blk W2 w1.heap.size 29 #[.int .u8 (s.hd.kind:Int),.int .i64 (s.hd.at_:Int),.int .i64 (s.hd.en:Int),.string (yX s.hd.text),.int .i64 s.hd.n]):=yD (by
  have:=Blk.new (w1.setCell ⟨g,1,none⟩ (.int .i64 (s.hd.at_:Int))) 29 #[.int .u8 (s.hd.kind:Int),.int .i64 (s.hd.at_:Int),.int .i64 (s.hd.en:Int),.string (yX s.hd.text),.int .i64 s.hd.n]
  rw[AL.out,show(w1.setCell ⟨g,1,none⟩ (.int .i64 (s.hd.at_:Int))).heap.size=w1.heap.size by simp[World.setCell]] at this
  exact this)
 rw[AL.out];have Al:Hid (w.heap.size≤w1.heap.size):=yD AH.out.size;generalize w1.heap.size=gt at *;clear AL AF AV AN AD AH AM AK AO AE AS c1 z1 Ad Aj;have t0:=AZ.out.cell 0;have cb:=Aa.out.1.cell 0;simp only[yI,yJ,List.getElem?_cons_succ] at t0 cb;rw[HK.out] at t0
 go_wp2_with fail
 refine(zIN W2 p B s R 2 HK (by decide) Ac.out).mono ?_;rintro e w3 ⟨rfl,ho⟩;unfold YC;have Ab:=yD ho.1;have AX:=yD (Ai.out.trans ho.2);have AC:=yD (Af.out.xJ ho.2);have c0:=AC.out.1.cell 0;have c2:=AC.out.1.cell 3;have z0:=AC.out.1.frozen 0;have z2:=AC.out.1.frozen 3;simp only[yI,yJ,List.getElem?_cons_succ] at c0 c2;clear ho t0 cb
 go_upto_region 11 with fail
 have Ak:=yD ((Ab.out.zDP (i:=0) (u:=.int .u8 21) (Nat.le_trans AJ.out AA.out.2) AC.out.2).zDP (i:=3) (u:=.int .i64 s.hd.n) (Nat.le_trans AJ.out AA.out.2) AC.out.2);have AW:=yD ((AX.out.XZ (i:=0) (u:=.int .u8 21) AA.out.2).XZ (i:=3) (u:=.int .i64 s.hd.n) AA.out.2);have AB:Hid (Safe _ _ g 232 (jZ ⟨21,s.hd.at_,[],s.hd.n,[]⟩ none 0 0).toArray):=yD ((AC.out.put 0 (.int .u8 21)).put 3 (.int .i64 s.hd.n));clear c0 c2 z0 z2;generalize (w3.setCell ⟨g,0,none⟩ (.int .u8 21)).setCell ⟨g,3,none⟩ (.int .i64 s.hd.n)=W4 at *;have Ae:Hid (EX W4 (Or (xG p R.adv) (fun b=>under w b∨b=g)) (.leaf 21 s.hd.at_ [] s.hd.n) (jZ ⟨21,s.hd.at_,[],s.hd.n,[]⟩ none 0 0)):=yD rfl;have AQ:=yD (zRU (f:=f) HK.out);have c0:=AB.out.1.cell 0;have c1:=AB.out.1.cell 1;have c2:=AB.out.1.cell 2;have c3:=AB.out.1.cell 3;have c4:=AB.out.1.cell 4;have c5:=AB.out.1.cell 5;simp only[jZ,yI,yJ,List.getElem?_cons_succ] at c0 c1 c2 c3 c4 c5
 go_wp2_with (refine vJ rfl 232 (.tmp 2) (.tmp 43) rfl g #[.int .u8 21,.int .i64 (s.hd.at_:Int),.string ⟨#[]⟩,.int .i64 s.hd.n,.slice none 0 0,.slice none 0 0] (by rfl) (by rfl) 232 _ AB.out.1 (by kernel_rfl) rfl rfl ?_; intro w6 AG AT)
 have Ag:Hid (zAr w p B R (xM (f+1) s) (.returned (.agg #[.int .u8 21,.int .i64 (s.hd.at_:Int),.string ⟨#[]⟩,.int .i64 s.hd.n,.slice none 0 0,.slice none 0 0])) w6):=yD (by
  rw[AQ.out]
  exact⟨_,R.adv,rfl,AG.ps Ak.out (Nat.le_trans AJ.out AA.out.2) AB.out.2,AW.out.YD AG AA.out.2,(Ae.out.xJ (AG.xJ (.inr (.inr rfl)))).weaken fun b hb k=>by
   rcases k with k | k
   ·exact .inl k
   ·exact .inr (.inl k)⟩)
 have Ah:=yD AT;clear AG AT
 go_wp2_with fail
 exact zCk g 232 _ _ Tryz.results213 rfl rfl Ah.out Tryz.underlying232 rfl (by kernel_rfl) Ag.out
theorem zVU (f:Nat)(w:World)(p B:Nat)(s:Ps)(R:xS)(h:PS w p B s R)(hG:Good s)(hl:s.ts.length≤f+1)(h1:s.hd.kind≠1)(h2:s.hd.kind≠2)(h3:isP [45] s=true)(ih:zCy 213 f (xM f)) :
  Calls Tryz.prog 213 #[.pointer (some ⟨p,0,none⟩)] w (zAr w p B R (xM (f+1) s)):=by
 have HP:=yD h;have HG:=yD hG;have HL:=yD hl;have Ak:=yD h1;have Aa:=yD h2;have HI:=yD h3;have A4:=yD ih
 have n1:((s.hd.kind:Int)==1)=false:=by rw[yF]; omega
 have n2:((s.hd.kind:Int)==2)=false:=by rw[yF]; omega
 have m1:¬(s.hd.kind:Int)=1:=by omega
 have m2:¬(s.hd.kind:Int)=2:=by omega
 clear h1 h2 h3 ih;have hm:=hmf;have A9:=zAh;have A8:=zDk;obtain⟨W0,AE⟩:∃W0,Hid ((w.alloc (.cells #[.pointer (some ⟨p,0,none⟩)] 73)).alloc (.cells JS 232)=W0):=⟨_,yD rfl⟩;have AR:Hid (Ext w W0):=yD (by rw[←AE.out]; exact(Ext.alloc _ _).trans (Ext.alloc _ _));have AL:Hid (Safe W0 (xG p R) w.heap.size 73 #[.pointer (some ⟨p,0,none⟩)]):=yD (by rw[←AE.out]; exact(h.fresh 73 _).ext (Ext.alloc _ _))
 have AQ:Hid (Safe W0 (xG p R) (w.heap.size+1) 232 JS):=yD (by
  have:=(h.ext (Ext.alloc w (.cells #[.pointer (some ⟨p,0,none⟩)] 73))).fresh 232 JS
  rw[yQ] at this;rw[←AE.out]
  exact this)
 have AJ:Hid (B≤w.heap.size):=yD (Nat.le_trans h.pB (zS h.blk.lt));have AY:Hid ((w.alloc (.cells #[.pointer (some ⟨p,0,none⟩)] 73)).alloc (.cells #[.int .u8 0,.int .i64 0,.string ⟨#[]⟩,.int .i64 0,.slice none 0 0,.slice none 0 0] 232)=W0):=yD AE.out;obtain⟨gb,AU⟩:∃gb,Hid (w.heap.size=gb):=⟨_,yD rfl⟩;obtain⟨g,AW⟩:∃g,Hid (w.heap.size+1=g):=⟨_,yD rfl⟩;rw[AW.out] at AQ;rw[AU.out] at AL;have AA:Hid (gb≠g∧w.heap.size≤g):=yD (by have:=AU.out; have:=AW.out; omega);clear h hG hl
 go_enter Tryz.func213,Tryz.ntmps213
 go_upto_region 1 with fail
 rw[AY.out,AW.out,AU.out];have Ac:=AL.out.1.cell 0;simp only[yI,yJ] at Ac
 go_wp2_with fail
 refine(ZG W0 p s R (HP.out.ext AR.out).ts).mono ?_;rintro e w1 ⟨rfl,AN⟩;have AM:=yD (AR.out.trans AN);have Ae:=yD (HP.out.ext AM.out);have AV:=yD (AL.out.ext AN);have AD:=yD (AQ.out.ext AN);clear AN Ac;unfold YC;have c1:=AD.out.1.cell 1;have z1:=AD.out.1.frozen 1;simp only[JS,yI,yJ,List.getElem?_cons_succ] at c1;have At:=AD.out.1.lt;have Ax:=AV.out.1.lt;have AZ:=AA.out.1
 go_upto_region 4 with fail
 obtain⟨W2,AO⟩:∃W2,Hid ((w1.setCell ⟨g,1,none⟩ (.int .i64 (s.hd.at_:Int))).alloc (.cells #[.int .u8 (s.hd.kind:Int),.int .i64 (s.hd.at_:Int),.int .i64 (s.hd.en:Int),.string (yX s.hd.text),.int .i64 s.hd.n] 29)=W2):=⟨_,yD rfl⟩;have AG:Hid (Ext (w1.setCell ⟨g,1,none⟩ (.int .i64 (s.hd.at_:Int))) W2):=yD (by rw[←AO.out]; exact Ext.alloc _ _);have Aj:Hid (PS W2 p B s R):=yD ((Ae.out.zDP (Nat.le_trans AJ.out AA.out.2) AD.out.2).ext AG.out);have Aw:Hid (xH w (xG p R) W2 (xG p R)):=yD (((xH.ext AM.out).XZ AA.out.2).trans (xH.ext AG.out));have Ai:Hid (Safe W2 (xG p R) gb 73 #[.pointer (some ⟨p,0,none⟩)]):=yD ((AV.out.set AZ).ext AG.out);have A5:Hid (Safe W2 (xG p R) g 232 #[.int .u8 0,.int .i64 (s.hd.at_:Int),.string ⟨#[]⟩,.int .i64 0,.slice none 0 0,.slice none 0 0]):=yD ((AD.out.put 1 (.int .i64 (s.hd.at_:Int))).ext AG.out)
 have A0:Hid (Blk W2 w1.heap.size 29 #[.int .u8 (s.hd.kind:Int),.int .i64 (s.hd.at_:Int),.int .i64 (s.hd.en:Int),.string (yX s.hd.text),.int .i64 s.hd.n]):=yD (by
  have:=Blk.new (w1.setCell ⟨g,1,none⟩ (.int .i64 (s.hd.at_:Int))) 29 #[.int .u8 (s.hd.kind:Int),.int .i64 (s.hd.at_:Int),.int .i64 (s.hd.en:Int),.string (yX s.hd.text),.int .i64 s.hd.n]
  rw[AO.out,show(w1.setCell ⟨g,1,none⟩ (.int .i64 (s.hd.at_:Int))).heap.size=w1.heap.size by simp[World.setCell]] at this
  exact this)
 rw[AO.out];have BB:Hid (w.heap.size≤w1.heap.size):=yD AM.out.size;generalize w1.heap.size=gt at *;clear AO AG Ae AV AD AM AQ AL AR AE AY c1 z1 At Ax;have t0:=A0.out.cell 0;have cb:=Ai.out.1.cell 0;simp only[yI,yJ,List.getElem?_cons_succ] at t0 cb
 go_upto_region 8 with fail
 go_wp2_with fail
 refine(XT W2 p B s R [45] true HI Aj.out).mono ?_;rintro e w3 ⟨rfl,AF⟩;have A2:=yD (Aj.out.ext AF);have Az:=yD (Aw.out.trans (xH.ext AF));have Ah:=yD (Ai.out.ext AF);have AK:=yD (A5.out.ext AF);have c0:=AK.out.1.cell 0;have z0:=AK.out.1.frozen 0;simp only[yI,yJ,List.getElem?_cons_succ] at c0;have Af:=Ah.out.1.cell 0;simp only[yI,yJ] at Af;clear AF t0 cb
 go_upto_region 10 with fail
 have Au:=yD (A2.out.zDP (i:=0) (u:=.int .u8 26) (Nat.le_trans AJ.out AA.out.2) AK.out.2);have AP:=yD (Az.out.XZ (i:=0) (u:=.int .u8 26) AA.out.2);have Ar:Hid (Safe _ _ g 232 (jZ ⟨26,s.hd.at_,[],0,[]⟩ none 0 0).toArray):=yD (AK.out.put 0 (.int .u8 26));have Ag:=yD (Ah.out.set (g:=g) (i:=0) (u:=.int .u8 26) AZ);clear c0 z0 Af;generalize w3.setCell ⟨g,0,none⟩ (.int .u8 26)=W5 at *;have Ab:=Ag.out.1.cell 0;simp only[yI,yJ] at Ab
 go_wp2_with fail
 have Ay:Hid (w.heap.size≤W5.heap.size):=yD AP.out.size;refine(zCJ (fun b=>b=g) W5 p B s R [45] [] 214 #[] #[.pointer (some ⟨gb,0,none⟩),.pointer (some ⟨g,0,none⟩)] (xM f) (EAt w g p s.hd.at_ true) Au.out (enters_of Tryz.func214 (by kernel_rfl) rfl) (fun x R1 w1 R2 w2 h k=>h.xJ k) ?_ ?_).mono ?_
 ·intro hi hd x s' hr;have AX:Good { s.adv with deep:=s.deep+1 }:=⟨(HG.out.base.adv (vI hi).1).last,by show s.deep+1≤64; have:=HG.out.deep; omega,HG.out.few⟩
  have AS:({ s.adv with deep:=s.deep+1 }:Ps).ts.length≤f:=by show s.adv.ts.length≤f; rw[jX]; have:=HL.out; omega
  have Ao:=JW f _ AX AS;rw[hr] at Ao;exact Ao.2.2.2
 ·intro hi hd wr R' hm hp;have AX:Good { s.adv with deep:=s.deep+1 }:=⟨(HG.out.base.adv (vI hi).1).last,by show s.deep+1≤64; have:=HG.out.deep; omega,HG.out.few⟩
  have AS:({ s.adv with deep:=s.deep+1 }:Ps).ts.length≤f:=by show s.adv.ts.length≤f; rw[jX]; have:=HL.out; omega
  exact zRu w wr p B gb g f s.hd.at_ _ R' (xM f) A4.out hp AX AS (Ag.out.xJ hm) (Ar.out.xJ hm) (Nat.le_trans AJ.out AA.out.2) (Nat.le_trans Ay.out hm.size)
 ·intro e w6 AH
  rcases AH.unit with ⟨x,s6,R6,hr,rfl,ho,cs,Ad,Am⟩ | ⟨er,at_,hr,rfl,s6,R6,As,ho⟩
  rotate_left
  ·have HF:Hid (zAr w p B R (xM (f+1) s) (jW er) w6):=yD (by rw[zKB Ak.out Aa.out HI.out,hr]; exact⟨rfl,s6,As,R6,ho.1,xH.zQb AP.out ho.2 (fun b hb=>by rw[hb]; exact AA.out.2)⟩);exact yZ (P:=Tryz.prog) (fn:=Tryz.f213) rfl HF.out
  have AT:Hid (xM (f+1) s=.ok (Ex.neg s.hd.at_ x) s6):=yD (by rw[zKB Ak.out Aa.out HI.out,hr]; rfl);have A7:=yD ho.1;have Ap:=yD (xH.zQb AP.out ho.2 (fun b hb=>by rw[hb]; exact AA.out.2));have AC:EX w6 (Or (xG p R6) (fun b=>under w b∨b=g)) (Ex.neg s.hd.at_ x) cs:=Am;obtain⟨A1,An,f1,Aq,_⟩:=AC.open;subst Aq;have AB:=yD Ad;have A3:=yD AC;clear hr ho Ad Am AC Ab;generalize (Ex.neg s.hd.at_ x)=xx at *;generalize xx.parts.length=xm at *;generalize HY:xx.node=y at *;obtain⟨yk,yp,yt,yn,BA⟩:=y;have c0:=AB.out.1.cell 0;have c1:=AB.out.1.cell 1;have c2:=AB.out.1.cell 2;have c3:=AB.out.1.cell 3;have c4:=AB.out.1.cell 4;have c5:=AB.out.1.cell 5;simp only[jZ,yI,yJ,List.getElem?_cons_succ] at c0 c1 c2 c3 c4 c5
  go_wp2_with (refine vJ rfl 232 (.tmp 2) (.tmp 43) rfl g #[.int .u8 (yk:Int),.int .i64 (yp:Int),.string (yX yt),.int .i64 yn,.slice none 0 0,.slice A1 xm An] (by rfl) (by rfl) 232 _ AB.out.1 (by kernel_rfl) rfl rfl ?_; intro w6 AI Al)
  have A6:Hid (zAr w p B R (xM (f+1) s) (.returned (.agg #[.int .u8 (yk:Int),.int .i64 (yp:Int),.string (yX yt),.int .i64 yn,.slice none 0 0,.slice A1 xm An])) w6):=yD (by
   rw[AT.out]
   exact⟨_,R6,rfl,AI.ps A7.out (Nat.le_trans AJ.out AA.out.2) AB.out.2,Ap.out.YD AI AA.out.2,(A3.out.xJ (AI.xJ (.inr (.inr rfl)))).weaken fun b hb k=>by
    rcases k with k | k
    ·exact .inl k
    ·exact .inr (.inl k)⟩)
  have Av:=yD Al;clear AI Al
  go_wp2_with fail
  exact zCk g 232 _ _ Tryz.results213 rfl rfl Av.out Tryz.underlying232 rfl (by kernel_rfl) A6.out
theorem zWD (f:Nat)(w:World)(p B:Nat)(s:Ps)(R:xS)(h:PS w p B s R)(hG:Good s)(hl:s.ts.length≤f+1)(h1:s.hd.kind≠1)(h2:s.hd.kind≠2)(h3:isP [45] s=false)(ih:zCy 213 f (xM f)) :
  Calls Tryz.prog 213 #[.pointer (some ⟨p,0,none⟩)] w (zAr w p B R (xM (f+1) s)):=by
 have HP:=yD h;have HG:=yD hG;have HL:=yD hl;have Aj:=yD h1;have AZ:=yD h2;have HI:=yD h3;have A4:=yD ih
 have n1:((s.hd.kind:Int)==1)=false:=by rw[yF]; omega
 have n2:((s.hd.kind:Int)==2)=false:=by rw[yF]; omega
 have m1:¬(s.hd.kind:Int)=1:=by omega
 have m2:¬(s.hd.kind:Int)=2:=by omega
 clear h1 h2 h3 ih;have hm:=hmf;have A9:=zAh;have A8:=zDk;obtain⟨W0,AE⟩:∃W0,Hid ((w.alloc (.cells #[.pointer (some ⟨p,0,none⟩)] 73)).alloc (.cells JS 232)=W0):=⟨_,yD rfl⟩;have AP:Hid (Ext w W0):=yD (by rw[←AE.out]; exact(Ext.alloc _ _).trans (Ext.alloc _ _));have AJ:Hid (Safe W0 (xG p R) w.heap.size 73 #[.pointer (some ⟨p,0,none⟩)]):=yD (by rw[←AE.out]; exact(h.fresh 73 _).ext (Ext.alloc _ _))
 have AO:Hid (Safe W0 (xG p R) (w.heap.size+1) 232 JS):=yD (by
  have:=(h.ext (Ext.alloc w (.cells #[.pointer (some ⟨p,0,none⟩)] 73))).fresh 232 JS
  rw[yQ] at this;rw[←AE.out]
  exact this)
 have AR:Hid (B≤w.heap.size):=yD (Nat.le_trans h.pB (zS h.blk.lt));have AY:Hid ((w.alloc (.cells #[.pointer (some ⟨p,0,none⟩)] 73)).alloc (.cells #[.int .u8 0,.int .i64 0,.string ⟨#[]⟩,.int .i64 0,.slice none 0 0,.slice none 0 0] 232)=W0):=yD AE.out;obtain⟨gb,AU⟩:∃gb,Hid (w.heap.size=gb):=⟨_,yD rfl⟩;obtain⟨g,AW⟩:∃g,Hid (w.heap.size+1=g):=⟨_,yD rfl⟩;rw[AW.out] at AO;rw[AU.out] at AJ;have AB:Hid (gb≠g∧w.heap.size≤g):=yD (by have:=AU.out; have:=AW.out; omega);clear h hG hl
 go_enter Tryz.func213,Tryz.ntmps213
 go_upto_region 1 with fail
 rw[AY.out,AW.out,AU.out];have Ab:=AJ.out.1.cell 0;simp only[yI,yJ] at Ab
 go_wp2_with fail
 refine(ZG W0 p s R (HP.out.ext AP.out).ts).mono ?_;rintro e w1 ⟨rfl,AL⟩;have AK:=yD (AP.out.trans AL);have Ad:=yD (HP.out.ext AK.out);have AV:=yD (AJ.out.ext AL);have AD:=yD (AO.out.ext AL);clear AL Ab;unfold YC;have c1:=AD.out.1.cell 1;have z1:=AD.out.1.frozen 1;simp only[JS,yI,yJ,List.getElem?_cons_succ] at c1;have At:=AD.out.1.lt;have Ax:=AV.out.1.lt;have Ar:=AB.out.1
 go_upto_region 4 with fail
 obtain⟨W2,AM⟩:∃W2,Hid ((w1.setCell ⟨g,1,none⟩ (.int .i64 (s.hd.at_:Int))).alloc (.cells #[.int .u8 (s.hd.kind:Int),.int .i64 (s.hd.at_:Int),.int .i64 (s.hd.en:Int),.string (yX s.hd.text),.int .i64 s.hd.n] 29)=W2):=⟨_,yD rfl⟩;have AG:Hid (Ext (w1.setCell ⟨g,1,none⟩ (.int .i64 (s.hd.at_:Int))) W2):=yD (by rw[←AM.out]; exact Ext.alloc _ _);have Ai:Hid (PS W2 p B s R):=yD ((Ad.out.zDP (Nat.le_trans AR.out AB.out.2) AD.out.2).ext AG.out);have Aw:Hid (xH w (xG p R) W2 (xG p R)):=yD (((xH.ext AK.out).XZ AB.out.2).trans (xH.ext AG.out));have Ah:Hid (Safe W2 (xG p R) gb 73 #[.pointer (some ⟨p,0,none⟩)]):=yD ((AV.out.set Ar).ext AG.out);have A5:Hid (Safe W2 (xG p R) g 232 #[.int .u8 0,.int .i64 (s.hd.at_:Int),.string ⟨#[]⟩,.int .i64 0,.slice none 0 0,.slice none 0 0]):=yD ((AD.out.put 1 (.int .i64 (s.hd.at_:Int))).ext AG.out)
 have A0:Hid (Blk W2 w1.heap.size 29 #[.int .u8 (s.hd.kind:Int),.int .i64 (s.hd.at_:Int),.int .i64 (s.hd.en:Int),.string (yX s.hd.text),.int .i64 s.hd.n]):=yD (by
  have:=Blk.new (w1.setCell ⟨g,1,none⟩ (.int .i64 (s.hd.at_:Int))) 29 #[.int .u8 (s.hd.kind:Int),.int .i64 (s.hd.at_:Int),.int .i64 (s.hd.en:Int),.string (yX s.hd.text),.int .i64 s.hd.n]
  rw[AM.out,show(w1.setCell ⟨g,1,none⟩ (.int .i64 (s.hd.at_:Int))).heap.size=w1.heap.size by simp[World.setCell]] at this
  exact this)
 rw[AM.out];have BB:Hid (w.heap.size≤w1.heap.size):=yD AK.out.size;generalize w1.heap.size=gt at *;clear AM AG Ad AV AD AK AO AJ AP AE AY c1 z1 At Ax;have t0:=A0.out.cell 0;have cb:=Ah.out.1.cell 0;simp only[yI,yJ,List.getElem?_cons_succ] at t0 cb
 go_upto_region 8 with fail
 go_wp2_with fail
 refine(XT W2 p B s R [45] false HI Ai.out).mono ?_;rintro e w3 ⟨rfl,AF⟩;have A2:=yD (Ai.out.ext AF);have Az:=yD (Aw.out.trans (xH.ext AF));have Ag:=yD (Ah.out.ext AF);have AS:=yD (A5.out.ext AF);have c0:=AS.out.1.cell 0;have z0:=AS.out.1.frozen 0;simp only[yI,yJ,List.getElem?_cons_succ] at c0;have Ae:=Ag.out.1.cell 0;simp only[yI,yJ] at Ae;clear AF t0 cb
 go_upto_region 3 with fail
 have Au:=A2;have AN:=Az;have Aq:Hid (Safe w3 (xG p R) g 232 [.int .u8 0,.int .i64 (s.hd.at_:Int),.string ⟨#[]⟩,.int .i64 0,.slice none 0 0,.slice none 0 0].toArray):=AS;have Af:=Ag;clear c0 z0 Ae;generalize w3=W5 at *;have Aa:=Af.out.1.cell 0;simp only[yI,yJ] at Aa
 go_wp2_with fail
 have Ay:Hid (w.heap.size≤W5.heap.size):=yD AN.out.size;refine(zCJ (fun b=>b=g) W5 p B s R [40] [41] 215 #[] #[.pointer (some ⟨gb,0,none⟩),.pointer (some ⟨g,0,none⟩)] (sumOf (xM f)) (EAt w g p s.hd.at_ false) Au.out (enters_of Tryz.func215 (by kernel_rfl) rfl) (fun x R1 w1 R2 w2 h k=>h.xJ k) ?_ ?_).mono ?_
 ·intro hi hd x s' hr;have AX:Good { s.adv with deep:=s.deep+1 }:=⟨(HG.out.base.adv (vI hi).1).last,by show s.deep+1≤64; have:=HG.out.deep; omega,HG.out.few⟩
  have AQ:({ s.adv with deep:=s.deep+1 }:Ps).ts.length≤f:=by show s.adv.ts.length≤f; rw[jX]; have:=HL.out; omega
  have An:=(zGA f (fun t gt ht=>JW f t gt ht)) _ AX AQ;rw[hr] at An;exact An.2.2.2
 ·intro hi hd wr R' hm hp;have AX:Good { s.adv with deep:=s.deep+1 }:=⟨(HG.out.base.adv (vI hi).1).last,by show s.deep+1≤64; have:=HG.out.deep; omega,HG.out.few⟩
  have AQ:({ s.adv with deep:=s.deep+1 }:Ps).ts.length≤f:=by show s.adv.ts.length≤f; rw[jX]; have:=HL.out; omega
  exact zQI w wr p B gb g f s.hd.at_ _ R' (sumOf (xM f)) (zN6 f _ A4.out (fun t gt ht=>JW f t gt ht)) hp AX AQ (Af.out.xJ hm) _ rfl (Aq.out.xJ hm) (Nat.le_trans AR.out AB.out.2) (Nat.le_trans Ay.out hm.size)
 ·intro e w6 AH
  rcases AH.unit with ⟨x,s6,R6,hr,rfl,ho,cs,Ac,Al⟩ | ⟨er,at_,hr,rfl,s6,R6,As,ho⟩
  rotate_left
  ·have HF:Hid (zAr w p B R (xM (f+1) s) (jW er) w6):=yD (by rw[zKy Aj.out AZ.out HI.out,hr]; exact⟨rfl,s6,As,R6,ho.1,xH.zQb AN.out ho.2 (fun b hb=>by rw[hb]; exact AB.out.2)⟩);exact yZ (P:=Tryz.prog) (fn:=Tryz.f213) rfl HF.out
  have AT:Hid (xM (f+1) s=.ok x s6):=yD (by rw[zKy Aj.out AZ.out HI.out,hr]);have A7:=yD ho.1;have Ao:=yD (xH.zQb AN.out ho.2 (fun b hb=>by rw[hb]; exact AB.out.2));have AC:EX w6 (Or (xG p R6) (fun b=>under w b∨b=g)) x cs:=Al;obtain⟨A1,Am,f1,Ap,_⟩:=AC.open;subst Ap;have AA:=yD Ac;have A3:=yD AC;clear hr ho Ac Al AC Aa;generalize x=xx at *;generalize xx.parts.length=xm at *;generalize HY:xx.node=y at *;obtain⟨yk,yp,yt,yn,BA⟩:=y;have c0:=AA.out.1.cell 0;have c1:=AA.out.1.cell 1;have c2:=AA.out.1.cell 2;have c3:=AA.out.1.cell 3;have c4:=AA.out.1.cell 4;have c5:=AA.out.1.cell 5;simp only[jZ,yI,yJ,List.getElem?_cons_succ] at c0 c1 c2 c3 c4 c5
  go_wp2_with (refine vJ rfl 232 (.tmp 2) (.tmp 43) rfl g #[.int .u8 (yk:Int),.int .i64 (yp:Int),.string (yX yt),.int .i64 yn,.slice none 0 0,.slice A1 xm Am] (by rfl) (by rfl) 232 _ AA.out.1 (by kernel_rfl) rfl rfl ?_; intro w6 AI Ak)
  have A6:Hid (zAr w p B R (xM (f+1) s) (.returned (.agg #[.int .u8 (yk:Int),.int .i64 (yp:Int),.string (yX yt),.int .i64 yn,.slice none 0 0,.slice A1 xm Am])) w6):=yD (by
   rw[AT.out]
   exact⟨_,R6,rfl,AI.ps A7.out (Nat.le_trans AR.out AB.out.2) AA.out.2,Ao.out.YD AI AB.out.2,(A3.out.xJ (AI.xJ (.inr (.inr rfl)))).weaken fun b hb k=>by
    rcases k with k | k
    ·exact .inl k
    ·exact .inr (.inl k)⟩)
  have Av:=yD Ak;clear AI Ak
  go_wp2_with fail
  exact zCk g 232 _ _ Tryz.results213 rfl rfl Av.out Tryz.underlying232 rfl (by kernel_rfl) A6.out
theorem zJo:∀f,zCy 213 f (xM f)
 | 0=>fun w p B s R h hG hl=>absurd hG.pos (by omega)
 | f+1=>fun w p B s R h hG hl=>by
  by_cases h1:s.hd.kind=1
  ·exact zWf f w p B s R h hG hl h1
  ·by_cases h2:s.hd.kind=2
   ·exact zVB f w p B s R h hG hl h2
   ·cases h3:isP [45] s with
    | true=>exact zVU f w p B s R h hG hl h1 h2 h3 (zJo f)
    | false=>exact zWD f w p B s R h hG hl h1 h2 h3 (zJo f)
theorem zRT (w:World)(p B:Nat)(s:Ps)(R:xS)(h:PS w p B s R)(hG:Good s):Calls Tryz.prog 207 #[.pointer (some ⟨p,0,none⟩)] w (zAr w p B R (zLN s)):=
 zN6 s.ts.length (xM s.ts.length) (zJo _) (fun t gt ht=>JW _ t gt ht) w p B s R h hG (zU _)
theorem zAN (w:World)(p B:Nat)(s:Ps)(R:xS)(i:Nat)(h:PS w p B s R)(hG:Good s)(hi:i<s.nd.length)(hbig:s.phi≤1000000) :
  Calls Tryz.prog 200 #[.pointer (some ⟨p,0,none⟩),.int .i64 (i:Int)] w (xI w p B R (XC i s)):=by
 have HC:=yD (zRT w p B s R h hG);have AM:=yD (zI2 s hG);have HI:=yD hi;have AO:=yD hbig;clear h hG hi hbig
 go_enter Tryz.func200,Tryz.ntmps200
 go_wp2_with fail
 refine HC.out.mono ?_;intro e w1 AA;have AC:=AM.out
 cases hr:zLN s with
 | err er a=>
  rw[hr] at AA;obtain⟨rfl,ho⟩:=AA;have HF:Hid (xI w p B R (XC i s) (jW er) w1):=yD (by unfold XC; rw[hr]; exact⟨rfl,ho⟩);exact yZ (P:=Tryz.prog) (fn:=Tryz.f200) rfl HF.out
 | ok x s1=>
  rw[hr] at AA AC;obtain⟨cs,R1,rfl,AF,AE,AG⟩:=AA;obtain⟨AD,AK,AB,_⟩:=AC;have HR:Hid (XC i s=.ok () (zAe i x s1)):=yD (by unfold XC; rw[hr]; rfl);have AN:=yD AF;have AP:=yD AE;have AJ:=yD AG;have AH:=yD AD;have AI:Hid (i<s1.nd.length):=yD (by rw[AB]; exact HI.out);have AL:Hid (s1.nd.length+x.size≤1000000):=yD (by rw[AB]; have:=AO.out; unfold Ps.phi at this; omega);clear hr AF AE AG AD AK AB
  go_wp2_with fail
  refine(zNW x.size x (zU _) w1 p B s1 R1 i cs AN.out AH.out AI.out AL.out (AJ.out.weaken fun b _ k=>.inl k)).mono ?_;rintro e w2 ⟨rfl,ho⟩;have HO:=yD (OkP.trans AP.out ho);clear ho
  go_wp2_with fail
  go_end0;rw[HR.out];exact xI.ok HO.out
end Go.Proofs.YtioffpjajhalaaaGreatDoor
