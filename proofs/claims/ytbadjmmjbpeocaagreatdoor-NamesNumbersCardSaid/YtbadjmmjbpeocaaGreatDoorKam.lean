/- The program's factor, and an expression as a kid. Condition: the nodes fit into memory. -/
import Derived.Test.YtbadjmmjbpeocaaGreatDoorKaa
import Derived.Test.YtbadjmmjbpeocaaGreatDoorKal
set_option linter.unusedVariables false
set_option linter.unusedSimpArgs false
set_option maxRecDepth 100000
set_option maxHeartbeats 16000000
namespace Go.Proofs.YtbadjmmjbpeocaaGreatDoor
open Go Go.RowKit
theorem PS.zDK {w:World}{p B:Nat}{s:Ps}{R:xV}(h:PS w p B s R){g i:Nat}{u:Value}(hB:B≤g)(hM:¬xL p R g):PS (w.setCell ⟨g,i,none⟩ u) p B s R:=
 h.jL fun b hb=>zS w ⟨g,i,none⟩ _ b fun e=>by
  subst e
  rcases hb with hb | hb
  ·omega
  ·exact hM hb
theorem Safe.set {w:World}{M:Nat→Prop}{g g' i:Nat}{t:TypeId}{cs:Array Value}{u:Value}(h:Safe w M g' t cs)(hn:g'≠g):Safe (w.setCell ⟨g,i,none⟩ u) M g' t cs:=⟨(zS w ⟨g,i,none⟩ _ g' hn).trans h.1,h.2⟩
theorem Safe.put {w:World}{M:Nat→Prop}{g:Nat}{t:TypeId}{cs:Array Value}(h:Safe w M g t cs)(i:Nat)(u:Value):Safe (w.setCell ⟨g,i,none⟩ u) M g t (cs.setIfInBounds i u):=⟨h.1.put i u,h.2⟩
theorem Safe.ext {w w':World}{M:Nat→Prop}{g:Nat}{t:TypeId}{cs:Array Value}(h:Safe w M g t cs)(hx:Ext w w'):Safe w' M g t cs:=⟨h.1.ext hx,h.2⟩
theorem xD.XY {w w1:World}{M M1:Nat→Prop}(k:xD w M w1 M1){g i:Nat}{u:Value}(hg:w.heap.size≤g):xD w M (w1.setCell ⟨g,i,none⟩ u) M1:=
 ⟨k.os,k.tape,k.output,by have:=k.size; simp[World.setCell]; omega,fun b hb hM=>(zS w1 ⟨g,i,none⟩ u b (fun e=>by subst e; exact absurd hb (Nat.not_lt.2 hg))).trans (k.jL b hb hM),k.zDv⟩
theorem xD.zPs {w w1 w2:World}{M M1 M2 X:Nat→Prop}(h0:xD w M w1 M1)(h:xD w1 (Or M1 X) w2 (Or M2 X))(hX:∀b,X b→w.heap.size≤b):xD w M w2 M2:=
 ⟨h.os.trans h0.os,h.tape.trans h0.tape,h.output.trans h0.output,Nat.le_trans h0.size h.size,fun b hb hm=>(h.jL b (yU hb h0.size) fun k=>by
   rcases k with k | k
   ·rcases h0.zDv b k with k | k
    ·exact hm k
    ·omega
   ·have:=hX b k; omega).trans (h0.jL b hb hm),fun b hb=>by
  rcases h.zDv b (.inl hb) with (h1 | h1) | h1
  ·exact h0.zDv b h1
  ·exact .inr (hX b h1)
  ·exact .inr (Nat.le_trans h0.size h1)⟩
theorem zQC {f:Nat}{s:Ps}(h:s.hd.kind=1):vL (f+1) s=.ok (.leaf 22 s.hd.at_ s.hd.text 0) s.adv:=by unfold vL; rw[if_pos h]
theorem zRf {f:Nat}{s:Ps}(h:s.hd.kind=2):vL (f+1) s=.ok (.leaf 21 s.hd.at_ [] s.hd.n) s.adv:=by unfold vL; rw[if_neg (by omega),if_pos h]
theorem zKb {f:Nat}{s:Ps}(h1:s.hd.kind≠1)(h2:s.hd.kind≠2)(h3:isP [45] s=true):vL (f+1) s=(jF [45] [] (vL f) s).bind fun a t=>.ok (.neg s.hd.at_ a) t:=by
 rw[vL,if_neg h1,if_neg h2,if_pos h3]
theorem zJ6 {f:Nat}{s:Ps}(h1:s.hd.kind≠1)(h2:s.hd.kind≠2)(h3:isP [45] s=false):vL (f+1) s=jF [40] [41] (zEr (vL f)) s:=by
 rw[vL,if_neg h1,if_neg h2,h3]
 rfl
theorem zUJ (f:Nat)(w:World)(p B:Nat)(s:Ps)(R:xV)(h:PS w p B s R)(hG:Good s)(hl:s.ts.length≤f+1)(hk:s.hd.kind=1) :
  Calls Tryz.prog 169 #[.pointer (some ⟨p,0,none⟩)] w (zAn w p B R (vL (f+1) s)):=by
 have HP:=yG h;have HG:=yG hG;have HL:=yG hl;have HK:=yG hk;clear hk;have hm:=hmf;have hf3:=zAf;have hf4:=zDe;obtain⟨W0,HW0⟩:∃W0,Hid ((w.alloc (.cells #[.pointer (some ⟨p,0,none⟩)] 70)).alloc (.cells JK 225)=W0):=⟨_,yG rfl⟩;have HX0:Hid (Ext w W0):=yG (by rw[←HW0.out]; exact(Ext.alloc _ _).trans (Ext.alloc _ _));have HB0:Hid (Safe W0 (xL p R) w.heap.size 70 #[.pointer (some ⟨p,0,none⟩)]):=yG (by rw[←HW0.out]; exact(h.fresh 70 _).ext (Ext.alloc _ _))
 have HE0:Hid (Safe W0 (xL p R) (w.heap.size+1) 225 JK):=yG (by
  have:=(h.ext (Ext.alloc w (.cells #[.pointer (some ⟨p,0,none⟩)] 70))).fresh 225 JK
  rw[yT] at this;rw[←HW0.out]
  exact this)
 have HBW:Hid (B≤w.heap.size):=yG (Nat.le_trans h.pB (zV h.blk.lt));have HWE:Hid ((w.alloc (.cells #[.pointer (some ⟨p,0,none⟩)] 70)).alloc (.cells #[.int .u8 0,.int .i64 0,.string ⟨#[]⟩,.int .i64 0,.slice none 0 0,.slice none 0 0] 225)=W0):=yG HW0.out;obtain⟨gb,HGB⟩:∃gb,Hid (w.heap.size=gb):=⟨_,yG rfl⟩;obtain⟨g,HGE⟩:∃g,Hid (w.heap.size+1=g):=⟨_,yG rfl⟩;rw[HGE.out] at HE0;rw[HGB.out] at HB0;have HGG:Hid (gb≠g∧w.heap.size≤g):=yG (by have:=HGB.out; have:=HGE.out; omega);clear h hG hl
 go_enter Tryz.func169,Tryz.ntmps169
 go_upto_region 1 with fail
 rw[HWE.out,HGE.out,HGB.out];have cb0:=HB0.out.1.cell 0;simp only[yL,yM] at cb0
 go_wp2_with fail
 refine(ZE W0 p s R (HP.out.ext HX0.out).ts).mono ?_;rintro e w1 ⟨rfl,hx1⟩;have HX1:=yG (HX0.out.trans hx1);have HP1:=yG (HP.out.ext HX1.out);have HB1:=yG (HB0.out.ext hx1);have HE1:=yG (HE0.out.ext hx1);clear hx1 cb0;unfold ZW;have c1:=HE1.out.1.cell 1;have z1:=HE1.out.1.frozen 1;simp only[JK,yL,yM,List.getElem?_cons_succ] at c1;have hgl:=HE1.out.1.lt;have hbl:=HB1.out.1.lt;have hgn:=HGG.out.1
 go_upto_region 4 with fail
 obtain⟨W2,HW2⟩:∃W2,Hid ((w1.setCell ⟨g,1,none⟩ (.int .i64 (s.hd.at_:Int))).alloc (.cells #[.int .u8 (s.hd.kind:Int),.int .i64 (s.hd.at_:Int),.int .i64 (s.hd.en:Int),.string (xI s.hd.text),.int .i64 s.hd.n] 75)=W2):=⟨_,yG rfl⟩;have HX2:Hid (Ext (w1.setCell ⟨g,1,none⟩ (.int .i64 (s.hd.at_:Int))) W2):=yG (by rw[←HW2.out]; exact Ext.alloc _ _);have HP2:Hid (PS W2 p B s R):=yG ((HP1.out.zDK (Nat.le_trans HBW.out HGG.out.2) HE1.out.2).ext HX2.out);have HM2:Hid (xD w (xL p R) W2 (xL p R)):=yG (((xD.ext HX1.out).XY HGG.out.2).trans (xD.ext HX2.out));have HB2:Hid (Safe W2 (xL p R) gb 70 #[.pointer (some ⟨p,0,none⟩)]):=yG ((HB1.out.set hgn).ext HX2.out);have HE2:Hid (Safe W2 (xL p R) g 225 #[.int .u8 0,.int .i64 (s.hd.at_:Int),.string ⟨#[]⟩,.int .i64 0,.slice none 0 0,.slice none 0 0]):=yG ((HE1.out.put 1 (.int .i64 (s.hd.at_:Int))).ext HX2.out)
 have HT2:Hid (Blk W2 w1.heap.size 75 #[.int .u8 (s.hd.kind:Int),.int .i64 (s.hd.at_:Int),.int .i64 (s.hd.en:Int),.string (xI s.hd.text),.int .i64 s.hd.n]):=yG (by
  have:=Blk.new (w1.setCell ⟨g,1,none⟩ (.int .i64 (s.hd.at_:Int))) 75 #[.int .u8 (s.hd.kind:Int),.int .i64 (s.hd.at_:Int),.int .i64 (s.hd.en:Int),.string (xI s.hd.text),.int .i64 s.hd.n]
  rw[HW2.out,show(w1.setCell ⟨g,1,none⟩ (.int .i64 (s.hd.at_:Int))).heap.size=w1.heap.size by simp[World.setCell]] at this
  exact this)
 rw[HW2.out];have HG1:Hid (w.heap.size≤w1.heap.size):=yG HX1.out.size;generalize w1.heap.size=gt at *;clear HW2 HX2 HP1 HB1 HE1 HX1 HE0 HB0 HX0 HW0 HWE c1 z1 hgl hbl;have t0:=HT2.out.cell 0;have cb:=HB2.out.1.cell 0;simp only[yL,yM,List.getElem?_cons_succ] at t0 cb;rw[HK.out] at t0
 go_wp2_with fail
 refine(zIx W2 p B s R 1 HK (by decide) HP2.out).mono ?_;rintro e w3 ⟨rfl,ho⟩;unfold ZW;have HP3:=yG ho.1;have HM3:=yG (HM2.out.trans ho.2);have HE3:=yG (HE2.out.xG ho.2);have c0:=HE3.out.1.cell 0;have c2:=HE3.out.1.cell 2;have z0:=HE3.out.1.frozen 0;have z2:=HE3.out.1.frozen 2;simp only[yL,yM,List.getElem?_cons_succ] at c0 c2;clear ho t0 cb
 go_upto_region 11 with fail
 have HP4:=yG ((HP3.out.zDK (i:=0) (u:=.int .u8 22) (Nat.le_trans HBW.out HGG.out.2) HE3.out.2).zDK (i:=2) (u:=.string (xI s.hd.text)) (Nat.le_trans HBW.out HGG.out.2) HE3.out.2);have HM4:=yG ((HM3.out.XY (i:=0) (u:=.int .u8 22) HGG.out.2).XY (i:=2) (u:=.string (xI s.hd.text)) HGG.out.2);have HE4:Hid (Safe _ _ g 225 (jZ ⟨22,s.hd.at_,s.hd.text,0,[]⟩ none 0 0).toArray):=yG ((HE3.out.put 0 (.int .u8 22)).put 2 (.string (xI s.hd.text)));clear c0 c2 z0 z2;generalize (w3.setCell ⟨g,0,none⟩ (.int .u8 22)).setCell ⟨g,2,none⟩ (.string (xI s.hd.text))=W4 at *;have HX4:Hid (EX W4 (Or (xL p R.adv) (fun b=>under w b∨b=g)) (.leaf 22 s.hd.at_ s.hd.text 0) (jZ ⟨22,s.hd.at_,s.hd.text,0,[]⟩ none 0 0)):=yG rfl;have HRES:=yG (zQC (f:=f) HK.out);have c0:=HE4.out.1.cell 0;have c1:=HE4.out.1.cell 1;have c2:=HE4.out.1.cell 2;have c3:=HE4.out.1.cell 3;have c4:=HE4.out.1.cell 4;have c5:=HE4.out.1.cell 5;simp only[jZ,yL,yM,List.getElem?_cons_succ] at c0 c1 c2 c3 c4 c5
 go_wp2_with (refine vK rfl 225 (.tmp 2) (.tmp 43) rfl g #[.int .u8 22,.int .i64 (s.hd.at_:Int),.string (xI s.hd.text),.int .i64 0,.slice none 0 0,.slice none 0 0] (by rfl) (by rfl) 225 _ HE4.out.1 (by kernel_rfl) rfl rfl ?_; intro w6 ht6 hb6)
 have HF6:Hid (zAn w p B R (vL (f+1) s) (.returned (.agg #[.int .u8 22,.int .i64 (s.hd.at_:Int),.string (xI s.hd.text),.int .i64 0,.slice none 0 0,.slice none 0 0])) w6):=yG (by
  rw[HRES.out]
  exact⟨_,R.adv,rfl,ht6.ps HP4.out (Nat.le_trans HBW.out HGG.out.2) HE4.out.2,HM4.out.ZX ht6 HGG.out.2,(HX4.out.xG (ht6.xG (.inr (.inr rfl)))).weaken fun b hb k=>by
   rcases k with k | k
   ·exact .inl k
   ·exact .inr (.inl k)⟩)
 have HB6:=yG hb6;clear ht6 hb6
 go_wp2_with fail
 exact zCQ g 225 _ _ Tryz.results169 rfl rfl HB6.out Tryz.underlying225 rfl (by kernel_rfl) HF6.out
theorem zUs (f:Nat)(w:World)(p B:Nat)(s:Ps)(R:xV)(h:PS w p B s R)(hG:Good s)(hl:s.ts.length≤f+1)(hk:s.hd.kind=2) :
  Calls Tryz.prog 169 #[.pointer (some ⟨p,0,none⟩)] w (zAn w p B R (vL (f+1) s)):=by
 have HP:=yG h;have HG:=yG hG;have HL:=yG hl;have HK:=yG hk;clear hk;have hm:=hmf;have hf3:=zAf;have hf4:=zDe;obtain⟨W0,HW0⟩:∃W0,Hid ((w.alloc (.cells #[.pointer (some ⟨p,0,none⟩)] 70)).alloc (.cells JK 225)=W0):=⟨_,yG rfl⟩;have HX0:Hid (Ext w W0):=yG (by rw[←HW0.out]; exact(Ext.alloc _ _).trans (Ext.alloc _ _));have HB0:Hid (Safe W0 (xL p R) w.heap.size 70 #[.pointer (some ⟨p,0,none⟩)]):=yG (by rw[←HW0.out]; exact(h.fresh 70 _).ext (Ext.alloc _ _))
 have HE0:Hid (Safe W0 (xL p R) (w.heap.size+1) 225 JK):=yG (by
  have:=(h.ext (Ext.alloc w (.cells #[.pointer (some ⟨p,0,none⟩)] 70))).fresh 225 JK
  rw[yT] at this;rw[←HW0.out]
  exact this)
 have HBW:Hid (B≤w.heap.size):=yG (Nat.le_trans h.pB (zV h.blk.lt));have HWE:Hid ((w.alloc (.cells #[.pointer (some ⟨p,0,none⟩)] 70)).alloc (.cells #[.int .u8 0,.int .i64 0,.string ⟨#[]⟩,.int .i64 0,.slice none 0 0,.slice none 0 0] 225)=W0):=yG HW0.out;obtain⟨gb,HGB⟩:∃gb,Hid (w.heap.size=gb):=⟨_,yG rfl⟩;obtain⟨g,HGE⟩:∃g,Hid (w.heap.size+1=g):=⟨_,yG rfl⟩;rw[HGE.out] at HE0;rw[HGB.out] at HB0;have HGG:Hid (gb≠g∧w.heap.size≤g):=yG (by have:=HGB.out; have:=HGE.out; omega);clear h hG hl
 go_enter Tryz.func169,Tryz.ntmps169
 go_upto_region 1 with fail
 rw[HWE.out,HGE.out,HGB.out];have cb0:=HB0.out.1.cell 0;simp only[yL,yM] at cb0
 go_wp2_with fail
 refine(ZE W0 p s R (HP.out.ext HX0.out).ts).mono ?_;rintro e w1 ⟨rfl,hx1⟩;have HX1:=yG (HX0.out.trans hx1);have HP1:=yG (HP.out.ext HX1.out);have HB1:=yG (HB0.out.ext hx1);have HE1:=yG (HE0.out.ext hx1);clear hx1 cb0;unfold ZW;have c1:=HE1.out.1.cell 1;have z1:=HE1.out.1.frozen 1;simp only[JK,yL,yM,List.getElem?_cons_succ] at c1;have hgl:=HE1.out.1.lt;have hbl:=HB1.out.1.lt;have hgn:=HGG.out.1
 go_upto_region 4 with fail
 obtain⟨W2,HW2⟩:∃W2,Hid ((w1.setCell ⟨g,1,none⟩ (.int .i64 (s.hd.at_:Int))).alloc (.cells #[.int .u8 (s.hd.kind:Int),.int .i64 (s.hd.at_:Int),.int .i64 (s.hd.en:Int),.string (xI s.hd.text),.int .i64 s.hd.n] 75)=W2):=⟨_,yG rfl⟩;have HX2:Hid (Ext (w1.setCell ⟨g,1,none⟩ (.int .i64 (s.hd.at_:Int))) W2):=yG (by rw[←HW2.out]; exact Ext.alloc _ _);have HP2:Hid (PS W2 p B s R):=yG ((HP1.out.zDK (Nat.le_trans HBW.out HGG.out.2) HE1.out.2).ext HX2.out);have HM2:Hid (xD w (xL p R) W2 (xL p R)):=yG (((xD.ext HX1.out).XY HGG.out.2).trans (xD.ext HX2.out));have HB2:Hid (Safe W2 (xL p R) gb 70 #[.pointer (some ⟨p,0,none⟩)]):=yG ((HB1.out.set hgn).ext HX2.out);have HE2:Hid (Safe W2 (xL p R) g 225 #[.int .u8 0,.int .i64 (s.hd.at_:Int),.string ⟨#[]⟩,.int .i64 0,.slice none 0 0,.slice none 0 0]):=yG ((HE1.out.put 1 (.int .i64 (s.hd.at_:Int))).ext HX2.out)
 have HT2:Hid (Blk W2 w1.heap.size 75 #[.int .u8 (s.hd.kind:Int),.int .i64 (s.hd.at_:Int),.int .i64 (s.hd.en:Int),.string (xI s.hd.text),.int .i64 s.hd.n]):=yG (by
  have:=Blk.new (w1.setCell ⟨g,1,none⟩ (.int .i64 (s.hd.at_:Int))) 75 #[.int .u8 (s.hd.kind:Int),.int .i64 (s.hd.at_:Int),.int .i64 (s.hd.en:Int),.string (xI s.hd.text),.int .i64 s.hd.n]
  rw[HW2.out,show(w1.setCell ⟨g,1,none⟩ (.int .i64 (s.hd.at_:Int))).heap.size=w1.heap.size by simp[World.setCell]] at this
  exact this)
 rw[HW2.out];have HG1:Hid (w.heap.size≤w1.heap.size):=yG HX1.out.size;generalize w1.heap.size=gt at *;clear HW2 HX2 HP1 HB1 HE1 HX1 HE0 HB0 HX0 HW0 HWE c1 z1 hgl hbl;have t0:=HT2.out.cell 0;have cb:=HB2.out.1.cell 0;simp only[yL,yM,List.getElem?_cons_succ] at t0 cb;rw[HK.out] at t0
 go_wp2_with fail
 refine(zIx W2 p B s R 2 HK (by decide) HP2.out).mono ?_;rintro e w3 ⟨rfl,ho⟩;unfold ZW;have HP3:=yG ho.1;have HM3:=yG (HM2.out.trans ho.2);have HE3:=yG (HE2.out.xG ho.2);have c0:=HE3.out.1.cell 0;have c2:=HE3.out.1.cell 3;have z0:=HE3.out.1.frozen 0;have z2:=HE3.out.1.frozen 3;simp only[yL,yM,List.getElem?_cons_succ] at c0 c2;clear ho t0 cb
 go_upto_region 11 with fail
 have HP4:=yG ((HP3.out.zDK (i:=0) (u:=.int .u8 21) (Nat.le_trans HBW.out HGG.out.2) HE3.out.2).zDK (i:=3) (u:=.int .i64 s.hd.n) (Nat.le_trans HBW.out HGG.out.2) HE3.out.2);have HM4:=yG ((HM3.out.XY (i:=0) (u:=.int .u8 21) HGG.out.2).XY (i:=3) (u:=.int .i64 s.hd.n) HGG.out.2);have HE4:Hid (Safe _ _ g 225 (jZ ⟨21,s.hd.at_,[],s.hd.n,[]⟩ none 0 0).toArray):=yG ((HE3.out.put 0 (.int .u8 21)).put 3 (.int .i64 s.hd.n));clear c0 c2 z0 z2;generalize (w3.setCell ⟨g,0,none⟩ (.int .u8 21)).setCell ⟨g,3,none⟩ (.int .i64 s.hd.n)=W4 at *;have HX4:Hid (EX W4 (Or (xL p R.adv) (fun b=>under w b∨b=g)) (.leaf 21 s.hd.at_ [] s.hd.n) (jZ ⟨21,s.hd.at_,[],s.hd.n,[]⟩ none 0 0)):=yG rfl;have HRES:=yG (zRf (f:=f) HK.out);have c0:=HE4.out.1.cell 0;have c1:=HE4.out.1.cell 1;have c2:=HE4.out.1.cell 2;have c3:=HE4.out.1.cell 3;have c4:=HE4.out.1.cell 4;have c5:=HE4.out.1.cell 5;simp only[jZ,yL,yM,List.getElem?_cons_succ] at c0 c1 c2 c3 c4 c5
 go_wp2_with (refine vK rfl 225 (.tmp 2) (.tmp 43) rfl g #[.int .u8 21,.int .i64 (s.hd.at_:Int),.string ⟨#[]⟩,.int .i64 s.hd.n,.slice none 0 0,.slice none 0 0] (by rfl) (by rfl) 225 _ HE4.out.1 (by kernel_rfl) rfl rfl ?_; intro w6 ht6 hb6)
 have HF6:Hid (zAn w p B R (vL (f+1) s) (.returned (.agg #[.int .u8 21,.int .i64 (s.hd.at_:Int),.string ⟨#[]⟩,.int .i64 s.hd.n,.slice none 0 0,.slice none 0 0])) w6):=yG (by
  rw[HRES.out]
  exact⟨_,R.adv,rfl,ht6.ps HP4.out (Nat.le_trans HBW.out HGG.out.2) HE4.out.2,HM4.out.ZX ht6 HGG.out.2,(HX4.out.xG (ht6.xG (.inr (.inr rfl)))).weaken fun b hb k=>by
   rcases k with k | k
   ·exact .inl k
   ·exact .inr (.inl k)⟩)
 have HB6:=yG hb6;clear ht6 hb6
 go_wp2_with fail
 exact zCQ g 225 _ _ Tryz.results169 rfl rfl HB6.out Tryz.underlying225 rfl (by kernel_rfl) HF6.out
theorem zUy (f:Nat)(w:World)(p B:Nat)(s:Ps)(R:xV)(h:PS w p B s R)(hG:Good s)(hl:s.ts.length≤f+1)(h1:s.hd.kind≠1)(h2:s.hd.kind≠2)(h3:isP [45] s=true)(ih:zCv 169 f (vL f)) :
  Calls Tryz.prog 169 #[.pointer (some ⟨p,0,none⟩)] w (zAn w p B R (vL (f+1) s)):=by
 have HP:=yG h;have HG:=yG hG;have HL:=yG hl;have HK1:=yG h1;have HK2:=yG h2;have HI:=yG h3;have HIH:=yG ih
 have n1:((s.hd.kind:Int)==1)=false:=by rw[yI]; omega
 have n2:((s.hd.kind:Int)==2)=false:=by rw[yI]; omega
 have m1:¬(s.hd.kind:Int)=1:=by omega
 have m2:¬(s.hd.kind:Int)=2:=by omega
 clear h1 h2 h3 ih;have hm:=hmf;have hf3:=zAf;have hf4:=zDe;obtain⟨W0,HW0⟩:∃W0,Hid ((w.alloc (.cells #[.pointer (some ⟨p,0,none⟩)] 70)).alloc (.cells JK 225)=W0):=⟨_,yG rfl⟩;have HX0:Hid (Ext w W0):=yG (by rw[←HW0.out]; exact(Ext.alloc _ _).trans (Ext.alloc _ _));have HB0:Hid (Safe W0 (xL p R) w.heap.size 70 #[.pointer (some ⟨p,0,none⟩)]):=yG (by rw[←HW0.out]; exact(h.fresh 70 _).ext (Ext.alloc _ _))
 have HE0:Hid (Safe W0 (xL p R) (w.heap.size+1) 225 JK):=yG (by
  have:=(h.ext (Ext.alloc w (.cells #[.pointer (some ⟨p,0,none⟩)] 70))).fresh 225 JK
  rw[yT] at this;rw[←HW0.out]
  exact this)
 have HBW:Hid (B≤w.heap.size):=yG (Nat.le_trans h.pB (zV h.blk.lt));have HWE:Hid ((w.alloc (.cells #[.pointer (some ⟨p,0,none⟩)] 70)).alloc (.cells #[.int .u8 0,.int .i64 0,.string ⟨#[]⟩,.int .i64 0,.slice none 0 0,.slice none 0 0] 225)=W0):=yG HW0.out;obtain⟨gb,HGB⟩:∃gb,Hid (w.heap.size=gb):=⟨_,yG rfl⟩;obtain⟨g,HGE⟩:∃g,Hid (w.heap.size+1=g):=⟨_,yG rfl⟩;rw[HGE.out] at HE0;rw[HGB.out] at HB0;have HGG:Hid (gb≠g∧w.heap.size≤g):=yG (by have:=HGB.out; have:=HGE.out; omega);clear h hG hl
 go_enter Tryz.func169,Tryz.ntmps169
 go_upto_region 1 with fail
 rw[HWE.out,HGE.out,HGB.out];have cb0:=HB0.out.1.cell 0;simp only[yL,yM] at cb0
 go_wp2_with fail
 refine(ZE W0 p s R (HP.out.ext HX0.out).ts).mono ?_;rintro e w1 ⟨rfl,hx1⟩;have HX1:=yG (HX0.out.trans hx1);have HP1:=yG (HP.out.ext HX1.out);have HB1:=yG (HB0.out.ext hx1);have HE1:=yG (HE0.out.ext hx1);clear hx1 cb0;unfold ZW;have c1:=HE1.out.1.cell 1;have z1:=HE1.out.1.frozen 1;simp only[JK,yL,yM,List.getElem?_cons_succ] at c1;have hgl:=HE1.out.1.lt;have hbl:=HB1.out.1.lt;have hgn:=HGG.out.1
 go_upto_region 4 with fail
 obtain⟨W2,HW2⟩:∃W2,Hid ((w1.setCell ⟨g,1,none⟩ (.int .i64 (s.hd.at_:Int))).alloc (.cells #[.int .u8 (s.hd.kind:Int),.int .i64 (s.hd.at_:Int),.int .i64 (s.hd.en:Int),.string (xI s.hd.text),.int .i64 s.hd.n] 75)=W2):=⟨_,yG rfl⟩;have HX2:Hid (Ext (w1.setCell ⟨g,1,none⟩ (.int .i64 (s.hd.at_:Int))) W2):=yG (by rw[←HW2.out]; exact Ext.alloc _ _);have HP2:Hid (PS W2 p B s R):=yG ((HP1.out.zDK (Nat.le_trans HBW.out HGG.out.2) HE1.out.2).ext HX2.out);have HM2:Hid (xD w (xL p R) W2 (xL p R)):=yG (((xD.ext HX1.out).XY HGG.out.2).trans (xD.ext HX2.out));have HB2:Hid (Safe W2 (xL p R) gb 70 #[.pointer (some ⟨p,0,none⟩)]):=yG ((HB1.out.set hgn).ext HX2.out);have HE2:Hid (Safe W2 (xL p R) g 225 #[.int .u8 0,.int .i64 (s.hd.at_:Int),.string ⟨#[]⟩,.int .i64 0,.slice none 0 0,.slice none 0 0]):=yG ((HE1.out.put 1 (.int .i64 (s.hd.at_:Int))).ext HX2.out)
 have HT2:Hid (Blk W2 w1.heap.size 75 #[.int .u8 (s.hd.kind:Int),.int .i64 (s.hd.at_:Int),.int .i64 (s.hd.en:Int),.string (xI s.hd.text),.int .i64 s.hd.n]):=yG (by
  have:=Blk.new (w1.setCell ⟨g,1,none⟩ (.int .i64 (s.hd.at_:Int))) 75 #[.int .u8 (s.hd.kind:Int),.int .i64 (s.hd.at_:Int),.int .i64 (s.hd.en:Int),.string (xI s.hd.text),.int .i64 s.hd.n]
  rw[HW2.out,show(w1.setCell ⟨g,1,none⟩ (.int .i64 (s.hd.at_:Int))).heap.size=w1.heap.size by simp[World.setCell]] at this
  exact this)
 rw[HW2.out];have HG1:Hid (w.heap.size≤w1.heap.size):=yG HX1.out.size;generalize w1.heap.size=gt at *;clear HW2 HX2 HP1 HB1 HE1 HX1 HE0 HB0 HX0 HW0 HWE c1 z1 hgl hbl;have t0:=HT2.out.cell 0;have cb:=HB2.out.1.cell 0;simp only[yL,yM,List.getElem?_cons_succ] at t0 cb
 go_upto_region 8 with fail
 go_wp2_with fail
 refine(XO W2 p B s R [45] true HI HP2.out).mono ?_;rintro e w3 ⟨rfl,hx3⟩;have HP3:=yG (HP2.out.ext hx3);have HM3:=yG (HM2.out.trans (xD.ext hx3));have HB3:=yG (HB2.out.ext hx3);have HE3:=yG (HE2.out.ext hx3);have c0:=HE3.out.1.cell 0;have z0:=HE3.out.1.frozen 0;simp only[yL,yM,List.getElem?_cons_succ] at c0;have cb3:=HB3.out.1.cell 0;simp only[yL,yM] at cb3;clear hx3 t0 cb
 go_upto_region 10 with fail
 have HP5:=yG (HP3.out.zDK (i:=0) (u:=.int .u8 26) (Nat.le_trans HBW.out HGG.out.2) HE3.out.2);have HM5:=yG (HM3.out.XY (i:=0) (u:=.int .u8 26) HGG.out.2);have HE5:Hid (Safe _ _ g 225 (jZ ⟨26,s.hd.at_,[],0,[]⟩ none 0 0).toArray):=yG (HE3.out.put 0 (.int .u8 26));have HB5:=yG (HB3.out.set (g:=g) (i:=0) (u:=.int .u8 26) hgn);clear c0 z0 cb3;generalize w3.setCell ⟨g,0,none⟩ (.int .u8 26)=W5 at *;have cb5:=HB5.out.1.cell 0;simp only[yL,yM] at cb5
 go_wp2_with fail
 have HSZ:Hid (w.heap.size≤W5.heap.size):=yG HM5.out.size;refine(zCH (fun b=>b=g) W5 p B s R [45] [] 170 #[] #[.pointer (some ⟨gb,0,none⟩),.pointer (some ⟨g,0,none⟩)] (vL f) (EAt w g p s.hd.at_ true) HP5.out (enters_of Tryz.func170 (by kernel_rfl) rfl) (fun x R1 w1 R2 w2 h k=>h.xG k) ?_ ?_).mono ?_
 ·intro hi hd x s' hr;have hg2:Good { s.adv with deep:=s.deep+1 }:=⟨(HG.out.base.adv (vN hi).1).last,by show s.deep+1≤64; have:=HG.out.deep; omega,HG.out.few⟩
  have hl2:({ s.adv with deep:=s.deep+1 }:Ps).ts.length≤f:=by show s.adv.ts.length≤f; rw[jX]; have:=HL.out; omega
  have hff:=JN f _ hg2 hl2;rw[hr] at hff;exact hff.2.2.2
 ·intro hi hd wr R' hm hp;have hg2:Good { s.adv with deep:=s.deep+1 }:=⟨(HG.out.base.adv (vN hi).1).last,by show s.deep+1≤64; have:=HG.out.deep; omega,HG.out.few⟩
  have hl2:({ s.adv with deep:=s.deep+1 }:Ps).ts.length≤f:=by show s.adv.ts.length≤f; rw[jX]; have:=HL.out; omega
  exact zQF w wr p B gb g f s.hd.at_ _ R' (vL f) HIH.out hp hg2 hl2 (HB5.out.xG hm) (HE5.out.xG hm) (Nat.le_trans HBW.out HGG.out.2) (Nat.le_trans HSZ.out hm.size)
 ·intro e w6 hpost
  rcases hpost.unit with ⟨x,s6,R6,hr,rfl,ho,cs,hsg,hex⟩ | ⟨er,at_,hr,rfl,s6,R6,hat,ho⟩
  rotate_left
  ·have HF:Hid (zAn w p B R (vL (f+1) s) (jW er) w6):=yG (by rw[zKb HK1.out HK2.out HI.out,hr]; exact⟨rfl,s6,hat,R6,ho.1,xD.zPs HM5.out ho.2 (fun b hb=>by rw[hb]; exact HGG.out.2)⟩);exact xE (P:=Tryz.prog) (fn:=Tryz.f169) rfl HF.out
  have HRES:Hid (vL (f+1) s=.ok (Ex.neg s.hd.at_ x) s6):=yG (by rw[zKb HK1.out HK2.out HI.out,hr]; rfl);have HP4:=yG ho.1;have HM4:=yG (xD.zPs HM5.out ho.2 (fun b hb=>by rw[hb]; exact HGG.out.2));have hex2:EX w6 (Or (xL p R6) (fun b=>under w b∨b=g)) (Ex.neg s.hd.at_ x) cs:=hex;obtain⟨A1,cc1,f1,hcs,_⟩:=hex2.open;subst hcs;have HE4:=yG hsg;have HX4:=yG hex2;clear hr ho hsg hex hex2 cb5;generalize (Ex.neg s.hd.at_ x)=xx at *;generalize xx.parts.length=xm at *;generalize HY:xx.node=y at *;obtain⟨yk,yp,yt,yn,yks⟩:=y;have c0:=HE4.out.1.cell 0;have c1:=HE4.out.1.cell 1;have c2:=HE4.out.1.cell 2;have c3:=HE4.out.1.cell 3;have c4:=HE4.out.1.cell 4;have c5:=HE4.out.1.cell 5;simp only[jZ,yL,yM,List.getElem?_cons_succ] at c0 c1 c2 c3 c4 c5
  go_wp2_with (refine vK rfl 225 (.tmp 2) (.tmp 43) rfl g #[.int .u8 (yk:Int),.int .i64 (yp:Int),.string (xI yt),.int .i64 yn,.slice none 0 0,.slice A1 xm cc1] (by rfl) (by rfl) 225 _ HE4.out.1 (by kernel_rfl) rfl rfl ?_; intro w6 ht6 hb6)
  have HF6:Hid (zAn w p B R (vL (f+1) s) (.returned (.agg #[.int .u8 (yk:Int),.int .i64 (yp:Int),.string (xI yt),.int .i64 yn,.slice none 0 0,.slice A1 xm cc1])) w6):=yG (by
   rw[HRES.out]
   exact⟨_,R6,rfl,ht6.ps HP4.out (Nat.le_trans HBW.out HGG.out.2) HE4.out.2,HM4.out.ZX ht6 HGG.out.2,(HX4.out.xG (ht6.xG (.inr (.inr rfl)))).weaken fun b hb k=>by
    rcases k with k | k
    ·exact .inl k
    ·exact .inr (.inl k)⟩)
  have HB6:=yG hb6;clear ht6 hb6
  go_wp2_with fail
  exact zCQ g 225 _ _ Tryz.results169 rfl rfl HB6.out Tryz.underlying225 rfl (by kernel_rfl) HF6.out
theorem zUY (f:Nat)(w:World)(p B:Nat)(s:Ps)(R:xV)(h:PS w p B s R)(hG:Good s)(hl:s.ts.length≤f+1)(h1:s.hd.kind≠1)(h2:s.hd.kind≠2)(h3:isP [45] s=false)(ih:zCv 169 f (vL f)) :
  Calls Tryz.prog 169 #[.pointer (some ⟨p,0,none⟩)] w (zAn w p B R (vL (f+1) s)):=by
 have HP:=yG h;have HG:=yG hG;have HL:=yG hl;have HK1:=yG h1;have HK2:=yG h2;have HI:=yG h3;have HIH:=yG ih
 have n1:((s.hd.kind:Int)==1)=false:=by rw[yI]; omega
 have n2:((s.hd.kind:Int)==2)=false:=by rw[yI]; omega
 have m1:¬(s.hd.kind:Int)=1:=by omega
 have m2:¬(s.hd.kind:Int)=2:=by omega
 clear h1 h2 h3 ih;have hm:=hmf;have hf3:=zAf;have hf4:=zDe;obtain⟨W0,HW0⟩:∃W0,Hid ((w.alloc (.cells #[.pointer (some ⟨p,0,none⟩)] 70)).alloc (.cells JK 225)=W0):=⟨_,yG rfl⟩;have HX0:Hid (Ext w W0):=yG (by rw[←HW0.out]; exact(Ext.alloc _ _).trans (Ext.alloc _ _));have HB0:Hid (Safe W0 (xL p R) w.heap.size 70 #[.pointer (some ⟨p,0,none⟩)]):=yG (by rw[←HW0.out]; exact(h.fresh 70 _).ext (Ext.alloc _ _))
 have HE0:Hid (Safe W0 (xL p R) (w.heap.size+1) 225 JK):=yG (by
  have:=(h.ext (Ext.alloc w (.cells #[.pointer (some ⟨p,0,none⟩)] 70))).fresh 225 JK
  rw[yT] at this;rw[←HW0.out]
  exact this)
 have HBW:Hid (B≤w.heap.size):=yG (Nat.le_trans h.pB (zV h.blk.lt));have HWE:Hid ((w.alloc (.cells #[.pointer (some ⟨p,0,none⟩)] 70)).alloc (.cells #[.int .u8 0,.int .i64 0,.string ⟨#[]⟩,.int .i64 0,.slice none 0 0,.slice none 0 0] 225)=W0):=yG HW0.out;obtain⟨gb,HGB⟩:∃gb,Hid (w.heap.size=gb):=⟨_,yG rfl⟩;obtain⟨g,HGE⟩:∃g,Hid (w.heap.size+1=g):=⟨_,yG rfl⟩;rw[HGE.out] at HE0;rw[HGB.out] at HB0;have HGG:Hid (gb≠g∧w.heap.size≤g):=yG (by have:=HGB.out; have:=HGE.out; omega);clear h hG hl
 go_enter Tryz.func169,Tryz.ntmps169
 go_upto_region 1 with fail
 rw[HWE.out,HGE.out,HGB.out];have cb0:=HB0.out.1.cell 0;simp only[yL,yM] at cb0
 go_wp2_with fail
 refine(ZE W0 p s R (HP.out.ext HX0.out).ts).mono ?_;rintro e w1 ⟨rfl,hx1⟩;have HX1:=yG (HX0.out.trans hx1);have HP1:=yG (HP.out.ext HX1.out);have HB1:=yG (HB0.out.ext hx1);have HE1:=yG (HE0.out.ext hx1);clear hx1 cb0;unfold ZW;have c1:=HE1.out.1.cell 1;have z1:=HE1.out.1.frozen 1;simp only[JK,yL,yM,List.getElem?_cons_succ] at c1;have hgl:=HE1.out.1.lt;have hbl:=HB1.out.1.lt;have hgn:=HGG.out.1
 go_upto_region 4 with fail
 obtain⟨W2,HW2⟩:∃W2,Hid ((w1.setCell ⟨g,1,none⟩ (.int .i64 (s.hd.at_:Int))).alloc (.cells #[.int .u8 (s.hd.kind:Int),.int .i64 (s.hd.at_:Int),.int .i64 (s.hd.en:Int),.string (xI s.hd.text),.int .i64 s.hd.n] 75)=W2):=⟨_,yG rfl⟩;have HX2:Hid (Ext (w1.setCell ⟨g,1,none⟩ (.int .i64 (s.hd.at_:Int))) W2):=yG (by rw[←HW2.out]; exact Ext.alloc _ _);have HP2:Hid (PS W2 p B s R):=yG ((HP1.out.zDK (Nat.le_trans HBW.out HGG.out.2) HE1.out.2).ext HX2.out);have HM2:Hid (xD w (xL p R) W2 (xL p R)):=yG (((xD.ext HX1.out).XY HGG.out.2).trans (xD.ext HX2.out));have HB2:Hid (Safe W2 (xL p R) gb 70 #[.pointer (some ⟨p,0,none⟩)]):=yG ((HB1.out.set hgn).ext HX2.out);have HE2:Hid (Safe W2 (xL p R) g 225 #[.int .u8 0,.int .i64 (s.hd.at_:Int),.string ⟨#[]⟩,.int .i64 0,.slice none 0 0,.slice none 0 0]):=yG ((HE1.out.put 1 (.int .i64 (s.hd.at_:Int))).ext HX2.out)
 have HT2:Hid (Blk W2 w1.heap.size 75 #[.int .u8 (s.hd.kind:Int),.int .i64 (s.hd.at_:Int),.int .i64 (s.hd.en:Int),.string (xI s.hd.text),.int .i64 s.hd.n]):=yG (by
  have:=Blk.new (w1.setCell ⟨g,1,none⟩ (.int .i64 (s.hd.at_:Int))) 75 #[.int .u8 (s.hd.kind:Int),.int .i64 (s.hd.at_:Int),.int .i64 (s.hd.en:Int),.string (xI s.hd.text),.int .i64 s.hd.n]
  rw[HW2.out,show(w1.setCell ⟨g,1,none⟩ (.int .i64 (s.hd.at_:Int))).heap.size=w1.heap.size by simp[World.setCell]] at this
  exact this)
 rw[HW2.out];have HG1:Hid (w.heap.size≤w1.heap.size):=yG HX1.out.size;generalize w1.heap.size=gt at *;clear HW2 HX2 HP1 HB1 HE1 HX1 HE0 HB0 HX0 HW0 HWE c1 z1 hgl hbl;have t0:=HT2.out.cell 0;have cb:=HB2.out.1.cell 0;simp only[yL,yM,List.getElem?_cons_succ] at t0 cb
 go_upto_region 8 with fail
 go_wp2_with fail
 refine(XO W2 p B s R [45] false HI HP2.out).mono ?_;rintro e w3 ⟨rfl,hx3⟩;have HP3:=yG (HP2.out.ext hx3);have HM3:=yG (HM2.out.trans (xD.ext hx3));have HB3:=yG (HB2.out.ext hx3);have HE3:=yG (HE2.out.ext hx3);have c0:=HE3.out.1.cell 0;have z0:=HE3.out.1.frozen 0;simp only[yL,yM,List.getElem?_cons_succ] at c0;have cb3:=HB3.out.1.cell 0;simp only[yL,yM] at cb3;clear hx3 t0 cb
 go_upto_region 3 with fail
 have HP5:=HP3;have HM5:=HM3;have HE5:Hid (Safe w3 (xL p R) g 225 [.int .u8 0,.int .i64 (s.hd.at_:Int),.string ⟨#[]⟩,.int .i64 0,.slice none 0 0,.slice none 0 0].toArray):=HE3;have HB5:=HB3;clear c0 z0 cb3;generalize w3=W5 at *;have cb5:=HB5.out.1.cell 0;simp only[yL,yM] at cb5
 go_wp2_with fail
 have HSZ:Hid (w.heap.size≤W5.heap.size):=yG HM5.out.size;refine(zCH (fun b=>b=g) W5 p B s R [40] [41] 171 #[] #[.pointer (some ⟨gb,0,none⟩),.pointer (some ⟨g,0,none⟩)] (zEr (vL f)) (EAt w g p s.hd.at_ false) HP5.out (enters_of Tryz.func171 (by kernel_rfl) rfl) (fun x R1 w1 R2 w2 h k=>h.xG k) ?_ ?_).mono ?_
 ·intro hi hd x s' hr;have hg2:Good { s.adv with deep:=s.deep+1 }:=⟨(HG.out.base.adv (vN hi).1).last,by show s.deep+1≤64; have:=HG.out.deep; omega,HG.out.few⟩
  have hl2:({ s.adv with deep:=s.deep+1 }:Ps).ts.length≤f:=by show s.adv.ts.length≤f; rw[jX]; have:=HL.out; omega
  have hff:=(zGv f (fun t gt ht=>JN f t gt ht)) _ hg2 hl2;rw[hr] at hff;exact hff.2.2.2
 ·intro hi hd wr R' hm hp;have hg2:Good { s.adv with deep:=s.deep+1 }:=⟨(HG.out.base.adv (vN hi).1).last,by show s.deep+1≤64; have:=HG.out.deep; omega,HG.out.few⟩
  have hl2:({ s.adv with deep:=s.deep+1 }:Ps).ts.length≤f:=by show s.adv.ts.length≤f; rw[jX]; have:=HL.out; omega
  exact zP0 w wr p B gb g f s.hd.at_ _ R' (zEr (vL f)) (zNl f _ HIH.out (fun t gt ht=>JN f t gt ht)) hp hg2 hl2 (HB5.out.xG hm) _ rfl (HE5.out.xG hm) (Nat.le_trans HBW.out HGG.out.2) (Nat.le_trans HSZ.out hm.size)
 ·intro e w6 hpost
  rcases hpost.unit with ⟨x,s6,R6,hr,rfl,ho,cs,hsg,hex⟩ | ⟨er,at_,hr,rfl,s6,R6,hat,ho⟩
  rotate_left
  ·have HF:Hid (zAn w p B R (vL (f+1) s) (jW er) w6):=yG (by rw[zJ6 HK1.out HK2.out HI.out,hr]; exact⟨rfl,s6,hat,R6,ho.1,xD.zPs HM5.out ho.2 (fun b hb=>by rw[hb]; exact HGG.out.2)⟩);exact xE (P:=Tryz.prog) (fn:=Tryz.f169) rfl HF.out
  have HRES:Hid (vL (f+1) s=.ok x s6):=yG (by rw[zJ6 HK1.out HK2.out HI.out,hr]);have HP4:=yG ho.1;have HM4:=yG (xD.zPs HM5.out ho.2 (fun b hb=>by rw[hb]; exact HGG.out.2));have hex2:EX w6 (Or (xL p R6) (fun b=>under w b∨b=g)) x cs:=hex;obtain⟨A1,cc1,f1,hcs,_⟩:=hex2.open;subst hcs;have HE4:=yG hsg;have HX4:=yG hex2;clear hr ho hsg hex hex2 cb5;generalize x=xx at *;generalize xx.parts.length=xm at *;generalize HY:xx.node=y at *;obtain⟨yk,yp,yt,yn,yks⟩:=y;have c0:=HE4.out.1.cell 0;have c1:=HE4.out.1.cell 1;have c2:=HE4.out.1.cell 2;have c3:=HE4.out.1.cell 3;have c4:=HE4.out.1.cell 4;have c5:=HE4.out.1.cell 5;simp only[jZ,yL,yM,List.getElem?_cons_succ] at c0 c1 c2 c3 c4 c5
  go_wp2_with (refine vK rfl 225 (.tmp 2) (.tmp 43) rfl g #[.int .u8 (yk:Int),.int .i64 (yp:Int),.string (xI yt),.int .i64 yn,.slice none 0 0,.slice A1 xm cc1] (by rfl) (by rfl) 225 _ HE4.out.1 (by kernel_rfl) rfl rfl ?_; intro w6 ht6 hb6)
  have HF6:Hid (zAn w p B R (vL (f+1) s) (.returned (.agg #[.int .u8 (yk:Int),.int .i64 (yp:Int),.string (xI yt),.int .i64 yn,.slice none 0 0,.slice A1 xm cc1])) w6):=yG (by
   rw[HRES.out]
   exact⟨_,R6,rfl,ht6.ps HP4.out (Nat.le_trans HBW.out HGG.out.2) HE4.out.2,HM4.out.ZX ht6 HGG.out.2,(HX4.out.xG (ht6.xG (.inr (.inr rfl)))).weaken fun b hb k=>by
    rcases k with k | k
    ·exact .inl k
    ·exact .inr (.inl k)⟩)
  have HB6:=yG hb6;clear ht6 hb6
  go_wp2_with fail
  exact zCQ g 225 _ _ Tryz.results169 rfl rfl HB6.out Tryz.underlying225 rfl (by kernel_rfl) HF6.out
theorem zI5:∀f,zCv 169 f (vL f)
 | 0=>fun w p B s R h hG hl=>absurd hG.pos (by omega)
 | f+1=>fun w p B s R h hG hl=>by
  by_cases h1:s.hd.kind=1
  ·exact zUJ f w p B s R h hG hl h1
  ·by_cases h2:s.hd.kind=2
   ·exact zUs f w p B s R h hG hl h2
   ·cases h3:isP [45] s with
    | true=>exact zUy f w p B s R h hG hl h1 h2 h3 (zI5 f)
    | false=>exact zUY f w p B s R h hG hl h1 h2 h3 (zI5 f)
theorem zRe (w:World)(p B:Nat)(s:Ps)(R:xV)(h:PS w p B s R)(hG:Good s):Calls Tryz.prog 164 #[.pointer (some ⟨p,0,none⟩)] w (zAn w p B R (zP4 s)):=
 zNl s.ts.length (vL s.ts.length) (zI5 _) (fun t gt ht=>JN _ t gt ht) w p B s R h hG (zX _)
theorem zAK (w:World)(p B:Nat)(s:Ps)(R:xV)(i:Nat)(h:PS w p B s R)(hG:Good s)(hi:i<s.nd.length)(hbig:s.phi≤1000000) :
  Calls Tryz.prog 158 #[.pointer (some ⟨p,0,none⟩),.int .i64 (i:Int)] w (xN w p B R (zAB i s)):=by
 have HC:=yG (zRe w p B s R h hG);have HFE:=yG (zIK s hG);have HI:=yG hi;have HBG:=yG hbig;clear h hG hi hbig
 go_enter Tryz.func158,Tryz.ntmps158
 go_wp2_with fail
 refine HC.out.mono ?_;intro e w1 hpost;have hfe:=HFE.out
 cases hr:zP4 s with
 | err er a=>
  rw[hr] at hpost;obtain⟨rfl,ho⟩:=hpost;have HF:Hid (xN w p B R (zAB i s) (jW er) w1):=yG (by unfold zAB; rw[hr]; exact⟨rfl,ho⟩);exact xE (P:=Tryz.prog) (fn:=Tryz.f158) rfl HF.out
 | ok x s1=>
  rw[hr] at hpost hfe;obtain⟨cs,R1,rfl,hp1,hm1,hx1⟩:=hpost;obtain⟨hg1,hl1,hn1,_⟩:=hfe;have HR:Hid (zAB i s=.ok () (zB8 i x s1)):=yG (by unfold zAB; rw[hr]; rfl);have HP1:=yG hp1;have HM1:=yG hm1;have HX1:=yG hx1;have HG1:=yG hg1;have HI1:Hid (i<s1.nd.length):=yG (by rw[hn1]; exact HI.out);have HB1:Hid (s1.nd.length+x.size≤1000000):=yG (by rw[hn1]; have:=HBG.out; unfold Ps.phi at this; omega);clear hr hp1 hm1 hx1 hg1 hl1 hn1
  go_wp2_with fail
  refine(zNd x.size x (zX _) w1 p B s1 R1 i cs HP1.out HG1.out HI1.out HB1.out (HX1.out.weaken fun b _ k=>.inl k)).mono ?_;rintro e w2 ⟨rfl,ho⟩;have HO:=yG (OkP.trans HM1.out ho);clear ho
  go_wp2_with fail
  go_end0;rw[HR.out];exact xN.ok HO.out
end Go.Proofs.YtbadjmmjbpeocaaGreatDoor
