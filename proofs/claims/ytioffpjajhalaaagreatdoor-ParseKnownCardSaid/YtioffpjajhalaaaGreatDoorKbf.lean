/- The document's factor: an expression read. No condition. -/
import Derived.Test.YtioffpjajhalaaaGreatDoorKaa
import Derived.Test.YtioffpjajhalaaaGreatDoorKbd
import Derived.Test.YtioffpjajhalaaaGreatDoorKbe
set_option linter.unusedVariables false
set_option linter.unusedSimpArgs false
set_option maxRecDepth 100000
set_option maxHeartbeats 16000000
namespace Go.Proofs.YtioffpjajhalaaaGreatDoor
open Go Go.RowKit
structure ZA (w W:World)(p B:Nat)(R:vJ)(r':Rs)(R':vJ)(g0 gt g:Nat)(tok:Tok)(cs:List Value):Prop where
 qs:QS W p B r' R'
 mv:yZ w (xI p R) W (xI p R')
 z:Safe W (xI p R') g0 223 jM
 t:Safe W (xI p R') gt 129 (xS tok).toArray
 e:Safe W (xI p R') g 223 cs.toArray
 low:w.heap.size≤g0∧w.heap.size≤g∧g≠g0∧g≠gt∧B≤w.heap.size
theorem ZA.step {w W W':World}{p B:Nat}{R R' R'':vJ}{r' r'':Rs}{g0 gt g:Nat}{tok:Tok}{cs:List Value}(h:Hid (ZA w W p B R r' R' g0 gt g tok cs))(hp:QS W' p B r'' R''∧yZ W (xI p R') W' (xI p R'')):Hid (ZA w W' p B R r'' R'' g0 gt g tok cs):=
 yE ⟨hp.1,h.out.mv.trans hp.2,h.out.z.xC hp.2,h.out.t.xC hp.2,h.out.e.xC hp.2,h.out.low⟩
theorem ZA.ZE {w W W':World}{p B:Nat}{R R':vJ}{r':Rs}{g0 gt g:Nat}{tok:Tok}{cs cs':List Value}(h:Hid (ZA w W p B R r' R' g0 gt g tok cs))(ht:Touch g W W')(hb:Blk W' g 223 cs'.toArray):Hid (ZA w W' p B R r' R' g0 gt g tok cs'):=
 have l:=h.out.low
 yE ⟨ht.qs h.out.qs (Nat.le_trans l.2.2.2.2 l.2.1) h.out.e.2,h.out.mv.ZE ht l.2.1,ht.safe h.out.z (Ne.symm l.2.2.1),ht.safe h.out.t (Ne.symm l.2.2.2.1),⟨hb,h.out.e.2⟩,l⟩
theorem zE5 (W:World)(g i:Nat)(u:Value):Touch g W (W.setCell ⟨g,i,none⟩ u):=⟨rfl,rfl,rfl,by simp[World.setCell],fun b hb=>zQ W ⟨g,i,none⟩ u b hb⟩
theorem ZA.set {w W:World}{p B:Nat}{R R':vJ}{r':Rs}{g0 gt g:Nat}{tok:Tok}{cs:List Value}(h:Hid (ZA w W p B R r' R' g0 gt g tok cs))(i:Nat)(u:Value):Hid (ZA w (W.setCell ⟨g,i,none⟩ u) p B R r' R' g0 gt g tok (cs.set i u)):=
 ZA.ZE h (zE5 W g i u) (by have:=h.out.e.1.put i u; simpa using this)
theorem ZA.drew {w W:World}{p B:Nat}{R R':vJ}{r':Rs}{g0 gt g:Nat}{tok:Tok}{cs:List Value}(h:Hid (ZA w W p B R r' R' g0 gt g tok cs))(m:Nat):Hid (ZA w (W.drewN m) p B R r' R' g0 gt g tok cs):=ZA.step h ⟨h.out.qs.drewN m,xU m⟩
theorem ZA.adv {w W:World}{p B:Nat}{R R':vJ}{r':Rs}{g0 gt g:Nat}{tok:Tok}{cs:List Value}(h:Hid (ZA w W p B R r' R' g0 gt g tok cs))(hk:r'.s.hd.kind≠4):Hid (ZA w (W.setCell ⟨p,1,none⟩ (.int .i64 ((R'.I:Int)+1))) p B R r'.adv { R' with I:=R'.I+1 } g0 gt g tok cs):=ZA.step h ⟨h.out.qs.zOW hk,yZ.set (.inl rfl)⟩
theorem ZA.out {w W:World}{p B:Nat}{R R':vJ}{r':Rs}{g0 gt g:Nat}{tok:Tok}{cs:List Value}(h:Hid (ZA w W p B R r' R' g0 gt g tok cs)){v:Value}(hv:v=.int .i64 ((r'.out.s.deep:Nat):Int)):Hid (ZA w (W.setCell ⟨p,2,none⟩ v) p B R r'.out R' g0 gt g tok cs):=by
 subst hv;exact ZA.step h ⟨h.out.qs.zTZ (r'.s.deep-1) (zEZ h.out.qs.yY).yY,yZ.set (.inl rfl)⟩
theorem ZA.post {w W:World}{p B:Nat}{R R':vJ}{r':Rs}{g0 gt g:Nat}{tok:Tok}{cs:List Value}{W':World}{x:Ex}(h:Hid (ZA w W p B R r' R' g0 gt g tok cs))(ht:Touch g0 W W')(hx:EY W (Or (xI p R') (fun b=>under w b∨b=g0)) x cs):JP w p B R (x,r') (.returned (.agg cs.toArray)) W':=
 have l:=h.out.low
 ⟨cs,R',rfl,ht.qs h.out.qs (Nat.le_trans l.2.2.2.2 l.1) h.out.z.2,h.out.mv.ZE ht l.1,(hx.xC (ht.xC (.inr (.inr rfl)))).weaken fun b hb k=>by
  rcases k with k | k
  ·exact .inl k
  ·exact .inr (.inl k)⟩
theorem zRB {f:Nat}{r:Rs}(h:r.e≠0):xZ (f+1) r=(.leaf 0 r.s.hd.at_ r.s.hd.text 0,r):=by unfold xZ; rw[if_pos h]
theorem zUm {f:Nat}{r:Rs}(h:r.e=0)(h1:r.s.hd.kind=1):xZ (f+1) r=(.leaf 22 r.s.hd.at_ r.s.hd.text 0,r.adv):=by unfold xZ; rw[if_neg (by simpa using h),if_pos h1]
theorem zUJ {f:Nat}{r:Rs}(h:r.e=0)(h1:r.s.hd.kind=2):xZ (f+1) r=(.leaf 21 r.s.hd.at_ [] r.s.hd.n,r.adv):=by unfold xZ; rw[if_neg (by simpa using h),if_neg (by omega),if_pos h1]
theorem zTi {f:Nat}{r:Rs}(h:r.e=0)(h1:r.s.hd.kind≠1)(h2:r.s.hd.kind≠2)(h3:r.is [40]=true)(h4:r.inn.e=0):xZ (f+1) r=((vQ ZL (vQ YI (xZ f)) r.inn.adv).1,(xD [41] (vQ ZL (vQ YI (xZ f)) r.inn.adv).2).out):=by
 rw[xZ,if_neg (by simpa using h),if_neg h1,if_neg h2,if_pos h3,if_pos h4]
theorem zPQ {f:Nat}{r:Rs}(h:r.e=0)(h1:r.s.hd.kind≠1)(h2:r.s.hd.kind≠2)(h3:r.is [40]=true)(h4:¬r.inn.e=0):xZ (f+1) r=(.leaf 0 r.s.hd.at_ r.s.hd.text 0,r.inn.out):=by
 rw[xZ,if_neg (by simpa using h),if_neg h1,if_neg h2,if_pos h3,if_neg h4]
theorem zR6 {f:Nat}{r:Rs}(h:r.e=0)(h1:r.s.hd.kind≠1)(h2:r.s.hd.kind≠2)(h3:r.is [40]=false)(h5:r.is [45]=true)(h4:r.inn.e=0):xZ (f+1) r=(.neg r.s.hd.at_ (xZ f r.inn.adv).1,(xZ f r.inn.adv).2.out):=by
 rw[xZ,if_neg (by simpa using h),if_neg h1,if_neg h2,if_neg (by rw[h3]; decide),if_pos h5,if_pos h4]
theorem zQM {f:Nat}{r:Rs}(h:r.e=0)(h1:r.s.hd.kind≠1)(h2:r.s.hd.kind≠2)(h3:r.is [40]=false)(h5:r.is [45]=true)(h4:¬r.inn.e=0):xZ (f+1) r=(.leaf 26 r.s.hd.at_ [] 0,r.inn.out):=by
 rw[xZ,if_neg (by simpa using h),if_neg h1,if_neg h2,if_neg (by rw[h3]; decide),if_pos h5,if_neg h4]
theorem zRi {f:Nat}{r:Rs}(h:r.e=0)(h1:r.s.hd.kind≠1)(h2:r.s.hd.kind≠2)(h3:r.is [40]=false)(h5:r.is [45]=false):xZ (f+1) r=(.leaf 0 r.s.hd.at_ r.s.hd.text 0,r.fail 50):=by
 rw[xZ,if_neg (by simpa using h),if_neg h1,if_neg h2,if_neg (by rw[h3]; decide),if_neg (by rw[h5]; decide)]
theorem zRA (f:Nat)(w:World)(p B:Nat)(r:Rs)(R:vJ)(h:QS w p B r R)(hl:r.s.ts.length≤f+1)(he:r.e≠0) :
  Calls Tryz.prog 208 #[.pointer (some ⟨p,0,none⟩)] w (JP w p B R (xZ (f+1) r)):=by
 have HP:=yE h;have HL:=yE hl;have AQ:=h.blk.lt
 have AM:R.bt<w.heap.size:=by have:=h.XZ; have:=h.pB; omega
 have x0:=h.x0;have x1:=h.x1;have qp:=h.pos;have AE:=h.few;have AF:=h.yY.last.pos;have t0:w.cell? ⟨R.bt,R.o0+R.I*5,none⟩=some (.int .u8 (r.s.hd.kind:Int)):=h.tok 0 (by decide);have t1:w.cell? ⟨R.bt,R.o0+R.I*5+1,none⟩=some (.int .i64 (r.s.hd.at_:Int)):=h.tok 1 (by decide);have t2:w.cell? ⟨R.bt,R.o0+R.I*5+2,none⟩=some (.int .i64 (r.s.hd.en:Int)):=h.tok 2 (by decide);have t3:w.cell? ⟨R.bt,R.o0+R.I*5+3,none⟩=some (.string (xE r.s.hd.text)):=h.tok 3 (by decide);have t4:w.cell? ⟨R.bt,R.o0+R.I*5+4,none⟩=some (.int .i64 r.s.hd.n):=h.tok 4 (by decide);have HE:=yE he
 have g1:(r.e != 0)=true:=by rw[zD]; exact he
 have g2:(r.e==0)=false:=beq_eq_false_iff_ne.2 he;clear h hl
 go_enter Tryz.func208,Tryz.ntmps208
 go_wp2_with fail
 go_region
 clear x0 x1 qp AE AF t0 t1 t2 t3 t4
 go_upto_region 4 with fail
 obtain⟨W,HW⟩:∃W,Hid ((((w.alloc (.cells #[.int .u8 0,.int .i64 0,.string ⟨#[]⟩,.int .i64 0,.slice none 0 0] 223)).alloc (.cells #[.int .u8 (r.s.hd.kind:Int),.int .i64 (r.s.hd.at_:Int),.int .i64 (r.s.hd.en:Int),.string (xE r.s.hd.text),.int .i64 r.s.hd.n] 129)).alloc (.cells #[.int .u8 0,.int .i64 (r.s.hd.at_:Int),.string (xE r.s.hd.text),.int .i64 0,.slice none 0 0] 223)).drew=W):=⟨_,yE rfl⟩
 have AA:Hid (ZA w W p B R r R w.heap.size (w.heap.size+1) (w.heap.size+1+1) r.s.hd [.int .u8 0,.int .i64 (r.s.hd.at_:Int),.string (xE r.s.hd.text),.int .i64 0,.slice none 0 0]):=yE (by
  have h1:=HP.out.ext (Ext.alloc w (.cells jM 223));have h2:=h1.ext (Ext.alloc _ (.cells (xS r.s.hd).toArray 129));have h3:=h2.ext (Ext.alloc _ (.cells [.int .u8 0,.int .i64 (r.s.hd.at_:Int),.string (xE r.s.hd.text),.int .i64 0,.slice none 0 0].toArray 223));have hB:=HP.out.pB;have e1:Ext _ (((w.alloc (.cells jM 223)).alloc (.cells (xS r.s.hd).toArray 129)).alloc (.cells [.int .u8 0,.int .i64 (r.s.hd.at_:Int),.string (xE r.s.hd.text),.int .i64 0,.slice none 0 0].toArray 223)):=Ext.alloc _ _;have hd:Ext _ (((w.alloc (.cells jM 223)).alloc (.cells (xS r.s.hd).toArray 129)).alloc (.cells [.int .u8 0,.int .i64 (r.s.hd.at_:Int),.string (xE r.s.hd.text),.int .i64 0,.slice none 0 0].toArray 223)).drew:=Below.drew (Below.refl _ _);have s0:=((((HP.out.fresh 223 jM).xC (yZ.ext (M:=xI p R) (Ext.alloc _ (.cells (xS r.s.hd).toArray 129)))).xC (yZ.ext (M:=xI p R) e1)).xC (yZ.ext (M:=xI p R) hd));have s1:=(((h1.fresh 129 (xS r.s.hd).toArray).xC (yZ.ext (M:=xI p R) e1)).xC (yZ.ext (M:=xI p R) hd));have s2:=((h2.fresh 223 [.int .u8 0,.int .i64 (r.s.hd.at_:Int),.string (xE r.s.hd.text),.int .i64 0,.slice none 0 0].toArray).xC (yZ.ext (M:=xI p R) hd));rw[yR] at s1 s2;rw[yR] at s2;rw[←HW.out]
  exact⟨h3.ext hd,yZ.ext ((((Ext.alloc _ _).trans (Ext.alloc _ _)).trans e1).trans hd),s0,s1,s2,by omega⟩)
 rw[HW.out];obtain⟨g0,AD⟩:∃g,Hid (w.heap.size=g):=⟨_,yE rfl⟩;obtain⟨gt,AC⟩:∃g,Hid (w.heap.size+1=g):=⟨_,yE rfl⟩;obtain⟨g,AB⟩:∃g,Hid (w.heap.size+1+1=g):=⟨_,yE rfl⟩;rw[AB.out,AC.out,AD.out] at AA
 try rw[AB.out]
 try rw[AC.out]
 try rw[AD.out]
 clear HW AD AC AB AM;have x4:=AA.out.qs.x4
 go_upto_region 26 with fail
 clear x4;have AO:=AA.out.e.1.cell 0;have AP:=AA.out.e.1.cell 1;have AJ:=AA.out.e.1.cell 2;have AK:=AA.out.e.1.cell 3;have AI:=AA.out.e.1.cell 4;simp only[yD,yC,yJ,yK,List.getElem?_cons_succ] at AO AP AJ AK AI
 go_wp2_with (refine vD rfl 223 (.tmp 2) (.tmp 104) rfl g0 #[.int .u8 0,.int .i64 (r.s.hd.at_:Int),.string (xE r.s.hd.text),.int .i64 0,.slice none 0 0] (by rfl) (by rfl) 223 _ AA.out.z.1 (by kernel_rfl) rfl rfl ?_; intro w6 AH AG)
 have AN:Hid (JP w p B R (xZ (f+1) r) (.returned (.agg #[.int .u8 0,.int .i64 (r.s.hd.at_:Int),.string (xE r.s.hd.text),.int .i64 0,.slice none 0 0])) w6):=yE (by
  rw[zRB HE.out]
  exact ZA.post AA AH (rfl))
 have AL:=yE AG;clear AH AG
 go_wp2_with fail
 exact JC g0 223 _ _ Tryz.results208 rfl rfl AL.out Tryz.underlying223 rfl (by kernel_rfl) AN.out
theorem zUh (f:Nat)(w:World)(p B:Nat)(r:Rs)(R:vJ)(h:QS w p B r R)(hl:r.s.ts.length≤f+1)(he:r.e=0)(hk:r.s.hd.kind=1) :
  Calls Tryz.prog 208 #[.pointer (some ⟨p,0,none⟩)] w (JP w p B R (xZ (f+1) r)):=by
 have HP:=yE h;have HL:=yE hl;have AT:=h.blk.lt
 have AP:R.bt<w.heap.size:=by have:=h.XZ; have:=h.pB; omega
 have x0:=h.x0;have x1:=h.x1;have qp:=h.pos;have AB:=h.few;have AC:=h.yY.last.pos;have t0:w.cell? ⟨R.bt,R.o0+R.I*5,none⟩=some (.int .u8 (r.s.hd.kind:Int)):=h.tok 0 (by decide);have t1:w.cell? ⟨R.bt,R.o0+R.I*5+1,none⟩=some (.int .i64 (r.s.hd.at_:Int)):=h.tok 1 (by decide);have t2:w.cell? ⟨R.bt,R.o0+R.I*5+2,none⟩=some (.int .i64 (r.s.hd.en:Int)):=h.tok 2 (by decide);have t3:w.cell? ⟨R.bt,R.o0+R.I*5+3,none⟩=some (.string (xE r.s.hd.text)):=h.tok 3 (by decide);have t4:w.cell? ⟨R.bt,R.o0+R.I*5+4,none⟩=some (.int .i64 r.s.hd.n):=h.tok 4 (by decide);have HE:=yE he;have HK:=yE hk;clear h hl he hk
 go_enter Tryz.func208,Tryz.ntmps208
 go_wp2_with fail
 go_region
 clear x0 x1 qp AB AC t0 t1 t2 t3 t4
 go_upto_region 4 with fail
 obtain⟨W,HW⟩:∃W,Hid ((((w.alloc (.cells #[.int .u8 0,.int .i64 0,.string ⟨#[]⟩,.int .i64 0,.slice none 0 0] 223)).alloc (.cells #[.int .u8 (r.s.hd.kind:Int),.int .i64 (r.s.hd.at_:Int),.int .i64 (r.s.hd.en:Int),.string (xE r.s.hd.text),.int .i64 r.s.hd.n] 129)).alloc (.cells #[.int .u8 0,.int .i64 (r.s.hd.at_:Int),.string (xE r.s.hd.text),.int .i64 0,.slice none 0 0] 223)).drew=W):=⟨_,yE rfl⟩
 have AD:Hid (ZA w W p B R r R w.heap.size (w.heap.size+1) (w.heap.size+1+1) r.s.hd [.int .u8 0,.int .i64 (r.s.hd.at_:Int),.string (xE r.s.hd.text),.int .i64 0,.slice none 0 0]):=yE (by
  have h1:=HP.out.ext (Ext.alloc w (.cells jM 223));have h2:=h1.ext (Ext.alloc _ (.cells (xS r.s.hd).toArray 129));have h3:=h2.ext (Ext.alloc _ (.cells [.int .u8 0,.int .i64 (r.s.hd.at_:Int),.string (xE r.s.hd.text),.int .i64 0,.slice none 0 0].toArray 223));have hB:=HP.out.pB;have e1:Ext _ (((w.alloc (.cells jM 223)).alloc (.cells (xS r.s.hd).toArray 129)).alloc (.cells [.int .u8 0,.int .i64 (r.s.hd.at_:Int),.string (xE r.s.hd.text),.int .i64 0,.slice none 0 0].toArray 223)):=Ext.alloc _ _;have hd:Ext _ (((w.alloc (.cells jM 223)).alloc (.cells (xS r.s.hd).toArray 129)).alloc (.cells [.int .u8 0,.int .i64 (r.s.hd.at_:Int),.string (xE r.s.hd.text),.int .i64 0,.slice none 0 0].toArray 223)).drew:=Below.drew (Below.refl _ _);have s0:=((((HP.out.fresh 223 jM).xC (yZ.ext (M:=xI p R) (Ext.alloc _ (.cells (xS r.s.hd).toArray 129)))).xC (yZ.ext (M:=xI p R) e1)).xC (yZ.ext (M:=xI p R) hd));have s1:=(((h1.fresh 129 (xS r.s.hd).toArray).xC (yZ.ext (M:=xI p R) e1)).xC (yZ.ext (M:=xI p R) hd));have s2:=((h2.fresh 223 [.int .u8 0,.int .i64 (r.s.hd.at_:Int),.string (xE r.s.hd.text),.int .i64 0,.slice none 0 0].toArray).xC (yZ.ext (M:=xI p R) hd));rw[yR] at s1 s2;rw[yR] at s2;rw[←HW.out]
  exact⟨h3.ext hd,yZ.ext ((((Ext.alloc _ _).trans (Ext.alloc _ _)).trans e1).trans hd),s0,s1,s2,by omega⟩)
 rw[HW.out];obtain⟨g0,AH⟩:∃g,Hid (w.heap.size=g):=⟨_,yE rfl⟩;obtain⟨gt,AG⟩:∃g,Hid (w.heap.size+1=g):=⟨_,yE rfl⟩;obtain⟨g,AF⟩:∃g,Hid (w.heap.size+1+1=g):=⟨_,yE rfl⟩;rw[AF.out,AG.out,AH.out] at AD
 try rw[AF.out]
 try rw[AG.out]
 try rw[AH.out]
 clear HW AH AG AF AP;have x4:=AD.out.qs.x4;rw[HE.out] at x4;have k0:=AD.out.t.1.cell 0;simp only[xS,yJ,yK] at k0;rw[HK.out] at k0;have c0:=AD.out.e.1.cell 0;have z0:=AD.out.e.1.frozen 0;simp only[yJ,yK] at c0
 go_upto_region 7 with fail
 clear x4 k0 c0 z0;have AE:=ZA.set AD 0 (.int .u8 22);generalize W.setCell ⟨g,0,none⟩ (.int .u8 22)=W1 at *;have x1:=AE.out.qs.x1;have AN:=AE.out.qs.blk.frozen 1;have AB:=AE.out.qs.few;have AC:=AE.out.qs.yY.last.pos
 go_upto_region 26 with fail
 have AA:=ZA.adv AE (by rw[HK.out]; decide);clear x1 AN AB AC;generalize W1.setCell ⟨p,1,none⟩ (.int .i64 ((R.I:Int)+1))=W2 at *;simp only[yD] at AA;have AR:=AA.out.e.1.cell 0;have AS:=AA.out.e.1.cell 1;have AL:=AA.out.e.1.cell 2;have AM:=AA.out.e.1.cell 3;have AK:=AA.out.e.1.cell 4;simp only[yD,yC,yJ,yK,List.getElem?_cons_succ] at AR AS AL AM AK
 go_wp2_with (refine vD rfl 223 (.tmp 2) (.tmp 104) rfl g0 #[.int .u8 22,.int .i64 (r.s.hd.at_:Int),.string (xE r.s.hd.text),.int .i64 0,.slice none 0 0] (by rfl) (by rfl) 223 _ AA.out.z.1 (by kernel_rfl) rfl rfl ?_; intro w6 AJ AI)
 have AQ:Hid (JP w p B R (xZ (f+1) r) (.returned (.agg #[.int .u8 22,.int .i64 (r.s.hd.at_:Int),.string (xE r.s.hd.text),.int .i64 0,.slice none 0 0])) w6):=yE (by
  rw[zUm HE.out HK.out]
  exact ZA.post AA AJ (rfl))
 have AO:=yE AI;clear AJ AI
 go_wp2_with fail
 exact JC g0 223 _ _ Tryz.results208 rfl rfl AO.out Tryz.underlying223 rfl (by kernel_rfl) AQ.out
theorem zUw (f:Nat)(w:World)(p B:Nat)(r:Rs)(R:vJ)(h:QS w p B r R)(hl:r.s.ts.length≤f+1)(he:r.e=0)(hk:r.s.hd.kind=2) :
  Calls Tryz.prog 208 #[.pointer (some ⟨p,0,none⟩)] w (JP w p B R (xZ (f+1) r)):=by
 have HP:=yE h;have HL:=yE hl;have AV:=h.blk.lt
 have AR:R.bt<w.heap.size:=by have:=h.XZ; have:=h.pB; omega
 have x0:=h.x0;have x1:=h.x1;have qp:=h.pos;have AB:=h.few;have AC:=h.yY.last.pos;have t0:w.cell? ⟨R.bt,R.o0+R.I*5,none⟩=some (.int .u8 (r.s.hd.kind:Int)):=h.tok 0 (by decide);have t1:w.cell? ⟨R.bt,R.o0+R.I*5+1,none⟩=some (.int .i64 (r.s.hd.at_:Int)):=h.tok 1 (by decide);have t2:w.cell? ⟨R.bt,R.o0+R.I*5+2,none⟩=some (.int .i64 (r.s.hd.en:Int)):=h.tok 2 (by decide);have t3:w.cell? ⟨R.bt,R.o0+R.I*5+3,none⟩=some (.string (xE r.s.hd.text)):=h.tok 3 (by decide);have t4:w.cell? ⟨R.bt,R.o0+R.I*5+4,none⟩=some (.int .i64 r.s.hd.n):=h.tok 4 (by decide);have HE:=yE he;have HK:=yE hk;clear h hl he hk
 go_enter Tryz.func208,Tryz.ntmps208
 go_wp2_with fail
 go_region
 clear x0 x1 qp AB AC t0 t1 t2 t3 t4
 go_upto_region 4 with fail
 obtain⟨W,HW⟩:∃W,Hid ((((w.alloc (.cells #[.int .u8 0,.int .i64 0,.string ⟨#[]⟩,.int .i64 0,.slice none 0 0] 223)).alloc (.cells #[.int .u8 (r.s.hd.kind:Int),.int .i64 (r.s.hd.at_:Int),.int .i64 (r.s.hd.en:Int),.string (xE r.s.hd.text),.int .i64 r.s.hd.n] 129)).alloc (.cells #[.int .u8 0,.int .i64 (r.s.hd.at_:Int),.string (xE r.s.hd.text),.int .i64 0,.slice none 0 0] 223)).drew=W):=⟨_,yE rfl⟩
 have AD:Hid (ZA w W p B R r R w.heap.size (w.heap.size+1) (w.heap.size+1+1) r.s.hd [.int .u8 0,.int .i64 (r.s.hd.at_:Int),.string (xE r.s.hd.text),.int .i64 0,.slice none 0 0]):=yE (by
  have h1:=HP.out.ext (Ext.alloc w (.cells jM 223));have h2:=h1.ext (Ext.alloc _ (.cells (xS r.s.hd).toArray 129));have h3:=h2.ext (Ext.alloc _ (.cells [.int .u8 0,.int .i64 (r.s.hd.at_:Int),.string (xE r.s.hd.text),.int .i64 0,.slice none 0 0].toArray 223));have hB:=HP.out.pB;have e1:Ext _ (((w.alloc (.cells jM 223)).alloc (.cells (xS r.s.hd).toArray 129)).alloc (.cells [.int .u8 0,.int .i64 (r.s.hd.at_:Int),.string (xE r.s.hd.text),.int .i64 0,.slice none 0 0].toArray 223)):=Ext.alloc _ _;have hd:Ext _ (((w.alloc (.cells jM 223)).alloc (.cells (xS r.s.hd).toArray 129)).alloc (.cells [.int .u8 0,.int .i64 (r.s.hd.at_:Int),.string (xE r.s.hd.text),.int .i64 0,.slice none 0 0].toArray 223)).drew:=Below.drew (Below.refl _ _);have s0:=((((HP.out.fresh 223 jM).xC (yZ.ext (M:=xI p R) (Ext.alloc _ (.cells (xS r.s.hd).toArray 129)))).xC (yZ.ext (M:=xI p R) e1)).xC (yZ.ext (M:=xI p R) hd));have s1:=(((h1.fresh 129 (xS r.s.hd).toArray).xC (yZ.ext (M:=xI p R) e1)).xC (yZ.ext (M:=xI p R) hd));have s2:=((h2.fresh 223 [.int .u8 0,.int .i64 (r.s.hd.at_:Int),.string (xE r.s.hd.text),.int .i64 0,.slice none 0 0].toArray).xC (yZ.ext (M:=xI p R) hd));rw[yR] at s1 s2;rw[yR] at s2;rw[←HW.out]
  exact⟨h3.ext hd,yZ.ext ((((Ext.alloc _ _).trans (Ext.alloc _ _)).trans e1).trans hd),s0,s1,s2,by omega⟩)
 rw[HW.out];obtain⟨g0,AI⟩:∃g,Hid (w.heap.size=g):=⟨_,yE rfl⟩;obtain⟨gt,AH⟩:∃g,Hid (w.heap.size+1=g):=⟨_,yE rfl⟩;obtain⟨g,AG⟩:∃g,Hid (w.heap.size+1+1=g):=⟨_,yE rfl⟩;rw[AG.out,AH.out,AI.out] at AD
 try rw[AG.out]
 try rw[AH.out]
 try rw[AI.out]
 clear HW AI AH AG AR;have x4:=AD.out.qs.x4;rw[HE.out] at x4;have k0:=AD.out.t.1.cell 0;simp only[xS,yJ,yK] at k0;rw[HK.out] at k0;have c0:=AD.out.e.1.cell 0;have z0:=AD.out.e.1.frozen 0;simp only[yJ,yK] at c0
 go_upto_region 10 with fail
 clear x4 k0 c0 z0;have AJ:=ZA.set AD 0 (.int .u8 21);generalize W.setCell ⟨g,0,none⟩ (.int .u8 21)=W1 at *;have c2:=AJ.out.e.1.cell 2;have z2:=AJ.out.e.1.frozen 2;simp only[yD,yJ,yK,List.getElem?_cons_succ] at c2
 go_upto_region 11 with fail
 clear c2 z2;have AF:=ZA.set AJ 2 (.string ⟨#[]⟩);generalize W1.setCell ⟨g,2,none⟩ (.string ⟨#[]⟩)=W2 at *;have c3:=AF.out.e.1.cell 3;have z3:=AF.out.e.1.frozen 3;have k4:=AF.out.t.1.cell 4;simp only[xS,yD,yC,yJ,yK,List.getElem?_cons_succ] at c3 k4
 go_upto_region 12 with fail
 clear c3 z3 k4;have AE:=ZA.set AF 3 (.int .i64 r.s.hd.n);generalize W2.setCell ⟨g,3,none⟩ (.int .i64 r.s.hd.n)=W3 at *;have x1:=AE.out.qs.x1;have AP:=AE.out.qs.blk.frozen 1;have AB:=AE.out.qs.few;have AC:=AE.out.qs.yY.last.pos
 go_upto_region 26 with fail
 have AA:=ZA.adv AE (by rw[HK.out]; decide);clear x1 AP AB AC;generalize W3.setCell ⟨p,1,none⟩ (.int .i64 ((R.I:Int)+1))=W4 at *;simp only[yD,yC] at AA;have AT:=AA.out.e.1.cell 0;have AU:=AA.out.e.1.cell 1;have AN:=AA.out.e.1.cell 2;have AO:=AA.out.e.1.cell 3;have AM:=AA.out.e.1.cell 4;simp only[yD,yC,yJ,yK,List.getElem?_cons_succ] at AT AU AN AO AM
 go_wp2_with (refine vD rfl 223 (.tmp 2) (.tmp 104) rfl g0 #[.int .u8 21,.int .i64 (r.s.hd.at_:Int),.string ⟨#[]⟩,.int .i64 r.s.hd.n,.slice none 0 0] (by rfl) (by rfl) 223 _ AA.out.z.1 (by kernel_rfl) rfl rfl ?_; intro w6 AL AK)
 have AS:Hid (JP w p B R (xZ (f+1) r) (.returned (.agg #[.int .u8 21,.int .i64 (r.s.hd.at_:Int),.string ⟨#[]⟩,.int .i64 r.s.hd.n,.slice none 0 0])) w6):=yE (by
  rw[zUJ HE.out HK.out]
  exact ZA.post AA AL (rfl))
 have AQ:=yE AK;clear AL AK
 go_wp2_with fail
 exact JC g0 223 _ _ Tryz.results208 rfl rfl AQ.out Tryz.underlying223 rfl (by kernel_rfl) AS.out
theorem zQV (f:Nat)(w:World)(p B:Nat)(r:Rs)(R:vJ)(h:QS w p B r R)(hl:r.s.ts.length≤f+1)(he:r.e=0)(h1:r.s.hd.kind≠1)(h2:r.s.hd.kind≠2)(h3:r.is [40]=true)(h4:¬r.inn.e=0) :
  Calls Tryz.prog 208 #[.pointer (some ⟨p,0,none⟩)] w (JP w p B R (xZ (f+1) r)):=by
 have HP:=yE h;have HL:=yE hl;have Aa:=h.blk.lt
 have AU:R.bt<w.heap.size:=by have:=h.XZ; have:=h.pB; omega
 have x0:=h.x0;have x1:=h.x1;have qp:=h.pos;have AG:=h.few;have AH:=h.yY.last.pos;have t0:w.cell? ⟨R.bt,R.o0+R.I*5,none⟩=some (.int .u8 (r.s.hd.kind:Int)):=h.tok 0 (by decide);have t1:w.cell? ⟨R.bt,R.o0+R.I*5+1,none⟩=some (.int .i64 (r.s.hd.at_:Int)):=h.tok 1 (by decide);have t2:w.cell? ⟨R.bt,R.o0+R.I*5+2,none⟩=some (.int .i64 (r.s.hd.en:Int)):=h.tok 2 (by decide);have t3:w.cell? ⟨R.bt,R.o0+R.I*5+3,none⟩=some (.string (xE r.s.hd.text)):=h.tok 3 (by decide);have t4:w.cell? ⟨R.bt,R.o0+R.I*5+4,none⟩=some (.int .i64 r.s.hd.n):=h.tok 4 (by decide);have HE:=yE he;have AT:=yE h1;have AX:=yE h2
 have n1:((r.s.hd.kind:Int)==1)=false:=by rw[yG]; omega
 have n2:((r.s.hd.kind:Int)==2)=false:=by rw[yG]; omega
 have m1:¬(r.s.hd.kind:Int)=1:=by omega
 have m2:¬(r.s.hd.kind:Int)=2:=by omega
 have H3:=yE h3;have AI:=yE h4;clear h hl he h1 h2 h3 h4
 go_enter Tryz.func208,Tryz.ntmps208
 go_wp2_with fail
 go_region
 clear x0 x1 qp AG AH t0 t1 t2 t3 t4
 go_upto_region 4 with fail
 obtain⟨W,HW⟩:∃W,Hid ((((w.alloc (.cells #[.int .u8 0,.int .i64 0,.string ⟨#[]⟩,.int .i64 0,.slice none 0 0] 223)).alloc (.cells #[.int .u8 (r.s.hd.kind:Int),.int .i64 (r.s.hd.at_:Int),.int .i64 (r.s.hd.en:Int),.string (xE r.s.hd.text),.int .i64 r.s.hd.n] 129)).alloc (.cells #[.int .u8 0,.int .i64 (r.s.hd.at_:Int),.string (xE r.s.hd.text),.int .i64 0,.slice none 0 0] 223)).drew=W):=⟨_,yE rfl⟩
 have AB:Hid (ZA w W p B R r R w.heap.size (w.heap.size+1) (w.heap.size+1+1) r.s.hd [.int .u8 0,.int .i64 (r.s.hd.at_:Int),.string (xE r.s.hd.text),.int .i64 0,.slice none 0 0]):=yE (by
  have h1:=HP.out.ext (Ext.alloc w (.cells jM 223));have h2:=h1.ext (Ext.alloc _ (.cells (xS r.s.hd).toArray 129));have h3:=h2.ext (Ext.alloc _ (.cells [.int .u8 0,.int .i64 (r.s.hd.at_:Int),.string (xE r.s.hd.text),.int .i64 0,.slice none 0 0].toArray 223));have hB:=HP.out.pB;have e1:Ext _ (((w.alloc (.cells jM 223)).alloc (.cells (xS r.s.hd).toArray 129)).alloc (.cells [.int .u8 0,.int .i64 (r.s.hd.at_:Int),.string (xE r.s.hd.text),.int .i64 0,.slice none 0 0].toArray 223)):=Ext.alloc _ _;have hd:Ext _ (((w.alloc (.cells jM 223)).alloc (.cells (xS r.s.hd).toArray 129)).alloc (.cells [.int .u8 0,.int .i64 (r.s.hd.at_:Int),.string (xE r.s.hd.text),.int .i64 0,.slice none 0 0].toArray 223)).drew:=Below.drew (Below.refl _ _);have s0:=((((HP.out.fresh 223 jM).xC (yZ.ext (M:=xI p R) (Ext.alloc _ (.cells (xS r.s.hd).toArray 129)))).xC (yZ.ext (M:=xI p R) e1)).xC (yZ.ext (M:=xI p R) hd));have s1:=(((h1.fresh 129 (xS r.s.hd).toArray).xC (yZ.ext (M:=xI p R) e1)).xC (yZ.ext (M:=xI p R) hd));have s2:=((h2.fresh 223 [.int .u8 0,.int .i64 (r.s.hd.at_:Int),.string (xE r.s.hd.text),.int .i64 0,.slice none 0 0].toArray).xC (yZ.ext (M:=xI p R) hd));rw[yR] at s1 s2;rw[yR] at s2;rw[←HW.out]
  exact⟨h3.ext hd,yZ.ext ((((Ext.alloc _ _).trans (Ext.alloc _ _)).trans e1).trans hd),s0,s1,s2,by omega⟩)
 rw[HW.out];obtain⟨g0,AF⟩:∃g,Hid (w.heap.size=g):=⟨_,yE rfl⟩;obtain⟨gt,AE⟩:∃g,Hid (w.heap.size+1=g):=⟨_,yE rfl⟩;obtain⟨g,AD⟩:∃g,Hid (w.heap.size+1+1=g):=⟨_,yE rfl⟩;rw[AD.out,AE.out,AF.out] at AB
 try rw[AD.out]
 try rw[AE.out]
 try rw[AF.out]
 clear HW AF AE AD AU;have x4:=AB.out.qs.x4;rw[HE.out] at x4;have k0:=AB.out.t.1.cell 0;simp only[xS,yJ,yK] at k0
 go_wp2_with fail
 refine(vE _ p B r R [40] true H3 AB.out.qs).mono ?_;rintro e _ ⟨rfl,m,rfl⟩;have AM:=ZA.drew AB m;generalize W.drewN m=W1 at *;clear x4 k0
 go_wp2_with fail
 refine(zB0 _ p B r R HE.out false (yE (by exact beq_eq_false_iff_ne.2 AI.out)) AM.out.qs).mono ?_;rintro e W5 ⟨rfl,R5,hq,hm⟩;have AC:=ZA.step AM ⟨hq,hm⟩;clear hq hm;have x2:=AC.out.qs.x2;have AQ:=AC.out.qs.blk.frozen 2;have AN:=AC.out.qs.yY.deep;have AK:Hid (1≤r.inn.s.deep):=yE (by have:=zA2 r; omega);have AW:=AK.out
 go_upto_region 26 with fail
 have AA:=ZA.out (v:=.int .i64 ((r.inn.s.deep:Int)-1)) AC (by show _=Value.int .i64 ((r.inn.s.deep-1:Nat):Int); rw[Int.ofNat_sub AK.out]; rfl);clear x2 AQ AN AW
 skip
 generalize W5.setCell ⟨p,2,none⟩ (.int .i64 ((r.inn.s.deep:Int)-1))=W7 at *;have AY:=AA.out.e.1.cell 0;have AZ:=AA.out.e.1.cell 1;have AP:=AA.out.e.1.cell 2;have AR:=AA.out.e.1.cell 3;have AO:=AA.out.e.1.cell 4;simp only[yD,yC,yJ,yK,List.getElem?_cons_succ] at AY AZ AP AR AO
 go_wp2_with (refine vD rfl 223 (.tmp 2) (.tmp 104) rfl g0 #[.int .u8 0,.int .i64 (r.s.hd.at_:Int),.string (xE r.s.hd.text),.int .i64 0,.slice none 0 0] (by rfl) (by rfl) 223 _ AA.out.z.1 (by kernel_rfl) rfl rfl ?_; intro w6 AL AJ)
 have AV:Hid (JP w p B R (xZ (f+1) r) (.returned (.agg #[.int .u8 0,.int .i64 (r.s.hd.at_:Int),.string (xE r.s.hd.text),.int .i64 0,.slice none 0 0])) w6):=yE (by
  rw[zPQ HE.out AT.out AX.out H3.out AI.out]
  exact ZA.post AA AL (rfl))
 have AS:=yE AJ;clear AL AJ
 go_wp2_with fail
 exact JC g0 223 _ _ Tryz.results208 rfl rfl AS.out Tryz.underlying223 rfl (by kernel_rfl) AV.out
theorem zQC (f:Nat)(w:World)(p B:Nat)(r:Rs)(R:vJ)(h:QS w p B r R)(hl:r.s.ts.length≤f+1)(he:r.e=0)(h1:r.s.hd.kind≠1)(h2:r.s.hd.kind≠2)(h3:r.is [40]=false)(h5:r.is [45]=false) :
  Calls Tryz.prog 208 #[.pointer (some ⟨p,0,none⟩)] w (JP w p B R (xZ (f+1) r)):=by
 have HP:=yE h;have HL:=yE hl;have AV:=h.blk.lt
 have AQ:R.bt<w.heap.size:=by have:=h.XZ; have:=h.pB; omega
 have x0:=h.x0;have x1:=h.x1;have qp:=h.pos;have AF:=h.few;have AG:=h.yY.last.pos;have t0:w.cell? ⟨R.bt,R.o0+R.I*5,none⟩=some (.int .u8 (r.s.hd.kind:Int)):=h.tok 0 (by decide);have t1:w.cell? ⟨R.bt,R.o0+R.I*5+1,none⟩=some (.int .i64 (r.s.hd.at_:Int)):=h.tok 1 (by decide);have t2:w.cell? ⟨R.bt,R.o0+R.I*5+2,none⟩=some (.int .i64 (r.s.hd.en:Int)):=h.tok 2 (by decide);have t3:w.cell? ⟨R.bt,R.o0+R.I*5+3,none⟩=some (.string (xE r.s.hd.text)):=h.tok 3 (by decide);have t4:w.cell? ⟨R.bt,R.o0+R.I*5+4,none⟩=some (.int .i64 r.s.hd.n):=h.tok 4 (by decide);have HE:=yE he;have AP:=yE h1;have AS:=yE h2
 have n1:((r.s.hd.kind:Int)==1)=false:=by rw[yG]; omega
 have n2:((r.s.hd.kind:Int)==2)=false:=by rw[yG]; omega
 have m1:¬(r.s.hd.kind:Int)=1:=by omega
 have m2:¬(r.s.hd.kind:Int)=2:=by omega
 have H3:=yE h3;have H5:=yE h5;clear h hl he h1 h2 h3 h5
 go_enter Tryz.func208,Tryz.ntmps208
 go_wp2_with fail
 go_region
 clear x0 x1 qp AF AG t0 t1 t2 t3 t4
 go_upto_region 4 with fail
 obtain⟨W,HW⟩:∃W,Hid ((((w.alloc (.cells #[.int .u8 0,.int .i64 0,.string ⟨#[]⟩,.int .i64 0,.slice none 0 0] 223)).alloc (.cells #[.int .u8 (r.s.hd.kind:Int),.int .i64 (r.s.hd.at_:Int),.int .i64 (r.s.hd.en:Int),.string (xE r.s.hd.text),.int .i64 r.s.hd.n] 129)).alloc (.cells #[.int .u8 0,.int .i64 (r.s.hd.at_:Int),.string (xE r.s.hd.text),.int .i64 0,.slice none 0 0] 223)).drew=W):=⟨_,yE rfl⟩
 have AB:Hid (ZA w W p B R r R w.heap.size (w.heap.size+1) (w.heap.size+1+1) r.s.hd [.int .u8 0,.int .i64 (r.s.hd.at_:Int),.string (xE r.s.hd.text),.int .i64 0,.slice none 0 0]):=yE (by
  have h1:=HP.out.ext (Ext.alloc w (.cells jM 223));have h2:=h1.ext (Ext.alloc _ (.cells (xS r.s.hd).toArray 129));have h3:=h2.ext (Ext.alloc _ (.cells [.int .u8 0,.int .i64 (r.s.hd.at_:Int),.string (xE r.s.hd.text),.int .i64 0,.slice none 0 0].toArray 223));have hB:=HP.out.pB;have e1:Ext _ (((w.alloc (.cells jM 223)).alloc (.cells (xS r.s.hd).toArray 129)).alloc (.cells [.int .u8 0,.int .i64 (r.s.hd.at_:Int),.string (xE r.s.hd.text),.int .i64 0,.slice none 0 0].toArray 223)):=Ext.alloc _ _;have hd:Ext _ (((w.alloc (.cells jM 223)).alloc (.cells (xS r.s.hd).toArray 129)).alloc (.cells [.int .u8 0,.int .i64 (r.s.hd.at_:Int),.string (xE r.s.hd.text),.int .i64 0,.slice none 0 0].toArray 223)).drew:=Below.drew (Below.refl _ _);have s0:=((((HP.out.fresh 223 jM).xC (yZ.ext (M:=xI p R) (Ext.alloc _ (.cells (xS r.s.hd).toArray 129)))).xC (yZ.ext (M:=xI p R) e1)).xC (yZ.ext (M:=xI p R) hd));have s1:=(((h1.fresh 129 (xS r.s.hd).toArray).xC (yZ.ext (M:=xI p R) e1)).xC (yZ.ext (M:=xI p R) hd));have s2:=((h2.fresh 223 [.int .u8 0,.int .i64 (r.s.hd.at_:Int),.string (xE r.s.hd.text),.int .i64 0,.slice none 0 0].toArray).xC (yZ.ext (M:=xI p R) hd));rw[yR] at s1 s2;rw[yR] at s2;rw[←HW.out]
  exact⟨h3.ext hd,yZ.ext ((((Ext.alloc _ _).trans (Ext.alloc _ _)).trans e1).trans hd),s0,s1,s2,by omega⟩)
 rw[HW.out];obtain⟨g0,AE⟩:∃g,Hid (w.heap.size=g):=⟨_,yE rfl⟩;obtain⟨gt,AD⟩:∃g,Hid (w.heap.size+1=g):=⟨_,yE rfl⟩;obtain⟨g,AC⟩:∃g,Hid (w.heap.size+1+1=g):=⟨_,yE rfl⟩;rw[AC.out,AD.out,AE.out] at AB
 try rw[AC.out]
 try rw[AD.out]
 try rw[AE.out]
 clear HW AE AD AC AQ;have x4:=AB.out.qs.x4;rw[HE.out] at x4;have k0:=AB.out.t.1.cell 0;simp only[xS,yJ,yK] at k0
 go_wp2_with fail
 refine(vE _ p B r R [40] false H3 AB.out.qs).mono ?_;rintro e _ ⟨rfl,m,rfl⟩;have AK:=ZA.drew AB m;generalize W.drewN m=W1 at *;clear x4 k0
 go_wp2_with fail
 refine(vE _ p B r R [45] false H5 AK.out.qs).mono ?_;rintro e _ ⟨rfl,m,rfl⟩;have AH:=ZA.drew AK m;generalize W1.drewN m=W2 at *
 go_wp2_with fail
 refine(JF _ p B r R 50 (by decide) AH.out.qs).mono ?_;rintro e W5 ⟨rfl,R5,hq,hm⟩;have AA:=ZA.step AH ⟨hq,hm⟩;clear hq hm
 go_upto_region 26 with fail
 have AT:=AA.out.e.1.cell 0;have AU:=AA.out.e.1.cell 1;have AM:=AA.out.e.1.cell 2;have AN:=AA.out.e.1.cell 3;have AL:=AA.out.e.1.cell 4;simp only[yD,yC,yJ,yK,List.getElem?_cons_succ] at AT AU AM AN AL
 go_wp2_with (refine vD rfl 223 (.tmp 2) (.tmp 104) rfl g0 #[.int .u8 0,.int .i64 (r.s.hd.at_:Int),.string (xE r.s.hd.text),.int .i64 0,.slice none 0 0] (by rfl) (by rfl) 223 _ AA.out.z.1 (by kernel_rfl) rfl rfl ?_; intro w6 AJ AI)
 have AR:Hid (JP w p B R (xZ (f+1) r) (.returned (.agg #[.int .u8 0,.int .i64 (r.s.hd.at_:Int),.string (xE r.s.hd.text),.int .i64 0,.slice none 0 0])) w6):=yE (by
  rw[zRi HE.out AP.out AS.out H3.out H5.out]
  exact ZA.post AA AJ (rfl))
 have AO:=yE AI;clear AJ AI
 go_wp2_with fail
 exact JC g0 223 _ _ Tryz.results208 rfl rfl AO.out Tryz.underlying223 rfl (by kernel_rfl) AR.out
theorem zRn (f:Nat)(w:World)(p B:Nat)(r:Rs)(R:vJ)(h:QS w p B r R)(hl:r.s.ts.length≤f+1)(he:r.e=0)(h1:r.s.hd.kind≠1)(h2:r.s.hd.kind≠2)(h3:r.is [40]=false)(h5:r.is [45]=true)(h4:¬r.inn.e=0) :
  Calls Tryz.prog 208 #[.pointer (some ⟨p,0,none⟩)] w (JP w p B R (xZ (f+1) r)):=by
 have HP:=yE h;have HL:=yE hl;have Ad:=h.blk.lt
 have AU:R.bt<w.heap.size:=by have:=h.XZ; have:=h.pB; omega
 have x0:=h.x0;have x1:=h.x1;have qp:=h.pos;have AJ:=h.few;have AK:=h.yY.last.pos;have t0:w.cell? ⟨R.bt,R.o0+R.I*5,none⟩=some (.int .u8 (r.s.hd.kind:Int)):=h.tok 0 (by decide);have t1:w.cell? ⟨R.bt,R.o0+R.I*5+1,none⟩=some (.int .i64 (r.s.hd.at_:Int)):=h.tok 1 (by decide);have t2:w.cell? ⟨R.bt,R.o0+R.I*5+2,none⟩=some (.int .i64 (r.s.hd.en:Int)):=h.tok 2 (by decide);have t3:w.cell? ⟨R.bt,R.o0+R.I*5+3,none⟩=some (.string (xE r.s.hd.text)):=h.tok 3 (by decide);have t4:w.cell? ⟨R.bt,R.o0+R.I*5+4,none⟩=some (.int .i64 r.s.hd.n):=h.tok 4 (by decide);have HE:=yE he;have Aa:=yE h1;have AW:=yE h2
 have n1:((r.s.hd.kind:Int)==1)=false:=by rw[yG]; omega
 have n2:((r.s.hd.kind:Int)==2)=false:=by rw[yG]; omega
 have m1:¬(r.s.hd.kind:Int)=1:=by omega
 have m2:¬(r.s.hd.kind:Int)=2:=by omega
 have H3:=yE h3;have H5:=yE h5;have AL:=yE h4;clear h hl he h1 h2 h3 h5 h4
 go_enter Tryz.func208,Tryz.ntmps208
 go_wp2_with fail
 go_region
 clear x0 x1 qp AJ AK t0 t1 t2 t3 t4
 go_upto_region 4 with fail
 obtain⟨W,HW⟩:∃W,Hid ((((w.alloc (.cells #[.int .u8 0,.int .i64 0,.string ⟨#[]⟩,.int .i64 0,.slice none 0 0] 223)).alloc (.cells #[.int .u8 (r.s.hd.kind:Int),.int .i64 (r.s.hd.at_:Int),.int .i64 (r.s.hd.en:Int),.string (xE r.s.hd.text),.int .i64 r.s.hd.n] 129)).alloc (.cells #[.int .u8 0,.int .i64 (r.s.hd.at_:Int),.string (xE r.s.hd.text),.int .i64 0,.slice none 0 0] 223)).drew=W):=⟨_,yE rfl⟩
 have AB:Hid (ZA w W p B R r R w.heap.size (w.heap.size+1) (w.heap.size+1+1) r.s.hd [.int .u8 0,.int .i64 (r.s.hd.at_:Int),.string (xE r.s.hd.text),.int .i64 0,.slice none 0 0]):=yE (by
  have h1:=HP.out.ext (Ext.alloc w (.cells jM 223));have h2:=h1.ext (Ext.alloc _ (.cells (xS r.s.hd).toArray 129));have h3:=h2.ext (Ext.alloc _ (.cells [.int .u8 0,.int .i64 (r.s.hd.at_:Int),.string (xE r.s.hd.text),.int .i64 0,.slice none 0 0].toArray 223));have hB:=HP.out.pB;have e1:Ext _ (((w.alloc (.cells jM 223)).alloc (.cells (xS r.s.hd).toArray 129)).alloc (.cells [.int .u8 0,.int .i64 (r.s.hd.at_:Int),.string (xE r.s.hd.text),.int .i64 0,.slice none 0 0].toArray 223)):=Ext.alloc _ _;have hd:Ext _ (((w.alloc (.cells jM 223)).alloc (.cells (xS r.s.hd).toArray 129)).alloc (.cells [.int .u8 0,.int .i64 (r.s.hd.at_:Int),.string (xE r.s.hd.text),.int .i64 0,.slice none 0 0].toArray 223)).drew:=Below.drew (Below.refl _ _);have s0:=((((HP.out.fresh 223 jM).xC (yZ.ext (M:=xI p R) (Ext.alloc _ (.cells (xS r.s.hd).toArray 129)))).xC (yZ.ext (M:=xI p R) e1)).xC (yZ.ext (M:=xI p R) hd));have s1:=(((h1.fresh 129 (xS r.s.hd).toArray).xC (yZ.ext (M:=xI p R) e1)).xC (yZ.ext (M:=xI p R) hd));have s2:=((h2.fresh 223 [.int .u8 0,.int .i64 (r.s.hd.at_:Int),.string (xE r.s.hd.text),.int .i64 0,.slice none 0 0].toArray).xC (yZ.ext (M:=xI p R) hd));rw[yR] at s1 s2;rw[yR] at s2;rw[←HW.out]
  exact⟨h3.ext hd,yZ.ext ((((Ext.alloc _ _).trans (Ext.alloc _ _)).trans e1).trans hd),s0,s1,s2,by omega⟩)
 rw[HW.out];obtain⟨g0,AG⟩:∃g,Hid (w.heap.size=g):=⟨_,yE rfl⟩;obtain⟨gt,AH⟩:∃g,Hid (w.heap.size+1=g):=⟨_,yE rfl⟩;obtain⟨g,AE⟩:∃g,Hid (w.heap.size+1+1=g):=⟨_,yE rfl⟩;rw[AE.out,AH.out,AG.out] at AB
 try rw[AE.out]
 try rw[AH.out]
 try rw[AG.out]
 clear HW AG AH AE AU;have x4:=AB.out.qs.x4;rw[HE.out] at x4;have k0:=AB.out.t.1.cell 0;simp only[xS,yJ,yK] at k0
 go_wp2_with fail
 refine(vE _ p B r R [40] false H3 AB.out.qs).mono ?_;rintro e _ ⟨rfl,m,rfl⟩;have AP:=ZA.drew AB m;generalize W.drewN m=W1 at *;clear x4 k0
 go_wp2_with fail
 refine(vE _ p B r R [45] true H5 AP.out.qs).mono ?_;rintro e _ ⟨rfl,m,rfl⟩;have AD:=ZA.drew AP m;generalize W1.drewN m=W2 at *;have c0:=AD.out.e.1.cell 0;have z0:=AD.out.e.1.frozen 0;simp only[yJ,yK] at c0
 go_upto_region 21 with fail
 clear c0 z0;have AI:=ZA.set AD 0 (.int .u8 26);generalize W2.setCell ⟨g,0,none⟩ (.int .u8 26)=W3 at *;have c2:=AI.out.e.1.cell 2;have z2:=AI.out.e.1.frozen 2;simp only[yD,yJ,yK,List.getElem?_cons_succ] at c2
 go_upto_region 22 with fail
 clear c2 z2;have AF:=ZA.set AI 2 (.string ⟨#[]⟩);generalize W3.setCell ⟨g,2,none⟩ (.string ⟨#[]⟩)=W4 at *;simp only[yD,yC] at AF
 go_wp2_with fail
 refine(zB0 _ p B r R HE.out false (yE (by exact beq_eq_false_iff_ne.2 AL.out)) AF.out.qs).mono ?_;rintro e W5 ⟨rfl,R5,hq,hm⟩;have AC:=ZA.step AF ⟨hq,hm⟩;clear hq hm;have x2:=AC.out.qs.x2;have AR:=AC.out.qs.blk.frozen 2;have AQ:=AC.out.qs.yY.deep;have AO:Hid (1≤r.inn.s.deep):=yE (by have:=zA2 r; omega);have Ab:=AO.out
 go_upto_region 26 with fail
 have AA:=ZA.out (v:=.int .i64 ((r.inn.s.deep:Int)-1)) AC (by show _=Value.int .i64 ((r.inn.s.deep-1:Nat):Int); rw[Int.ofNat_sub AO.out]; rfl);clear x2 AR AQ Ab
 skip
 generalize W5.setCell ⟨p,2,none⟩ (.int .i64 ((r.inn.s.deep:Int)-1))=W7 at *;have Ac:=AA.out.e.1.cell 0;have AZ:=AA.out.e.1.cell 1;have AY:=AA.out.e.1.cell 2;have AS:=AA.out.e.1.cell 3;have AX:=AA.out.e.1.cell 4;simp only[yD,yC,yJ,yK,List.getElem?_cons_succ] at Ac AZ AY AS AX
 go_wp2_with (refine vD rfl 223 (.tmp 2) (.tmp 104) rfl g0 #[.int .u8 26,.int .i64 (r.s.hd.at_:Int),.string ⟨#[]⟩,.int .i64 0,.slice none 0 0] (by rfl) (by rfl) 223 _ AA.out.z.1 (by kernel_rfl) rfl rfl ?_; intro w6 AN AM)
 have AV:Hid (JP w p B R (xZ (f+1) r) (.returned (.agg #[.int .u8 26,.int .i64 (r.s.hd.at_:Int),.string ⟨#[]⟩,.int .i64 0,.slice none 0 0])) w6):=yE (by
  rw[zQM HE.out Aa.out AW.out H3.out H5.out AL.out]
  exact ZA.post AA AN (rfl))
 have AT:=yE AM;clear AN AM
 go_wp2_with fail
 exact JC g0 223 _ _ Tryz.results208 rfl rfl AT.out Tryz.underlying223 rfl (by kernel_rfl) AV.out
theorem zTO (f:Nat)(w:World)(p B:Nat)(r:Rs)(R:vJ)(h:QS w p B r R)(hl:r.s.ts.length≤f+1)(he:r.e=0)(h1:r.s.hd.kind≠1)(h2:r.s.hd.kind≠2)(h3:r.is [40]=true)(h4:r.inn.e=0)(ih:zEi 187 f (vQ ZL (vQ YI (xZ f))))(kp:∀r,XW r→r.s.ts.length≤f→zCo r (vQ ZL (vQ YI (xZ f)) r)) :
  Calls Tryz.prog 208 #[.pointer (some ⟨p,0,none⟩)] w (JP w p B R (xZ (f+1) r)):=by
 have HP:=yE h;have HL:=yE hl;have Ax:=h.blk.lt
 have Aj:R.bt<w.heap.size:=by have:=h.XZ; have:=h.pB; omega
 have x0:=h.x0;have x1:=h.x1;have qp:=h.pos;have AE:=h.few;have AF:=h.yY.last.pos;have t0:w.cell? ⟨R.bt,R.o0+R.I*5,none⟩=some (.int .u8 (r.s.hd.kind:Int)):=h.tok 0 (by decide);have t1:w.cell? ⟨R.bt,R.o0+R.I*5+1,none⟩=some (.int .i64 (r.s.hd.at_:Int)):=h.tok 1 (by decide);have t2:w.cell? ⟨R.bt,R.o0+R.I*5+2,none⟩=some (.int .i64 (r.s.hd.en:Int)):=h.tok 2 (by decide);have t3:w.cell? ⟨R.bt,R.o0+R.I*5+3,none⟩=some (.string (xE r.s.hd.text)):=h.tok 3 (by decide);have t4:w.cell? ⟨R.bt,R.o0+R.I*5+4,none⟩=some (.int .i64 r.s.hd.n):=h.tok 4 (by decide);have HE:=yE he;have As:=yE h1;have Al:=yE h2
 have n1:((r.s.hd.kind:Int)==1)=false:=by rw[yG]; omega
 have n2:((r.s.hd.kind:Int)==2)=false:=by rw[yG]; omega
 have m1:¬(r.s.hd.kind:Int)=1:=by omega
 have m2:¬(r.s.hd.kind:Int)=2:=by omega
 have H3:=yE h3;have AQ:=yE h4;have Af:=yE ih;have Au:=yE kp;clear h hl he h1 h2 h3 h4 ih kp
 go_enter Tryz.func208,Tryz.ntmps208
 go_wp2_with fail
 go_region
 clear x0 x1 qp AE AF t0 t1 t2 t3 t4
 go_upto_region 4 with fail
 obtain⟨W,HW⟩:∃W,Hid ((((w.alloc (.cells #[.int .u8 0,.int .i64 0,.string ⟨#[]⟩,.int .i64 0,.slice none 0 0] 223)).alloc (.cells #[.int .u8 (r.s.hd.kind:Int),.int .i64 (r.s.hd.at_:Int),.int .i64 (r.s.hd.en:Int),.string (xE r.s.hd.text),.int .i64 r.s.hd.n] 129)).alloc (.cells #[.int .u8 0,.int .i64 (r.s.hd.at_:Int),.string (xE r.s.hd.text),.int .i64 0,.slice none 0 0] 223)).drew=W):=⟨_,yE rfl⟩
 have AH:Hid (ZA w W p B R r R w.heap.size (w.heap.size+1) (w.heap.size+1+1) r.s.hd [.int .u8 0,.int .i64 (r.s.hd.at_:Int),.string (xE r.s.hd.text),.int .i64 0,.slice none 0 0]):=yE (by
  have h1:=HP.out.ext (Ext.alloc w (.cells jM 223));have h2:=h1.ext (Ext.alloc _ (.cells (xS r.s.hd).toArray 129));have h3:=h2.ext (Ext.alloc _ (.cells [.int .u8 0,.int .i64 (r.s.hd.at_:Int),.string (xE r.s.hd.text),.int .i64 0,.slice none 0 0].toArray 223));have hB:=HP.out.pB;have e1:Ext _ (((w.alloc (.cells jM 223)).alloc (.cells (xS r.s.hd).toArray 129)).alloc (.cells [.int .u8 0,.int .i64 (r.s.hd.at_:Int),.string (xE r.s.hd.text),.int .i64 0,.slice none 0 0].toArray 223)):=Ext.alloc _ _;have hd:Ext _ (((w.alloc (.cells jM 223)).alloc (.cells (xS r.s.hd).toArray 129)).alloc (.cells [.int .u8 0,.int .i64 (r.s.hd.at_:Int),.string (xE r.s.hd.text),.int .i64 0,.slice none 0 0].toArray 223)).drew:=Below.drew (Below.refl _ _);have s0:=((((HP.out.fresh 223 jM).xC (yZ.ext (M:=xI p R) (Ext.alloc _ (.cells (xS r.s.hd).toArray 129)))).xC (yZ.ext (M:=xI p R) e1)).xC (yZ.ext (M:=xI p R) hd));have s1:=(((h1.fresh 129 (xS r.s.hd).toArray).xC (yZ.ext (M:=xI p R) e1)).xC (yZ.ext (M:=xI p R) hd));have s2:=((h2.fresh 223 [.int .u8 0,.int .i64 (r.s.hd.at_:Int),.string (xE r.s.hd.text),.int .i64 0,.slice none 0 0].toArray).xC (yZ.ext (M:=xI p R) hd));rw[yR] at s1 s2;rw[yR] at s2;rw[←HW.out]
  exact⟨h3.ext hd,yZ.ext ((((Ext.alloc _ _).trans (Ext.alloc _ _)).trans e1).trans hd),s0,s1,s2,by omega⟩)
 rw[HW.out];obtain⟨g0,AK⟩:∃g,Hid (w.heap.size=g):=⟨_,yE rfl⟩;obtain⟨gt,AP⟩:∃g,Hid (w.heap.size+1=g):=⟨_,yE rfl⟩;obtain⟨g,AJ⟩:∃g,Hid (w.heap.size+1+1=g):=⟨_,yE rfl⟩;rw[AJ.out,AP.out,AK.out] at AH
 try rw[AJ.out]
 try rw[AP.out]
 try rw[AK.out]
 clear HW AK AP AJ Aj;have x4:=AH.out.qs.x4;rw[HE.out] at x4;have k0:=AH.out.t.1.cell 0;simp only[xS,yJ,yK] at k0
 go_wp2_with fail
 refine(vE _ p B r R [40] true H3 AH.out.qs).mono ?_;rintro e _ ⟨rfl,m,rfl⟩;have Ab:=ZA.drew AH m;generalize W.drewN m=W1 at *;clear x4 k0
 go_wp2_with fail
 refine(zB0 _ p B r R HE.out true (yE (by rw[AQ.out]; rfl)) Ab.out.qs).mono ?_;rintro e W5 ⟨rfl,R5,hq,hm⟩;have AG:=ZA.step Ab ⟨hq,hm⟩;clear hq hm;have x1:=AG.out.qs.x1;have Ar:=AG.out.qs.blk.frozen 1;have AE:=AG.out.qs.few;have AF:=AG.out.qs.yY.last.pos;have AW:Hid (r.inn.s.hd.kind≠4):=yE (by rw[zHB (zDF r).1]; exact(vS H3.out).1)
 have AY:Hid (r.inn.adv.s.ts.length≤f):=yE (by
  have h1:=AG.out.qs.yY.last.len AW.out
  have h2:r.inn.s.ts.length=r.s.ts.length:=by rw[(zDF r).1]
  have h3:=HL.out;have h4:r.inn.adv.s.ts.length<r.inn.s.ts.length:=h1
  omega)
 go_wp2_with fail
 have AC:=ZA.adv AG AW.out;clear x1 Ar AE AF;generalize W5.setCell ⟨p,1,none⟩ (.int .i64 ((R5.I:Int)+1))=W6 at *;generalize { R5 with I:=R5.I+1 } = R6 at *;refine(Af.out W6 p B r.inn.adv R6 AC.out.qs AY.out).mono ?_;rintro e W8 ⟨cs,R8,rfl,hq,hm,hx⟩;have AV:=yE (Au.out r.inn.adv AC.out.qs.yY AY.out);have HU:=yE (zCB (ms:=ZL) (zCB (ms:=YI) (zFe f)) r.inn.adv);have AD:=yE (zTi (f:=f) HE.out As.out Al.out H3.out AQ.out);obtain⟨y,hy⟩:∃y,vQ ZL (vQ YI (xZ f)) r.inn.adv=y:=⟨_,rfl⟩;rw[hy] at hq hx AD AV HU;obtain⟨x,r8⟩:=y
 simp only at hq hx AD AV HU
 clear hy;have AO:=ZA.step AC ⟨hq,hm⟩;obtain⟨A1,c1,f1,Am,_⟩:=hx.open;have Ah:Hid (g<W6.heap.size∧g0<W6.heap.size∧w.heap.size≤W6.heap.size):=yE ⟨AC.out.e.1.lt,AC.out.z.1.lt,AC.out.mv.size⟩
 have AI:Hid (EY W8 (Or (xI p R8) (fun b=>under w b∨b=g∨b=g0)) x cs):=yE (hx.weaken fun b hb k=>by
  have hh:=Ah.out
  rcases k with k | k | k | k
  ·exact .inl k
  ·refine .inr ?_; unfold under at *; omega
  ·refine .inr ?_; unfold under; omega
  ·refine .inr ?_; unfold under; omega)
 clear hq hm hx;subst Am;unfold jD;unfold jD at AI;generalize x.parts.length=xm at *;generalize HY:x.node=y at *;obtain⟨yk,yp,yt,yn,Aw⟩:=y
 simp only
 simp only at AI
 go_wp2_with (refine vD rfl 223 (.tmp 4) (.tmp 69) rfl g #[.int .u8 (yk:Int),.int .i64 (yp:Int),.string (xE yt),.int .i64 yn,.slice A1 xm c1] (by rfl) (by rfl) 223 _ AO.out.e.1 (by kernel_rfl) rfl rfl ?_; intro W9 AN AT)
 have AU:=ZA.ZE (cs':=[.int .u8 (yk:Int),.int .i64 (yp:Int),.string (xE yt),.int .i64 yn,.slice A1 xm c1]) AO AN AT;have Aq:=yE (AI.out.xC (AN.xC (.inr (.inr (.inl rfl)))));clear AN AT AO AI
 go_wp2_with fail
 refine(vF _ p B _ R8 [41] AU.out.qs).mono ?_;rintro e AR ⟨rfl,AZ,hq,hm⟩;have AB:=ZA.step AU ⟨hq,hm⟩;have AM:=yE (Aq.out.xC (hm.or _));clear hq hm;have x2:=AB.out.qs.x2;have Ad:=AB.out.qs.blk.frozen 2;have Ac:=AB.out.qs.yY.deep;have Aa:Hid (1≤(xD [41] r8).s.deep):=yE (by have h1:=HU.out; have h2:=XB [41] r8; have h3:=zA2 r; have h4:r.inn.adv.s.deep=r.inn.s.deep:=rfl; omega);have At:=Aa.out
 go_upto_region 26 with fail
 have AA:=ZA.out (v:=.int .i64 (((xD [41] r8).s.deep:Int)-1)) AB (by show _=Value.int .i64 (((xD [41] r8).s.deep-1:Nat):Int); rw[Int.ofNat_sub Aa.out]; rfl);clear x2 Ad Ac At;have AL:=yE (AM.out.xC (yZ.set (w:=AR) (g:=p) (i:=2) (u:=.int .i64 (((xD [41] r8).s.deep:Int)-1)) (.inl (.inl rfl))));generalize AR.setCell ⟨p,2,none⟩ (.int .i64 (((xD [41] r8).s.deep:Int)-1))=Ai at *
 have Ak:Hid (∀b,b<Ai.heap.size→Or (xI p AZ) (fun b=>under w b∨b=g0) b→Or (xI p AZ) (fun b=>under w b∨b=g∨b=g0) b):=yE fun b hb k=>by
  rcases k with k | k | k
  ·exact .inl k
  ·exact .inr (.inl k)
  ·exact .inr (.inr (.inr k))
 have Av:=AA.out.e.1.cell 0;have Ap:=AA.out.e.1.cell 1;have Ao:=AA.out.e.1.cell 2;have Ae:=AA.out.e.1.cell 3;have An:=AA.out.e.1.cell 4;simp only[yD,yC,yJ,yK,List.getElem?_cons_succ] at Av Ap Ao Ae An
 go_wp2_with (refine vD rfl 223 (.tmp 2) (.tmp 104) rfl g0 #[.int .u8 (yk:Int),.int .i64 (yp:Int),.string (xE yt),.int .i64 yn,.slice A1 xm c1] (by rfl) (by rfl) 223 _ AA.out.z.1 (by kernel_rfl) rfl rfl ?_; intro w6 AX AS)
 have AC:Hid (JP w p B R (xZ (f+1) r) (.returned (.agg #[.int .u8 (yk:Int),.int .i64 (yp:Int),.string (xE yt),.int .i64 yn,.slice A1 xm c1])) w6):=yE (by
  rw[AD.out]
  exact ZA.post AA AX (AL.out.weaken Ak.out))
 have Ag:=yE AS;clear AX AS
 go_wp2_with fail
 exact JC g0 223 _ _ Tryz.results208 rfl rfl Ag.out Tryz.underlying223 rfl (by kernel_rfl) AC.out
theorem zSB (f:Nat)(w:World)(p B:Nat)(r:Rs)(R:vJ)(h:QS w p B r R)(hl:r.s.ts.length≤f+1)(he:r.e=0)(h1:r.s.hd.kind≠1)(h2:r.s.hd.kind≠2)(h3:r.is [40]=false)(h5:r.is [45]=true)(h4:r.inn.e=0)(ih:zEi 208 f (xZ f))(kp:∀r,XW r→r.s.ts.length≤f→zCo r (xZ f r)) :
  Calls Tryz.prog 208 #[.pointer (some ⟨p,0,none⟩)] w (JP w p B R (xZ (f+1) r)):=by
 have HP:=yE h;have HL:=yE hl;have A6:=h.blk.lt
 have Ao:R.bt<w.heap.size:=by have:=h.XZ; have:=h.pB; omega
 have x0:=h.x0;have x1:=h.x1;have qp:=h.pos;have AD:=h.few;have AG:=h.yY.last.pos;have t0:w.cell? ⟨R.bt,R.o0+R.I*5,none⟩=some (.int .u8 (r.s.hd.kind:Int)):=h.tok 0 (by decide);have t1:w.cell? ⟨R.bt,R.o0+R.I*5+1,none⟩=some (.int .i64 (r.s.hd.at_:Int)):=h.tok 1 (by decide);have t2:w.cell? ⟨R.bt,R.o0+R.I*5+2,none⟩=some (.int .i64 (r.s.hd.en:Int)):=h.tok 2 (by decide);have t3:w.cell? ⟨R.bt,R.o0+R.I*5+3,none⟩=some (.string (xE r.s.hd.text)):=h.tok 3 (by decide);have t4:w.cell? ⟨R.bt,R.o0+R.I*5+4,none⟩=some (.int .i64 r.s.hd.n):=h.tok 4 (by decide);have HE:=yE he;have A0:=yE h1;have Ap:=yE h2
 have n1:((r.s.hd.kind:Int)==1)=false:=by rw[yG]; omega
 have n2:((r.s.hd.kind:Int)==2)=false:=by rw[yG]; omega
 have m1:¬(r.s.hd.kind:Int)=1:=by omega
 have m2:¬(r.s.hd.kind:Int)=2:=by omega
 have H3:=yE h3;have H5:=yE h5;have Ac:=yE h4;have Am:=yE ih;have A3:=yE kp;clear h hl he h1 h2 h3 h5 h4 ih kp
 go_enter Tryz.func208,Tryz.ntmps208
 go_wp2_with fail
 go_region
 clear x0 x1 qp AD AG t0 t1 t2 t3 t4
 go_upto_region 4 with fail
 obtain⟨W,HW⟩:∃W,Hid ((((w.alloc (.cells #[.int .u8 0,.int .i64 0,.string ⟨#[]⟩,.int .i64 0,.slice none 0 0] 223)).alloc (.cells #[.int .u8 (r.s.hd.kind:Int),.int .i64 (r.s.hd.at_:Int),.int .i64 (r.s.hd.en:Int),.string (xE r.s.hd.text),.int .i64 r.s.hd.n] 129)).alloc (.cells #[.int .u8 0,.int .i64 (r.s.hd.at_:Int),.string (xE r.s.hd.text),.int .i64 0,.slice none 0 0] 223)).drew=W):=⟨_,yE rfl⟩
 have AK:Hid (ZA w W p B R r R w.heap.size (w.heap.size+1) (w.heap.size+1+1) r.s.hd [.int .u8 0,.int .i64 (r.s.hd.at_:Int),.string (xE r.s.hd.text),.int .i64 0,.slice none 0 0]):=yE (by
  have h1:=HP.out.ext (Ext.alloc w (.cells jM 223));have h2:=h1.ext (Ext.alloc _ (.cells (xS r.s.hd).toArray 129));have h3:=h2.ext (Ext.alloc _ (.cells [.int .u8 0,.int .i64 (r.s.hd.at_:Int),.string (xE r.s.hd.text),.int .i64 0,.slice none 0 0].toArray 223));have hB:=HP.out.pB;have e1:Ext _ (((w.alloc (.cells jM 223)).alloc (.cells (xS r.s.hd).toArray 129)).alloc (.cells [.int .u8 0,.int .i64 (r.s.hd.at_:Int),.string (xE r.s.hd.text),.int .i64 0,.slice none 0 0].toArray 223)):=Ext.alloc _ _;have hd:Ext _ (((w.alloc (.cells jM 223)).alloc (.cells (xS r.s.hd).toArray 129)).alloc (.cells [.int .u8 0,.int .i64 (r.s.hd.at_:Int),.string (xE r.s.hd.text),.int .i64 0,.slice none 0 0].toArray 223)).drew:=Below.drew (Below.refl _ _);have s0:=((((HP.out.fresh 223 jM).xC (yZ.ext (M:=xI p R) (Ext.alloc _ (.cells (xS r.s.hd).toArray 129)))).xC (yZ.ext (M:=xI p R) e1)).xC (yZ.ext (M:=xI p R) hd));have s1:=(((h1.fresh 129 (xS r.s.hd).toArray).xC (yZ.ext (M:=xI p R) e1)).xC (yZ.ext (M:=xI p R) hd));have s2:=((h2.fresh 223 [.int .u8 0,.int .i64 (r.s.hd.at_:Int),.string (xE r.s.hd.text),.int .i64 0,.slice none 0 0].toArray).xC (yZ.ext (M:=xI p R) hd));rw[yR] at s1 s2;rw[yR] at s2;rw[←HW.out]
  exact⟨h3.ext hd,yZ.ext ((((Ext.alloc _ _).trans (Ext.alloc _ _)).trans e1).trans hd),s0,s1,s2,by omega⟩)
 rw[HW.out];obtain⟨g0,AI⟩:∃g,Hid (w.heap.size=g):=⟨_,yE rfl⟩;obtain⟨gt,AR⟩:∃g,Hid (w.heap.size+1=g):=⟨_,yE rfl⟩;obtain⟨g,AN⟩:∃g,Hid (w.heap.size+1+1=g):=⟨_,yE rfl⟩;rw[AN.out,AR.out,AI.out] at AK
 try rw[AN.out]
 try rw[AR.out]
 try rw[AI.out]
 clear HW AI AR AN Ao;have x4:=AK.out.qs.x4;rw[HE.out] at x4;have k0:=AK.out.t.1.cell 0;simp only[xS,yJ,yK] at k0
 go_wp2_with fail
 refine(vE _ p B r R [40] false H3 AK.out.qs).mono ?_;rintro e _ ⟨rfl,m,rfl⟩;have Ab:=ZA.drew AK m;generalize W.drewN m=W1 at *;clear x4 k0
 go_wp2_with fail
 refine(vE _ p B r R [45] true H5 Ab.out.qs).mono ?_;rintro e _ ⟨rfl,m,rfl⟩;have AS:=ZA.drew Ab m;generalize W1.drewN m=W2 at *;have c0:=AS.out.e.1.cell 0;have z0:=AS.out.e.1.frozen 0;simp only[yJ,yK] at c0
 go_upto_region 21 with fail
 clear c0 z0;have AV:=ZA.set AS 0 (.int .u8 26);generalize W2.setCell ⟨g,0,none⟩ (.int .u8 26)=W3 at *;have c2:=AV.out.e.1.cell 2;have z2:=AV.out.e.1.frozen 2;simp only[yD,yJ,yK,List.getElem?_cons_succ] at c2
 go_upto_region 22 with fail
 clear c2 z2;have AT:=ZA.set AV 2 (.string ⟨#[]⟩);generalize W3.setCell ⟨g,2,none⟩ (.string ⟨#[]⟩)=W4 at *;simp only[yD,yC] at AT
 go_wp2_with fail
 refine(zB0 _ p B r R HE.out true (yE (by rw[Ac.out]; rfl)) AT.out.qs).mono ?_;rintro e W5 ⟨rfl,R5,hq,hm⟩;have AH:=ZA.step AT ⟨hq,hm⟩;clear hq hm;have x1:=AH.out.qs.x1;have Az:=AH.out.qs.blk.frozen 1;have AD:=AH.out.qs.few;have AG:=AH.out.qs.yY.last.pos;have Af:Hid (r.inn.s.hd.kind≠4):=yE (by rw[zHB (zDF r).1]; exact(vS H5.out).1)
 have Ag:Hid (r.inn.adv.s.ts.length≤f):=yE (by
  have h1:=AH.out.qs.yY.last.len Af.out
  have h2:r.inn.s.ts.length=r.s.ts.length:=by rw[(zDF r).1]
  have h3:=HL.out;have h4:r.inn.adv.s.ts.length<r.inn.s.ts.length:=h1
  omega)
 go_wp2_with fail
 have AC:=ZA.adv AH Af.out;clear x1 Az AD AG;generalize W5.setCell ⟨p,1,none⟩ (.int .i64 ((R5.I:Int)+1))=W6 at *;generalize { R5 with I:=R5.I+1 } = R6 at *;refine(Am.out W6 p B r.inn.adv R6 AC.out.qs Ag.out).mono ?_;rintro e W8 ⟨cs,R8,rfl,hq,hm,hx⟩;have AX:=yE (A3.out r.inn.adv AC.out.qs.yY Ag.out);have HU:=yE (zFe f r.inn.adv);have AF:=yE (zR6 (f:=f) HE.out A0.out Ap.out H3.out H5.out Ac.out);obtain⟨y,hy⟩:∃y,xZ f r.inn.adv=y:=⟨_,rfl⟩;rw[hy] at hq hx AF AX HU;obtain⟨x,r8⟩:=y
 simp only at hq hx AF AX HU
 clear hy;have AJ:=ZA.step AC ⟨hq,hm⟩;obtain⟨A1,c1,f1,Aq,_⟩:=hx.open;have Ae:Hid (g<W6.heap.size∧g0<W6.heap.size∧w.heap.size≤W6.heap.size∧W6.heap.size≤W8.heap.size):=yE ⟨AC.out.e.1.lt,AC.out.z.1.lt,AC.out.mv.size,hm.size⟩
 have Aj:Hid (EY W8 (Or (xI p R8) (fun b=>under w b∨b=g∨b=g0)) x cs):=yE (hx.weaken fun b hb k=>by
  have hh:=Ae.out
  rcases k with k | k | k | k
  ·exact .inl k
  ·refine .inr ?_; unfold under at *; omega
  ·refine .inr ?_; unfold under; omega
  ·refine .inr ?_; unfold under; omega)
 have Aa:=yE (hq.fresh 223 cs.toArray).2;have AZ:=AJ.out.e.1.lt;have c4:=AJ.out.e.1.cell 4;have z4:=AJ.out.e.1.frozen 4;simp only[yJ,yK,List.getElem?_cons_succ] at c4;have AP:=ZA.set AJ 4 (.slice (some ⟨W8.heap.size,0,none⟩) 1 1);have AM:=yE (Aj.out.xC ((zE5 W8 g 4 (.slice (some ⟨W8.heap.size,0,none⟩) 1 1)).xC (.inr (.inr (.inl rfl)))));have AW:Hid ((W8.setCell ⟨g,4,none⟩ (.slice (some ⟨W8.heap.size,0,none⟩) 1 1)).heap.size=W8.heap.size):=yE (by simp[World.setCell]);have Ai:=yE AZ;have AI:=yE AJ.out.z.1.lt;clear hq hm hx Aj;subst Aq;unfold jD;unfold jD at AM;generalize x.parts.length=xm at *;generalize HY:x.node=y at *;obtain⟨yk,yp,yt,yn,A5⟩:=y
 simp only
 simp only at AM
 go_upto_region 25 with fail
 clear c4 z4 AZ;obtain⟨gb,Ah⟩:∃g,Hid (W8.heap.size=g):=⟨_,yE rfl⟩;rw[Ah.out] at AP AM AW Aa Ai AI ⊢;generalize W8.setCell ⟨g,4,none⟩ (.slice (some ⟨gb,0,none⟩) 1 1)=W9 at *;have AE:Hid (Ext W9 (W9.alloc (.cells #[.int .u8 (yk:Int),.int .i64 (yp:Int),.string (xE yt),.int .i64 yn,.slice A1 xm c1] 223))):=yE (Ext.alloc _ _);have AB:=ZA.step AP ⟨AP.out.qs.ext AE.out,yZ.ext AE.out⟩;have AL:=yE (Blk.new W9 223 #[.int .u8 (yk:Int),.int .i64 (yp:Int),.string (xE yt),.int .i64 yn,.slice A1 xm c1]);rw[AW.out] at AL;have AQ:=yE (AM.out.xC ((yZ.ext AE.out).or _));generalize W9.alloc (.cells #[.int .u8 (yk:Int),.int .i64 (yp:Int),.string (xE yt),.int .i64 yn,.slice A1 xm c1] 223)=AO at *
 have As:Hid (EY AO (Or (xI p R8) (fun b=>under w b∨b=g∨b=g0)) (.neg r.s.hd.at_ x) [.int .u8 26,.int .i64 (r.s.hd.at_:Int),.string ⟨#[]⟩,.int .i64 0,.slice (some ⟨gb,0,none⟩) 1 1]):=yE ⟨gb,[.int .u8 (yk:Int),.int .i64 (yp:Int),.string (xE yt),.int .i64 yn,.slice A1 xm c1],rfl,⟨AL.out,fun k=>by
  have hh:=Ae.out;have h1:=Ai.out;have h2:=AI.out;have h3:=Ah.out
  rcases k with k | k | k | k
  ·exact Aa.out k
  ·unfold under at k; omega
  ·omega
  ·omega⟩,AQ.out⟩
 simp only[yD,yC] at AB;have x2:=AB.out.qs.x2;have Au:=AB.out.qs.blk.frozen 2;have Al:=AB.out.qs.yY.deep;have Ak:Hid (1≤r8.s.deep):=yE (by have h1:=HU.out; have h3:=zA2 r; have h4:r.inn.adv.s.deep=r.inn.s.deep:=rfl; omega);have A2:=Ak.out
 go_upto_region 26 with fail
 have AA:=ZA.out (v:=.int .i64 ((r8.s.deep:Int)-1)) AB (by show _=Value.int .i64 ((r8.s.deep-1:Nat):Int); rw[Int.ofNat_sub Ak.out]; rfl);clear x2 Au Al A2;have AU:=yE (As.out.xC (yZ.set (w:=AO) (g:=p) (i:=2) (u:=.int .i64 ((r8.s.deep:Int)-1)) (.inl (.inl rfl))));generalize AO.setCell ⟨p,2,none⟩ (.int .i64 ((r8.s.deep:Int)-1))=Aw at *
 have Ax:Hid (∀b,b<Aw.heap.size→Or (xI p R8) (fun b=>under w b∨b=g0) b→Or (xI p R8) (fun b=>under w b∨b=g∨b=g0) b):=yE fun b hb k=>by
  rcases k with k | k | k
  ·exact .inl k
  ·exact .inr (.inl k)
  ·exact .inr (.inr (.inr k))
 have A4:=AA.out.e.1.cell 0;have At:=AA.out.e.1.cell 1;have Ay:=AA.out.e.1.cell 2;have Av:=AA.out.e.1.cell 3;have Ar:=AA.out.e.1.cell 4;simp only[yD,yC,yJ,yK,List.getElem?_cons_succ] at A4 At Ay Av Ar
 go_wp2_with (refine vD rfl 223 (.tmp 2) (.tmp 104) rfl g0 #[.int .u8 26,.int .i64 (r.s.hd.at_:Int),.string ⟨#[]⟩,.int .i64 0,.slice (some ⟨gb,0,none⟩) 1 1] (by rfl) (by rfl) 223 _ AA.out.z.1 (by kernel_rfl) rfl rfl ?_; intro w6 AY Ad)
 have AC:Hid (JP w p B R (xZ (f+1) r) (.returned (.agg #[.int .u8 26,.int .i64 (r.s.hd.at_:Int),.string ⟨#[]⟩,.int .i64 0,.slice (some ⟨gb,0,none⟩) 1 1])) w6):=yE (by
  rw[AF.out]
  exact ZA.post AA AY (AU.out.weaken Ax.out))
 have An:=yE Ad;clear AY Ad
 go_wp2_with fail
 exact JC g0 223 _ _ Tryz.results208 rfl rfl An.out Tryz.underlying223 rfl (by kernel_rfl) AC.out
theorem zHv:∀f,zEi 208 f (xZ f)
 | 0=>fun w p B r R h hl=>absurd h.yY.last.pos (by omega)
 | f+1=>fun w p B r R h hl=>by
  have ih:=zHv f;have k1:∀r,XW r→r.s.ts.length≤f→zCo r (xZ f r):=fun r g hn=>JK f r g hn;have k2:∀r,XW r→r.s.ts.length≤f→zCo r (vQ YI (xZ f) r):=fun r g hn=>JO (n:=f) (fun q gq hq=>JK f q gq hq) r g hn;have k3:∀r,XW r→r.s.ts.length≤f→zCo r (vQ ZL (vQ YI (xZ f)) r):=fun r g hn=>JO (n:=f) k2 r g hn
  by_cases he:r.e≠0
  ·exact zRA f w p B r R h hl he
  ·have he:r.e=0:=Decidable.not_not.1 he
   by_cases h1:r.s.hd.kind=1
   ·exact zUh f w p B r R h hl he h1
   ·by_cases h2:r.s.hd.kind=2
    ·exact zUw f w p B r R h hl he h2
    ·cases h3:r.is [40] with
     | true=>
      by_cases h4:r.inn.e=0
      ·exact zTO f w p B r R h hl he h1 h2 h3 h4 (zPw f _ (zNu f _ ih k1) k2) k3
      ·exact zQV f w p B r R h hl he h1 h2 h3 h4
     | false=>
      cases h5:r.is [45] with
      | true=>
       by_cases h4:r.inn.e=0
       ·exact zSB f w p B r R h hl he h1 h2 h3 h5 h4 ih k1
       ·exact zRn f w p B r R h hl he h1 h2 h3 h5 h4
      | false=>exact zQC f w p B r R h hl he h1 h2 h3 h5
theorem zRD (w:World)(p B:Nat)(r:Rs)(R:vJ)(h:QS w p B r R):Calls Tryz.prog 187 #[.pointer (some ⟨p,0,none⟩)] w (JP w p B R (zDK r)):=
 zPw r.s.ts.length _ (zNu r.s.ts.length _ (zHv _) (fun r g hn=>JK _ r g hn)) (fun q gq hq=>JO (n:=r.s.ts.length) (fun q gq hq=>JK _ q gq hq) q gq hq) w p B r R h (zU _)
end Go.Proofs.YtioffpjajhalaaaGreatDoor
