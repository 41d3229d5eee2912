/- The document's term, sum: parts with marks between them. No condition. -/
import Derived.Test.YtioffpjajhalaaaGreatDoorKaa
import Derived.Test.YtioffpjajhalaaaGreatDoorKbc
import Derived.Test.YtioffpjajhalaaaGreatDoorKan
set_option linter.unusedVariables false
set_option linter.unusedSimpArgs false
set_option maxRecDepth 100000
set_option maxHeartbeats 16000000
namespace Go.Proofs.YtioffpjajhalaaaGreatDoor
open Go Go.RowKit
theorem EY.weaken {w:World}{M M':Nat→Prop}(k:∀b,b<w.heap.size→M' b→M b):∀ {e:Ex} {cs:List Value},EY w M e cs→EY w M' e cs
 | .leaf ..,_,h=>h
 | .neg ..,_,⟨g,ca,h1,h2,h3⟩=>⟨g,ca,h1,⟨h2.1,fun h=>h2.2 (k g h2.1.lt h)⟩,EY.weaken k h3⟩
 | .bin ..,_,⟨g,ca,cb,h1,h2,h3,h4⟩=>⟨g,ca,cb,h1,⟨h2.1,fun h=>h2.2 (k g h2.1.lt h)⟩,EY.weaken k h3,EY.weaken k h4⟩
theorem QS.VS {w w':World}{p B:Nat}{r:Rs}{R:vJ}(h:QS w p B r R)(hk:∀b,b<B∨xI p R b→w'.heap[b]?=w.heap[b]?):QS w' p B r R:=by
 have hb:w'.heap[p]?=w.heap[p]?:=hk p (.inr (.inl rfl));exact⟨hb.trans h.blk,fun k AA=>(World.cell?_of_block (w:=w) (hk R.bt (.inl h.XZ))).trans (h.zBX k AA),h.few,h.XZ,h.nodes,h.ns.VS fun b hb=>hk b (.inr (.inr hb)),h.pB,h.yY⟩
theorem Touch.qs {g p B:Nat}{w w':World}{r:Rs}{R:vJ}(h:Touch g w w')(k:QS w p B r R)(hB:B≤g)(hM:¬xI p R g):QS w' p B r R:=
 k.VS fun b hb=>h.other b fun e=>by
  subst e
  rcases hb with hb | hb
  ·omega
  ·exact hM hb
def zA7 (p:Nat)(w:World):Nat:=match w.cell? ⟨p,0,none⟩,w.cell? ⟨p,1,none⟩ with
 | some (.slice _ n _),some (.int _ i)=>n-i.toNat
 | _,_=>0
theorem QS.zA7 {w:World}{p B:Nat}{r:Rs}{R:vJ}(h:QS w p B r R):zA7 p w=r.s.ts.length:=by
 unfold Proofs.YtioffpjajhalaaaGreatDoor.zA7;rw[h.x0,h.x1]
 show R.I+r.s.ts.length-(R.I:Int).toNat=_
 omega
def JP (w:World)(p B:Nat)(R:vJ)(x:Ex × Rs)(e:Ending)(w':World):Prop:=∃cs R',e=.returned (.agg cs.toArray)∧QS w' p B x.2 R'∧yZ w (xI p R) w' (xI p R')∧EY w' (Or (xI p R') (under w)) x.1 cs
def zEi (F f:Nat)(m:Rs→Ex × Rs):Prop:=∀(w:World) (p B:Nat) (r:Rs) (R:vJ),QS w p B r R→r.s.ts.length≤f→Calls Tryz.prog F #[.pointer (some ⟨p,0,none⟩)] w (JP w p B R (m r))
def jM:Array Value:=#[.int .u8 0,.int .i64 0,.string ⟨#[]⟩,.int .i64 0,.slice none 0 0]
def FE (wd:World)(p B:Nat)(R:vJ)(x:Ex × Rs)(v:Value)(w':World):Prop:=∃cs R',v=.agg cs.toArray∧QS w' p B x.2 R'∧yZ wd (xI p R) w' (xI p R')∧EY w' (Or (xI p R') (under wd)) x.1 cs
theorem FE.ext {wd:World}{p B:Nat}{R:vJ}{x:Ex × Rs}(v:Value)(w w':World)(h:FE wd p B R x v w)(hx:Ext w w'):FE wd p B R x v w':=
 let ⟨cs,R',h1,h2,h3,h4⟩:=h; ⟨cs,R',h1,h2.ext hx,h3.trans (yZ.ext hx),h4.xC (yZ.ext hx)⟩
def FB (wd:World)(p B:Nat)(R:vJ)(x:Ex × Rs)(ca:List Value)(v:Value)(w':World):Prop:=∃cs R' gb,v=.slice (some ⟨gb,0,none⟩) 2 2∧QS w' p B x.2 R'∧yZ wd (xI p R) w' (xI p R')∧EY w' (Or (xI p R') (under wd)) x.1 cs∧Safe w' (xI p R') gb 223 (ca++cs).toArray∧wd.heap.size≤gb
theorem FB.ext {wd:World}{p B:Nat}{R:vJ}{x:Ex × Rs}{ca:List Value}(v:Value)(w w':World)(h:FB wd p B R x ca v w)(hx:Ext w w'):FB wd p B R x ca v w':=
 let ⟨cs,R',gb,h1,h2,h3,h4,h5,h6⟩:=h; ⟨cs,R',gb,h1,h2.ext hx,h3.trans (yZ.ext hx),h4.xC (yZ.ext hx),h5.xC (yZ.ext hx),h6⟩
theorem zHI {ms:List (Bs × Nat)}{P:Rs→Ex × Rs}{f:Nat}{e:Ex}{r:Rs}(h:zBZ ms r=none):YG ms P (f+1) e r=(e,r):=by rw[YG,h]
theorem zE1 {ms:List (Bs × Nat)}{P:Rs→Ex × Rs}{f k:Nat}{e:Ex}{r:Rs}(h:zBZ ms r=some k):YG ms P (f+1) e r=YG ms P f (.bin k e.pos e (P r.adv).1) (P r.adv).2:=by rw[YG,h]
theorem zSE {t u:Bs}{r:Rs}(h:r.is t=true)(hn:t≠u):r.is u=false:=by
 cases hu:r.is u with
 | false=>rfl
 | true=>
  unfold Rs.is at h hu;rw[zF] at h hu;exact absurd (((zFc h.2).2.2).symm.trans (zFc hu.2).2.2) hn
def ChQ (w:World)(p B:Nat)(R:vJ)(g g0:Nat)(f:Nat)(M:Nat→Ex→Rs→Ex × Rs)(res:Ex × Rs)(wr:World):Prop:=
 ∃(r':Rs) (R':vJ) (x:Ex) (cs:List Value) (f':Nat),Hid (QS wr p B r' R')∧Hid (yZ w (xI p R) wr (xI p R'))∧Hid (r'.s.ts.length≤f∧r'.s.ts.length<f')∧Hid (res=M f' x r')∧Hid (Safe wr (xI p R') g 223 cs.toArray)∧Hid (EY wr (Or (xI p R') (ChX w g g0)) x cs)∧Hid (Safe wr (xI p R') g0 223 jM)
theorem zNu (f:Nat)(part:Rs→Ex × Rs)(hpart:zEi 208 f part)(hkeep:∀r,XW r→r.s.ts.length≤f→zCo r (part r)):zEi 202 f (vQ YI part):=by
 intro w p B r R h hl;have HP:=yE h;have A6:=yE hpart;have Bf:=yE hkeep;have HL:=yE hl;have BI:=hkeep r h.yY hl;have HZ:=yE (h.fresh 223 jM);have Ad:Hid (Ext w (w.alloc (.cells jM 223))):=yE (Ext.alloc _ _);have Be:=yE (h.ext Ad.out);have BX:Hid (B≤w.heap.size):=yE (Nat.le_trans h.pB (zS h.blk.lt));obtain⟨g0,Ax⟩:∃g0,Hid (w.heap.size=g0):=⟨_,yE rfl⟩;have BA:=yE BI;clear h hpart hkeep hl BI
 go_enter Tryz.func202,Tryz.ntmps202
 go_wp2_with fail
 have BM:Hid (w.alloc (.cells #[.int .u8 0,.int .i64 0,.string ⟨#[]⟩,.int .i64 0,.slice none 0 0] 223)=w.alloc (.cells jM 223)):=yE rfl;rw[BM.out,Ax.out];rw[Ax.out] at HZ;generalize w.alloc (.cells jM 223)=w0 at *;clear BM;refine(A6.out w0 p B r R Be.out HL.out).mono ?_;rintro e w1 ⟨cs,R1,rfl,AK,AZ,AN⟩;have Aj:Hid (vQ YI part r=YG YI part ((part r).2.s.ts.length+1) (part r).1 (part r).2):=yE rfl;have Ai:Hid ((part r).2.s.ts.length≤f):=yE (by have:=BA.out.ts; have:=HL.out; omega);obtain⟨y0,BO⟩:∃y,part r=y:=⟨_,rfl⟩;rw[BO] at AK AN Aj Ai;obtain⟨x,r1⟩:=y0
 simp only at AK AN Aj Ai
 clear BO BA;obtain⟨A1,c1,f1,AT,_⟩:=AN.open;have Bo:=yE AN;have BZ:=yE AK;have Bl:=yE AZ;have Ao:=yE (HZ.out.xC AZ);have BE:=yE (AK.fresh 223 cs.toArray)
 have AJ:Hid (w.heap.size≤w1.heap.size∧w.heap.size≤g0∧w1.heap.size≠g0∧B≤w.heap.size):=yE (by
  have h1:=Ad.out.size;have h2:=AZ.size;have h3:=Ax.out;have h4:=Ao.out.1.lt;have h5:=BX.out
  omega)
 have BL:Hid (∀b,b<w1.heap.size→Or (xI p R1) (ChX w w1.heap.size g0) b→Or (xI p R1) (under w0) b):=yE fun b hb h=>by
  rcases h with h | h | h | h
  ·exact .inl h
  ·exact .inr (yS h Ad.out.size)
  ·omega
  ·subst h; exact .inr (HZ.out.1.lt)
 have AE:Hid (Ext w1 (w1.alloc (.cells cs.toArray 223))):=yE (Ext.alloc _ _);have HJ:Hid (ChQ w p B R w1.heap.size g0 f (YG YI part) (vQ YI part r) (w1.alloc (.cells cs.toArray 223))):=yE ⟨r1,R1,x,cs,r1.s.ts.length+1,yE (AK.ext AE.out),yE (((yZ.ext Ad.out).trans AZ).trans (yZ.ext AE.out)),yE ⟨Ai.out,Nat.lt_succ_self _⟩,Aj,BE,yE ((AN.weaken BL.out).xC ((yZ.ext AE.out).or _)),yE (Ao.out.xC (yZ.ext AE.out))⟩;clear AK AZ AN;subst AT;unfold jD;unfold jD at HJ;generalize x.parts.length=xm at *;generalize HY:x.node=y at *;obtain⟨yk,yp,yt,yn,AP⟩:=y
 simp only
 simp only at HJ
 obtain⟨g,A8⟩:∃g,Hid (w1.heap.size=g):=⟨_,yE rfl⟩;rw[A8.out] at HJ AJ
 go_wp2_with fail
 rw[A8.out];clear Bo BE BL AE BZ Bl Ao;generalize w1.alloc (.cells #[.int .u8 (yk:Int),.int .i64 (yp:Int),.string (xE yt),.int .i64 yn,.slice A1 xm c1] 223)=w2 at *
 go_loopw [] (fun wr=>ChQ w p B R g g0 f (YG YI part) (vQ YI part r) wr) (fun wr=>zA7 p wr)
 case atStart=>exact HJ.out
 case round=>
  obtain⟨r',R',x',Bt,f',AA,AH,AW,BC,AB,AF,AG⟩:=hrel;obtain⟨wa,rfl⟩:∃wa:World,wa=wr:=⟨_,rfl⟩;obtain⟨Ap,rfl⟩:∃n,f'=n+1:=⟨f'-1,by have:=AW.out; omega⟩;clear HJ Aj Ai HY;have BY:Hid (zA7 p wa=r'.s.ts.length):=yE AA.out.zA7
  cases hi:r'.is [42] with
  | false=>
   have HI:=yE hi;clear hi;have Az:Hid (vQ YI part r=(x',r')):=yE (by rw[BC.out,zHI (by unfold zBZ YI; simp[List.find?_cons,HI.out])])
   go_wp2_with fail
   refine(vE _ p B r' R' [42] false HI AA.out).mono ?_;rintro e _ ⟨rfl,m,rfl⟩;have AR:=yE (AA.out.drewN m);have AU:=yE (AH.out.trans (xU m));have AV:=yE (AB.out.xC (xU (M:=xI p R') m));have AX:=yE (AF.out.xC ((xU (M:=xI p R') m).or _));have Ac:=yE (AG.out.xC (xU (M:=xI p R') m));generalize wa.drewN m=BU at *;clear AA AH AB AF AG;have AA:=AR;have AH:=AU;have AB:=AV;have AF:=AX;have AG:=Ac;clear AR AU AV AX Ac;obtain⟨A1,c1,f1,AT,_⟩:=AF.out.open;have BT:=AB.out.1.cell 0;have BF:=AB.out.1.cell 1;have BN:=AB.out.1.cell 2;have BG:=AB.out.1.cell 3;have BB:=AB.out.1.cell 4;subst AT;simp only[jD,yJ,yK,List.getElem?_cons_succ] at BT BF BN BG BB;generalize x'.parts.length=xm at *;generalize HY:x'.node=y at *;obtain⟨yk,yp,yt,yn,AP⟩:=y
   simp only at BT BF BN BG BB
   go_wp2_with (refine vD rfl 223 (.tmp 2) (.tmp 22) rfl g0 #[.int .u8 (yk:Int),.int .i64 (yp:Int),.string (xE yt),.int .i64 yn,.slice A1 xm c1] (by rfl) (by rfl) 223 _ AG.out.1 (by kernel_rfl) rfl rfl ?_; intro w6 AC Aa)
   have Ah:Hid (yZ BU (Or (xI p R') (ChX w g g0)) w6 (Or (xI p R') (ChX w g g0))):=yE (AC.xC (.inr (.inr (.inr rfl))))
   have An:Hid (JP w p B R (vQ YI part r) (.returned (.agg (jD ⟨yk,yp,yt,yn,AP⟩ A1 xm c1).toArray)) w6):=yE (by
    rw[Az.out]
    exact⟨_,R',rfl,AC.qs AA.out (Nat.le_trans AJ.out.2.2.2 AJ.out.2.1) AG.out.2,AH.out.ZE AC AJ.out.2.1,(AF.out.xC Ah.out).weaken (fun b hb h=>by
     rcases h with h | h
     ·exact .inl h
     ·exact .inr (.inl h))⟩)
   have Am:=yE Aa;clear AC Aa
   go_wp2_with fail
   exact JC g0 223 _ _ Tryz.results202 rfl rfl Am.out Tryz.underlying223 rfl (by kernel_rfl) An.out
  | true=>
   have HI:=yE hi;clear hi;have Bg:Hid (zBZ YI r'=some 25):=yE (by unfold zBZ YI; simp[List.find?_cons,HI.out]);have Aw:Hid (r'.s.hd.kind≠4):=yE (vS HI.out).1;have At:Hid (vQ YI part r=YG YI part Ap (.bin 25 x'.pos x' (part r'.adv).1) (part r'.adv).2):=yE (by rw[BC.out,zE1 Bg.out]);have Ay:Hid (r'.adv.s.ts.length<r'.s.ts.length):=yE (AA.out.yY.last.len Aw.out);have BS:=yE (Bf.out r'.adv (jI AA.out.yY Aw.out).yY (by have:=Ay.out; have:=AW.out; omega))
   go_wp2_with fail
   refine(vE _ p B r' R' [42] true HI AA.out).mono ?_;rintro e _ ⟨rfl,m,rfl⟩;have AR:=yE (AA.out.drewN m);have AU:=yE (AH.out.trans (xU m));have AV:=yE (AB.out.xC (xU (M:=xI p R') m));have AX:=yE (AF.out.xC ((xU (M:=xI p R') m).or _));have Ac:=yE (AG.out.xC (xU (M:=xI p R') m));generalize wa.drewN m=Av at *;clear AA AH AB AF AG;have AA:=AR;have AH:=AU;have AB:=AV;have AF:=AX;have AG:=Ac;clear AR AU AV AX Ac;have x1:=AA.out.x1;have Bm:=AA.out.blk.frozen 1;have Au:=AA.out.few;have A4:=AA.out.yY.last.pos
   go_wp2_with fail
   have BQ:=yE (AA.out.zOW Aw.out);have AY:∀ {N:Nat→Prop},N p→yZ Av N (Av.setCell ⟨p,1,none⟩ (.int .i64 ((R'.I:Int)+1))) N:=fun h=>yZ.set h;have Ak:=yE (AH.out.trans (AY (.inl rfl)));have AI:=yE (AB.out.xC (AY (N:=xI p R') (.inl rfl)));have A0:=yE (AF.out.xC (AY (N:=Or (xI p R') (ChX w g g0)) (.inl (.inl rfl))));have Ag:=yE (AG.out.xC (AY (N:=xI p R') (.inl rfl)));clear x1 Bm Au A4 AA AH AB AF AG AY;generalize Av.setCell ⟨p,1,none⟩ (.int .i64 ((R'.I:Int)+1))=w2 at *;obtain⟨R2,Al⟩:∃X,X = { R' with I:=R'.I+1 }:=⟨_,rfl⟩;rw[←Al] at BQ;have Ba:Hid (xI p R'=xI p R2):=yE (by rw[Al]; rfl);rw[Ba.out] at Ak AI A0 Ag;clear Al;obtain⟨A1,c1,f1,AT,_⟩:=A0.out.open;have BK:=x'.zEP;subst AT;unfold jD at AI;generalize x'.parts.length=xm at *;generalize HY:x'.node=y at *;obtain⟨yk,yp,yt,yn,AP⟩:=y
   simp only at BK AI
   subst BK;apply zDr 6 4 (fun w'=>Blk w' g 223 #[.int .u8 (yk:Int),.int .i64 (x'.pos:Int),.string (xE yt),.int .i64 yn,.slice A1 xm c1]) (fun _ _ h hx=>Blk.ext h hx) (by kernel_rfl) (by kernel_rfl) (by kernel_rfl) (by decide);dsimp only[List.take_succ_cons,List.take_zero,List.drop_succ_cons,List.drop_zero];apply JH (.pointer (some ⟨g,1,none⟩)) rfl rfl
   ·intro w' AD;clear AD;simp[xH,go_sem]
   (try simp only[Act.put,yB,yC,yD]);apply JH (.int .i64 (x'.pos:Int)) rfl rfl
   ·intro w' AD
    have bb:Blk w' g 223 #[.int .u8 (yk:Int),.int .i64 (x'.pos:Int),.string (xE yt),.int .i64 yn,.slice A1 xm c1]:=by rcases AD with rfl | h; exact(AI.out.1.ext (Below.drew (Below.refl _ _))); exact h
    have e1:=bb.cell 1;simp only[yJ,yK,List.getElem?_cons_succ] at e1;clear AD bb;simp[xH,go_sem,e1]
   (try simp only[Act.put,yB,yC,yD]);apply JH (.agg #[.int .u8 (yk:Int),.int .i64 (x'.pos:Int),.string (xE yt),.int .i64 yn,.slice A1 xm c1]) rfl rfl
   ·intro w' AD
    have bb:Blk w' g 223 #[.int .u8 (yk:Int),.int .i64 (x'.pos:Int),.string (xE yt),.int .i64 yn,.slice A1 xm c1]:=by rcases AD with rfl | h; exact(AI.out.1.ext (Below.drew (Below.refl _ _))); exact h
    have e0:=bb.cell 0;have e1:=bb.cell 1;have e2:=bb.cell 2;have e3:=bb.cell 3;have e4:=bb.cell 4;simp only[yJ,yK,List.getElem?_cons_succ] at e0 e1 e2 e3 e4;clear AD bb;simp[xH,go_sem,e0,e1,e2,e3,e4]
   apply JH (.pointer (some ⟨p,0,none⟩)) rfl rfl
   ·intro w' AD;clear AD;simp[xH,go_sem]
   (try simp only[Act.put,yB,yC,yD]);apply zHr (FE w2.drew p B R2 (part r'.adv)) rfl FE.ext rfl rfl
   ·simp[xH,go_sem];refine(A6.out w2.drew p B r'.adv R2 (BQ.out.ext (Below.drew (Below.refl _ _))) (by have:=Ay.out; have:=AW.out; omega)).mono ?_;rintro e w3 ⟨AO,R3,rfl,hq,hm,he⟩;exact⟨_,rfl,⟨AO,R3,rfl,hq,hm,he⟩,((AI.out.xC (yZ.ext (M:=xI p R2) (Below.drew (Below.refl _ _)))).xC hm).1⟩
   intro Bp;(try simp only[Act.put,yB,yC,yD]);apply zG8 (FB w2.drew p B R2 (part r'.adv) (jD ⟨yk,x'.pos,yt,yn,AP⟩ A1 xm c1)) (by decide) FB.ext rfl rfl rfl
   ·intro w' AD hH;obtain⟨AO,R3,rfl,Ab,AQ,AM⟩:=hH _ (List.mem_cons_self ..) ⟨_,rfl,by decide⟩;clear hH AD;obtain⟨A3,c3,f3,Aq,_⟩:=AM.open;have A7:=yE Ab;have Ae:=yE AQ;have AS:=yE AM;clear Ab AQ AM;subst Aq;have Bh:Hid (w2.drew.heap.size≤w'.heap.size):=yE Ae.out.size;unfold jD;unfold jD at AS;generalize (part r'.adv).1.parts.length=rm at *;generalize HYR:(part r'.adv).1.node=yr at *;obtain⟨rk,rp,rt,rn,Br⟩:=yr
    simp only at AS ⊢
    clear HYR;simp[xH,go_sem];exact⟨⟨_,R3,_,rfl,A7.out.ext (Ext.alloc _ _),Ae.out.trans (yZ.ext (Ext.alloc _ _)),AS.out.xC (yZ.ext (Ext.alloc _ _)),A7.out.fresh 223 _,Bh.out⟩,Ext.alloc _ _⟩
   intro Bq;(try simp only[Act.put,yB,yC,yD]);apply zHp;intro w3 Bd hH;obtain⟨AO,R3,gb,rfl,Ab,AQ,AM,BJ,A9⟩:=hH _ (List.mem_cons_self ..);clear hH Bd;have BD:=yE BJ;have Bj:=yE A9;have AL:yZ w2 (xI p R2) w3 (xI p R3):=(yZ.ext (M:=xI p R2) (Below.drew (Below.refl _ _))).trans AQ;have Bu:=yE AL;have As:=yE Ab;have Ae:=yE (Ak.out.trans AL);have Ar:=yE (AI.out.xC AL);have AS:=yE (A0.out.xC (AL.or _));have Bn:=yE (Ag.out.xC AL);have BR:Hid (w2.drew.heap.size=w2.heap.size):=yE rfl
   have A2:Hid (EY w3 (Or (xI p R3) (ChX w g g0)) (part r'.adv).1 AO):=yE (AM.weaken fun b hb h=>by
    rcases h with h | h
    ·exact .inl h
    ·refine .inr ?_;have h1:=Ak.out.size;have h2:=AI.out.1.lt;have h3:=Ag.out.1.lt;have h4:=BR.out;unfold under
     rcases h with h | h | h
     ·unfold under at h; omega
     ·omega
     ·omega)
   have Af:Hid ((part r'.adv).2.s.ts.length≤f∧(part r'.adv).2.s.ts.length<r'.s.ts.length):=yE (by have h1:=BS.out.ts; have h2:=Ay.out; have h3:=AW.out; omega);obtain⟨y3,A5⟩:∃y,part r'.adv=y:=⟨_,rfl⟩;rw[A5] at A2 As At Af;obtain⟨x3,r3⟩:=y3
   simp only at A2 As At Af
   clear A5 AM Ab AQ AL BS;clear BJ A9
   go_wp2_with (refine vD rfl 223 (.tmp 3) (.tmp 21) rfl g #[.int .u8 25,.int .i64 (x'.pos:Int),.string ⟨#[]⟩,.int .i64 0,.slice (some ⟨gb,0,none⟩) 2 2] (by rfl) (by rfl) 223 _ Ar.out.1 (by kernel_rfl) rfl rfl ?_; intro w6 AC Aa)
   have BP:Hid (gb≠g∧gb≠g0∧w.heap.size≤gb):=yE (by
    have h1:=AI.out.1.lt;have h2:=Ag.out.1.lt;have h3:=Ak.out.size;have h4:=Bj.out;have h5:=BR.out
    omega)
   have BH:=yE (AC.qs As.out (Nat.le_trans AJ.out.2.2.2 AJ.out.1) Ar.out.2);have BV:=yE (Ae.out.ZE AC AJ.out.1);have Ah:Hid (yZ w3 (Or (xI p R3) (ChX w g g0)) w6 (Or (xI p R3) (ChX w g g0))):=yE (AC.xC (.inr (.inr (.inl rfl))))
   have Bi:Hid (Safe w6 (Or (xI p R3) (ChX w g g0)) gb 223 (jD ⟨yk,x'.pos,yt,yn,AP⟩ A1 xm c1++AO).toArray):=yE (by
    have hs:Safe _ (Or (xI p R3) (ChX w g g0)) gb 223 _:=⟨BD.out.1,fun h=>by
     have hg:=BP.out
     rcases h with h | h | h | h
     ·exact BD.out.2 h
     ·unfold under at h; omega
     ·omega
     ·omega⟩
    exact AC.safe hs BP.out.1)
   have Bc:=yE (AC.safe Bn.out (Ne.symm AJ.out.2.2.1));have Am:=yE Aa;have Bk:Hid (EY w6 (Or (xI p R3) (ChX w g g0)) (.bin 25 x'.pos x' x3) (jD ⟨25,x'.pos,[],0,[]⟩ (some ⟨gb,0,none⟩) 2 2)):=yE ⟨_,_,_,rfl,Bi.out,AS.out.xC Ah.out,A2.out.xC Ah.out⟩;have An:Hid (r3.s.ts.length≤f∧r3.s.ts.length<Ap):=yE (by have:=AW.out; have:=Af.out; omega);have BW:Hid (ChQ w p B R g g0 f (YG YI part) (vQ YI part r) w6):=yE ⟨r3,R3,_,_,Ap,BH,BV,An,At,yE ⟨Am.out,Ar.out.2⟩,Bk,Bc⟩;have Bb:Hid (zA7 p w6<r'.s.ts.length):=yE (by rw[BH.out.zA7]; exact Af.out.2);clear AC Aa
   go_wp2_with fail
   dsimp only[Act.put];go_roundw
   case rel=>exact BW.out
   case measure=>rw[BY.out]; exact Bb.out
   ·kernel_rfl
   ·kernel_rfl
theorem zPw (f:Nat)(part:Rs→Ex × Rs)(hpart:zEi 202 f part)(hkeep:∀r,XW r→r.s.ts.length≤f→zCo r (part r)):zEi 187 f (vQ ZL part):=by
 intro w p B r R h hl;have HP:=yE h;have BE:=yE hpart;have Be:=yE hkeep;have HL:=yE hl;have Bg:=hkeep r h.yY hl;have HZ:=yE (h.fresh 223 jM);have BB:Hid (Ext w (w.alloc (.cells jM 223))):=yE (Ext.alloc _ _);have Bu:=yE (h.ext BB.out);have Bq:Hid (B≤w.heap.size):=yE (Nat.le_trans h.pB (zS h.blk.lt));obtain⟨g0,BS⟩:∃g0,Hid (w.heap.size=g0):=⟨_,yE rfl⟩;have BZ:=yE Bg;clear h hpart hkeep hl Bg
 go_enter Tryz.func187,Tryz.ntmps187
 go_wp2_with fail
 have Bi:Hid (w.alloc (.cells #[.int .u8 0,.int .i64 0,.string ⟨#[]⟩,.int .i64 0,.slice none 0 0] 223)=w.alloc (.cells jM 223)):=yE rfl;rw[Bi.out,BS.out];rw[BS.out] at HZ;generalize w.alloc (.cells jM 223)=w0 at *;clear Bi;refine(BE.out w0 p B r R Bu.out HL.out).mono ?_;rintro e w1 ⟨cs,R1,rfl,Ar,A2,At⟩;have BD:Hid (vQ ZL part r=YG ZL part ((part r).2.s.ts.length+1) (part r).1 (part r).2):=yE rfl;have BC:Hid ((part r).2.s.ts.length≤f):=yE (by have:=BZ.out.ts; have:=HL.out; omega);obtain⟨y0,Bk⟩:∃y,part r=y:=⟨_,rfl⟩;rw[Bk] at Ar At BD BC;obtain⟨x,r1⟩:=y0
 simp only at Ar At BD BC
 clear Bk BZ;obtain⟨A1,c1,f1,Af,_⟩:=At.open;have Bx:=yE At;have Bt:=yE Ar;have Bv:=yE A2;have BH:=yE (HZ.out.xC A2);have Bc:=yE (Ar.fresh 223 cs.toArray)
 have AP:Hid (w.heap.size≤w1.heap.size∧w.heap.size≤g0∧w1.heap.size≠g0∧B≤w.heap.size):=yE (by
  have h1:=BB.out.size;have h2:=A2.size;have h3:=BS.out;have h4:=BH.out.1.lt;have h5:=Bq.out
  omega)
 have Bh:Hid (∀b,b<w1.heap.size→Or (xI p R1) (ChX w w1.heap.size g0) b→Or (xI p R1) (under w0) b):=yE fun b hb h=>by
  rcases h with h | h | h | h
  ·exact .inl h
  ·exact .inr (yS h BB.out.size)
  ·omega
  ·subst h; exact .inr (HZ.out.1.lt)
 have AU:Hid (Ext w1 (w1.alloc (.cells cs.toArray 223))):=yE (Ext.alloc _ _);have HJ:Hid (ChQ w p B R w1.heap.size g0 f (YG ZL part) (vQ ZL part r) (w1.alloc (.cells cs.toArray 223))):=yE ⟨r1,R1,x,cs,r1.s.ts.length+1,yE (Ar.ext AU.out),yE (((yZ.ext BB.out).trans A2).trans (yZ.ext AU.out)),yE ⟨BC.out,Nat.lt_succ_self _⟩,BD,Bc,yE ((At.weaken Bh.out).xC ((yZ.ext AU.out).or _)),yE (BH.out.xC (yZ.ext AU.out))⟩;clear Ar A2 At;subst Af;unfold jD;unfold jD at HJ;generalize x.parts.length=xm at *;generalize HY:x.node=y at *;obtain⟨yk,yp,yt,yn,Ac⟩:=y
 simp only
 simp only at HJ
 obtain⟨g,BY⟩:∃g,Hid (w1.heap.size=g):=⟨_,yE rfl⟩;rw[BY.out] at HJ AP
 go_wp2_with fail
 rw[BY.out];clear Bx Bc Bh AU Bt Bv BH;generalize w1.alloc (.cells #[.int .u8 (yk:Int),.int .i64 (yp:Int),.string (xE yt),.int .i64 yn,.slice A1 xm c1] 223)=w2 at *
 go_loopw [4] (fun _k wr=>ChQ w p B R g g0 f (YG ZL part) (vQ ZL part r) wr) (fun _k wr=>zA7 p wr)
 case atStart=>exact HJ.out
 case round=>
  obtain⟨r',R',x',By,f',AA,AF,AX,BK,AB,AC,AE⟩:=hrel;obtain⟨wa,rfl⟩:∃wa:World,wa=wr:=⟨_,rfl⟩;obtain⟨As,rfl⟩:∃n,f'=n+1:=⟨f'-1,by have:=AX.out; omega⟩;clear HJ BD BC HY;have Bb:Hid (zA7 p wa=r'.s.ts.length):=yE AA.out.zA7
  cases hi:r'.is [43] with
  | true=>
   have HI:=yE hi;have AZ:=yE (zSE (u:=[45]) hi (by decide));clear hi;have BN:Hid (zBZ ZL r'=some 23):=yE (by unfold zBZ ZL; simp[List.find?_cons,HI.out]);have Am:Hid (r'.s.hd.kind≠4):=yE (vS HI.out).1;have Aj:Hid (vQ ZL part r=YG ZL part As (.bin 23 x'.pos x' (part r'.adv).1) (part r'.adv).2):=yE (by rw[BK.out,zE1 BN.out]);have An:Hid (r'.adv.s.ts.length<r'.s.ts.length):=yE (AA.out.yY.last.len Am.out);have BA:=yE (Be.out r'.adv (jI AA.out.yY Am.out).yY (by have:=An.out; have:=AX.out; omega))
   go_wp2_with fail
   refine(vE _ p B r' R' [43] true HI AA.out).mono ?_;rintro e _ ⟨rfl,m,rfl⟩;have AG:=yE (AA.out.drewN m);have AH:=yE (AF.out.trans (xU m));have AI:=yE (AB.out.xC (xU (M:=xI p R') m));have AJ:=yE (AC.out.xC ((xU (M:=xI p R') m).or _));have AK:=yE (AE.out.xC (xU (M:=xI p R') m));generalize wa.drewN m=BP at *;clear AA AF AB AC AE;have AA:=AG;have AF:=AH;have AB:=AI;have AC:=AJ;have AE:=AK;clear AG AH AI AJ AK
   go_wp2_with fail
   refine(vE _ p B r' R' [45] false AZ AA.out).mono ?_;rintro e _ ⟨rfl,m,rfl⟩;have AG:=yE (AA.out.drewN m);have AH:=yE (AF.out.trans (xU m));have AI:=yE (AB.out.xC (xU (M:=xI p R') m));have AJ:=yE (AC.out.xC ((xU (M:=xI p R') m).or _));have AK:=yE (AE.out.xC (xU (M:=xI p R') m));generalize BP.drewN m=Ay at *;clear AA AF AB AC AE;have AA:=AG;have AF:=AH;have AB:=AI;have AC:=AJ;have AE:=AK;clear AG AH AI AJ AK;have x1:=AA.out.x1;have BV:=AA.out.blk.frozen 1;have Ak:=AA.out.few;have Ao:=AA.out.yY.last.pos
   go_wp2_with fail
   have A8:=yE (AA.out.zOW Am.out);have AT:∀ {N:Nat→Prop},N p→yZ Ay N (Ay.setCell ⟨p,1,none⟩ (.int .i64 ((R'.I:Int)+1))) N:=fun h=>yZ.set h;have Aa:=yE (AF.out.trans (AT (.inl rfl)));have AL:=yE (AB.out.xC (AT (N:=xI p R') (.inl rfl)));have Ap:=yE (AC.out.xC (AT (N:=Or (xI p R') (ChX w g g0)) (.inl (.inl rfl))));have AY:=yE (AE.out.xC (AT (N:=xI p R') (.inl rfl)));clear x1 BV Ak Ao AA AF AB AC AE AT;generalize Ay.setCell ⟨p,1,none⟩ (.int .i64 ((R'.I:Int)+1))=w2 at *;obtain⟨R2,Ae⟩:∃X,X = { R' with I:=R'.I+1 }:=⟨_,rfl⟩;rw[←Ae] at A8;have BI:Hid (xI p R'=xI p R2):=yE (by rw[Ae]; rfl);rw[BI.out] at Aa AL Ap AY;clear Ae;obtain⟨A1,c1,f1,Af,_⟩:=Ap.out.open;have A6:=x'.zEP;subst Af;unfold jD at AL;generalize x'.parts.length=xm at *;generalize HY:x'.node=y at *;obtain⟨yk,yp,yt,yn,Ac⟩:=y
   simp only at A6 AL
   subst A6;apply zDr 7 5 (fun w'=>Blk w' g 223 #[.int .u8 (yk:Int),.int .i64 (x'.pos:Int),.string (xE yt),.int .i64 yn,.slice A1 xm c1]) (fun _ _ h hx=>Blk.ext h hx) (by kernel_rfl) (by kernel_rfl) (by kernel_rfl) (by decide);dsimp only[List.take_succ_cons,List.take_zero,List.drop_succ_cons,List.drop_zero];apply JH (.int .u8 23) rfl rfl
   ·intro w' AD;clear AD;simp[xH,go_sem]
   apply JH (.pointer (some ⟨g,1,none⟩)) rfl rfl
   ·intro w' AD;clear AD;simp[xH,go_sem]
   (try simp only[Act.put,yB,yC,yD]);apply JH (.int .i64 (x'.pos:Int)) rfl rfl
   ·intro w' AD
    have bb:Blk w' g 223 #[.int .u8 (yk:Int),.int .i64 (x'.pos:Int),.string (xE yt),.int .i64 yn,.slice A1 xm c1]:=by rcases AD with rfl | h; exact(AL.out.1.ext (Below.drew (Below.refl _ _))); exact h
    have e1:=bb.cell 1;simp only[yJ,yK,List.getElem?_cons_succ] at e1;clear AD bb;simp[xH,go_sem,e1]
   (try simp only[Act.put,yB,yC,yD]);apply JH (.agg #[.int .u8 (yk:Int),.int .i64 (x'.pos:Int),.string (xE yt),.int .i64 yn,.slice A1 xm c1]) rfl rfl
   ·intro w' AD
    have bb:Blk w' g 223 #[.int .u8 (yk:Int),.int .i64 (x'.pos:Int),.string (xE yt),.int .i64 yn,.slice A1 xm c1]:=by rcases AD with rfl | h; exact(AL.out.1.ext (Below.drew (Below.refl _ _))); exact h
    have e0:=bb.cell 0;have e1:=bb.cell 1;have e2:=bb.cell 2;have e3:=bb.cell 3;have e4:=bb.cell 4;simp only[yJ,yK,List.getElem?_cons_succ] at e0 e1 e2 e3 e4;clear AD bb;simp[xH,go_sem,e0,e1,e2,e3,e4]
   apply JH (.pointer (some ⟨p,0,none⟩)) rfl rfl
   ·intro w' AD;clear AD;simp[xH,go_sem]
   (try simp only[Act.put,yB,yC,yD]);apply zHr (FE w2.drew p B R2 (part r'.adv)) rfl FE.ext rfl rfl
   ·simp[xH,go_sem];refine(BE.out w2.drew p B r'.adv R2 (A8.out.ext (Below.drew (Below.refl _ _))) (by have:=An.out; have:=AX.out; omega)).mono ?_;rintro e w3 ⟨AQ,R3,rfl,hq,hm,he⟩;exact⟨_,rfl,⟨AQ,R3,rfl,hq,hm,he⟩,((AL.out.xC (yZ.ext (M:=xI p R2) (Below.drew (Below.refl _ _)))).xC hm).1⟩
   intro Bn;(try simp only[Act.put,yB,yC,yD]);apply zG8 (FB w2.drew p B R2 (part r'.adv) (jD ⟨yk,x'.pos,yt,yn,Ac⟩ A1 xm c1)) (by decide) FB.ext rfl rfl rfl
   ·intro w' AD hH;obtain⟨AQ,R3,rfl,AV,AR,AO⟩:=hH _ (List.mem_cons_self ..) ⟨_,rfl,by decide⟩;clear hH AD;obtain⟨A3,c3,f3,Ag,_⟩:=AO.open;have Av:=yE AV;have AW:=yE AR;have AS:=yE AO;clear AV AR AO;subst Ag;have BO:Hid (w2.drew.heap.size≤w'.heap.size):=yE AW.out.size;unfold jD;unfold jD at AS;generalize (part r'.adv).1.parts.length=rm at *;generalize HYR:(part r'.adv).1.node=yr at *;obtain⟨rk,rp,rt,rn,Bp⟩:=yr
    simp only at AS ⊢
    clear HYR;simp[xH,go_sem];exact⟨⟨_,R3,_,rfl,Av.out.ext (Ext.alloc _ _),AW.out.trans (yZ.ext (Ext.alloc _ _)),AS.out.xC (yZ.ext (Ext.alloc _ _)),Av.out.fresh 223 _,BO.out⟩,Ext.alloc _ _⟩
   intro Bo;(try simp only[Act.put,yB,yC,yD]);apply zHp;intro w3 BM hH;obtain⟨AQ,R3,gb,rfl,AV,AR,AO,A5,Aw⟩:=hH _ (List.mem_cons_self ..);clear hH BM;have A0:=yE A5;have BT:=yE Aw;have AN:yZ w2 (xI p R2) w3 (xI p R3):=(yZ.ext (M:=xI p R2) (Below.drew (Below.refl _ _))).trans AR;have Bw:=yE AN;have Ai:=yE AV;have AW:=yE (Aa.out.trans AN);have Ah:=yE (AL.out.xC AN);have AS:=yE (Ap.out.xC (AN.or _));have BX:=yE (AY.out.xC AN);have A9:Hid (w2.drew.heap.size=w2.heap.size):=yE rfl
   have Aq:Hid (EY w3 (Or (xI p R3) (ChX w g g0)) (part r'.adv).1 AQ):=yE (AO.weaken fun b hb h=>by
    rcases h with h | h
    ·exact .inl h
    ·refine .inr ?_;have h1:=Aa.out.size;have h2:=AL.out.1.lt;have h3:=AY.out.1.lt;have h4:=A9.out;unfold under
     rcases h with h | h | h
     ·unfold under at h; omega
     ·omega
     ·omega)
   have Ab:Hid ((part r'.adv).2.s.ts.length≤f∧(part r'.adv).2.s.ts.length<r'.s.ts.length):=yE (by have h1:=BA.out.ts; have h2:=An.out; have h3:=AX.out; omega);obtain⟨y3,Au⟩:∃y,part r'.adv=y:=⟨_,rfl⟩;rw[Au] at Aq Ai Aj Ab;obtain⟨x3,r3⟩:=y3
   simp only at Aq Ai Aj Ab
   clear Au AO AV AR AN BA;clear A5 Aw
   go_wp2_with (refine vD rfl 223 (.tmp 3) (.tmp 29) rfl g #[.int .u8 23,.int .i64 (x'.pos:Int),.string ⟨#[]⟩,.int .i64 0,.slice (some ⟨gb,0,none⟩) 2 2] (by rfl) (by rfl) 223 _ Ah.out.1 (by kernel_rfl) rfl rfl ?_; intro w6 AM Ad)
   have A7:Hid (gb≠g∧gb≠g0∧w.heap.size≤gb):=yE (by
    have h1:=AL.out.1.lt;have h2:=AY.out.1.lt;have h3:=Aa.out.size;have h4:=BT.out;have h5:=A9.out
    omega)
   have A4:=yE (AM.qs Ai.out (Nat.le_trans AP.out.2.2.2 AP.out.1) Ah.out.2);have BF:=yE (AW.out.ZE AM AP.out.1);have Al:Hid (yZ w3 (Or (xI p R3) (ChX w g g0)) w6 (Or (xI p R3) (ChX w g g0))):=yE (AM.xC (.inr (.inr (.inl rfl))))
   have BQ:Hid (Safe w6 (Or (xI p R3) (ChX w g g0)) gb 223 (jD ⟨yk,x'.pos,yt,yn,Ac⟩ A1 xm c1++AQ).toArray):=yE (by
    have hs:Safe _ (Or (xI p R3) (ChX w g g0)) gb 223 _:=⟨A0.out.1,fun h=>by
     have hg:=A7.out
     rcases h with h | h | h | h
     ·exact A0.out.2 h
     ·unfold under at h; omega
     ·omega
     ·omega⟩
    exact AM.safe hs A7.out.1)
   have BL:=yE (AM.safe BX.out (Ne.symm AP.out.2.2.1));have Ax:=yE Ad;have BU:Hid (EY w6 (Or (xI p R3) (ChX w g g0)) (.bin 23 x'.pos x' x3) (jD ⟨23,x'.pos,[],0,[]⟩ (some ⟨gb,0,none⟩) 2 2)):=yE ⟨_,_,_,rfl,BQ.out,AS.out.xC Al.out,Aq.out.xC Al.out⟩;have Az:Hid (r3.s.ts.length≤f∧r3.s.ts.length<As):=yE (by have:=AX.out; have:=Ab.out; omega);have BG:Hid (ChQ w p B R g g0 f (YG ZL part) (vQ ZL part r) w6):=yE ⟨r3,R3,_,_,As,A4,BF,Az,Aj,yE ⟨Ax.out,Ah.out.2⟩,BU,BL⟩;have BJ:Hid (zA7 p w6<r'.s.ts.length):=yE (by rw[A4.out.zA7]; exact Ab.out.2);clear AM Ad
   go_wp2_with fail
   dsimp only[Act.put];go_roundw
   case rel=>exact BG.out
   case measure=>rw[Bb.out]; exact BJ.out
   ·kernel_rfl
   ·kernel_rfl
  | false=>
   have HI:=yE hi;clear hi
   cases hi:r'.is [45] with
   | true=>
    have AZ:=yE hi;clear hi;have BN:Hid (zBZ ZL r'=some 24):=yE (by unfold zBZ ZL; simp[List.find?_cons,HI.out,AZ.out]);have Am:Hid (r'.s.hd.kind≠4):=yE (vS AZ.out).1;have Aj:Hid (vQ ZL part r=YG ZL part As (.bin 24 x'.pos x' (part r'.adv).1) (part r'.adv).2):=yE (by rw[BK.out,zE1 BN.out]);have An:Hid (r'.adv.s.ts.length<r'.s.ts.length):=yE (AA.out.yY.last.len Am.out);have BA:=yE (Be.out r'.adv (jI AA.out.yY Am.out).yY (by have:=An.out; have:=AX.out; omega))
    go_wp2_with fail
    refine(vE _ p B r' R' [43] false HI AA.out).mono ?_;rintro e _ ⟨rfl,m,rfl⟩;have AG:=yE (AA.out.drewN m);have AH:=yE (AF.out.trans (xU m));have AI:=yE (AB.out.xC (xU (M:=xI p R') m));have AJ:=yE (AC.out.xC ((xU (M:=xI p R') m).or _));have AK:=yE (AE.out.xC (xU (M:=xI p R') m));generalize wa.drewN m=BP at *;clear AA AF AB AC AE;have AA:=AG;have AF:=AH;have AB:=AI;have AC:=AJ;have AE:=AK;clear AG AH AI AJ AK
    go_wp2_with fail
    refine(vE _ p B r' R' [45] true AZ AA.out).mono ?_;rintro e _ ⟨rfl,m,rfl⟩;have AG:=yE (AA.out.drewN m);have AH:=yE (AF.out.trans (xU m));have AI:=yE (AB.out.xC (xU (M:=xI p R') m));have AJ:=yE (AC.out.xC ((xU (M:=xI p R') m).or _));have AK:=yE (AE.out.xC (xU (M:=xI p R') m));generalize BP.drewN m=Ay at *;clear AA AF AB AC AE;have AA:=AG;have AF:=AH;have AB:=AI;have AC:=AJ;have AE:=AK;clear AG AH AI AJ AK
    go_wp2_with fail
    refine(vE _ p B r' R' [45] true AZ AA.out).mono ?_;rintro e _ ⟨rfl,m,rfl⟩;have AG:=yE (AA.out.drewN m);have AH:=yE (AF.out.trans (xU m));have AI:=yE (AB.out.xC (xU (M:=xI p R') m));have AJ:=yE (AC.out.xC ((xU (M:=xI p R') m).or _));have AK:=yE (AE.out.xC (xU (M:=xI p R') m));generalize Ay.drewN m=BR at *;clear AA AF AB AC AE;have AA:=AG;have AF:=AH;have AB:=AI;have AC:=AJ;have AE:=AK;clear AG AH AI AJ AK;have x1:=AA.out.x1;have BV:=AA.out.blk.frozen 1;have Ak:=AA.out.few;have Ao:=AA.out.yY.last.pos
    go_wp2_with fail
    have A8:=yE (AA.out.zOW Am.out);have AT:∀ {N:Nat→Prop},N p→yZ BR N (BR.setCell ⟨p,1,none⟩ (.int .i64 ((R'.I:Int)+1))) N:=fun h=>yZ.set h;have Aa:=yE (AF.out.trans (AT (.inl rfl)));have AL:=yE (AB.out.xC (AT (N:=xI p R') (.inl rfl)));have Ap:=yE (AC.out.xC (AT (N:=Or (xI p R') (ChX w g g0)) (.inl (.inl rfl))));have AY:=yE (AE.out.xC (AT (N:=xI p R') (.inl rfl)));clear x1 BV Ak Ao AA AF AB AC AE AT;generalize BR.setCell ⟨p,1,none⟩ (.int .i64 ((R'.I:Int)+1))=w2 at *;obtain⟨R2,Ae⟩:∃X,X = { R' with I:=R'.I+1 }:=⟨_,rfl⟩;rw[←Ae] at A8;have BI:Hid (xI p R'=xI p R2):=yE (by rw[Ae]; rfl);rw[BI.out] at Aa AL Ap AY;clear Ae;obtain⟨A1,c1,f1,Af,_⟩:=Ap.out.open;have A6:=x'.zEP;subst Af;unfold jD at AL;generalize x'.parts.length=xm at *;generalize HY:x'.node=y at *;obtain⟨yk,yp,yt,yn,Ac⟩:=y
    simp only at A6 AL
    subst A6;apply zDr 7 5 (fun w'=>Blk w' g 223 #[.int .u8 (yk:Int),.int .i64 (x'.pos:Int),.string (xE yt),.int .i64 yn,.slice A1 xm c1]) (fun _ _ h hx=>Blk.ext h hx) (by kernel_rfl) (by kernel_rfl) (by kernel_rfl) (by decide);dsimp only[List.take_succ_cons,List.take_zero,List.drop_succ_cons,List.drop_zero];apply JH (.int .u8 24) rfl rfl
    ·intro w' AD;clear AD;simp[xH,go_sem]
    apply JH (.pointer (some ⟨g,1,none⟩)) rfl rfl
    ·intro w' AD;clear AD;simp[xH,go_sem]
    (try simp only[Act.put,yB,yC,yD]);apply JH (.int .i64 (x'.pos:Int)) rfl rfl
    ·intro w' AD
     have bb:Blk w' g 223 #[.int .u8 (yk:Int),.int .i64 (x'.pos:Int),.string (xE yt),.int .i64 yn,.slice A1 xm c1]:=by rcases AD with rfl | h; exact(AL.out.1.ext (Below.drew (Below.refl _ _))); exact h
     have e1:=bb.cell 1;simp only[yJ,yK,List.getElem?_cons_succ] at e1;clear AD bb;simp[xH,go_sem,e1]
    (try simp only[Act.put,yB,yC,yD]);apply JH (.agg #[.int .u8 (yk:Int),.int .i64 (x'.pos:Int),.string (xE yt),.int .i64 yn,.slice A1 xm c1]) rfl rfl
    ·intro w' AD
     have bb:Blk w' g 223 #[.int .u8 (yk:Int),.int .i64 (x'.pos:Int),.string (xE yt),.int .i64 yn,.slice A1 xm c1]:=by rcases AD with rfl | h; exact(AL.out.1.ext (Below.drew (Below.refl _ _))); exact h
     have e0:=bb.cell 0;have e1:=bb.cell 1;have e2:=bb.cell 2;have e3:=bb.cell 3;have e4:=bb.cell 4;simp only[yJ,yK,List.getElem?_cons_succ] at e0 e1 e2 e3 e4;clear AD bb;simp[xH,go_sem,e0,e1,e2,e3,e4]
    apply JH (.pointer (some ⟨p,0,none⟩)) rfl rfl
    ·intro w' AD;clear AD;simp[xH,go_sem]
    (try simp only[Act.put,yB,yC,yD]);apply zHr (FE w2.drew p B R2 (part r'.adv)) rfl FE.ext rfl rfl
    ·simp[xH,go_sem];refine(BE.out w2.drew p B r'.adv R2 (A8.out.ext (Below.drew (Below.refl _ _))) (by have:=An.out; have:=AX.out; omega)).mono ?_;rintro e w3 ⟨AQ,R3,rfl,hq,hm,he⟩;exact⟨_,rfl,⟨AQ,R3,rfl,hq,hm,he⟩,((AL.out.xC (yZ.ext (M:=xI p R2) (Below.drew (Below.refl _ _)))).xC hm).1⟩
    intro Bn;(try simp only[Act.put,yB,yC,yD]);apply zG8 (FB w2.drew p B R2 (part r'.adv) (jD ⟨yk,x'.pos,yt,yn,Ac⟩ A1 xm c1)) (by decide) FB.ext rfl rfl rfl
    ·intro w' AD hH;obtain⟨AQ,R3,rfl,AV,AR,AO⟩:=hH _ (List.mem_cons_self ..) ⟨_,rfl,by decide⟩;clear hH AD;obtain⟨A3,c3,f3,Ag,_⟩:=AO.open;have Av:=yE AV;have AW:=yE AR;have AS:=yE AO;clear AV AR AO;subst Ag;have BO:Hid (w2.drew.heap.size≤w'.heap.size):=yE AW.out.size;unfold jD;unfold jD at AS;generalize (part r'.adv).1.parts.length=rm at *;generalize HYR:(part r'.adv).1.node=yr at *;obtain⟨rk,rp,rt,rn,Bp⟩:=yr
     simp only at AS ⊢
     clear HYR;simp[xH,go_sem];exact⟨⟨_,R3,_,rfl,Av.out.ext (Ext.alloc _ _),AW.out.trans (yZ.ext (Ext.alloc _ _)),AS.out.xC (yZ.ext (Ext.alloc _ _)),Av.out.fresh 223 _,BO.out⟩,Ext.alloc _ _⟩
    intro Bo;(try simp only[Act.put,yB,yC,yD]);apply zHp;intro w3 BM hH;obtain⟨AQ,R3,gb,rfl,AV,AR,AO,A5,Aw⟩:=hH _ (List.mem_cons_self ..);clear hH BM;have A0:=yE A5;have BT:=yE Aw;have AN:yZ w2 (xI p R2) w3 (xI p R3):=(yZ.ext (M:=xI p R2) (Below.drew (Below.refl _ _))).trans AR;have Bw:=yE AN;have Ai:=yE AV;have AW:=yE (Aa.out.trans AN);have Ah:=yE (AL.out.xC AN);have AS:=yE (Ap.out.xC (AN.or _));have BX:=yE (AY.out.xC AN);have A9:Hid (w2.drew.heap.size=w2.heap.size):=yE rfl
    have Aq:Hid (EY w3 (Or (xI p R3) (ChX w g g0)) (part r'.adv).1 AQ):=yE (AO.weaken fun b hb h=>by
     rcases h with h | h
     ·exact .inl h
     ·refine .inr ?_;have h1:=Aa.out.size;have h2:=AL.out.1.lt;have h3:=AY.out.1.lt;have h4:=A9.out;unfold under
      rcases h with h | h | h
      ·unfold under at h; omega
      ·omega
      ·omega)
    have Ab:Hid ((part r'.adv).2.s.ts.length≤f∧(part r'.adv).2.s.ts.length<r'.s.ts.length):=yE (by have h1:=BA.out.ts; have h2:=An.out; have h3:=AX.out; omega);obtain⟨y3,Au⟩:∃y,part r'.adv=y:=⟨_,rfl⟩;rw[Au] at Aq Ai Aj Ab;obtain⟨x3,r3⟩:=y3
    simp only at Aq Ai Aj Ab
    clear Au AO AV AR AN BA;clear A5 Aw
    go_wp2_with (refine vD rfl 223 (.tmp 3) (.tmp 29) rfl g #[.int .u8 24,.int .i64 (x'.pos:Int),.string ⟨#[]⟩,.int .i64 0,.slice (some ⟨gb,0,none⟩) 2 2] (by rfl) (by rfl) 223 _ Ah.out.1 (by kernel_rfl) rfl rfl ?_; intro w6 AM Ad)
    have A7:Hid (gb≠g∧gb≠g0∧w.heap.size≤gb):=yE (by
     have h1:=AL.out.1.lt;have h2:=AY.out.1.lt;have h3:=Aa.out.size;have h4:=BT.out;have h5:=A9.out
     omega)
    have A4:=yE (AM.qs Ai.out (Nat.le_trans AP.out.2.2.2 AP.out.1) Ah.out.2);have BF:=yE (AW.out.ZE AM AP.out.1);have Al:Hid (yZ w3 (Or (xI p R3) (ChX w g g0)) w6 (Or (xI p R3) (ChX w g g0))):=yE (AM.xC (.inr (.inr (.inl rfl))))
    have BQ:Hid (Safe w6 (Or (xI p R3) (ChX w g g0)) gb 223 (jD ⟨yk,x'.pos,yt,yn,Ac⟩ A1 xm c1++AQ).toArray):=yE (by
     have hs:Safe _ (Or (xI p R3) (ChX w g g0)) gb 223 _:=⟨A0.out.1,fun h=>by
      have hg:=A7.out
      rcases h with h | h | h | h
      ·exact A0.out.2 h
      ·unfold under at h; omega
      ·omega
      ·omega⟩
     exact AM.safe hs A7.out.1)
    have BL:=yE (AM.safe BX.out (Ne.symm AP.out.2.2.1));have Ax:=yE Ad;have BU:Hid (EY w6 (Or (xI p R3) (ChX w g g0)) (.bin 24 x'.pos x' x3) (jD ⟨24,x'.pos,[],0,[]⟩ (some ⟨gb,0,none⟩) 2 2)):=yE ⟨_,_,_,rfl,BQ.out,AS.out.xC Al.out,Aq.out.xC Al.out⟩;have Az:Hid (r3.s.ts.length≤f∧r3.s.ts.length<As):=yE (by have:=AX.out; have:=Ab.out; omega);have BG:Hid (ChQ w p B R g g0 f (YG ZL part) (vQ ZL part r) w6):=yE ⟨r3,R3,_,_,As,A4,BF,Az,Aj,yE ⟨Ax.out,Ah.out.2⟩,BU,BL⟩;have BJ:Hid (zA7 p w6<r'.s.ts.length):=yE (by rw[A4.out.zA7]; exact Ab.out.2);clear AM Ad
    go_wp2_with fail
    dsimp only[Act.put];go_roundw
    case rel=>exact BG.out
    case measure=>rw[Bb.out]; exact BJ.out
    ·kernel_rfl
    ·kernel_rfl
   | false=>
    have AZ:=yE hi;clear hi;have BW:Hid (vQ ZL part r=(x',r')):=yE (by rw[BK.out,zHI (by unfold zBZ ZL; simp[List.find?_cons,HI.out,AZ.out])])
    go_wp2_with fail
    refine(vE _ p B r' R' [43] false HI AA.out).mono ?_;rintro e _ ⟨rfl,m,rfl⟩;have AG:=yE (AA.out.drewN m);have AH:=yE (AF.out.trans (xU m));have AI:=yE (AB.out.xC (xU (M:=xI p R') m));have AJ:=yE (AC.out.xC ((xU (M:=xI p R') m).or _));have AK:=yE (AE.out.xC (xU (M:=xI p R') m));generalize wa.drewN m=Bm at *;clear AA AF AB AC AE;have AA:=AG;have AF:=AH;have AB:=AI;have AC:=AJ;have AE:=AK;clear AG AH AI AJ AK
    go_wp2_with fail
    refine(vE _ p B r' R' [45] false AZ AA.out).mono ?_;rintro e _ ⟨rfl,m,rfl⟩;have AG:=yE (AA.out.drewN m);have AH:=yE (AF.out.trans (xU m));have AI:=yE (AB.out.xC (xU (M:=xI p R') m));have AJ:=yE (AC.out.xC ((xU (M:=xI p R') m).or _));have AK:=yE (AE.out.xC (xU (M:=xI p R') m));generalize Bm.drewN m=Br at *;clear AA AF AB AC AE;have AA:=AG;have AF:=AH;have AB:=AI;have AC:=AJ;have AE:=AK;clear AG AH AI AJ AK;obtain⟨A1,c1,f1,Af,_⟩:=AC.out.open;have Bl:=AB.out.1.cell 0;have Bd:=AB.out.1.cell 1;have Bj:=AB.out.1.cell 2;have Bf:=AB.out.1.cell 3;have Ba:=AB.out.1.cell 4;subst Af;simp only[jD,yJ,yK,List.getElem?_cons_succ] at Bl Bd Bj Bf Ba;generalize x'.parts.length=xm at *;generalize HY:x'.node=y at *;obtain⟨yk,yp,yt,yn,Ac⟩:=y
    simp only at Bl Bd Bj Bf Ba
    go_wp2_with (refine vD rfl 223 (.tmp 2) (.tmp 30) rfl g0 #[.int .u8 (yk:Int),.int .i64 (yp:Int),.string (xE yt),.int .i64 yn,.slice A1 xm c1] (by rfl) (by rfl) 223 _ AE.out.1 (by kernel_rfl) rfl rfl ?_; intro w6 AM Ad)
    have Al:Hid (yZ Br (Or (xI p R') (ChX w g g0)) w6 (Or (xI p R') (ChX w g g0))):=yE (AM.xC (.inr (.inr (.inr rfl))))
    have Az:Hid (JP w p B R (vQ ZL part r) (.returned (.agg (jD ⟨yk,yp,yt,yn,Ac⟩ A1 xm c1).toArray)) w6):=yE (by
     rw[BW.out]
     exact⟨_,R',rfl,AM.qs AA.out (Nat.le_trans AP.out.2.2.2 AP.out.2.1) AE.out.2,AF.out.ZE AM AP.out.2.1,(AC.out.xC Al.out).weaken (fun b hb h=>by
      rcases h with h | h
      ·exact .inl h
      ·exact .inr (.inl h))⟩)
    have Ax:=yE Ad;clear AM Ad
    go_wp2_with fail
    exact JC g0 223 _ _ Tryz.results187 rfl rfl Ax.out Tryz.underlying223 rfl (by kernel_rfl) Az.out
end Go.Proofs.YtioffpjajhalaaaGreatDoor
