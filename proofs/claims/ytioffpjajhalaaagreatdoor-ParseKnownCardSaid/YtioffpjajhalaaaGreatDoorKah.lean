/- The program's reader of tokens: next, is, fail, skip, take, of. No condition. -/
import Derived.Test.YtioffpjajhalaaaGreatDoorKaa
import Derived.Test.YtioffpjajhalaaaGreatDoorKag
set_option linter.unusedVariables false
set_option linter.unusedSimpArgs false
set_option maxRecDepth 100000
set_option maxHeartbeats 16000000
namespace Go.Proofs.YtioffpjajhalaaaGreatDoor
open Go Go.RowKit
structure vC where
 bt:Nat
 ot:Nat
 ct:Nat
 A:Option Addr
 c:Nat
 nh:List (Nd × Hd2)
structure PS (w:World)(p B:Nat)(s:Ps)(R:vC):Prop where
 blk:Blk w p 75 #[.slice (some ⟨R.bt,R.ot,none⟩) s.ts.length R.ct,.slice R.A R.nh.length R.c,.int .i64 (s.deep:Int)]
 zBX:∀k,k<s.ts.length*5→w.cell? ⟨R.bt,R.ot+k,none⟩=(vB s.ts)[k]?
 zJ3:s.ts.length≤R.ct
 XZ:R.bt<B
 nodes:s.nd=R.nh.map Prod.fst
 ns:NS w B 48 3 R.A R.c R.nh
 pB:B≤p
 yY:zEM s
def xO (p:Nat)(R:vC)(b:Nat):Prop:=b=p∨zGy R.A R.nh b
theorem PS.ext {w w':World}{p B:Nat}{s:Ps}{R:vC}(h:PS w p B s R)(hx:Ext w w'):PS w' p B s R:=
 ⟨h.blk.ext hx,fun k hk=>(hx.cell (p:=⟨R.bt,R.ot+k,none⟩) (yS h.XZ (Nat.le_trans h.pB (zS h.blk.lt)))).trans (h.zBX k hk),h.zJ3,h.XZ,h.nodes,h.ns.ext hx,h.pB,h.yY⟩
theorem PS.len {w:World}{p B:Nat}{s:Ps}{R:vC}(h:PS w p B s R):s.nd.length=R.nh.length:=by rw[h.nodes,yO]
theorem PS.tok {w:World}{p B:Nat}{s:Ps}{R:vC}(h:PS w p B s R)(j:Nat)(hj:j<5):w.cell? ⟨R.bt,R.ot+j,none⟩=(xS s.hd)[j]?:=by
 obtain⟨t,r,hs,ht⟩:=h.yY.hd;have hp:=h.yY.pos;rw[h.zBX j (by omega),hs,ht]
 show(xS t++vB r)[j]?=_
 rw[List.getElem?_append_left (by show j<5; exact hj)]
theorem PS.x0 {w:World}{p B:Nat}{s:Ps}{R:vC}(h:PS w p B s R):w.cell? ⟨p,0,none⟩=some (.slice (some ⟨R.bt,R.ot,none⟩) s.ts.length R.ct):=h.blk.cell 0
theorem PS.x1 {w:World}{p B:Nat}{s:Ps}{R:vC}(h:PS w p B s R):w.cell? ⟨p,1,none⟩=some (.slice R.A R.nh.length R.c):=h.blk.cell 1
theorem PS.x2 {w:World}{p B:Nat}{s:Ps}{R:vC}(h:PS w p B s R):w.cell? ⟨p,2,none⟩=some (.int .i64 (s.deep:Int)):=h.blk.cell 2
theorem PS.t0 {w:World}{p B:Nat}{s:Ps}{R:vC}(h:PS w p B s R):w.cell? ⟨R.bt,R.ot,none⟩=some (.int .u8 (s.hd.kind:Int)):=h.tok 0 (by decide)
theorem PS.t1 {w:World}{p B:Nat}{s:Ps}{R:vC}(h:PS w p B s R):w.cell? ⟨R.bt,R.ot+1,none⟩=some (.int .i64 (s.hd.at_:Int)):=h.tok 1 (by decide)
theorem PS.t2 {w:World}{p B:Nat}{s:Ps}{R:vC}(h:PS w p B s R):w.cell? ⟨R.bt,R.ot+2,none⟩=some (.int .i64 (s.hd.en:Int)):=h.tok 2 (by decide)
theorem PS.t3 {w:World}{p B:Nat}{s:Ps}{R:vC}(h:PS w p B s R):w.cell? ⟨R.bt,R.ot+3,none⟩=some (.string (xE s.hd.text)):=h.tok 3 (by decide)
theorem PS.t4 {w:World}{p B:Nat}{s:Ps}{R:vC}(h:PS w p B s R):w.cell? ⟨R.bt,R.ot+4,none⟩=some (.int .i64 s.hd.n):=h.tok 4 (by decide)
theorem PS.btl {w:World}{p B:Nat}{s:Ps}{R:vC}(h:PS w p B s R):R.bt<w.heap.size:=yS h.XZ (Nat.le_trans h.pB (zS h.blk.lt))
structure TS (w:World)(p:Nat)(s:Ps)(R:vC):Prop where
 blk:Blk w p 75 #[.slice (some ⟨R.bt,R.ot,none⟩) s.ts.length R.ct,.slice R.A R.nh.length R.c,.int .i64 (s.deep:Int)]
 tok:∀j,j<5→w.cell? ⟨R.bt,R.ot+j,none⟩=(xS s.hd)[j]?
 btl:R.bt<w.heap.size
 pos:0<s.ts.length
theorem PS.ts {w:World}{p B:Nat}{s:Ps}{R:vC}(h:PS w p B s R):TS w p s R:=⟨h.blk,h.tok,h.btl,h.yY.pos⟩
theorem TS.grown {w w':World}{p:Nat}{s:Ps}{R:vC}{o:Option Nat}(h:TS w p s R)(hg:w.grownBy w' o)(h1:some p≠o)(h2:some R.bt≠o):TS w' p s R:=
 ⟨(hg.block p h.blk.lt h1).trans h.blk,fun j hj=>(World.cell?_of_block (w:=w) (hg.block R.bt h.btl h2)).trans (h.tok j hj),yS h.btl hg.size,h.pos⟩
theorem ZP (w:World)(p:Nat)(s:Ps)(R:vC)(h:TS w p s R) :
  Calls Tryz.prog 38 #[.pointer (some ⟨p,0,none⟩)] w fun e w'=>e=.returned (.agg (xS s.hd).toArray)∧Ext w w':=by
 have x0:w.cell? ⟨p,0,none⟩=some (.slice (some ⟨R.bt,R.ot,none⟩) s.ts.length R.ct):=h.blk.cell 0;have t0:w.cell? ⟨R.bt,R.ot,none⟩=some (.int .u8 (s.hd.kind:Int)):=h.tok 0 (by decide);have t1:w.cell? ⟨R.bt,R.ot+1,none⟩=some (.int .i64 (s.hd.at_:Int)):=h.tok 1 (by decide);have t2:w.cell? ⟨R.bt,R.ot+2,none⟩=some (.int .i64 (s.hd.en:Int)):=h.tok 2 (by decide);have t3:w.cell? ⟨R.bt,R.ot+3,none⟩=some (.string (xE s.hd.text)):=h.tok 3 (by decide);have t4:w.cell? ⟨R.bt,R.ot+4,none⟩=some (.int .i64 s.hd.n):=h.tok 4 (by decide);have AA:=h.pos
 have q0:(0:Int)<(s.ts.length:Int):=by omega
 have AB:=h.blk.lt;have AC:=h.btl;clear h;unfold xS;generalize s.hd=t at *;generalize s.ts.length=n at *
 go_enter Tryz.func38,Tryz.ntmps38
 go_wp2
 refine bodyPost_ret (v:=.agg #[.int .u8 (t.kind:Int),.int .i64 (t.at_:Int),.int .i64 (t.en:Int),.string (xE t.text),.int .i64 t.n]) (by simp[results,Tryz.results38,go_sem]) rfl ⟨rfl,?_⟩;exact Ext.alloc _ _
theorem zUn (t:Bs)(s:Ps):isP t s=((s.hd.kind != 4&&s.hd.kind != 2)&&s.hd.text==t):=rfl
theorem JI (w:World)(p B:Nat)(s:Ps)(R:vC)(t:Bs)(b:Bool)(hb:Hid (isP t s=b))(h:PS w p B s R) :
  Calls Tryz.prog 82 #[.pointer (some ⟨p,0,none⟩),.string (xE t)] w fun e w'=>e=.returned (.bool b)∧Ext w w':=by
 have HP:=yE h;clear h;obtain⟨k,hk⟩:∃k,k=s.hd.kind:=⟨_,rfl⟩;obtain⟨x,hx⟩:∃x,x=s.hd.text:=⟨_,rfl⟩;have HB:Hid (((k != 4&&k != 2)&&x==t)=b):=yE (by rw[←hb.out,zUn,hk,hx])
 go_enter Tryz.func82,Tryz.ntmps82
 go_wp2_with fail
 refine(ZP w p s R HP.out.ts).mono ?_;rintro e w1 ⟨rfl,AA⟩;have HX:=yE AA;unfold xS;rw[←hk,←hx];clear AA hk hx
 by_cases h4:k=4
 ·subst h4
  go_wp2_with fail
  go_ret;exact⟨YA (by rw[←HB.out]; rfl),HX.out.trans (Ext.alloc _ _)⟩
 ·by_cases h2:k=2
  ·subst h2
   go_wp2_with fail
   go_ret;exact⟨YA (by rw[←HB.out]; rfl),HX.out.trans (Ext.alloc _ _)⟩
  ·have i4:¬(k:Int)=4:=by omega
   have i2:¬(k:Int)=2:=by omega
   have HK:=yE (And.intro h4 h2);clear h4 h2
   go_wp2_with fail
   go_ret;refine⟨YA ?_,HX.out.trans (Ext.alloc _ _)⟩;rw[←HB.out];simp only[YU];have h4:=HK.out.1;have h2:=HK.out.2
   have a4:((k:Int) != 4)=true:=by rw[zD]; omega
   have a2:((k:Int) != 2)=true:=by rw[zD]; omega
   have b4:(k != 4)=true:=by rw[zD]; omega
   have b2:(k != 2)=true:=by rw[zD]; omega
   rw[a4,a2,b4,b2]
theorem yZ.set {w:World}{M:Nat→Prop}{g i:Nat}{u:Value}(h:M g):yZ w M (w.setCell ⟨g,i,none⟩ u) M:=
 ⟨rfl,rfl,rfl,by simp[World.setCell],fun b hb hM=>zQ w ⟨g,i,none⟩ u b (fun e=>hM (by rw[e]; exact h)),fun b h=>.inl h⟩
def ZH (er:Int):Ending:=.panicked [{ v:=.iface 54 (.int .i64 er),recovered:=false }]
theorem xB {P:Program}{fn:Func}{R:Ending→World→Prop}{a:Act}{w:World}{er:Int}(hd:a.defers=[])(h:R (ZH er) w):bodyPost P fn R (Exit.panic [{ v:=.iface 54 (.int .i64 er),recovered:=false }]) a w:=⟨hd,h⟩
def OkP (w:World)(p B:Nat)(R:vC)(s':Ps)(w':World):Prop:=∃R',PS w' p B s' R'∧yZ w (xO p R) w' (xO p R')
def zAa (w:World)(p B:Nat)(R:vC)(er:Int)(at_:Nat)(e:Ending)(w':World):Prop:=e=ZH er∧∃s',s'.hd.at_=at_∧OkP w p B R s' w'
def xQ (w:World)(p B:Nat)(R:vC)(r:Res Unit)(e:Ending)(w':World):Prop:=
 match r with
 | .ok _ s'=>e=.returned (.tuple #[])∧OkP w p B R s' w'
 | .err er a=>zAa w p B R er a e w'
theorem xQ.ok {w:World}{p B:Nat}{R:vC}{s':Ps}{w':World}(h:OkP w p B R s' w'):xQ w p B R (.ok () s') (.returned (.tuple #[])) w':=⟨rfl,h⟩
theorem xQ.err {w:World}{p B:Nat}{R:vC}{er:Int}{a:Nat}{e:Ending}{w':World}(h:zAa w p B R er a e w'):xQ w p B R (.err er a) e w':=h
theorem OkP.trans {w w1 w2:World}{p B:Nat}{R R1:vC}{s:Ps}(h:yZ w (xO p R) w1 (xO p R1))(k:OkP w1 p B R1 s w2):OkP w p B R s w2:=let ⟨R2,a,b⟩:=k; ⟨R2,a,h.trans b⟩
theorem zAa.trans {w w1 w2:World}{p B:Nat}{R R1:vC}{er:Int}{a:Nat}{e:Ending}(h:yZ w (xO p R) w1 (xO p R1))(k:zAa w1 p B R1 er a e w2):zAa w p B R er a e w2:=let ⟨x,s,y,z⟩:=k; ⟨x,s,y,OkP.trans h z⟩
theorem xQ.trans {w w1 w2:World}{p B:Nat}{R R1:vC}{r:Res Unit}{e:Ending}(h:yZ w (xO p R) w1 (xO p R1))(k:xQ w1 p B R1 r e w2):xQ w p B R r e w2:=by
 cases r with
 | ok a s=>exact⟨k.1,OkP.trans h k.2⟩
 | err er a=>exact zAa.trans h k
theorem PS.zTL {w:World}{p B:Nat}{s:Ps}{R:vC}(h:PS w p B s R)(hk:s.hd.kind≠4) :
  PS (w.setCell ⟨p,0,none⟩ (.slice (some ⟨R.bt,R.ot+5,none⟩) (s.ts.length-1) (R.ct-1))) p B s.adv { R with ot:=R.ot+5,ct:=R.ct-1 }:=by
 have AC:=ZF (s:=s);obtain⟨t,r,hs,ht⟩:=h.yY.hd;have AE:=h.yY.pos
 have AB:s.adv.ts=r:=by show s.ts.tail=r; rw[hs]; rfl
 refine⟨?_,fun k AA=>?_,?_,h.XZ,h.nodes,?_,h.pB,h.yY.adv hk⟩
 ·have:=h.blk.put 0 (.slice (some ⟨R.bt,R.ot+5,none⟩) (s.ts.length-1) (R.ct-1))
  rw[AC]
  show Blk _ p 75 #[_,_,.int .i64 (s.deep:Int)]
  simpa using this
 ·rw[AB] at AA ⊢
  have AD:R.bt≠p:=by have:=h.XZ; have:=h.pB; omega
  rw[World.cell?_of_block (w:=w) (zQ w ⟨p,0,none⟩ _ R.bt AD)]
  show w.cell? ⟨R.bt,R.ot+5+k,none⟩=_
  rw[Nat.add_assoc,h.zBX (5+k) (by rw[hs]; simp only[zJ]; omega),hs]
  show(xS t++vB r)[5+k]?=_
  rw[List.getElem?_append_right (by show 5≤_; omega)]
  show(vB r)[5+k-5]?=_
  rw[show 5+k-5=k by omega]
 ·have:=h.zJ3
  show s.adv.ts.length≤R.ct-1
  omega
 ·refine h.ns.VS fun b hb=>zQ w ⟨p,0,none⟩ _ b fun e=>?_;rw[e] at hb;exact h.ns.zAH h.blk (by decide) (by decide) hb
theorem zBE (w:World)(p:Nat)(er:Int):Calls Tryz.prog 85 #[.pointer (some ⟨p,0,none⟩),.int .i64 er] w fun e w'=>e=ZH er∧w=w':=by
 go_enter Tryz.func85,Tryz.ntmps85
 go_wp2
 exact⟨rfl,rfl,rfl⟩
theorem zA4 (w:World)(p B:Nat)(s:Ps)(R:vC)(t:Bs)(hb:Hid (isP t s=false))(h:PS w p B s R) :
  Calls Tryz.prog 133 #[.pointer (some ⟨p,0,none⟩),.string (xE t)] w fun e w'=>e=.returned (.bool false)∧Ext w w':=by
 have HP:=yE h;clear h
 go_enter Tryz.func133,Tryz.ntmps133
 go_wp2_with fail
 refine(JI w p B s R t false hb HP.out).mono ?_;rintro e w1 ⟨rfl,AA⟩;have HX:=yE AA;clear AA
 go_wp2_with fail
 go_ret;exact⟨rfl,HX.out⟩
theorem zAf (w:World)(p B:Nat)(s:Ps)(R:vC)(t:Bs)(hb:Hid (isP t s=true))(h:PS w p B s R) :
  Calls Tryz.prog 133 #[.pointer (some ⟨p,0,none⟩),.string (xE t)] w fun e w'=>e=.returned (.bool true)∧OkP w p B R s.adv w':=by
 have HP:=yE h;clear h
 go_enter Tryz.func133,Tryz.ntmps133
 go_wp2_with fail
 refine(JI w p B s R t true hb HP.out).mono ?_;rintro e w1 ⟨rfl,AB⟩;have HX:=yE AB;have AA:=yE (HP.out.ext AB);have hk:=(vG hb.out).1;have HF:Hid (OkP w p B R s.adv (w1.setCell ⟨p,0,none⟩ (.slice (some ⟨R.bt,R.ot+5,none⟩) (s.ts.length-1) (R.ct-1)))):=yE ⟨_,AA.out.zTL hk,(yZ.ext AB).trans (yZ.set (.inl rfl))⟩
 have h2:2≤s.ts.length:=by
  have hg:=(AA.out.yY.adv hk).pos;rw[ZF] at hg;omega
 have h3:=AA.out.zJ3;have x0:=AA.out.x0;have z0:=AA.out.blk.frozen 0;clear AB hk;generalize s.ts.length=n at *;generalize R.ct=ct at *
 go_wp2_with fail
 go_ret;exact⟨rfl,HF.out⟩
theorem PS.okp {w w':World}{p B:Nat}{s:Ps}{R:vC}(h:PS w p B s R)(hx:Ext w w'):OkP w p B R s w':=⟨R,h.ext hx,yZ.ext hx⟩
theorem jN (w:World)(p B:Nat)(s:Ps)(R:vC)(t:Bs)(h:PS w p B s R) :
  Calls Tryz.prog 128 #[.pointer (some ⟨p,0,none⟩),.string (xE t)] w (xQ w p B R (xY t s)):=by
 have HP:=yE h;clear h
 cases hi:isP t s with
 | true=>
  have HI:=yE hi;have HT:Hid (xY t s=.ok () s.adv):=yE (by unfold xY; rw[if_pos hi]);clear hi
  go_enter Tryz.func128,Tryz.ntmps128
  go_wp2_with fail
  refine(zAf w p B s R t HI HP.out).mono ?_;rintro e w1 ⟨rfl,ho⟩;have HO:=yE ho;clear ho
  go_wp2_with fail
  go_end0;rw[HT.out];exact xQ.ok HO.out
 | false=>
  have HI:=yE hi;have HT:Hid (xY t s=.err 50 s.hd.at_):=yE (by unfold xY; rw[hi]; rfl);clear hi
  go_enter Tryz.func128,Tryz.ntmps128
  go_wp2_with fail
  refine(zA4 w p B s R t HI HP.out).mono ?_;rintro e w1 ⟨rfl,hx⟩;have HX:=yE hx;clear hx
  go_wp2_with fail
  refine(zBE w1 p 50).mono ?_;rintro e w2 ⟨rfl,rfl⟩;have HE:Hid (xQ w p B R (xY t s) (ZH 50) w1):=yE (by rw[HT.out]; exact⟨rfl,s,rfl,HP.out.okp HX.out⟩);exact xB rfl HE.out
def zEk (w:World)(p B:Nat)(R:vC)(v:Value)(r:Res Unit)(e:Ending)(w':World):Prop:=
 match r with
 | .ok _ s'=>e=.returned v∧OkP w p B R s' w'
 | .err er a=>zAa w p B R er a e w'
theorem PS.VS {w w':World}{p B:Nat}{s:Ps}{R:vC}(h:PS w p B s R)(hk:∀b,b<B∨xO p R b→w'.heap[b]?=w.heap[b]?):PS w' p B s R:=
 ⟨(hk p (.inr (.inl rfl))).trans h.blk,fun k AA=>(World.cell?_of_block (w:=w) (hk R.bt (.inl h.XZ))).trans (h.zBX k AA),h.zJ3,h.XZ,h.nodes,h.ns.VS fun b hb=>hk b (.inr (.inr hb)),h.pB,h.yY⟩
theorem PS.zAH {w:World}{p B:Nat}{s:Ps}{R:vC}(h:PS w p B s R){g:Nat}{t:TypeId}{cs:Array Value}(hg:Blk w g t cs)(h1:t≠48)(h2:t≠3)(h3:t≠75):¬xO p R g:=by
 rintro (hb | hb)
 ·subst hb; exact Blk.differ hg h.blk h3 rfl
 ·exact h.ns.zAH hg h1 h2 hb
def vC.adv (R:vC):vC:={ R with ot:=R.ot+5,ct:=R.ct-1 }
def OkR (w:World)(p B:Nat)(R R':vC)(s':Ps)(w':World):Prop:=PS w' p B s' R'∧yZ w (xO p R) w' (xO p R')
theorem OkR.okp {w:World}{p B:Nat}{R R':vC}{s':Ps}{w':World}(h:OkR w p B R R' s' w'):OkP w p B R s' w':=⟨R',h⟩
theorem OkR.ext {w:World}{p B:Nat}{R R':vC}{s':Ps}{w' w2:World}(h:OkR w p B R R' s' w')(hx:Ext w' w2):OkR w p B R R' s' w2:=⟨h.1.ext hx,h.2.trans (yZ.ext hx)⟩
theorem OkR.ZE {w W w':World}{p B g:Nat}{R R':vC}{s:Ps}(h:OkR w p B R R' s W)(ht:Touch g W w')(hg:w.heap.size≤g)(hB:B≤w.heap.size)(hn':¬xO p R' g):OkR w p B R R' s w':=by
 obtain⟨a,b⟩:=h;refine⟨a.VS fun k hk=>ht.other k fun e=>?_,?_⟩
 ·subst e
  rcases hk with hk | hk
  ·omega
  ·exact hn' hk
 ·exact⟨ht.os.trans b.os,ht.tape.trans b.tape,ht.output.trans b.output,by rw[ht.size]; exact b.size,fun k hk hM=>(ht.other k (by omega)).trans (b.VS k hk hM),b.zFK⟩
theorem OkP.ZE {w W w':World}{p B g:Nat}{R:vC}{s:Ps}(h:OkP w p B R s W)(ht:Touch g W w')(hg:w.heap.size≤g)(hB:B≤w.heap.size)(hn:∀R',PS W p B s R'→¬xO p R' g):OkP w p B R s w':=
 let ⟨R',a⟩:=h
 ⟨R',OkR.ZE a ht hg hB (hn R' a.1)⟩
theorem PS.okr {w W:World}{p B:Nat}{s:Ps}{R:vC}(h:PS W p B s R)(hx:Ext w W)(hk:s.hd.kind≠4):OkR w p B R R.adv s.adv (W.setCell ⟨p,0,none⟩ (.slice (some ⟨R.bt,R.ot+5,none⟩) (s.ts.length-1) (R.ct-1))):=
 ⟨h.zTL hk,(yZ.ext hx).trans (yZ.set (.inl rfl))⟩
theorem zI1 (w:World)(p B:Nat)(s:Ps)(R:vC)(k:Nat)(hk:Hid (s.hd.kind=k))(h4:k≠4)(h:PS w p B s R) :
  Calls Tryz.prog 161 #[.pointer (some ⟨p,0,none⟩),.int .u8 (k:Int)] w fun e w'=>e=.returned (.agg (xS s.hd).toArray)∧OkR w p B R R.adv s.adv w':=by
 have HP:=yE h;clear h
 go_enter Tryz.func161,Tryz.ntmps161
 go_wp2_with fail
 have AL:=yE (Blk.new w 29 #[.int .u8 0,.int .i64 0,.int .i64 0,.string ⟨#[]⟩,.int .i64 0]);refine(ZP _ p s R (HP.out.ext (Ext.alloc _ _)).ts).mono ?_;rintro e w1 ⟨rfl,AB⟩;have AI:=yE (AL.out.ext AB);have HX:=yE ((Ext.alloc _ _).trans AB)
 have AJ:(s.hd.kind:Int)=(k:Int):=by rw[hk.out]
 have AC:s.hd.kind≠4:=by rw[hk.out]; exact h4
 have AA:=yE (HP.out.ext HX.out);have HO:=yE (AA.out.okr HX.out AC);have AG:p≠w.heap.size:=Nat.ne_of_lt HP.out.blk.lt;have AE:Hid (Blk (w1.setCell ⟨p,0,none⟩ (.slice (some ⟨R.bt,R.ot+5,none⟩) (s.ts.length-1) (R.ct-1))) w.heap.size 29 #[.int .u8 0,.int .i64 0,.int .i64 0,.string ⟨#[]⟩,.int .i64 0]):=yE (AI.out.far (p:=⟨p,0,none⟩) (Ne.symm AG) _);have AH:Hid (B≤w.heap.size):=yE (Nat.le_trans HP.out.pB (zS HP.out.blk.lt))
 have h2:2≤s.ts.length:=by
  have hg:=(AA.out.yY.adv AC).pos;rw[ZF] at hg;omega
 have h3:=AA.out.zJ3;have x0:=AA.out.x0;have z0:=AA.out.blk.frozen 0;have AM:p<w1.heap.size:=AA.out.blk.lt;unfold xS at *;clear AB AC
 go_wp2_with (refine vD rfl 29 (.tmp 4) (.tmp 22) rfl w.heap.size #[.int .u8 (k:Int),.int .i64 (s.hd.at_:Int),.int .i64 (s.hd.en:Int),.string (xE s.hd.text),.int .i64 s.hd.n] (by rfl) (by rfl) 29 _ (AE.out.ext (Ext.alloc _ _)) (by kernel_rfl) rfl rfl ?_; intro w3 AF AD)
 have HF:=yE ((HO.out.ext (Ext.alloc _ _)).ZE AF (zU _) AH.out (HO.out.1.zAH AE.out (by decide) (by decide) (by decide)));have AK:=yE AD;clear AF AD
 go_wp2_with fail
 exact JC w.heap.size 29 _ _ Tryz.results161 rfl rfl AK.out Tryz.underlying29 rfl (by kernel_rfl) ⟨by unfold xS; rw[AJ],HF.out⟩
theorem zSK (w:World)(p B:Nat)(s:Ps)(R:vC)(k:Nat)(hk:Hid (s.hd.kind≠k))(h:PS w p B s R) :
  Calls Tryz.prog 161 #[.pointer (some ⟨p,0,none⟩),.int .u8 (k:Int)] w (zAa w p B R 50 s.hd.at_):=by
 have HP:=yE h;clear h
 go_enter Tryz.func161,Tryz.ntmps161
 go_wp2_with fail
 refine(ZP _ p s R (HP.out.ext (Ext.alloc _ _)).ts).mono ?_;rintro e w1 ⟨rfl,AA⟩;have HX:=yE ((Ext.alloc _ _).trans AA)
 have AB:¬(s.hd.kind:Int)=(k:Int):=by have:=hk.out; omega
 have HF:Hid (∀o,zAa w p B R 50 s.hd.at_ (ZH 50) (w1.alloc o)):=yE fun o=>⟨rfl,s,rfl,HP.out.okp (HX.out.trans (Ext.alloc _ _))⟩;unfold xS;clear AA
 go_wp2_with fail
 refine(zBE _ p 50).mono ?_;rintro e w2 ⟨rfl,rfl⟩;exact xB rfl (HF.out _)
end Go.Proofs.YtioffpjajhalaaaGreatDoor
