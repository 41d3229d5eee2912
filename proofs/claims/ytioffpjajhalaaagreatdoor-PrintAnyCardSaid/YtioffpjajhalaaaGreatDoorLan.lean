/- The program's reader of tokens: next, is, fail, skip, take, of. (and what follows of it). The conditions stand at each lemma. -/
import Derived.Test.YtioffpjajhalaaaGreatDoorLaa
import Derived.Test.YtioffpjajhalaaaGreatDoorLam
import Derived.Test.YtioffpjajhalaaaGreatDoorLab
set_option linter.unusedVariables false
set_option linter.unusedSimpArgs false
set_option maxRecDepth 100000
set_option maxHeartbeats 16000000
namespace Go.Proofs.YtioffpjajhalaaaGreatDoor
open Go Go.RowKit
structure xW where
 bt:Nat
 ot:Nat
 ct:Nat
 A:Option Addr
 c:Nat
 nh:List (Nd × Hd2)
structure PS (w:World)(p B:Nat)(s:Ps)(R:xW):Prop where
 blk:Blk w p 75 #[.slice (some ⟨R.bt,R.ot,none⟩) s.ts.length R.ct,.slice R.A R.nh.length R.c,.int .i64 (s.deep:Int)]
 zKC:∀k,k<s.ts.length*5→w.cell? ⟨R.bt,R.ot+k,none⟩=(xD s.ts)[k]?
 zHF:s.ts.length≤R.ct
 zDq:R.bt<B
 nodes:s.nd=R.nh.map Prod.fst
 ns:NS w B 48 3 R.A R.c R.nh
 pB:B≤p
 xU:zCV s
def xJ (p:Nat)(R:xW)(b:Nat):Prop:=b=p∨zFl R.A R.nh b
theorem PS.ext {w w':World}{p B:Nat}{s:Ps}{R:xW}(h:PS w p B s R)(hx:Ext w w'):PS w' p B s R:=
 ⟨h.blk.ext hx,fun k hk=>(hx.cell (p:=⟨R.bt,R.ot+k,none⟩) (yR h.zDq (Nat.le_trans h.pB (zS h.blk.lt)))).trans (h.zKC k hk),h.zHF,h.zDq,h.nodes,h.ns.ext hx,h.pB,h.xU⟩
theorem PS.len {w:World}{p B:Nat}{s:Ps}{R:xW}(h:PS w p B s R):s.nd.length=R.nh.length:=by rw[h.nodes,yN]
theorem PS.tok {w:World}{p B:Nat}{s:Ps}{R:xW}(h:PS w p B s R)(j:Nat)(hj:j<5):w.cell? ⟨R.bt,R.ot+j,none⟩=(ZM s.hd)[j]?:=by
 obtain⟨t,r,hs,ht⟩:=h.xU.hd;have hp:=h.xU.pos;rw[h.zKC j (by omega),hs,ht]
 show(ZM t++xD r)[j]?=_
 rw[List.getElem?_append_left (by show j<5; exact hj)]
theorem PS.x0 {w:World}{p B:Nat}{s:Ps}{R:xW}(h:PS w p B s R):w.cell? ⟨p,0,none⟩=some (.slice (some ⟨R.bt,R.ot,none⟩) s.ts.length R.ct):=h.blk.cell 0
theorem PS.x1 {w:World}{p B:Nat}{s:Ps}{R:xW}(h:PS w p B s R):w.cell? ⟨p,1,none⟩=some (.slice R.A R.nh.length R.c):=h.blk.cell 1
theorem PS.x2 {w:World}{p B:Nat}{s:Ps}{R:xW}(h:PS w p B s R):w.cell? ⟨p,2,none⟩=some (.int .i64 (s.deep:Int)):=h.blk.cell 2
theorem PS.btl {w:World}{p B:Nat}{s:Ps}{R:xW}(h:PS w p B s R):R.bt<w.heap.size:=yR h.zDq (Nat.le_trans h.pB (zS h.blk.lt))
structure TS (w:World)(p:Nat)(s:Ps)(R:xW):Prop where
 blk:Blk w p 75 #[.slice (some ⟨R.bt,R.ot,none⟩) s.ts.length R.ct,.slice R.A R.nh.length R.c,.int .i64 (s.deep:Int)]
 tok:∀j,j<5→w.cell? ⟨R.bt,R.ot+j,none⟩=(ZM s.hd)[j]?
 btl:R.bt<w.heap.size
 pos:0<s.ts.length
theorem PS.ts {w:World}{p B:Nat}{s:Ps}{R:xW}(h:PS w p B s R):TS w p s R:=⟨h.blk,h.tok,h.btl,h.xU.pos⟩
theorem TS.grown {w w':World}{p:Nat}{s:Ps}{R:xW}{o:Option Nat}(h:TS w p s R)(hg:w.grownBy w' o)(h1:some p≠o)(h2:some R.bt≠o):TS w' p s R:=
 ⟨(hg.block p h.blk.lt h1).trans h.blk,fun j hj=>(World.cell?_of_block (w:=w) (hg.block R.bt h.btl h2)).trans (h.tok j hj),yR h.btl hg.size,h.pos⟩
theorem jS (w:World)(p:Nat)(s:Ps)(R:xW)(h:TS w p s R) :
  Calls Tryz.prog 38 #[.pointer (some ⟨p,0,none⟩)] w fun e w'=>e=.returned (.agg (ZM s.hd).toArray)∧Ext w w':=by
 have x0:w.cell? ⟨p,0,none⟩=some (.slice (some ⟨R.bt,R.ot,none⟩) s.ts.length R.ct):=h.blk.cell 0;have t0:w.cell? ⟨R.bt,R.ot,none⟩=some (.int .u8 (s.hd.kind:Int)):=h.tok 0 (by decide);have t1:w.cell? ⟨R.bt,R.ot+1,none⟩=some (.int .i64 (s.hd.at_:Int)):=h.tok 1 (by decide);have t2:w.cell? ⟨R.bt,R.ot+2,none⟩=some (.int .i64 (s.hd.en:Int)):=h.tok 2 (by decide);have t3:w.cell? ⟨R.bt,R.ot+3,none⟩=some (.string (yX s.hd.text)):=h.tok 3 (by decide);have t4:w.cell? ⟨R.bt,R.ot+4,none⟩=some (.int .i64 s.hd.n):=h.tok 4 (by decide);have AA:=h.pos
 have q0:(0:Int)<(s.ts.length:Int):=by omega
 have AC:=h.blk.lt;have AB:=h.btl;clear h;unfold ZM;generalize s.hd=t at *;generalize s.ts.length=n at *
 go_enter Tryz.func38,Tryz.ntmps38
 go_wp2
 refine bodyPost_ret (v:=.agg #[.int .u8 (t.kind:Int),.int .i64 (t.at_:Int),.int .i64 (t.en:Int),.string (yX t.text),.int .i64 t.n]) (by simp[results,Tryz.results38,go_sem]) rfl ⟨rfl,?_⟩;exact Ext.alloc _ _
theorem zSn (t:Bs)(s:Ps):isP t s=((s.hd.kind != 4&&s.hd.kind != 2)&&s.hd.text==t):=rfl
theorem YT (w:World)(p B:Nat)(s:Ps)(R:xW)(t:Bs)(b:Bool)(hb:Hid (isP t s=b))(h:PS w p B s R) :
  Calls Tryz.prog 82 #[.pointer (some ⟨p,0,none⟩),.string (yX t)] w fun e w'=>e=.returned (.bool b)∧Ext w w':=by
 have HP:=yD h;clear h;obtain⟨k,hk⟩:∃k,k=s.hd.kind:=⟨_,rfl⟩;obtain⟨x,hx⟩:∃x,x=s.hd.text:=⟨_,rfl⟩;have HB:Hid (((k != 4&&k != 2)&&x==t)=b):=yD (by rw[←hb.out,zSn,hk,hx])
 go_enter Tryz.func82,Tryz.ntmps82
 go_wp2_with fail
 refine(jS w p s R HP.out.ts).mono ?_;rintro e w1 ⟨rfl,AA⟩;have HX:=yD AA;unfold ZM;rw[←hk,←hx];clear AA hk hx
 by_cases h4:k=4
 ·subst h4
  go_wp2_with fail
  go_ret;exact⟨zCa (by rw[←HB.out]; rfl),HX.out.trans (Ext.alloc _ _)⟩
 ·by_cases h2:k=2
  ·subst h2
   go_wp2_with fail
   go_ret;exact⟨zCa (by rw[←HB.out]; rfl),HX.out.trans (Ext.alloc _ _)⟩
  ·have i4:¬(k:Int)=4:=by omega
   have i2:¬(k:Int)=2:=by omega
   have HK:=yD (And.intro h4 h2);clear h4 h2
   go_wp2_with fail
   go_ret;refine⟨zCa ?_,HX.out.trans (Ext.alloc _ _)⟩;rw[←HB.out];simp only[zAR];have h4:=HK.out.1;have h2:=HK.out.2
   have a4:((k:Int) != 4)=true:=by rw[zD]; omega
   have a2:((k:Int) != 2)=true:=by rw[zD]; omega
   have b4:(k != 4)=true:=by rw[zD]; omega
   have b2:(k != 2)=true:=by rw[zD]; omega
   rw[a4,a2,b4,b2]
theorem xK.set {w:World}{M:Nat→Prop}{g i:Nat}{u:Value}(h:M g):xK w M (w.setCell ⟨g,i,none⟩ u) M:=
 ⟨rfl,rfl,rfl,by simp[World.setCell],fun b hb hM=>zQ w ⟨g,i,none⟩ u b (fun e=>hM (by rw[e]; exact h)),fun b h=>.inl h⟩
def jL (er:Int):Ending:=.panicked [{ v:=.iface 54 (.int .i64 er),recovered:=false }]
theorem xA {P:Program}{fn:Func}{R:Ending→World→Prop}{a:Act}{w:World}{er:Int}(hd:a.defers=[])(h:R (jL er) w):bodyPost P fn R (Exit.panic [{ v:=.iface 54 (.int .i64 er),recovered:=false }]) a w:=⟨hd,h⟩
def OkP (w:World)(p B:Nat)(R:xW)(s':Ps)(w':World):Prop:=∃R',PS w' p B s' R'∧xK w (xJ p R) w' (xJ p R')
def JE (w:World)(p B:Nat)(R:xW)(er:Int)(at_:Nat)(e:Ending)(w':World):Prop:=e=jL er∧∃s',s'.hd.at_=at_∧OkP w p B R s' w'
def xM (w:World)(p B:Nat)(R:xW)(r:Res Unit)(e:Ending)(w':World):Prop:=
 match r with
 | .ok _ s'=>e=.returned (.tuple #[])∧OkP w p B R s' w'
 | .err er a=>JE w p B R er a e w'
theorem xM.ok {w:World}{p B:Nat}{R:xW}{s':Ps}{w':World}(h:OkP w p B R s' w'):xM w p B R (.ok () s') (.returned (.tuple #[])) w':=⟨rfl,h⟩
theorem xM.err {w:World}{p B:Nat}{R:xW}{er:Int}{a:Nat}{e:Ending}{w':World}(h:JE w p B R er a e w'):xM w p B R (.err er a) e w':=h
theorem OkP.trans {w w1 w2:World}{p B:Nat}{R R1:xW}{s:Ps}(h:xK w (xJ p R) w1 (xJ p R1))(k:OkP w1 p B R1 s w2):OkP w p B R s w2:=let ⟨R2,a,b⟩:=k; ⟨R2,a,h.trans b⟩
theorem JE.trans {w w1 w2:World}{p B:Nat}{R R1:xW}{er:Int}{a:Nat}{e:Ending}(h:xK w (xJ p R) w1 (xJ p R1))(k:JE w1 p B R1 er a e w2):JE w p B R er a e w2:=let ⟨x,s,y,z⟩:=k; ⟨x,s,y,OkP.trans h z⟩
theorem xM.trans {w w1 w2:World}{p B:Nat}{R R1:xW}{r:Res Unit}{e:Ending}(h:xK w (xJ p R) w1 (xJ p R1))(k:xM w1 p B R1 r e w2):xM w p B R r e w2:=by
 cases r with
 | ok a s=>exact⟨k.1,OkP.trans h k.2⟩
 | err er a=>exact JE.trans h k
theorem PS.zRP {w:World}{p B:Nat}{s:Ps}{R:xW}(h:PS w p B s R)(hk:s.hd.kind≠4) :
  PS (w.setCell ⟨p,0,none⟩ (.slice (some ⟨R.bt,R.ot+5,none⟩) (s.ts.length-1) (R.ct-1))) p B s.adv { R with ot:=R.ot+5,ct:=R.ct-1 }:=by
 have AB:=jN (s:=s);obtain⟨t,r,hs,ht⟩:=h.xU.hd;have AA:=h.xU.pos
 have AD:s.adv.ts=r:=by show s.ts.tail=r; rw[hs]; rfl
 refine⟨?_,fun k AE=>?_,?_,h.zDq,h.nodes,?_,h.pB,h.xU.adv hk⟩
 ·have:=h.blk.put 0 (.slice (some ⟨R.bt,R.ot+5,none⟩) (s.ts.length-1) (R.ct-1))
  rw[AB]
  show Blk _ p 75 #[_,_,.int .i64 (s.deep:Int)]
  simpa using this
 ·rw[AD] at AE ⊢
  have AC:R.bt≠p:=by have:=h.zDq; have:=h.pB; omega
  rw[World.cell?_of_block (w:=w) (zQ w ⟨p,0,none⟩ _ R.bt AC)]
  show w.cell? ⟨R.bt,R.ot+5+k,none⟩=_
  rw[Nat.add_assoc,h.zKC (5+k) (by rw[hs]; simp only[zJ]; omega),hs]
  show(ZM t++xD r)[5+k]?=_
  rw[List.getElem?_append_right (by show 5≤_; omega)]
  show(xD r)[5+k-5]?=_
  rw[show 5+k-5=k by omega]
 ·have:=h.zHF
  show s.adv.ts.length≤R.ct-1
  omega
 ·refine h.ns.JX fun b hb=>zQ w ⟨p,0,none⟩ _ b fun e=>?_;rw[e] at hb;exact h.ns.zCb h.blk (by decide) (by decide) hb
theorem zAE (w:World)(p:Nat)(er:Int):Calls Tryz.prog 85 #[.pointer (some ⟨p,0,none⟩),.int .i64 er] w fun e w'=>e=jL er∧w=w':=by
 go_enter Tryz.func85,Tryz.ntmps85
 go_wp2
 exact⟨rfl,rfl,rfl⟩
theorem zAg (w:World)(p B:Nat)(s:Ps)(R:xW)(t:Bs)(hb:Hid (isP t s=false))(h:PS w p B s R) :
  Calls Tryz.prog 133 #[.pointer (some ⟨p,0,none⟩),.string (yX t)] w fun e w'=>e=.returned (.bool false)∧Ext w w':=by
 have HP:=yD h;clear h
 go_enter Tryz.func133,Tryz.ntmps133
 go_wp2_with fail
 refine(YT w p B s R t false hb HP.out).mono ?_;rintro e w1 ⟨rfl,AA⟩;have HX:=yD AA;clear AA
 go_wp2_with fail
 go_ret;exact⟨rfl,HX.out⟩
theorem JG (w:World)(p B:Nat)(s:Ps)(R:xW)(t:Bs)(hb:Hid (isP t s=true))(h:PS w p B s R) :
  Calls Tryz.prog 133 #[.pointer (some ⟨p,0,none⟩),.string (yX t)] w fun e w'=>e=.returned (.bool true)∧OkP w p B R s.adv w':=by
 have HP:=yD h;clear h
 go_enter Tryz.func133,Tryz.ntmps133
 go_wp2_with fail
 refine(YT w p B s R t true hb HP.out).mono ?_;rintro e w1 ⟨rfl,AB⟩;have HX:=yD AB;have AA:=yD (HP.out.ext AB);have hk:=(vD hb.out).1;have HF:Hid (OkP w p B R s.adv (w1.setCell ⟨p,0,none⟩ (.slice (some ⟨R.bt,R.ot+5,none⟩) (s.ts.length-1) (R.ct-1)))):=yD ⟨_,AA.out.zRP hk,(xK.ext AB).trans (xK.set (.inl rfl))⟩
 have h2:2≤s.ts.length:=by
  have hg:=(AA.out.xU.adv hk).pos;rw[jN] at hg;omega
 have h3:=AA.out.zHF;have x0:=AA.out.x0;have z0:=AA.out.blk.frozen 0;clear AB hk;generalize s.ts.length=n at *;generalize R.ct=ct at *
 go_wp2_with fail
 go_ret;exact⟨rfl,HF.out⟩
theorem PS.okp {w w':World}{p B:Nat}{s:Ps}{R:xW}(h:PS w p B s R)(hx:Ext w w'):OkP w p B R s w':=⟨R,h.ext hx,xK.ext hx⟩
theorem vT (w:World)(p B:Nat)(s:Ps)(R:xW)(t:Bs)(h:PS w p B s R) :
  Calls Tryz.prog 128 #[.pointer (some ⟨p,0,none⟩),.string (yX t)] w (xM w p B R (vJ t s)):=by
 have HP:=yD h;clear h
 cases hi:isP t s with
 | true=>
  have HI:=yD hi;have HT:Hid (vJ t s=.ok () s.adv):=yD (by unfold vJ; rw[if_pos hi]);clear hi
  go_enter Tryz.func128,Tryz.ntmps128
  go_wp2_with fail
  refine(JG w p B s R t HI HP.out).mono ?_;rintro e w1 ⟨rfl,ho⟩;have HO:=yD ho;clear ho
  go_wp2_with fail
  go_end0;rw[HT.out];exact xM.ok HO.out
 | false=>
  have HI:=yD hi;have HT:Hid (vJ t s=.err 50 s.hd.at_):=yD (by unfold vJ; rw[hi]; rfl);clear hi
  go_enter Tryz.func128,Tryz.ntmps128
  go_wp2_with fail
  refine(zAg w p B s R t HI HP.out).mono ?_;rintro e w1 ⟨rfl,hx⟩;have HX:=yD hx;clear hx
  go_wp2_with fail
  refine(zAE w1 p 50).mono ?_;rintro e w2 ⟨rfl,rfl⟩;have HE:Hid (xM w p B R (vJ t s) (jL 50) w1):=yD (by rw[HT.out]; exact⟨rfl,s,rfl,HP.out.okp HX.out⟩);exact xA rfl HE.out
def zCD (w:World)(p B:Nat)(R:xW)(v:Value)(r:Res Unit)(e:Ending)(w':World):Prop:=
 match r with
 | .ok _ s'=>e=.returned v∧OkP w p B R s' w'
 | .err er a=>JE w p B R er a e w'
theorem PS.JX {w w':World}{p B:Nat}{s:Ps}{R:xW}(h:PS w p B s R)(hk:∀b,b<B∨xJ p R b→w'.heap[b]?=w.heap[b]?):PS w' p B s R:=
 ⟨(hk p (.inr (.inl rfl))).trans h.blk,fun k AA=>(World.cell?_of_block (w:=w) (hk R.bt (.inl h.zDq))).trans (h.zKC k AA),h.zHF,h.zDq,h.nodes,h.ns.JX fun b hb=>hk b (.inr (.inr hb)),h.pB,h.xU⟩
theorem PS.zCb {w:World}{p B:Nat}{s:Ps}{R:xW}(h:PS w p B s R){g:Nat}{t:TypeId}{cs:Array Value}(hg:Blk w g t cs)(h1:t≠48)(h2:t≠3)(h3:t≠75):¬xJ p R g:=by
 rintro (hb | hb)
 ·subst hb; exact Blk.differ hg h.blk h3 rfl
 ·exact h.ns.zCb hg h1 h2 hb
def xW.adv (R:xW):xW:={ R with ot:=R.ot+5,ct:=R.ct-1 }
def OkR (w:World)(p B:Nat)(R R':xW)(s':Ps)(w':World):Prop:=PS w' p B s' R'∧xK w (xJ p R) w' (xJ p R')
theorem OkR.okp {w:World}{p B:Nat}{R R':xW}{s':Ps}{w':World}(h:OkR w p B R R' s' w'):OkP w p B R s' w':=⟨R',h⟩
theorem OkR.ext {w:World}{p B:Nat}{R R':xW}{s':Ps}{w' w2:World}(h:OkR w p B R R' s' w')(hx:Ext w' w2):OkR w p B R R' s' w2:=⟨h.1.ext hx,h.2.trans (xK.ext hx)⟩
theorem OkR.ZN {w W w':World}{p B g:Nat}{R R':xW}{s:Ps}(h:OkR w p B R R' s W)(ht:Touch g W w')(hg:w.heap.size≤g)(hB:B≤w.heap.size)(hn':¬xJ p R' g):OkR w p B R R' s w':=by
 obtain⟨a,b⟩:=h;refine⟨a.JX fun k hk=>ht.other k fun e=>?_,?_⟩
 ·subst e
  rcases hk with hk | hk
  ·omega
  ·exact hn' hk
 ·exact⟨ht.os.trans b.os,ht.tape.trans b.tape,ht.output.trans b.output,by rw[ht.size]; exact b.size,fun k hk hM=>(ht.other k (by omega)).trans (b.JX k hk hM),b.zD9⟩
theorem OkP.ZN {w W w':World}{p B g:Nat}{R:xW}{s:Ps}(h:OkP w p B R s W)(ht:Touch g W w')(hg:w.heap.size≤g)(hB:B≤w.heap.size)(hn:∀R',PS W p B s R'→¬xJ p R' g):OkP w p B R s w':=
 let ⟨R',a⟩:=h
 ⟨R',OkR.ZN a ht hg hB (hn R' a.1)⟩
theorem PS.okr {w W:World}{p B:Nat}{s:Ps}{R:xW}(h:PS W p B s R)(hx:Ext w W)(hk:s.hd.kind≠4):OkR w p B R R.adv s.adv (W.setCell ⟨p,0,none⟩ (.slice (some ⟨R.bt,R.ot+5,none⟩) (s.ts.length-1) (R.ct-1))):=
 ⟨h.zRP hk,(xK.ext hx).trans (xK.set (.inl rfl))⟩
theorem zGH (w:World)(p B:Nat)(s:Ps)(R:xW)(k:Nat)(hk:Hid (s.hd.kind=k))(h4:k≠4)(h:PS w p B s R) :
  Calls Tryz.prog 161 #[.pointer (some ⟨p,0,none⟩),.int .u8 (k:Int)] w fun e w'=>e=.returned (.agg (ZM s.hd).toArray)∧OkR w p B R R.adv s.adv w':=by
 have HP:=yD h;clear h
 go_enter Tryz.func161,Tryz.ntmps161
 go_wp2_with fail
 have AJ:=yD (Blk.new w 29 #[.int .u8 0,.int .i64 0,.int .i64 0,.string ⟨#[]⟩,.int .i64 0]);refine(jS _ p s R (HP.out.ext (Ext.alloc _ _)).ts).mono ?_;rintro e w1 ⟨rfl,AB⟩;have AH:=yD (AJ.out.ext AB);have HX:=yD ((Ext.alloc _ _).trans AB)
 have AL:(s.hd.kind:Int)=(k:Int):=by rw[hk.out]
 have AC:s.hd.kind≠4:=by rw[hk.out]; exact h4
 have AA:=yD (HP.out.ext HX.out);have HO:=yD (AA.out.okr HX.out AC);have AK:p≠w.heap.size:=Nat.ne_of_lt HP.out.blk.lt;have AD:Hid (Blk (w1.setCell ⟨p,0,none⟩ (.slice (some ⟨R.bt,R.ot+5,none⟩) (s.ts.length-1) (R.ct-1))) w.heap.size 29 #[.int .u8 0,.int .i64 0,.int .i64 0,.string ⟨#[]⟩,.int .i64 0]):=yD (AH.out.far (p:=⟨p,0,none⟩) (Ne.symm AK) _);have AG:Hid (B≤w.heap.size):=yD (Nat.le_trans HP.out.pB (zS HP.out.blk.lt))
 have h2:2≤s.ts.length:=by
  have hg:=(AA.out.xU.adv AC).pos;rw[jN] at hg;omega
 have h3:=AA.out.zHF;have x0:=AA.out.x0;have z0:=AA.out.blk.frozen 0;have AM:p<w1.heap.size:=AA.out.blk.lt;unfold ZM at *;clear AB AC
 go_wp2_with (refine vF rfl 29 (.tmp 4) (.tmp 22) rfl w.heap.size #[.int .u8 (k:Int),.int .i64 (s.hd.at_:Int),.int .i64 (s.hd.en:Int),.string (yX s.hd.text),.int .i64 s.hd.n] (by rfl) (by rfl) 29 _ (AD.out.ext (Ext.alloc _ _)) (by kernel_rfl) rfl rfl ?_; intro w3 AE AF)
 have HF:=yD ((HO.out.ext (Ext.alloc _ _)).ZN AE (zU _) AG.out (HO.out.1.zCb AD.out (by decide) (by decide) (by decide)));have AI:=yD AF;clear AE AF
 go_wp2_with fail
 exact zBh w.heap.size 29 _ _ Tryz.results161 rfl rfl AI.out Tryz.underlying29 rfl (by kernel_rfl) ⟨by unfold ZM; rw[AL],HF.out⟩
theorem zQN (w:World)(p B:Nat)(s:Ps)(R:xW)(k:Nat)(hk:Hid (s.hd.kind≠k))(h:PS w p B s R) :
  Calls Tryz.prog 161 #[.pointer (some ⟨p,0,none⟩),.int .u8 (k:Int)] w (JE w p B R 50 s.hd.at_):=by
 have HP:=yD h;clear h
 go_enter Tryz.func161,Tryz.ntmps161
 go_wp2_with fail
 refine(jS _ p s R (HP.out.ext (Ext.alloc _ _)).ts).mono ?_;rintro e w1 ⟨rfl,AA⟩;have HX:=yD ((Ext.alloc _ _).trans AA)
 have AB:¬(s.hd.kind:Int)=(k:Int):=by have:=hk.out; omega
 have HF:Hid (∀o,JE w p B R 50 s.hd.at_ (jL 50) (w1.alloc o)):=yD fun o=>⟨rfl,s,rfl,HP.out.okp (HX.out.trans (Ext.alloc _ _))⟩;unfold ZM;clear AA
 go_wp2_with fail
 refine(zAE _ p 50).mono ?_;rintro e w2 ⟨rfl,rfl⟩;exact xA rfl (HF.out _)
def zAe (N:Nat)(e:TypeId)(n:Nat)(xs:List Value)(v:Value)(w:World):Prop:=
 w.ownsRow N e 5 v n xs∧∃A c,v=.slice A n c∧(A=none→c=0)∧(n=0→c=0)
def zIq (e:TypeId)(k:Nat)(cs:Array Value)(v:Value)(w:World):Prop:=∃g,v=.slice (some ⟨g,0,none⟩) k k∧Blk w g e cs
def zIo (e:TypeId)(cs:Array Value)(N:Nat)(v:Value)(w:World):Prop:=∃g,v=.pointer (some ⟨g,0,none⟩)∧Blk w g e cs∧N≤g
structure zJg (N g n m cap:Nat)(e:TypeId)(xs news:List Value)(w w':World):Prop where
 other:∀k,k≠g→w'.heap[k]?=w.heap[k]?
 room:n+m≤cap
 xl:xs.length=n*5
 ml:news.length=m*5
 cells:∃cur cur':Array Value,w.heap[g]?=some (.cells cur e (0,0))∧w'.heap[g]?=some (.cells cur' e (0,0))∧cur.size=cap*5∧cur'.size=cap*5∧cur.toList.take (n*5)=xs∧cur'.toList.take ((n+m)*5)=xs++news
theorem zAe.ext {N:Nat}{e:TypeId}{n:Nat}{xs:List Value}{v:Value}{w w':World}(h:zAe N e n xs v w)(hx:Ext w w'):zAe N e n xs v w':=⟨zCs h.1 hx,h.2⟩
theorem zIq.ext {e:TypeId}{k:Nat}{cs:Array Value}{v:Value}{w w':World}(h:zIq e k cs v w)(hx:Ext w w'):zIq e k cs v w':=let ⟨g,a,b⟩:=h; ⟨g,a,b.ext hx⟩
theorem zIo.ext {e:TypeId}{cs:Array Value}{N:Nat}{v:Value}{w w':World}(h:zIo e cs N v w)(hx:Ext w w'):zIo e cs N v w':=let ⟨g,a,b,c⟩:=h; ⟨g,a,b.ext hx,c⟩
theorem zIq.roomy {N g n m cap:Nat}{e e':TypeId}{xs news:List Value}{w w':World}{k:Nat}{cs:Array Value}{v:Value}(hr:zJg N g n m cap e xs news w w')(h:zIq e' k cs v w)(hs:cs.size<(n+m)*5):zIq e' k cs v w':=by
 obtain⟨g',rfl,hb⟩:=h;refine⟨g',rfl,?_⟩
 by_cases hg:g'=g
 ·subst hg;obtain⟨AB,AA,h1,h2,h3,_⟩:=hr.cells;unfold Blk at hb;rw[hb] at h1;injection h1 with h1;injection h1 with h1;subst h1
  have:=hr.room
  have:(n+m)*5≤cap*5:=Nat.mul_le_mul_right _ this
  omega
 ·exact(hr.other g' hg).trans hb
theorem zIo.roomy {N g n m cap:Nat}{e e':TypeId}{xs news:List Value}{w w':World}{cs:Array Value}{M:Nat}{v:Value}(hr:zJg N g n m cap e xs news w w')(h:zIo e' cs M v w)(hs:e'≠e):zIo e' cs M v w':=by
 obtain⟨g',rfl,hb,hM⟩:=h;refine⟨g',rfl,?_,hM⟩
 by_cases hg:g'=g
 ·subst hg;obtain⟨AB,AA,h1,h2,h3,_⟩:=hr.cells;unfold Blk at hb;rw[hb] at h1;injection h1 with h1;injection h1 with h1 h4;exact absurd h4 hs
 ·exact(hr.other g' hg).trans hb
theorem zAe.roomy {N g n m cap:Nat}{e:TypeId}{xs news:List Value}{w w':World}{k:Nat}{ys:List Value}{v:Value}(hr:zJg N g n m cap e xs news w w')(h:zAe N e k ys v w)(hs:k≤n∨(k=n+m∧ys=xs++news)):zAe N e k ys v w':=by
 refine⟨⟨h.1.1,?_⟩,h.2⟩;have AF:=h.1.1
 rcases h.1.2 with hn | ⟨g',AC,AB,hv,hb,hh,a1,a2,a3,a4⟩
 ·exact .inl hn
 ·by_cases hg:g'=g
  ·subst hg;obtain⟨AG,AA,h1,h2,h3,h4,h5,h6⟩:=hr.cells;rw[hh] at h1;injection h1 with h1;injection h1 with h1;subst h1;refine .inr ⟨g',AC,AA,hv,hb,h2,a1,a2,by omega,?_⟩
   rcases hs with hs | ⟨rfl,rfl⟩
   ·have AE:k*5≤n*5:=Nat.mul_le_mul_right _ hs
    have AD:k*5≤(n+m)*5:=by omega
    have e1:(AA.toList.take ((n+m)*5)).take (k*5)=AA.toList.take (k*5):=by rw[List.take_take,Nat.min_eq_left AD]
    have e2:(AB.toList.take (n*5)).take (k*5)=AB.toList.take (k*5):=by rw[List.take_take,Nat.min_eq_left AE]
    rw[←e1,h6,List.take_append_of_le_length (by rw[hr.xl]; exact AE),←h5,e2,a4]
   ·exact h6
  ·exact .inr ⟨g',AC,AB,hv,hb,(hr.other g' hg).trans hh,a1,a2,a3,a4⟩
theorem zIO {P:Program}(w:World)(N:Nat)(t ty e:TypeId)(i:TypeInfo)(z:Value)(bytes:Nat)(ht:P.underlying t=some (.slice e))(hi:P.info? e=some i)(hz:i.zero=some z)
  (hsize:i.size=5) (hby:i.bytes=bytes) (hzs:z.cells.size=5) (v:Value) (n:Nat) (xs:List Value) (hrow:zAe N e n xs v w)
  (A:Option Addr) (m c:Nat) (news:List Value) (hc0:A=none→c=0) (hl:news.length=m*5) (hr:Cells w A news) (h1:∀u ∈ news,u.oneCell'=true)
  (h63:n+m≤maxLen) (hbytes:(n+m)*bytes≤140737488355328) (hN:N≤w.heap.size) :
  ∃v' w',(Builtin.append_ #[t,t] ty #[v,.slice A m c]).run P w=.ok v' w'∧zAe N e (n+m) (xs++news) v' w'∧(Ext w w'∨(0<n∧0<m∧Below N w w'∧∃g AD,v.ownBlock=some g∧zJg N g n m AD e xs news w w'))∧(m=0∨v'.ownBlock=v.ownBlock∨v'.ownBlock=some w.heap.size):=by
 have AL:n+m≤9223372036854775807:=by simp only[maxLen] at h63; omega
 have AE:(xs++news).length=(n+m)*5:=by rw[yM,hrow.1.1,hl,Nat.add_mul]
 by_cases hm:m=0
 ·subst hm;have hn:news=[]:=List.eq_nil_of_length_eq_zero (by simpa using hl);subst hn;refine⟨v,w,?_,by simpa using hrow,.inl (Ext.refl w),.inl rfl⟩
  cases A with
  | none=>
   have:=hc0 rfl
   subst this;exact run_append_owned_none (P:=P) w N t ty e i 5 ht hi v n xs hrow.1
  | some ad=>
   rcases hrow.1.2 with ⟨rfl,rfl⟩ | ⟨g,AD,AB,rfl,_,hg,AO,_,AK,_⟩
   ·simp[Builtin.append_,run_underlying ht,sizeOf,typeInfo,hi,Builtin.lenOf,Builtin.firstCells,loadCells,loadCellsFrom]
   ·have AH:n*i.size+([]:List Value).length≤AB.size:=by rw[hsize,AK]; simp only[zK,Nat.add_zero]; exact Nat.mul_le_mul_right _ AO
    have:=run_append_room (P:=P) w t ty e i ht hi g n AD AB hg ad 0 c [] (by simp) (fun j u hu=>by simp at hu) (fun u hu=>by simp at hu) (by omega) AH
    rw[this];simp only[Nat.add_zero,List.append_nil,zK,List.take_append_drop,Array.toArray_toList];rw[setRow_self w g AB e (0,0) hg]
 ·obtain⟨ad,rfl⟩:∃ad,A=some ad:=by
   rcases hr with hr | ⟨b,AU,hA,_⟩
   ·subst hr; simp at hl; omega
   ·exact⟨_,hA⟩
  have AC:∀j u,news[j]?=some u→w.cell? (ad.add j)=some u:=by
   intro j u hu
   rcases hr with hr | ⟨b,AU,hA,_,hk⟩
   ·subst hr; simp at hu
   ·injection hA with hA;subst hA;have hj:j<news.length:=(List.getElem?_eq_some_iff.1 hu).1
    have:=(hk j hj).trans hu
    unfold Addr.add
    by_cases h0:j=0
    ·subst h0; simpa using this
    ·simp only[h0,if_false]; exact this
  subst hby
  have grown:∀(AG:Nat),AG<n+m →
    zAe N e (n+m) (xs++news) (.slice (some ⟨w.heap.size,0,none⟩) (n+m) (grownCap w (n+m) AG e)) (w.drew.alloc (.cells (xs.toArray++news.toArray++Builtin.zeroCells z.cells (grownCap w (n+m) AG e-(n+m))) e)) ∧
    Ext w (w.drew.alloc (.cells (xs.toArray++news.toArray++Builtin.zeroCells z.cells (grownCap w (n+m) AG e-(n+m))) e)):=by
   intro AG ho;have AT:=grownCap_ge w (n+m) AG e;have AM:grownCap w (n+m) AG e≤maxLen:=grownCap_le_maxLen w (n+m) AG e h63;refine⟨⟨⟨AE,.inr ⟨w.heap.size,_,_,rfl,hN,zO w.drew _,AT,AM,?_,?_⟩⟩,_,_,rfl,(fun h=>by cases h),(fun h=>by omega)⟩,Ext.trans (Below.drew (Below.refl _ _)) (Ext.alloc _ _)⟩
   ·simp only[Array.size_append,List.size_toArray,size_zeroCells,hzs,hrow.1.1,hl,←Nat.add_mul]
    congr 1
    omega
   ·simp only[Array.toList_append,List.append_assoc];rw[←List.append_assoc,←AE];exact List.take_left
  rcases hrow.1.2 with ⟨rfl,rfl⟩ | ⟨g,AD,AB,rfl,AS,hg,AO,AM,AK,AF⟩
  ·have hx:xs=[]:=List.eq_nil_of_length_eq_zero (by simpa using hrow.1.1);subst hx;have hr:=run_append_nil (P:=P) w t ty e i z ht hi hz ad m c news (by rw[hsize]; exact hl) AC (by omega) (by omega) (by have hb:=hbytes; simp only[Nat.zero_add] at hb; omega);have AI:=grown 0 (by omega);simp only[Nat.zero_add,List.nil_append,Array.empty_append] at AI ⊢;exact⟨_,_,hr,AI.1,.inl AI.2,.inr (.inr rfl)⟩
  ·by_cases AA:n+m≤AD
   ·have AR:0<n:=by
     rcases Nat.eq_zero_or_pos n with h0 | h0
     ·obtain⟨A',c',AQ,_,AP⟩:=hrow.2;injection AQ with _ _ hcc
      have:=AP h0
      omega
     ·exact h0
    have AH:n*i.size+news.length≤AB.size:=by rw[hl,AK,hsize,←Nat.add_mul]; exact Nat.mul_le_mul_right _ AA
    have hr:=run_append_room (P:=P) w t ty e i ht hi g n AD AB hg ad m c news (by rw[hsize]; exact hl) AC h1 AA AH
    have AJ:(AB.toList.take (n*i.size)++news++AB.toList.drop (n*i.size+news.length)).toArray.size=AD*5:=by
     simp only[List.size_toArray,yM,List.length_take,List.length_drop,Array.length_toList];omega
    have AN:(AB.toList.take (n*i.size)++news++AB.toList.drop (n*i.size+news.length)).toArray.toList.take ((n+m)*5)=xs++news:=by
     rw[hsize,AF,←AE];exact List.take_left
    refine⟨_,_,hr,⟨⟨AE,.inr ⟨g,AD,_,rfl,AS,setRow_heap w g AB _ e _ hg,AA,AM,AJ,AN⟩⟩,_,_,rfl,(fun h=>by cases h),(fun h=>by omega)⟩,.inr ⟨AR,by omega,⟨rfl,rfl,rfl,by simp,fun k hk=>setRow_other w g k _ (by omega)⟩,g,AD,rfl,?_⟩,.inr (.inl rfl)⟩;exact⟨fun k hk=>setRow_other w g k _ hk,AA,hrow.1.1,hl,AB,_,hg,setRow_heap w g AB _ e _ hg,AK,AJ,AF,AN⟩
   ·have holds:∀j u,xs[j]?=some u→w.cell? ((⟨g,0,none⟩:Addr).add j)=some u:=hrow.1.cells (g:=g) rfl;have hr:=run_append_grow (P:=P) w t ty e i z ht hi hz ⟨g,0,none⟩ n AD xs (by rw[hsize]; exact hrow.1.1) holds ad m c news (by rw[hsize]; exact hl) AC (by omega) (by omega) (growslice_fits (by omega) hbytes);have AI:=grown AD (by omega);exact⟨_,_,hr,AI.1,.inl AI.2,.inr (.inr rfl)⟩
def zAf (N:Nat)(e:TypeId)(n:Nat)(xs:List Value)(v:Value)(w:World):Prop:=
 w.ownsRow N e 1 v n xs∧∃A c,v=.slice A n c∧(A=none→c=0)∧(n=0→c=0)
def zIz (e:TypeId)(k:Nat)(cs:Array Value)(v:Value)(w:World):Prop:=∃g,v=.slice (some ⟨g,0,none⟩) k k∧Blk w g e cs
def zH3 (e:TypeId)(cs:Array Value)(N:Nat)(v:Value)(w:World):Prop:=∃g,v=.pointer (some ⟨g,0,none⟩)∧Blk w g e cs∧N≤g
structure zJn (N g n m cap:Nat)(e:TypeId)(xs news:List Value)(w w':World):Prop where
 other:∀k,k≠g→w'.heap[k]?=w.heap[k]?
 room:n+m≤cap
 xl:xs.length=n*1
 ml:news.length=m*1
 cells:∃cur cur':Array Value,w.heap[g]?=some (.cells cur e (0,0))∧w'.heap[g]?=some (.cells cur' e (0,0))∧cur.size=cap*1∧cur'.size=cap*1∧cur.toList.take (n*1)=xs∧cur'.toList.take ((n+m)*1)=xs++news
theorem zAf.ext {N:Nat}{e:TypeId}{n:Nat}{xs:List Value}{v:Value}{w w':World}(h:zAf N e n xs v w)(hx:Ext w w'):zAf N e n xs v w':=⟨zCs h.1 hx,h.2⟩
theorem zIz.ext {e:TypeId}{k:Nat}{cs:Array Value}{v:Value}{w w':World}(h:zIz e k cs v w)(hx:Ext w w'):zIz e k cs v w':=let ⟨g,a,b⟩:=h; ⟨g,a,b.ext hx⟩
theorem zH3.ext {e:TypeId}{cs:Array Value}{N:Nat}{v:Value}{w w':World}(h:zH3 e cs N v w)(hx:Ext w w'):zH3 e cs N v w':=let ⟨g,a,b,c⟩:=h; ⟨g,a,b.ext hx,c⟩
theorem zIz.roomy {N g n m cap:Nat}{e e':TypeId}{xs news:List Value}{w w':World}{k:Nat}{cs:Array Value}{v:Value}(hr:zJn N g n m cap e xs news w w')(h:zIz e' k cs v w)(hs:cs.size<(n+m)*1):zIz e' k cs v w':=by
 obtain⟨g',rfl,hb⟩:=h;refine⟨g',rfl,?_⟩
 by_cases hg:g'=g
 ·subst hg;obtain⟨AB,AA,h1,h2,h3,_⟩:=hr.cells;unfold Blk at hb;rw[hb] at h1;injection h1 with h1;injection h1 with h1;subst h1
  have:=hr.room
  have:(n+m)*1≤cap*1:=Nat.mul_le_mul_right _ this
  omega
 ·exact(hr.other g' hg).trans hb
theorem zH3.roomy {N g n m cap:Nat}{e e':TypeId}{xs news:List Value}{w w':World}{cs:Array Value}{M:Nat}{v:Value}(hr:zJn N g n m cap e xs news w w')(h:zH3 e' cs M v w)(hs:e'≠e):zH3 e' cs M v w':=by
 obtain⟨g',rfl,hb,hM⟩:=h;refine⟨g',rfl,?_,hM⟩
 by_cases hg:g'=g
 ·subst hg;obtain⟨AB,AA,h1,h2,h3,_⟩:=hr.cells;unfold Blk at hb;rw[hb] at h1;injection h1 with h1;injection h1 with h1 h4;exact absurd h4 hs
 ·exact(hr.other g' hg).trans hb
theorem zAf.roomy {N g n m cap:Nat}{e:TypeId}{xs news:List Value}{w w':World}{k:Nat}{ys:List Value}{v:Value}(hr:zJn N g n m cap e xs news w w')(h:zAf N e k ys v w)(hs:k≤n∨(k=n+m∧ys=xs++news)):zAf N e k ys v w':=by
 refine⟨⟨h.1.1,?_⟩,h.2⟩;have AF:=h.1.1
 rcases h.1.2 with hn | ⟨g',AC,AB,hv,hb,hh,a1,a2,a3,a4⟩
 ·exact .inl hn
 ·by_cases hg:g'=g
  ·subst hg;obtain⟨AG,AA,h1,h2,h3,h4,h5,h6⟩:=hr.cells;rw[hh] at h1;injection h1 with h1;injection h1 with h1;subst h1;refine .inr ⟨g',AC,AA,hv,hb,h2,a1,a2,by omega,?_⟩
   rcases hs with hs | ⟨rfl,rfl⟩
   ·have AE:k*1≤n*1:=Nat.mul_le_mul_right _ hs
    have AD:k*1≤(n+m)*1:=by omega
    have e1:(AA.toList.take ((n+m)*1)).take (k*1)=AA.toList.take (k*1):=by rw[List.take_take,Nat.min_eq_left AD]
    have e2:(AB.toList.take (n*1)).take (k*1)=AB.toList.take (k*1):=by rw[List.take_take,Nat.min_eq_left AE]
    rw[←e1,h6,List.take_append_of_le_length (by rw[hr.xl]; exact AE),←h5,e2,a4]
   ·exact h6
  ·exact .inr ⟨g',AC,AB,hv,hb,(hr.other g' hg).trans hh,a1,a2,a3,a4⟩
theorem zIT {P:Program}(w:World)(N:Nat)(t ty e:TypeId)(i:TypeInfo)(z:Value)(bytes:Nat)(ht:P.underlying t=some (.slice e))(hi:P.info? e=some i)(hz:i.zero=some z)
  (hsize:i.size=1) (hby:i.bytes=bytes) (hzs:z.cells.size=1) (v:Value) (n:Nat) (xs:List Value) (hrow:zAf N e n xs v w)
  (A:Option Addr) (m c:Nat) (news:List Value) (hc0:A=none→c=0) (hl:news.length=m*1) (hr:Cells w A news) (h1:∀u ∈ news,u.oneCell'=true)
  (h63:n+m≤maxLen) (hbytes:(n+m)*bytes≤140737488355328) (hN:N≤w.heap.size) :
  ∃v' w',(Builtin.append_ #[t,t] ty #[v,.slice A m c]).run P w=.ok v' w'∧zAf N e (n+m) (xs++news) v' w'∧(Ext w w'∨(0<n∧0<m∧Below N w w'∧∃g AD,v.ownBlock=some g∧zJn N g n m AD e xs news w w'))∧(m=0∨v'.ownBlock=v.ownBlock∨v'.ownBlock=some w.heap.size):=by
 have AL:n+m≤9223372036854775807:=by simp only[maxLen] at h63; omega
 have AE:(xs++news).length=(n+m)*1:=by rw[yM,hrow.1.1,hl,Nat.add_mul]
 by_cases hm:m=0
 ·subst hm;have hn:news=[]:=List.eq_nil_of_length_eq_zero (by simpa using hl);subst hn;refine⟨v,w,?_,by simpa using hrow,.inl (Ext.refl w),.inl rfl⟩
  cases A with
  | none=>
   have:=hc0 rfl
   subst this;exact run_append_owned_none (P:=P) w N t ty e i 1 ht hi v n xs hrow.1
  | some ad=>
   rcases hrow.1.2 with ⟨rfl,rfl⟩ | ⟨g,AD,AB,rfl,_,hg,AO,_,AK,_⟩
   ·simp[Builtin.append_,run_underlying ht,sizeOf,typeInfo,hi,Builtin.lenOf,Builtin.firstCells,loadCells,loadCellsFrom]
   ·have AH:n*i.size+([]:List Value).length≤AB.size:=by rw[hsize,AK]; simp only[zK,Nat.add_zero]; exact Nat.mul_le_mul_right _ AO
    have:=run_append_room (P:=P) w t ty e i ht hi g n AD AB hg ad 0 c [] (by simp) (fun j u hu=>by simp at hu) (fun u hu=>by simp at hu) (by omega) AH
    rw[this];simp only[Nat.add_zero,List.append_nil,zK,List.take_append_drop,Array.toArray_toList];rw[setRow_self w g AB e (0,0) hg]
 ·obtain⟨ad,rfl⟩:∃ad,A=some ad:=by
   rcases hr with hr | ⟨b,AU,hA,_⟩
   ·subst hr; simp at hl; omega
   ·exact⟨_,hA⟩
  have AC:∀j u,news[j]?=some u→w.cell? (ad.add j)=some u:=by
   intro j u hu
   rcases hr with hr | ⟨b,AU,hA,_,hk⟩
   ·subst hr; simp at hu
   ·injection hA with hA;subst hA;have hj:j<news.length:=(List.getElem?_eq_some_iff.1 hu).1
    have:=(hk j hj).trans hu
    unfold Addr.add
    by_cases h0:j=0
    ·subst h0; simpa using this
    ·simp only[h0,if_false]; exact this
  subst hby
  have grown:∀(AG:Nat),AG<n+m →
    zAf N e (n+m) (xs++news) (.slice (some ⟨w.heap.size,0,none⟩) (n+m) (grownCap w (n+m) AG e)) (w.drew.alloc (.cells (xs.toArray++news.toArray++Builtin.zeroCells z.cells (grownCap w (n+m) AG e-(n+m))) e)) ∧
    Ext w (w.drew.alloc (.cells (xs.toArray++news.toArray++Builtin.zeroCells z.cells (grownCap w (n+m) AG e-(n+m))) e)):=by
   intro AG ho;have AT:=grownCap_ge w (n+m) AG e;have AM:grownCap w (n+m) AG e≤maxLen:=grownCap_le_maxLen w (n+m) AG e h63;refine⟨⟨⟨AE,.inr ⟨w.heap.size,_,_,rfl,hN,zO w.drew _,AT,AM,?_,?_⟩⟩,_,_,rfl,(fun h=>by cases h),(fun h=>by omega)⟩,Ext.trans (Below.drew (Below.refl _ _)) (Ext.alloc _ _)⟩
   ·simp only[Array.size_append,List.size_toArray,size_zeroCells,hzs,hrow.1.1,hl,←Nat.add_mul]
    congr 1
    omega
   ·simp only[Array.toList_append,List.append_assoc];rw[←List.append_assoc,←AE];exact List.take_left
  rcases hrow.1.2 with ⟨rfl,rfl⟩ | ⟨g,AD,AB,rfl,AS,hg,AO,AM,AK,AF⟩
  ·have hx:xs=[]:=List.eq_nil_of_length_eq_zero (by simpa using hrow.1.1);subst hx;have hr:=run_append_nil (P:=P) w t ty e i z ht hi hz ad m c news (by rw[hsize]; exact hl) AC (by omega) (by omega) (by have hb:=hbytes; simp only[Nat.zero_add] at hb; omega);have AI:=grown 0 (by omega);simp only[Nat.zero_add,List.nil_append,Array.empty_append] at AI ⊢;exact⟨_,_,hr,AI.1,.inl AI.2,.inr (.inr rfl)⟩
  ·by_cases AA:n+m≤AD
   ·have AR:0<n:=by
     rcases Nat.eq_zero_or_pos n with h0 | h0
     ·obtain⟨A',c',AQ,_,AP⟩:=hrow.2;injection AQ with _ _ hcc
      have:=AP h0
      omega
     ·exact h0
    have AH:n*i.size+news.length≤AB.size:=by rw[hl,AK,hsize,←Nat.add_mul]; exact Nat.mul_le_mul_right _ AA
    have hr:=run_append_room (P:=P) w t ty e i ht hi g n AD AB hg ad m c news (by rw[hsize]; exact hl) AC h1 AA AH
    have AJ:(AB.toList.take (n*i.size)++news++AB.toList.drop (n*i.size+news.length)).toArray.size=AD*1:=by
     simp only[List.size_toArray,yM,List.length_take,List.length_drop,Array.length_toList];omega
    have AN:(AB.toList.take (n*i.size)++news++AB.toList.drop (n*i.size+news.length)).toArray.toList.take ((n+m)*1)=xs++news:=by
     rw[hsize,AF,←AE];exact List.take_left
    refine⟨_,_,hr,⟨⟨AE,.inr ⟨g,AD,_,rfl,AS,setRow_heap w g AB _ e _ hg,AA,AM,AJ,AN⟩⟩,_,_,rfl,(fun h=>by cases h),(fun h=>by omega)⟩,.inr ⟨AR,by omega,⟨rfl,rfl,rfl,by simp,fun k hk=>setRow_other w g k _ (by omega)⟩,g,AD,rfl,?_⟩,.inr (.inl rfl)⟩;exact⟨fun k hk=>setRow_other w g k _ hk,AA,hrow.1.1,hl,AB,_,hg,setRow_heap w g AB _ e _ hg,AK,AJ,AF,AN⟩
   ·have holds:∀j u,xs[j]?=some u→w.cell? ((⟨g,0,none⟩:Addr).add j)=some u:=hrow.1.cells (g:=g) rfl;have hr:=run_append_grow (P:=P) w t ty e i z ht hi hz ⟨g,0,none⟩ n AD xs (by rw[hsize]; exact hrow.1.1) holds ad m c news (by rw[hsize]; exact hl) AC (by omega) (by omega) (growslice_fits (by omega) hbytes);have AI:=grown AD (by omega);exact⟨_,_,hr,AI.1,.inl AI.2,.inr (.inr rfl)⟩
def jA (o:Option Nat)(Fs:List (Value→World→Prop))(w w':World):Prop:=w.grownBy w' o∧∀F ∈ Fs,∀v,F v w→F v w'
theorem zHS {o:Option Nat}{a b c:World}(h:a.grownBy b o)(k:b.grownBy c o):a.grownBy c o:=
 ⟨k.os.trans h.os,k.tape.trans h.tape,k.output.trans h.output,Nat.le_trans h.size k.size,fun n hn ho=>(k.block n (yR hn h.size) ho).trans (h.block n hn ho)⟩
theorem zFw {o:Option Nat}{a b:World}(h:Ext a b):a.grownBy b o:=⟨h.os,h.tape,h.output,h.size,fun n hn _=>h.block n hn⟩
theorem jA.trans {o:Option Nat}{Fs:List (Value→World→Prop)}(a b c:World)(h:jA o Fs a b)(k:jA o Fs b c):jA o Fs a c:=⟨zHS h.1 k.1,fun F hF v hv=>k.2 F hF v (h.2 F hF v hv)⟩
theorem jA.ext {o:Option Nat}{Fs:List (Value→World→Prop)}{w w':World}(hE:∀F ∈ Fs,∀v w w',F v w→Ext w w'→F v w')(h:Ext w w'):jA o Fs w w':=⟨zFw h,fun F hF v hv=>hE F hF v _ _ hv h⟩
theorem jA.refl {o:Option Nat}{Fs:List (Value→World→Prop)}(w:World):jA o Fs w w:=⟨zFw (Ext.refl w),fun _ _ _ h=>h⟩
theorem zCp {P:Program}{id:Nat}{Q':Exit→Act→World→Prop}{a:Act}{w:World}{l:List Oper}{ks:List Take}(o:Option Nat)(Fs:List (Value→World→Prop))(m:Nat)(hm:P.follows .mixedOrders=true)(hB:VC l.toArray m=true)(hT:zCF l.toArray m=true)
  (hE:∀F ∈ Fs,∀v w w',F v w→Ext w w'→F v w')
  (h:ZB P l.toArray (jA o Fs) w (fun a' w'=>wpList P l.toArray Q' (l.drop m) a' w') (l.take m) ks a []):(Code.region id l.toArray true).wp P Q' a w:=
 VM (R:=jA o Fs) m ks hm hB hT jA.trans (jA.ext hE (Below.drew (Below.refl _ _))) h
def zDN (e:TypeId)(H:Nat)(cs:Array Value)(v:Value)(w:World):Prop:=∃g,v=.slice (some ⟨g,0,none⟩) 1 1∧Blk w g e cs∧H≤g
theorem zDN.ext {e:TypeId}{H:Nat}{cs:Array Value}{v:Value}{w w':World}(h:zDN e H cs v w)(hx:Ext w w'):zDN e H cs v w':=let ⟨g,a,b,c⟩:=h; ⟨g,a,b.ext hx,c⟩
def zOh (N:Nat)(e:TypeId)(o:Option Nat)(H n:Nat)(ys:List Value)(v:Value)(w:World):Prop:=zAe N e n ys v w∧(v.ownBlock=o∨∃g,v.ownBlock=some g∧H≤g)
def FsK (N:Nat)(e:TypeId)(v0:Value)(H n:Nat)(xs news:List Value):List (Value→World→Prop):=[fun _ w=>zAe N e n xs v0 w,zDN e H news.toArray,zOh N e v0.ownBlock H (n+1) (xs++news)]
theorem zIX (N:Nat)(e:TypeId)(v0:Value)(H n:Nat)(xs news:List Value):∀F ∈ FsK N e v0 H n xs news,∀v w w',F v w→Ext w w'→F v w':=by
 intro F hF v w w' h hx;simp only[FsK,zR,List.not_mem_nil,or_false] at hF
 rcases hF with rfl | rfl | rfl
 ·exact zAe.ext h hx
 ·exact h.ext hx
 ·exact⟨h.1.ext hx,h.2⟩
theorem zFd {P:Program}{w:World}{ρ:Operand→Value}{o:Oper}(N H:Nat)(s x:Operand)(t:TypeId)(ho:o.op=.call { callee:=.builtin .append,args:=#[s,x],argTypes:=#[t,t] })
  (e:TypeId) (i:TypeInfo) (z:Value) (bytes:Nat) (ht:P.underlying t=some (.slice e)) (hi:P.info? e=some i) (hz:i.zero=some z)
  (hsize:i.size=5) (hby:i.bytes=bytes) (hzs:z.cells.size=5) (v0:Value) (n:Nat) (xs news:List Value) (hs:ρ s=v0) (hrow:zAe N e n xs v0 w)
  (u:Value) (hu:ρ x=u) (hx:zDN e H news.toArray u w) (hl:news.length=5) (h1:∀u ∈ news,u.oneCell'=true) (h63:n+1≤maxLen) (hbytes:(n+1)*bytes≤140737488355328) (hN:N≤w.heap.size) (hH:H≤w.heap.size) (hog:∀g,v0.ownBlock=some g→g<H) :
  yY P ρ o w fun v' w'=>zOh N e v0.ownBlock H (n+1) (xs++news) v' w'∧jA v0.ownBlock (FsK N e v0 H n xs news) w w':=by
 obtain⟨g,AE,hb,hg⟩:=hx;rw[AE] at hu;have hc:Cells w (some ⟨g,0,none⟩) news:=.inr ⟨g,0,rfl,hb.lt,fun k hk=>by rw[Nat.zero_add,hb.cell k]; simp⟩;obtain⟨v',w',AC,h2,h3,h4⟩:=zIO (P:=P) w N t o.type e i z bytes ht hi hz hsize hby hzs v0 n xs hrow (some ⟨g,0,none⟩) 1 1 news (fun h=>by cases h) (by rw[hl]) hc h1 h63 hbytes hN;unfold yY execOp;simp only[ho,resolve,invoke,builtin,Sem.run_bind,Sem.run_pure,Result.andThen_ok,List.map_toArray,List.map_cons,List.map_nil,hs,hu,AC];refine⟨⟨h2,?_⟩,?_⟩
 ·rcases h4 with h4 | h4 | h4
  ·omega
  ·exact .inl h4
  ·exact .inr ⟨_,h4,hH⟩
 ·rcases h3 with h3 | ⟨hn,hm,AB,g0,AF,AD,AA⟩
  ·exact jA.ext (zIX _ _ _ _ _ _ _) h3
  ·refine⟨⟨AB.os,AB.tape,AB.output,AB.size,fun k hk ho=>AA.other k fun e=>ho (by rw[e,AD])⟩,fun F hF v h=>?_⟩;have AG:=hog g0 AD;simp only[FsK,zR,List.not_mem_nil,or_false] at hF
   rcases hF with rfl | rfl | rfl
   ·exact zAe.roomy AA h (.inl (zU _))
   ·obtain⟨g',a,b,c⟩:=h;exact⟨g',a,(AA.other g' (by omega)).trans b,c⟩
   ·exact⟨zAe.roomy AA h.1 (.inr ⟨rfl,rfl⟩),h.2⟩
def zOZ (N:Nat)(e:TypeId)(o:Option Nat)(H n:Nat)(ys:List Value)(v:Value)(w:World):Prop:=zAf N e n ys v w∧(v.ownBlock=o∨∃g,v.ownBlock=some g∧H≤g)
def FsH (N:Nat)(e:TypeId)(v0:Value)(H n:Nat)(xs news:List Value):List (Value→World→Prop):=[fun _ w=>zAf N e n xs v0 w,zDN e H news.toArray,zOZ N e v0.ownBlock H (n+1) (xs++news)]
theorem zJh (N:Nat)(e:TypeId)(v0:Value)(H n:Nat)(xs news:List Value):∀F ∈ FsH N e v0 H n xs news,∀v w w',F v w→Ext w w'→F v w':=by
 intro F hF v w w' h hx;simp only[FsH,zR,List.not_mem_nil,or_false] at hF
 rcases hF with rfl | rfl | rfl
 ·exact zAf.ext h hx
 ·exact h.ext hx
 ·exact⟨h.1.ext hx,h.2⟩
theorem zE9 {P:Program}{w:World}{ρ:Operand→Value}{o:Oper}(N H:Nat)(s x:Operand)(t:TypeId)(ho:o.op=.call { callee:=.builtin .append,args:=#[s,x],argTypes:=#[t,t] })
  (e:TypeId) (i:TypeInfo) (z:Value) (bytes:Nat) (ht:P.underlying t=some (.slice e)) (hi:P.info? e=some i) (hz:i.zero=some z)
  (hsize:i.size=1) (hby:i.bytes=bytes) (hzs:z.cells.size=1) (v0:Value) (n:Nat) (xs news:List Value) (hs:ρ s=v0) (hrow:zAf N e n xs v0 w)
  (u:Value) (hu:ρ x=u) (hx:zDN e H news.toArray u w) (hl:news.length=1) (h1:∀u ∈ news,u.oneCell'=true) (h63:n+1≤maxLen) (hbytes:(n+1)*bytes≤140737488355328) (hN:N≤w.heap.size) (hH:H≤w.heap.size) (hog:∀g,v0.ownBlock=some g→g<H) :
  yY P ρ o w fun v' w'=>zOZ N e v0.ownBlock H (n+1) (xs++news) v' w'∧jA v0.ownBlock (FsH N e v0 H n xs news) w w':=by
 obtain⟨g,AE,hb,hg⟩:=hx;rw[AE] at hu;have hc:Cells w (some ⟨g,0,none⟩) news:=.inr ⟨g,0,rfl,hb.lt,fun k hk=>by rw[Nat.zero_add,hb.cell k]; simp⟩;obtain⟨v',w',AC,h2,h3,h4⟩:=zIT (P:=P) w N t o.type e i z bytes ht hi hz hsize hby hzs v0 n xs hrow (some ⟨g,0,none⟩) 1 1 news (fun h=>by cases h) (by rw[hl]) hc h1 h63 hbytes hN;unfold yY execOp;simp only[ho,resolve,invoke,builtin,Sem.run_bind,Sem.run_pure,Result.andThen_ok,List.map_toArray,List.map_cons,List.map_nil,hs,hu,AC];refine⟨⟨h2,?_⟩,?_⟩
 ·rcases h4 with h4 | h4 | h4
  ·omega
  ·exact .inl h4
  ·exact .inr ⟨_,h4,hH⟩
 ·rcases h3 with h3 | ⟨hn,hm,AB,g0,AF,AD,AA⟩
  ·exact jA.ext (zJh _ _ _ _ _ _ _) h3
  ·refine⟨⟨AB.os,AB.tape,AB.output,AB.size,fun k hk ho=>AA.other k fun e=>ho (by rw[e,AD])⟩,fun F hF v h=>?_⟩;have AG:=hog g0 AD;simp only[FsH,zR,List.not_mem_nil,or_false] at hF
   rcases hF with rfl | rfl | rfl
   ·exact zAf.roomy AA h (.inl (zU _))
   ·obtain⟨g',a,b,c⟩:=h;exact⟨g',a,(AA.other g' (by omega)).trans b,c⟩
   ·exact⟨zAf.roomy AA h.1 (.inr ⟨rfl,rfl⟩),h.2⟩
end Go.Proofs.YtioffpjajhalaaaGreatDoor
