/- The document's State in memory: take, name, in. (and what follows of it). The conditions stand at each lemma. -/
import Derived.Test.YtioffpjajhalaaaGreatDoorKaa
import Derived.Test.YtioffpjajhalaaaGreatDoorKba
import Derived.Test.YtioffpjajhalaaaGreatDoorKai
import Derived.Deep.Cut
import Derived.Test.YtioffpjajhalaaaGreatDoorKaj
set_option linter.unusedVariables false
set_option linter.unusedSimpArgs false
set_option maxRecDepth 100000
set_option maxHeartbeats 16000000
namespace Go.Proofs.YtioffpjajhalaaaGreatDoor
open Go Go.RowKit
theorem QS.zOW {w:World}{p B:Nat}{r:Rs}{R:vJ}(h:QS w p B r R)(hk:r.s.hd.kind≠4):QS (w.setCell ⟨p,1,none⟩ (.int .i64 ((R.I:Int)+1))) p B r.adv { R with I:=R.I+1 }:=by
 have AA:=h.yY.last.pos;have hg:=(jI h.yY hk).yY
 cases hs:r.s.ts with
 | nil=>rw[hs] at AA; simp at AA
 | cons t l=>
  have AB:r.adv.s.ts=l:=by show r.s.ts.tail=l; rw[hs]; rfl
  have hn:R.I+r.s.ts.length=R.I+1+l.length:=by rw[hs,zJ]; omega
  refine⟨?_,fun k AC=>?_,?_,h.XZ,h.nodes,?_,h.pB,hg⟩
  ·have:=h.blk.put 1 (.int .i64 ((R.I:Int)+1))
   rw[AB];rw[hn] at this
   show Blk _ p 127 #[_,.int .i64 ((R.I+1:Nat):Int),.int .i64 (r.s.deep:Int),.slice R.A R.nh.length R.c,.int .i64 r.e]
   rw[Int.natCast_add]
   simpa using this
  ·rw[AB] at AC ⊢
   have AD:R.bt≠p:=by have:=h.XZ; have:=h.pB; omega
   rw[World.cell?_of_block (w:=w) (zQ w ⟨p,1,none⟩ _ R.bt AD)]
   show w.cell? ⟨R.bt,R.o0+(R.I+1)*5+k,none⟩=_
   rw[show R.o0+(R.I+1)*5+k=R.o0+R.I*5+(5+k) by omega,h.zBX (5+k) (by rw[hs]; simp only[zJ]; omega),hs]
   show(xS t++vB l)[5+k]?=_
   rw[List.getElem?_append_right (by show 5≤_; omega)]
   show(vB l)[5+k-5]?=_
   rw[show 5+k-5=k by omega]
  ·rw[AB]
   have:=h.few
   show R.I+1+l.length≤_
   omega
  ·refine h.ns.VS fun b hb=>zQ w ⟨p,1,none⟩ _ b fun e=>?_;rw[e] at hb;exact h.ns.zAH h.blk (by decide) (by decide) hb
theorem jO.trans {w w1 w2:World}{p B:Nat}{R R1:vJ}{r:Rs}(h:yZ w (xI p R) w1 (xI p R1))(k:jO w1 p B R1 r w2):jO w p B R r w2:=let ⟨R2,a,b⟩:=k; ⟨R2,a,h.trans b⟩
theorem xU {w:World}{M:Nat→Prop}(n:Nat):yZ w M (w.drewN n) M:=⟨rfl,rfl,rfl,zU _,fun _ _ _=>rfl,fun _ h=>.inl h⟩
theorem vF (w:World)(p B:Nat)(r:Rs)(R:vJ)(t:Bs)(h:QS w p B r R) :
  Calls Tryz.prog 124 #[.pointer (some ⟨p,0,none⟩),.string (xE t)] w fun e w'=>e=.returned (.tuple #[])∧jO w p B R (xD t r) w':=by
 have HP:=yE h;have AB:=h.few;have AC:=h.yY.last.pos;clear h
 cases hi:r.is t with
 | true=>
  have HI:=yE hi;have HT:Hid (xD t r=r.adv):=yE (by unfold xD; rw[if_pos hi]);have HK:=yE (vS hi).1;clear hi
  go_enter Tryz.func124,Tryz.ntmps124
  go_wp2_with fail
  refine(vE w p B r R t true HI HP.out).mono ?_;rintro e w1 ⟨rfl,m,rfl⟩;have AA:=yE (HP.out.drewN m);have HM:Hid (yZ w (xI p R) (w.drewN m) (xI p R)):=yE (xU m);generalize w.drewN m=w1 at *;have x1:w1.cell? ⟨p,1,none⟩=some (.int .i64 (R.I:Int)):=AA.out.blk.cell 1;have hf:=AA.out.blk.frozen 1
  go_wp2_with fail
  go_end0;rw[HT.out];exact⟨rfl,_,AA.out.zOW HK.out,HM.out.trans (yZ.set (.inl rfl))⟩
 | false=>
  have HI:=yE hi;have HT:Hid (xD t r=r.fail 50):=yE (by unfold xD; rw[hi]; rfl);clear hi
  go_enter Tryz.func124,Tryz.ntmps124
  go_wp2_with fail
  refine(vE w p B r R t false HI HP.out).mono ?_;rintro e w1 ⟨rfl,m,rfl⟩;have AA:=yE (HP.out.drewN m);have HM:Hid (yZ w (xI p R) (w.drewN m) (xI p R)):=yE (xU m);generalize w.drewN m=w1 at *
  go_wp2_with fail
  refine(JF w1 p B r R 50 (by decide) AA.out).mono ?_;rintro e w2 ⟨rfl,ho⟩;have HO:=yE ho;clear ho
  go_wp2_with fail
  refine bodyPost_ret (results_none rfl _ _ _) rfl ?_;rw[HT.out];exact⟨rfl,jO.trans HM.out HO.out⟩
theorem zBk (w:World)(p B:Nat)(r:Rs)(R:vJ)(h:QS w p B r R) :
  Calls Tryz.prog 123 #[.pointer (some ⟨p,0,none⟩)] w fun e w'=>e=.returned (.string (xE r.zAz))∧zGo w p B R (zDD r) w':=by
 have HP:=yE h;have x0:w.cell? ⟨p,0,none⟩=some (.slice (some ⟨R.bt,R.o0,none⟩) (R.I+r.s.ts.length) R.ct):=h.blk.cell 0;have x1:w.cell? ⟨p,1,none⟩=some (.int .i64 (R.I:Int)):=h.blk.cell 1;have x4:w.cell? ⟨p,4,none⟩=some (.int .i64 r.e):=h.blk.cell 4;have t0:w.cell? ⟨R.bt,R.o0+R.I*5,none⟩=some (.int .u8 (r.s.hd.kind:Int)):=h.tok 0 (by decide);have AJ:=h.yY.last.pos;have AI:=h.few
 have q0:(R.I:Int)<(R.I:Int)+(r.s.ts.length:Int):=by omega
 clear h;obtain⟨ee,AC⟩:∃x,x=r.e:=⟨_,rfl⟩;obtain⟨k,AB⟩:∃x,x=r.s.hd.kind:=⟨_,rfl⟩;rw[←AC] at x4;rw[←AB] at t0;have HN:Hid (r.zF6=(ee==0&&k==1)):=yE (by rw[AC,AB]; rfl)
 by_cases hb:ee=0∧k=1
 ·obtain⟨rfl,rfl⟩:=hb;have HT:Hid (r.zAz=r.s.hd.text∧zDD r=r.adv):=yE ⟨by unfold Rs.zAz; rw[if_pos (by rw[HN.out]; rfl)],by unfold zDD; rw[if_pos (by rw[HN.out]; rfl)]⟩;have HK:Hid (r.s.hd.kind≠4):=yE (by rw[←AB]; decide);clear AB AC HN;rw[HT.out.1]
  go_enter Tryz.func123,Tryz.ntmps123
  go_wp2_with fail
  go_quiet (fail)
  rename_i nq;have AA:=yE (HP.out.drewN nq);have HM:Hid (yZ w (xI p R) (w.drewN nq) (xI p R)):=yE (xU nq);have hf:=AA.out.blk.frozen 1;clear x0 x1 x4 t0;generalize w.drewN nq=w1 at *;have x1:w1.cell? ⟨p,1,none⟩=some (.int .i64 (R.I:Int)):=AA.out.blk.cell 1
  go_upto_region 5 with fail
  have AD:=yE (AA.out.zOW HK.out);have AG:Hid (yZ w (xI p R) (w1.setCell ⟨p,1,none⟩ (.int .i64 ((R.I:Int)+1))) (xI p R)):=yE (HM.out.trans (yZ.set (.inl rfl)))
  have AF:R.bt≠p:=by have:=AA.out.XZ; have:=AA.out.pB; omega
  have t3:(w1.setCell ⟨p,1,none⟩ (.int .i64 ((R.I:Int)+1))).cell? ⟨R.bt,R.o0+R.I*5+3,none⟩=some (.string (xE r.s.hd.text)):=(World.cell?_of_block (w:=w1) (zQ w1 ⟨p,1,none⟩ _ R.bt AF)).trans (AA.out.tok 3 (by decide))
  have hl:R.I+1+r.adv.s.ts.length=R.I+r.s.ts.length:=by
   have:r.adv.s.ts.length=r.s.ts.length-1:=ZF (s:=r.s)
   omega
  clear x1 hf AF;generalize w1.setCell ⟨p,1,none⟩ (.int .i64 ((R.I:Int)+1))=w2 at *
  have x0:w2.cell? ⟨p,0,none⟩=some (.slice (some ⟨R.bt,R.o0,none⟩) (R.I+r.s.ts.length) R.ct):=by rw[←hl]; exact AD.out.blk.cell 0
  have x1:w2.cell? ⟨p,1,none⟩=some (.int .i64 ((R.I:Int)+1)):=AD.out.blk.cell 1;clear hl
  go_quiet (fail)
  go_wp2_with fail
  go_ret;rw[HT.out.2];exact⟨rfl,R.I+1,AD.out.drewN _,AG.out.trans (xU _)⟩
 ·have HT:Hid (r.zAz=[]∧zDD r=r.fail 50):=yE (by
   have e:r.zF6=false:=by
    rw[HN.out]
    cases h1:(ee==0&&k==1) with
    | false=>rfl
    | true=>
     rw[zF,zN,zN] at h1;exact absurd h1 hb
   exact⟨by unfold Rs.zAz; rw[e]; rfl,by unfold zDD; rw[e]; rfl⟩)
  have AE:∀nq,Hid (QS (w.drewN nq) p B r R)∧Hid (yZ w (xI p R) (w.drewN nq) (xI p R)):=fun nq=>⟨yE (HP.out.drewN nq),yE (xU nq)⟩;clear HN AC AB;rw[HT.out.1]
  by_cases h0:ee=0
  ·subst h0;have AH:¬k=1:=fun h=>hb ⟨rfl,h⟩
   have i1:¬(k:Int)=1:=by omega
   have j1:((k:Int) != 1)=true:=by rw[zD]; omega
   clear hb AH
   go_enter Tryz.func123,Tryz.ntmps123
   go_wp2_with fail
   go_quiet (fail)
   rename_i nq;obtain⟨AA,HM⟩:=AE nq;clear x0 x1 x4 t0;generalize w.drewN nq=w1 at *
   go_wp2_with fail
   refine(zMv w1 p B r R 50 (by decide) AA.out).mono ?_;rintro e w2 ⟨rfl,ho⟩;have HO:=yE ho;clear ho
   go_wp2_with fail
   go_ret;rw[HT.out.2];exact⟨rfl,zGo.trans HM.out HO.out⟩
  ·have g0:(ee==0)=false:=beq_eq_false_iff_ne.2 h0
   have g1:(ee != 0)=true:=by rw[zD]; exact h0
   clear hb
   go_enter Tryz.func123,Tryz.ntmps123
   go_wp2_with fail
   go_quiet (fail)
   rename_i nq;obtain⟨AA,HM⟩:=AE nq;clear x0 x1 x4 t0;generalize w.drewN nq=w1 at *
   go_wp2_with fail
   refine(zMv w1 p B r R 50 (by decide) AA.out).mono ?_;rintro e w2 ⟨rfl,ho⟩;have HO:=yE ho;clear ho
   go_wp2_with fail
   go_ret;rw[HT.out.2];exact⟨rfl,zGo.trans HM.out HO.out⟩
theorem QS.zTZ {w:World}{p B:Nat}{r:Rs}{R:vJ}(h:QS w p B r R)(d:Nat)(g:XW { r with s:={ r.s with deep:=d } }):QS (w.setCell ⟨p,2,none⟩ (.int .i64 (d:Int))) p B { r with s:={ r.s with deep:=d } } R:=by
 refine⟨?_,fun k hk=>?_,h.few,h.XZ,h.nodes,?_,h.pB,g⟩
 ·have:=h.blk.put 2 (.int .i64 (d:Int))
  simpa using this
 ·have AA:R.bt≠p:=by have:=h.XZ; have:=h.pB; omega
  rw[World.cell?_of_block (w:=w) (zQ w ⟨p,2,none⟩ _ R.bt AA)];exact h.zBX k hk
 ·refine h.ns.VS fun b hb=>zQ w ⟨p,2,none⟩ _ b fun e=>?_;rw[e] at hb;exact h.ns.zAH h.blk (by decide) (by decide) hb
theorem zB0 (w:World)(p B:Nat)(r:Rs)(R:vJ)(h0:r.e=0)(b:Bool)(hb:Hid ((r.inn.e==0)=b))(h:QS w p B r R) :
  Calls Tryz.prog 159 #[.pointer (some ⟨p,0,none⟩)] w fun e w'=>e=.returned (.bool b)∧jO w p B R r.inn w':=by
 have HP:=yE h;have hl:=h.yY.live h0;have hg:=(zFP h.yY h0).yY;have x2:w.cell? ⟨p,2,none⟩=some (.int .i64 (r.s.deep:Int)):=h.blk.cell 2
 have x4:w.cell? ⟨p,4,none⟩=some (.int .i64 0):=by rw[←h0]; exact h.blk.cell 4
 have AB:=h.blk.frozen 2;clear h
 by_cases hd:64≤r.s.deep
 ·have HI:Hid (r.inn = { s:={ r.s with deep:=r.s.deep+1 },e:=51 }):=yE (by unfold Rs.inn; rw[if_pos ⟨h0,hd⟩]);have HF:Hid (r.fail 51 = { r with e:=51 }):=yE (by unfold Rs.fail; rw[if_pos h0]);rw[HI.out] at hg;have AA:=yE hg
  have e:b=false:=by rw[←hb.out,HI.out]; rfl
  have d0:decide ((64:Int)≤(r.s.deep:Int))=true:=yQ (by omega)
  have d1:(64:Int)≤(r.s.deep:Int):=by omega
  clear hg hb;subst e
  go_enter Tryz.func159,Tryz.ntmps159
  go_wp2_with fail
  refine(JF w p B r R 51 (by decide) HP.out).mono ?_;rintro e w1 ⟨rfl,R1,hq,hm⟩;rw[HF.out] at hq;have HQ:=yE hq;have HM:=yE hm;clear hq hm x2 x4 AB;have x2:w1.cell? ⟨p,2,none⟩=some (.int .i64 (r.s.deep:Int)):=HQ.out.blk.cell 2;have x4:w1.cell? ⟨p,4,none⟩=some (.int .i64 51):=HQ.out.blk.cell 4;have AB:=HQ.out.blk.frozen 2
  have hs:QS (w1.setCell ⟨p,2,none⟩ (.int .i64 ((r.s.deep:Int)+1))) p B r.inn R1:=by rw[HI.out]; exact HQ.out.zTZ (r.s.deep+1) AA.out
  have HS:=yE hs;clear hs
  go_wp2_with fail
  go_ret;exact⟨rfl,R1,HS.out,HM.out.trans (yZ.set (.inl rfl))⟩
 ·have HI:Hid (r.inn = { s:={ r.s with deep:=r.s.deep+1 },e:=r.e }):=yE (by unfold Rs.inn; rw[if_neg (fun hh=>hd hh.2)]);rw[HI.out] at hg;have AA:=yE hg
  have e:b=true:=by rw[←hb.out,HI.out]; show(r.e==0)=true; rw[h0]; rfl
  have d0:decide ((64:Int)≤(r.s.deep:Int))=false:=yP (by omega)
  have d1:¬(64:Int)≤(r.s.deep:Int):=by omega
  have hs:QS (w.setCell ⟨p,2,none⟩ (.int .i64 ((r.s.deep:Int)+1))) p B r.inn R:=by rw[HI.out]; exact HP.out.zTZ (r.s.deep+1) AA.out
  have HS:=yE hs;clear hg hb hs;subst e
  go_enter Tryz.func159,Tryz.ntmps159
  go_wp2_with fail
  go_ret;exact⟨rfl,R,HS.out,yZ.set (.inl rfl)⟩
theorem zKT:(Tryz.prog.info? 100).map (fun i=>(i.zero,i.size,i.bytes))=some (some (.agg #[.int .u8 0,.int .i64 0,.string ⟨#[]⟩,.int .i64 0,.slice none 0 0]),5,64):=by kernel_rfl
structure QK (w:World)(p B:Nat)(r:Rs)(R:vJ):Prop where
 blk:Blk w p 127 #[.slice (some ⟨R.bt,R.o0,none⟩) (R.I+r.s.ts.length) R.ct,.int .i64 (R.I:Int),.int .i64 (r.s.deep:Int),.slice R.A R.nh.length R.c,.int .i64 r.e]
 zBX:∀k,k<r.s.ts.length*5→w.cell? ⟨R.bt,R.o0+R.I*5+k,none⟩=(vB r.s.ts)[k]?
 few:R.I+r.s.ts.length≤1000000
 XZ:R.bt<B
 nodes:r.s.nd=R.nh.map Prod.fst
 ns:NS w B 100 3 R.A R.c R.nh
 pB:B≤p
 last:Lst r.s
 deep:r.s.deep≤65
 live:r.e=0→r.s.deep≤64
 kids:∀n ∈ r.s.nd,n.kids.length≤r.s.nd.length+1
theorem QS.toK {w:World}{p B:Nat}{r:Rs}{R:vJ}(h:QS w p B r R):QK w p B r R:=⟨h.blk,h.zBX,h.few,h.XZ,h.nodes,h.ns,h.pB,h.yY.last,h.yY.deep,h.yY.live,fun n hn=>Nat.le_succ_of_le (h.yY.few n hn)⟩
theorem QK.tok {w:World}{p B:Nat}{r:Rs}{R:vJ}(h:QK w p B r R)(j:Nat)(hj:j<5):w.cell? ⟨R.bt,R.o0+R.I*5+j,none⟩=(xS r.s.hd)[j]?:=by
 have hp:=h.last.pos;rw[h.zBX j (by omega)];unfold Ps.hd
 cases hs:r.s.ts with
 | nil=>rw[hs] at hp; simp at hp
 | cons t l=>
  show(xS t++vB l)[j]?=_
  rw[List.getElem?_append_left (by show j<5; exact hj)]
  rfl
theorem QK.snoc {w W w1:World}{p B:Nat}{r:Rs}{R:vJ}(h:QK W p B r R)(hw:Ext w W)(x:Nd)(hx:x.kids=[]){g cap:Nat}
  (ho:w1.ownsRow B 100 5 (.slice (some ⟨g,0,none⟩) (R.nh.length+1) cap) (R.nh.length+1) (ncs R.nh++jL (x,(none,0)))) (hg:W.grownBy w1 (Value.slice R.A R.nh.length R.c).ownBlock)
  (hf:(Value.slice R.A R.nh.length R.c).ownBlock=some g∨w.heap.size≤g) :
  QS (w1.setCell ⟨p,3,none⟩ (.slice (some ⟨g,0,none⟩) (R.nh.length+1) cap)) p B { r with s:=r.s.add x } { R with A:=some ⟨g,0,none⟩,c:=cap,nh:=R.nh++[(x,(none,0))] } ∧
   yZ w (xI p R) (w1.setCell ⟨p,3,none⟩ (.slice (some ⟨g,0,none⟩) (R.nh.length+1) cap)) (xI p { R with A:=some ⟨g,0,none⟩,c:=cap,nh:=R.nh++[(x,(none,0))] }):=by
 have AA:(Value.slice R.A R.nh.length R.c).ownBlock≠some p:=fun e=>by
  obtain⟨AH,hc⟩:=vZ h.ns.row (vH h.ns.row e);exact Blk.differ h.blk hc (by decide) rfl
 have AB:Blk w1 p 127 _:=(hg.block p h.blk.lt (fun e=>AA e.symm)).trans h.blk;have AJ:=h.pB;have AK:=h.blk.lt;have AC:=(h.ns.snoc (by decide) x hx ho hg)
 have AF:(r.s.add x).nd.length=r.s.nd.length+1:=by show(r.s.nd++[x]).length=_; simp
 refine⟨⟨?_,fun k hk=>?_,h.few,h.XZ,?_,?_,h.pB,⟨h.last,h.deep,h.live,?_⟩⟩,?_⟩
 ·have:=AB.put 3 (.slice (some ⟨g,0,none⟩) (R.nh.length+1) cap)
  show Blk _ p 127 #[.slice _ (R.I+r.s.ts.length) _,.int .i64 (R.I:Int),.int .i64 (r.s.deep:Int),.slice _ (R.nh++[(x,(none,0))]).length _,.int .i64 r.e]
  rw[yN]
  simpa using this
 ·have AI:=h.XZ
  have AG:R.bt≠p:=by omega
  show(w1.setCell _ _).cell? ⟨R.bt,R.o0+R.I*5+k,none⟩=_
  have AE:R.bt<W.heap.size:=by omega
  have e1:w1.heap[R.bt]?=W.heap[R.bt]?:=hg.block R.bt AE fun e=>by
   have:=(YP h.ns.row (vH h.ns.row e.symm)).1
   omega
  have e2:=World.cell?_of_block (w:=W) (w':=w1.setCell ⟨p,3,none⟩ (.slice (some ⟨g,0,none⟩) (R.nh.length+1) cap)) (a:=⟨R.bt,R.o0+R.I*5+k,none⟩) ((zQ w1 ⟨p,3,none⟩ _ R.bt AG).trans e1);exact e2.trans (h.zBX k hk)
 ·show r.s.nd++[x]=_
  rw[h.nodes,List.map_append]
  rfl
 ·refine AC.VS fun b hb=>zQ w1 ⟨p,3,none⟩ _ b fun e=>?_;rw[e] at hb;exact AC.zAH AB (by decide) (by decide) hb
 ·show ∀n ∈ (r.s.add x).nd,n.kids.length≤(r.s.add x).nd.length
  rw[AF];intro n hn
  rcases List.mem_append.1 hn with hn | hn
  ·have:=h.kids n hn
   omega
  ·rw[List.mem_singleton.1 hn,hx]
   simp
 ·refine⟨hg.os.trans hw.os,hg.tape.trans hw.tape,hg.output.trans hw.output,?_,fun b hb hM=>?_,fun b hb=>?_⟩
  ·have h1:=hw.size;have h2:=hg.size;simp[World.setCell];omega
  ·have h1:=hw.size;have AD:b≠p:=fun e=>hM (.inl e);rw[zQ w1 ⟨p,3,none⟩ _ b AD,hg.block b (by omega) (fun e=>hM (.inr (.inl (vH h.ns.row e.symm))))];exact hw.block b hb
  ·have h1:=hw.size
   rcases hb with rfl | hb | hb
   ·exact .inl (.inl rfl)
   ·injection hb with hb;injection hb with hb;subst hb
    rcases hf with hf | hf
    ·exact .inl (.inr (.inl (vH h.ns.row hf)))
    ·exact .inr hf
   ·simp only[List.map_append] at hb
    rcases List.mem_append.1 hb with hb | hb
    ·exact .inl (.inr (.inr hb))
    ·simp at hb
theorem zPE (w:World)(p B:Nat)(r:Rs)(R:vJ)(kind:Nat)(h:QK w p B r R)(hbig:r.s.nd.length≤2000000) :
  Calls Tryz.prog 74 #[.pointer (some ⟨p,0,none⟩),.int .u8 (kind:Int)] w fun e w'=>e=.returned (.int .i64 (r.s.nd.length:Int))∧jO w p B R { r with s:=r.s.node kind } w':=by
 obtain⟨i0,hi,AT,AW,AR⟩:=info_parts zKT;have HP:=yE h
 have AB:r.s.nd.length=R.nh.length:=by rw[h.nodes,yO]
 have AD:=h.blk.lt
 have AU:R.bt<w.heap.size:=by have:=h.XZ; have:=h.pB; omega
 have AX:=yE AB;have AZ:=h.last.pos;have AY:=h.few
 have q0:(R.I:Int)<(R.I:Int)+(r.s.ts.length:Int):=by omega
 rw[AB] at hbig;obtain⟨o,HO⟩:∃o,Hid ((Value.slice R.A R.nh.length R.c).ownBlock=o):=⟨_,yE rfl⟩
 have AE:Hid (some p≠o):=yE fun e=>by
  rw[←HO.out] at e;obtain⟨Ab,hc⟩:=vZ h.ns.row (vH h.ns.row e.symm);exact Blk.differ h.blk hc (by decide) rfl
 have AV:Hid (some R.bt≠o):=yE fun e=>by
  rw[←HO.out] at e;have h1:=(YP h.ns.row (vH h.ns.row e.symm)).1;have h2:=h.XZ;omega
 have AQ:Hid (∀g,o=some g→g<w.heap.size):=yE fun g e=>by
  rw[←HO.out] at e;exact(YP h.ns.row (vH h.ns.row e)).2
 have AP:Hid (B≤w.heap.size):=yE (Nat.le_trans h.pB (zS AD));obtain⟨Fs,AC⟩:∃Fs,Hid (FsK B 100 (.slice R.A R.nh.length R.c) w.heap.size R.nh.length (ncs R.nh) (jL (⟨kind,r.s.hd.at_,[],0,[]⟩,(none,0)))=Fs):=⟨_,yE rfl⟩
 have hE:∀F ∈ Fs,∀v w w',F v w→Ext w w'→F v w':=by rw[←AC.out]; exact zF8 _ _ _ _ _ _ _
 have m0:(fun (_:Value) w=>zAB B 100 R.nh.length (ncs R.nh) (.slice R.A R.nh.length R.c) w) ∈ Fs:=by rw[←AC.out]; simp only[FsK,zR,true_or]
 have m1:zDq 100 w.heap.size (jL (⟨kind,r.s.hd.at_,[],0,[]⟩,(none,0))).toArray ∈ Fs:=by rw[←AC.out]; simp only[FsK,zR,true_or,or_true]
 have m2:zKt B 100 o w.heap.size (R.nh.length+1) (ncs R.nh++jL (⟨kind,r.s.hd.at_,[],0,[]⟩,(none,0))) ∈ Fs:=by rw[←AC.out,←HO.out]; simp only[FsK,zR,true_or,or_true]
 have AN:=yE hE;have M0:=yE m0;have M1:=yE m1;have M2:=yE m2;clear h AB hE m0 m1 m2
 go_enter Tryz.func74,Tryz.ntmps74
 go_upto_region 1 with fail
 apply zAO o Fs 22 (by kernel_rfl) (by kernel_rfl) (by kernel_rfl) AN.out;dsimp only[List.take_succ_cons,List.take_zero,List.drop_succ_cons,List.drop_zero];apply sG vK.refl (.pointer (some ⟨p,0,none⟩));apply sG vK.refl (.pointer (some ⟨p,0,none⟩));apply sG vK.refl (.pointer (some ⟨p,0,none⟩));apply sG vK.refl (.pointer (some ⟨p,3,none⟩));apply xN (.slice R.A R.nh.length R.c) rfl rfl rfl
 ·intro w' AA hH;have hR:=vK.refl (o:=o) (Fs:=Fs) w';have cc:=Blk.cell ((AA.1.block p AD AE.out).trans HP.out.blk) 3;clear hH AA;simp[xH,go_sem,cc];exact hR
 apply sG vK.refl (.int .u8 (kind:Int));apply sG vK.refl (.pointer (some ⟨p,0,none⟩));apply sG vK.refl (.pointer (some ⟨p,0,none⟩));apply sG vK.refl (.pointer (some ⟨p,0,none⟩));apply xN (.slice (some ⟨R.bt,R.o0,none⟩) (R.I+r.s.ts.length) R.ct) rfl rfl rfl
 ·intro w' AA hH;have hR:=vK.refl (o:=o) (Fs:=Fs) w';have cc:=Blk.cell ((AA.1.block p AD AE.out).trans HP.out.blk) 0;clear hH AA;simp[xH,go_sem,cc];exact hR
 apply sG vK.refl (.pointer (some ⟨p,0,none⟩));apply sG vK.refl (.pointer (some ⟨p,0,none⟩));apply sG vK.refl (.pointer (some ⟨p,1,none⟩));apply xN (.int .i64 (R.I:Int)) rfl rfl rfl
 ·intro w' AA hH;have hR:=vK.refl (o:=o) (Fs:=Fs) w';have cc:=Blk.cell ((AA.1.block p AD AE.out).trans HP.out.blk) 1;clear hH AA;simp[xH,go_sem,cc];exact hR
 apply xN (.pointer (some ⟨R.bt,R.o0+R.I*5,none⟩)) rfl rfl rfl
 ·intro w' AA hH;have hR:=vK.refl (o:=o) (Fs:=Fs) w';clear hH AA;simp[xH,go_sem,q0];exact hR
 apply sG vK.refl (.pointer (some ⟨R.bt,R.o0+R.I*5+1,none⟩));apply xN (.int .i64 (r.s.hd.at_:Int)) rfl rfl rfl
 ·intro w' AA hH;have hR:=vK.refl (o:=o) (Fs:=Fs) w';have cc:w'.cell? ⟨R.bt,R.o0+R.I*5+1,none⟩=some (.int .i64 (r.s.hd.at_:Int)):=(World.cell?_of_block (w:=w) (AA.1.block R.bt AU AV.out)).trans (HP.out.tok 1 (by decide));clear hH AA;simp[xH,go_sem,cc];exact hR
 apply sG vK.refl (.agg #[.int .u8 (kind:Int),.int .i64 (r.s.hd.at_:Int),.string ⟨#[]⟩,.int .i64 0,.slice none 0 0]);apply ZK (zDq 100 w.heap.size (jL (⟨kind,r.s.hd.at_,[],0,[]⟩,(none,0))).toArray) (fun v w w' h hx=>hx.2 _ M1.out v h) rfl rfl rfl
 ·intro w' AA hH;have hz:=AA.1.size;clear hH AA;simp[xH,go_sem];exact⟨⟨_,rfl,Blk.new _ _ _,hz⟩,vK.ext AN.out (Ext.alloc _ _)⟩
 intro AO;(try simp only[Act.put,yB,yC,yD]);apply ZK (zKt B 100 o w.heap.size (R.nh.length+1) (ncs R.nh++jL (⟨kind,r.s.hd.at_,[],0,[]⟩,(none,0)))) (fun v w w' h hx=>hx.2 _ M2.out v h) rfl rfl rfl
 ·intro w' AA hH;have AH:=hH _ (List.mem_cons_self ..) ⟨_,rfl,by decide⟩;have AI:=AA.2 _ M0.out undef HP.out.ns.zTD;have hz:=AA.1.size;clear hH AA;rw[←AC.out,←HO.out];exact zDc B w.heap.size (.tmp 9) (.tmp 23) 52 rfl 100 i0 _ 64 Tryz.underlying52 hi AT AW AR rfl (.slice R.A R.nh.length R.c) R.nh.length (ncs R.nh) (jL (⟨kind,r.s.hd.at_,[],0,[]⟩,(none,0))) (by kernel_rfl) AI AO (by kernel_rfl) AH rfl (zFp _) (by unfold maxLen; omega) (by omega) (Nat.le_trans AP.out hz) hz (fun g e=>AQ.out g (by rw[←HO.out]; exact e))
 intro Aa;apply sG vK.refl (.pointer (some ⟨p,0,none⟩));apply sG vK.refl (.pointer (some ⟨p,3,none⟩));apply ZQ;intro w2 AJ hH;have AF:=hH _ (List.mem_cons_self ..);clear hH;obtain⟨g,AS,rfl⟩:=AF.1.at;have AK:=AJ.1;rw[←HO.out] at AK;have AG:Blk w2 p 127 _:=(AJ.1.block p AD AE.out).trans HP.out.blk
 obtain⟨AM,AL⟩:=QK.snoc (w:=w) HP.out (Ext.refl w) ⟨kind,r.s.hd.at_,[],0,[]⟩ rfl AF.1.1 AK (by
  rcases AF.2 with e | ⟨g',e,Ac⟩
  ·left; rw[HO.out,←e]; rfl
  ·right; have:g=g':=by simpa [Value.ownBlock] using e
   omega)
 have y1:w2.cell? ⟨p,3,none⟩=some (.slice R.A R.nh.length R.c):=AG.cell 3;have z1:=AG.frozen 3;have HS:Hid (jO w p B R { r with s:=r.s.node kind } (w2.setCell ⟨p,3,none⟩ (.slice (some ⟨g,0,none⟩) (R.nh.length+1) AS))):=yE ⟨_,AM,AL⟩;clear AF AK AG AM AL AJ;(try simp only[Act.put,yB,yD,yC])
 go_wp2_with fail
 go_ret;rw[AX.out];exact⟨rfl,HS.out⟩
theorem zQu (w:World)(p B:Nat)(r:Rs)(R:vJ)(kind:Nat)(h:QS w p B r R)(hbig:r.s.nd.length≤2000000) :
  Calls Tryz.prog 74 #[.pointer (some ⟨p,0,none⟩),.int .u8 (kind:Int)] w fun e w'=>e=.returned (.int .i64 (r.s.nd.length:Int))∧jO w p B R { r with s:=r.s.node kind } w':=zPE w p B r R kind h.toK hbig
theorem QS.len {w:World}{p B:Nat}{r:Rs}{R:vJ}(h:QS w p B r R):r.s.nd.length=R.nh.length:=by rw[h.nodes,yO]
theorem QS.jP {w:World}{p B:Nat}{r:Rs}{R:vJ}(h:QS w p B r R)(i:Nat)(hi:i<R.nh.length){g:Nat}(hA:R.A=some ⟨g,0,none⟩)(j:Nat)(hj:j<5):w.cell? ⟨g,i*5+j,none⟩=(jL R.nh[i])[j]?:=by
 have hr:=h.ns.row;rw[hA] at hr;rw[hr.cellAt (i*5+j) (by omega)];exact zMt R.nh i hi j hj
theorem QS.JZ {w:World}{p B:Nat}{r:Rs}{R:vJ}(h:QS w p B r R)(k:Nat){g:Nat}(hA:R.A=some ⟨g,0,none⟩):w.frozen? ⟨g,k,none⟩=false:=by
 obtain⟨AA,hc⟩:=vZ h.ns.row hA;exact hc.frozen k
theorem QS.zKI {w:World}{p B:Nat}{r:Rs}{R:vJ}(h:QS w p B r R)(hn:0<R.nh.length):∃g,R.A=some ⟨g,0,none⟩:=by
 rcases zCJ h.ns.row with e | e
 ·have hr:=h.ns.row;rw[e] at hr
  rcases hr.2 with ⟨_,h0⟩ | ⟨g,_,_,hv,_⟩
  ·omega
  ·cases hv
 ·exact e
def zSM (w:World)(p B:Nat)(R:vJ)(r':Rs)(w':World):Prop:=∃R',QK w' p B r' R'∧yZ w (xI p R) w' (xI p R')
theorem QS.kid {W w1:World}{p B:Nat}{r:Rs}{R:vJ}(h:QS W p B r R)(i:Nat)(hi:i<R.nh.length){g gk cap:Nat}(hA:R.A=some ⟨g,0,none⟩)
  (ho:w1.ownsRow B 3 1 (.slice (some ⟨gk,0,none⟩) (R.nh[i].1.kids.length+1) cap) (R.nh[i].1.kids.length+1) (ints R.nh[i].1.kids++[Value.int .i64 (R.nh.length:Int)])) (hg:W.grownBy w1 (Value.slice R.nh[i].2.1 R.nh[i].1.kids.length R.nh[i].2.2).ownBlock)
  (hf:(Value.slice R.nh[i].2.1 R.nh[i].1.kids.length R.nh[i].2.2).ownBlock=some gk∨W.heap.size≤gk) :
  zSM W p B R { r with s:=r.s.kid i } (w1.setCell ⟨g,i*5+4,none⟩ (.slice (some ⟨gk,0,none⟩) (R.nh[i].1.kids.length+1) cap)):=by
 have AA:=h.len;have AF:=h.ns.kid (by decide) i hi R.nh.length hA ho hg hf
 have AE:(Value.slice R.nh[i].2.1 R.nh[i].1.kids.length R.nh[i].2.2).ownBlock≠some p:=fun e=>by
  obtain⟨AC,hc⟩:=vZ (h.ns.kids _ (yM hi)) (vH (h.ns.kids _ (yM hi)) e);exact Blk.differ h.blk hc (by decide) rfl
 have AD:p≠g:=fun e=>by
  obtain⟨AC,hc⟩:=vZ h.ns.row hA;rw[←e] at hc;exact Blk.differ h.blk hc (by decide) rfl
 have AL:=(YP h.ns.row hA).1;have AK:=(YP h.ns.row hA).2;have AG:(r.s.kid i).nd.length=r.s.nd.length:=zBC
 have AH:(r.s.kid i).nd=(R.nh.modify i fun x=>({ x.1 with kids:=x.1.kids++[R.nh.length] },(some ⟨gk,0,none⟩,cap))).map Prod.fst:=by
  rw[zCK Prod.fst _ (fun n:Nd=>{ n with kids:=n.kids++[R.nh.length] }) (fun x=>rfl),←h.nodes,←AA]
  rfl
 refine⟨{ R with nh:=R.nh.modify i fun x=>({ x.1 with kids:=x.1.kids++[R.nh.length] },(some ⟨gk,0,none⟩,cap)) },⟨?_,fun k hk=>?_,h.few,h.XZ,AH,AF,h.pB,h.yY.last,h.yY.deep,h.yY.live,?_⟩,?_⟩
 ·have AB:Blk w1 p 127 _:=(hg.block p h.blk.lt (fun e=>AE e.symm)).trans h.blk
  have:=AB.far (p:=⟨g,i*5+4,none⟩) AD (.slice (some ⟨gk,0,none⟩) (R.nh[i].1.kids.length+1) cap)
  show Blk _ p 127 #[.slice _ (R.I+r.s.ts.length) _,.int .i64 (R.I:Int),.int .i64 (r.s.deep:Int),.slice _ (R.nh.modify i _).length _,.int .i64 r.e]
  rw[List.length_modify];exact this
 ·have AM:=h.XZ;have AN:=h.pB;have AO:=h.blk.lt
  have AI:R.bt≠g:=by omega
  have e1:w1.heap[R.bt]?=W.heap[R.bt]?:=hg.block R.bt (by omega) fun e=>by
   have:=(YP (h.ns.kids _ (yM hi)) (vH (h.ns.kids _ (yM hi)) e.symm)).1
   omega
  have e2:=World.cell?_of_block (w:=W) (w':=w1.setCell ⟨g,i*5+4,none⟩ (.slice (some ⟨gk,0,none⟩) (R.nh[i].1.kids.length+1) cap)) (a:=⟨R.bt,R.o0+R.I*5+k,none⟩) ((zQ w1 ⟨g,i*5+4,none⟩ _ R.bt AI).trans e1);exact e2.trans (h.zBX k hk)
 ·show ∀n ∈ (r.s.kid i).nd,n.kids.length≤(r.s.kid i).nd.length+1
  rw[AG];refine zMl (r.s.nd.length+1) (fun n hn=>?_) (fun n hn=>Nat.le_succ_of_le (h.yY.few n hn))
  have:=h.yY.few n hn
  show(n.kids++[r.s.nd.length]).length≤_
  rw[yN]
  simp
  omega
 ·refine⟨hg.os,hg.tape,hg.output,by have:=hg.size; simp[World.setCell]; omega,fun b hb hM=>?_,fun b hb=>?_⟩
  ·have AJ:b≠g:=fun e=>hM (.inr (.inl (by rw[e]; exact hA)));rw[zQ w1 ⟨g,i*5+4,none⟩ _ b AJ];exact hg.block b hb fun e=>hM (.inr (.inr (List.mem_map.2 ⟨_,yM hi,vH (h.ns.kids _ (yM hi)) e.symm⟩)))
  ·rcases hb with hb | hb
   ·exact .inl (.inl hb)
   ·rcases zMI h.ns hi (fun n=>{ n with kids:=n.kids++[R.nh.length] }) hf b hb with h1 | h1
    ·exact .inl (.inr h1)
    ·exact .inr h1
theorem jK (w:World)(p B:Nat)(r:Rs)(R:vJ)(i:Nat)(h:QS w p B r R)(hi:i<r.s.nd.length)(hbig:r.s.nd.length≤2000000) :
  Calls Tryz.prog 122 #[.pointer (some ⟨p,0,none⟩),.int .i64 (i:Int)] w fun e w'=>e=.returned (.tuple #[])∧zSM w p B R { r with s:=r.s.kid i } w':=by
 obtain⟨i0,AV,Ae,Aa,AX⟩:=info_parts zE3;have AC:=h.len
 have AE:i<R.nh.length:=by omega
 obtain⟨g,hA⟩:=h.zKI (by omega);obtain⟨x,AI⟩:∃x,R.nh[i]=x:=⟨_,rfl⟩;obtain⟨⟨nk,np,nt,nn,kk⟩,kA,kc⟩:=x
 have c4:w.cell? ⟨g,i*5+4,none⟩=some (.slice kA kk.length kc):=by rw[h.jP i AE hA 4 (by decide),AI]; rfl
 have AG:=h.ns.zUe _ (yM AE);have AB:=h.ns.kids _ (yM AE);rw[AI] at AG AB
 simp only at AG AB
 obtain⟨o,HO⟩:∃o,Hid ((Value.slice kA kk.length kc).ownBlock=o):=⟨_,yE rfl⟩
 have AN:Hid (some p≠o):=yE fun e=>by
  rw[←HO.out] at e;obtain⟨AY,hc⟩:=vZ AB (vH AB e.symm);exact Blk.differ h.blk hc (by decide) rfl
 have AS:Hid (some g≠o):=yE fun e=>by
  rw[←HO.out] at e;obtain⟨AY,hc⟩:=vZ AB (vH AB e.symm);obtain⟨Ad,AZ⟩:=vZ h.ns.row hA;exact Blk.differ AZ hc (by decide) rfl
 have AW:Hid (∀g,o=some g→g<w.heap.size):=yE fun g e=>by
  rw[←HO.out] at e;exact(YP AB (vH AB e)).2
 have AR:=(YP h.ns.row hA).2;have AH:=h.blk.lt;have Ac:Hid (B≤w.heap.size):=yE (Nat.le_trans h.pB (zS AH));have AD:=yE AI;have HP:=yE h;have HA:=yE hA;have AU:=yE AG;have Ag:=yE AC
 have AQ:Hid (kk.length≤2000000):=yE (by
  have:=h.yY.few (R.nh[i].1) (by rw[h.nodes]; exact List.mem_map.2 ⟨_,yM AE,rfl⟩)
  rw[AD.out] at this
  simp only at this
  omega)
 rw[AC] at hbig;obtain⟨Fs,AF⟩:∃Fs,Hid (FsH B 3 (.slice kA kk.length kc) w.heap.size kk.length (ints kk) [Value.int .i64 (R.nh.length:Int)]=Fs):=⟨_,yE rfl⟩
 have hE:∀F ∈ Fs,∀v w w',F v w→Ext w w'→F v w':=by rw[←AF.out]; exact zI8 _ _ _ _ _ _ _
 have m0:(fun (_:Value) w=>zAK B 3 kk.length (ints kk) (.slice kA kk.length kc) w) ∈ Fs:=by rw[←AF.out]; simp only[FsH,zR,true_or]
 have m1:zDq 3 w.heap.size #[Value.int .i64 (R.nh.length:Int)] ∈ Fs:=by rw[←AF.out]; simp only[FsH,zR,true_or,or_true]
 have m2:zNv B 3 o w.heap.size (kk.length+1) (ints kk++[Value.int .i64 (R.nh.length:Int)]) ∈ Fs:=by rw[←AF.out,←HO.out]; simp only[FsH,zR,true_or,or_true]
 have AT:=yE hE;have M0:=yE m0;have M1:=yE m1;have M2:=yE m2
 have q0:(i:Int)<(R.nh.length:Int):=by omega
 have C4:=yE c4;clear h AC hE m0 m1 m2 AI AG AB hA c4 hi
 go_enter Tryz.func122,Tryz.ntmps122
 go_upto_region 1 with fail
 apply zAO o Fs 22 (by kernel_rfl) (by kernel_rfl) (by kernel_rfl) AT.out;dsimp only[List.take_succ_cons,List.take_zero,List.drop_succ_cons,List.drop_zero];apply sG vK.refl (.pointer (some ⟨p,0,none⟩));apply sG vK.refl (.pointer (some ⟨p,0,none⟩));apply sG vK.refl (.pointer (some ⟨p,3,none⟩));apply xN (.slice (some ⟨g,0,none⟩) R.nh.length R.c) rfl rfl rfl
 ·intro w' AA hH;have hR:=vK.refl (o:=o) (Fs:=Fs) w';have cc:=Blk.cell ((AA.1.block p AH AN.out).trans HP.out.blk) 3;rw[HA.out] at cc;clear hH AA;simp[xH,go_sem,cc,q0];exact hR
 apply sG vK.refl (.int .i64 (i:Int));apply sG vK.refl (.pointer (some ⟨p,0,none⟩));apply sG vK.refl (.pointer (some ⟨p,0,none⟩));apply sG vK.refl (.pointer (some ⟨p,3,none⟩));apply xN (.slice (some ⟨g,0,none⟩) R.nh.length R.c) rfl rfl rfl
 ·intro w' AA hH;have hR:=vK.refl (o:=o) (Fs:=Fs) w';have cc:=Blk.cell ((AA.1.block p AH AN.out).trans HP.out.blk) 3;rw[HA.out] at cc;clear hH AA;simp[xH,go_sem,cc,q0];exact hR
 apply sG vK.refl (.int .i64 (i:Int));apply xN (.pointer (some ⟨g,i*5,none⟩)) rfl rfl rfl
 ·intro w' AA hH;clear hH AA;simp[xH,go_sem,q0];exact vK.refl _
 apply xN (.pointer (some ⟨g,i*5+4,none⟩)) rfl rfl rfl
 ·intro w' AA hH;clear hH AA;simp[xH,go_sem,q0];exact vK.refl _
 (try simp only[Act.put,yB,yC,yD]);apply xN (.slice kA kk.length kc) rfl rfl rfl
 ·intro w' AA hH;have hR:=vK.refl (o:=o) (Fs:=Fs) w';have cc:=(World.cell?_of_block (w:=w) (a:=⟨g,i*5+4,none⟩) (AA.1.block g AR AS.out)).trans C4.out;clear hH AA;simp[xH,go_sem,cc,q0];exact hR
 apply sG vK.refl (.pointer (some ⟨p,0,none⟩));apply sG vK.refl (.pointer (some ⟨p,0,none⟩));apply sG vK.refl (.pointer (some ⟨p,3,none⟩));apply xN (.slice (some ⟨g,0,none⟩) R.nh.length R.c) rfl rfl rfl
 ·intro w' AA hH;have hR:=vK.refl (o:=o) (Fs:=Fs) w';have cc:=Blk.cell ((AA.1.block p AH AN.out).trans HP.out.blk) 3;rw[HA.out] at cc;clear hH AA;simp[xH,go_sem,cc,q0];exact hR
 (try simp only[Act.put,yB,yC,yD]);apply sG vK.refl (.int .i64 (R.nh.length:Int))
 apply ZK (zDq 3 w.heap.size #[Value.int .i64 (R.nh.length:Int)]) (fun v w w' h hx=>hx.2 _ M1.out v h) rfl rfl rfl
 ·intro w' AA hH;have hz:=AA.1.size;clear hH AA;simp[xH,go_sem];exact⟨⟨_,rfl,Blk.new _ _ _,hz⟩,vK.ext AT.out (Ext.alloc _ _)⟩
 intro Ab;(try simp only[Act.put,yB,yC,yD]);apply ZK (zNv B 3 o w.heap.size (kk.length+1) (ints kk++[Value.int .i64 (R.nh.length:Int)])) (fun v w w' h hx=>hx.2 _ M2.out v h) rfl rfl rfl
 ·intro w' AA hH;have AL:=hH _ (List.mem_cons_self ..) ⟨_,rfl,by decide⟩;have AO:=AA.2 _ M0.out undef AU.out;have hz:=AA.1.size;clear hH AA;rw[←AF.out,←HO.out];exact zED B w.heap.size (.tmp 16) (.tmp 22) 32 rfl 3 i0 _ 8 Tryz.underlying32 AV Ae Aa AX rfl (.slice kA kk.length kc) kk.length (ints kk) [Value.int .i64 (R.nh.length:Int)] (by kernel_rfl) AO Ab (by kernel_rfl) AL rfl (by simp[Value.oneCell']) (by unfold maxLen; have:=AQ.out; omega) (by have:=AQ.out; omega) (Nat.le_trans Ac.out hz) hz (fun g e=>AW.out g (by rw[←HO.out]; exact e))
 intro Af;(try simp only[Act.put,yB,yC,yD]);apply xN (.pointer (some ⟨g,i*5,none⟩)) rfl rfl rfl
 ·intro w' AA hH;clear hH AA;simp[xH,go_sem,q0];exact vK.refl _
 apply xN (.pointer (some ⟨g,i*5+4,none⟩)) rfl rfl rfl
 ·intro w' AA hH;clear hH AA;simp[xH,go_sem,q0];exact vK.refl _
 apply ZQ;intro w2 AM hH;have AJ:=hH _ (List.mem_cons_self ..);clear hH;obtain⟨gk,cap,rfl⟩:=AJ.1.at;have AP:=AM.1;have AK:=AM.1.block g AR AS.out;rw[←HO.out] at AP
 have HS:Hid (zSM w p B R { r with s:=r.s.kid i } (w2.setCell ⟨g,i*5+4,none⟩ (.slice (some ⟨gk,0,none⟩) (kk.length+1) cap))):=yE (by
  have hh:=QS.kid (gk:=gk) (cap:=cap) HP.out i AE HA.out (w1:=w2) (by rw[AD.out]; exact AJ.1.1) (by rw[AD.out]; exact AP) (by
   rw[AD.out]
   rcases AJ.2 with e | ⟨g',e,Ah⟩
   ·left; rw[HO.out,←e]; rfl
   ·right; have:gk=g':=by simpa [Value.ownBlock] using e
    omega)
  rw[AD.out] at hh
  exact hh)
 have y1:w2.cell? ⟨g,i*5+4,none⟩=some (.slice kA kk.length kc):=(World.cell?_of_block (w:=w) (a:=⟨g,i*5+4,none⟩) AK).trans C4.out;have z1:w2.frozen? ⟨g,i*5+4,none⟩=false:=(World.frozen?_of_block (w:=w) (a:=⟨g,i*5+4,none⟩) AK).trans (HP.out.JZ _ HA.out);clear AJ AP AK AM;(try simp only[Act.put,yB,yC,yD])
 go_wp2_with fail
 go_end0;exact⟨rfl,HS.out⟩
structure xG (w:World)(p B:Nat)(R:vJ)(r:Rs)(w':World)(R':vJ)(r':Rs)(c:Int):Prop where
 qs:QS w' p B r' R'
 mv:yZ w (xI p R) w' (xI p R')
 lt:xK c r r'
theorem xG.refl {w:World}{p B:Nat}{R:vJ}{r:Rs}(h:QS w p B r R):xG w p B R r w R r 0:=⟨h,yZ.refl _ _,xK.refl h.yY⟩
theorem xG.bound {w w':World}{p B:Nat}{R R':vJ}{r r':Rs}{c n m:Int}(h:xG w p B R r w' R' r' c)(hb:r.phi≤n)(hm:n+c≤m):r'.phi≤m:=by have:=h.lt.phi; omega
theorem JU {r:Rs}(h:r.phi≤1900000):r.s.nd.length≤2000000:=by unfold Rs.phi at h; omega
theorem xG.idx {w w':World}{p B:Nat}{R R':vJ}{r r':Rs}{c:Int}(h:xG w p B R r w' R' r' c){i:Nat}(hi:i<r.s.nd.length):i<r'.s.nd.length:=yS hi h.lt.nd
theorem xG.post {w w':World}{p B:Nat}{R R':vJ}{r r':Rs}{c:Int}(h:xG w p B R r w' R' r' c):jO w p B R r' w':=⟨R',h.qs,h.mv⟩
theorem xG.drew {w w':World}{p B:Nat}{R R':vJ}{r r':Rs}{c:Int}(h:Hid (xG w p B R r w' R' r' c))(n:Nat):Hid (xG w p B R r (w'.drewN n) R' r' c):=yE ⟨h.out.qs.drewN n,h.out.mv.trans (xU n),h.out.lt⟩
theorem xG.go {w w1 w2:World}{p B:Nat}{R R1:vJ}{r r1:Rs}{c d:Int}{M:Rs→Rs}(h:Hid (xG w p B R r w1 R1 r1 c))(hM:XP d M)(hp:jO w1 p B R1 (M r1) w2):∃R2,Hid (xG w p B R r w2 R2 (M r1) (c+d)):=
 let ⟨R2,a,b⟩:=hp; ⟨R2,yE ⟨a,h.out.mv.trans b,h.out.lt.trans (hM r1 h.out.qs.yY)⟩⟩
theorem xG.goL {w w1 w2:World}{p B:Nat}{R R1:vJ}{r r1 r2:Rs}{c d:Int}(h:Hid (xG w p B R r w1 R1 r1 c))(hM:xK d r1 r2)(hp:jO w1 p B R1 r2 w2):∃R2,Hid (xG w p B R r w2 R2 r2 (c+d)):=
 let ⟨R2,a,b⟩:=hp; ⟨R2,yE ⟨a,h.out.mv.trans b,h.out.lt.trans hM⟩⟩
theorem xG.le {w w1:World}{p B:Nat}{R R1:vJ}{r r1:Rs}{c d:Int}(h:Hid (xG w p B R r w1 R1 r1 c))(hd:c≤d):Hid (xG w p B R r w1 R1 r1 d):=yE ⟨h.out.qs,h.out.mv,h.out.lt.le hd⟩
theorem xG.adv {w w1:World}{p B:Nat}{R R1:vJ}{r r1:Rs}{c:Int}(h:Hid (xG w p B R r w1 R1 r1 c))(hk:r1.s.hd.kind≠4):Hid (xG w p B R r (w1.setCell ⟨p,1,none⟩ (.int .i64 ((R1.I:Int)+1))) { R1 with I:=R1.I+1 } r1.adv (c + -16)):=
 yE ⟨h.out.qs.zOW hk,h.out.mv.trans (yZ.set (.inl rfl)),h.out.lt.trans (jI h.out.qs.yY hk)⟩
theorem xG.out {w w1:World}{p B:Nat}{R R1:vJ}{r r1:Rs}{c:Int}(h:Hid (xG w p B R r w1 R1 r1 c)){v:Value}(hv:v=.int .i64 ((r1.out.s.deep:Nat):Int)):Hid (xG w p B R r (w1.setCell ⟨p,2,none⟩ v) R1 r1.out (c+0)):=by
 subst hv;exact yE ⟨h.out.qs.zTZ (r1.s.deep-1) (zEZ h.out.qs.yY).yY,h.out.mv.trans (yZ.set (.inl rfl)),h.out.lt.trans (zEZ h.out.qs.yY)⟩
theorem xG.yX {w w1 w2 w3:World}{p B:Nat}{R R1 R2:vJ}{r r1:Rs}{c:Int}{i k:Nat}(h:Hid (xG w p B R r w1 R1 r1 c))(h2:Hid (QK w2 p B { r1 with s:=r1.s.kid i } R2∧yZ w1 (xI p R1) w2 (xI p R2)))(h3:jO w2 p B R2 { r1 with s:=(r1.s.kid i).node k } w3):∃R3,Hid (xG w p B R r w3 R3 (r1.yX i k) (c+1)):=
 let ⟨R3,a,b⟩:=h3; ⟨R3,yE ⟨a,(h.out.mv.trans h2.out.2).trans b,h.out.lt.trans (ZG h.out.qs.yY i k)⟩⟩
theorem zPg {s:Ps}{i:Nat}:(s.kid i).nd.length=s.nd.length:=zBC
theorem QS.put {w:World}{p B:Nat}{r:Rs}{R:vJ}(h:QS w p B r R)(i:Nat)(hi:i<R.nh.length)(j:Nat)(hj:j<5)(u:Value)(f:Nd→Nd)(hk:∀x,(f x).kids=x.kids)(hf:jL (f R.nh[i].1,R.nh[i].2)=(jL R.nh[i]).set j u){g:Nat}(hA:R.A=some ⟨g,0,none⟩) :
  jO w p B R { r with s:=r.s.on i f } (w.setCell ⟨g,i*5+j,none⟩ u):=by
 have AC:=h.ns.put (by decide) i hi j hj u f hk hf hA
 have AA:p≠g:=fun e=>by
  obtain⟨AE,hc⟩:=vZ h.ns.row hA;rw[←e] at hc;exact Blk.differ h.blk hc (by decide) rfl
 have AD:=(YP h.ns.row hA).1;refine⟨{ R with nh:=R.nh.modify i fun x=>(f x.1,x.2) },⟨?_,fun k hk=>?_,h.few,h.XZ,?_,AC,h.pB,(zJ8 h.yY i f hk).yY⟩,?_⟩
 ·have:=h.blk.far (p:=⟨g,i*5+j,none⟩) AA u
  show Blk _ p 127 #[.slice _ (R.I+r.s.ts.length) _,.int .i64 (R.I:Int),.int .i64 (r.s.deep:Int),.slice _ (R.nh.modify i _).length _,.int .i64 r.e]
  rw[List.length_modify];exact this
 ·have AF:=h.XZ
  have AB:R.bt≠g:=by omega
  have e2:=World.cell?_of_block (w:=w) (w':=w.setCell ⟨g,i*5+j,none⟩ u) (a:=⟨R.bt,R.o0+R.I*5+k,none⟩) (zQ w ⟨g,i*5+j,none⟩ _ R.bt AB);exact e2.trans (h.zBX k hk)
 ·show r.s.nd.modify i f=_
  rw[zCK Prod.fst _ f (fun x=>rfl),←h.nodes]
 ·refine⟨rfl,rfl,rfl,by simp[World.setCell],fun b hb hM=>zQ w ⟨g,i*5+j,none⟩ _ b (fun e=>hM (.inr (.inl (by rw[e]; exact hA)))),fun b hb=>?_⟩
  rcases hb with hb | hb
  ·exact .inl (.inl hb)
  ·exact .inl (.inr (zMQ i f b hb))
theorem QS.YC {w:World}{p B:Nat}{r:Rs}{R:vJ}(h:QS w p B r R){i:Nat}(hi:i<r.s.nd.length):∃g,∃AA:i<R.nh.length,R.A=some ⟨g,0,none⟩∧g<w.heap.size∧g≠p:=by
 have AB:=h.len
 have AA:i<R.nh.length:=by omega
 obtain⟨g,hA⟩:=h.zKI (by omega);refine⟨g,AA,hA,(YP h.ns.row hA).2,fun e=>?_⟩;obtain⟨AC,hc⟩:=vZ h.ns.row hA;rw[e] at hc;exact Blk.differ h.blk hc (by decide) rfl
theorem QS.x0 {w:World}{p B:Nat}{r:Rs}{R:vJ}(h:QS w p B r R):w.cell? ⟨p,0,none⟩=some (.slice (some ⟨R.bt,R.o0,none⟩) (R.I+r.s.ts.length) R.ct):=h.blk.cell 0
theorem QS.x1 {w:World}{p B:Nat}{r:Rs}{R:vJ}(h:QS w p B r R):w.cell? ⟨p,1,none⟩=some (.int .i64 (R.I:Int)):=h.blk.cell 1
theorem QS.x2 {w:World}{p B:Nat}{r:Rs}{R:vJ}(h:QS w p B r R):w.cell? ⟨p,2,none⟩=some (.int .i64 (r.s.deep:Int)):=h.blk.cell 2
theorem QS.x3 {w:World}{p B:Nat}{r:Rs}{R:vJ}(h:QS w p B r R){g:Nat}(hA:R.A=some ⟨g,0,none⟩):w.cell? ⟨p,3,none⟩=some (.slice (some ⟨g,0,none⟩) R.nh.length R.c):=by rw[←hA]; exact h.blk.cell 3
theorem QS.x4 {w:World}{p B:Nat}{r:Rs}{R:vJ}(h:QS w p B r R):w.cell? ⟨p,4,none⟩=some (.int .i64 r.e):=h.blk.cell 4
theorem QS.pos {w:World}{p B:Nat}{r:Rs}{R:vJ}(h:QS w p B r R):(R.I:Int)<(R.I:Int)+(r.s.ts.length:Int):=by have:=h.yY.last.pos; omega
theorem xG.named {w w1 w2:World}{p B:Nat}{R R1 R2:vJ}{r r1:Rs}{c:Int}{i:Nat}{g:Nat}(h:Hid (xG w p B R r w1 R1 r1 c))(h2:QS w2 p B (zDD r1) R2)(hm:yZ w1 (xI p R1) w2 (xI p R2))(hi:i<R2.nh.length)(hA:R2.A=some ⟨g,0,none⟩) :
  ∃R3,Hid (xG w p B R r (w2.setCell ⟨g,i*5+2,none⟩ (.string (xE r1.zAz))) R3 (xM i r1) (c+0)):=
 let ⟨R3,a,b⟩:=h2.put i hi 2 (by decide) (.string (xE r1.zAz)) (fun n=>{ n with text:=r1.zAz }) (fun _=>rfl) rfl hA
 ⟨R3,yE ⟨a,(h.out.mv.trans hm).trans b,h.out.lt.trans (jY i r1 h.out.qs.yY)⟩⟩
theorem xG.num {w w1:World}{p B:Nat}{R R1:vJ}{r r1:Rs}{c:Int}{i:Nat}{g:Nat}(h:Hid (xG w p B R r w1 R1 r1 c))(x:Int)(hi:i<R1.nh.length)(hA:R1.A=some ⟨g,0,none⟩) :
  ∃R3,Hid (xG w p B R r (w1.setCell ⟨g,i*5+3,none⟩ (.int .i64 x)) R3 (r1.num i x) (c+0)):=
 let ⟨R3,a,b⟩:=h.out.qs.put i hi 3 (by decide) (.int .i64 x) (fun n=>{ n with num:=x }) (fun _=>rfl) rfl hA
 ⟨R3,yE ⟨a,h.out.mv.trans b,h.out.lt.trans (zD8 i x r1 h.out.qs.yY)⟩⟩
theorem xG.kind {w w1:World}{p B:Nat}{R R1:vJ}{r r1:Rs}{c:Int}{i:Nat}{g:Nat}(h:Hid (xG w p B R r w1 R1 r1 c))(k:Nat)(hi:i<R1.nh.length)(hA:R1.A=some ⟨g,0,none⟩) :
  ∃R3,Hid (xG w p B R r (w1.setCell ⟨g,i*5,none⟩ (.int .u8 (k:Int))) R3 (r1.kind i k) (c+0)):=
 let ⟨R3,a,b⟩:=h.out.qs.put i hi 0 (by decide) (.int .u8 (k:Int)) (fun n=>{ n with kind:=k }) (fun _=>rfl) rfl hA
 ⟨R3,yE ⟨a,h.out.mv.trans b,h.out.lt.trans (zJ8 h.out.qs.yY i _ fun _=>rfl)⟩⟩
theorem QS.ext {w w':World}{p B:Nat}{r:Rs}{R:vJ}(h:QS w p B r R)(hx:Ext w w'):QS w' p B r R:=by
 have AB:=h.blk.lt;have AA:=h.pB;have AC:=h.XZ;exact⟨h.blk.ext hx,fun k hk=>(hx.cell (p:=⟨R.bt,R.o0+R.I*5+k,none⟩) (by show R.bt<_; omega)).trans (h.zBX k hk),h.few,h.XZ,h.nodes,h.ns.ext hx,h.pB,h.yY⟩
theorem jA (w:World)(p B:Nat)(r:Rs)(R:vJ)(i kind:Nat)(h:QK w p B { r with s:=r.s.kid i } R)(hb:r.phi≤1900000) :
  Calls Tryz.prog 74 #[.pointer (some ⟨p,0,none⟩),.int .u8 (kind:Int)] w fun e w'=>e=.returned (.int .i64 (r.s.nd.length:Int))∧jO w p B R { r with s:=(r.s.kid i).node kind } w':=by
 have hl:(r.s.kid i).nd.length=r.s.nd.length:=zPg;refine(zPE w p B _ R kind h (by show(r.s.kid i).nd.length≤_; rw[hl]; exact JU hb)).mono ?_;rintro e w' ⟨h1,h2⟩;refine⟨?_,h2⟩;rw[h1]
 show Ending.returned (.int .i64 ((r.s.kid i).nd.length:Int))=_
 rw[hl]
end Go.Proofs.YtioffpjajhalaaaGreatDoor
