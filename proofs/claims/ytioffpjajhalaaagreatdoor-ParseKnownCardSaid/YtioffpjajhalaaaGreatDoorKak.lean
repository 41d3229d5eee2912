/- The program's named, marked, number's maker. (and what follows of it). The conditions stand at each lemma. -/
import Derived.Test.YtioffpjajhalaaaGreatDoorKaa
import Derived.Test.YtioffpjajhalaaaGreatDoorKaj
import Derived.Deep.RegionHeld3
import Derived.Deep.Cut
set_option linter.unusedVariables false
set_option linter.unusedSimpArgs false
set_option maxRecDepth 100000
set_option maxHeartbeats 16000000
namespace Go.Proofs.YtioffpjajhalaaaGreatDoor
open Go Go.RowKit
theorem PS.put {w:World}{p B:Nat}{s:Ps}{R:vC}(h:PS w p B s R)(i:Nat)(hi:i<R.nh.length)(j:Nat)(hj:j<5)(u:Value)(f:Nd→Nd)(hk:∀x,(f x).kids=x.kids)(hf:jL (f R.nh[i].1,R.nh[i].2)=(jL R.nh[i]).set j u){g:Nat}(hA:R.A=some ⟨g,0,none⟩) :
  OkP w p B R (s.on i f) (w.setCell ⟨g,i*5+j,none⟩ u):=by
 have AC:=h.ns.put (by decide) i hi j hj u f hk hf hA
 have AA:p≠g:=fun e=>by
  obtain⟨AE,hc⟩:=vZ h.ns.row hA;rw[←e] at hc;exact Blk.differ h.blk hc (by decide) rfl
 have AD:=(YP h.ns.row hA).1;refine⟨{ R with nh:=R.nh.modify i fun x=>(f x.1,x.2) },⟨?_,fun k hk=>?_,h.zJ3,h.XZ,?_,AC,h.pB,⟨h.yY.last,h.yY.deep⟩⟩,?_⟩
 ·have:=h.blk.far (p:=⟨g,i*5+j,none⟩) AA u
  show Blk _ p 75 #[.slice _ s.ts.length _,.slice _ (R.nh.modify i _).length _,.int .i64 (s.deep:Int)]
  rw[List.length_modify];exact this
 ·have AF:=h.XZ
  have AB:R.bt≠g:=by omega
  have e2:=World.cell?_of_block (w:=w) (w':=w.setCell ⟨g,i*5+j,none⟩ u) (a:=⟨R.bt,R.ot+k,none⟩) (zQ w ⟨g,i*5+j,none⟩ _ R.bt AB);exact e2.trans (h.zBX k hk)
 ·show s.nd.modify i f=_
  rw[zCK Prod.fst _ f (fun x=>rfl),←h.nodes]
 ·refine⟨rfl,rfl,rfl,by simp[World.setCell],fun b hb hM=>zQ w ⟨g,i*5+j,none⟩ _ b (fun e=>hM (.inr (.inl (by rw[e]; exact hA)))),fun b hb=>?_⟩
  rcases hb with hb | hb
  ·exact .inl (.inl hb)
  ·exact .inl (.inr (zMQ i f b hb))
theorem PS.YC {w:World}{p B:Nat}{s:Ps}{R:vC}(h:PS w p B s R){i:Nat}(hi:i<s.nd.length):∃g,∃AA:i<R.nh.length,R.A=some ⟨g,0,none⟩∧g<w.heap.size∧g≠p:=by
 have AB:=h.len
 have AA:i<R.nh.length:=by omega
 obtain⟨g,hA⟩:=h.zKI (by omega);refine⟨g,AA,hA,(YP h.ns.row hA).2,fun e=>?_⟩;obtain⟨AC,hc⟩:=vZ h.ns.row hA;rw[e] at hc;exact Blk.differ h.blk hc (by decide) rfl
theorem PS.x1' {w:World}{p B:Nat}{s:Ps}{R:vC}(h:PS w p B s R){g:Nat}(hA:R.A=some ⟨g,0,none⟩):w.cell? ⟨p,1,none⟩=some (.slice (some ⟨g,0,none⟩) R.nh.length R.c):=by rw[←hA]; exact h.x1
theorem zHH {P:Program}{id:Nat}{Q':Exit→Act→World→Prop}{a:Act}{w:World}{l:List Oper}{ks:List Take}(X:List PanicEntry→World→Prop)(hm:P.follows .mixedOrders=true)(hB:zAr l.toArray l.length=true)(hT:zDE l.toArray l.length=true)
  (hX:∀a',a'.defers=a.defers→∀c w,X c w→Q' (.panic c) a' w) (h:zBn X P l.toArray Ext w (fun a' w'=>Q' .normal a' w') l ks a []):(Code.region id l.toArray true).wp P Q' a w:=by
 refine zHo (R:=Ext) l.length ks hm hB hT (fun _ _ _=>Ext.trans) (Below.drew (Below.refl _ _)) hX ?_;rw[List.take_length,List.drop_length];exact h
theorem zDd (w:World)(p B:Nat)(s:Ps)(R:vC)(i:Nat)(h:PS w p B s R)(hi:i<s.nd.length) :
  Calls Tryz.prog 134 #[.pointer (some ⟨p,0,none⟩),.int .i64 (i:Int)] w (xQ w p B R (.ok () (s.num i 1))):=by
 obtain⟨g,AA,hA,AB,AC⟩:=h.YC hi;have c3:∃v,w.cell? ⟨g,i*5+3,none⟩=some (.int .i64 v):=⟨_,by rw[h.jP i AA hA 3 (by decide)]; rfl⟩;obtain⟨v,c3⟩:=c3;have z3:=h.JZ (i*5+3) hA;have x1:=h.x1' hA;have HF:Hid (OkP w p B R (s.num i 1) (w.setCell ⟨g,i*5+3,none⟩ (.int .i64 1))):=yE (h.put i AA 3 (by decide) _ (fun n=>{ n with num:=1 }) (fun _=>rfl) rfl hA)
 have q0:(i:Int)<(R.nh.length:Int):=by omega
 clear h hA hi
 go_enter Tryz.func134,Tryz.ntmps134
 go_wp2
 go_end0;exact xQ.ok HF.out
theorem VR (w:World)(p B:Nat)(s:Ps)(R:vC)(i:Nat)(h:PS w p B s R)(hi:i<s.nd.length) :
  Calls Tryz.prog 129 #[.pointer (some ⟨p,0,none⟩),.int .i64 (i:Int)] w (xQ w p B R (jC i s)):=by
 obtain⟨g,AB,hA,AG,AC⟩:=h.YC hi;have x1:=h.x1' hA;have q0:(0:Int)≤(i:Int):=Int.natCast_nonneg _
 have q1:(i:Int)<(R.nh.length:Int):=by omega
 have HP:=yE h;have HA:=yE hA;have AF:=zAx;have AE:=h.blk.lt;clear h hA hi
 by_cases hk:s.hd.kind=1
 ·have HK:=yE hk;have HN:Hid (jC i s=.ok () (s.adv.text i s.hd.text)):=yE (by unfold jC ofP; rw[if_pos hk]; rfl);clear hk
  go_enter Tryz.func129,Tryz.ntmps129
  go_wp2_with fail
  go_region_held3 (fun w'=>w'.cell? ⟨p,1,none⟩=some (.slice (some ⟨g,0,none⟩) R.nh.length R.c))
   (first
    | assumption
    | go_keep
    | exact AD _)
   (first
    | (go_at_call 161; refine(zI1 _ p B s R 1 HK (by decide) (HP.out.ext (by first | exact Ext.refl _ | exact Below.drew (Below.refl _ _)))).mono ?_; rintro e w1 ⟨rfl,ho⟩; simp only[xS]; have y1:=ho.1.x1' HA.out; have HO:=yE ho; have c2:w1.cell? ⟨g,i*5+2,none⟩=some (.string (xE R.nh[i].1.text)):=(ho.1.jP i AB HA.out 2 (by decide)); have z2:=ho.1.JZ (i*5+2) HA.out; have AD:∀u,(w1.setCell ⟨g,i*5+2,none⟩ u).cell? ⟨p,1,none⟩=some (.slice (some ⟨g,0,none⟩) R.nh.length R.c):=fun u=>(World.cell?_of_block (w:=w1) (a:=⟨p,1,none⟩) (zQ w1 ⟨g,i*5+2,none⟩ u p (fun e=>AC e.symm))).trans y1; clear ho)
    | (fail))
  have HF:Hid (OkP w p B R (s.adv.text i s.hd.text) (w1.setCell ⟨g,i*5+2,none⟩ (.string (xE s.hd.text)))):=yE (OkP.trans ((yZ.ext (Below.drew (Below.refl _ _))).trans HO.out.2) (HO.out.1.put i AB 2 (by decide) _ (fun n=>{ n with text:=s.hd.text }) (fun _=>rfl) rfl HA.out))
  go_wp2_with fail
  go_end0;rw[HN.out];exact xQ.ok HF.out
 ·have HK:Hid (s.hd.kind≠1):=yE hk;have HN:Hid (jC i s=.err 50 s.hd.at_):=yE (by unfold jC ofP; rw[if_neg hk]; rfl);clear hk
  go_enter Tryz.func129,Tryz.ntmps129
  go_wp2_with fail
  have HX:Hid (∀w',Ext w w'→∀e w2,zAa w' p B R 50 s.hd.at_ e w2→xQ w p B R (jC i s) e w2):=yE fun w' hx e w2 he=>by rw[HN.out]; exact zAa.trans (yZ.ext hx) he
  apply zHH (fun c w2=>xQ w p B R (jC i s) (.panicked c) w2) (by kernel_rfl) (by kernel_rfl) (by kernel_rfl) (fun a' ha c w2 hx=>⟨ha,hx⟩);apply YR (.pointer (some ⟨p,0,none⟩)) rfl rfl rfl
  ·intro w' AA hH;clear hH AA;simp[jX,go_sem];exact Ext.refl _
  apply YR (.pointer (some ⟨p,0,none⟩)) rfl rfl rfl
  ·intro w' AA hH;clear hH AA;simp[jX,go_sem];exact Ext.refl _
  apply YR (.pointer (some ⟨p,1,none⟩)) rfl rfl rfl
  ·intro w' AA hH;clear hH AA;simp[jX,go_sem];exact Ext.refl _
  apply YR (.slice (some ⟨g,0,none⟩) R.nh.length R.c) rfl rfl rfl
  ·intro w' AA hH;have cc:=(AA.cell (p:=⟨p,1,none⟩) AE).trans x1;clear hH AA;simp[jX,go_sem,cc];exact Ext.refl _
  apply YR (.int .i64 (i:Int)) rfl rfl rfl
  ·intro w' AA hH;clear hH AA;simp[jX,go_sem];exact Ext.refl _
  apply YR (.pointer (some ⟨p,0,none⟩)) rfl rfl rfl
  ·intro w' AA hH;clear hH AA;simp[jX,go_sem];exact Ext.refl _
  (try simp only[Act.put,yB,yC,yD]);apply zBo (fun _ _=>False) (fun v w w' h hx=>h) rfl rfl rfl
  ·intro w' AA hH;clear hH;simp[jX,go_sem];refine(zSK w' p B s R 1 HK (HP.out.ext AA)).mono ?_;intro e w2 he;exact⟨_,he.1,by have:=HX.out w' AA e w2 he; rw[he.1] at this; exact this⟩
  intro AI;(try simp only[Act.put,yB,yC,yD]);apply zBo (fun _ _=>False) (fun v w w' h hx=>h) rfl rfl rfl
  ·intro w' AA hH;exact(hH _ (List.mem_cons_self ..) ⟨_,rfl,by decide⟩).elim
  intro AJ;(try simp only[Act.put,yB,yC,yD]);apply YR (.pointer (some ⟨g,i*5,none⟩)) rfl rfl rfl
  ·intro w' AA hH;clear hH AA;simp[jX,go_sem,q1];exact Ext.refl _
  apply YR (.pointer (some ⟨g,i*5+2,none⟩)) rfl rfl rfl
  ·intro w' AA hH;clear hH AA;simp[jX,go_sem,q1];exact Ext.refl _
  (try simp only[Act.put,yB,yC,yD]);apply zBo (fun _ _=>False) (fun v w w' h hx=>h) rfl rfl rfl
  ·intro w' AA hH;exact(hH _ (List.mem_cons_self ..) ⟨_,rfl,by decide⟩).elim
  intro AH;(try simp only[Act.put,yB,yC,yD]);apply zKL;intro w' AA hH;exact(hH _ (List.mem_cons_self ..)).elim
theorem zPc (w:World)(p B:Nat)(s:Ps)(R:vC)(i gc:Nat)(h:PS w p B s R)(hi:i<s.nd.length)(hs:Safe w (xO p R) gc 73 #[.pointer (some ⟨p,0,none⟩)]) :
  Calls Tryz.prog 210 #[.int .i64 (i:Int),.pointer (some ⟨gc,0,none⟩)] w (xQ w p B R (zCe i s)):=by
 obtain⟨g,AC,hA,AJ,AD⟩:=h.YC hi;have x1:=h.x1' hA;have q0:(0:Int)≤(i:Int):=Int.natCast_nonneg _
 have q1:(i:Int)<(R.nh.length:Int):=by omega
 have HP:=yE h;have HA:=yE hA;have AL:=zDM;have AI:=h.blk.lt;have AB:=hs.1.lt;have cg:w.cell? ⟨gc,0,none⟩=some (.pointer (some ⟨p,0,none⟩)):=hs.1.cell 0;have AG:=yE hs;have AN:gc≠p:=fun e=>hs.2 (.inl e);have AF:gc≠g:=fun e=>hs.2 (.inr (.inl (by rw[e]; exact hA)));clear h hA hi hs
 by_cases hk:s.hd.kind=2
 ·have HK:=yE hk;have HN:Hid (zCe i s=.ok () (s.adv.num i s.hd.n)):=yE (by unfold zCe ofP; rw[if_pos hk]; rfl);clear hk
  go_enter Tryz.func210,Tryz.ntmps210
  go_wp2_with fail
  go_region_held3 (fun w'=>w'.cell? ⟨p,1,none⟩=some (.slice (some ⟨g,0,none⟩) R.nh.length R.c)∧w'.cell? ⟨gc,0,none⟩=some (.pointer (some ⟨p,0,none⟩)))
   (first
    | exact⟨y1,yg⟩
    | go_keep
    | exact⟨AH _,AE _⟩)
   (first
    | (go_at_call 161; refine(zI1 _ p B s R 2 HK (by decide) (HP.out.ext (by first | exact Ext.refl _ | exact Below.drew (Below.refl _ _)))).mono ?_; rintro e w1 ⟨rfl,ho⟩; simp only[xS]; have y1:=ho.1.x1' HA.out; have HO:=yE ho; have c2:w1.cell? ⟨g,i*5+3,none⟩=some (.int .i64 R.nh[i].1.num):=(ho.1.jP i AC HA.out 3 (by decide)); have z2:=ho.1.JZ (i*5+3) HA.out; have yg:w1.cell? ⟨gc,0,none⟩=some (.pointer (some ⟨p,0,none⟩)):=((AG.out.xC (yZ.ext (Below.drew (Below.refl _ _)))).xC ho.2).1.cell 0; have AE:∀u,(w1.setCell ⟨g,i*5+3,none⟩ u).cell? ⟨gc,0,none⟩=some (.pointer (some ⟨p,0,none⟩)):=fun u=>(World.cell?_of_block (w:=w1) (a:=⟨gc,0,none⟩) (zQ w1 ⟨g,i*5+3,none⟩ u gc AF)).trans yg; have AH:∀u,(w1.setCell ⟨g,i*5+3,none⟩ u).cell? ⟨p,1,none⟩=some (.slice (some ⟨g,0,none⟩) R.nh.length R.c):=fun u=>(World.cell?_of_block (w:=w1) (a:=⟨p,1,none⟩) (zQ w1 ⟨g,i*5+3,none⟩ u p (fun e=>AD e.symm))).trans y1; clear ho)
    | (fail))
  have HF:Hid (OkP w p B R (s.adv.num i s.hd.n) (w1.setCell ⟨g,i*5+3,none⟩ (.int .i64 s.hd.n))):=yE (OkP.trans ((yZ.ext (Below.drew (Below.refl _ _))).trans HO.out.2) (HO.out.1.put i AC 3 (by decide) _ (fun n=>{ n with num:=s.hd.n }) (fun _=>rfl) rfl HA.out))
  go_wp2_with fail
  go_end0;rw[HN.out];exact xQ.ok HF.out
 ·have HK:Hid (s.hd.kind≠2):=yE hk;have HN:Hid (zCe i s=.err 50 s.hd.at_):=yE (by unfold zCe ofP; rw[if_neg hk]; rfl);clear hk
  go_enter Tryz.func210,Tryz.ntmps210
  go_wp2_with fail
  have HX:Hid (∀w',Ext w w'→∀e w2,zAa w' p B R 50 s.hd.at_ e w2→xQ w p B R (zCe i s) e w2):=yE fun w' hx e w2 he=>by rw[HN.out]; exact zAa.trans (yZ.ext hx) he
  apply zHH (fun c w2=>xQ w p B R (zCe i s) (.panicked c) w2) (by kernel_rfl) (by kernel_rfl) (by kernel_rfl) (fun a' ha c w2 hx=>⟨ha,hx⟩);apply YR (.pointer (some ⟨p,0,none⟩)) rfl rfl rfl
  ·intro w' AA hH;have cc:=(AA.cell (p:=⟨gc,0,none⟩) AB).trans cg;clear hH AA;simp[jX,go_sem,cc];exact Ext.refl _
  apply YR (.pointer (some ⟨p,0,none⟩)) rfl rfl rfl
  ·intro w' AA hH;clear hH AA;simp[jX,go_sem];exact Ext.refl _
  apply YR (.pointer (some ⟨p,1,none⟩)) rfl rfl rfl
  ·intro w' AA hH;clear hH AA;simp[jX,go_sem];exact Ext.refl _
  apply YR (.slice (some ⟨g,0,none⟩) R.nh.length R.c) rfl rfl rfl
  ·intro w' AA hH;have cc:=(AA.cell (p:=⟨p,1,none⟩) AI).trans x1;clear hH AA;simp[jX,go_sem,cc];exact Ext.refl _
  apply YR (.int .i64 (i:Int)) rfl rfl rfl
  ·intro w' AA hH;clear hH AA;simp[jX,go_sem];exact Ext.refl _
  apply YR (.pointer (some ⟨p,0,none⟩)) rfl rfl rfl
  ·intro w' AA hH;have cc:=(AA.cell (p:=⟨gc,0,none⟩) AB).trans cg;clear hH AA;simp[jX,go_sem,cc];exact Ext.refl _
  (try simp only[Act.put,yB,yC,yD]);apply zBo (fun _ _=>False) (fun v w w' h hx=>h) rfl rfl rfl
  ·intro w' AA hH;clear hH;simp[jX,go_sem];refine(zSK w' p B s R 2 HK (HP.out.ext AA)).mono ?_;intro e w2 he;exact⟨_,he.1,by have:=HX.out w' AA e w2 he; rw[he.1] at this; exact this⟩
  intro AM;(try simp only[Act.put,yB,yC,yD]);apply zBo (fun _ _=>False) (fun v w w' h hx=>h) rfl rfl rfl
  ·intro w' AA hH;exact(hH _ (List.mem_cons_self ..) ⟨_,rfl,by decide⟩).elim
  intro AO;(try simp only[Act.put,yB,yC,yD]);apply YR (.pointer (some ⟨g,i*5,none⟩)) rfl rfl rfl
  ·intro w' AA hH;clear hH AA;simp[jX,go_sem,q1];exact Ext.refl _
  apply YR (.pointer (some ⟨g,i*5+3,none⟩)) rfl rfl rfl
  ·intro w' AA hH;clear hH AA;simp[jX,go_sem,q1];exact Ext.refl _
  (try simp only[Act.put,yB,yC,yD]);apply zBo (fun _ _=>False) (fun v w w' h hx=>h) rfl rfl rfl
  ·intro w' AA hH;exact(hH _ (List.mem_cons_self ..) ⟨_,rfl,by decide⟩).elim
  intro AK;(try simp only[Act.put,yB,yC,yD]);apply zKL;intro w' AA hH;exact(hH _ (List.mem_cons_self ..)).elim
theorem PS.zBM {w:World}{p B:Nat}{s:Ps}{R:vC}(h:PS w p B s R){b:Nat}(hb:xO p R b):b<w.heap.size:=by
 rcases hb with rfl | hb
 ·exact h.blk.lt
 ·exact(h.ns.zBM hb).2
theorem PS.fresh {w:World}{p B:Nat}{s:Ps}{R:vC}(h:PS w p B s R)(t:TypeId)(cs:Array Value):Safe (w.alloc (.cells cs t)) (xO p R) w.heap.size t cs:=⟨Blk.new _ _ _,fun hb=>by have:=h.zBM hb; omega⟩
theorem Safe.row {w:World}{M:Nat→Prop}{g:Nat}{t:TypeId}{cs:Array Value}(h:Safe w M g t cs):zF7 w M (some ⟨g,0,none⟩) cs.toList:=
 .inr ⟨g,0,rfl,h.1.lt,h.2,fun k hk=>by rw[Nat.zero_add,h.1.cell k]; simp⟩
theorem zKJ (r:Res Unit):(r.bind fun _ s=>.ok () s)=r:=by cases r <;> rfl
theorem zCV (f:KF)(s:Ps):zDs [f] s=f.m s:=zKJ _
theorem zEk.unit {w:World}{p B:Nat}{R:vC}{v:Value}{r:Res Unit}{e:Ending}{w':World}(h:zEk w p B R v r e w'):(∃s',r=.ok () s'∧e=.returned v∧OkP w p B R s' w')∨(∃er a,r=.err er a∧zAa w p B R er a e w'):=by
 cases r with
 | ok a s'=>exact .inl ⟨s',rfl,h.1,h.2⟩
 | err er a=>exact .inr ⟨er,a,rfl,h⟩
theorem xQ.unit {w:World}{p B:Nat}{R:vC}{r:Res Unit}{e:Ending}{w':World}(h:xQ w p B R r e w'):(∃s',r=.ok () s'∧e=.returned (.tuple #[])∧OkP w p B R s' w')∨(∃er a,r=.err er a∧zAa w p B R er a e w'):=by
 cases r with
 | ok a s'=>exact .inl ⟨s',rfl,h.1,h.2⟩
 | err er a=>exact .inr ⟨er,a,rfl,h⟩
theorem hmf (fn:Fn)(first cap:Array Value)(w:World):(Instr.makeFunc fn first cap).run Tryz.prog w=.ok (.func fn first cap) w:=rfl
theorem zCy (w:World)(p B:Nat)(s:Ps)(R:vC)(i:Nat)(h:PS w p B s R)(hG:Good s)(hi:i<s.nd.length)(hbig:s.nd.length≤1000000) :
  Calls Tryz.prog 131 #[.pointer (some ⟨p,0,none⟩),.int .i64 (i:Int)] w (xQ w p B R (JA i s)):=by
 have HP:=yE h;have HG:=yE hG;have HF:=yE (h.fresh 133 #[.func (.func 129) #[.pointer (some ⟨p,0,none⟩)] #[]]);have HX:Hid (Ext w (w.alloc (.cells #[.func (.func 129) #[.pointer (some ⟨p,0,none⟩)] #[]] 133))):=yE (Ext.alloc _ _);have HI:=yE hi;have hm:=hmf;clear h hG hi
 go_enter Tryz.func131,Tryz.ntmps131
 go_wp2_with fail
 refine(zCN _ p B s R i 5 _ [⟨129,#[.pointer (some ⟨p,0,none⟩)],#[],jC s.nd.length⟩] 1 (HP.out.ext HX.out) HI.out hbig (by simp) HG.out HF.out.row (fun f hf=>by
  rw[List.mem_singleton.1 hf]
  exact enters_of Tryz.func129 (by kernel_rfl) rfl) (fun k hk s' wr R' h1 h2 h3=>by
  obtain rfl:k=0:=by simp at hk; omega
  injection h1 with _ h1;subst h1
  exact VR wr p B _ R' s.nd.length h3 (by rw[xR]; omega))).mono ?_
 intro e w1 AA;rw[zCV] at AA
 rcases AA.unit with ⟨s',hr,rfl,ho⟩ | ⟨er,a,hr,he⟩
 ·have HR:Hid (JA i s=.ok () s'):=yE hr;have HO:=yE (OkP.trans (yZ.ext HX.out) ho);clear AA hr ho
  go_wp2_with fail
  go_end0;rw[HR.out];exact xQ.ok HO.out
 ·have HE:=yE (zAa.trans (yZ.ext HX.out) he);have HR:Hid (JA i s=.err er a):=yE hr;obtain⟨rfl,_⟩:=he;refine xB (P:=Tryz.prog) (fn:=Tryz.f131) rfl ?_;rw[HR.out];exact HE.out
theorem zHy (w:World)(p B:Nat)(s:Ps)(R:vC)(i:Nat)(h:PS w p B s R)(hG:Good s)(hi:i<s.nd.length)(hbig:s.nd.length≤1000000) :
  Calls Tryz.prog 205 #[.pointer (some ⟨p,0,none⟩),.int .i64 (i:Int)] w (xQ w p B R (YL i s)):=by
 have HP:=yE h;have HG:=yE hG;have hb:=h.fresh 73 #[.pointer (some ⟨p,0,none⟩)];have h1:=h.ext (Ext.alloc w (.cells #[.pointer (some ⟨p,0,none⟩)] 73));have hf:=h1.fresh 133 #[.func (.func 210) #[] #[.pointer (some ⟨w.heap.size,0,none⟩)]];have HB:=yE (hb.xC (yZ.ext (M:=xO p R) (Ext.alloc (w.alloc (.cells #[.pointer (some ⟨p,0,none⟩)] 73)) (.cells #[.func (.func 210) #[] #[.pointer (some ⟨w.heap.size,0,none⟩)]] 133))));rw[yR] at hf;have HF:=yE hf;have HX:Hid (Ext w ((w.alloc (.cells #[.pointer (some ⟨p,0,none⟩)] 73)).alloc (.cells #[.func (.func 210) #[] #[.pointer (some ⟨w.heap.size,0,none⟩)]] 133))):=yE ((Ext.alloc _ _).trans (Ext.alloc _ _));have HI:=yE hi;have hm:=hmf;clear h hG hi hb h1 hf
 go_enter Tryz.func205,Tryz.ntmps205
 go_wp2_with fail
 refine(zCN _ p B s R i 21 _ [⟨210,#[],#[.pointer (some ⟨w.heap.size,0,none⟩)],zCe s.nd.length⟩] 1 (HP.out.ext HX.out) HI.out hbig (by simp) HG.out HF.out.row (fun f hf=>by
  rw[List.mem_singleton.1 hf]
  exact enters_of Tryz.func210 (by kernel_rfl) rfl) (fun k hk s' wr R' h1 h2 h3=>by
  obtain rfl:k=0:=by simp at hk; omega
  injection h1 with _ h1;subst h1
  exact zPc wr p B _ R' s.nd.length w.heap.size h3 (by rw[xR]; omega) (HB.out.xC h2))).mono ?_
 intro e w1 AA;rw[zCV] at AA
 rcases AA.unit with ⟨s',hr,rfl,ho⟩ | ⟨er,a,hr,he⟩
 ·have HR:Hid (YL i s=.ok () s'):=yE hr;have HO:=yE (OkP.trans (yZ.ext HX.out) ho);clear AA hr ho
  go_wp2_with fail
  go_end0;rw[HR.out];exact xQ.ok HO.out
 ·have HE:=yE (zAa.trans (yZ.ext HX.out) he);have HR:Hid (YL i s=.err er a):=yE hr;obtain⟨rfl,_⟩:=he;refine xB (P:=Tryz.prog) (fn:=Tryz.f205) rfl ?_;rw[HR.out];exact HE.out
def VH (p:Nat)(w:World):Nat:=match w.cell? ⟨p,0,none⟩ with
 | some (.slice _ n _)=>n
 | _=>0
theorem PS.VH {w:World}{p B:Nat}{s:Ps}{R:vC}(h:PS w p B s R):VH p w=s.ts.length:=by unfold Proofs.YtioffpjajhalaaaGreatDoor.VH; rw[h.x0]
theorem zSY (one:Pm Unit)(f:Nat)(s:Ps)(h:isP [44] s=false):zAG one (f+1) s=.ok () s:=by unfold zAG; rw[h]; rfl
theorem zQ7 (one:Pm Unit)(f:Nat)(s:Ps)(h:isP [44] s=true):zAG one (f+1) s=(one s.adv).bind fun _ s=>zAG one f s:=by rw[zAG,if_pos h]
theorem zHl (w:World)(p B:Nat)(s:Ps)(R:vC)(i:Nat)(f:KF)(h:PS w p B s R)(hG:Good s)(he:∀args w,(callFunc f.K args).run Tryz.prog w=.ok (.enter f.K args) w)(hfine:zBp f.m)
  (hone:∀(wr:World) (s':Ps) (R':vC),ZY s s'→yZ w (xO p R) wr (xO p R')→PS wr p B s' R'→Calls Tryz.prog f.K (f.first.push (.int .i64 (i:Int))++f.cap) wr (xQ wr p B R' (f.m s'))) :
  Calls Tryz.prog 130 #[.pointer (some ⟨p,0,none⟩),.int .i64 (i:Int),.func (.func f.K) f.first f.cap] w (xQ w p B R (XV f.m s)):=by
 have HP:=yE h;have HG:=yE hG;have HO:=yE hone;have AJ:=yE hfine;obtain⟨K,first,Ac,m⟩:=f
 simp only at he HO AJ ⊢
 have HE:=yE he;clear h hG hone hfine he;have AD:=AJ.out s HG.out
 cases hr:m s with
 | err er a=>
  have HC:Hid (xQ w p B R (m s)=xQ w p B R (.err er a)):=yE (by rw[hr]);have HL:Hid (XV m s=.err er a):=yE (by unfold XV; rw[hr]; rfl);clear hr AD;have he:=HE.out
  go_enter Tryz.func130,Tryz.ntmps130
  go_wp2_with fail
  refine(HO.out w s R (ZY.refl HG.out) (yZ.refl _ _) HP.out).mono ?_;rw[HC.out];rintro e w1 ⟨rfl,ho⟩;refine xB (P:=Tryz.prog) (fn:=Tryz.f130) rfl ?_;rw[HL.out];exact⟨rfl,ho⟩
 | ok a s1=>
  rw[hr] at AD;have Ad:Hid (ZY s s1):=yE AD;have HC:Hid (xQ w p B R (m s)=xQ w p B R (.ok a s1)):=yE (by rw[hr]);have HL:Hid (XV m s=zAG m (s1.ts.length+1) s1):=yE (by unfold XV; rw[hr]; rfl);clear hr AD;have he:=HE.out
  go_enter Tryz.func130,Tryz.ntmps130
  go_wp2_with fail
  refine(HO.out w s R (ZY.refl HG.out) (yZ.refl _ _) HP.out).mono ?_;rw[HC.out];rintro e w1 ⟨rfl,ho⟩;have AW:=yE ho;clear ho he
  go_wp2_with fail
  go_loopw [] (fun wr=>∃(s':Ps) (n:Nat),Hid (ZY s s')∧Hid (s'.ts.length<n)∧Hid (XV m s=zAG m n s')∧Hid (OkP w p B R s' wr)) (fun wr=>VH p wr)
  case atStart=>exact⟨s1,s1.ts.length+1,Ad,yE (Nat.lt_succ_self _),HL,AW⟩
  case round=>
   obtain⟨s',n,AH,HN,AS,AX⟩:=hrel;obtain⟨wa,rfl⟩:∃wa:World,wa=wr:=⟨_,rfl⟩;obtain⟨R',AT,AV⟩:=AX.out;have AF:=yE AT;have AN:=yE AV;obtain⟨n',rfl⟩:∃n',n=n'+1:=⟨n-1,by have:=HN.out; omega⟩;clear AT AV
   cases hi:isP [44] s' with
   | false=>
    have HI:=yE hi;have HR:Hid (XV m s=.ok () s'):=yE (by rw[AS.out,zSY m n' s' hi]);clear hi
    go_wp2_with fail
    refine(zA4 wa p B s' R' [44] HI AF.out).mono ?_;rintro e w2 ⟨rfl,hx⟩;have AZ:=yE (OkP.trans AN.out (AF.out.okp hx));clear hx
    go_wp2_with fail
    go_end0;rw[HR.out];exact xQ.ok AZ.out
   | true=>
    have HI:=yE hi;have AQ:=(vG hi).1;have AO:=zAd AH.out.yY AQ;have AL:=yE (AH.out.trans AO)
    have AU:Hid (s'.adv.ts.length<s'.ts.length∧s'.adv.ts.length<n'):=yE (by
     have h1:=ZF (s:=s');have h2:=AH.out.yY.pos;have h3:=HN.out
     omega)
    have HQ:Hid (XV m s=(m s'.adv).bind fun _ s=>zAG m n' s):=yE (by rw[AS.out,zQ7 m n' s' hi]);have AD:=AJ.out s'.adv AO.yY;clear hi AQ AO
    cases hr:m s'.adv with
    | err er a=>
     have HC:Hid (m s'.adv=.err er a):=yE hr;clear hr AD;have he:=HE.out
     go_wp2_with fail
     refine(zAf wa p B s' R' [44] HI AF.out).mono ?_;rintro e w2 ⟨rfl,ho⟩;obtain⟨R2,AB,AA⟩:=ho;have AE:=yE AB;have AC:=yE (AN.out.trans AA);clear AB AA
     go_wp2_with fail
     refine(HO.out w2 s'.adv R2 AL.out AC.out AE.out).mono ?_;intro e w3 hp;rw[HC.out] at hp;have Aa:Hid (xQ w p B R (XV m s) (ZH er) w3):=yE (by rw[HQ.out,HC.out]; obtain⟨_,h⟩:=hp; exact zAa.trans AC.out ⟨rfl,h⟩);obtain⟨rfl,_⟩:=hp;exact xB (P:=Tryz.prog) (fn:=Tryz.f130) rfl Aa.out
    | ok a s2=>
     rw[hr] at AD;have AG:Hid (ZY s'.adv s2):=yE AD;have HC:Hid (m s'.adv=.ok a s2):=yE hr;clear hr AD;have he:=HE.out
     go_wp2_with fail
     refine(zAf wa p B s' R' [44] HI AF.out).mono ?_;rintro e w2 ⟨rfl,ho⟩;obtain⟨R2,AB,AA⟩:=ho;have AE:=yE AB;have AC:=yE (AN.out.trans AA);clear AB AA
     go_wp2_with fail
     refine(HO.out w2 s'.adv R2 AL.out AC.out AE.out).mono ?_;intro e w3 hp;rw[HC.out] at hp;obtain⟨rfl,AR⟩:=hp;have AP:=yE (OkP.trans AC.out AR);have AM:=yE (AL.out.trans AG.out);have Ab:Hid (s2.ts.length<n'):=yE (by have:=AG.out.ts; have:=AU.out; omega);have AK:Hid (XV m s=zAG m n' s2):=yE (by rw[HQ.out,HC.out]; rfl)
     have AY:Hid (VH p w3<VH p wa):=yE (by
      obtain⟨R3,AI,_⟩:=AP.out;rw[AI.VH,AF.out.VH]
      have:=AG.out.ts
      have:=AU.out
      omega)
     clear AR he
     go_wp2_with fail
     go_roundw
     case rel=>exact⟨s2,n',AM,Ab,AK,AP⟩
     case measure=>exact AY.out
def Or (M X:Nat→Prop)(b:Nat):Prop:=M b∨X b
def OkX (X:Nat→Prop)(w:World)(p B:Nat)(R R':vC)(s':Ps)(w':World):Prop:=PS w' p B s' R'∧yZ w (Or (xO p R) X) w' (Or (xO p R') X)
theorem yZ.or {w w':World}{M M':Nat→Prop}(h:yZ w M w' M')(X:Nat→Prop):yZ w (Or M X) w' (Or M' X):=
 ⟨h.os,h.tape,h.output,h.size,fun b hb hM=>h.VS b hb fun k=>hM (.inl k),fun b hb=>by
  rcases hb with hb | hb
  ·rcases h.zFK b hb with h1 | h1
   ·exact .inl (.inl h1)
   ·exact .inr h1
  ·exact .inl (.inr hb)⟩
def zAA {α:Type}(X:Nat→Prop)(w:World)(p B:Nat)(R:vC)(r:Res α)(V:α→vC→World→Prop)(e:Ending)(w':World):Prop:=
 match r with
 | .ok a s'=>e=.returned (.tuple #[])∧∃R',OkX X w p B R R' s' w'∧V a R' w'
 | .err er a=>e=ZH er∧∃s' R',s'.hd.at_=a∧OkX X w p B R R' s' w'
theorem OkX.trans {X:Nat→Prop}{w w1 w2:World}{p B:Nat}{R R1 R2:vC}{s:Ps}(h:yZ w (Or (xO p R) X) w1 (Or (xO p R1) X))(k:OkX X w1 p B R1 R2 s w2):OkX X w p B R R2 s w2:=⟨k.1,h.trans k.2⟩
theorem zAA.trans {α:Type}{X:Nat→Prop}{w w1 w2:World}{p B:Nat}{R R1:vC}{r:Res α}{V:α→vC→World→Prop}{e:Ending}(h:yZ w (Or (xO p R) X) w1 (Or (xO p R1) X))(k:zAA X w1 p B R1 r V e w2):zAA X w p B R r V e w2:=by
 cases r with
 | ok a s=>obtain⟨h1,R',h2,h3⟩:=k; exact⟨h1,R',h2.trans h,h3⟩
 | err er a=>obtain⟨h1,s',R',h2,h3⟩:=k; exact⟨h1,s',R',h2,h3.trans h⟩
theorem zAA.ofU {X:Nat→Prop}{w:World}{p B:Nat}{R:vC}{r:Res Unit}{e:Ending}{w':World}(h:xQ w p B R r e w'):zAA X w p B R r (fun _ _ _=>True) e w':=by
 cases r with
 | ok a s=>obtain⟨h1,R',h2,h3⟩:=h; exact⟨h1,R',⟨h2,h3.or X⟩,trivial⟩
 | err er a=>obtain⟨h1,s',h2,R',h3,h4⟩:=h; exact⟨h1,s',R',h2,h3,h4.or X⟩
theorem zAA.unit {α:Type}{X:Nat→Prop}{w:World}{p B:Nat}{R:vC}{r:Res α}{V:α→vC→World→Prop}{e:Ending}{w':World}(h:zAA X w p B R r V e w'):(∃a s' R',r=.ok a s'∧e=.returned (.tuple #[])∧OkX X w p B R R' s' w'∧V a R' w')∨(∃er a,r=.err er a∧e=ZH er∧∃s' R',s'.hd.at_=a∧OkX X w p B R R' s' w'):=by
 cases r with
 | ok a s'=>obtain⟨h1,R',h2,h3⟩:=h; exact .inl ⟨a,s',R',rfl,h1,h2,h3⟩
 | err er a=>exact .inr ⟨er,a,rfl,h⟩
def noX:Nat→Prop:=fun _=>False
theorem zAA.toU {w:World}{p B:Nat}{R:vC}{r:Res Unit}{V:Unit→vC→World→Prop}{e:Ending}{w':World}(h:zAA noX w p B R r V e w'):xQ w p B R r e w':=by
 have hm:∀ {w' R'},yZ w (Or (xO p R) noX) w' (Or (xO p R') noX)→yZ w (xO p R) w' (xO p R'):=fun h=>⟨h.os,h.tape,h.output,h.size,fun b hb hM=>h.VS b hb (fun k=>by rcases k with k | k; exact hM k; exact k),fun b hb=>by
  rcases h.zFK b (.inl hb) with (h1 | h1) | h1
  ·exact .inl h1
  ·exact h1.elim
  ·exact .inr h1⟩
 cases r with
 | ok a s=>obtain⟨h1,R',h2,_⟩:=h; exact⟨h1,R',h2.1,hm h2.2⟩
 | err er a=>obtain⟨h1,s',R',h2,h3⟩:=h; exact⟨h1,s',h2,R',h3.1,hm h3.2⟩
theorem PS.zE7 {w:World}{p B:Nat}{s:Ps}{R:vC}(h:PS w p B s R)(d:Nat)(hd:d≤64):PS (w.setCell ⟨p,2,none⟩ (.int .i64 (d:Int))) p B { s with deep:=d } R∧yZ w (xO p R) (w.setCell ⟨p,2,none⟩ (.int .i64 (d:Int))) (xO p R):=by
 refine⟨⟨?_,fun k hk=>?_,h.zJ3,h.XZ,h.nodes,?_,h.pB,⟨h.yY.last,hd⟩⟩,yZ.set (.inl rfl)⟩
 ·have:=h.blk.put 2 (.int .i64 (d:Int))
  simpa using this
 ·have AA:R.bt≠p:=by have:=h.XZ; have:=h.pB; omega
  exact(World.cell?_of_block (w:=w) (zQ w ⟨p,2,none⟩ _ R.bt AA)).trans (h.zBX k hk)
 ·refine h.ns.VS fun b hb=>zQ w ⟨p,2,none⟩ _ b fun e=>?_;rw[e] at hb;exact h.ns.zAH h.blk (by decide) (by decide) hb
theorem zPW {α:Type}{a z:Bs}{body:Pm α}{s:Ps}(h:isP a s=false):vR a z body s=.err 50 s.hd.at_:=by unfold vR; rw[h]; rfl
theorem zNA {α:Type}{a z:Bs}{body:Pm α}{s:Ps}(h:isP a s=true)(hd:s.deep=64):vR a z body s=.err 51 s.hd.at_:=by unfold vR; rw[if_pos h,if_pos hd]
theorem zOf {α:Type}{a z:Bs}{body:Pm α}{s:Ps}(h:isP a s=true)(hd:s.deep≠64):vR a z body s=(body { s.adv with deep:=s.deep+1 }).bind fun x s=>if z=[] then .ok x { s with deep:=s.deep-1 } else (xY z s).bind fun _ s=>.ok x { s with deep:=s.deep-1 }:=by unfold vR; rw[if_pos h,if_neg hd]
theorem zC8 {α:Type}(X:Nat→Prop)(w:World)(p B:Nat)(s:Ps)(R:vC)(a z:Bs)(K:Nat)(first cap:Array Value)(body:Pm α)(V:α→vC→World→Prop)(h:PS w p B s R)(he:∀args w,(callFunc K args).run Tryz.prog w=.ok (.enter K args) w)
  (hV:∀x R1 w1 R2 w2,V x R1 w1→yZ w1 (xO p R1) w2 (xO p R2)→V x R2 w2)
  (hdeep:isP a s=true→s.deep≠64→∀x s',body { s.adv with deep:=s.deep+1 } = .ok x s'→s'.deep=s.deep+1)
  (hbody:isP a s=true→s.deep≠64→∀(wr:World) (R':vC),yZ w (xO p R) wr (xO p R')→PS wr p B { s.adv with deep:=s.deep+1 } R'→Calls Tryz.prog K (first++cap) wr (zAA X wr p B R' (body { s.adv with deep:=s.deep+1 }) V)) :
  Calls Tryz.prog 163 #[.pointer (some ⟨p,0,none⟩),.string (xE a),.string (xE z),.func (.func K) first cap] w (zAA X w p B R (vR a z body s) V):=by
 have HP:=yE h;have HE:=yE he;have HV:=yE hV;have AW:=yE hdeep;have HB:=yE hbody;clear h he hV hbody hdeep
 cases hi:isP a s with
 | false=>
  have HI:=yE hi;have HW:Hid (vR a z body s=.err 50 s.hd.at_):=yE (zPW hi);clear hi
  go_enter Tryz.func163,Tryz.ntmps163
  go_wp2_with fail
  refine(JI w p B s R a false HI HP.out).mono ?_;rintro e w1 ⟨rfl,AB⟩;have HF:Hid (zAA X w p B R (vR a z body s) V (ZH 50) w1):=yE (by rw[HW.out]; exact⟨rfl,s,R,rfl,HP.out.ext AB,(yZ.ext AB).or X⟩);clear AB
  go_wp2_with fail
  refine(zBE _ p 50).mono ?_;rintro e w2 ⟨rfl,rfl⟩;exact xB (P:=Tryz.prog) (fn:=Tryz.f163) rfl HF.out
 | true=>
  have HI:=yE hi
  by_cases hd:s.deep=64
  ·have HW:Hid (vR a z body s=.err 51 s.hd.at_):=yE (zNA hi hd);have HD:=yE hd;clear hi hd
   go_enter Tryz.func163,Tryz.ntmps163
   go_wp2_with fail
   refine(JI w p B s R a true HI HP.out).mono ?_;rintro e w1 ⟨rfl,AB⟩;have HF:Hid (zAA X w p B R (vR a z body s) V (ZH 51) w1):=yE (by rw[HW.out]; exact⟨rfl,s,R,rfl,HP.out.ext AB,(yZ.ext AB).or X⟩);have x2:=(HP.out.ext AB).x2;rw[HD.out] at x2;clear AB
   go_wp2_with fail
   refine(zBE _ p 51).mono ?_;rintro e w2 ⟨rfl,rfl⟩;exact xB (P:=Tryz.prog) (fn:=Tryz.f163) rfl HF.out
  ·have HD:=yE hd;have HW:=yE (zOf (z:=z) (body:=body) hi hd)
   have Ab:((s.deep:Int)==64)=false:=by rw[yG]; omega
   have Ac:=HP.out.yY.deep;have Aa:=yE (vG hi).1;have HN:Hid ((s.deep:Int)+1=((s.deep+1:Nat):Int)):=yE (by omega);have AO:Hid (s.deep+1≤64):=yE (by omega);have HT:Hid (xY a { s with deep:=s.deep+1 } = .ok () { s.adv with deep:=s.deep+1 }):=yE (by unfold xY; rw[show isP a { s with deep:=s.deep+1 } = isP a s from rfl,if_pos hi]; rfl);clear hi hd
   go_enter Tryz.func163,Tryz.ntmps163
   go_wp2_with fail
   refine(JI w p B s R a true HI HP.out).mono ?_;rintro e w1 ⟨rfl,AB⟩;have AY:=yE AB;have AL:=yE (HP.out.ext AB);have x2:=AL.out.x2;have z2:=AL.out.blk.frozen 2;have AR:=yE (AL.out.zE7 (s.deep+1) AO.out);clear AB
   go_wp2_with fail
   rw[HN.out];generalize w1.setCell ⟨p,2,none⟩ (.int .i64 ((s.deep+1:Nat):Int))=w2 at *;refine(jN w2 p B _ R a AR.out.1).mono ?_;rw[HT.out];rintro e w3 ⟨rfl,R3,AQ,AP⟩;have AX:=yE AQ;have AJ:=yE (((yZ.ext AY.out).trans AR.out.2).trans AP);clear AQ AP x2 z2;have he:=HE.out
   go_wp2_with fail
   refine(HB.out HI.out HD.out _ R3 AJ.out AX.out).mono ?_;intro e w4 AA
   rcases AA.unit with ⟨x,s4,R4,hr,rfl,ho,hv⟩ | ⟨er,at_,hr,rfl,s4,R4,AI,ho⟩
   rotate_left
   ·have HF:Hid (zAA X w p B R (vR a z body s) V (ZH er) w4):=yE (by rw[HW.out,hr]; exact⟨rfl,s4,R4,AI,ho.trans (AJ.out.or X)⟩);exact xB (P:=Tryz.prog) (fn:=Tryz.f163) rfl HF.out
   have HR:=yE hr;have AE:=yE ho.1;have AF:=yE ((AJ.out.or X).trans ho.2);have AS:=yE hv;have AN:=yE (AW.out HI.out HD.out x s4 hr);clear AA hr ho hv he;have AT:s.deep+1≤64:=AO.out
   by_cases hz:z=[]
   ·have AK:Hid (vR a z body s=.ok x { s4 with deep:=s.deep }):=yE (by rw[HW.out,HR.out,JJ,if_pos hz,AN.out]; rfl)
    have AZ:(xE z).toList.isEmpty=true:=by subst hz; rw[YU]; rfl
    have x2:=AE.out.x2;rw[AN.out] at x2;have z2:=AE.out.blk.frozen 2;have AG:=yE (AE.out.zE7 s.deep (by omega));clear hz
    go_wp2_with fail
    go_end0;rw[AK.out];exact⟨rfl,R4,⟨AG.out.1,AF.out.trans (AG.out.2.or X)⟩,HV.out _ _ _ _ _ AS.out AG.out.2⟩
   ·have AZ:(xE z).toList.isEmpty=false:=by
     cases z with
     | nil=>exact absurd rfl hz
     | cons b l=>simp[YU]
    have HZ:=yE hz;clear hz
    go_wp2_with fail
    refine(jN w4 p B s4 R4 z AE.out).mono ?_;intro e w5 AA
    cases hq:xY z s4 with
    | err er at_=>
     rw[hq] at AA;obtain⟨rfl,s5,AI,R5,AC,AD⟩:=AA;have HF:Hid (zAA X w p B R (vR a z body s) V (ZH er) w5):=yE (by rw[HW.out,HR.out,JJ,if_neg HZ.out,hq]; exact⟨rfl,s5,R5,AI,AC,AF.out.trans (AD.or X)⟩);exact xB (P:=Tryz.prog) (fn:=Tryz.f163) rfl HF.out
    | ok y s5=>
     rw[hq] at AA;obtain⟨rfl,R5,AC,AD⟩:=AA
     have AM:s5.deep=s.deep+1:=by
      unfold xY at hq
      split at hq
      ·injection hq with _ e2;rw[←e2];exact AN.out
      ·cases hq
     have AK:Hid (vR a z body s=.ok x { s5 with deep:=s.deep }):=yE (by rw[HW.out,HR.out,JJ,if_neg HZ.out,hq,JJ,AM]; rfl);have x2:=AC.x2;rw[AM] at x2;have z2:=AC.blk.frozen 2;have AH:=yE (AC.zE7 s.deep (by omega));have AU:=yE (AF.out.trans (AD.or X));have AV:=yE (HV.out _ _ _ _ _ AS.out AD);clear hq AC AD AM
     go_wp2_with fail
     go_end0;rw[AK.out];exact⟨rfl,R5,⟨AH.out.1,AU.out.trans (AH.out.2.or X)⟩,HV.out _ _ _ _ _ AV.out AH.out.2⟩
structure Ran (w:World)(p B:Nat)(R:vC)(s:Ps)(w':World)(R':vC)(s':Ps):Prop where
 ps:PS w' p B s' R'
 mv:yZ w (xO p R) w' (xO p R')
 lt:ZY s s'
theorem Ran.refl {w:World}{p B:Nat}{R:vC}{s:Ps}(h:PS w p B s R)(g:Good s):Ran w p B R s w R s:=⟨h,yZ.refl _ _,ZY.refl g⟩
theorem Ran.ext {w w' w2:World}{p B:Nat}{R R':vC}{s s':Ps}(h:Ran w p B R s w' R' s')(hx:Ext w' w2):Ran w p B R s w2 R' s':=⟨h.ps.ext hx,h.mv.trans (yZ.ext hx),h.lt⟩
theorem Ran.nd {w w':World}{p B:Nat}{R R':vC}{s s':Ps}(h:Ran w p B R s w' R' s')(hb:s.phi≤1000000):s'.nd.length≤1000000:=by have:=h.lt.phi; unfold Ps.phi at this hb; omega
theorem Ran.phi {w w':World}{p B:Nat}{R R':vC}{s s':Ps}(h:Ran w p B R s w' R' s')(hb:s.phi≤1000000):s'.phi≤1000000:=Nat.le_trans h.lt.phi hb
theorem Ran.idx {w w':World}{p B:Nat}{R R':vC}{s s':Ps}(h:Ran w p B R s w' R' s'){i:Nat}(hi:i<s.nd.length):i<s'.nd.length:=yS hi h.lt.nd
theorem Ran.few {w w':World}{p B:Nat}{R R':vC}{s s':Ps}(h:Ran w p B R s w' R' s'){n:Nat}(hn:s.ts.length≤n):s'.ts.length≤n:=Nat.le_trans h.lt.ts hn
theorem Ran.okp {w w':World}{p B:Nat}{R R':vC}{s s':Ps}(h:Ran w p B R s w' R' s'):OkP w p B R s' w':=⟨R',h.ps,h.mv⟩
theorem Ran.then {w w1 w2:World}{p B:Nat}{R R1:vC}{s s1 s2:Ps}(h:Ran w p B R s w1 R1 s1)(k:OkP w1 p B R1 s2 w2)(hl:ZY s1 s2):∃R2,Ran w p B R s w2 R2 s2:=let ⟨R2,a,b⟩:=k; ⟨R2,a,h.mv.trans b,h.lt.trans hl⟩
theorem Ran.go {α:Type}{w w1 w2:World}{p B:Nat}{R R1:vC}{s s1:Ps}{r:Res Unit}{whole:Res α}{f:Unit→Ps→Res α}{e:Ending}(HL:Hid (whole=r.bind f))(h:Hid (Ran w p B R s w1 R1 s1))(hf:jW s1 r)(hp:xQ w1 p B R1 r e w2) :
  (∃s2 R2,Hid (whole=f () s2)∧e=.returned (.tuple #[])∧Hid (Ran w p B R s w2 R2 s2))∨(∃er a,e=ZH er∧Hid (whole=.err er a)∧Hid (zAa w p B R er a (ZH er) w2)):=by
 cases r with
 | ok a s2=>
  obtain⟨h1,R2,h2,h3⟩:=hp;exact .inl ⟨s2,R2,yE HL.out,h1,yE ⟨h2,h.out.mv.trans h3,h.out.lt.trans hf⟩⟩
 | err er a=>
  obtain⟨h1,h2⟩:=hp;exact .inr ⟨er,a,h1,yE HL.out,yE (zAa.trans h.out.mv ⟨rfl,h2⟩)⟩
theorem ZT {r whole:Res Unit}(h:whole=r):whole=r.bind fun _ s=>.ok () s:=by rw[h]; cases r <;> rfl
theorem zHq {α:Type}{s:Ps}{t:Bs}{whole x y:Res α}(h:Hid (whole=if isP t s=true then x else y))(hi:Hid (isP t s=true)):whole=x:=by rw[h.out,if_pos hi.out]
theorem zKR {α:Type}{s:Ps}{t:Bs}{whole x y:Res α}(h:Hid (whole=if isP t s=true then x else y))(hi:Hid (isP t s=false)):whole=y:=by rw[h.out,hi.out]; rfl
theorem ZY.num {s:Ps}(h:Good s)(i:Nat)(x:Int):ZY s (s.num i x):=zAI h (fun _=>rfl)
theorem ZY.kind {s:Ps}(h:Good s)(i k:Nat):ZY s (s.kind i k):=zAI h (fun _=>rfl)
theorem zBD {s:Ps}{t:Bs}(g:Good s)(h:Hid (isP t s=true)):ZY s s.adv:=zAd g (vG h.out).1
end Go.Proofs.YtioffpjajhalaaaGreatDoor
