/- The program's named, marked, number's maker. (and what follows of it). The conditions stand at each lemma. -/
import Derived.Test.YtioffpjajhalaaaGreatDoorJaa
import Derived.Test.YtioffpjajhalaaaGreatDoorJan
import Derived.Deep.RegionHeld3
import Derived.Deep.Cut
set_option linter.unusedVariables false
set_option linter.unusedSimpArgs false
set_option maxRecDepth 100000
set_option maxHeartbeats 16000000
namespace Go.Proofs.YtioffpjajhalaaaGreatDoor
open Go Go.RowKit
theorem PS.put {w:World}{p B:Nat}{s:Ps}{R:xS}(h:PS w p B s R)(i:Nat)(hi:i<R.nh.length)(j:Nat)(hj:j<5)(u:Value)(f:Nd→Nd)(hk:∀x,(f x).kids=x.kids)(hf:YU (f R.nh[i].1,R.nh[i].2)=(YU R.nh[i]).set j u){g:Nat}(hA:R.A=some ⟨g,0,none⟩) :
  OkP w p B R (s.on i f) (w.setCell ⟨g,i*5+j,none⟩ u):=by
 have AA:=h.ns.put (by decide) i hi j hj u f hk hf hA
 have AC:p≠g:=fun e=>by
  obtain⟨AD,hc⟩:=ZN h.ns.row hA;rw[←e] at hc;exact Blk.differ h.blk hc (by decide) rfl
 have AE:=(VY h.ns.row hA).1;refine⟨{ R with nh:=R.nh.modify i fun x=>(f x.1,x.2) },⟨?_,fun k hk=>?_,h.zJS,h.zE4,?_,AA,h.pB,⟨h.xQ.last,h.xQ.deep⟩⟩,?_⟩
 ·have:=h.blk.far (p:=⟨g,i*5+j,none⟩) AC u
  show Blk _ p 75 #[.slice _ s.ts.length _,.slice _ (R.nh.modify i _).length _,.int .i64 (s.deep:Int)]
  rw[List.length_modify];exact this
 ·have AF:=h.zE4
  have AB:R.bt≠g:=by omega
  have e2:=World.cell?_of_block (w:=w) (w':=w.setCell ⟨g,i*5+j,none⟩ u) (a:=⟨R.bt,R.ot+k,none⟩) (zQ w ⟨g,i*5+j,none⟩ _ R.bt AB);exact e2.trans (h.zNy k hk)
 ·show s.nd.modify i f=_
  rw[zFj Prod.fst _ f (fun x=>rfl),←h.nodes]
 ·refine⟨rfl,rfl,rfl,by simp[World.setCell],fun b hb hM=>zQ w ⟨g,i*5+j,none⟩ _ b (fun e=>hM (.inr (.inl (by rw[e]; exact hA)))),fun b hb=>?_⟩
  rcases hb with hb | hb
  ·exact .inl (.inl hb)
  ·exact .inl (.inr (zSp i f b hb))
theorem PS.zIK {w:World}{p B:Nat}{s:Ps}{R:xS}(h:PS w p B s R){i:Nat}(hi:i<s.nd.length):∃g,∃AA:i<R.nh.length,R.A=some ⟨g,0,none⟩∧g<w.heap.size∧g≠p:=by
 have AB:=h.len
 have AA:i<R.nh.length:=by omega
 obtain⟨g,hA⟩:=h.zR9 (by omega);refine⟨g,AA,hA,(VY h.ns.row hA).2,fun e=>?_⟩;obtain⟨AC,hc⟩:=ZN h.ns.row hA;rw[e] at hc;exact Blk.differ h.blk hc (by decide) rfl
theorem PS.x1' {w:World}{p B:Nat}{s:Ps}{R:xS}(h:PS w p B s R){g:Nat}(hA:R.A=some ⟨g,0,none⟩):w.cell? ⟨p,1,none⟩=some (.slice (some ⟨g,0,none⟩) R.nh.length R.c):=by rw[←hA]; exact h.x1
theorem zHl {P:Program}{id:Nat}{Q':Exit→Act→World→Prop}{a:Act}{w:World}{l:List Oper}{ks:List Take}(X:List PanicEntry→World→Prop)(hm:P.follows .mixedOrders=true)(hB:zAm l.toArray l.length=true)(hT:zDY l.toArray l.length=true)
  (hX:∀a',a'.defers=a.defers→∀c w,X c w→Q' (.panic c) a' w) (h:zBd X P l.toArray Ext w (fun a' w'=>Q' .normal a' w') l ks a []):(Code.region id l.toArray true).wp P Q' a w:=by
 refine zG6 (R:=Ext) l.length ks hm hB hT (fun _ _ _=>Ext.trans) (Below.drew (Below.refl _ _)) hX ?_;rw[List.take_length,List.drop_length];exact h
theorem zCO (w:World)(p B:Nat)(s:Ps)(R:xS)(i:Nat)(h:PS w p B s R)(hi:i<s.nd.length) :
  Calls Tryz.prog 134 #[.pointer (some ⟨p,0,none⟩),.int .i64 (i:Int)] w (xI w p B R (.ok () (s.num i 1))):=by
 obtain⟨g,AA,hA,AB,AC⟩:=h.zIK hi;have c3:∃v,w.cell? ⟨g,i*5+3,none⟩=some (.int .i64 v):=⟨_,by rw[h.zDc i AA hA 3 (by decide)]; rfl⟩;obtain⟨v,c3⟩:=c3;have z3:=h.zKq (i*5+3) hA;have x1:=h.x1' hA;have HF:Hid (OkP w p B R (s.num i 1) (w.setCell ⟨g,i*5+3,none⟩ (.int .i64 1))):=yD (h.put i AA 3 (by decide) _ (fun n=>{ n with num:=1 }) (fun _=>rfl) rfl hA)
 have q0:(i:Int)<(R.nh.length:Int):=by omega
 clear h hA hi
 go_enter Tryz.func134,Tryz.ntmps134
 go_wp2
 go_end0;exact xI.ok HF.out
theorem VC (w:World)(p B:Nat)(s:Ps)(R:xS)(i:Nat)(h:PS w p B s R)(hi:i<s.nd.length) :
  Calls Tryz.prog 129 #[.pointer (some ⟨p,0,none⟩),.int .i64 (i:Int)] w (xI w p B R (vS i s)):=by
 obtain⟨g,AB,hA,AG,AD⟩:=h.zIK hi;have x1:=h.x1' hA;have q0:(0:Int)≤(i:Int):=Int.natCast_nonneg _
 have q1:(i:Int)<(R.nh.length:Int):=by omega
 have HP:=yD h;have HA:=yD hA;have AI:=zAh;have AE:=h.blk.lt;clear h hA hi
 by_cases hk:s.hd.kind=1
 ·have HK:=yD hk;have HN:Hid (vS i s=.ok () (s.adv.text i s.hd.text)):=yD (by unfold vS ofP; rw[if_pos hk]; rfl);clear hk
  go_enter Tryz.func129,Tryz.ntmps129
  go_wp2_with fail
  go_region_held3 (fun w'=>w'.cell? ⟨p,1,none⟩=some (.slice (some ⟨g,0,none⟩) R.nh.length R.c))
   (first
    | assumption
    | go_keep
    | exact AC _)
   (first
    | (go_at_call 161; refine(zIN _ p B s R 1 HK (by decide) (HP.out.ext (by first | exact Ext.refl _ | exact Below.drew (Below.refl _ _)))).mono ?_; rintro e w1 ⟨rfl,ho⟩; simp only[YC]; have y1:=ho.1.x1' HA.out; have HO:=yD ho; have c2:w1.cell? ⟨g,i*5+2,none⟩=some (.string (yX R.nh[i].1.text)):=(ho.1.zDc i AB HA.out 2 (by decide)); have z2:=ho.1.zKq (i*5+2) HA.out; have AC:∀u,(w1.setCell ⟨g,i*5+2,none⟩ u).cell? ⟨p,1,none⟩=some (.slice (some ⟨g,0,none⟩) R.nh.length R.c):=fun u=>(World.cell?_of_block (w:=w1) (a:=⟨p,1,none⟩) (zQ w1 ⟨g,i*5+2,none⟩ u p (fun e=>AD e.symm))).trans y1; clear ho)
    | (fail))
  have HF:Hid (OkP w p B R (s.adv.text i s.hd.text) (w1.setCell ⟨g,i*5+2,none⟩ (.string (yX s.hd.text)))):=yD (OkP.trans ((xH.ext (Below.drew (Below.refl _ _))).trans HO.out.2) (HO.out.1.put i AB 2 (by decide) _ (fun n=>{ n with text:=s.hd.text }) (fun _=>rfl) rfl HA.out))
  go_wp2_with fail
  go_end0;rw[HN.out];exact xI.ok HF.out
 ·have HK:Hid (s.hd.kind≠1):=yD hk;have HN:Hid (vS i s=.err 50 s.hd.at_):=yD (by unfold vS ofP; rw[if_neg hk]; rfl);clear hk
  go_enter Tryz.func129,Tryz.ntmps129
  go_wp2_with fail
  have HX:Hid (∀w',Ext w w'→∀e w2,VK w' p B R 50 s.hd.at_ e w2→xI w p B R (vS i s) e w2):=yD fun w' hx e w2 he=>by rw[HN.out]; exact VK.trans (xH.ext hx) he
  apply zHl (fun c w2=>xI w p B R (vS i s) (.panicked c) w2) (by kernel_rfl) (by kernel_rfl) (by kernel_rfl) (fun a' ha c w2 hx=>⟨ha,hx⟩);apply YA (.pointer (some ⟨p,0,none⟩)) rfl rfl rfl
  ·intro w' AA hH;clear hH AA;simp[jK,go_sem];exact Ext.refl _
  apply YA (.pointer (some ⟨p,0,none⟩)) rfl rfl rfl
  ·intro w' AA hH;clear hH AA;simp[jK,go_sem];exact Ext.refl _
  apply YA (.pointer (some ⟨p,1,none⟩)) rfl rfl rfl
  ·intro w' AA hH;clear hH AA;simp[jK,go_sem];exact Ext.refl _
  apply YA (.slice (some ⟨g,0,none⟩) R.nh.length R.c) rfl rfl rfl
  ·intro w' AA hH;have cc:=(AA.cell (p:=⟨p,1,none⟩) AE).trans x1;clear hH AA;simp[jK,go_sem,cc];exact Ext.refl _
  apply YA (.int .i64 (i:Int)) rfl rfl rfl
  ·intro w' AA hH;clear hH AA;simp[jK,go_sem];exact Ext.refl _
  apply YA (.pointer (some ⟨p,0,none⟩)) rfl rfl rfl
  ·intro w' AA hH;clear hH AA;simp[jK,go_sem];exact Ext.refl _
  (try simp only[Act.put,yA,yB,yC]);apply zBg (fun _ _=>False) (fun v w w' h hx=>h) rfl rfl rfl
  ·intro w' AA hH;clear hH;simp[jK,go_sem];refine(zTo w' p B s R 1 HK (HP.out.ext AA)).mono ?_;intro e w2 he;exact⟨_,he.1,by have:=HX.out w' AA e w2 he; rw[he.1] at this; exact this⟩
  intro AH;(try simp only[Act.put,yA,yB,yC]);apply zBg (fun _ _=>False) (fun v w w' h hx=>h) rfl rfl rfl
  ·intro w' AA hH;exact(hH _ (List.mem_cons_self ..) ⟨_,rfl,by decide⟩).elim
  intro AJ;(try simp only[Act.put,yA,yB,yC]);apply YA (.pointer (some ⟨g,i*5,none⟩)) rfl rfl rfl
  ·intro w' AA hH;clear hH AA;simp[jK,go_sem,q1];exact Ext.refl _
  apply YA (.pointer (some ⟨g,i*5+2,none⟩)) rfl rfl rfl
  ·intro w' AA hH;clear hH AA;simp[jK,go_sem,q1];exact Ext.refl _
  (try simp only[Act.put,yA,yB,yC]);apply zBg (fun _ _=>False) (fun v w w' h hx=>h) rfl rfl rfl
  ·intro w' AA hH;exact(hH _ (List.mem_cons_self ..) ⟨_,rfl,by decide⟩).elim
  intro AF;(try simp only[Act.put,yA,yB,yC]);apply zKx;intro w' AA hH;exact(hH _ (List.mem_cons_self ..)).elim
theorem zPw (w:World)(p B:Nat)(s:Ps)(R:xS)(i gc:Nat)(h:PS w p B s R)(hi:i<s.nd.length)(hs:Safe w (xG p R) gc 73 #[.pointer (some ⟨p,0,none⟩)]) :
  Calls Tryz.prog 210 #[.int .i64 (i:Int),.pointer (some ⟨gc,0,none⟩)] w (xI w p B R (zBr i s)):=by
 obtain⟨g,AC,hA,AL,AG⟩:=h.zIK hi;have x1:=h.x1' hA;have q0:(0:Int)≤(i:Int):=Int.natCast_nonneg _
 have q1:(i:Int)<(R.nh.length:Int):=by omega
 have HP:=yD h;have HA:=yD hA;have AN:=zDk;have AH:=h.blk.lt;have AB:=hs.1.lt;have cg:w.cell? ⟨gc,0,none⟩=some (.pointer (some ⟨p,0,none⟩)):=hs.1.cell 0;have AI:=yD hs;have AJ:gc≠p:=fun e=>hs.2 (.inl e);have AE:gc≠g:=fun e=>hs.2 (.inr (.inl (by rw[e]; exact hA)));clear h hA hi hs
 by_cases hk:s.hd.kind=2
 ·have HK:=yD hk;have HN:Hid (zBr i s=.ok () (s.adv.num i s.hd.n)):=yD (by unfold zBr ofP; rw[if_pos hk]; rfl);clear hk
  go_enter Tryz.func210,Tryz.ntmps210
  go_wp2_with fail
  go_region_held3 (fun w'=>w'.cell? ⟨p,1,none⟩=some (.slice (some ⟨g,0,none⟩) R.nh.length R.c)∧w'.cell? ⟨gc,0,none⟩=some (.pointer (some ⟨p,0,none⟩)))
   (first
    | exact⟨y1,yg⟩
    | go_keep
    | exact⟨AF _,AD _⟩)
   (first
    | (go_at_call 161; refine(zIN _ p B s R 2 HK (by decide) (HP.out.ext (by first | exact Ext.refl _ | exact Below.drew (Below.refl _ _)))).mono ?_; rintro e w1 ⟨rfl,ho⟩; simp only[YC]; have y1:=ho.1.x1' HA.out; have HO:=yD ho; have c2:w1.cell? ⟨g,i*5+3,none⟩=some (.int .i64 R.nh[i].1.num):=(ho.1.zDc i AC HA.out 3 (by decide)); have z2:=ho.1.zKq (i*5+3) HA.out; have yg:w1.cell? ⟨gc,0,none⟩=some (.pointer (some ⟨p,0,none⟩)):=((AI.out.xJ (xH.ext (Below.drew (Below.refl _ _)))).xJ ho.2).1.cell 0; have AD:∀u,(w1.setCell ⟨g,i*5+3,none⟩ u).cell? ⟨gc,0,none⟩=some (.pointer (some ⟨p,0,none⟩)):=fun u=>(World.cell?_of_block (w:=w1) (a:=⟨gc,0,none⟩) (zQ w1 ⟨g,i*5+3,none⟩ u gc AE)).trans yg; have AF:∀u,(w1.setCell ⟨g,i*5+3,none⟩ u).cell? ⟨p,1,none⟩=some (.slice (some ⟨g,0,none⟩) R.nh.length R.c):=fun u=>(World.cell?_of_block (w:=w1) (a:=⟨p,1,none⟩) (zQ w1 ⟨g,i*5+3,none⟩ u p (fun e=>AG e.symm))).trans y1; clear ho)
    | (fail))
  have HF:Hid (OkP w p B R (s.adv.num i s.hd.n) (w1.setCell ⟨g,i*5+3,none⟩ (.int .i64 s.hd.n))):=yD (OkP.trans ((xH.ext (Below.drew (Below.refl _ _))).trans HO.out.2) (HO.out.1.put i AC 3 (by decide) _ (fun n=>{ n with num:=s.hd.n }) (fun _=>rfl) rfl HA.out))
  go_wp2_with fail
  go_end0;rw[HN.out];exact xI.ok HF.out
 ·have HK:Hid (s.hd.kind≠2):=yD hk;have HN:Hid (zBr i s=.err 50 s.hd.at_):=yD (by unfold zBr ofP; rw[if_neg hk]; rfl);clear hk
  go_enter Tryz.func210,Tryz.ntmps210
  go_wp2_with fail
  have HX:Hid (∀w',Ext w w'→∀e w2,VK w' p B R 50 s.hd.at_ e w2→xI w p B R (zBr i s) e w2):=yD fun w' hx e w2 he=>by rw[HN.out]; exact VK.trans (xH.ext hx) he
  apply zHl (fun c w2=>xI w p B R (zBr i s) (.panicked c) w2) (by kernel_rfl) (by kernel_rfl) (by kernel_rfl) (fun a' ha c w2 hx=>⟨ha,hx⟩);apply YA (.pointer (some ⟨p,0,none⟩)) rfl rfl rfl
  ·intro w' AA hH;have cc:=(AA.cell (p:=⟨gc,0,none⟩) AB).trans cg;clear hH AA;simp[jK,go_sem,cc];exact Ext.refl _
  apply YA (.pointer (some ⟨p,0,none⟩)) rfl rfl rfl
  ·intro w' AA hH;clear hH AA;simp[jK,go_sem];exact Ext.refl _
  apply YA (.pointer (some ⟨p,1,none⟩)) rfl rfl rfl
  ·intro w' AA hH;clear hH AA;simp[jK,go_sem];exact Ext.refl _
  apply YA (.slice (some ⟨g,0,none⟩) R.nh.length R.c) rfl rfl rfl
  ·intro w' AA hH;have cc:=(AA.cell (p:=⟨p,1,none⟩) AH).trans x1;clear hH AA;simp[jK,go_sem,cc];exact Ext.refl _
  apply YA (.int .i64 (i:Int)) rfl rfl rfl
  ·intro w' AA hH;clear hH AA;simp[jK,go_sem];exact Ext.refl _
  apply YA (.pointer (some ⟨p,0,none⟩)) rfl rfl rfl
  ·intro w' AA hH;have cc:=(AA.cell (p:=⟨gc,0,none⟩) AB).trans cg;clear hH AA;simp[jK,go_sem,cc];exact Ext.refl _
  (try simp only[Act.put,yA,yB,yC]);apply zBg (fun _ _=>False) (fun v w w' h hx=>h) rfl rfl rfl
  ·intro w' AA hH;clear hH;simp[jK,go_sem];refine(zTo w' p B s R 2 HK (HP.out.ext AA)).mono ?_;intro e w2 he;exact⟨_,he.1,by have:=HX.out w' AA e w2 he; rw[he.1] at this; exact this⟩
  intro AM;(try simp only[Act.put,yA,yB,yC]);apply zBg (fun _ _=>False) (fun v w w' h hx=>h) rfl rfl rfl
  ·intro w' AA hH;exact(hH _ (List.mem_cons_self ..) ⟨_,rfl,by decide⟩).elim
  intro AO;(try simp only[Act.put,yA,yB,yC]);apply YA (.pointer (some ⟨g,i*5,none⟩)) rfl rfl rfl
  ·intro w' AA hH;clear hH AA;simp[jK,go_sem,q1];exact Ext.refl _
  apply YA (.pointer (some ⟨g,i*5+3,none⟩)) rfl rfl rfl
  ·intro w' AA hH;clear hH AA;simp[jK,go_sem,q1];exact Ext.refl _
  (try simp only[Act.put,yA,yB,yC]);apply zBg (fun _ _=>False) (fun v w w' h hx=>h) rfl rfl rfl
  ·intro w' AA hH;exact(hH _ (List.mem_cons_self ..) ⟨_,rfl,by decide⟩).elim
  intro AK;(try simp only[Act.put,yA,yB,yC]);apply zKx;intro w' AA hH;exact(hH _ (List.mem_cons_self ..)).elim
theorem PS.zDL {w:World}{p B:Nat}{s:Ps}{R:xS}(h:PS w p B s R){b:Nat}(hb:xG p R b):b<w.heap.size:=by
 rcases hb with rfl | hb
 ·exact h.blk.lt
 ·exact(h.ns.zDL hb).2
theorem PS.fresh {w:World}{p B:Nat}{s:Ps}{R:xS}(h:PS w p B s R)(t:TypeId)(cs:Array Value):Safe (w.alloc (.cells cs t)) (xG p R) w.heap.size t cs:=⟨Blk.new _ _ _,fun hb=>by have:=h.zDL hb; omega⟩
theorem Safe.row {w:World}{M:Nat→Prop}{g:Nat}{t:TypeId}{cs:Array Value}(h:Safe w M g t cs):zFJ w M (some ⟨g,0,none⟩) cs.toList:=
 .inr ⟨g,0,rfl,h.1.lt,h.2,fun k hk=>by rw[Nat.zero_add,h.1.cell k]; simp⟩
theorem zKw (r:Res Unit):(r.bind fun _ s=>.ok () s)=r:=by cases r <;> rfl
theorem zCF (f:KF)(s:Ps):zC3 [f] s=f.m s:=zKw _
theorem zDW.unit {w:World}{p B:Nat}{R:xS}{v:Value}{r:Res Unit}{e:Ending}{w':World}(h:zDW w p B R v r e w'):(∃s',r=.ok () s'∧e=.returned v∧OkP w p B R s' w')∨(∃er a,r=.err er a∧VK w p B R er a e w'):=by
 cases r with
 | ok a s'=>exact .inl ⟨s',rfl,h.1,h.2⟩
 | err er a=>exact .inr ⟨er,a,rfl,h⟩
theorem xI.unit {w:World}{p B:Nat}{R:xS}{r:Res Unit}{e:Ending}{w':World}(h:xI w p B R r e w'):(∃s',r=.ok () s'∧e=.returned (.tuple #[])∧OkP w p B R s' w')∨(∃er a,r=.err er a∧VK w p B R er a e w'):=by
 cases r with
 | ok a s'=>exact .inl ⟨s',rfl,h.1,h.2⟩
 | err er a=>exact .inr ⟨er,a,rfl,h⟩
theorem hmf (fn:Fn)(first cap:Array Value)(w:World):(Instr.makeFunc fn first cap).run Tryz.prog w=.ok (.func fn first cap) w:=rfl
theorem zCo (w:World)(p B:Nat)(s:Ps)(R:xS)(i:Nat)(h:PS w p B s R)(hG:Good s)(hi:i<s.nd.length)(hbig:s.nd.length≤1000000) :
  Calls Tryz.prog 131 #[.pointer (some ⟨p,0,none⟩),.int .i64 (i:Int)] w (xI w p B R (JN i s)):=by
 have HP:=yD h;have HG:=yD hG;have HF:=yD (h.fresh 133 #[.func (.func 129) #[.pointer (some ⟨p,0,none⟩)] #[]]);have HX:Hid (Ext w (w.alloc (.cells #[.func (.func 129) #[.pointer (some ⟨p,0,none⟩)] #[]] 133))):=yD (Ext.alloc _ _);have HI:=yD hi;have hm:=hmf;clear h hG hi
 go_enter Tryz.func131,Tryz.ntmps131
 go_wp2_with fail
 refine(zCz _ p B s R i 5 _ [⟨129,#[.pointer (some ⟨p,0,none⟩)],#[],vS s.nd.length⟩] 1 (HP.out.ext HX.out) HI.out hbig (by simp) HG.out HF.out.row (fun f hf=>by
  rw[List.mem_singleton.1 hf]
  exact enters_of Tryz.func129 (by kernel_rfl) rfl) (fun k hk s' wr R' h1 h2 h3=>by
  obtain rfl:k=0:=by simp at hk; omega
  injection h1 with _ h1;subst h1
  exact VC wr p B _ R' s.nd.length h3 (by rw[jR]; omega))).mono ?_
 intro e w1 AA;rw[zCF] at AA
 rcases AA.unit with ⟨s',hr,rfl,ho⟩ | ⟨er,a,hr,he⟩
 ·have HR:Hid (JN i s=.ok () s'):=yD hr;have HO:=yD (OkP.trans (xH.ext HX.out) ho);clear AA hr ho
  go_wp2_with fail
  go_end0;rw[HR.out];exact xI.ok HO.out
 ·have HE:=yD (VK.trans (xH.ext HX.out) he);have HR:Hid (JN i s=.err er a):=yD hr;obtain⟨rfl,_⟩:=he;refine yZ (P:=Tryz.prog) (fn:=Tryz.f131) rfl ?_;rw[HR.out];exact HE.out
theorem zHg (w:World)(p B:Nat)(s:Ps)(R:xS)(i:Nat)(h:PS w p B s R)(hG:Good s)(hi:i<s.nd.length)(hbig:s.nd.length≤1000000) :
  Calls Tryz.prog 205 #[.pointer (some ⟨p,0,none⟩),.int .i64 (i:Int)] w (xI w p B R (JX i s)):=by
 have HP:=yD h;have HG:=yD hG;have hb:=h.fresh 73 #[.pointer (some ⟨p,0,none⟩)];have h1:=h.ext (Ext.alloc w (.cells #[.pointer (some ⟨p,0,none⟩)] 73));have hf:=h1.fresh 133 #[.func (.func 210) #[] #[.pointer (some ⟨w.heap.size,0,none⟩)]];have HB:=yD (hb.xJ (xH.ext (M:=xG p R) (Ext.alloc (w.alloc (.cells #[.pointer (some ⟨p,0,none⟩)] 73)) (.cells #[.func (.func 210) #[] #[.pointer (some ⟨w.heap.size,0,none⟩)]] 133))));rw[yQ] at hf;have HF:=yD hf;have HX:Hid (Ext w ((w.alloc (.cells #[.pointer (some ⟨p,0,none⟩)] 73)).alloc (.cells #[.func (.func 210) #[] #[.pointer (some ⟨w.heap.size,0,none⟩)]] 133))):=yD ((Ext.alloc _ _).trans (Ext.alloc _ _));have HI:=yD hi;have hm:=hmf;clear h hG hi hb h1 hf
 go_enter Tryz.func205,Tryz.ntmps205
 go_wp2_with fail
 refine(zCz _ p B s R i 21 _ [⟨210,#[],#[.pointer (some ⟨w.heap.size,0,none⟩)],zBr s.nd.length⟩] 1 (HP.out.ext HX.out) HI.out hbig (by simp) HG.out HF.out.row (fun f hf=>by
  rw[List.mem_singleton.1 hf]
  exact enters_of Tryz.func210 (by kernel_rfl) rfl) (fun k hk s' wr R' h1 h2 h3=>by
  obtain rfl:k=0:=by simp at hk; omega
  injection h1 with _ h1;subst h1
  exact zPw wr p B _ R' s.nd.length w.heap.size h3 (by rw[jR]; omega) (HB.out.xJ h2))).mono ?_
 intro e w1 AA;rw[zCF] at AA
 rcases AA.unit with ⟨s',hr,rfl,ho⟩ | ⟨er,a,hr,he⟩
 ·have HR:Hid (JX i s=.ok () s'):=yD hr;have HO:=yD (OkP.trans (xH.ext HX.out) ho);clear AA hr ho
  go_wp2_with fail
  go_end0;rw[HR.out];exact xI.ok HO.out
 ·have HE:=yD (VK.trans (xH.ext HX.out) he);have HR:Hid (JX i s=.err er a):=yD hr;obtain⟨rfl,_⟩:=he;refine yZ (P:=Tryz.prog) (fn:=Tryz.f205) rfl ?_;rw[HR.out];exact HE.out
def JP (p:Nat)(w:World):Nat:=match w.cell? ⟨p,0,none⟩ with
 | some (.slice _ n _)=>n
 | _=>0
theorem PS.JP {w:World}{p B:Nat}{s:Ps}{R:xS}(h:PS w p B s R):JP p w=s.ts.length:=by unfold Proofs.YtioffpjajhalaaaGreatDoor.JP; rw[h.x0]
theorem zTF (one:Pm Unit)(f:Nat)(s:Ps)(h:isP [44] s=false):JU one (f+1) s=.ok () s:=by unfold JU; rw[h]; rfl
theorem zRG (one:Pm Unit)(f:Nat)(s:Ps)(h:isP [44] s=true):JU one (f+1) s=(one s.adv).bind fun _ s=>JU one f s:=by rw[JU,if_pos h]
theorem zG4 (w:World)(p B:Nat)(s:Ps)(R:xS)(i:Nat)(f:KF)(h:PS w p B s R)(hG:Good s)(he:∀args w,(callFunc f.K args).run Tryz.prog w=.ok (.enter f.K args) w)(hfine:zBh f.m)
  (hone:∀(wr:World) (s':Ps) (R':xS),ZR s s'→xH w (xG p R) wr (xG p R')→PS wr p B s' R'→Calls Tryz.prog f.K (f.first.push (.int .i64 (i:Int))++f.cap) wr (xI wr p B R' (f.m s'))) :
  Calls Tryz.prog 130 #[.pointer (some ⟨p,0,none⟩),.int .i64 (i:Int),.func (.func f.K) f.first f.cap] w (xI w p B R (JC f.m s)):=by
 have HP:=yD h;have HG:=yD hG;have HO:=yD hone;have AH:=yD hfine;obtain⟨K,first,Ab,m⟩:=f
 simp only at he HO AH ⊢
 have HE:=yD he;clear h hG hone hfine he;have AD:=AH.out s HG.out
 cases hr:m s with
 | err er a=>
  have HC:Hid (xI w p B R (m s)=xI w p B R (.err er a)):=yD (by rw[hr]);have HL:Hid (JC m s=.err er a):=yD (by unfold JC; rw[hr]; rfl);clear hr AD;have he:=HE.out
  go_enter Tryz.func130,Tryz.ntmps130
  go_wp2_with fail
  refine(HO.out w s R (ZR.refl HG.out) (xH.refl _ _) HP.out).mono ?_;rw[HC.out];rintro e w1 ⟨rfl,ho⟩;refine yZ (P:=Tryz.prog) (fn:=Tryz.f130) rfl ?_;rw[HL.out];exact⟨rfl,ho⟩
 | ok a s1=>
  rw[hr] at AD;have Ac:Hid (ZR s s1):=yD AD;have HC:Hid (xI w p B R (m s)=xI w p B R (.ok a s1)):=yD (by rw[hr]);have HL:Hid (JC m s=JU m (s1.ts.length+1) s1):=yD (by unfold JC; rw[hr]; rfl);clear hr AD;have he:=HE.out
  go_enter Tryz.func130,Tryz.ntmps130
  go_wp2_with fail
  refine(HO.out w s R (ZR.refl HG.out) (xH.refl _ _) HP.out).mono ?_;rw[HC.out];rintro e w1 ⟨rfl,ho⟩;have AX:=yD ho;clear ho he
  go_wp2_with fail
  go_loopw [] (fun wr=>∃(s':Ps) (n:Nat),Hid (ZR s s')∧Hid (s'.ts.length<n)∧Hid (JC m s=JU m n s')∧Hid (OkP w p B R s' wr)) (fun wr=>JP p wr)
  case atStart=>exact⟨s1,s1.ts.length+1,Ac,yD (Nat.lt_succ_self _),HL,AX⟩
  case round=>
   obtain⟨s',n,AM,HN,AT,Aa⟩:=hrel;obtain⟨wa,rfl⟩:∃wa:World,wa=wr:=⟨_,rfl⟩;obtain⟨R',AP,AU⟩:=Aa.out;have AF:=yD AP;have AI:=yD AU;obtain⟨n',rfl⟩:∃n',n=n'+1:=⟨n-1,by have:=HN.out; omega⟩;clear AP AU
   cases hi:isP [44] s' with
   | false=>
    have HI:=yD hi;have HR:Hid (JC m s=.ok () s'):=yD (by rw[AT.out,zTF m n' s' hi]);clear hi
    go_wp2_with fail
    refine(zAQ wa p B s' R' [44] HI AF.out).mono ?_;rintro e w2 ⟨rfl,hx⟩;have AY:=yD (OkP.trans AI.out (AF.out.okp hx));clear hx
    go_wp2_with fail
    go_end0;rw[HR.out];exact xI.ok AY.out
   | true=>
    have HI:=yD hi;have AS:=(vI hi).1;have AJ:=VL AM.out.xQ AS;have AG:=yD (AM.out.trans AJ)
    have AQ:Hid (s'.adv.ts.length<s'.ts.length∧s'.adv.ts.length<n'):=yD (by
     have h1:=jX (s:=s');have h2:=AM.out.xQ.pos;have h3:=HN.out
     omega)
    have HQ:Hid (JC m s=(m s'.adv).bind fun _ s=>JU m n' s):=yD (by rw[AT.out,zRG m n' s' hi]);have AD:=AH.out s'.adv AJ.xQ;clear hi AS AJ
    cases hr:m s'.adv with
    | err er a=>
     have HC:Hid (m s'.adv=.err er a):=yD hr;clear hr AD;have he:=HE.out
     go_wp2_with fail
     refine(VO wa p B s' R' [44] HI AF.out).mono ?_;rintro e w2 ⟨rfl,ho⟩;obtain⟨R2,AB,AC⟩:=ho;have AE:=yD AB;have AA:=yD (AI.out.trans AC);clear AB AC
     go_wp2_with fail
     refine(HO.out w2 s'.adv R2 AG.out AA.out AE.out).mono ?_;intro e w3 hp;rw[HC.out] at hp;have AZ:Hid (xI w p B R (JC m s) (jW er) w3):=yD (by rw[HQ.out,HC.out]; obtain⟨_,h⟩:=hp; exact VK.trans AA.out ⟨rfl,h⟩);obtain⟨rfl,_⟩:=hp;exact yZ (P:=Tryz.prog) (fn:=Tryz.f130) rfl AZ.out
    | ok a s2=>
     rw[hr] at AD;have AK:Hid (ZR s'.adv s2):=yD AD;have HC:Hid (m s'.adv=.ok a s2):=yD hr;clear hr AD;have he:=HE.out
     go_wp2_with fail
     refine(VO wa p B s' R' [44] HI AF.out).mono ?_;rintro e w2 ⟨rfl,ho⟩;obtain⟨R2,AB,AC⟩:=ho;have AE:=yD AB;have AA:=yD (AI.out.trans AC);clear AB AC
     go_wp2_with fail
     refine(HO.out w2 s'.adv R2 AG.out AA.out AE.out).mono ?_;intro e w3 hp;rw[HC.out] at hp;obtain⟨rfl,AV⟩:=hp;have AR:=yD (OkP.trans AA.out AV);have AL:=yD (AG.out.trans AK.out);have AW:Hid (s2.ts.length<n'):=yD (by have:=AK.out.ts; have:=AQ.out; omega);have AN:Hid (JC m s=JU m n' s2):=yD (by rw[HQ.out,HC.out]; rfl)
     have Ad:Hid (JP p w3<JP p wa):=yD (by
      obtain⟨R3,AO,_⟩:=AR.out;rw[AO.JP,AF.out.JP]
      have:=AK.out.ts
      have:=AQ.out
      omega)
     clear AV he
     go_wp2_with fail
     go_roundw
     case rel=>exact⟨s2,n',AL,AW,AN,AR⟩
     case measure=>exact Ad.out
def Or (M X:Nat→Prop)(b:Nat):Prop:=M b∨X b
def OkX (X:Nat→Prop)(w:World)(p B:Nat)(R R':xS)(s':Ps)(w':World):Prop:=PS w' p B s' R'∧xH w (Or (xG p R) X) w' (Or (xG p R') X)
theorem xH.or {w w':World}{M M':Nat→Prop}(h:xH w M w' M')(X:Nat→Prop):xH w (Or M X) w' (Or M' X):=
 ⟨h.os,h.tape,h.output,h.size,fun b hb hM=>h.zAf b hb fun k=>hM (.inl k),fun b hb=>by
  rcases hb with hb | hb
  ·rcases h.zFT b hb with h1 | h1
   ·exact .inl (.inl h1)
   ·exact .inr h1
  ·exact .inl (.inr hb)⟩
def zAj {α:Type}(X:Nat→Prop)(w:World)(p B:Nat)(R:xS)(r:Res α)(V:α→xS→World→Prop)(e:Ending)(w':World):Prop:=
 match r with
 | .ok a s'=>e=.returned (.tuple #[])∧∃R',OkX X w p B R R' s' w'∧V a R' w'
 | .err er a=>e=jW er∧∃s' R',s'.hd.at_=a∧OkX X w p B R R' s' w'
theorem OkX.trans {X:Nat→Prop}{w w1 w2:World}{p B:Nat}{R R1 R2:xS}{s:Ps}(h:xH w (Or (xG p R) X) w1 (Or (xG p R1) X))(k:OkX X w1 p B R1 R2 s w2):OkX X w p B R R2 s w2:=⟨k.1,h.trans k.2⟩
theorem zAj.trans {α:Type}{X:Nat→Prop}{w w1 w2:World}{p B:Nat}{R R1:xS}{r:Res α}{V:α→xS→World→Prop}{e:Ending}(h:xH w (Or (xG p R) X) w1 (Or (xG p R1) X))(k:zAj X w1 p B R1 r V e w2):zAj X w p B R r V e w2:=by
 cases r with
 | ok a s=>obtain⟨h1,R',h2,h3⟩:=k; exact⟨h1,R',h2.trans h,h3⟩
 | err er a=>obtain⟨h1,s',R',h2,h3⟩:=k; exact⟨h1,s',R',h2,h3.trans h⟩
theorem zAj.ofU {X:Nat→Prop}{w:World}{p B:Nat}{R:xS}{r:Res Unit}{e:Ending}{w':World}(h:xI w p B R r e w'):zAj X w p B R r (fun _ _ _=>True) e w':=by
 cases r with
 | ok a s=>obtain⟨h1,R',h2,h3⟩:=h; exact⟨h1,R',⟨h2,h3.or X⟩,trivial⟩
 | err er a=>obtain⟨h1,s',h2,R',h3,h4⟩:=h; exact⟨h1,s',R',h2,h3,h4.or X⟩
theorem zAj.unit {α:Type}{X:Nat→Prop}{w:World}{p B:Nat}{R:xS}{r:Res α}{V:α→xS→World→Prop}{e:Ending}{w':World}(h:zAj X w p B R r V e w'):(∃a s' R',r=.ok a s'∧e=.returned (.tuple #[])∧OkX X w p B R R' s' w'∧V a R' w')∨(∃er a,r=.err er a∧e=jW er∧∃s' R',s'.hd.at_=a∧OkX X w p B R R' s' w'):=by
 cases r with
 | ok a s'=>obtain⟨h1,R',h2,h3⟩:=h; exact .inl ⟨a,s',R',rfl,h1,h2,h3⟩
 | err er a=>exact .inr ⟨er,a,rfl,h⟩
def noX:Nat→Prop:=fun _=>False
theorem zAj.toU {w:World}{p B:Nat}{R:xS}{r:Res Unit}{V:Unit→xS→World→Prop}{e:Ending}{w':World}(h:zAj noX w p B R r V e w'):xI w p B R r e w':=by
 have hm:∀ {w' R'},xH w (Or (xG p R) noX) w' (Or (xG p R') noX)→xH w (xG p R) w' (xG p R'):=fun h=>⟨h.os,h.tape,h.output,h.size,fun b hb hM=>h.zAf b hb (fun k=>by rcases k with k | k; exact hM k; exact k),fun b hb=>by
  rcases h.zFT b (.inl hb) with (h1 | h1) | h1
  ·exact .inl h1
  ·exact h1.elim
  ·exact .inr h1⟩
 cases r with
 | ok a s=>obtain⟨h1,R',h2,_⟩:=h; exact⟨h1,R',h2.1,hm h2.2⟩
 | err er a=>obtain⟨h1,s',R',h2,h3⟩:=h; exact⟨h1,s',h2,R',h3.1,hm h3.2⟩
theorem PS.zLH {w:World}{p B:Nat}{s:Ps}{R:xS}(h:PS w p B s R)(d:Nat)(hd:d≤64):PS (w.setCell ⟨p,2,none⟩ (.int .i64 (d:Int))) p B { s with deep:=d } R∧xH w (xG p R) (w.setCell ⟨p,2,none⟩ (.int .i64 (d:Int))) (xG p R):=by
 refine⟨⟨?_,fun k hk=>?_,h.zJS,h.zE4,h.nodes,?_,h.pB,⟨h.xQ.last,hd⟩⟩,xH.set (.inl rfl)⟩
 ·have:=h.blk.put 2 (.int .i64 (d:Int))
  simpa using this
 ·have AA:R.bt≠p:=by have:=h.zE4; have:=h.pB; omega
  exact(World.cell?_of_block (w:=w) (zQ w ⟨p,2,none⟩ _ R.bt AA)).trans (h.zNy k hk)
 ·refine h.ns.zAf fun b hb=>zQ w ⟨p,2,none⟩ _ b fun e=>?_;rw[e] at hb;exact h.ns.zDm h.blk (by decide) (by decide) hb
theorem zQx {α:Type}{a z:Bs}{body:Pm α}{s:Ps}(h:isP a s=false):xY a z body s=.err 50 s.hd.at_:=by unfold xY; rw[h]; rfl
theorem zNO {α:Type}{a z:Bs}{body:Pm α}{s:Ps}(h:isP a s=true)(hd:s.deep=64):xY a z body s=.err 51 s.hd.at_:=by unfold xY; rw[if_pos h,if_pos hd]
theorem zOE {α:Type}{a z:Bs}{body:Pm α}{s:Ps}(h:isP a s=true)(hd:s.deep≠64):xY a z body s=(body { s.adv with deep:=s.deep+1 }).bind fun x s=>if z=[] then .ok x { s with deep:=s.deep-1 } else (vE z s).bind fun _ s=>.ok x { s with deep:=s.deep-1 }:=by unfold xY; rw[if_pos h,if_neg hd]
theorem zCJ {α:Type}(X:Nat→Prop)(w:World)(p B:Nat)(s:Ps)(R:xS)(a z:Bs)(K:Nat)(first cap:Array Value)(body:Pm α)(V:α→xS→World→Prop)(h:PS w p B s R)(he:∀args w,(callFunc K args).run Tryz.prog w=.ok (.enter K args) w)
  (hV:∀x R1 w1 R2 w2,V x R1 w1→xH w1 (xG p R1) w2 (xG p R2)→V x R2 w2)
  (hdeep:isP a s=true→s.deep≠64→∀x s',body { s.adv with deep:=s.deep+1 } = .ok x s'→s'.deep=s.deep+1)
  (hbody:isP a s=true→s.deep≠64→∀(wr:World) (R':xS),xH w (xG p R) wr (xG p R')→PS wr p B { s.adv with deep:=s.deep+1 } R'→Calls Tryz.prog K (first++cap) wr (zAj X wr p B R' (body { s.adv with deep:=s.deep+1 }) V)) :
  Calls Tryz.prog 163 #[.pointer (some ⟨p,0,none⟩),.string (yX a),.string (yX z),.func (.func K) first cap] w (zAj X w p B R (xY a z body s) V):=by
 have HP:=yD h;have HE:=yD he;have HV:=yD hV;have AW:=yD hdeep;have HB:=yD hbody;clear h he hV hbody hdeep
 cases hi:isP a s with
 | false=>
  have HI:=yD hi;have HW:Hid (xY a z body s=.err 50 s.hd.at_):=yD (zQx hi);clear hi
  go_enter Tryz.func163,Tryz.ntmps163
  go_wp2_with fail
  refine(XT w p B s R a false HI HP.out).mono ?_;rintro e w1 ⟨rfl,AB⟩;have HF:Hid (zAj X w p B R (xY a z body s) V (jW 50) w1):=yD (by rw[HW.out]; exact⟨rfl,s,R,rfl,HP.out.ext AB,(xH.ext AB).or X⟩);clear AB
  go_wp2_with fail
  refine(zBx _ p 50).mono ?_;rintro e w2 ⟨rfl,rfl⟩;exact yZ (P:=Tryz.prog) (fn:=Tryz.f163) rfl HF.out
 | true=>
  have HI:=yD hi
  by_cases hd:s.deep=64
  ·have HW:Hid (xY a z body s=.err 51 s.hd.at_):=yD (zNO hi hd);have HD:=yD hd;clear hi hd
   go_enter Tryz.func163,Tryz.ntmps163
   go_wp2_with fail
   refine(XT w p B s R a true HI HP.out).mono ?_;rintro e w1 ⟨rfl,AB⟩;have HF:Hid (zAj X w p B R (xY a z body s) V (jW 51) w1):=yD (by rw[HW.out]; exact⟨rfl,s,R,rfl,HP.out.ext AB,(xH.ext AB).or X⟩);have x2:=(HP.out.ext AB).x2;rw[HD.out] at x2;clear AB
   go_wp2_with fail
   refine(zBx _ p 51).mono ?_;rintro e w2 ⟨rfl,rfl⟩;exact yZ (P:=Tryz.prog) (fn:=Tryz.f163) rfl HF.out
  ·have HD:=yD hd;have HW:=yD (zOE (z:=z) (body:=body) hi hd)
   have Ab:((s.deep:Int)==64)=false:=by rw[yF]; omega
   have Aa:=HP.out.xQ.deep;have Ac:=yD (vI hi).1;have HN:Hid ((s.deep:Int)+1=((s.deep+1:Nat):Int)):=yD (by omega);have AS:Hid (s.deep+1≤64):=yD (by omega);have HT:Hid (vE a { s with deep:=s.deep+1 } = .ok () { s.adv with deep:=s.deep+1 }):=yD (by unfold vE; rw[show isP a { s with deep:=s.deep+1 } = isP a s from rfl,if_pos hi]; rfl);clear hi hd
   go_enter Tryz.func163,Tryz.ntmps163
   go_wp2_with fail
   refine(XT w p B s R a true HI HP.out).mono ?_;rintro e w1 ⟨rfl,AB⟩;have AU:=yD AB;have AM:=yD (HP.out.ext AB);have x2:=AM.out.x2;have z2:=AM.out.blk.frozen 2;have AO:=yD (AM.out.zLH (s.deep+1) AS.out);clear AB
   go_wp2_with fail
   rw[HN.out];generalize w1.setCell ⟨p,2,none⟩ (.int .i64 ((s.deep+1:Nat):Int))=w2 at *;refine(vX w2 p B _ R a AO.out.1).mono ?_;rw[HT.out];rintro e w3 ⟨rfl,R3,AR,AQ⟩;have AV:=yD AR;have AG:=yD (((xH.ext AU.out).trans AO.out.2).trans AQ);clear AR AQ x2 z2;have he:=HE.out
   go_wp2_with fail
   refine(HB.out HI.out HD.out _ R3 AG.out AV.out).mono ?_;intro e w4 AA
   rcases AA.unit with ⟨x,s4,R4,hr,rfl,ho,hv⟩ | ⟨er,at_,hr,rfl,s4,R4,AH,ho⟩
   rotate_left
   ·have HF:Hid (zAj X w p B R (xY a z body s) V (jW er) w4):=yD (by rw[HW.out,hr]; exact⟨rfl,s4,R4,AH,ho.trans (AG.out.or X)⟩);exact yZ (P:=Tryz.prog) (fn:=Tryz.f163) rfl HF.out
   have HR:=yD hr;have AE:=yD ho.1;have AF:=yD ((AG.out.or X).trans ho.2);have AP:=yD hv;have AI:=yD (AW.out HI.out HD.out x s4 hr);clear AA hr ho hv he;have AY:s.deep+1≤64:=AS.out
   by_cases hz:z=[]
   ·have AK:Hid (xY a z body s=.ok x { s4 with deep:=s.deep }):=yD (by rw[HW.out,HR.out,vT,if_pos hz,AI.out]; rfl)
    have AZ:(yX z).toList.isEmpty=true:=by subst hz; rw[zBL]; rfl
    have x2:=AE.out.x2;rw[AI.out] at x2;have z2:=AE.out.blk.frozen 2;have AJ:=yD (AE.out.zLH s.deep (by omega));clear hz
    go_wp2_with fail
    go_end0;rw[AK.out];exact⟨rfl,R4,⟨AJ.out.1,AF.out.trans (AJ.out.2.or X)⟩,HV.out _ _ _ _ _ AP.out AJ.out.2⟩
   ·have AZ:(yX z).toList.isEmpty=false:=by
     cases z with
     | nil=>exact absurd rfl hz
     | cons b l=>simp[zBL]
    have HZ:=yD hz;clear hz
    go_wp2_with fail
    refine(vX w4 p B s4 R4 z AE.out).mono ?_;intro e w5 AA
    cases hq:vE z s4 with
    | err er at_=>
     rw[hq] at AA;obtain⟨rfl,s5,AH,R5,AC,AD⟩:=AA;have HF:Hid (zAj X w p B R (xY a z body s) V (jW er) w5):=yD (by rw[HW.out,HR.out,vT,if_neg HZ.out,hq]; exact⟨rfl,s5,R5,AH,AC,AF.out.trans (AD.or X)⟩);exact yZ (P:=Tryz.prog) (fn:=Tryz.f163) rfl HF.out
    | ok y s5=>
     rw[hq] at AA;obtain⟨rfl,R5,AC,AD⟩:=AA
     have AL:s5.deep=s.deep+1:=by
      unfold vE at hq
      split at hq
      ·injection hq with _ e2;rw[←e2];exact AI.out
      ·cases hq
     have AK:Hid (xY a z body s=.ok x { s5 with deep:=s.deep }):=yD (by rw[HW.out,HR.out,vT,if_neg HZ.out,hq,vT,AL]; rfl);have x2:=AC.x2;rw[AL] at x2;have z2:=AC.blk.frozen 2;have AN:=yD (AC.zLH s.deep (by omega));have AT:=yD (AF.out.trans (AD.or X));have AX:=yD (HV.out _ _ _ _ _ AP.out AD);clear hq AC AD AL
     go_wp2_with fail
     go_end0;rw[AK.out];exact⟨rfl,R5,⟨AN.out.1,AT.out.trans (AN.out.2.or X)⟩,HV.out _ _ _ _ _ AX.out AN.out.2⟩
structure Ran (w:World)(p B:Nat)(R:xS)(s:Ps)(w':World)(R':xS)(s':Ps):Prop where
 ps:PS w' p B s' R'
 mv:xH w (xG p R) w' (xG p R')
 lt:ZR s s'
theorem Ran.refl {w:World}{p B:Nat}{R:xS}{s:Ps}(h:PS w p B s R)(g:Good s):Ran w p B R s w R s:=⟨h,xH.refl _ _,ZR.refl g⟩
theorem Ran.ext {w w' w2:World}{p B:Nat}{R R':xS}{s s':Ps}(h:Ran w p B R s w' R' s')(hx:Ext w' w2):Ran w p B R s w2 R' s':=⟨h.ps.ext hx,h.mv.trans (xH.ext hx),h.lt⟩
theorem Ran.nd {w w':World}{p B:Nat}{R R':xS}{s s':Ps}(h:Ran w p B R s w' R' s')(hb:s.phi≤1000000):s'.nd.length≤1000000:=by have:=h.lt.phi; unfold Ps.phi at this hb; omega
theorem Ran.phi {w w':World}{p B:Nat}{R R':xS}{s s':Ps}(h:Ran w p B R s w' R' s')(hb:s.phi≤1000000):s'.phi≤1000000:=Nat.le_trans h.lt.phi hb
theorem Ran.idx {w w':World}{p B:Nat}{R R':xS}{s s':Ps}(h:Ran w p B R s w' R' s'){i:Nat}(hi:i<s.nd.length):i<s'.nd.length:=yR hi h.lt.nd
theorem Ran.few {w w':World}{p B:Nat}{R R':xS}{s s':Ps}(h:Ran w p B R s w' R' s'){n:Nat}(hn:s.ts.length≤n):s'.ts.length≤n:=Nat.le_trans h.lt.ts hn
theorem Ran.okp {w w':World}{p B:Nat}{R R':xS}{s s':Ps}(h:Ran w p B R s w' R' s'):OkP w p B R s' w':=⟨R',h.ps,h.mv⟩
theorem Ran.then {w w1 w2:World}{p B:Nat}{R R1:xS}{s s1 s2:Ps}(h:Ran w p B R s w1 R1 s1)(k:OkP w1 p B R1 s2 w2)(hl:ZR s1 s2):∃R2,Ran w p B R s w2 R2 s2:=let ⟨R2,a,b⟩:=k; ⟨R2,a,h.mv.trans b,h.lt.trans hl⟩
theorem Ran.go {α:Type}{w w1 w2:World}{p B:Nat}{R R1:xS}{s s1:Ps}{r:Res Unit}{whole:Res α}{f:Unit→Ps→Res α}{e:Ending}(HL:Hid (whole=r.bind f))(h:Hid (Ran w p B R s w1 R1 s1))(hf:jM s1 r)(hp:xI w1 p B R1 r e w2) :
  (∃s2 R2,Hid (whole=f () s2)∧e=.returned (.tuple #[])∧Hid (Ran w p B R s w2 R2 s2))∨(∃er a,e=jW er∧Hid (whole=.err er a)∧Hid (VK w p B R er a (jW er) w2)):=by
 cases r with
 | ok a s2=>
  obtain⟨h1,R2,h2,h3⟩:=hp;exact .inl ⟨s2,R2,yD HL.out,h1,yD ⟨h2,h.out.mv.trans h3,h.out.lt.trans hf⟩⟩
 | err er a=>
  obtain⟨h1,h2⟩:=hp;exact .inr ⟨er,a,h1,yD HL.out,yD (VK.trans h.out.mv ⟨rfl,h2⟩)⟩
theorem ZH {r whole:Res Unit}(h:whole=r):whole=r.bind fun _ s=>.ok () s:=by rw[h]; cases r <;> rfl
theorem zG8 {α:Type}{s:Ps}{t:Bs}{whole x y:Res α}(h:Hid (whole=if isP t s=true then x else y))(hi:Hid (isP t s=true)):whole=x:=by rw[h.out,if_pos hi.out]
theorem zKH {α:Type}{s:Ps}{t:Bs}{whole x y:Res α}(h:Hid (whole=if isP t s=true then x else y))(hi:Hid (isP t s=false)):whole=y:=by rw[h.out,hi.out]; rfl
theorem ZR.num {s:Ps}(h:Good s)(i:Nat)(x:Int):ZR s (s.num i x):=zAz h (fun _=>rfl)
theorem ZR.kind {s:Ps}(h:Good s)(i k:Nat):ZR s (s.kind i k):=zAz h (fun _=>rfl)
theorem zBw {s:Ps}{t:Bs}(g:Good s)(h:Hid (isP t s=true)):ZR s s.adv:=VL g (vI h.out).1
end Go.Proofs.YtioffpjajhalaaaGreatDoor
