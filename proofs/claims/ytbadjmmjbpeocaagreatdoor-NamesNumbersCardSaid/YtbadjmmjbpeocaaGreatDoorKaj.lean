/- The program's named, marked, number's maker. (and what follows of it). The conditions stand at each lemma. -/
import Derived.Test.YtbadjmmjbpeocaaGreatDoorKaa
import Derived.Test.YtbadjmmjbpeocaaGreatDoorKai
import Derived.Deep.RegionHeld3
import Derived.Deep.Cut
set_option linter.unusedVariables false
set_option linter.unusedSimpArgs false
set_option maxRecDepth 100000
set_option maxHeartbeats 16000000
namespace Go.Proofs.YtbadjmmjbpeocaaGreatDoor
open Go Go.RowKit
theorem PS.put {w:World}{p B:Nat}{s:Ps}{R:xV}(h:PS w p B s R)(i:Nat)(hi:i<R.nh.length)(j:Nat)(hj:j<5)(u:Value)(f:Nd→Nd)(hk:∀x,(f x).kids=x.kids)(hf:YH (f R.nh[i].1,R.nh[i].2)=(YH R.nh[i]).set j u){g:Nat}(hA:R.A=some ⟨g,0,none⟩) :
  OkP w p B R (s.on i f) (w.setCell ⟨g,i*5+j,none⟩ u):=by
 have hns:=h.ns.put (by decide) i hi j hj u f hk hf hA
 have hpg:p≠g:=fun e=>by
  obtain⟨cur,hc⟩:=xY h.ns.row hA;rw[←e] at hc;exact Blk.differ h.blk hc (by decide) rfl
 have hgB:=(jE h.ns.row hA).1;refine⟨{ R with nh:=R.nh.modify i fun x=>(f x.1,x.2) },⟨?_,fun k hk=>?_,h.zJo,h.zEY,?_,hns,h.pB,⟨h.xS.last,h.xS.deep⟩⟩,?_⟩
 ·have:=h.blk.far (p:=⟨g,i*5+j,none⟩) hpg u
  show Blk _ p 72 #[.slice _ s.ts.length _,.slice _ (R.nh.modify i _).length _,.int .i64 (s.deep:Int)]
  rw[List.length_modify];exact this
 ·have hlt:=h.zEY
  have hne:R.bt≠g:=by omega
  have e2:=World.cell?_of_block (w:=w) (w':=w.setCell ⟨g,i*5+j,none⟩ u) (a:=⟨R.bt,R.ot+k,none⟩) (zS w ⟨g,i*5+j,none⟩ _ R.bt hne);exact e2.trans (h.zMQ k hk)
 ·show s.nd.modify i f=_
  rw[zFh Prod.fst _ f (fun x=>rfl),←h.nodes]
 ·refine⟨rfl,rfl,rfl,by simp[World.setCell],fun b hb hM=>zS w ⟨g,i*5+j,none⟩ _ b (fun e=>hM (.inr (.inl (by rw[e]; exact hA)))),fun b hb=>?_⟩
  rcases hb with hb | hb
  ·exact .inl (.inl hb)
  ·exact .inl (.inr (zRI i f b hb))
theorem PS.zIu {w:World}{p B:Nat}{s:Ps}{R:xV}(h:PS w p B s R){i:Nat}(hi:i<s.nd.length):∃g,∃hi':i<R.nh.length,R.A=some ⟨g,0,none⟩∧g<w.heap.size∧g≠p:=by
 have hlen:=h.len
 have hi':i<R.nh.length:=by omega
 obtain⟨g,hA⟩:=h.zRt (by omega);refine⟨g,hi',hA,(jE h.ns.row hA).2,fun e=>?_⟩;obtain⟨cur,hc⟩:=xY h.ns.row hA;rw[e] at hc;exact Blk.differ h.blk hc (by decide) rfl
theorem PS.x1' {w:World}{p B:Nat}{s:Ps}{R:xV}(h:PS w p B s R){g:Nat}(hA:R.A=some ⟨g,0,none⟩):w.cell? ⟨p,1,none⟩=some (.slice (some ⟨g,0,none⟩) R.nh.length R.c):=by rw[←hA]; exact h.x1
theorem zEm {P:Program}{id:Nat}{Q':Exit→Act→World→Prop}{a:Act}{w:World}{l:List Oper}{ks:List Take}(X:List PanicEntry→World→Prop)(hm:P.follows .mixedOrders=true)(hB:YF l.toArray l.length=true)(hT:zCh l.toArray l.length=true)
  (hX:∀a',a'.defers=a.defers→∀c w,X c w→Q' (.panic c) a' w) (h:zA6 X P l.toArray Ext w (fun a' w'=>Q' .normal a' w') l ks a []):(Code.region id l.toArray true).wp P Q' a w:=by
 refine zGL (R:=Ext) l.length ks hm hB hT (fun _ _ _=>Ext.trans) (Below.drew (Below.refl _ _)) hX ?_;rw[List.take_length,List.drop_length];exact h
theorem zCN (w:World)(p B:Nat)(s:Ps)(R:xV)(i:Nat)(h:PS w p B s R)(hi:i<s.nd.length) :
  Calls Tryz.prog 95 #[.pointer (some ⟨p,0,none⟩),.int .i64 (i:Int)] w (xN w p B R (.ok () (s.num i 1))):=by
 obtain⟨g,hi',hA,hgl,hgp⟩:=h.zIu hi;have c3:∃v,w.cell? ⟨g,i*5+3,none⟩=some (.int .i64 v):=⟨_,by rw[h.zC8 i hi' hA 3 (by decide)]; rfl⟩;obtain⟨v,c3⟩:=c3;have z3:=h.zJY (i*5+3) hA;have x1:=h.x1' hA;have HF:Hid (OkP w p B R (s.num i 1) (w.setCell ⟨g,i*5+3,none⟩ (.int .i64 1))):=yG (h.put i hi' 3 (by decide) _ (fun n=>{ n with num:=1 }) (fun _=>rfl) rfl hA)
 have q0:(i:Int)<(R.nh.length:Int):=by omega
 clear h hA hi
 go_enter Tryz.func95,Tryz.ntmps95
 go_wp2
 go_end0;exact xN.ok HF.out
theorem JV (w:World)(p B:Nat)(s:Ps)(R:xV)(i:Nat)(h:PS w p B s R)(hi:i<s.nd.length) :
  Calls Tryz.prog 90 #[.pointer (some ⟨p,0,none⟩),.int .i64 (i:Int)] w (xN w p B R (jS i s)):=by
 obtain⟨g,hi',hA,hgl,hgp⟩:=h.zIu hi;have x1:=h.x1' hA;have q0:(0:Int)≤(i:Int):=Int.natCast_nonneg _
 have q1:(i:Int)<(R.nh.length:Int):=by omega
 have HP:=yG h;have HA:=yG hA;have hf3:=zAf;have hpl:=h.blk.lt;clear h hA hi
 by_cases hk:s.hd.kind=1
 ·have HK:=yG hk;have HN:Hid (jS i s=.ok () (s.adv.text i s.hd.text)):=yG (by unfold jS ofP; rw[if_pos hk]; rfl);clear hk
  go_enter Tryz.func90,Tryz.ntmps90
  go_wp2_with fail
  go_region_held3 (fun w'=>w'.cell? ⟨p,1,none⟩=some (.slice (some ⟨g,0,none⟩) R.nh.length R.c))
   (first
    | assumption
    | go_keep
    | exact y1s _)
   (first
    | (go_at_call 120; refine(zIx _ p B s R 1 HK (by decide) (HP.out.ext (by first | exact Ext.refl _ | exact Below.drew (Below.refl _ _)))).mono ?_; rintro e w1 ⟨rfl,ho⟩; simp only[ZW]; have y1:=ho.1.x1' HA.out; have HO:=yG ho; have c2:w1.cell? ⟨g,i*5+2,none⟩=some (.string (xI R.nh[i].1.text)):=(ho.1.zC8 i hi' HA.out 2 (by decide)); have z2:=ho.1.zJY (i*5+2) HA.out; have y1s:∀u,(w1.setCell ⟨g,i*5+2,none⟩ u).cell? ⟨p,1,none⟩=some (.slice (some ⟨g,0,none⟩) R.nh.length R.c):=fun u=>(World.cell?_of_block (w:=w1) (a:=⟨p,1,none⟩) (zS w1 ⟨g,i*5+2,none⟩ u p (fun e=>hgp e.symm))).trans y1; clear ho)
    | (fail))
  have HF:Hid (OkP w p B R (s.adv.text i s.hd.text) (w1.setCell ⟨g,i*5+2,none⟩ (.string (xI s.hd.text)))):=yG (OkP.trans ((xD.ext (Below.drew (Below.refl _ _))).trans HO.out.2) (HO.out.1.put i hi' 2 (by decide) _ (fun n=>{ n with text:=s.hd.text }) (fun _=>rfl) rfl HA.out))
  go_wp2_with fail
  go_end0;rw[HN.out];exact xN.ok HF.out
 ·have HK:Hid (s.hd.kind≠1):=yG hk;have HN:Hid (jS i s=.err 50 s.hd.at_):=yG (by unfold jS ofP; rw[if_neg hk]; rfl);clear hk
  go_enter Tryz.func90,Tryz.ntmps90
  go_wp2_with fail
  have HX:Hid (∀w',Ext w w'→∀e w2,VH w' p B R 50 s.hd.at_ e w2→xN w p B R (jS i s) e w2):=yG fun w' hx e w2 he=>by rw[HN.out]; exact VH.trans (xD.ext hx) he
  apply zEm (fun c w2=>xN w p B R (jS i s) (.panicked c) w2) (by kernel_rfl) (by kernel_rfl) (by kernel_rfl) (fun a' ha c w2 hx=>⟨ha,hx⟩);apply jA (.pointer (some ⟨p,0,none⟩)) rfl rfl rfl
  ·intro w' hw' hH;clear hH hw';simp[vP,go_sem];exact Ext.refl _
  apply jA (.pointer (some ⟨p,0,none⟩)) rfl rfl rfl
  ·intro w' hw' hH;clear hH hw';simp[vP,go_sem];exact Ext.refl _
  apply jA (.pointer (some ⟨p,1,none⟩)) rfl rfl rfl
  ·intro w' hw' hH;clear hH hw';simp[vP,go_sem];exact Ext.refl _
  apply jA (.slice (some ⟨g,0,none⟩) R.nh.length R.c) rfl rfl rfl
  ·intro w' hw' hH;have cc:=(hw'.cell (p:=⟨p,1,none⟩) hpl).trans x1;clear hH hw';simp[vP,go_sem,cc];exact Ext.refl _
  apply jA (.int .i64 (i:Int)) rfl rfl rfl
  ·intro w' hw' hH;clear hH hw';simp[vP,go_sem];exact Ext.refl _
  apply jA (.pointer (some ⟨p,0,none⟩)) rfl rfl rfl
  ·intro w' hw' hH;clear hH hw';simp[vP,go_sem];exact Ext.refl _
  simp only[Act.put,yD,yE,yF];apply VU (fun _ _=>False) (fun v w w' h hx=>h) rfl rfl rfl
  ·intro w' hw' hH;clear hH;simp[vP,go_sem];refine(zSI w' p B s R 1 HK (HP.out.ext hw')).mono ?_;intro e w2 he;exact⟨_,he.1,by have:=HX.out w' hw' e w2 he; rw[he.1] at this; exact this⟩
  intro v10;simp only[Act.put,yD,yE,yF];apply VU (fun _ _=>False) (fun v w w' h hx=>h) rfl rfl rfl
  ·intro w' hw' hH;exact(hH _ (List.mem_cons_self ..) ⟨_,rfl,by decide⟩).elim
  intro v11;simp only[Act.put,yD,yE,yF];apply jA (.pointer (some ⟨g,i*5,none⟩)) rfl rfl rfl
  ·intro w' hw' hH;clear hH hw';simp[vP,go_sem,q1];exact Ext.refl _
  apply jA (.pointer (some ⟨g,i*5+2,none⟩)) rfl rfl rfl
  ·intro w' hw' hH;clear hH hw';simp[vP,go_sem,q1];exact Ext.refl _
  simp only[Act.put,yD,yE,yF];apply VU (fun _ _=>False) (fun v w w' h hx=>h) rfl rfl rfl
  ·intro w' hw' hH;exact(hH _ (List.mem_cons_self ..) ⟨_,rfl,by decide⟩).elim
  intro v12;simp only[Act.put,yD,yE,yF];apply zGo;intro w' hw' hH;exact(hH _ (List.mem_cons_self ..)).elim
theorem zOV (w:World)(p B:Nat)(s:Ps)(R:xV)(i gc:Nat)(h:PS w p B s R)(hi:i<s.nd.length)(hs:Safe w (xL p R) gc 70 #[.pointer (some ⟨p,0,none⟩)]) :
  Calls Tryz.prog 166 #[.int .i64 (i:Int),.pointer (some ⟨gc,0,none⟩)] w (xN w p B R (zCY i s)):=by
 obtain⟨g,hi',hA,hgl,hgp⟩:=h.zIu hi;have x1:=h.x1' hA;have q0:(0:Int)≤(i:Int):=Int.natCast_nonneg _
 have q1:(i:Int)<(R.nh.length:Int):=by omega
 have HP:=yG h;have HA:=yG hA;have hf4:=zDe;have hpl:=h.blk.lt;have hcl:=hs.1.lt;have cg:w.cell? ⟨gc,0,none⟩=some (.pointer (some ⟨p,0,none⟩)):=hs.1.cell 0;have HSF:=yG hs;have hcp:gc≠p:=fun e=>hs.2 (.inl e);have hcg:gc≠g:=fun e=>hs.2 (.inr (.inl (by rw[e]; exact hA)));clear h hA hi hs
 by_cases hk:s.hd.kind=2
 ·have HK:=yG hk;have HN:Hid (zCY i s=.ok () (s.adv.num i s.hd.n)):=yG (by unfold zCY ofP; rw[if_pos hk]; rfl);clear hk
  go_enter Tryz.func166,Tryz.ntmps166
  go_wp2_with fail
  go_region_held3 (fun w'=>w'.cell? ⟨p,1,none⟩=some (.slice (some ⟨g,0,none⟩) R.nh.length R.c)∧w'.cell? ⟨gc,0,none⟩=some (.pointer (some ⟨p,0,none⟩)))
   (first
    | exact⟨y1,yg⟩
    | go_keep
    | exact⟨y1s _,ygs _⟩)
   (first
    | (go_at_call 120; refine(zIx _ p B s R 2 HK (by decide) (HP.out.ext (by first | exact Ext.refl _ | exact Below.drew (Below.refl _ _)))).mono ?_; rintro e w1 ⟨rfl,ho⟩; simp only[ZW]; have y1:=ho.1.x1' HA.out; have HO:=yG ho; have c2:w1.cell? ⟨g,i*5+3,none⟩=some (.int .i64 R.nh[i].1.num):=(ho.1.zC8 i hi' HA.out 3 (by decide)); have z2:=ho.1.zJY (i*5+3) HA.out; have yg:w1.cell? ⟨gc,0,none⟩=some (.pointer (some ⟨p,0,none⟩)):=((HSF.out.xG (xD.ext (Below.drew (Below.refl _ _)))).xG ho.2).1.cell 0; have ygs:∀u,(w1.setCell ⟨g,i*5+3,none⟩ u).cell? ⟨gc,0,none⟩=some (.pointer (some ⟨p,0,none⟩)):=fun u=>(World.cell?_of_block (w:=w1) (a:=⟨gc,0,none⟩) (zS w1 ⟨g,i*5+3,none⟩ u gc hcg)).trans yg; have y1s:∀u,(w1.setCell ⟨g,i*5+3,none⟩ u).cell? ⟨p,1,none⟩=some (.slice (some ⟨g,0,none⟩) R.nh.length R.c):=fun u=>(World.cell?_of_block (w:=w1) (a:=⟨p,1,none⟩) (zS w1 ⟨g,i*5+3,none⟩ u p (fun e=>hgp e.symm))).trans y1; clear ho)
    | (fail))
  have HF:Hid (OkP w p B R (s.adv.num i s.hd.n) (w1.setCell ⟨g,i*5+3,none⟩ (.int .i64 s.hd.n))):=yG (OkP.trans ((xD.ext (Below.drew (Below.refl _ _))).trans HO.out.2) (HO.out.1.put i hi' 3 (by decide) _ (fun n=>{ n with num:=s.hd.n }) (fun _=>rfl) rfl HA.out))
  go_wp2_with fail
  go_end0;rw[HN.out];exact xN.ok HF.out
 ·have HK:Hid (s.hd.kind≠2):=yG hk;have HN:Hid (zCY i s=.err 50 s.hd.at_):=yG (by unfold zCY ofP; rw[if_neg hk]; rfl);clear hk
  go_enter Tryz.func166,Tryz.ntmps166
  go_wp2_with fail
  have HX:Hid (∀w',Ext w w'→∀e w2,VH w' p B R 50 s.hd.at_ e w2→xN w p B R (zCY i s) e w2):=yG fun w' hx e w2 he=>by rw[HN.out]; exact VH.trans (xD.ext hx) he
  apply zEm (fun c w2=>xN w p B R (zCY i s) (.panicked c) w2) (by kernel_rfl) (by kernel_rfl) (by kernel_rfl) (fun a' ha c w2 hx=>⟨ha,hx⟩);apply jA (.pointer (some ⟨p,0,none⟩)) rfl rfl rfl
  ·intro w' hw' hH;have cc:=(hw'.cell (p:=⟨gc,0,none⟩) hcl).trans cg;clear hH hw';simp[vP,go_sem,cc];exact Ext.refl _
  apply jA (.pointer (some ⟨p,0,none⟩)) rfl rfl rfl
  ·intro w' hw' hH;clear hH hw';simp[vP,go_sem];exact Ext.refl _
  apply jA (.pointer (some ⟨p,1,none⟩)) rfl rfl rfl
  ·intro w' hw' hH;clear hH hw';simp[vP,go_sem];exact Ext.refl _
  apply jA (.slice (some ⟨g,0,none⟩) R.nh.length R.c) rfl rfl rfl
  ·intro w' hw' hH;have cc:=(hw'.cell (p:=⟨p,1,none⟩) hpl).trans x1;clear hH hw';simp[vP,go_sem,cc];exact Ext.refl _
  apply jA (.int .i64 (i:Int)) rfl rfl rfl
  ·intro w' hw' hH;clear hH hw';simp[vP,go_sem];exact Ext.refl _
  apply jA (.pointer (some ⟨p,0,none⟩)) rfl rfl rfl
  ·intro w' hw' hH;have cc:=(hw'.cell (p:=⟨gc,0,none⟩) hcl).trans cg;clear hH hw';simp[vP,go_sem,cc];exact Ext.refl _
  simp only[Act.put,yD,yE,yF];apply VU (fun _ _=>False) (fun v w w' h hx=>h) rfl rfl rfl
  ·intro w' hw' hH;clear hH;simp[vP,go_sem];refine(zSI w' p B s R 2 HK (HP.out.ext hw')).mono ?_;intro e w2 he;exact⟨_,he.1,by have:=HX.out w' hw' e w2 he; rw[he.1] at this; exact this⟩
  intro v10;simp only[Act.put,yD,yE,yF];apply VU (fun _ _=>False) (fun v w w' h hx=>h) rfl rfl rfl
  ·intro w' hw' hH;exact(hH _ (List.mem_cons_self ..) ⟨_,rfl,by decide⟩).elim
  intro v11;simp only[Act.put,yD,yE,yF];apply jA (.pointer (some ⟨g,i*5,none⟩)) rfl rfl rfl
  ·intro w' hw' hH;clear hH hw';simp[vP,go_sem,q1];exact Ext.refl _
  apply jA (.pointer (some ⟨g,i*5+3,none⟩)) rfl rfl rfl
  ·intro w' hw' hH;clear hH hw';simp[vP,go_sem,q1];exact Ext.refl _
  simp only[Act.put,yD,yE,yF];apply VU (fun _ _=>False) (fun v w w' h hx=>h) rfl rfl rfl
  ·intro w' hw' hH;exact(hH _ (List.mem_cons_self ..) ⟨_,rfl,by decide⟩).elim
  intro v12;simp only[Act.put,yD,yE,yF];apply zGo;intro w' hw' hH;exact(hH _ (List.mem_cons_self ..)).elim
theorem PS.ZU {w:World}{p B:Nat}{s:Ps}{R:xV}(h:PS w p B s R){b:Nat}(hb:xL p R b):b<w.heap.size:=by
 rcases hb with rfl | hb
 ·exact h.blk.lt
 ·exact(h.ns.ZU hb).2
theorem PS.fresh {w:World}{p B:Nat}{s:Ps}{R:xV}(h:PS w p B s R)(t:TypeId)(cs:Array Value):Safe (w.alloc (.cells cs t)) (xL p R) w.heap.size t cs:=⟨Blk.new _ _ _,fun hb=>by have:=h.ZU hb; omega⟩
theorem Safe.row {w:World}{M:Nat→Prop}{g:Nat}{t:TypeId}{cs:Array Value}(h:Safe w M g t cs):XE w M (some ⟨g,0,none⟩) cs.toList:=
 .inr ⟨g,0,rfl,h.1.lt,h.2,fun k hk=>by rw[Nat.zero_add,h.1.cell k]; simp⟩
theorem zJ2 (r:Res Unit):(r.bind fun _ s=>.ok () s)=r:=by cases r <;> rfl
theorem zCE (f:KF)(s:Ps):zC2 [f] s=f.m s:=zJ2 _
theorem zDS.unit {w:World}{p B:Nat}{R:xV}{v:Value}{r:Res Unit}{e:Ending}{w':World}(h:zDS w p B R v r e w'):(∃s',r=.ok () s'∧e=.returned v∧OkP w p B R s' w')∨(∃er a,r=.err er a∧VH w p B R er a e w'):=by
 cases r with
 | ok a s'=>exact .inl ⟨s',rfl,h.1,h.2⟩
 | err er a=>exact .inr ⟨er,a,rfl,h⟩
theorem xN.unit {w:World}{p B:Nat}{R:xV}{r:Res Unit}{e:Ending}{w':World}(h:xN w p B R r e w'):(∃s',r=.ok () s'∧e=.returned (.tuple #[])∧OkP w p B R s' w')∨(∃er a,r=.err er a∧VH w p B R er a e w'):=by
 cases r with
 | ok a s'=>exact .inl ⟨s',rfl,h.1,h.2⟩
 | err er a=>exact .inr ⟨er,a,rfl,h⟩
theorem hmf (fn:Fn)(first cap:Array Value)(w:World):(Instr.makeFunc fn first cap).run Tryz.prog w=.ok (.func fn first cap) w:=rfl
theorem zCn (w:World)(p B:Nat)(s:Ps)(R:xV)(i:Nat)(h:PS w p B s R)(hG:Good s)(hi:i<s.nd.length)(hbig:s.nd.length≤1000000) :
  Calls Tryz.prog 92 #[.pointer (some ⟨p,0,none⟩),.int .i64 (i:Int)] w (xN w p B R (zAI i s)):=by
 have HP:=yG h;have HG:=yG hG;have HF:=yG (h.fresh 90 #[.func (.func 90) #[.pointer (some ⟨p,0,none⟩)] #[]]);have HX:Hid (Ext w (w.alloc (.cells #[.func (.func 90) #[.pointer (some ⟨p,0,none⟩)] #[]] 90))):=yG (Ext.alloc _ _);have HI:=yG hi;have hm:=hmf;clear h hG hi
 go_enter Tryz.func92,Tryz.ntmps92
 go_wp2_with fail
 refine(zCw _ p B s R i 5 _ [⟨90,#[.pointer (some ⟨p,0,none⟩)],#[],jS s.nd.length⟩] 1 (HP.out.ext HX.out) HI.out hbig (by simp) HG.out HF.out.row (fun f hf=>by
  rw[List.mem_singleton.1 hf]
  exact enters_of Tryz.func90 (by kernel_rfl) rfl) (fun k hk s' wr R' h1 h2 h3=>by
  obtain rfl:k=0:=by simp at hk; omega
  injection h1 with _ h1;subst h1
  exact JV wr p B _ R' s.nd.length h3 (by rw[jT]; omega))).mono ?_
 intro e w1 hpost;rw[zCE] at hpost
 rcases hpost.unit with ⟨s',hr,rfl,ho⟩ | ⟨er,a,hr,he⟩
 ·have HR:Hid (zAI i s=.ok () s'):=yG hr;have HO:=yG (OkP.trans (xD.ext HX.out) ho);clear hpost hr ho
  go_wp2_with fail
  go_end0;rw[HR.out];exact xN.ok HO.out
 ·have HE:=yG (VH.trans (xD.ext HX.out) he);have HR:Hid (zAI i s=.err er a):=yG hr;obtain⟨rfl,_⟩:=he;refine xE (P:=Tryz.prog) (fn:=Tryz.f92) rfl ?_;rw[HR.out];exact HE.out
theorem zGU (w:World)(p B:Nat)(s:Ps)(R:xV)(i:Nat)(h:PS w p B s R)(hG:Good s)(hi:i<s.nd.length)(hbig:s.nd.length≤1000000) :
  Calls Tryz.prog 162 #[.pointer (some ⟨p,0,none⟩),.int .i64 (i:Int)] w (xN w p B R (zCG i s)):=by
 have HP:=yG h;have HG:=yG hG;have hb:=h.fresh 70 #[.pointer (some ⟨p,0,none⟩)];have h1:=h.ext (Ext.alloc w (.cells #[.pointer (some ⟨p,0,none⟩)] 70));have hf:=h1.fresh 90 #[.func (.func 166) #[] #[.pointer (some ⟨w.heap.size,0,none⟩)]];have HB:=yG (hb.xG (xD.ext (M:=xL p R) (Ext.alloc (w.alloc (.cells #[.pointer (some ⟨p,0,none⟩)] 70)) (.cells #[.func (.func 166) #[] #[.pointer (some ⟨w.heap.size,0,none⟩)]] 90))));rw[yT] at hf;have HF:=yG hf;have HX:Hid (Ext w ((w.alloc (.cells #[.pointer (some ⟨p,0,none⟩)] 70)).alloc (.cells #[.func (.func 166) #[] #[.pointer (some ⟨w.heap.size,0,none⟩)]] 90))):=yG ((Ext.alloc _ _).trans (Ext.alloc _ _));have HI:=yG hi;have hm:=hmf;clear h hG hi hb h1 hf
 go_enter Tryz.func162,Tryz.ntmps162
 go_wp2_with fail
 refine(zCw _ p B s R i 21 _ [⟨166,#[],#[.pointer (some ⟨w.heap.size,0,none⟩)],zCY s.nd.length⟩] 1 (HP.out.ext HX.out) HI.out hbig (by simp) HG.out HF.out.row (fun f hf=>by
  rw[List.mem_singleton.1 hf]
  exact enters_of Tryz.func166 (by kernel_rfl) rfl) (fun k hk s' wr R' h1 h2 h3=>by
  obtain rfl:k=0:=by simp at hk; omega
  injection h1 with _ h1;subst h1
  exact zOV wr p B _ R' s.nd.length w.heap.size h3 (by rw[jT]; omega) (HB.out.xG h2))).mono ?_
 intro e w1 hpost;rw[zCE] at hpost
 rcases hpost.unit with ⟨s',hr,rfl,ho⟩ | ⟨er,a,hr,he⟩
 ·have HR:Hid (zCG i s=.ok () s'):=yG hr;have HO:=yG (OkP.trans (xD.ext HX.out) ho);clear hpost hr ho
  go_wp2_with fail
  go_end0;rw[HR.out];exact xN.ok HO.out
 ·have HE:=yG (VH.trans (xD.ext HX.out) he);have HR:Hid (zCG i s=.err er a):=yG hr;obtain⟨rfl,_⟩:=he;refine xE (P:=Tryz.prog) (fn:=Tryz.f162) rfl ?_;rw[HR.out];exact HE.out
def JH (p:Nat)(w:World):Nat:=match w.cell? ⟨p,0,none⟩ with
 | some (.slice _ n _)=>n
 | _=>0
theorem PS.JH {w:World}{p B:Nat}{s:Ps}{R:xV}(h:PS w p B s R):JH p w=s.ts.length:=by unfold Proofs.YtbadjmmjbpeocaaGreatDoor.JH; rw[h.x0]
theorem zST (one:Pm Unit)(f:Nat)(s:Ps)(h:isP [44] s=false):zBI one (f+1) s=.ok () s:=by unfold zBI; rw[h]; rfl
theorem zQO (one:Pm Unit)(f:Nat)(s:Ps)(h:isP [44] s=true):zBI one (f+1) s=(one s.adv).bind fun _ s=>zBI one f s:=by rw[zBI,if_pos h]
theorem zGI (w:World)(p B:Nat)(s:Ps)(R:xV)(i:Nat)(f:KF)(h:PS w p B s R)(hG:Good s)(he:∀args w,(callFunc f.K args).run Tryz.prog w=.ok (.enter f.K args) w)(hfine:zA8 f.m)
  (hone:∀(wr:World) (s':Ps) (R':xV),ZI s s'→xD w (xL p R) wr (xL p R')→PS wr p B s' R'→Calls Tryz.prog f.K (f.first.push (.int .i64 (i:Int))++f.cap) wr (xN wr p B R' (f.m s'))) :
  Calls Tryz.prog 91 #[.pointer (some ⟨p,0,none⟩),.int .i64 (i:Int),.func (.func f.K) f.first f.cap] w (xN w p B R (zAh f.m s)):=by
 have HP:=yG h;have HG:=yG hG;have HO:=yG hone;have HFI:=yG hfine;obtain⟨K,first,capt,m⟩:=f
 simp only at he HO HFI ⊢
 have HE:=yG he;clear h hG hone hfine he;have hfm:=HFI.out s HG.out
 cases hr:m s with
 | err er a=>
  have HC:Hid (xN w p B R (m s)=xN w p B R (.err er a)):=yG (by rw[hr]);have HL:Hid (zAh m s=.err er a):=yG (by unfold zAh; rw[hr]; rfl);clear hr hfm;have he:=HE.out
  go_enter Tryz.func91,Tryz.ntmps91
  go_wp2_with fail
  refine(HO.out w s R (ZI.refl HG.out) (xD.refl _ _) HP.out).mono ?_;rw[HC.out];rintro e w1 ⟨rfl,ho⟩;refine xE (P:=Tryz.prog) (fn:=Tryz.f91) rfl ?_;rw[HL.out];exact⟨rfl,ho⟩
 | ok a s1=>
  rw[hr] at hfm;have HF1:Hid (ZI s s1):=yG hfm;have HC:Hid (xN w p B R (m s)=xN w p B R (.ok a s1)):=yG (by rw[hr]);have HL:Hid (zAh m s=zBI m (s1.ts.length+1) s1):=yG (by unfold zAh; rw[hr]; rfl);clear hr hfm;have he:=HE.out
  go_enter Tryz.func91,Tryz.ntmps91
  go_wp2_with fail
  refine(HO.out w s R (ZI.refl HG.out) (xD.refl _ _) HP.out).mono ?_;rw[HC.out];rintro e w1 ⟨rfl,ho⟩;have HO1:=yG ho;clear ho he
  go_wp2_with fail
  go_loopw [] (fun wr=>∃(s':Ps) (n:Nat),Hid (ZI s s')∧Hid (s'.ts.length<n)∧Hid (zAh m s=zBI m n s')∧Hid (OkP w p B R s' wr)) (fun wr=>JH p wr)
  case atStart=>exact⟨s1,s1.ts.length+1,HF1,yG (Nat.lt_succ_self _),HL,HO1⟩
  case round=>
   obtain⟨s',n,HLT,HN,HEQ,HOK⟩:=hrel;obtain⟨wa,rfl⟩:∃wa:World,wa=wr:=⟨_,rfl⟩;obtain⟨R',hps,hmv⟩:=HOK.out;have HPS:=yG hps;have HMV:=yG hmv;obtain⟨n',rfl⟩:∃n',n=n'+1:=⟨n-1,by have:=HN.out; omega⟩;clear hps hmv
   cases hi:isP [44] s' with
   | false=>
    have HI:=yG hi;have HR:Hid (zAh m s=.ok () s'):=yG (by rw[HEQ.out,zST m n' s' hi]);clear hi
    go_wp2_with fail
    refine(zAR wa p B s' R' [44] HI HPS.out).mono ?_;rintro e w2 ⟨rfl,hx⟩;have HOF:=yG (OkP.trans HMV.out (HPS.out.okp hx));clear hx
    go_wp2_with fail
    go_end0;rw[HR.out];exact xN.ok HOF.out
   | true=>
    have HI:=yG hi;have hk4:=(vN hi).1;have hla:=VL HLT.out.xS hk4;have HLA:=yG (HLT.out.trans hla)
    have HLN:Hid (s'.adv.ts.length<s'.ts.length∧s'.adv.ts.length<n'):=yG (by
     have h1:=jX (s:=s');have h2:=HLT.out.xS.pos;have h3:=HN.out
     omega)
    have HQ:Hid (zAh m s=(m s'.adv).bind fun _ s=>zBI m n' s):=yG (by rw[HEQ.out,zQO m n' s' hi]);have hfm:=HFI.out s'.adv hla.xS;clear hi hk4 hla
    cases hr:m s'.adv with
    | err er a=>
     have HC:Hid (m s'.adv=.err er a):=yG hr;clear hr hfm;have he:=HE.out
     go_wp2_with fail
     refine(VN wa p B s' R' [44] HI HPS.out).mono ?_;rintro e w2 ⟨rfl,ho⟩;obtain⟨R2,hps2,hmv2⟩:=ho;have HPS2:=yG hps2;have HMV2:=yG (HMV.out.trans hmv2);clear hps2 hmv2
     go_wp2_with fail
     refine(HO.out w2 s'.adv R2 HLA.out HMV2.out HPS2.out).mono ?_;intro e w3 hp;rw[HC.out] at hp;have HP3:Hid (xN w p B R (zAh m s) (jW er) w3):=yG (by rw[HQ.out,HC.out]; obtain⟨_,h⟩:=hp; exact VH.trans HMV2.out ⟨rfl,h⟩);obtain⟨rfl,_⟩:=hp;exact xE (P:=Tryz.prog) (fn:=Tryz.f91) rfl HP3.out
    | ok a s2=>
     rw[hr] at hfm;have HF2:Hid (ZI s'.adv s2):=yG hfm;have HC:Hid (m s'.adv=.ok a s2):=yG hr;clear hr hfm;have he:=HE.out
     go_wp2_with fail
     refine(VN wa p B s' R' [44] HI HPS.out).mono ?_;rintro e w2 ⟨rfl,ho⟩;obtain⟨R2,hps2,hmv2⟩:=ho;have HPS2:=yG hps2;have HMV2:=yG (HMV.out.trans hmv2);clear hps2 hmv2
     go_wp2_with fail
     refine(HO.out w2 s'.adv R2 HLA.out HMV2.out HPS2.out).mono ?_;intro e w3 hp;rw[HC.out] at hp;obtain⟨rfl,ho3⟩:=hp;have HO3:=yG (OkP.trans HMV2.out ho3);have HLT2:=yG (HLA.out.trans HF2.out);have HN2:Hid (s2.ts.length<n'):=yG (by have:=HF2.out.ts; have:=HLN.out; omega);have HEQ2:Hid (zAh m s=zBI m n' s2):=yG (by rw[HQ.out,HC.out]; rfl)
     have HLL:Hid (JH p w3<JH p wa):=yG (by
      obtain⟨R3,hps3,_⟩:=HO3.out;rw[hps3.JH,HPS.out.JH]
      have:=HF2.out.ts
      have:=HLN.out
      omega)
     clear ho3 he
     go_wp2_with fail
     go_roundw
     case rel=>exact⟨s2,n',HLT2,HN2,HEQ2,HO3⟩
     case measure=>exact HLL.out
def Or (M X:Nat→Prop)(b:Nat):Prop:=M b∨X b
def OkX (X:Nat→Prop)(w:World)(p B:Nat)(R R':xV)(s':Ps)(w':World):Prop:=PS w' p B s' R'∧xD w (Or (xL p R) X) w' (Or (xL p R') X)
theorem xD.or {w w':World}{M M':Nat→Prop}(h:xD w M w' M')(X:Nat→Prop):xD w (Or M X) w' (Or M' X):=
 ⟨h.os,h.tape,h.output,h.size,fun b hb hM=>h.jL b hb fun k=>hM (.inl k),fun b hb=>by
  rcases hb with hb | hb
  ·rcases h.zDv b hb with h1 | h1
   ·exact .inl (.inl h1)
   ·exact .inr h1
  ·exact .inl (.inr hb)⟩
def zAi {α:Type}(X:Nat→Prop)(w:World)(p B:Nat)(R:xV)(r:Res α)(V:α→xV→World→Prop)(e:Ending)(w':World):Prop:=
 match r with
 | .ok a s'=>e=.returned (.tuple #[])∧∃R',OkX X w p B R R' s' w'∧V a R' w'
 | .err er a=>e=jW er∧∃s' R',s'.hd.at_=a∧OkX X w p B R R' s' w'
theorem OkX.trans {X:Nat→Prop}{w w1 w2:World}{p B:Nat}{R R1 R2:xV}{s:Ps}(h:xD w (Or (xL p R) X) w1 (Or (xL p R1) X))(k:OkX X w1 p B R1 R2 s w2):OkX X w p B R R2 s w2:=⟨k.1,h.trans k.2⟩
theorem zAi.trans {α:Type}{X:Nat→Prop}{w w1 w2:World}{p B:Nat}{R R1:xV}{r:Res α}{V:α→xV→World→Prop}{e:Ending}(h:xD w (Or (xL p R) X) w1 (Or (xL p R1) X))(k:zAi X w1 p B R1 r V e w2):zAi X w p B R r V e w2:=by
 cases r with
 | ok a s=>obtain⟨h1,R',h2,h3⟩:=k; exact⟨h1,R',h2.trans h,h3⟩
 | err er a=>obtain⟨h1,s',R',h2,h3⟩:=k; exact⟨h1,s',R',h2,h3.trans h⟩
theorem zAi.ofU {X:Nat→Prop}{w:World}{p B:Nat}{R:xV}{r:Res Unit}{e:Ending}{w':World}(h:xN w p B R r e w'):zAi X w p B R r (fun _ _ _=>True) e w':=by
 cases r with
 | ok a s=>obtain⟨h1,R',h2,h3⟩:=h; exact⟨h1,R',⟨h2,h3.or X⟩,trivial⟩
 | err er a=>obtain⟨h1,s',h2,R',h3,h4⟩:=h; exact⟨h1,s',R',h2,h3,h4.or X⟩
theorem zAi.unit {α:Type}{X:Nat→Prop}{w:World}{p B:Nat}{R:xV}{r:Res α}{V:α→xV→World→Prop}{e:Ending}{w':World}(h:zAi X w p B R r V e w'):(∃a s' R',r=.ok a s'∧e=.returned (.tuple #[])∧OkX X w p B R R' s' w'∧V a R' w')∨(∃er a,r=.err er a∧e=jW er∧∃s' R',s'.hd.at_=a∧OkX X w p B R R' s' w'):=by
 cases r with
 | ok a s'=>obtain⟨h1,R',h2,h3⟩:=h; exact .inl ⟨a,s',R',rfl,h1,h2,h3⟩
 | err er a=>exact .inr ⟨er,a,rfl,h⟩
def noX:Nat→Prop:=fun _=>False
theorem zAi.toU {w:World}{p B:Nat}{R:xV}{r:Res Unit}{V:Unit→xV→World→Prop}{e:Ending}{w':World}(h:zAi noX w p B R r V e w'):xN w p B R r e w':=by
 have hm:∀ {w' R'},xD w (Or (xL p R) noX) w' (Or (xL p R') noX)→xD w (xL p R) w' (xL p R'):=fun h=>⟨h.os,h.tape,h.output,h.size,fun b hb hM=>h.jL b hb (fun k=>by rcases k with k | k; exact hM k; exact k),fun b hb=>by
  rcases h.zDv b (.inl hb) with (h1 | h1) | h1
  ·exact .inl h1
  ·exact h1.elim
  ·exact .inr h1⟩
 cases r with
 | ok a s=>obtain⟨h1,R',h2,_⟩:=h; exact⟨h1,R',h2.1,hm h2.2⟩
 | err er a=>obtain⟨h1,s',R',h2,h3⟩:=h; exact⟨h1,s',h2,R',h3.1,hm h3.2⟩
theorem PS.zLd {w:World}{p B:Nat}{s:Ps}{R:xV}(h:PS w p B s R)(d:Nat)(hd:d≤64):PS (w.setCell ⟨p,2,none⟩ (.int .i64 (d:Int))) p B { s with deep:=d } R∧xD w (xL p R) (w.setCell ⟨p,2,none⟩ (.int .i64 (d:Int))) (xL p R):=by
 refine⟨⟨?_,fun k hk=>?_,h.zJo,h.zEY,h.nodes,?_,h.pB,⟨h.xS.last,hd⟩⟩,xD.set (.inl rfl)⟩
 ·have:=h.blk.put 2 (.int .i64 (d:Int))
  simpa using this
 ·have hne:R.bt≠p:=by have:=h.zEY; have:=h.pB; omega
  exact(World.cell?_of_block (w:=w) (zS w ⟨p,2,none⟩ _ R.bt hne)).trans (h.zMQ k hk)
 ·refine h.ns.jL fun b hb=>zS w ⟨p,2,none⟩ _ b fun e=>?_;rw[e] at hb;exact h.ns.zDg h.blk (by decide) (by decide) hb
theorem zPK {α:Type}{a z:Bs}{body:Pm α}{s:Ps}(h:isP a s=false):jF a z body s=.err 50 s.hd.at_:=by unfold jF; rw[h]; rfl
theorem zM4 {α:Type}{a z:Bs}{body:Pm α}{s:Ps}(h:isP a s=true)(hd:s.deep=64):jF a z body s=.err 51 s.hd.at_:=by unfold jF; rw[if_pos h,if_pos hd]
theorem zNV {α:Type}{a z:Bs}{body:Pm α}{s:Ps}(h:isP a s=true)(hd:s.deep≠64):jF a z body s=(body { s.adv with deep:=s.deep+1 }).bind fun x s=>if z=[] then .ok x { s with deep:=s.deep-1 } else (vW z s).bind fun _ s=>.ok x { s with deep:=s.deep-1 }:=by unfold jF; rw[if_pos h,if_neg hd]
theorem zCH {α:Type}(X:Nat→Prop)(w:World)(p B:Nat)(s:Ps)(R:xV)(a z:Bs)(K:Nat)(first cap:Array Value)(body:Pm α)(V:α→xV→World→Prop)(h:PS w p B s R)(he:∀args w,(callFunc K args).run Tryz.prog w=.ok (.enter K args) w)
  (hV:∀x R1 w1 R2 w2,V x R1 w1→xD w1 (xL p R1) w2 (xL p R2)→V x R2 w2)
  (hdeep:isP a s=true→s.deep≠64→∀x s',body { s.adv with deep:=s.deep+1 } = .ok x s'→s'.deep=s.deep+1)
  (hbody:isP a s=true→s.deep≠64→∀(wr:World) (R':xV),xD w (xL p R) wr (xL p R')→PS wr p B { s.adv with deep:=s.deep+1 } R'→Calls Tryz.prog K (first++cap) wr (zAi X wr p B R' (body { s.adv with deep:=s.deep+1 }) V)) :
  Calls Tryz.prog 122 #[.pointer (some ⟨p,0,none⟩),.string (xI a),.string (xI z),.func (.func K) first cap] w (zAi X w p B R (jF a z body s) V):=by
 have HP:=yG h;have HE:=yG he;have HV:=yG hV;have HDP:=yG hdeep;have HB:=yG hbody;clear h he hV hbody hdeep
 cases hi:isP a s with
 | false=>
  have HI:=yG hi;have HW:Hid (jF a z body s=.err 50 s.hd.at_):=yG (zPK hi);clear hi
  go_enter Tryz.func122,Tryz.ntmps122
  go_wp2_with fail
  refine(XO w p B s R a false HI HP.out).mono ?_;rintro e w1 ⟨rfl,hx1⟩;have HF:Hid (zAi X w p B R (jF a z body s) V (jW 50) w1):=yG (by rw[HW.out]; exact⟨rfl,s,R,rfl,HP.out.ext hx1,(xD.ext hx1).or X⟩);clear hx1
  go_wp2_with fail
  refine(zBo _ p 50).mono ?_;rintro e w2 ⟨rfl,rfl⟩;exact xE (P:=Tryz.prog) (fn:=Tryz.f122) rfl HF.out
 | true=>
  have HI:=yG hi
  by_cases hd:s.deep=64
  ·have HW:Hid (jF a z body s=.err 51 s.hd.at_):=yG (zM4 hi hd);have HD:=yG hd;clear hi hd
   go_enter Tryz.func122,Tryz.ntmps122
   go_wp2_with fail
   refine(XO w p B s R a true HI HP.out).mono ?_;rintro e w1 ⟨rfl,hx1⟩;have HF:Hid (zAi X w p B R (jF a z body s) V (jW 51) w1):=yG (by rw[HW.out]; exact⟨rfl,s,R,rfl,HP.out.ext hx1,(xD.ext hx1).or X⟩);have x2:=(HP.out.ext hx1).x2;rw[HD.out] at x2;clear hx1
   go_wp2_with fail
   refine(zBo _ p 51).mono ?_;rintro e w2 ⟨rfl,rfl⟩;exact xE (P:=Tryz.prog) (fn:=Tryz.f122) rfl HF.out
  ·have HD:=yG hd;have HW:=yG (zNV (z:=z) (body:=body) hi hd)
   have e64:((s.deep:Int)==64)=false:=by rw[yI]; omega
   have hle:=HP.out.xS.deep;have HK4:=yG (vN hi).1;have HN:Hid ((s.deep:Int)+1=((s.deep+1:Nat):Int)):=yG (by omega);have HLE:Hid (s.deep+1≤64):=yG (by omega);have HT:Hid (vW a { s with deep:=s.deep+1 } = .ok () { s.adv with deep:=s.deep+1 }):=yG (by unfold vW; rw[show isP a { s with deep:=s.deep+1 } = isP a s from rfl,if_pos hi]; rfl);clear hi hd
   go_enter Tryz.func122,Tryz.ntmps122
   go_wp2_with fail
   refine(XO w p B s R a true HI HP.out).mono ?_;rintro e w1 ⟨rfl,hx1⟩;have HX1:=yG hx1;have HP1:=yG (HP.out.ext hx1);have x2:=HP1.out.x2;have z2:=HP1.out.blk.frozen 2;have HP2:=yG (HP1.out.zLd (s.deep+1) HLE.out);clear hx1
   go_wp2_with fail
   rw[HN.out];generalize w1.setCell ⟨p,2,none⟩ (.int .i64 ((s.deep+1:Nat):Int))=w2 at *;refine(jH w2 p B _ R a HP2.out.1).mono ?_;rw[HT.out];rintro e w3 ⟨rfl,R3,hp3,hm3⟩;have HP3:=yG hp3;have HM3:=yG (((xD.ext HX1.out).trans HP2.out.2).trans hm3);clear hp3 hm3 x2 z2;have he:=HE.out
   go_wp2_with fail
   refine(HB.out HI.out HD.out _ R3 HM3.out HP3.out).mono ?_;intro e w4 hpost
   rcases hpost.unit with ⟨x,s4,R4,hr,rfl,ho,hv⟩ | ⟨er,at_,hr,rfl,s4,R4,hat,ho⟩
   rotate_left
   ·have HF:Hid (zAi X w p B R (jF a z body s) V (jW er) w4):=yG (by rw[HW.out,hr]; exact⟨rfl,s4,R4,hat,ho.trans (HM3.out.or X)⟩);exact xE (P:=Tryz.prog) (fn:=Tryz.f122) rfl HF.out
   have HR:=yG hr;have HP4:=yG ho.1;have HM4:=yG ((HM3.out.or X).trans ho.2);have HV4:=yG hv;have HD4:=yG (HDP.out HI.out HD.out x s4 hr);clear hpost hr ho hv he;have hle2:s.deep+1≤64:=HLE.out
   by_cases hz:z=[]
   ·have HW2:Hid (jF a z body s=.ok x { s4 with deep:=s.deep }):=yG (by rw[HW.out,HR.out,VR,if_pos hz,HD4.out]; rfl)
    have hbz:(xI z).toList.isEmpty=true:=by subst hz; rw[VW]; rfl
    have x2:=HP4.out.x2;rw[HD4.out] at x2;have z2:=HP4.out.blk.frozen 2;have HP5:=yG (HP4.out.zLd s.deep (by omega));clear hz
    go_wp2_with fail
    go_end0;rw[HW2.out];exact⟨rfl,R4,⟨HP5.out.1,HM4.out.trans (HP5.out.2.or X)⟩,HV.out _ _ _ _ _ HV4.out HP5.out.2⟩
   ·have hbz:(xI z).toList.isEmpty=false:=by
     cases z with
     | nil=>exact absurd rfl hz
     | cons b l=>simp[VW]
    have HZ:=yG hz;clear hz
    go_wp2_with fail
    refine(jH w4 p B s4 R4 z HP4.out).mono ?_;intro e w5 hpost
    cases hq:vW z s4 with
    | err er at_=>
     rw[hq] at hpost;obtain⟨rfl,s5,hat,R5,hp5,hm5⟩:=hpost;have HF:Hid (zAi X w p B R (jF a z body s) V (jW er) w5):=yG (by rw[HW.out,HR.out,VR,if_neg HZ.out,hq]; exact⟨rfl,s5,R5,hat,hp5,HM4.out.trans (hm5.or X)⟩);exact xE (P:=Tryz.prog) (fn:=Tryz.f122) rfl HF.out
    | ok y s5=>
     rw[hq] at hpost;obtain⟨rfl,R5,hp5,hm5⟩:=hpost
     have hd5:s5.deep=s.deep+1:=by
      unfold vW at hq
      split at hq
      ·injection hq with _ e2;rw[←e2];exact HD4.out
      ·cases hq
     have HW2:Hid (jF a z body s=.ok x { s5 with deep:=s.deep }):=yG (by rw[HW.out,HR.out,VR,if_neg HZ.out,hq,VR,hd5]; rfl);have x2:=hp5.x2;rw[hd5] at x2;have z2:=hp5.blk.frozen 2;have HP6:=yG (hp5.zLd s.deep (by omega));have HM5:=yG (HM4.out.trans (hm5.or X));have HV5:=yG (HV.out _ _ _ _ _ HV4.out hm5);clear hq hp5 hm5 hd5
     go_wp2_with fail
     go_end0;rw[HW2.out];exact⟨rfl,R5,⟨HP6.out.1,HM5.out.trans (HP6.out.2.or X)⟩,HV.out _ _ _ _ _ HV5.out HP6.out.2⟩
structure Ran (w:World)(p B:Nat)(R:xV)(s:Ps)(w':World)(R':xV)(s':Ps):Prop where
 ps:PS w' p B s' R'
 mv:xD w (xL p R) w' (xL p R')
 lt:ZI s s'
theorem Ran.refl {w:World}{p B:Nat}{R:xV}{s:Ps}(h:PS w p B s R)(g:Good s):Ran w p B R s w R s:=⟨h,xD.refl _ _,ZI.refl g⟩
theorem Ran.ext {w w' w2:World}{p B:Nat}{R R':xV}{s s':Ps}(h:Ran w p B R s w' R' s')(hx:Ext w' w2):Ran w p B R s w2 R' s':=⟨h.ps.ext hx,h.mv.trans (xD.ext hx),h.lt⟩
theorem Ran.nd {w w':World}{p B:Nat}{R R':xV}{s s':Ps}(h:Ran w p B R s w' R' s')(hb:s.phi≤1000000):s'.nd.length≤1000000:=by have:=h.lt.phi; unfold Ps.phi at this hb; omega
theorem Ran.phi {w w':World}{p B:Nat}{R R':xV}{s s':Ps}(h:Ran w p B R s w' R' s')(hb:s.phi≤1000000):s'.phi≤1000000:=Nat.le_trans h.lt.phi hb
theorem Ran.idx {w w':World}{p B:Nat}{R R':xV}{s s':Ps}(h:Ran w p B R s w' R' s'){i:Nat}(hi:i<s.nd.length):i<s'.nd.length:=yU hi h.lt.nd
theorem Ran.few {w w':World}{p B:Nat}{R R':xV}{s s':Ps}(h:Ran w p B R s w' R' s'){n:Nat}(hn:s.ts.length≤n):s'.ts.length≤n:=Nat.le_trans h.lt.ts hn
theorem Ran.okp {w w':World}{p B:Nat}{R R':xV}{s s':Ps}(h:Ran w p B R s w' R' s'):OkP w p B R s' w':=⟨R',h.ps,h.mv⟩
theorem Ran.then {w w1 w2:World}{p B:Nat}{R R1:xV}{s s1 s2:Ps}(h:Ran w p B R s w1 R1 s1)(k:OkP w1 p B R1 s2 w2)(hl:ZI s1 s2):∃R2,Ran w p B R s w2 R2 s2:=let ⟨R2,a,b⟩:=k; ⟨R2,a,h.mv.trans b,h.lt.trans hl⟩
theorem Ran.go {α:Type}{w w1 w2:World}{p B:Nat}{R R1:xV}{s s1:Ps}{r:Res Unit}{whole:Res α}{f:Unit→Ps→Res α}{e:Ending}(HL:Hid (whole=r.bind f))(h:Hid (Ran w p B R s w1 R1 s1))(hf:jO s1 r)(hp:xN w1 p B R1 r e w2) :
  (∃s2 R2,Hid (whole=f () s2)∧e=.returned (.tuple #[])∧Hid (Ran w p B R s w2 R2 s2))∨(∃er a,e=jW er∧Hid (whole=.err er a)∧Hid (VH w p B R er a (jW er) w2)):=by
 cases r with
 | ok a s2=>
  obtain⟨h1,R2,h2,h3⟩:=hp;exact .inl ⟨s2,R2,yG HL.out,h1,yG ⟨h2,h.out.mv.trans h3,h.out.lt.trans hf⟩⟩
 | err er a=>
  obtain⟨h1,h2⟩:=hp;exact .inr ⟨er,a,h1,yG HL.out,yG (VH.trans h.out.mv ⟨rfl,h2⟩)⟩
theorem ZF {r whole:Res Unit}(h:whole=r):whole=r.bind fun _ s=>.ok () s:=by rw[h]; cases r <;> rfl
theorem zGM {α:Type}{s:Ps}{t:Bs}{whole x y:Res α}(h:Hid (whole=if isP t s=true then x else y))(hi:Hid (isP t s=true)):whole=x:=by rw[h.out,if_pos hi.out]
theorem zKf {α:Type}{s:Ps}{t:Bs}{whole x y:Res α}(h:Hid (whole=if isP t s=true then x else y))(hi:Hid (isP t s=false)):whole=y:=by rw[h.out,hi.out]; rfl
theorem ZI.num {s:Ps}(h:Good s)(i:Nat)(x:Int):ZI s (s.num i x):=zAq h (fun _=>rfl)
theorem ZI.kind {s:Ps}(h:Good s)(i k:Nat):ZI s (s.kind i k):=zAq h (fun _=>rfl)
theorem zBl {s:Ps}{t:Bs}(g:Good s)(h:Hid (isP t s=true)):ZI s s.adv:=VL g (vN h.out).1
end Go.Proofs.YtbadjmmjbpeocaaGreatDoor
