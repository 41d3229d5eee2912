/- The program's node: a node more, then its kids' makers, one behind the other. (and what follows of it). The conditions stand at each lemma. -/
import Derived.Test.YtioffpjajhalaaaGreatDoorLaa
import Derived.Test.YtioffpjajhalaaaGreatDoorLan
import Derived.Deep.Cut
set_option linter.unusedVariables false
set_option linter.unusedSimpArgs false
set_option maxRecDepth 100000
set_option maxHeartbeats 16000000
namespace Go.Proofs.YtioffpjajhalaaaGreatDoor
open Go Go.RowKit
theorem zKt:(Tryz.prog.info? 48).map (fun i=>(i.zero,i.size,i.bytes))=some (some (.agg #[.int .u8 0,.int .i64 0,.string ⟨#[]⟩,.int .i64 0,.slice none 0 0]),5,64):=by kernel_rfl
theorem zGD:(Tryz.prog.info? 3).map (fun i=>(i.zero,i.size,i.bytes))=some (some (.int .i64 0),1,8):=by kernel_rfl
theorem PS.snoc {w W w1:World}{p B:Nat}{s:Ps}{R:xW}(h:PS W p B s R)(hw:Ext w W)(x:Nd)(hx:x.kids=[]){g cap:Nat}
  (ho:w1.ownsRow B 48 5 (.slice (some ⟨g,0,none⟩) (R.nh.length+1) cap) (R.nh.length+1) (ncs R.nh++ZW (x,(none,0)))) (hg:W.grownBy w1 (Value.slice R.A R.nh.length R.c).ownBlock)
  (hf:(Value.slice R.A R.nh.length R.c).ownBlock=some g∨w.heap.size≤g) :
  PS (w1.setCell ⟨p,1,none⟩ (.slice (some ⟨g,0,none⟩) (R.nh.length+1) cap)) p B (s.add x) { R with A:=some ⟨g,0,none⟩,c:=cap,nh:=R.nh++[(x,(none,0))] } ∧
   xK w (xJ p R) (w1.setCell ⟨p,1,none⟩ (.slice (some ⟨g,0,none⟩) (R.nh.length+1) cap)) (xJ p { R with A:=some ⟨g,0,none⟩,c:=cap,nh:=R.nh++[(x,(none,0))] }):=by
 have AA:(Value.slice R.A R.nh.length R.c).ownBlock≠some p:=fun e=>by
  obtain⟨AI,hc⟩:=jX h.ns.row (vQ h.ns.row e);exact Blk.differ h.blk hc (by decide) rfl
 have AC:Blk w1 p 75 _:=(hg.block p h.blk.lt (fun e=>AA e.symm)).trans h.blk;have AF:=h.pB;have AH:=h.blk.lt;have AB:=(h.ns.snoc (by decide) x hx ho hg);refine⟨⟨?_,fun k hk=>?_,h.zHF,h.zDq,?_,?_,h.pB,⟨h.xU.last,h.xU.deep⟩⟩,?_⟩
 ·have:=AC.put 1 (.slice (some ⟨g,0,none⟩) (R.nh.length+1) cap)
  show Blk _ p 75 #[.slice _ s.ts.length _,.slice _ (R.nh++[(x,(none,0))]).length _,.int .i64 (s.deep:Int)]
  rw[yM]
  simpa using this
 ·have AG:=h.zDq
  have AD:R.bt≠p:=by omega
  show(w1.setCell _ _).cell? ⟨R.bt,R.ot+k,none⟩=_
  have e1:w1.heap[R.bt]?=W.heap[R.bt]?:=hg.block R.bt h.btl fun e=>by
   have:=(XY h.ns.row (vQ h.ns.row e.symm)).1
   omega
  have e2:=World.cell?_of_block (w:=W) (w':=w1.setCell ⟨p,1,none⟩ (.slice (some ⟨g,0,none⟩) (R.nh.length+1) cap)) (a:=⟨R.bt,R.ot+k,none⟩) ((zQ w1 ⟨p,1,none⟩ _ R.bt AD).trans e1);exact e2.trans (h.zKC k hk)
 ·show s.nd++[x]=_
  rw[h.nodes,List.map_append]
  rfl
 ·refine AB.JX fun b hb=>zQ w1 ⟨p,1,none⟩ _ b fun e=>?_;rw[e] at hb;exact AB.zCb AC (by decide) (by decide) hb
 ·refine⟨hg.os.trans hw.os,hg.tape.trans hw.tape,hg.output.trans hw.output,?_,fun b hb hM=>?_,fun b hb=>?_⟩
  ·have h1:=hw.size;have h2:=hg.size;simp[World.setCell];omega
  ·have h1:=hw.size;have AE:b≠p:=fun e=>hM (.inl e);rw[zQ w1 ⟨p,1,none⟩ _ b AE,hg.block b (by omega) (fun e=>hM (.inr (.inl (vQ h.ns.row e.symm))))];exact hw.block b hb
  ·have h1:=hw.size
   rcases hb with rfl | hb | hb
   ·exact .inl (.inl rfl)
   ·injection hb with hb;injection hb with hb;subst hb
    rcases hf with hf | hf
    ·exact .inl (.inr (.inl (vQ h.ns.row hf)))
    ·exact .inr hf
   ·simp only[List.map_append] at hb
    rcases List.mem_append.1 hb with hb | hb
    ·exact .inl (.inr (.inr hb))
    ·simp at hb
theorem zB1 (a at_ en n:Int)(x:ByteArray)(w:World):(Instr.field 29 (.agg #[.int .u8 a,.int .i64 at_,.int .i64 en,.string x,.int .i64 n]) 0).run Tryz.prog w=.ok (.int .u8 a) w:=by kernel_rfl
theorem zIG (a at_ en n:Int)(x:ByteArray)(w:World):(Instr.field 29 (.agg #[.int .u8 a,.int .i64 at_,.int .i64 en,.string x,.int .i64 n]) 1).run Tryz.prog w=.ok (.int .i64 at_) w:=by kernel_rfl
theorem VA (a at_ en n:Int)(x:ByteArray)(w:World):(Instr.field 29 (.agg #[.int .u8 a,.int .i64 at_,.int .i64 en,.string x,.int .i64 n]) 3).run Tryz.prog w=.ok (.string x) w:=by kernel_rfl
theorem zB8 (a at_ en n:Int)(x:ByteArray)(w:World):(Instr.field 29 (.agg #[.int .u8 a,.int .i64 at_,.int .i64 en,.string x,.int .i64 n]) 4).run Tryz.prog w=.ok (.int .i64 n) w:=by kernel_rfl
structure KF where
 K:Nat
 first:Array Value
 cap:Array Value
 m:Pm Unit
def KF.val (f:KF):Value:=.func (.func f.K) f.first f.cap
def zBV:List KF→Pm Unit
 | [],s=>.ok () s
 | f::l,s=>(f.m s).bind fun _ s=>zBV l s
theorem zIw (x:Nd × Hd2):∀u ∈ ZW x,u.oneCell'=true:=by
 intro u hu;simp only[ZW,zR,List.not_mem_nil,or_false] at hu
 rcases hu with rfl | rfl | rfl | rfl | rfl <;> rfl
theorem NS.zSU {w:World}{B:Nat}{tn ti:TypeId}{A:Option Addr}{c:Nat}{nh:List (Nd × Hd2)}(h:NS w B tn ti A c nh):zAe B tn nh.length (ncs nh) (.slice A nh.length c) w:=by
 refine⟨h.row,A,c,rfl,fun e=>?_,h.rz⟩;subst e
 rcases h.row.2 with ⟨hv,_⟩ | ⟨g,AB,AA,hv,_⟩
 ·injection hv
 ·cases hv
theorem NS.zSP {w:World}{B:Nat}{tn ti:TypeId}{A:Option Addr}{c:Nat}{nh:List (Nd × Hd2)}(h:NS w B tn ti A c nh)(x:Nd × Hd2)(hx:x ∈ nh):zAf B ti x.1.kids.length (ints x.1.kids) (.slice x.2.1 x.1.kids.length x.2.2) w:=by
 refine⟨h.kids x hx,_,_,rfl,fun e=>?_,h.kz x hx⟩;have hk:=(h.kids x hx).2;rw[e] at hk
 rcases hk with ⟨hv,_⟩ | ⟨g,AB,AA,hv,_⟩
 ·injection hv
 ·cases hv
theorem zAe.at {N:Nat}{e:TypeId}{n:Nat}{xs:List Value}{v:Value}{w:World}(h:zAe N e (n+1) xs v w):∃g cap,v=.slice (some ⟨g,0,none⟩) (n+1) cap:=by
 rcases h.1.2 with ⟨_,h0⟩ | ⟨g,cap,AA,hv,_⟩
 ·omega
 ·exact⟨g,cap,hv⟩
theorem zAf.at {N:Nat}{e:TypeId}{n:Nat}{xs:List Value}{v:Value}{w:World}(h:zAf N e (n+1) xs v w):∃g cap,v=.slice (some ⟨g,0,none⟩) (n+1) cap:=by
 rcases h.1.2 with ⟨_,h0⟩ | ⟨g,cap,AA,hv,_⟩
 ·omega
 ·exact⟨g,cap,hv⟩
theorem zID:∀(l:List KF) (k:Nat) (hk:k<l.length) (s s':Ps),zBV (l.take k) s=.ok () s'→zBV (l.take (k+1)) s=(l[k].m s').bind fun _ s=>.ok () s
 | f::l,0,_,s,s',h=>by
  injection h with _ h;subst h
  rfl
 | f::l,k+1,hk,s,s',h=>by
  show(f.m s).bind (fun _ s=>zBV (l.take (k+1)) s)=_
  have h':(f.m s).bind (fun _ s=>zBV (l.take k) s)=.ok () s':=h
  cases hm:f.m s with
  | err e p=>rw[hm] at h'; cases h'
  | ok a t=>
   rw[hm] at h';exact zID l k (by simpa using hk) t s' h'
theorem zK7:∀(l:List KF) (k:Nat) (hk:k<l.length) (s s':Ps),zBV (l.take k) s=.ok () s'→∀er a,l[k].m s'=.err er a→zBV l s=.err er a
 | f::l,0,_,s,s',h,er,a,he=>by
  injection h with _ h;subst h
  show(f.m s).bind _=_
  rw[show f.m s=.err er a from he]
  rfl
 | f::l,k+1,hk,s,s',h,er,a,he=>by
  show(f.m s).bind (fun _ s=>zBV l s)=_
  have h':(f.m s).bind (fun _ s=>zBV (l.take k) s)=.ok () s':=h
  cases hm:f.m s with
  | err e p=>rw[hm] at h'; cases h'
  | ok b t=>
   rw[hm] at h';exact zK7 l k (by simpa using hk) t s' h' er a he
theorem zIE (w:World)(p B:Nat)(s:Ps)(R:xW)(kind:Nat)(F:Option Addr)(l:List KF)(fc:Nat)(h:PS w p B s R)(hbig:s.nd.length≤1000000)(hl:l.length≤10)
  (hF:zD2 w (xJ p R) F (l.map KF.val)) (he:∀f ∈ l,∀args w,(callFunc f.K args).run Tryz.prog w=.ok (.enter f.K args) w)
  (hd:∀(k:Nat) (hk:k<l.length) (s':Ps) (wr:World) (R':xW),zBV (l.take k) (s.node kind)=.ok () s'→xK w (xJ p R) wr (xJ p R')→PS wr p B s' R'→Calls Tryz.prog l[k].K (l[k].first++#[.int .i64 (s.nd.length:Int)]++l[k].cap) wr (xM wr p B R' (l[k].m s'))) :
  Calls Tryz.prog 80 #[.pointer (some ⟨p,0,none⟩),.int .u8 (kind:Int),.slice F l.length fc] w (zCD w p B R (.int .i64 (s.nd.length:Int)) (zBV l (s.node kind))):=by
 obtain⟨i0,hi,Aq,Ai,Ao⟩:=info_parts zKt;have HP:=yD h;have Am:=yD hF;have HE:=yD he;have HD:=yD hd;have x1:=h.x1;have AB:=h.len;have AJ:=h.blk.lt;have AW:=yD AB;rw[AB] at hbig;have Ag:=zIG;obtain⟨o,HO⟩:∃o,Hid ((Value.slice R.A R.nh.length R.c).ownBlock=o):=⟨_,yD rfl⟩
 have AM:Hid (some p≠o):=yD fun e=>by
  rw[←HO.out] at e;obtain⟨Aw,hc⟩:=jX h.ns.row (vQ h.ns.row e.symm);exact Blk.differ h.blk hc (by decide) rfl
 have Ah:Hid (some R.bt≠o):=yD fun e=>by
  rw[←HO.out] at e;have h1:=(XY h.ns.row (vQ h.ns.row e.symm)).1;have h2:=h.zDq;omega
 have Af:Hid (∀g,o=some g→g<w.heap.size):=yD fun g e=>by
  rw[←HO.out] at e;exact(XY h.ns.row (vQ h.ns.row e)).2
 have Ad:Hid (B≤w.heap.size):=yD (Nat.le_trans h.pB (zS AJ));obtain⟨Fs,AE⟩:∃Fs,Hid (FsK B 48 (.slice R.A R.nh.length R.c) w.heap.size R.nh.length (ncs R.nh) (ZW (⟨kind,s.hd.at_,[],0,[]⟩,(none,0)))=Fs):=⟨_,yD rfl⟩
 have hE:∀F ∈ Fs,∀v w w',F v w→Ext w w'→F v w':=by rw[←AE.out]; exact zIX _ _ _ _ _ _ _
 have m0:(fun (_:Value) w=>zAe B 48 R.nh.length (ncs R.nh) (.slice R.A R.nh.length R.c) w) ∈ Fs:=by rw[←AE.out]; simp only[FsK,zR,true_or]
 have m1:zDN 48 w.heap.size (ZW (⟨kind,s.hd.at_,[],0,[]⟩,(none,0))).toArray ∈ Fs:=by rw[←AE.out]; simp only[FsK,zR,true_or,or_true]
 have m2:zOh B 48 o w.heap.size (R.nh.length+1) (ncs R.nh++ZW (⟨kind,s.hd.at_,[],0,[]⟩,(none,0))) ∈ Fs:=by rw[←AE.out,←HO.out]; simp only[FsK,zR,true_or,or_true]
 have AP:=yD hE;have M0:=yD m0;have M1:=yD m1;have M2:=yD m2;clear h hF he hd AB hE m0 m1 m2
 go_enter Tryz.func80,Tryz.ntmps80
 go_upto_region 2 with fail
 apply zCp o Fs 14 (by kernel_rfl) (by kernel_rfl) (by kernel_rfl) AP.out;dsimp only[List.take_succ_cons,List.take_zero,List.drop_succ_cons,List.drop_zero];apply sG jA.refl (.pointer (some ⟨p,0,none⟩));apply sG jA.refl (.pointer (some ⟨p,0,none⟩));apply sG jA.refl (.pointer (some ⟨p,0,none⟩));apply sG jA.refl (.pointer (some ⟨p,1,none⟩));apply yZ (.slice R.A R.nh.length R.c) rfl rfl rfl
 ·intro w' AA hH;have hR:=jA.refl (o:=o) (Fs:=Fs) w';have cc:=Blk.cell ((AA.1.block p AJ AM.out).trans HP.out.blk) 1;clear hH AA;simp[yY,go_sem,cc];exact hR
 apply sG jA.refl (.int .u8 (kind:Int));apply sG jA.refl (.pointer (some ⟨p,0,none⟩));apply yZ (.agg (ZM s.hd).toArray) rfl rfl rfl
 ·intro w' AA hH;have ht:=HP.out.ts.grown AA.1 AM.out Ah.out;clear hH AA;simp[yY,go_sem];refine(jS w' p s R ht).mono ?_;rintro e w2 ⟨rfl,hx⟩;exact⟨_,rfl,rfl,jA.ext AP.out hx⟩
 apply yZ (.int .i64 (s.hd.at_:Int)) rfl rfl rfl
 ·intro w' AA hH;clear hH AA;unfold ZM;simp[yY,go_sem,Ag];exact jA.refl _
 apply sG jA.refl (.agg #[.int .u8 (kind:Int),.int .i64 (s.hd.at_:Int),.string ⟨#[]⟩,.int .i64 0,.slice none 0 0]);apply vA (zDN 48 w.heap.size (ZW (⟨kind,s.hd.at_,[],0,[]⟩,(none,0))).toArray) (fun v w w' h hx=>hx.2 _ M1.out v h) rfl rfl rfl
 ·intro w' AA hH;have hz:=AA.1.size;clear hH AA;simp[yY,go_sem];exact⟨⟨_,rfl,Blk.new _ _ _,hz⟩,jA.ext AP.out (Ext.alloc _ _)⟩
 intro Al;(try simp only[Act.put,yA,yB,yC]);apply vA (zOh B 48 o w.heap.size (R.nh.length+1) (ncs R.nh++ZW (⟨kind,s.hd.at_,[],0,[]⟩,(none,0)))) (fun v w w' h hx=>hx.2 _ M2.out v h) rfl rfl rfl
 ·intro w' AA hH;have AS:=hH _ (List.mem_cons_self ..) ⟨_,rfl,by decide⟩;have AL:=AA.2 _ M0.out undef HP.out.ns.zSU;have hz:=AA.1.size;clear hH AA;rw[←AE.out,←HO.out];exact zFd B w.heap.size (.tmp 19) (.tmp 25) 37 rfl 48 i0 _ 64 Tryz.underlying37 hi Aq Ai Ao rfl (.slice R.A R.nh.length R.c) R.nh.length (ncs R.nh) (ZW (⟨kind,s.hd.at_,[],0,[]⟩,(none,0))) (by kernel_rfl) AL Al (by kernel_rfl) AS rfl (zIw _) (by unfold maxLen; omega) (by omega) (Nat.le_trans Ad.out hz) hz (fun g e=>Af.out g (by rw[←HO.out]; exact e))
 intro Av;apply sG jA.refl (.pointer (some ⟨p,0,none⟩));apply sG jA.refl (.pointer (some ⟨p,1,none⟩));apply xN;intro w2 AU hH;have AH:=hH _ (List.mem_cons_self ..);clear hH;obtain⟨g,AX,rfl⟩:=AH.1.at;have AR:=AU.1;rw[←HO.out] at AR;have AN:Blk w2 p 75 _:=(AU.1.block p AJ AM.out).trans HP.out.blk
 obtain⟨Ab,Aa⟩:=PS.snoc (w:=w) HP.out (Ext.refl w) ⟨kind,s.hd.at_,[],0,[]⟩ rfl AH.1.1 AR (by
  rcases AH.2 with e | ⟨g',e,Ax⟩
  ·left; rw[HO.out,←e]; rfl
  ·right; have:g=g':=by simpa [Value.ownBlock] using e
   omega)
 have y1:w2.cell? ⟨p,1,none⟩=some (.slice R.A R.nh.length R.c):=AN.cell 1;have z1:=AN.frozen 1;have HS:Hid (OkP w p B R (s.node kind) (w2.setCell ⟨p,1,none⟩ (.slice (some ⟨g,0,none⟩) (R.nh.length+1) AX))):=yD ⟨_,Ab,Aa⟩;clear AH AR AN Ab Aa AU x1;(try simp only[Act.put,yA,yC,yB])
 go_wp2_with fail
 clear y1 z1;generalize w2.setCell ⟨p,1,none⟩ (.slice (some ⟨g,0,none⟩) (R.nh.length+1) AX)=w3 at *
 go_loopw [31] (fun i wr=>∃(k:Nat) (s':Ps),k≤l.length∧i=.int .i64 k∧Hid (zBV (l.take k) (s.node kind)=.ok () s')∧Hid (OkP w p B R s' wr)) (fun i _=>l.length-(intOf i).toNat)
 case atStart=>exact⟨0,s.node kind,zT _,rfl,yD rfl,HS⟩
 case round=>
  obtain⟨k,s',hk,rfl,HQ,AV⟩:=hrel;obtain⟨wa,rfl⟩:∃wa:World,wa=wr:=⟨_,rfl⟩
  by_cases AD:k<l.length
  ·have d0:decide ((k:Int)<(l.length:Int))=true:=yP (by omega)
   have q0:(k:Int)<(l.length:Int):=by omega
   obtain⟨R',AI,AG⟩:=AV.out;have Au:=yD AI;have AY:=yD AG;obtain⟨b,Aj,rfl,hb,Ac⟩:=(Am.out.xO AG).cells.at_ (by simp; omega)
   have x0:wa.cell? ⟨b,Aj+k,none⟩=some (l[k].val):=by rw[Ac k (by simpa using AD)]; simp[AD]
   have AO:=zID l k AD (s.node kind) s' HQ.out;have AC:=zK7 l k AD (s.node kind) s' HQ.out;have AQ:=HD.out k AD s' wa R' HQ.out AG AI;have At:=HE.out _ (yL AD);clear Ac AI AG;generalize l[k]=f at *;obtain⟨K,first,AK,m⟩:=f;unfold KF.val at x0
   simp only at x0 AO AQ At AC
   have AF:Calls Tryz.prog K (first.push (.int .i64 (R.nh.length:Int))++AK) wa (xM wa p B R' (m s')):=by
    have:=AQ
    rw[AW.out,Array.append_singleton] at this;exact this
   have As:=yD AC;have Ae:=yD AO;have AZ:=yD AF;clear AO AQ AF AC
   cases hm:m s' with
   | ok a s2=>
    have AT:Hid (xM wa p B R' (m s')=xM wa p B R' (.ok a s2)):=yD (by rw[hm]);have Ap:Hid (zBV (l.take (k+1)) (s.node kind)=.ok () s2):=yD (by rw[Ae.out,hm]; rfl);clear hm
    go_wp2_with fail
    refine AZ.out.mono ?_;rw[AT.out];rintro e w4 ⟨rfl,ho⟩;have Ar:=yD (OkP.trans AY.out ho);clear ho
    go_wp2_with fail
    go_roundw
    case rel=>exact⟨k+1,s2,by omega,by go_num,Ap,Ar⟩
    case measure=>simp[intOf]; omega
   | err er a=>
    have AT:Hid (xM wa p B R' (m s')=xM wa p B R' (.err er a)):=yD (by rw[hm]);have An:=yD (As.out er a hm);clear hm
    go_wp2_with fail
    refine AZ.out.mono ?_;rw[AT.out];rintro e w4 ⟨rfl,ho⟩;refine xA (P:=Tryz.prog) (fn:=Tryz.f80) rfl ?_;rw[An.out];exact JE.trans AY.out ⟨rfl,ho⟩
  ·obtain rfl:k=l.length:=by omega
   have d0:decide ((l.length:Int)<(l.length:Int))=false:=by simp
   have d1:decide (l.length<l.length)=false:=by simp
   have Ak:Hid (zBV l (s.node kind)=.ok () s'):=yD (by have:=HQ.out; rw[List.take_length] at this; exact this)
   go_wp2_with fail
   go_ret;rw[Ak.out];exact⟨zEd (by rw[AW.out]),AV.out⟩
theorem zCD.trans {w w1 w2:World}{p B:Nat}{R R1:xW}{v:Value}{r:Res Unit}{e:Ending}(h:xK w (xJ p R) w1 (xJ p R1))(k:zCD w1 p B R1 v r e w2):zCD w p B R v r e w2:=by
 cases r with
 | ok a s=>exact⟨k.1,OkP.trans h k.2⟩
 | err er a=>exact JE.trans h k
theorem zDE {α β:Type}(f:α→β)(g:α→α)(k:β→β)(h:∀x,f (g x)=k (f x)):∀(l:List α) (i:Nat),(l.modify i g).map f=(l.map f).modify i k
 | [],i=>by simp
 | x::l,0=>by simp[h]
 | x::l,i+1=>by simp[zDE f g k h l i]
theorem PS.kid {W w1:World}{p B:Nat}{s:Ps}{R:xW}(h:PS W p B s R)(i:Nat)(hi:i<R.nh.length){g gk cap:Nat}(hA:R.A=some ⟨g,0,none⟩)
  (ho:w1.ownsRow B 3 1 (.slice (some ⟨gk,0,none⟩) (R.nh[i].1.kids.length+1) cap) (R.nh[i].1.kids.length+1) (ints R.nh[i].1.kids++[Value.int .i64 (R.nh.length:Int)])) (hg:W.grownBy w1 (Value.slice R.nh[i].2.1 R.nh[i].1.kids.length R.nh[i].2.2).ownBlock)
  (hf:(Value.slice R.nh[i].2.1 R.nh[i].1.kids.length R.nh[i].2.2).ownBlock=some gk∨W.heap.size≤gk) :
  OkP W p B R (s.kid i) (w1.setCell ⟨g,i*5+4,none⟩ (.slice (some ⟨gk,0,none⟩) (R.nh[i].1.kids.length+1) cap)):=by
 have AA:=h.len;have AD:=h.ns.kid (by decide) i hi R.nh.length hA ho hg hf
 have AC:(Value.slice R.nh[i].2.1 R.nh[i].1.kids.length R.nh[i].2.2).ownBlock≠some p:=fun e=>by
  obtain⟨AG,hc⟩:=jX (h.ns.kids _ (yL hi)) (vQ (h.ns.kids _ (yL hi)) e);exact Blk.differ h.blk hc (by decide) rfl
 have AE:p≠g:=fun e=>by
  obtain⟨AG,hc⟩:=jX h.ns.row hA;rw[←e] at hc;exact Blk.differ h.blk hc (by decide) rfl
 have AI:=(XY h.ns.row hA).1;have AK:=(XY h.ns.row hA).2;refine⟨{ R with nh:=R.nh.modify i fun x=>({ x.1 with kids:=x.1.kids++[R.nh.length] },(some ⟨gk,0,none⟩,cap)) },⟨?_,fun k hk=>?_,h.zHF,h.zDq,?_,AD,h.pB,⟨h.xU.last,h.xU.deep⟩⟩,?_⟩
 ·have AF:Blk w1 p 75 _:=(hg.block p h.blk.lt (fun e=>AC e.symm)).trans h.blk
  have:=AF.far (p:=⟨g,i*5+4,none⟩) AE (.slice (some ⟨gk,0,none⟩) (R.nh[i].1.kids.length+1) cap)
  show Blk _ p 75 #[.slice _ s.ts.length _,.slice _ (R.nh.modify i _).length _,.int .i64 (s.deep:Int)]
  rw[List.length_modify];exact this
 ·have AJ:=h.zDq
  have AB:R.bt≠g:=by omega
  have e1:w1.heap[R.bt]?=W.heap[R.bt]?:=hg.block R.bt h.btl fun e=>by
   have:=(XY (h.ns.kids _ (yL hi)) (vQ (h.ns.kids _ (yL hi)) e.symm)).1
   omega
  have e2:=World.cell?_of_block (w:=W) (w':=w1.setCell ⟨g,i*5+4,none⟩ (.slice (some ⟨gk,0,none⟩) (R.nh[i].1.kids.length+1) cap)) (a:=⟨R.bt,R.ot+k,none⟩) ((zQ w1 ⟨g,i*5+4,none⟩ _ R.bt AB).trans e1);exact e2.trans (h.zKC k hk)
 ·show(s.kid i).nd=_
  rw[zDE Prod.fst _ (fun n:Nd=>{ n with kids:=n.kids++[R.nh.length] }) (fun x=>rfl),←h.nodes,←AA]
  rfl
 ·refine⟨hg.os,hg.tape,hg.output,by have:=hg.size; simp[World.setCell]; omega,fun b hb hM=>?_,fun b hb=>?_⟩
  ·have AH:b≠g:=fun e=>hM (.inr (.inl (by rw[e]; exact hA)));rw[zQ w1 ⟨g,i*5+4,none⟩ _ b AH];exact hg.block b hb fun e=>hM (.inr (.inr (List.mem_map.2 ⟨_,yL hi,vQ (h.ns.kids _ (yL hi)) e.symm⟩)))
  ·rcases hb with hb | hb
   ·exact .inl (.inl hb)
   ·rcases zPM h.ns hi (fun n=>{ n with kids:=n.kids++[R.nh.length] }) hf b hb with h1 | h1
    ·exact .inl (.inr h1)
    ·exact .inr h1
theorem PS.zB2 {w:World}{p B:Nat}{s:Ps}{R:xW}(h:PS w p B s R)(i:Nat)(hi:i<R.nh.length){g:Nat}(hA:R.A=some ⟨g,0,none⟩)(j:Nat)(hj:j<5):w.cell? ⟨g,i*5+j,none⟩=(ZW R.nh[i])[j]?:=by
 have hr:=h.ns.row;rw[hA] at hr;rw[hr.cellAt (i*5+j) (by omega)];exact zSM R.nh i hi j hj
theorem PS.zH4 {w:World}{p B:Nat}{s:Ps}{R:xW}(h:PS w p B s R)(k:Nat){g:Nat}(hA:R.A=some ⟨g,0,none⟩):w.frozen? ⟨g,k,none⟩=false:=by
 obtain⟨AA,hc⟩:=jX h.ns.row hA;exact hc.frozen k
theorem PS.zPI {w:World}{p B:Nat}{s:Ps}{R:xW}(h:PS w p B s R)(hn:0<R.nh.length):∃g,R.A=some ⟨g,0,none⟩:=by
 rcases zD1 h.ns.row with e | e
 ·have hr:=h.ns.row;rw[e] at hr
  rcases hr.2 with ⟨_,h0⟩ | ⟨g,_,_,hv,_⟩
  ·omega
  ·cases hv
 ·exact e
theorem zBq (w:World)(p B:Nat)(s:Ps)(R:xW)(i kind:Nat)(F:Option Addr)(l:List KF)(fc:Nat)(h:PS w p B s R)(hi:i<s.nd.length)(hbig:s.nd.length≤1000000)(hl:l.length≤10)(hG:Good s)
  (hF:zD2 w (xJ p R) F (l.map KF.val)) (he:∀f ∈ l,∀args w,(callFunc f.K args).run Tryz.prog w=.ok (.enter f.K args) w)
  (hd:∀(k:Nat) (hk:k<l.length) (s':Ps) (wr:World) (R':xW),zBV (l.take k) (s.xH i kind)=.ok () s'→xK w (xJ p R) wr (xJ p R')→PS wr p B s' R'→Calls Tryz.prog l[k].K (l[k].first++#[.int .i64 (s.nd.length:Int)]++l[k].cap) wr (xM wr p B R' (l[k].m s'))) :
  Calls Tryz.prog 127 #[.pointer (some ⟨p,0,none⟩),.int .i64 (i:Int),.int .u8 (kind:Int),.slice F l.length fc] w (zCD w p B R (.int .i64 (s.nd.length:Int)) (zBV l (s.xH i kind))):=by
 obtain⟨i0,Ao,Ai,Ac,Ah⟩:=info_parts zGD;have AF:=h.len
 have AI:i<R.nh.length:=by omega
 obtain⟨g,hA⟩:=h.zPI (by omega);obtain⟨x,AM⟩:∃x,R.nh[i]=x:=⟨_,rfl⟩;obtain⟨⟨nk,np,nt,nn,kk⟩,kA,kc⟩:=x
 have c4:w.cell? ⟨g,i*5+4,none⟩=some (.slice kA kk.length kc):=by rw[h.zB2 i AI hA 4 (by decide),AM]; rfl
 have AK:=h.ns.zSP _ (yL AI);have AB:=h.ns.kids _ (yL AI);rw[AM] at AK AB
 simp only at AK AB
 obtain⟨o,HO⟩:∃o,Hid ((Value.slice kA kk.length kc).ownBlock=o):=⟨_,yD rfl⟩
 have AQ:Hid (some p≠o):=yD fun e=>by
  rw[←HO.out] at e;obtain⟨Af,hc⟩:=jX AB (vQ AB e.symm);exact Blk.differ h.blk hc (by decide) rfl
 have AW:Hid (some g≠o):=yD fun e=>by
  rw[←HO.out] at e;obtain⟨Af,hc⟩:=jX AB (vQ AB e.symm);obtain⟨An,Ae⟩:=jX h.ns.row hA;exact Blk.differ Ae hc (by decide) rfl
 have Ab:Hid (∀g,o=some g→g<w.heap.size):=yD fun g e=>by
  rw[←HO.out] at e;exact(XY AB (vQ AB e)).2
 have AY:=(XY h.ns.row hA).2;have AL:=h.blk.lt;have AZ:Hid (B≤w.heap.size):=yD (Nat.le_trans h.pB (zS AL));have AH:=yD AM;have HP:=yD h;have HA:=yD hA;have Aj:=yD AK;have Ag:=yD hF;have HE:=yD he;have HD:=yD hd;have Ad:=yD AF
 have AV:Hid (kk.length≤1000000):=yD (by
  have:=hG.few (R.nh[i].1) (by rw[h.nodes]; exact List.mem_map.2 ⟨_,yL AI,rfl⟩)
  rw[AH.out] at this
  simp only at this
  omega)
 rw[AF] at hbig;obtain⟨Fs,AJ⟩:∃Fs,Hid (FsH B 3 (.slice kA kk.length kc) w.heap.size kk.length (ints kk) [Value.int .i64 (R.nh.length:Int)]=Fs):=⟨_,yD rfl⟩
 have hE:∀F ∈ Fs,∀v w w',F v w→Ext w w'→F v w':=by rw[←AJ.out]; exact zJh _ _ _ _ _ _ _
 have m0:(fun (_:Value) w=>zAf B 3 kk.length (ints kk) (.slice kA kk.length kc) w) ∈ Fs:=by rw[←AJ.out]; simp only[FsH,zR,true_or]
 have m1:zDN 3 w.heap.size #[Value.int .i64 (R.nh.length:Int)] ∈ Fs:=by rw[←AJ.out]; simp only[FsH,zR,true_or,or_true]
 have m2:zOZ B 3 o w.heap.size (kk.length+1) (ints kk++[Value.int .i64 (R.nh.length:Int)]) ∈ Fs:=by rw[←AJ.out,←HO.out]; simp only[FsH,zR,true_or,or_true]
 have AX:=yD hE;have M0:=yD m0;have M1:=yD m1;have M2:=yD m2
 have q0:(i:Int)<(R.nh.length:Int):=by omega
 have C4:=yD c4;clear h hF he hd AF hE m0 m1 m2 AM AK AB hA c4 hG hi
 go_enter Tryz.func127,Tryz.ntmps127
 go_upto_region 1 with fail
 apply zCp o Fs 22 (by kernel_rfl) (by kernel_rfl) (by kernel_rfl) AX.out;dsimp only[List.take_succ_cons,List.take_zero,List.drop_succ_cons,List.drop_zero];apply sG jA.refl (.pointer (some ⟨p,0,none⟩));apply sG jA.refl (.pointer (some ⟨p,0,none⟩));apply sG jA.refl (.pointer (some ⟨p,1,none⟩));apply yZ (.slice (some ⟨g,0,none⟩) R.nh.length R.c) rfl rfl rfl
 ·intro w' AA hH;have hR:=jA.refl (o:=o) (Fs:=Fs) w';have cc:=Blk.cell ((AA.1.block p AL AQ.out).trans HP.out.blk) 1;rw[HA.out] at cc;clear hH AA;simp[yY,go_sem,cc,q0];exact hR
 apply sG jA.refl (.int .i64 (i:Int));apply sG jA.refl (.pointer (some ⟨p,0,none⟩));apply sG jA.refl (.pointer (some ⟨p,0,none⟩));apply sG jA.refl (.pointer (some ⟨p,1,none⟩));apply yZ (.slice (some ⟨g,0,none⟩) R.nh.length R.c) rfl rfl rfl
 ·intro w' AA hH;have hR:=jA.refl (o:=o) (Fs:=Fs) w';have cc:=Blk.cell ((AA.1.block p AL AQ.out).trans HP.out.blk) 1;rw[HA.out] at cc;clear hH AA;simp[yY,go_sem,cc,q0];exact hR
 apply sG jA.refl (.int .i64 (i:Int));apply yZ (.pointer (some ⟨g,i*5,none⟩)) rfl rfl rfl
 ·intro w' AA hH;clear hH AA;simp[yY,go_sem,q0];exact jA.refl _
 apply yZ (.pointer (some ⟨g,i*5+4,none⟩)) rfl rfl rfl
 ·intro w' AA hH;clear hH AA;simp[yY,go_sem,q0];exact jA.refl _
 (try simp only[Act.put,yA,yB,yC]);apply yZ (.slice kA kk.length kc) rfl rfl rfl
 ·intro w' AA hH;have hR:=jA.refl (o:=o) (Fs:=Fs) w';have cc:=(World.cell?_of_block (w:=w) (a:=⟨g,i*5+4,none⟩) (AA.1.block g AY AW.out)).trans C4.out;clear hH AA;simp[yY,go_sem,cc,q0];exact hR
 apply sG jA.refl (.pointer (some ⟨p,0,none⟩));apply sG jA.refl (.pointer (some ⟨p,0,none⟩));apply sG jA.refl (.pointer (some ⟨p,1,none⟩));apply yZ (.slice (some ⟨g,0,none⟩) R.nh.length R.c) rfl rfl rfl
 ·intro w' AA hH;have hR:=jA.refl (o:=o) (Fs:=Fs) w';have cc:=Blk.cell ((AA.1.block p AL AQ.out).trans HP.out.blk) 1;rw[HA.out] at cc;clear hH AA;simp[yY,go_sem,cc,q0];exact hR
 (try simp only[Act.put,yA,yB,yC]);apply sG jA.refl (.int .i64 (R.nh.length:Int))
 apply vA (zDN 3 w.heap.size #[Value.int .i64 (R.nh.length:Int)]) (fun v w w' h hx=>hx.2 _ M1.out v h) rfl rfl rfl
 ·intro w' AA hH;have hz:=AA.1.size;clear hH AA;simp[yY,go_sem];exact⟨⟨_,rfl,Blk.new _ _ _,hz⟩,jA.ext AX.out (Ext.alloc _ _)⟩
 intro Aa;(try simp only[Act.put,yA,yB,yC]);apply vA (zOZ B 3 o w.heap.size (kk.length+1) (ints kk++[Value.int .i64 (R.nh.length:Int)])) (fun v w w' h hx=>hx.2 _ M2.out v h) rfl rfl rfl
 ·intro w' AA hH;have AT:=hH _ (List.mem_cons_self ..) ⟨_,rfl,by decide⟩;have AP:=AA.2 _ M0.out undef Aj.out;have hz:=AA.1.size;clear hH AA;rw[←AJ.out,←HO.out];exact zE9 B w.heap.size (.tmp 21) (.tmp 27) 32 rfl 3 i0 _ 8 Tryz.underlying32 Ao Ai Ac Ah rfl (.slice kA kk.length kc) kk.length (ints kk) [Value.int .i64 (R.nh.length:Int)] (by kernel_rfl) AP Aa (by kernel_rfl) AT rfl (by simp[Value.oneCell']) (by unfold maxLen; have:=AV.out; omega) (by have:=AV.out; omega) (Nat.le_trans AZ.out hz) hz (fun g e=>Ab.out g (by rw[←HO.out]; exact e))
 intro Ap;(try simp only[Act.put,yA,yB,yC]);apply yZ (.pointer (some ⟨g,i*5,none⟩)) rfl rfl rfl
 ·intro w' AA hH;clear hH AA;simp[yY,go_sem,q0];exact jA.refl _
 apply yZ (.pointer (some ⟨g,i*5+4,none⟩)) rfl rfl rfl
 ·intro w' AA hH;clear hH AA;simp[yY,go_sem,q0];exact jA.refl _
 apply xN;intro w2 AU hH;have AN:=hH _ (List.mem_cons_self ..);clear hH;obtain⟨gk,cap,rfl⟩:=AN.1.at;have AS:=AU.1;have AR:=AU.1.block g AY AW.out;rw[←HO.out] at AS
 have HS:Hid (OkP w p B R (s.kid i) (w2.setCell ⟨g,i*5+4,none⟩ (.slice (some ⟨gk,0,none⟩) (kk.length+1) cap))):=yD (by
  have hh:=PS.kid (gk:=gk) (cap:=cap) HP.out i AI HA.out (w1:=w2) (by rw[AH.out]; exact AN.1.1) (by rw[AH.out]; exact AS) (by
   rw[AH.out]
   rcases AN.2 with e | ⟨g',e,Aq⟩
   ·left; rw[HO.out,←e]; rfl
   ·right; have:gk=g':=by simpa [Value.ownBlock] using e
    omega)
  rw[AH.out] at hh
  exact hh)
 have y1:w2.cell? ⟨g,i*5+4,none⟩=some (.slice kA kk.length kc):=(World.cell?_of_block (w:=w) (a:=⟨g,i*5+4,none⟩) AR).trans C4.out;have z1:w2.frozen? ⟨g,i*5+4,none⟩=false:=(World.frozen?_of_block (w:=w) (a:=⟨g,i*5+4,none⟩) AR).trans (HP.out.zH4 _ HA.out);clear AN AS AR AU;(try simp only[Act.put,yA,yB,yC])
 go_wp2_with fail
 clear y1 z1;generalize w2.setCell ⟨g,i*5+4,none⟩ (.slice (some ⟨gk,0,none⟩) (kk.length+1) cap)=w3 at *;obtain⟨R3,AG,AC⟩:=HS.out;have AO:(s.kid i).nd.length=s.nd.length:=zCA;refine(zIE w3 p B (s.kid i) R3 kind F l fc AG (by rw[AO,Ad.out]; exact hbig) hl (Ag.out.xO AC) HE.out (fun k hk s' wr R' h1 h2 h3=>by rw[AO]; exact HD.out k hk s' wr R' h1 (AC.trans h2) h3)).mono ?_;have Al:=yD AO;have Am:=yD AC;clear AG AC AO;intro e w4 AE
 have AD:zCD w p B R (.int .i64 (s.nd.length:Int)) (zBV l (s.xH i kind)) e w4:=by
  have hp:=AE;rw[Al.out] at hp;exact zCD.trans Am.out hp
 cases hq:zBV l (s.xH i kind) with
 | ok a s2=>
  rw[hq] at AD;obtain⟨he,ho⟩:=AD;subst he;have Ak:=yD ho;have HQ:=yD hq;clear AE ho hq
  go_wp2_with fail
  go_ret;rw[HQ.out];exact⟨rfl,Ak.out⟩
 | err er a=>
  rw[hq] at AD;obtain⟨he,ho⟩:=AD;subst he;refine xA (P:=Tryz.prog) (fn:=Tryz.f127) rfl ?_;exact⟨rfl,ho⟩
theorem zDf (w:World)(p B:Nat)(s:Ps)(R:xW)(i kind:Nat)(h:PS w p B s R)(hi:i<s.nd.length)(hbig:s.nd.length≤1000000)(hG:Good s) :
  Calls Tryz.prog 127 #[.pointer (some ⟨p,0,none⟩),.int .i64 (i:Int),.int .u8 (kind:Int),.slice none 0 0] w (zCD w p B R (.int .i64 (s.nd.length:Int)) (.ok () (s.xH i kind))):=
 zBq w p B s R i kind none [] 0 h hi hbig (by decide) hG (.inl rfl) (fun f hf=>by cases hf) (fun k hk=>by cases hk)
end Go.Proofs.YtioffpjajhalaaaGreatDoor
