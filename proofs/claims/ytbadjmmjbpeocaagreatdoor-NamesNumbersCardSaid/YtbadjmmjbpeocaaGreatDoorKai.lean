/- The program's kid: a node as a kid of another one. (and what follows of it). The conditions stand at each lemma. -/
import Derived.Test.YtbadjmmjbpeocaaGreatDoorKaa
import Derived.Test.YtbadjmmjbpeocaaGreatDoorKah
set_option linter.unusedVariables false
set_option linter.unusedSimpArgs false
set_option maxRecDepth 100000
set_option maxHeartbeats 16000000
namespace Go.Proofs.YtbadjmmjbpeocaaGreatDoor
open Go Go.RowKit
theorem zDS.trans {w w1 w2:World}{p B:Nat}{R R1:xV}{v:Value}{r:Res Unit}{e:Ending}(h:xD w (xL p R) w1 (xL p R1))(k:zDS w1 p B R1 v r e w2):zDS w p B R v r e w2:=by
 cases r with
 | ok a s=>exact⟨k.1,OkP.trans h k.2⟩
 | err er a=>exact VH.trans h k
theorem zFh {α β:Type}(f:α→β)(g:α→α)(k:β→β)(h:∀x,f (g x)=k (f x)):∀(l:List α) (i:Nat),(l.modify i g).map f=(l.map f).modify i k
 | [],i=>by simp
 | x::l,0=>by simp[h]
 | x::l,i+1=>by simp[zFh f g k h l i]
theorem PS.kid {W w1:World}{p B:Nat}{s:Ps}{R:xV}(h:PS W p B s R)(i:Nat)(hi:i<R.nh.length){g gk cap:Nat}(hA:R.A=some ⟨g,0,none⟩)
  (ho:w1.ownsRow B 3 1 (.slice (some ⟨gk,0,none⟩) (R.nh[i].1.kids.length+1) cap) (R.nh[i].1.kids.length+1) (ints R.nh[i].1.kids++[Value.int .i64 (R.nh.length:Int)])) (hg:W.grownBy w1 (Value.slice R.nh[i].2.1 R.nh[i].1.kids.length R.nh[i].2.2).ownBlock)
  (hf:(Value.slice R.nh[i].2.1 R.nh[i].1.kids.length R.nh[i].2.2).ownBlock=some gk∨W.heap.size≤gk) :
  OkP W p B R (s.kid i) (w1.setCell ⟨g,i*5+4,none⟩ (.slice (some ⟨gk,0,none⟩) (R.nh[i].1.kids.length+1) cap)):=by
 have hlen:=h.len;have hns:=h.ns.kid (by decide) i hi R.nh.length hA ho hg hf
 have hpo:(Value.slice R.nh[i].2.1 R.nh[i].1.kids.length R.nh[i].2.2).ownBlock≠some p:=fun e=>by
  obtain⟨cur,hc⟩:=xY (h.ns.kids _ (yO hi)) (xP (h.ns.kids _ (yO hi)) e);exact Blk.differ h.blk hc (by decide) rfl
 have hpg:p≠g:=fun e=>by
  obtain⟨cur,hc⟩:=xY h.ns.row hA;rw[←e] at hc;exact Blk.differ h.blk hc (by decide) rfl
 have hgB:=(jE h.ns.row hA).1;have hgl:=(jE h.ns.row hA).2;refine⟨{ R with nh:=R.nh.modify i fun x=>({ x.1 with kids:=x.1.kids++[R.nh.length] },(some ⟨gk,0,none⟩,cap)) },⟨?_,fun k hk=>?_,h.zJo,h.zEY,?_,hns,h.pB,⟨h.xS.last,h.xS.deep⟩⟩,?_⟩
 ·have hb1:Blk w1 p 72 _:=(hg.block p h.blk.lt (fun e=>hpo e.symm)).trans h.blk
  have:=hb1.far (p:=⟨g,i*5+4,none⟩) hpg (.slice (some ⟨gk,0,none⟩) (R.nh[i].1.kids.length+1) cap)
  show Blk _ p 72 #[.slice _ s.ts.length _,.slice _ (R.nh.modify i _).length _,.int .i64 (s.deep:Int)]
  rw[List.length_modify];exact this
 ·have hlt:=h.zEY
  have hne:R.bt≠g:=by omega
  have e1:w1.heap[R.bt]?=W.heap[R.bt]?:=hg.block R.bt h.btl fun e=>by
   have:=(jE (h.ns.kids _ (yO hi)) (xP (h.ns.kids _ (yO hi)) e.symm)).1
   omega
  have e2:=World.cell?_of_block (w:=W) (w':=w1.setCell ⟨g,i*5+4,none⟩ (.slice (some ⟨gk,0,none⟩) (R.nh[i].1.kids.length+1) cap)) (a:=⟨R.bt,R.ot+k,none⟩) ((zS w1 ⟨g,i*5+4,none⟩ _ R.bt hne).trans e1);exact e2.trans (h.zMQ k hk)
 ·show(s.kid i).nd=_
  rw[zFh Prod.fst _ (fun n:Nd=>{ n with kids:=n.kids++[R.nh.length] }) (fun x=>rfl),←h.nodes,←hlen]
  rfl
 ·refine⟨hg.os,hg.tape,hg.output,by have:=hg.size; simp[World.setCell]; omega,fun b hb hM=>?_,fun b hb=>?_⟩
  ·have hbg:b≠g:=fun e=>hM (.inr (.inl (by rw[e]; exact hA)));rw[zS w1 ⟨g,i*5+4,none⟩ _ b hbg];exact hg.block b hb fun e=>hM (.inr (.inr (List.mem_map.2 ⟨_,yO hi,xP (h.ns.kids _ (yO hi)) e.symm⟩)))
  ·rcases hb with hb | hb
   ·exact .inl (.inl hb)
   ·rcases zRx h.ns hi (fun n=>{ n with kids:=n.kids++[R.nh.length] }) hf b hb with h1 | h1
    ·exact .inl (.inr h1)
    ·exact .inr h1
theorem PS.zC8 {w:World}{p B:Nat}{s:Ps}{R:xV}(h:PS w p B s R)(i:Nat)(hi:i<R.nh.length){g:Nat}(hA:R.A=some ⟨g,0,none⟩)(j:Nat)(hj:j<5):w.cell? ⟨g,i*5+j,none⟩=(YH R.nh[i])[j]?:=by
 have hr:=h.ns.row;rw[hA] at hr;rw[hr.cellAt (i*5+j) (by omega)];exact zSW R.nh i hi j hj
theorem PS.zJY {w:World}{p B:Nat}{s:Ps}{R:xV}(h:PS w p B s R)(k:Nat){g:Nat}(hA:R.A=some ⟨g,0,none⟩):w.frozen? ⟨g,k,none⟩=false:=by
 obtain⟨cur,hc⟩:=xY h.ns.row hA;exact hc.frozen k
theorem PS.zRt {w:World}{p B:Nat}{s:Ps}{R:xV}(h:PS w p B s R)(hn:0<R.nh.length):∃g,R.A=some ⟨g,0,none⟩:=by
 rcases zAQ h.ns.row with e | e
 ·have hr:=h.ns.row;rw[e] at hr
  rcases hr.2 with ⟨_,h0⟩ | ⟨g,_,_,hv,_⟩
  ·omega
  ·cases hv
 ·exact e
theorem zCw (w:World)(p B:Nat)(s:Ps)(R:xV)(i kind:Nat)(F:Option Addr)(l:List KF)(fc:Nat)(h:PS w p B s R)(hi:i<s.nd.length)(hbig:s.nd.length≤1000000)(hl:l.length≤10)(hG:Good s)
  (hF:XE w (xL p R) F (l.map KF.val)) (he:∀f ∈ l,∀args w,(callFunc f.K args).run Tryz.prog w=.ok (.enter f.K args) w)
  (hd:∀(k:Nat) (hk:k<l.length) (s':Ps) (wr:World) (R':xV),zC2 (l.take k) (s.xJ i kind)=.ok () s'→xD w (xL p R) wr (xL p R')→PS wr p B s' R'→Calls Tryz.prog l[k].K (l[k].first++#[.int .i64 (s.nd.length:Int)]++l[k].cap) wr (xN wr p B R' (l[k].m s'))) :
  Calls Tryz.prog 88 #[.pointer (some ⟨p,0,none⟩),.int .i64 (i:Int),.int .u8 (kind:Int),.slice F l.length fc] w (zDS w p B R (.int .i64 (s.nd.length:Int)) (zC2 l (s.xJ i kind))):=by
 obtain⟨i0,hi0,hz0,hz1,hz2⟩:=info_parts zIq;have hlen:=h.len
 have hi':i<R.nh.length:=by omega
 obtain⟨g,hA⟩:=h.zRt (by omega);obtain⟨x,hxi⟩:∃x,R.nh[i]=x:=⟨_,rfl⟩;obtain⟨⟨nk,np,nt,nn,kk⟩,kA,kc⟩:=x
 have c4:w.cell? ⟨g,i*5+4,none⟩=some (.slice kA kk.length kc):=by rw[h.zC8 i hi' hA 4 (by decide),hxi]; rfl
 have hkr:=h.ns.zU0 _ (yO hi');have hkk:=h.ns.kids _ (yO hi');rw[hxi] at hkr hkk
 simp only at hkr hkk
 obtain⟨o,HO⟩:∃o,Hid ((Value.slice kA kk.length kc).ownBlock=o):=⟨_,yG rfl⟩
 have HPN:Hid (some p≠o):=yG fun e=>by
  rw[←HO.out] at e;obtain⟨cur,hc⟩:=xY hkk (xP hkk e.symm);exact Blk.differ h.blk hc (by decide) rfl
 have HGN:Hid (some g≠o):=yG fun e=>by
  rw[←HO.out] at e;obtain⟨cur,hc⟩:=xY hkk (xP hkk e.symm);obtain⟨cur2,hc2⟩:=xY h.ns.row hA;exact Blk.differ hc2 hc (by decide) rfl
 have HOG:Hid (∀g,o=some g→g<w.heap.size):=yG fun g e=>by
  rw[←HO.out] at e;exact(jE hkk (xP hkk e)).2
 have hgl:=(jE h.ns.row hA).2;have hpl:=h.blk.lt;have HBW:Hid (B≤w.heap.size):=yG (Nat.le_trans h.pB (zV hpl));have HXI:=yG hxi;have HP:=yG h;have HA:=yG hA;have HKR:=yG hkr;have HFC:=yG hF;have HE:=yG he;have HD:=yG hd;have HLN:=yG hlen
 have HKB:Hid (kk.length≤1000000):=yG (by
  have:=hG.few (R.nh[i].1) (by rw[h.nodes]; exact List.mem_map.2 ⟨_,yO hi',rfl⟩)
  rw[HXI.out] at this
  simp only at this
  omega)
 rw[hlen] at hbig;obtain⟨Fs,HFS⟩:∃Fs,Hid (FsH B 3 (.slice kA kk.length kc) w.heap.size kk.length (ints kk) [Value.int .i64 (R.nh.length:Int)]=Fs):=⟨_,yG rfl⟩
 have hE:∀F ∈ Fs,∀v w w',F v w→Ext w w'→F v w':=by rw[←HFS.out]; exact zFW _ _ _ _ _ _ _
 have m0:(fun (_:Value) w=>VS B 3 kk.length (ints kk) (.slice kA kk.length kc) w) ∈ Fs:=by rw[←HFS.out]; simp only[FsH,zU,true_or]
 have m1:zBj 3 w.heap.size #[Value.int .i64 (R.nh.length:Int)] ∈ Fs:=by rw[←HFS.out]; simp only[FsH,zU,true_or,or_true]
 have m2:zJN B 3 o w.heap.size (kk.length+1) (ints kk++[Value.int .i64 (R.nh.length:Int)]) ∈ Fs:=by rw[←HFS.out,←HO.out]; simp only[FsH,zU,true_or,or_true]
 have HE2:=yG hE;have M0:=yG m0;have M1:=yG m1;have M2:=yG m2
 have q0:(i:Int)<(R.nh.length:Int):=by omega
 have C4:=yG c4;clear h hF he hd hlen hE m0 m1 m2 hxi hkr hkk hA c4 hG hi
 go_enter Tryz.func88,Tryz.ntmps88
 go_upto_region 1 with fail
 apply zBd o Fs 22 (by kernel_rfl) (by kernel_rfl) (by kernel_rfl) HE2.out;dsimp only[List.take_succ_cons,List.take_zero,List.drop_succ_cons,List.drop_zero];apply yZ (.pointer (some ⟨p,0,none⟩)) rfl rfl rfl
 ·intro w' hw' hH;clear hH hw';simp[xB,go_sem];exact vG.refl _
 apply yZ (.pointer (some ⟨p,0,none⟩)) rfl rfl rfl
 ·intro w' hw' hH;clear hH hw';simp[xB,go_sem];exact vG.refl _
 apply yZ (.pointer (some ⟨p,1,none⟩)) rfl rfl rfl
 ·intro w' hw' hH;clear hH hw';simp[xB,go_sem];exact vG.refl _
 simp only[Act.put,yD,yE,yF];apply yZ (.slice (some ⟨g,0,none⟩) R.nh.length R.c) rfl rfl rfl
 ·intro w' hw' hH;have hR:=vG.refl (o:=o) (Fs:=Fs) w';have cc:=Blk.cell ((hw'.1.block p hpl HPN.out).trans HP.out.blk) 1;rw[HA.out] at cc;clear hH hw';simp[xB,go_sem,cc,q0];exact hR
 apply yZ (.int .i64 (i:Int)) rfl rfl rfl
 ·intro w' hw' hH;clear hH hw';simp[xB,go_sem];exact vG.refl _
 apply yZ (.pointer (some ⟨p,0,none⟩)) rfl rfl rfl
 ·intro w' hw' hH;clear hH hw';simp[xB,go_sem];exact vG.refl _
 apply yZ (.pointer (some ⟨p,0,none⟩)) rfl rfl rfl
 ·intro w' hw' hH;clear hH hw';simp[xB,go_sem];exact vG.refl _
 apply yZ (.pointer (some ⟨p,1,none⟩)) rfl rfl rfl
 ·intro w' hw' hH;clear hH hw';simp[xB,go_sem];exact vG.refl _
 simp only[Act.put,yD,yE,yF];apply yZ (.slice (some ⟨g,0,none⟩) R.nh.length R.c) rfl rfl rfl
 ·intro w' hw' hH;have hR:=vG.refl (o:=o) (Fs:=Fs) w';have cc:=Blk.cell ((hw'.1.block p hpl HPN.out).trans HP.out.blk) 1;rw[HA.out] at cc;clear hH hw';simp[xB,go_sem,cc,q0];exact hR
 apply yZ (.int .i64 (i:Int)) rfl rfl rfl
 ·intro w' hw' hH;clear hH hw';simp[xB,go_sem];exact vG.refl _
 simp only[Act.put,yD,yE,yF];apply yZ (.pointer (some ⟨g,i*5,none⟩)) rfl rfl rfl
 ·intro w' hw' hH;clear hH hw';simp[xB,go_sem,q0];exact vG.refl _
 apply yZ (.pointer (some ⟨g,i*5+4,none⟩)) rfl rfl rfl
 ·intro w' hw' hH;clear hH hw';simp[xB,go_sem,q0];exact vG.refl _
 simp only[Act.put,yD,yE,yF];apply yZ (.slice kA kk.length kc) rfl rfl rfl
 ·intro w' hw' hH;have hR:=vG.refl (o:=o) (Fs:=Fs) w';have cc:=(World.cell?_of_block (w:=w) (a:=⟨g,i*5+4,none⟩) (hw'.1.block g hgl HGN.out)).trans C4.out;clear hH hw';simp[xB,go_sem,cc,q0];exact hR
 apply yZ (.pointer (some ⟨p,0,none⟩)) rfl rfl rfl
 ·intro w' hw' hH;clear hH hw';simp[xB,go_sem];exact vG.refl _
 apply yZ (.pointer (some ⟨p,0,none⟩)) rfl rfl rfl
 ·intro w' hw' hH;clear hH hw';simp[xB,go_sem];exact vG.refl _
 apply yZ (.pointer (some ⟨p,1,none⟩)) rfl rfl rfl
 ·intro w' hw' hH;clear hH hw';simp[xB,go_sem];exact vG.refl _
 simp only[Act.put,yD,yE,yF];apply yZ (.slice (some ⟨g,0,none⟩) R.nh.length R.c) rfl rfl rfl
 ·intro w' hw' hH;have hR:=vG.refl (o:=o) (Fs:=Fs) w';have cc:=Blk.cell ((hw'.1.block p hpl HPN.out).trans HP.out.blk) 1;rw[HA.out] at cc;clear hH hw';simp[xB,go_sem,cc,q0];exact hR
 simp only[Act.put,yD,yE,yF];apply yZ (.int .i64 (R.nh.length:Int)) rfl rfl rfl
 ·intro w' hw' hH;clear hH hw';simp[xB,go_sem];exact vG.refl _
 apply vE (zBj 3 w.heap.size #[Value.int .i64 (R.nh.length:Int)]) (fun v w w' h hx=>hx.2 _ M1.out v h) rfl rfl rfl
 ·intro w' hw' hH;have hz:=hw'.1.size;clear hH hw';simp[xB,go_sem];exact⟨⟨_,rfl,Blk.new _ _ _,hz⟩,vG.ext HE2.out (Ext.alloc _ _)⟩
 intro v27;simp only[Act.put,yD,yE,yF];apply vE (zJN B 3 o w.heap.size (kk.length+1) (ints kk++[Value.int .i64 (R.nh.length:Int)])) (fun v w w' h hx=>hx.2 _ M2.out v h) rfl rfl rfl
 ·intro w' hw' hH;have hlit:=hH _ (List.mem_cons_self ..) ⟨_,rfl,by decide⟩;have hrow:=hw'.2 _ M0.out undef HKR.out;have hz:=hw'.1.size;clear hH hw';rw[←HFS.out,←HO.out];exact zCK B w.heap.size (.tmp 21) (.tmp 27) 33 rfl 3 i0 _ 8 Tryz.underlying33 hi0 hz0 hz1 hz2 rfl (.slice kA kk.length kc) kk.length (ints kk) [Value.int .i64 (R.nh.length:Int)] (by kernel_rfl) hrow v27 (by kernel_rfl) hlit rfl (by simp[Value.oneCell']) (by unfold maxLen; have:=HKB.out; omega) (by have:=HKB.out; omega) (Nat.le_trans HBW.out hz) hz (fun g e=>HOG.out g (by rw[←HO.out]; exact e))
 intro v28;simp only[Act.put,yD,yE,yF];apply yZ (.pointer (some ⟨g,i*5,none⟩)) rfl rfl rfl
 ·intro w' hw' hH;clear hH hw';simp[xB,go_sem,q0];exact vG.refl _
 apply yZ (.pointer (some ⟨g,i*5+4,none⟩)) rfl rfl rfl
 ·intro w' hw' hH;clear hH hw';simp[xB,go_sem,q0];exact vG.refl _
 apply vC;intro w2 hw2 hH;have h28:=hH _ (List.mem_cons_self ..);clear hH;obtain⟨gk,cap,rfl⟩:=h28.1.at;have hgr:=hw2.1;have hgb:=hw2.1.block g hgl HGN.out;rw[←HO.out] at hgr
 have HS:Hid (OkP w p B R (s.kid i) (w2.setCell ⟨g,i*5+4,none⟩ (.slice (some ⟨gk,0,none⟩) (kk.length+1) cap))):=yG (by
  have hh:=PS.kid (gk:=gk) (cap:=cap) HP.out i hi' HA.out (w1:=w2) (by rw[HXI.out]; exact h28.1.1) (by rw[HXI.out]; exact hgr) (by
   rw[HXI.out]
   rcases h28.2 with e | ⟨g',e,hg'⟩
   ·left; rw[HO.out,←e]; rfl
   ·right; have:gk=g':=by simpa [Value.ownBlock] using e
    omega)
  rw[HXI.out] at hh
  exact hh)
 have y1:w2.cell? ⟨g,i*5+4,none⟩=some (.slice kA kk.length kc):=(World.cell?_of_block (w:=w) (a:=⟨g,i*5+4,none⟩) hgb).trans C4.out;have z1:w2.frozen? ⟨g,i*5+4,none⟩=false:=(World.frozen?_of_block (w:=w) (a:=⟨g,i*5+4,none⟩) hgb).trans (HP.out.zJY _ HA.out);clear h28 hgr hgb hw2;simp only[Act.put,yD,yE,yF]
 go_wp2_with fail
 clear y1 z1;generalize w2.setCell ⟨g,i*5+4,none⟩ (.slice (some ⟨gk,0,none⟩) (kk.length+1) cap)=w3 at *;obtain⟨R3,hps3,hmv3⟩:=HS.out;have hl3:(s.kid i).nd.length=s.nd.length:=zDL;refine(zKO w3 p B (s.kid i) R3 kind F l fc hps3 (by rw[hl3,HLN.out]; exact hbig) hl (HFC.out.xG hmv3) HE.out (fun k hk s' wr R' h1 h2 h3=>by rw[hl3]; exact HD.out k hk s' wr R' h1 (hmv3.trans h2) h3)).mono ?_;have HL3:=yG hl3;have HMV:=yG hmv3;clear hps3 hmv3 hl3;intro e w4 hpost
 have hres:zDS w p B R (.int .i64 (s.nd.length:Int)) (zC2 l (s.xJ i kind)) e w4:=by
  have hp:=hpost;rw[HL3.out] at hp;exact zDS.trans HMV.out hp
 cases hq:zC2 l (s.xJ i kind) with
 | ok a s2=>
  rw[hq] at hres;obtain⟨he,ho⟩:=hres;subst he;have HOF:=yG ho;have HQ:=yG hq;clear hpost ho hq
  go_wp2_with fail
  go_ret;rw[HQ.out];exact⟨rfl,HOF.out⟩
 | err er a=>
  rw[hq] at hres;obtain⟨he,ho⟩:=hres;subst he;refine xE (P:=Tryz.prog) (fn:=Tryz.f88) rfl ?_;exact⟨rfl,ho⟩
theorem zEK (w:World)(p B:Nat)(s:Ps)(R:xV)(i kind:Nat)(h:PS w p B s R)(hi:i<s.nd.length)(hbig:s.nd.length≤1000000)(hG:Good s) :
  Calls Tryz.prog 88 #[.pointer (some ⟨p,0,none⟩),.int .i64 (i:Int),.int .u8 (kind:Int),.slice none 0 0] w (zDS w p B R (.int .i64 (s.nd.length:Int)) (.ok () (s.xJ i kind))):=
 zCw w p B s R i kind none [] 0 h hi hbig (by decide) hG (.inl rfl) (fun f hf=>by cases hf) (fun k hk=>by cases hk)
def vP (X:List PanicEntry→World→Prop)(P:Program)(ρ:Operand→Value)(o:Oper)(w:World)(F:Value→World→Prop):Prop:=
 match (execOp ρ o).run P w with
 | .ok (.value u) w'=>F u w'
 | .ok .skip w'=>F undef w'
 | .ok (.enter f args) w'=>Calls P f args w' fun e w''=>(∃u,e=.returned u∧F u w'')∨∃c,e=.panicked c∧X c w''
 | _=>False
theorem vP.mono {X:List PanicEntry→World→Prop}{P:Program}{ρ:Operand→Value}{o:Oper}{w:World}{F G:Value→World→Prop}(h:vP X P ρ o w F)(hFG:∀v w',F v w'→G v w'):vP X P ρ o w G:=by
 unfold vP at *;generalize (execOp ρ o).run P w=r at *
 cases r with
 | ok n w'=>
  cases n with
  | value u=>exact hFG _ _ h
  | skip=>exact hFG _ _ h
  | enter f args=>exact Calls.mono h fun e w'' hh=>hh.imp (fun ⟨u,he,hf⟩=>⟨u,he,hFG _ _ hf⟩) id
  | _=>exact h
 | halt x w'=>exact h
theorem zJM {X:List PanicEntry→World→Prop}{P:Program}{o:Oper}{a:Act}{w:World}{F:Value→World→Prop}{K:Act→World→Prop}{Q:Exit→Act→World→Prop}
  (h:vP X P a.eval o w F) (hk:∀v w',F v w'→K (a.put o.dst v) w') (hX:∀c w',X c w'→Q (.panic c) a w'):o.wp P a w K Q:=by
 unfold vP at h;unfold Oper.wp;generalize (execOp a.eval o).run P w=r at *
 cases r with
 | ok n w'=>
  cases n with
  | value u=>exact hk _ _ h
  | skip=>exact hk _ _ h
  | enter f args=>exact Calls.mono h fun e w'' hh=>by rcases hh with ⟨u,he,hf⟩ | ⟨c,he,hx⟩ <;> subst he <;> first | exact hk _ _ hf | exact hX _ _ hx
  | _=>exact h.elim
 | halt x w'=>exact h.elim
section
variable (X:List PanicEntry→World→Prop) (P:Program) (ops:Array Oper) (R:World→World→Prop) (w0:World) (Q:Act→World→Prop)
def zKX (o:Oper)(a:Act)(H:List (Option Tmp × (World→Prop)))(F:Value→World→Prop):Prop:=
 ∀w,R w0 w→(∀p ∈ H,(∃t,p.1=some t∧t ∈ o.looksAt ops)→p.2 w) →
  if Region.wanted o (yielded ops a.tmps)=true then vP X P a.eval o w (fun v w'=>F v w'∧R w w') else F undef w
def zA6:List Oper→List Take→Act→List (Option Tmp × (World→Prop))→Prop
 | [],_,a,H=>∀w,R w0 w→(∀p ∈ H,p.2 w)→Q a w
 | o::l,.det v0::ks,a,H=>zKX X P ops R w0 o a H (fun v _=>v=v0)∧zA6 l ks (a.put o.dst v0) H
 | o::l,.fact F::ks,a,H=>(∀v w w',F v w→R w w'→F v w')∧zKX X P ops R w0 o a H F∧∀v,zA6 l ks (a.put o.dst v) ((o.dst,F v)::H)
 | _::_,[],_,_=>False
end
section
variable {X:List PanicEntry→World→Prop} {P:Program} {ops:Array Oper} {R:World→World→Prop} {w0:World} {Q:Act→World→Prop}
theorem zGo {a:Act}{H:List (Option Tmp × (World→Prop))}(h:∀w,R w0 w→(∀p ∈ H,p.2 w)→Q a w):zA6 X P ops R w0 Q [] [] a H:=h
theorem zQI {o:Oper}{l:List Oper}{ks:List Take}{a:Act}{H:List (Option Tmp × (World→Prop))}(v0:Value)
  (h:zKX X P ops R w0 o a H (fun v _=>v=v0)) (hk:zA6 X P ops R w0 Q l ks (a.put o.dst v0) H):zA6 X P ops R w0 Q (o::l) (.det v0::ks) a H:=⟨h,hk⟩
theorem zN8 {o:Oper}{l:List Oper}{ks:List Take}{a:Act}{H:List (Option Tmp × (World→Prop))}(F:Value→World→Prop)
  (hs:∀v w w',F v w→R w w'→F v w') (h:zKX X P ops R w0 o a H F) (hk:∀v,zA6 X P ops R w0 Q l ks (a.put o.dst v) ((o.dst,F v)::H)):zA6 X P ops R w0 Q (o::l) (.fact F::ks) a H:=⟨hs,h,hk⟩
theorem zFg {ks:List Take}{a0:Act}(vs:Nat→Value):∀(l:List Oper) (k:Nat),(∀j,j<l.length→l[j]?=ops[k+j]?)→zA6 X P ops R w0 Q l (ks.drop k) (YC ops ks vs a0 k) (JZ ops ks vs k) →
  (∀i o,k≤i→i<k+l.length→ops[i]?=some o→(∀v w w',(ks.getD i (.det undef)).says v w→R w w'→(ks.getD i (.det undef)).says v w')∧zKX X P ops R w0 o (YC ops ks vs a0 i) (JZ ops ks vs i) (ks.getD i (.det undef)).says) ∧
  ∀w,R w0 w→(∀p ∈ JZ ops ks vs (k+l.length),p.2 w)→Q (YC ops ks vs a0 (k+l.length)) w
 | [],k,hl,h=>by
  refine⟨fun i o hi hlt ho=>?_,by simpa [zA6] using h⟩
  simp at hlt
  omega
 | o::l,k,hl,h=>by
  have h0:ops[k]?=some o:=by simpa using (hl 0 (by simp)).symm
  have hl':∀j,j<l.length→l[j]?=ops[k+1+j]?:=fun j hj=>by
   have:=hl (j+1) (by simpa using hj)
   simpa [Nat.add_assoc,Nat.add_comm 1 j] using this
  cases hd:ks.drop k with
  | nil=>rw[hd] at h; simp[zA6] at h
  | cons x ks'=>
   rw[hd] at h
   have hx:ks[k]?=some x:=by
    have:=congrArg (fun l=>l[0]?) hd
    simpa using this
   have hg:ks.getD k (.det undef)=x:=by simp[List.getD,hx]
   have hd':ks.drop (k+1)=ks':=by
    rw[←List.drop_drop,hd]; rfl
   have hlen:k+(o::l).length=k+1+l.length:=by simp; omega
   cases x with
   | det v0=>
    simp only[zA6] at h
    have hA:YC ops ks vs a0 (k+1)=(YC ops ks vs a0 k).put o.dst v0:=by
     show(YC ops ks vs a0 k).put ((ops[k]?).bind (·.dst)) ((ks.getD k (.det undef)).val (vs k))=_
     rw[hg,h0]; rfl
    have hH:JZ ops ks vs (k+1)=JZ ops ks vs k:=by
     show(match ks.getD k (.det undef) with | .det _=>_ | .fact F=>_)=_
     rw[hg]
    obtain⟨r1,r2⟩:=zFg vs l (k+1) hl' (by rw[hd',hA,hH]; exact h.2);rw[hlen];refine⟨fun i oi hi hlt ho=>?_,r2⟩
    by_cases hik:i=k
    ·subst hik;rw[h0] at ho;obtain rfl:=Option.some.inj ho;rw[hg];exact⟨fun v w w' e _=>e,h.1⟩
    ·exact r1 i oi (by omega) (by omega) ho
   | fact F=>
    simp only[zA6] at h
    have hA:YC ops ks vs a0 (k+1)=(YC ops ks vs a0 k).put o.dst (vs k):=by
     show(YC ops ks vs a0 k).put ((ops[k]?).bind (·.dst)) ((ks.getD k (.det undef)).val (vs k))=_
     rw[hg,h0]; rfl
    have hH:JZ ops ks vs (k+1)=(o.dst,F (vs k))::JZ ops ks vs k:=by
     show(match ks.getD k (.det undef) with | .det _=>_ | .fact F=>_)=_
     rw[hg,h0]; rfl
    obtain⟨r1,r2⟩:=zFg vs l (k+1) hl' (by rw[hd',hA,hH]; exact h.2.2 (vs k));rw[hlen];refine⟨fun i oi hi hlt ho=>?_,r2⟩
    by_cases hik:i=k
    ·subst hik;rw[h0] at ho;obtain rfl:=Option.some.inj ho;rw[hg];exact⟨h.1,h.2.1⟩
    ·exact r1 i oi (by omega) (by omega) ho
theorem zE1 (o:Oper)(hs:∀cs b,o.op≠.select cs b)(a a':Act)(h:∀t ∈ o.looksAt ops,a.tmps[t]?=a'.tmps[t]?){w:World}{F:Value→World→Prop}:vP X P a.eval o w F=vP X P a'.eval o w F:=by
 unfold vP;rw[zGP o hs a a' h]
theorem zLJ {m:Nat}(hR:∀a b c,R a b→R b c→R a c)(hB:YF ops m=true)(hT:zCh ops m=true){ks:List Take}{a0:Act}{Q':Exit→Act→World→Prop}(hX:∀a,a.defers=a0.defers→∀c w,X c w→Q' (.panic c) a w)
  (hst:∀i o,i<m→ops[i]?=some o→∀v w w',(ks.getD i (.det undef)).says v w→R w w'→(ks.getD i (.det undef)).says v w')
  (how:∀vs i o,i<m→ops[i]?=some o→zKX X P ops R w0 o (YC ops ks vs a0 i) (JZ ops ks vs i) (ks.getD i (.det undef)).says)
  (hQ:∀vs w,R w0 w→(∀p ∈ JZ ops ks vs m,p.2 w)→wpList P ops Q' (ops.toList.drop m) (YC ops ks vs a0 m) w) :
  ∀(n:Nat) (listed:Array Bool) (U:List Nat) (a:Act) (w:World) (vs:Nat→Value),listed.size=ops.size→U.length=n→U.Nodup→(∀i,i ∈ U↔i<m∧listed.getD i true=false) →
   zDU P ops m R w0 ks a0 listed a w vs→wpAny P .any ops Q' (n+(ops.size-m)) listed a w:=by
 have hms:=JD hB
 have conv:∀(listed:Array Bool) (j:Nat),listed.size=ops.size→j<ops.size→listed.getD j false=listed.getD j true:=fun listed j hls hj=>by
  have:j<listed.size:=by omega
  simp[this]
 intro n
 induction n with
 | zero=>
  intro listed U a w vs hls hlen hnd hU hway;obtain rfl:=List.length_eq_zero_iff.1 hlen
  have all:∀i,i<m→listed.getD i true=true:=fun i hi=>by
   cases hf:listed.getD i true with
   | true=>rfl
   | false=>have:=(hU i).2 ⟨hi,hf⟩; cases this
  have ea:a=YC ops ks vs a0 m:=by
   refine zF6 (fun t=>?_) (by rw[hway.defers,zBC])
   by_cases hex:∃(i:Nat) (o:Oper),i<m∧ops[i]?=some o∧o.dst=some t
   ·obtain⟨i,o,him,hi,hd⟩:=hex;have hl:=all i him;rw[hway.done i o t him hi hd hl,zAb hB (j:=i) (by rw[hi]; exact hd) him (zX _),Take.zD2 (hway.facts i him hl)]
   ·rw[hway.other t fun i o him hi hd=>absurd ⟨i,o,him,hi,hd⟩ hex,YN];intro j hj e;obtain⟨o,ho,hd⟩:=Option.bind_eq_some_iff.1 e;exact hex ⟨j,o,hj,ho,hd⟩
  rw[Nat.zero_add];refine zFi hT _ m listed a w (zX _) (by omega) hls (fun j hj=>?_) hway.closed ?_
  ·by_cases hjm:j<m
   ·rw[all j hjm]; simp[hjm]
   ·rw[hway.fresh j (by omega) hj]; simp[hjm]
  ·rw[ea];refine hQ vs w hway.world fun p hp=>?_;obtain⟨j,hj,_,hs⟩:=VX hp;exact hs w (hway.facts j hj (all j hj))
 | succ n ih=>
  intro listed U a w vs hls hlen hnd hU hway;rw[show n+1+(ops.size-m)=n+(ops.size-m)+1 from by omega]
  have some1:Region.ready .any ops listed≠[]:=fun hr=>by
   have all:∀n i,i<n→i<m→listed.getD i true=true:=by
    intro n
    induction n with
    | zero=>intro i hi; omega
    | succ n ih'=>
     intro i hi hlt
     cases hf:listed.getD i true with
     | true=>rfl
     | false=>
      exfalso
      have hoi:ops[i]?=some ops[i]:=Array.getElem?_eq_getElem (by omega)
      have hm:i ∈ Region.ready .any ops listed:=by
       rw[mem_ready];refine⟨hf,_,hoi,fun e he hb=>?_⟩;have hlt':=(XV hB hlt hoi).2 e he hb;rw[conv listed e.on hls (by omega)];exact ih' e.on (by omega) (by omega)
      rw[hr] at hm
      cases hm
   cases U with
   | nil=>simp at hlen
   | cons x xs=>
    have:=(hU x).1 List.mem_cons_self
    rw[all (x+1) x (by omega) this.1] at this
    cases this.2
  refine⟨fun hr=>absurd hr some1,fun i hi=>?_⟩;obtain⟨h0,o,ho,hall⟩:=mem_ready.1 hi;have hlt:i<ops.size:=(Array.getElem?_eq_some_iff.1 ho).1
  have him:i<m:=by
   rcases Nat.lt_or_ge i m with h | h
   ·exact h
   ·exfalso
    cases U with
    | nil=>simp at hlen
    | cons x xs=>
     have hx:=(hU x).1 List.mem_cons_self
     have:=JJ hway.closed 8 i x o ho hall ((zBi hT ho h).2 x (by omega))
     rw[conv listed x hls (by omega),hx.2] at this
     cases this
  have hil:i<listed.size:=by omega
  have hself:(listed.setIfInBounds i true).getD i true=true:=by simp[hil]
  have hoth:∀j,j≠i→(listed.setIfInBounds i true).getD j true=listed.getD j true:=fun j hj=>getD_set_ne true (Ne.symm hj)
  have look:∀t ∈ o.looksAt ops,a.tmps[t]?=(YC ops ks vs a0 i).tmps[t]?:=fun t ht=>by
   by_cases hex:∃(j:Nat) (p:Oper),j<m∧ops[j]?=some p∧p.dst=some t
   ·obtain⟨j,p,hjm,hj,hd⟩:=hex
    rcases(vH hB him hjm ho hj hd).2 ht with ⟨hji,e,he,heq,hb⟩ | ⟨hij,e,he,heq,hb⟩
    ·have hlj:listed.getD j true=true:=by
      have h1:=hall e he hb;rw[heq,conv listed j hls (by omega)] at h1;exact h1
     rw[hway.done j p t hjm hj hd hlj,zAb hB (j:=j) (by rw[hj]; exact hd) hji (by omega),Take.zD2 (hway.facts j hjm hlj)]
    ·have hnl:listed.getD j true=false:=by
      cases hf:listed.getD j true with
      | false=>rfl
      | true=>
       have:=hway.closed j p hj (by rw[conv listed j hls (by omega)]; exact hf) e he hb
       rw[heq,conv listed i hls hlt,h0] at this
       cases this
     rw[hway.other t fun k ok hkm hk hdk=>by
       have:=(vH hB hkm hjm hk hj hd).1 hdk
       subst this
       exact hnl,YN]
     intro k hk e';obtain⟨ok,hok,hdk⟩:=Option.bind_eq_some_iff.1 e'
     have:=(vH hB (by omega) hjm hok hj hd).1 hdk
     omega
   ·rw[hway.other t fun i o him hi hd=>absurd ⟨i,o,him,hi,hd⟩ hex,YN];intro j hj e;obtain⟨o,ho,hd⟩:=Option.bind_eq_some_iff.1 e;exact hex ⟨j,o,by omega,ho,hd⟩
  have go:∀v w',(ks.getD i (.det undef)).says v w'→R w w'∨w'=w→wpAny P .any ops Q' (n+(ops.size-m)) (listed.setIfInBounds i true) (a.put o.dst v) w':=by
   intro v w' hv hww
   have hst':∀j oj,j<m→ops[j]?=some oj→∀v,(ks.getD j (.det undef)).says v w→(ks.getD j (.det undef)).says v w':=fun j oj hjm hj v hs=>by
    rcases hww with hww | rfl
    ·exact hst j oj hjm hj v w w' hs hww
    ·exact hs
   refine ih (listed.setIfInBounds i true) (U.erase i) _ w' (fun j=>if j=i then v else vs j) (by simpa using hls) ?_ (hnd.erase i) (fun j=>?_) ?_
   ·rw[List.length_erase_of_mem ((hU i).2 ⟨him,h0⟩),hlen]; rfl
   ·rw[hnd.mem_erase_iff,hU j]
    by_cases hji:j=i
    ·subst hji; simp[hil]
    ·rw[hoth j hji]; simp[hji]
   ·refine⟨?_,by rw[XP]; exact hway.defers,fun j hj hl=>?_,fun j p t hjm hj hd hl=>?_,fun t ht=>?_,fun j p hj hl e he hb=>?_,fun j hj hjs=>?_⟩
    ·rcases hww with hww | rfl
     ·exact hR _ _ _ hway.world hww
     ·exact hway.world
    ·by_cases hji:j=i
     ·subst hji; simpa using hv
     ·rw[hoth j hji] at hl;simp only[if_neg hji];exact hst' j _ hj (Array.getElem?_eq_getElem (by omega)) _ (hway.facts j hj hl)
    ·by_cases hji:j=i
     ·subst hji;rw[ho] at hj;obtain rfl:=Option.some.inj hj
      rw[hd,XK,hway.other t fun k ok hkm hk hdk=>by
       have:=(vH hB hkm him hk ho hd).1 hdk
       subst this
       exact h0]
      simp
     ·rw[hoth j hji] at hl;rw[jD _ _ _ (fun e=>hji ((vH hB him hjm ho hj hd).1 e).symm),hway.done j p t hjm hj hd hl];simp[hji]
    ·rw[jD _ _ _ (fun e=>by
      have:=ht i o him ho e
      rw[hself] at this
      cases this)]
     refine hway.other t fun k ok hkm hk hdk=>?_
     have:=ht k ok hkm hk hdk
     by_cases hki:k=i
     ·subst hki; exact h0
     ·rwa [hoth k hki] at this
    ·by_cases hji:j=i
     ·subst hji;rw[ho] at hj;obtain rfl:=Option.some.inj hj;exact getD_set_true (hall e he hb)
     ·rw[getD_set_ne false (Ne.symm hji)] at hl;exact getD_set_true (hway.closed j p hj hl e he hb)
    ·rw[hoth j (by omega)];exact hway.fresh j hj hjs
  have ow:=how vs i o him ho w hway.world (fun p hp ⟨t,hpt,ht⟩=>by
   obtain⟨j,hj,hpd,hs⟩:=VX hp;rw[hpt] at hpd;obtain⟨p',hp',hd'⟩:=Option.bind_eq_some_iff.1 hpd.symm
   rcases(vH hB him (by omega) ho hp' hd').2 ht with ⟨_,e,he,heq,hb⟩ | ⟨hij,_⟩
   ·have h1:=hall e he hb;rw[heq,conv listed j hls (by omega)] at h1;exact hs w (hway.facts j (by omega) h1)
   ·omega)
  unfold wpOp;simp only[ho];rw[←zAF o a _ look,←zE1 o (XV hB him ho).1 a _ look] at ow
  split
  ·rename_i hw;simp only[hw,if_true] at ow;exact .inl (zJM ow (fun v w' hv=>go v w' hv.1 (.inl hv.2)) (fun c w' hx=>hX a hway.defers c w' hx))
  ·rename_i hw;simp only[hw] at ow;exact go undef w ow (.inr rfl)
theorem zGL {id:Nat}{Q':Exit→Act→World→Prop}{a:Act}{w:World}{l:List Oper}(m:Nat)(ks:List Take)(hm:P.follows .mixedOrders=true)(hB:YF l.toArray m=true)(hT:zCh l.toArray m=true)
  (hR:∀a b c,R a b→R b c→R a c) (h0:R w0 w.drew) (hX:∀a',a'.defers=a.defers→∀c w,X c w→Q' (.panic c) a' w)
  (h:zA6 X P l.toArray R w0 (fun a' w'=>wpList P l.toArray Q' (l.drop m) a' w') (l.take m) ks a []):(Code.region id l.toArray true).wp P Q' a w:=by
 have hms:=JD hB;simp only[List.size_toArray] at hms;refine wp_region_any hm ?_
 have sp:=fun vs=>zFg (X:=X) (P:=P) (ops:=l.toArray) (R:=R) (w0:=w0) (Q:=fun a' w'=>wpList P l.toArray Q' (l.drop m) a' w') (ks:=ks) (a0:=a) vs (l.take m) 0 (fun j hj=>by
  have hj':j<m:=by simp at hj; omega
  simp[List.getElem?_take,hj']) (by simpa [YC,JZ] using h)
 have hlen:(l.take m).length=m:=by simp; omega
 rw[show l.toArray.size=m+(l.toArray.size-m) from by simp; omega];refine zLJ (X:=X) (P:=P) (ops:=l.toArray) (R:=R) (w0:=w0) (ks:=ks) (a0:=a) (m:=m) hR hB hT hX ?_ ?_ ?_ m _ (List.range m) a _ (fun _=>undef) (by simp; omega) (by simp) List.nodup_range ?_ ?_
 ·exact fun i o him hi=>((sp fun _=>undef).1 i o (zW _) (by omega) hi).1
 ·exact fun vs i o him hi=>((sp vs).1 i o (zW _) (by omega) hi).2
 ·intro vs w' hw' hp
  have:=(sp vs).2 w' hw' (by rw[hlen]; simpa using hp)
  rw[hlen] at this
  simpa using this
 ·intro i;simp only[List.mem_range]
  constructor
  ·intro h
   have:i<m+(l.length-m):=by omega
   exact⟨h,by simp[this]⟩
  ·exact fun h=>h.1
 ·refine⟨h0,rfl,fun i hi hl=>?_,fun i o t him hi hd hl=>?_,fun t _=>rfl,fun i o hi hl=>?_,fun i hi his=>?_⟩
  ·have:i<m+(l.length-m):=by omega
   simp[this] at hl
  ·have:i<m+(l.length-m):=by omega
   simp[this] at hl
  ·have hil:i<l.length:=by simpa using (Array.getElem?_eq_some_iff.1 hi).1
   have:i<m+(l.length-m):=by omega
   simp[this] at hl
  ·have hil:i<l.length:=by simpa using his
   have:i<m+(l.length-m):=by omega
   simp[this]
theorem jA {o:Oper}{l:List Oper}{ks:List Take}{a:Act}{H:List (Option Tmp × (World→Prop))}{d:Option Tmp}{L:List Tmp}(v0:Value)(hd:o.dst=d)(hg:o.guard=none)(hL:zFZ o=L)
  (h:∀w,R w0 w→(∀p ∈ H,(∃t,p.1=some t∧t ∈ L)→p.2 w)→vP X P a.eval o w (fun v w'=>v=v0∧R w w')) (hk:zA6 X P ops R w0 Q l ks (a.put d v0) H):zA6 X P ops R w0 Q (o::l) (.det v0::ks) a H:=by
 subst hd hL;refine zQI v0 (fun w hw hH=>?_) hk
 have:Region.wanted o (yielded ops a.tmps)=true:=by unfold Region.wanted; rw[hg]
 rw[if_pos this];exact h w hw fun p hp ⟨t,ht,hm⟩=>hH p hp ⟨t,ht,List.mem_append_left _ hm⟩
theorem VU {o:Oper}{l:List Oper}{ks:List Take}{a:Act}{H:List (Option Tmp × (World→Prop))}{d:Option Tmp}{L:List Tmp}(F:Value→World→Prop)(hs:∀v w w',F v w→R w w'→F v w')(hd:o.dst=d)(hg:o.guard=none)(hL:zFZ o=L)
  (h:∀w,R w0 w→(∀p ∈ H,(∃t,p.1=some t∧t ∈ L)→p.2 w)→vP X P a.eval o w (fun v w'=>F v w'∧R w w')) (hk:∀v,zA6 X P ops R w0 Q l ks (a.put d v) ((d,F v)::H)):zA6 X P ops R w0 Q (o::l) (.fact F::ks) a H:=by
 subst hd hL;refine zN8 F hs (fun w hw hH=>?_) hk
 have:Region.wanted o (yielded ops a.tmps)=true:=by unfold Region.wanted; rw[hg]
 rw[if_pos this];exact h w hw fun p hp ⟨t,ht,hm⟩=>hH p hp ⟨t,ht,List.mem_append_left _ hm⟩
end
end Go.Proofs.YtbadjmmjbpeocaaGreatDoor
