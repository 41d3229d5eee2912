/- The program's kid: a node as a kid of another one. (and what follows of it). The conditions stand at each lemma. -/
import Derived.Test.YtbadjmmjbpeocaaGreatJaa
import Derived.Test.YtbadjmmjbpeocaaGreatJai
import Derived.Deep.RegionHeld3
import Derived.Test.YtbadjmmjbpeocaaGreatJag
import Derived.Deep.Cut
set_option linter.unusedVariables false
set_option linter.unusedSimpArgs false
set_option maxRecDepth 100000
set_option maxHeartbeats 16000000
namespace Go.Proofs.YtbadjmmjbpeocaaGreat
open Go Go.RowKit
theorem zD3.trans {w w1 w2:World}{p B:Nat}{R R1:xX}{v:Value}{r:Res Unit}{e:Ending}(h:xC w (xK p R) w1 (xK p R1))(k:zD3 w1 p B R1 v r e w2):zD3 w p B R v r e w2:=by
 cases r with
 | ok a s=>exact⟨k.1,OkP.trans h k.2⟩
 | err er a=>exact VF.trans h k
theorem zFp {α β:Type}(f:α→β)(g:α→α)(k:β→β)(h:∀x,f (g x)=k (f x)):∀(l:List α) (i:Nat),(l.modify i g).map f=(l.map f).modify i k
 | [],i=>by simp
 | x::l,0=>by simp[h]
 | x::l,i+1=>by simp[zFp f g k h l i]
theorem PS.kid {W w1:World}{p B:Nat}{s:Ps}{R:xX}(h:PS W p B s R)(i:Nat)(hi:i<R.nh.length){g gk cap:Nat}(hA:R.A=some ⟨g,0,none⟩)
  (ho:w1.ownsRow B 3 1 (.slice (some ⟨gk,0,none⟩) (R.nh[i].1.kids.length+1) cap) (R.nh[i].1.kids.length+1) (ints R.nh[i].1.kids++[Value.int .i64 (R.nh.length:Int)])) (hg:W.grownBy w1 (Value.slice R.nh[i].2.1 R.nh[i].1.kids.length R.nh[i].2.2).ownBlock)
  (hf:(Value.slice R.nh[i].2.1 R.nh[i].1.kids.length R.nh[i].2.2).ownBlock=some gk∨W.heap.size≤gk) :
  OkP W p B R (s.kid i) (w1.setCell ⟨g,i*5+4,none⟩ (.slice (some ⟨gk,0,none⟩) (R.nh[i].1.kids.length+1) cap)):=by
 have AA:=h.len;have AB:=h.ns.kid (by decide) i hi R.nh.length hA ho hg hf
 have AC:(Value.slice R.nh[i].2.1 R.nh[i].1.kids.length R.nh[i].2.2).ownBlock≠some p:=fun e=>by
  obtain⟨AE,hc⟩:=vA (h.ns.kids _ (yO hi)) (xP (h.ns.kids _ (yO hi)) e);exact Blk.differ h.blk hc (by decide) rfl
 have AD:p≠g:=fun e=>by
  obtain⟨AE,hc⟩:=vA h.ns.row hA;rw[←e] at hc;exact Blk.differ h.blk hc (by decide) rfl
 have AK:=(jD h.ns.row hA).1;have AI:=(jD h.ns.row hA).2;refine⟨{ R with nh:=R.nh.modify i fun x=>({ x.1 with kids:=x.1.kids++[R.nh.length] },(some ⟨gk,0,none⟩,cap)) },⟨?_,fun k hk=>?_,h.zIr,h.zE9,?_,AB,h.pB,⟨h.xV.last,h.xV.deep⟩⟩,?_⟩
 ·have AH:Blk w1 p 101 _:=(hg.block p h.blk.lt (fun e=>AC e.symm)).trans h.blk
  have:=AH.far (p:=⟨g,i*5+4,none⟩) AD (.slice (some ⟨gk,0,none⟩) (R.nh[i].1.kids.length+1) cap)
  show Blk _ p 101 #[.slice _ s.ts.length _,.slice _ (R.nh.modify i _).length _,.int .i64 (s.deep:Int)]
  rw[List.length_modify];exact this
 ·have AJ:=h.zE9
  have AF:R.bt≠g:=by omega
  have e1:w1.heap[R.bt]?=W.heap[R.bt]?:=hg.block R.bt h.btl fun e=>by
   have:=(jD (h.ns.kids _ (yO hi)) (xP (h.ns.kids _ (yO hi)) e.symm)).1
   omega
  have e2:=World.cell?_of_block (w:=W) (w':=w1.setCell ⟨g,i*5+4,none⟩ (.slice (some ⟨gk,0,none⟩) (R.nh[i].1.kids.length+1) cap)) (a:=⟨R.bt,R.ot+k,none⟩) ((zS w1 ⟨g,i*5+4,none⟩ _ R.bt AF).trans e1);exact e2.trans (h.zMX k hk)
 ·show(s.kid i).nd=_
  rw[zFp Prod.fst _ (fun n:Nd=>{ n with kids:=n.kids++[R.nh.length] }) (fun x=>rfl),←h.nodes,←AA]
  rfl
 ·refine⟨hg.os,hg.tape,hg.output,by have:=hg.size; simp[World.setCell]; omega,fun b hb hM=>?_,fun b hb=>?_⟩
  ·have AG:b≠g:=fun e=>hM (.inr (.inl (by rw[e]; exact hA)));rw[zS w1 ⟨g,i*5+4,none⟩ _ b AG];exact hg.block b hb fun e=>hM (.inr (.inr (List.mem_map.2 ⟨_,yO hi,xP (h.ns.kids _ (yO hi)) e.symm⟩)))
  ·rcases hb with hb | hb
   ·exact .inl (.inl hb)
   ·rcases zRt h.ns hi (fun n=>{ n with kids:=n.kids++[R.nh.length] }) hf b hb with h1 | h1
    ·exact .inl (.inr h1)
    ·exact .inr h1
theorem PS.zDi {w:World}{p B:Nat}{s:Ps}{R:xX}(h:PS w p B s R)(i:Nat)(hi:i<R.nh.length){g:Nat}(hA:R.A=some ⟨g,0,none⟩)(j:Nat)(hj:j<5):w.cell? ⟨g,i*5+j,none⟩=(YM R.nh[i])[j]?:=by
 have hr:=h.ns.row;rw[hA] at hr;rw[hr.cellAt (i*5+j) (by omega)];exact zUH R.nh i hi j hj
theorem PS.zJ6 {w:World}{p B:Nat}{s:Ps}{R:xX}(h:PS w p B s R)(k:Nat){g:Nat}(hA:R.A=some ⟨g,0,none⟩):w.frozen? ⟨g,k,none⟩=false:=by
 obtain⟨AA,hc⟩:=vA h.ns.row hA;exact hc.frozen k
theorem PS.zRq {w:World}{p B:Nat}{s:Ps}{R:xX}(h:PS w p B s R)(hn:0<R.nh.length):∃g,R.A=some ⟨g,0,none⟩:=by
 rcases zAO h.ns.row with e | e
 ·have hr:=h.ns.row;rw[e] at hr
  rcases hr.2 with ⟨_,h0⟩ | ⟨g,_,_,hv,_⟩
  ·omega
  ·cases hv
 ·exact e
theorem zCd (w:World)(p B:Nat)(s:Ps)(R:xX)(i kind:Nat)(F:Option Addr)(l:List KF)(fc:Nat)(h:PS w p B s R)(hi:i<s.nd.length)(hbig:s.nd.length≤1000000)(hl:l.length≤10)(hG:Good s)
  (hF:XF w (xK p R) F (l.map KF.val)) (he:∀f ∈ l,∀args w,(callFunc f.K args).run Tryz.prog w=.ok (.enter f.K args) w)
  (hd:∀(k:Nat) (hk:k<l.length) (s':Ps) (wr:World) (R':xX),zDb (l.take k) (s.xI i kind)=.ok () s'→xC w (xK p R) wr (xK p R')→PS wr p B s' R'→Calls Tryz.prog l[k].K (l[k].first++#[.int .i64 (s.nd.length:Int)]++l[k].cap) wr (xM wr p B R' (l[k].m s'))) :
  Calls Tryz.prog 104 #[.pointer (some ⟨p,0,none⟩),.int .i64 (i:Int),.int .u8 (kind:Int),.slice F l.length fc] w (zD3 w p B R (.int .i64 (s.nd.length:Int)) (zDb l (s.xI i kind))):=by
 obtain⟨i0,Al,Ao,Ab,Ad⟩:=info_parts zHo;have AF:=h.len
 have AJ:i<R.nh.length:=by omega
 obtain⟨g,hA⟩:=h.zRq (by omega);obtain⟨x,AL⟩:∃x,R.nh[i]=x:=⟨_,rfl⟩;obtain⟨⟨nk,np,nt,nn,kk⟩,kA,kc⟩:=x
 have c4:w.cell? ⟨g,i*5+4,none⟩=some (.slice kA kk.length kc):=by rw[h.zDi i AJ hA 4 (by decide),AL]; rfl
 have AO:=h.ns.zUL _ (yO AJ);have AC:=h.ns.kids _ (yO AJ);rw[AL] at AO AC
 simp only at AO AC
 obtain⟨o,HO⟩:∃o,Hid ((Value.slice kA kk.length kc).ownBlock=o):=⟨_,yG rfl⟩
 have AQ:Hid (some p≠o):=yG fun e=>by
  rw[←HO.out] at e;obtain⟨Aa,hc⟩:=vA AC (xP AC e.symm);exact Blk.differ h.blk hc (by decide) rfl
 have AX:Hid (some g≠o):=yG fun e=>by
  rw[←HO.out] at e;obtain⟨Aa,hc⟩:=vA AC (xP AC e.symm);obtain⟨Ah,Ae⟩:=vA h.ns.row hA;exact Blk.differ Ae hc (by decide) rfl
 have Am:Hid (∀g,o=some g→g<w.heap.size):=yG fun g e=>by
  rw[←HO.out] at e;exact(jD AC (xP AC e)).2
 have AW:=(jD h.ns.row hA).2;have AN:=h.blk.lt;have Aj:Hid (B≤w.heap.size):=yG (Nat.le_trans h.pB (zV AN));have AG:=yG AL;have HP:=yG h;have HA:=yG hA;have Ak:=yG AO;have AZ:=yG hF;have HE:=yG he;have HD:=yG hd;have Ag:=yG AF
 have AY:Hid (kk.length≤1000000):=yG (by
  have:=hG.few (R.nh[i].1) (by rw[h.nodes]; exact List.mem_map.2 ⟨_,yO AJ,rfl⟩)
  rw[AG.out] at this
  simp only at this
  omega)
 rw[AF] at hbig;obtain⟨Fs,AH⟩:∃Fs,Hid (FsH B 3 (.slice kA kk.length kc) w.heap.size kk.length (ints kk) [Value.int .i64 (R.nh.length:Int)]=Fs):=⟨_,yG rfl⟩
 have hE:∀F ∈ Fs,∀v w w',F v w→Ext w w'→F v w':=by rw[←AH.out]; exact zF1 _ _ _ _ _ _ _
 have m0:(fun (_:Value) w=>VO B 3 kk.length (ints kk) (.slice kA kk.length kc) w) ∈ Fs:=by rw[←AH.out]; simp only[FsH,zU,true_or]
 have m1:zBf 3 w.heap.size #[Value.int .i64 (R.nh.length:Int)] ∈ Fs:=by rw[←AH.out]; simp only[FsH,zU,true_or,or_true]
 have m2:zJB B 3 o w.heap.size (kk.length+1) (ints kk++[Value.int .i64 (R.nh.length:Int)]) ∈ Fs:=by rw[←AH.out,←HO.out]; simp only[FsH,zU,true_or,or_true]
 have AV:=yG hE;have M0:=yG m0;have M1:=yG m1;have M2:=yG m2
 have q0:(i:Int)<(R.nh.length:Int):=by omega
 have C4:=yG c4;clear h hF he hd AF hE m0 m1 m2 AL AO AC hA c4 hG hi
 go_enter Tryz.func104,Tryz.ntmps104
 go_upto_region 1 with fail
 apply zA9 o Fs 22 (by kernel_rfl) (by kernel_rfl) (by kernel_rfl) AV.out;dsimp only[List.take_succ_cons,List.take_zero,List.drop_succ_cons,List.drop_zero];apply sG vF.refl (.pointer (some ⟨p,0,none⟩));apply sG vF.refl (.pointer (some ⟨p,0,none⟩));apply sG vF.refl (.pointer (some ⟨p,1,none⟩));apply xB (.slice (some ⟨g,0,none⟩) R.nh.length R.c) rfl rfl rfl
 ·intro w' AA hH;have hR:=vF.refl (o:=o) (Fs:=Fs) w';have cc:=Blk.cell ((AA.1.block p AN AQ.out).trans HP.out.blk) 1;rw[HA.out] at cc;clear hH AA;simp[xA,go_sem,cc,q0];exact hR
 apply sG vF.refl (.int .i64 (i:Int));apply sG vF.refl (.pointer (some ⟨p,0,none⟩));apply sG vF.refl (.pointer (some ⟨p,0,none⟩));apply sG vF.refl (.pointer (some ⟨p,1,none⟩));apply xB (.slice (some ⟨g,0,none⟩) R.nh.length R.c) rfl rfl rfl
 ·intro w' AA hH;have hR:=vF.refl (o:=o) (Fs:=Fs) w';have cc:=Blk.cell ((AA.1.block p AN AQ.out).trans HP.out.blk) 1;rw[HA.out] at cc;clear hH AA;simp[xA,go_sem,cc,q0];exact hR
 apply sG vF.refl (.int .i64 (i:Int));apply xB (.pointer (some ⟨g,i*5,none⟩)) rfl rfl rfl
 ·intro w' AA hH;clear hH AA;simp[xA,go_sem,q0];exact vF.refl _
 apply xB (.pointer (some ⟨g,i*5+4,none⟩)) rfl rfl rfl
 ·intro w' AA hH;clear hH AA;simp[xA,go_sem,q0];exact vF.refl _
 (try simp only[Act.put,yD,yE,yF]);apply xB (.slice kA kk.length kc) rfl rfl rfl
 ·intro w' AA hH;have hR:=vF.refl (o:=o) (Fs:=Fs) w';have cc:=(World.cell?_of_block (w:=w) (a:=⟨g,i*5+4,none⟩) (AA.1.block g AW AX.out)).trans C4.out;clear hH AA;simp[xA,go_sem,cc,q0];exact hR
 apply sG vF.refl (.pointer (some ⟨p,0,none⟩));apply sG vF.refl (.pointer (some ⟨p,0,none⟩));apply sG vF.refl (.pointer (some ⟨p,1,none⟩));apply xB (.slice (some ⟨g,0,none⟩) R.nh.length R.c) rfl rfl rfl
 ·intro w' AA hH;have hR:=vF.refl (o:=o) (Fs:=Fs) w';have cc:=Blk.cell ((AA.1.block p AN AQ.out).trans HP.out.blk) 1;rw[HA.out] at cc;clear hH AA;simp[xA,go_sem,cc,q0];exact hR
 (try simp only[Act.put,yD,yE,yF]);apply sG vF.refl (.int .i64 (R.nh.length:Int))
 apply xZ (zBf 3 w.heap.size #[Value.int .i64 (R.nh.length:Int)]) (fun v w w' h hx=>hx.2 _ M1.out v h) rfl rfl rfl
 ·intro w' AA hH;have hz:=AA.1.size;clear hH AA;simp[xA,go_sem];exact⟨⟨_,rfl,Blk.new _ _ _,hz⟩,vF.ext AV.out (Ext.alloc _ _)⟩
 intro Ai;(try simp only[Act.put,yD,yE,yF]);apply xZ (zJB B 3 o w.heap.size (kk.length+1) (ints kk++[Value.int .i64 (R.nh.length:Int)])) (fun v w w' h hx=>hx.2 _ M2.out v h) rfl rfl rfl
 ·intro w' AA hH;have AS:=hH _ (List.mem_cons_self ..) ⟨_,rfl,by decide⟩;have AP:=AA.2 _ M0.out undef Ak.out;have hz:=AA.1.size;clear hH AA;rw[←AH.out,←HO.out];exact zCz B w.heap.size (.tmp 21) (.tmp 27) 30 rfl 3 i0 _ 8 Tryz.underlying30 Al Ao Ab Ad rfl (.slice kA kk.length kc) kk.length (ints kk) [Value.int .i64 (R.nh.length:Int)] (by kernel_rfl) AP Ai (by kernel_rfl) AS rfl (by simp[Value.oneCell']) (by unfold maxLen; have:=AY.out; omega) (by have:=AY.out; omega) (Nat.le_trans Aj.out hz) hz (fun g e=>Am.out g (by rw[←HO.out]; exact e))
 intro Ap;(try simp only[Act.put,yD,yE,yF]);apply xB (.pointer (some ⟨g,i*5,none⟩)) rfl rfl rfl
 ·intro w' AA hH;clear hH AA;simp[xA,go_sem,q0];exact vF.refl _
 apply xB (.pointer (some ⟨g,i*5+4,none⟩)) rfl rfl rfl
 ·intro w' AA hH;clear hH AA;simp[xA,go_sem,q0];exact vF.refl _
 apply xR;intro w2 AU hH;have AM:=hH _ (List.mem_cons_self ..);clear hH;obtain⟨gk,cap,rfl⟩:=AM.1.at;have AR:=AU.1;have AT:=AU.1.block g AW AX.out;rw[←HO.out] at AR
 have HS:Hid (OkP w p B R (s.kid i) (w2.setCell ⟨g,i*5+4,none⟩ (.slice (some ⟨gk,0,none⟩) (kk.length+1) cap))):=yG (by
  have hh:=PS.kid (gk:=gk) (cap:=cap) HP.out i AJ HA.out (w1:=w2) (by rw[AG.out]; exact AM.1.1) (by rw[AG.out]; exact AR) (by
   rw[AG.out]
   rcases AM.2 with e | ⟨g',e,Aq⟩
   ·left; rw[HO.out,←e]; rfl
   ·right; have:gk=g':=by simpa [Value.ownBlock] using e
    omega)
  rw[AG.out] at hh
  exact hh)
 have y1:w2.cell? ⟨g,i*5+4,none⟩=some (.slice kA kk.length kc):=(World.cell?_of_block (w:=w) (a:=⟨g,i*5+4,none⟩) AT).trans C4.out;have z1:w2.frozen? ⟨g,i*5+4,none⟩=false:=(World.frozen?_of_block (w:=w) (a:=⟨g,i*5+4,none⟩) AT).trans (HP.out.zJ6 _ HA.out);clear AM AR AT AU;(try simp only[Act.put,yD,yE,yF])
 go_wp2_with fail
 clear y1 z1;generalize w2.setCell ⟨g,i*5+4,none⟩ (.slice (some ⟨gk,0,none⟩) (kk.length+1) cap)=w3 at *;obtain⟨R3,AI,AD⟩:=HS.out;have AK:(s.kid i).nd.length=s.nd.length:=zDW;refine(zKU w3 p B (s.kid i) R3 kind F l fc AI (by rw[AK,Ag.out]; exact hbig) hl (AZ.out.xE AD) HE.out (fun k hk s' wr R' h1 h2 h3=>by rw[AK]; exact HD.out k hk s' wr R' h1 (AD.trans h2) h3)).mono ?_;have Af:=yG AK;have An:=yG AD;clear AI AD AK;intro e w4 AE
 have AB:zD3 w p B R (.int .i64 (s.nd.length:Int)) (zDb l (s.xI i kind)) e w4:=by
  have hp:=AE;rw[Af.out] at hp;exact zD3.trans An.out hp
 cases hq:zDb l (s.xI i kind) with
 | ok a s2=>
  rw[hq] at AB;obtain⟨he,ho⟩:=AB;subst he;have Ac:=yG ho;have HQ:=yG hq;clear AE ho hq
  go_wp2_with fail
  go_ret;rw[HQ.out];exact⟨rfl,Ac.out⟩
 | err er a=>
  rw[hq] at AB;obtain⟨he,ho⟩:=AB;subst he;refine xD (P:=Tryz.prog) (fn:=Tryz.f104) rfl ?_;exact⟨rfl,ho⟩
theorem zEU (w:World)(p B:Nat)(s:Ps)(R:xX)(i kind:Nat)(h:PS w p B s R)(hi:i<s.nd.length)(hbig:s.nd.length≤1000000)(hG:Good s) :
  Calls Tryz.prog 104 #[.pointer (some ⟨p,0,none⟩),.int .i64 (i:Int),.int .u8 (kind:Int),.slice none 0 0] w (zD3 w p B R (.int .i64 (s.nd.length:Int)) (.ok () (s.xI i kind))):=
 zCd w p B s R i kind none [] 0 h hi hbig (by decide) hG (.inl rfl) (fun f hf=>by cases hf) (fun k hk=>by cases hk)
theorem PS.put {w:World}{p B:Nat}{s:Ps}{R:xX}(h:PS w p B s R)(i:Nat)(hi:i<R.nh.length)(j:Nat)(hj:j<5)(u:Value)(f:Nd→Nd)(hk:∀x,(f x).kids=x.kids)(hf:YM (f R.nh[i].1,R.nh[i].2)=(YM R.nh[i]).set j u){g:Nat}(hA:R.A=some ⟨g,0,none⟩) :
  OkP w p B R (s.on i f) (w.setCell ⟨g,i*5+j,none⟩ u):=by
 have AA:=h.ns.put (by decide) i hi j hj u f hk hf hA
 have AC:p≠g:=fun e=>by
  obtain⟨AF,hc⟩:=vA h.ns.row hA;rw[←e] at hc;exact Blk.differ h.blk hc (by decide) rfl
 have AD:=(jD h.ns.row hA).1;refine⟨{ R with nh:=R.nh.modify i fun x=>(f x.1,x.2) },⟨?_,fun k hk=>?_,h.zIr,h.zE9,?_,AA,h.pB,⟨h.xV.last,h.xV.deep⟩⟩,?_⟩
 ·have:=h.blk.far (p:=⟨g,i*5+j,none⟩) AC u
  show Blk _ p 101 #[.slice _ s.ts.length _,.slice _ (R.nh.modify i _).length _,.int .i64 (s.deep:Int)]
  rw[List.length_modify];exact this
 ·have AE:=h.zE9
  have AB:R.bt≠g:=by omega
  have e2:=World.cell?_of_block (w:=w) (w':=w.setCell ⟨g,i*5+j,none⟩ u) (a:=⟨R.bt,R.ot+k,none⟩) (zS w ⟨g,i*5+j,none⟩ _ R.bt AB);exact e2.trans (h.zMX k hk)
 ·show s.nd.modify i f=_
  rw[zFp Prod.fst _ f (fun x=>rfl),←h.nodes]
 ·refine⟨rfl,rfl,rfl,by simp[World.setCell],fun b hb hM=>zS w ⟨g,i*5+j,none⟩ _ b (fun e=>hM (.inr (.inl (by rw[e]; exact hA)))),fun b hb=>?_⟩
  rcases hb with hb | hb
  ·exact .inl (.inl hb)
  ·exact .inl (.inr (zRD i f b hb))
theorem PS.zHu {w:World}{p B:Nat}{s:Ps}{R:xX}(h:PS w p B s R){i:Nat}(hi:i<s.nd.length):∃g,∃AA:i<R.nh.length,R.A=some ⟨g,0,none⟩∧g<w.heap.size∧g≠p:=by
 have AB:=h.len
 have AA:i<R.nh.length:=by omega
 obtain⟨g,hA⟩:=h.zRq (by omega);refine⟨g,AA,hA,(jD h.ns.row hA).2,fun e=>?_⟩;obtain⟨AC,hc⟩:=vA h.ns.row hA;rw[e] at hc;exact Blk.differ h.blk hc (by decide) rfl
theorem PS.x1' {w:World}{p B:Nat}{s:Ps}{R:xX}(h:PS w p B s R){g:Nat}(hA:R.A=some ⟨g,0,none⟩):w.cell? ⟨p,1,none⟩=some (.slice (some ⟨g,0,none⟩) R.nh.length R.c):=by rw[←hA]; exact h.x1
theorem zEx {P:Program}{id:Nat}{Q':Exit→Act→World→Prop}{a:Act}{w:World}{l:List Oper}{ks:List Take}(X:List PanicEntry→World→Prop)(hm:P.follows .mixedOrders=true)(hB:YG l.toArray l.length=true)(hT:zBY l.toArray l.length=true)
  (hX:∀a',a'.defers=a.defers→∀c w,X c w→Q' (.panic c) a' w) (h:zA1 X P l.toArray Ext w (fun a' w'=>Q' .normal a' w') l ks a []):(Code.region id l.toArray true).wp P Q' a w:=by
 refine zGJ (R:=Ext) l.length ks hm hB hT (fun _ _ _=>Ext.trans) (Below.drew (Below.refl _ _)) hX ?_;rw[List.take_length,List.drop_length];exact h
theorem zCB (w:World)(p B:Nat)(s:Ps)(R:xX)(i:Nat)(h:PS w p B s R)(hi:i<s.nd.length) :
  Calls Tryz.prog 111 #[.pointer (some ⟨p,0,none⟩),.int .i64 (i:Int)] w (xM w p B R (.ok () (s.num i 1))):=by
 obtain⟨g,AA,hA,AB,AC⟩:=h.zHu hi;have c3:∃v,w.cell? ⟨g,i*5+3,none⟩=some (.int .i64 v):=⟨_,by rw[h.zDi i AA hA 3 (by decide)]; rfl⟩;obtain⟨v,c3⟩:=c3;have z3:=h.zJ6 (i*5+3) hA;have x1:=h.x1' hA;have HF:Hid (OkP w p B R (s.num i 1) (w.setCell ⟨g,i*5+3,none⟩ (.int .i64 1))):=yG (h.put i AA 3 (by decide) _ (fun n=>{ n with num:=1 }) (fun _=>rfl) rfl hA)
 have q0:(i:Int)<(R.nh.length:Int):=by omega
 clear h hA hi
 go_enter Tryz.func111,Tryz.ntmps111
 go_wp2
 go_end0;exact xM.ok HF.out
theorem JY (w:World)(p B:Nat)(s:Ps)(R:xX)(i:Nat)(h:PS w p B s R)(hi:i<s.nd.length) :
  Calls Tryz.prog 106 #[.pointer (some ⟨p,0,none⟩),.int .i64 (i:Int)] w (xM w p B R (jS i s)):=by
 obtain⟨g,AB,hA,AJ,AD⟩:=h.zHu hi;have x1:=h.x1' hA;have q0:(0:Int)≤(i:Int):=Int.natCast_nonneg _
 have q1:(i:Int)<(R.nh.length:Int):=by omega
 have HP:=yG h;have HA:=yG hA;have AH:=zAf;have AE:=h.blk.lt;clear h hA hi
 by_cases hk:s.hd.kind=1
 ·have HK:=yG hk;have HN:Hid (jS i s=.ok () (s.adv.text i s.hd.text)):=yG (by unfold jS ofP; rw[if_pos hk]; rfl);clear hk
  go_enter Tryz.func106,Tryz.ntmps106
  go_wp2_with fail
  go_region_held3 (fun w'=>w'.cell? ⟨p,1,none⟩=some (.slice (some ⟨g,0,none⟩) R.nh.length R.c))
   (first
    | assumption
    | go_keep
    | exact AC _)
   (first
    | (go_at_call 139; refine(zHy _ p B s R 1 HK (by decide) (HP.out.ext (by first | exact Ext.refl _ | exact Below.drew (Below.refl _ _)))).mono ?_; rintro e w1 ⟨rfl,ho⟩; simp only[ZY]; have y1:=ho.1.x1' HA.out; have HO:=yG ho; have c2:w1.cell? ⟨g,i*5+2,none⟩=some (.string (xG R.nh[i].1.text)):=(ho.1.zDi i AB HA.out 2 (by decide)); have z2:=ho.1.zJ6 (i*5+2) HA.out; have AC:∀u,(w1.setCell ⟨g,i*5+2,none⟩ u).cell? ⟨p,1,none⟩=some (.slice (some ⟨g,0,none⟩) R.nh.length R.c):=fun u=>(World.cell?_of_block (w:=w1) (a:=⟨p,1,none⟩) (zS w1 ⟨g,i*5+2,none⟩ u p (fun e=>AD e.symm))).trans y1; clear ho)
    | (fail))
  have HF:Hid (OkP w p B R (s.adv.text i s.hd.text) (w1.setCell ⟨g,i*5+2,none⟩ (.string (xG s.hd.text)))):=yG (OkP.trans ((xC.ext (Below.drew (Below.refl _ _))).trans HO.out.2) (HO.out.1.put i AB 2 (by decide) _ (fun n=>{ n with text:=s.hd.text }) (fun _=>rfl) rfl HA.out))
  go_wp2_with fail
  go_end0;rw[HN.out];exact xM.ok HF.out
 ·have HK:Hid (s.hd.kind≠1):=yG hk;have HN:Hid (jS i s=.err 50 s.hd.at_):=yG (by unfold jS ofP; rw[if_neg hk]; rfl);clear hk
  go_enter Tryz.func106,Tryz.ntmps106
  go_wp2_with fail
  have HX:Hid (∀w',Ext w w'→∀e w2,VF w' p B R 50 s.hd.at_ e w2→xM w p B R (jS i s) e w2):=yG fun w' hx e w2 he=>by rw[HN.out]; exact VF.trans (xC.ext hx) he
  apply zEx (fun c w2=>xM w p B R (jS i s) (.panicked c) w2) (by kernel_rfl) (by kernel_rfl) (by kernel_rfl) (fun a' ha c w2 hx=>⟨ha,hx⟩);apply vZ (.pointer (some ⟨p,0,none⟩)) rfl rfl rfl
  ·intro w' AA hH;clear hH AA;simp[vQ,go_sem];exact Ext.refl _
  apply vZ (.pointer (some ⟨p,0,none⟩)) rfl rfl rfl
  ·intro w' AA hH;clear hH AA;simp[vQ,go_sem];exact Ext.refl _
  apply vZ (.pointer (some ⟨p,1,none⟩)) rfl rfl rfl
  ·intro w' AA hH;clear hH AA;simp[vQ,go_sem];exact Ext.refl _
  apply vZ (.slice (some ⟨g,0,none⟩) R.nh.length R.c) rfl rfl rfl
  ·intro w' AA hH;have cc:=(AA.cell (p:=⟨p,1,none⟩) AE).trans x1;clear hH AA;simp[vQ,go_sem,cc];exact Ext.refl _
  apply vZ (.int .i64 (i:Int)) rfl rfl rfl
  ·intro w' AA hH;clear hH AA;simp[vQ,go_sem];exact Ext.refl _
  apply vZ (.pointer (some ⟨p,0,none⟩)) rfl rfl rfl
  ·intro w' AA hH;clear hH AA;simp[vQ,go_sem];exact Ext.refl _
  (try simp only[Act.put,yD,yE,yF]);apply VR (fun _ _=>False) (fun v w w' h hx=>h) rfl rfl rfl
  ·intro w' AA hH;clear hH;simp[vQ,go_sem];refine(zSz w' p B s R 1 HK (HP.out.ext AA)).mono ?_;intro e w2 he;exact⟨_,he.1,by have:=HX.out w' AA e w2 he; rw[he.1] at this; exact this⟩
  intro AF;(try simp only[Act.put,yD,yE,yF]);apply VR (fun _ _=>False) (fun v w w' h hx=>h) rfl rfl rfl
  ·intro w' AA hH;exact(hH _ (List.mem_cons_self ..) ⟨_,rfl,by decide⟩).elim
  intro AG;(try simp only[Act.put,yD,yE,yF]);apply vZ (.pointer (some ⟨g,i*5,none⟩)) rfl rfl rfl
  ·intro w' AA hH;clear hH AA;simp[vQ,go_sem,q1];exact Ext.refl _
  apply vZ (.pointer (some ⟨g,i*5+2,none⟩)) rfl rfl rfl
  ·intro w' AA hH;clear hH AA;simp[vQ,go_sem,q1];exact Ext.refl _
  (try simp only[Act.put,yD,yE,yF]);apply VR (fun _ _=>False) (fun v w w' h hx=>h) rfl rfl rfl
  ·intro w' AA hH;exact(hH _ (List.mem_cons_self ..) ⟨_,rfl,by decide⟩).elim
  intro AI;(try simp only[Act.put,yD,yE,yF]);apply zGl;intro w' AA hH;exact(hH _ (List.mem_cons_self ..)).elim
theorem zOX (w:World)(p B:Nat)(s:Ps)(R:xX)(i gc:Nat)(h:PS w p B s R)(hi:i<s.nd.length)(hs:Safe w (xK p R) gc 99 #[.pointer (some ⟨p,0,none⟩)]) :
  Calls Tryz.prog 177 #[.int .i64 (i:Int),.pointer (some ⟨gc,0,none⟩)] w (xM w p B R (zCW i s)):=by
 obtain⟨g,AC,hA,AN,AF⟩:=h.zHu hi;have x1:=h.x1' hA;have q0:(0:Int)≤(i:Int):=Int.natCast_nonneg _
 have q1:(i:Int)<(R.nh.length:Int):=by omega
 have HP:=yG h;have HA:=yG hA;have AO:=zDp;have AI:=h.blk.lt;have AB:=hs.1.lt;have cg:w.cell? ⟨gc,0,none⟩=some (.pointer (some ⟨p,0,none⟩)):=hs.1.cell 0;have AH:=yG hs;have AM:gc≠p:=fun e=>hs.2 (.inl e);have AG:gc≠g:=fun e=>hs.2 (.inr (.inl (by rw[e]; exact hA)));clear h hA hi hs
 by_cases hk:s.hd.kind=2
 ·have HK:=yG hk;have HN:Hid (zCW i s=.ok () (s.adv.num i s.hd.n)):=yG (by unfold zCW ofP; rw[if_pos hk]; rfl);clear hk
  go_enter Tryz.func177,Tryz.ntmps177
  go_wp2_with fail
  go_region_held3 (fun w'=>w'.cell? ⟨p,1,none⟩=some (.slice (some ⟨g,0,none⟩) R.nh.length R.c)∧w'.cell? ⟨gc,0,none⟩=some (.pointer (some ⟨p,0,none⟩)))
   (first
    | exact⟨y1,yg⟩
    | go_keep
    | exact⟨AD _,AE _⟩)
   (first
    | (go_at_call 139; refine(zHy _ p B s R 2 HK (by decide) (HP.out.ext (by first | exact Ext.refl _ | exact Below.drew (Below.refl _ _)))).mono ?_; rintro e w1 ⟨rfl,ho⟩; simp only[ZY]; have y1:=ho.1.x1' HA.out; have HO:=yG ho; have c2:w1.cell? ⟨g,i*5+3,none⟩=some (.int .i64 R.nh[i].1.num):=(ho.1.zDi i AC HA.out 3 (by decide)); have z2:=ho.1.zJ6 (i*5+3) HA.out; have yg:w1.cell? ⟨gc,0,none⟩=some (.pointer (some ⟨p,0,none⟩)):=((AH.out.xE (xC.ext (Below.drew (Below.refl _ _)))).xE ho.2).1.cell 0; have AE:∀u,(w1.setCell ⟨g,i*5+3,none⟩ u).cell? ⟨gc,0,none⟩=some (.pointer (some ⟨p,0,none⟩)):=fun u=>(World.cell?_of_block (w:=w1) (a:=⟨gc,0,none⟩) (zS w1 ⟨g,i*5+3,none⟩ u gc AG)).trans yg; have AD:∀u,(w1.setCell ⟨g,i*5+3,none⟩ u).cell? ⟨p,1,none⟩=some (.slice (some ⟨g,0,none⟩) R.nh.length R.c):=fun u=>(World.cell?_of_block (w:=w1) (a:=⟨p,1,none⟩) (zS w1 ⟨g,i*5+3,none⟩ u p (fun e=>AF e.symm))).trans y1; clear ho)
    | (fail))
  have HF:Hid (OkP w p B R (s.adv.num i s.hd.n) (w1.setCell ⟨g,i*5+3,none⟩ (.int .i64 s.hd.n))):=yG (OkP.trans ((xC.ext (Below.drew (Below.refl _ _))).trans HO.out.2) (HO.out.1.put i AC 3 (by decide) _ (fun n=>{ n with num:=s.hd.n }) (fun _=>rfl) rfl HA.out))
  go_wp2_with fail
  go_end0;rw[HN.out];exact xM.ok HF.out
 ·have HK:Hid (s.hd.kind≠2):=yG hk;have HN:Hid (zCW i s=.err 50 s.hd.at_):=yG (by unfold zCW ofP; rw[if_neg hk]; rfl);clear hk
  go_enter Tryz.func177,Tryz.ntmps177
  go_wp2_with fail
  have HX:Hid (∀w',Ext w w'→∀e w2,VF w' p B R 50 s.hd.at_ e w2→xM w p B R (zCW i s) e w2):=yG fun w' hx e w2 he=>by rw[HN.out]; exact VF.trans (xC.ext hx) he
  apply zEx (fun c w2=>xM w p B R (zCW i s) (.panicked c) w2) (by kernel_rfl) (by kernel_rfl) (by kernel_rfl) (fun a' ha c w2 hx=>⟨ha,hx⟩);apply vZ (.pointer (some ⟨p,0,none⟩)) rfl rfl rfl
  ·intro w' AA hH;have cc:=(AA.cell (p:=⟨gc,0,none⟩) AB).trans cg;clear hH AA;simp[vQ,go_sem,cc];exact Ext.refl _
  apply vZ (.pointer (some ⟨p,0,none⟩)) rfl rfl rfl
  ·intro w' AA hH;clear hH AA;simp[vQ,go_sem];exact Ext.refl _
  apply vZ (.pointer (some ⟨p,1,none⟩)) rfl rfl rfl
  ·intro w' AA hH;clear hH AA;simp[vQ,go_sem];exact Ext.refl _
  apply vZ (.slice (some ⟨g,0,none⟩) R.nh.length R.c) rfl rfl rfl
  ·intro w' AA hH;have cc:=(AA.cell (p:=⟨p,1,none⟩) AI).trans x1;clear hH AA;simp[vQ,go_sem,cc];exact Ext.refl _
  apply vZ (.int .i64 (i:Int)) rfl rfl rfl
  ·intro w' AA hH;clear hH AA;simp[vQ,go_sem];exact Ext.refl _
  apply vZ (.pointer (some ⟨p,0,none⟩)) rfl rfl rfl
  ·intro w' AA hH;have cc:=(AA.cell (p:=⟨gc,0,none⟩) AB).trans cg;clear hH AA;simp[vQ,go_sem,cc];exact Ext.refl _
  (try simp only[Act.put,yD,yE,yF]);apply VR (fun _ _=>False) (fun v w w' h hx=>h) rfl rfl rfl
  ·intro w' AA hH;clear hH;simp[vQ,go_sem];refine(zSz w' p B s R 2 HK (HP.out.ext AA)).mono ?_;intro e w2 he;exact⟨_,he.1,by have:=HX.out w' AA e w2 he; rw[he.1] at this; exact this⟩
  intro AJ;(try simp only[Act.put,yD,yE,yF]);apply VR (fun _ _=>False) (fun v w w' h hx=>h) rfl rfl rfl
  ·intro w' AA hH;exact(hH _ (List.mem_cons_self ..) ⟨_,rfl,by decide⟩).elim
  intro AK;(try simp only[Act.put,yD,yE,yF]);apply vZ (.pointer (some ⟨g,i*5,none⟩)) rfl rfl rfl
  ·intro w' AA hH;clear hH AA;simp[vQ,go_sem,q1];exact Ext.refl _
  apply vZ (.pointer (some ⟨g,i*5+3,none⟩)) rfl rfl rfl
  ·intro w' AA hH;clear hH AA;simp[vQ,go_sem,q1];exact Ext.refl _
  (try simp only[Act.put,yD,yE,yF]);apply VR (fun _ _=>False) (fun v w w' h hx=>h) rfl rfl rfl
  ·intro w' AA hH;exact(hH _ (List.mem_cons_self ..) ⟨_,rfl,by decide⟩).elim
  intro AL;(try simp only[Act.put,yD,yE,yF]);apply zGl;intro w' AA hH;exact(hH _ (List.mem_cons_self ..)).elim
theorem PS.ZW {w:World}{p B:Nat}{s:Ps}{R:xX}(h:PS w p B s R){b:Nat}(hb:xK p R b):b<w.heap.size:=by
 rcases hb with rfl | hb
 ·exact h.blk.lt
 ·exact(h.ns.ZW hb).2
theorem PS.fresh {w:World}{p B:Nat}{s:Ps}{R:xX}(h:PS w p B s R)(t:TypeId)(cs:Array Value):Safe (w.alloc (.cells cs t)) (xK p R) w.heap.size t cs:=⟨Blk.new _ _ _,fun hb=>by have:=h.ZW hb; omega⟩
theorem Safe.row {w:World}{M:Nat→Prop}{g:Nat}{t:TypeId}{cs:Array Value}(h:Safe w M g t cs):XF w M (some ⟨g,0,none⟩) cs.toList:=
 .inr ⟨g,0,rfl,h.1.lt,h.2,fun k hk=>by rw[Nat.zero_add,h.1.cell k]; simp⟩
theorem zKa (r:Res Unit):(r.bind fun _ s=>.ok () s)=r:=by cases r <;> rfl
theorem zCp (f:KF)(s:Ps):zDb [f] s=f.m s:=zKa _
theorem zD3.unit {w:World}{p B:Nat}{R:xX}{v:Value}{r:Res Unit}{e:Ending}{w':World}(h:zD3 w p B R v r e w'):(∃s',r=.ok () s'∧e=.returned v∧OkP w p B R s' w')∨(∃er a,r=.err er a∧VF w p B R er a e w'):=by
 cases r with
 | ok a s'=>exact .inl ⟨s',rfl,h.1,h.2⟩
 | err er a=>exact .inr ⟨er,a,rfl,h⟩
theorem xM.unit {w:World}{p B:Nat}{R:xX}{r:Res Unit}{e:Ending}{w':World}(h:xM w p B R r e w'):(∃s',r=.ok () s'∧e=.returned (.tuple #[])∧OkP w p B R s' w')∨(∃er a,r=.err er a∧VF w p B R er a e w'):=by
 cases r with
 | ok a s'=>exact .inl ⟨s',rfl,h.1,h.2⟩
 | err er a=>exact .inr ⟨er,a,rfl,h⟩
theorem hmf (fn:Fn)(first cap:Array Value)(w:World):(Instr.makeFunc fn first cap).run Tryz.prog w=.ok (.func fn first cap) w:=rfl
theorem zB6 (w:World)(p B:Nat)(s:Ps)(R:xX)(i:Nat)(h:PS w p B s R)(hG:Good s)(hi:i<s.nd.length)(hbig:s.nd.length≤1000000) :
  Calls Tryz.prog 108 #[.pointer (some ⟨p,0,none⟩),.int .i64 (i:Int)] w (xM w p B R (zAI i s)):=by
 have HP:=yG h;have HG:=yG hG;have HF:=yG (h.fresh 119 #[.func (.func 106) #[.pointer (some ⟨p,0,none⟩)] #[]]);have HX:Hid (Ext w (w.alloc (.cells #[.func (.func 106) #[.pointer (some ⟨p,0,none⟩)] #[]] 119))):=yG (Ext.alloc _ _);have HI:=yG hi;have hm:=hmf;clear h hG hi
 go_enter Tryz.func108,Tryz.ntmps108
 go_wp2_with fail
 refine(zCd _ p B s R i 5 _ [⟨106,#[.pointer (some ⟨p,0,none⟩)],#[],jS s.nd.length⟩] 1 (HP.out.ext HX.out) HI.out hbig (by simp) HG.out HF.out.row (fun f hf=>by
  rw[List.mem_singleton.1 hf]
  exact enters_of Tryz.func106 (by kernel_rfl) rfl) (fun k hk s' wr R' h1 h2 h3=>by
  obtain rfl:k=0:=by simp at hk; omega
  injection h1 with _ h1;subst h1
  exact JY wr p B _ R' s.nd.length h3 (by rw[jT]; omega))).mono ?_
 intro e w1 AA;rw[zCp] at AA
 rcases AA.unit with ⟨s',hr,rfl,ho⟩ | ⟨er,a,hr,he⟩
 ·have HR:Hid (zAI i s=.ok () s'):=yG hr;have HO:=yG (OkP.trans (xC.ext HX.out) ho);clear AA hr ho
  go_wp2_with fail
  go_end0;rw[HR.out];exact xM.ok HO.out
 ·have HE:=yG (VF.trans (xC.ext HX.out) he);have HR:Hid (zAI i s=.err er a):=yG hr;obtain⟨rfl,_⟩:=he;refine xD (P:=Tryz.prog) (fn:=Tryz.f108) rfl ?_;rw[HR.out];exact HE.out
theorem zGS (w:World)(p B:Nat)(s:Ps)(R:xX)(i:Nat)(h:PS w p B s R)(hG:Good s)(hi:i<s.nd.length)(hbig:s.nd.length≤1000000) :
  Calls Tryz.prog 173 #[.pointer (some ⟨p,0,none⟩),.int .i64 (i:Int)] w (xM w p B R (zCt i s)):=by
 have HP:=yG h;have HG:=yG hG;have hb:=h.fresh 99 #[.pointer (some ⟨p,0,none⟩)];have h1:=h.ext (Ext.alloc w (.cells #[.pointer (some ⟨p,0,none⟩)] 99));have hf:=h1.fresh 119 #[.func (.func 177) #[] #[.pointer (some ⟨w.heap.size,0,none⟩)]];have HB:=yG (hb.xE (xC.ext (M:=xK p R) (Ext.alloc (w.alloc (.cells #[.pointer (some ⟨p,0,none⟩)] 99)) (.cells #[.func (.func 177) #[] #[.pointer (some ⟨w.heap.size,0,none⟩)]] 119))));rw[yT] at hf;have HF:=yG hf;have HX:Hid (Ext w ((w.alloc (.cells #[.pointer (some ⟨p,0,none⟩)] 99)).alloc (.cells #[.func (.func 177) #[] #[.pointer (some ⟨w.heap.size,0,none⟩)]] 119))):=yG ((Ext.alloc _ _).trans (Ext.alloc _ _));have HI:=yG hi;have hm:=hmf;clear h hG hi hb h1 hf
 go_enter Tryz.func173,Tryz.ntmps173
 go_wp2_with fail
 refine(zCd _ p B s R i 21 _ [⟨177,#[],#[.pointer (some ⟨w.heap.size,0,none⟩)],zCW s.nd.length⟩] 1 (HP.out.ext HX.out) HI.out hbig (by simp) HG.out HF.out.row (fun f hf=>by
  rw[List.mem_singleton.1 hf]
  exact enters_of Tryz.func177 (by kernel_rfl) rfl) (fun k hk s' wr R' h1 h2 h3=>by
  obtain rfl:k=0:=by simp at hk; omega
  injection h1 with _ h1;subst h1
  exact zOX wr p B _ R' s.nd.length w.heap.size h3 (by rw[jT]; omega) (HB.out.xE h2))).mono ?_
 intro e w1 AA;rw[zCp] at AA
 rcases AA.unit with ⟨s',hr,rfl,ho⟩ | ⟨er,a,hr,he⟩
 ·have HR:Hid (zCt i s=.ok () s'):=yG hr;have HO:=yG (OkP.trans (xC.ext HX.out) ho);clear AA hr ho
  go_wp2_with fail
  go_end0;rw[HR.out];exact xM.ok HO.out
 ·have HE:=yG (VF.trans (xC.ext HX.out) he);have HR:Hid (zCt i s=.err er a):=yG hr;obtain⟨rfl,_⟩:=he;refine xD (P:=Tryz.prog) (fn:=Tryz.f173) rfl ?_;rw[HR.out];exact HE.out
def JN (p:Nat)(w:World):Nat:=match w.cell? ⟨p,0,none⟩ with
 | some (.slice _ n _)=>n
 | _=>0
theorem PS.JN {w:World}{p B:Nat}{s:Ps}{R:xX}(h:PS w p B s R):JN p w=s.ts.length:=by unfold Proofs.YtbadjmmjbpeocaaGreat.JN; rw[h.x0]
theorem zSI (one:Pm Unit)(f:Nat)(s:Ps)(h:isP [44] s=false):zBE one (f+1) s=.ok () s:=by unfold zBE; rw[h]; rfl
theorem zQJ (one:Pm Unit)(f:Nat)(s:Ps)(h:isP [44] s=true):zBE one (f+1) s=(one s.adv).bind fun _ s=>zBE one f s:=by rw[zBE,if_pos h]
theorem zGG (w:World)(p B:Nat)(s:Ps)(R:xX)(i:Nat)(f:KF)(h:PS w p B s R)(hG:Good s)(he:∀args w,(callFunc f.K args).run Tryz.prog w=.ok (.enter f.K args) w)(hfine:zA5 f.m)
  (hone:∀(wr:World) (s':Ps) (R':xX),ZI s s'→xC w (xK p R) wr (xK p R')→PS wr p B s' R'→Calls Tryz.prog f.K (f.first.push (.int .i64 (i:Int))++f.cap) wr (xM wr p B R' (f.m s'))) :
  Calls Tryz.prog 107 #[.pointer (some ⟨p,0,none⟩),.int .i64 (i:Int),.func (.func f.K) f.first f.cap] w (xM w p B R (zAg f.m s)):=by
 have HP:=yG h;have HG:=yG hG;have HO:=yG hone;have AM:=yG hfine;obtain⟨K,first,AZ,m⟩:=f
 simp only at he HO AM ⊢
 have HE:=yG he;clear h hG hone hfine he;have AD:=AM.out s HG.out
 cases hr:m s with
 | err er a=>
  have HC:Hid (xM w p B R (m s)=xM w p B R (.err er a)):=yG (by rw[hr]);have HL:Hid (zAg m s=.err er a):=yG (by unfold zAg; rw[hr]; rfl);clear hr AD;have he:=HE.out
  go_enter Tryz.func107,Tryz.ntmps107
  go_wp2_with fail
  refine(HO.out w s R (ZI.refl HG.out) (xC.refl _ _) HP.out).mono ?_;rw[HC.out];rintro e w1 ⟨rfl,ho⟩;refine xD (P:=Tryz.prog) (fn:=Tryz.f107) rfl ?_;rw[HL.out];exact⟨rfl,ho⟩
 | ok a s1=>
  rw[hr] at AD;have Aa:Hid (ZI s s1):=yG AD;have HC:Hid (xM w p B R (m s)=xM w p B R (.ok a s1)):=yG (by rw[hr]);have HL:Hid (zAg m s=zBE m (s1.ts.length+1) s1):=yG (by unfold zAg; rw[hr]; rfl);clear hr AD;have he:=HE.out
  go_enter Tryz.func107,Tryz.ntmps107
  go_wp2_with fail
  refine(HO.out w s R (ZI.refl HG.out) (xC.refl _ _) HP.out).mono ?_;rw[HC.out];rintro e w1 ⟨rfl,ho⟩;have AX:=yG ho;clear ho he
  go_wp2_with fail
  go_loopw [] (fun wr=>∃(s':Ps) (n:Nat),Hid (ZI s s')∧Hid (s'.ts.length<n)∧Hid (zAg m s=zBE m n s')∧Hid (OkP w p B R s' wr)) (fun wr=>JN p wr)
  case atStart=>exact⟨s1,s1.ts.length+1,Aa,yG (Nat.lt_succ_self _),HL,AX⟩
  case round=>
   obtain⟨s',n,AO,HN,AP,Ac⟩:=hrel;obtain⟨wa,rfl⟩:∃wa:World,wa=wr:=⟨_,rfl⟩;obtain⟨R',AS,AQ⟩:=Ac.out;have AF:=yG AS;have AN:=yG AQ;obtain⟨n',rfl⟩:∃n',n=n'+1:=⟨n-1,by have:=HN.out; omega⟩;clear AS AQ
   cases hi:isP [44] s' with
   | false=>
    have HI:=yG hi;have HR:Hid (zAg m s=.ok () s'):=yG (by rw[AP.out,zSI m n' s' hi]);clear hi
    go_wp2_with fail
    refine(zAP wa p B s' R' [44] HI AF.out).mono ?_;rintro e w2 ⟨rfl,hx⟩;have AY:=yG (OkP.trans AN.out (AF.out.okp hx));clear hx
    go_wp2_with fail
    go_end0;rw[HR.out];exact xM.ok AY.out
   | true=>
    have HI:=yG hi;have AR:=(vO hi).1;have AG:=VH AO.out.xV AR;have AL:=yG (AO.out.trans AG)
    have AT:Hid (s'.adv.ts.length<s'.ts.length∧s'.adv.ts.length<n'):=yG (by
     have h1:=jW (s:=s');have h2:=AO.out.xV.pos;have h3:=HN.out
     omega)
    have HQ:Hid (zAg m s=(m s'.adv).bind fun _ s=>zBE m n' s):=yG (by rw[AP.out,zQJ m n' s' hi]);have AD:=AM.out s'.adv AG.xV;clear hi AR AG
    cases hr:m s'.adv with
    | err er a=>
     have HC:Hid (m s'.adv=.err er a):=yG hr;clear hr AD;have he:=HE.out
     go_wp2_with fail
     refine(VJ wa p B s' R' [44] HI AF.out).mono ?_;rintro e w2 ⟨rfl,ho⟩;obtain⟨R2,AC,AA⟩:=ho;have AE:=yG AC;have AB:=yG (AN.out.trans AA);clear AC AA
     go_wp2_with fail
     refine(HO.out w2 s'.adv R2 AL.out AB.out AE.out).mono ?_;intro e w3 hp;rw[HC.out] at hp;have AW:Hid (xM w p B R (zAg m s) (jV er) w3):=yG (by rw[HQ.out,HC.out]; obtain⟨_,h⟩:=hp; exact VF.trans AB.out ⟨rfl,h⟩);obtain⟨rfl,_⟩:=hp;exact xD (P:=Tryz.prog) (fn:=Tryz.f107) rfl AW.out
    | ok a s2=>
     rw[hr] at AD;have AH:Hid (ZI s'.adv s2):=yG AD;have HC:Hid (m s'.adv=.ok a s2):=yG hr;clear hr AD;have he:=HE.out
     go_wp2_with fail
     refine(VJ wa p B s' R' [44] HI AF.out).mono ?_;rintro e w2 ⟨rfl,ho⟩;obtain⟨R2,AC,AA⟩:=ho;have AE:=yG AC;have AB:=yG (AN.out.trans AA);clear AC AA
     go_wp2_with fail
     refine(HO.out w2 s'.adv R2 AL.out AB.out AE.out).mono ?_;intro e w3 hp;rw[HC.out] at hp;obtain⟨rfl,AV⟩:=hp;have AU:=yG (OkP.trans AB.out AV);have AI:=yG (AL.out.trans AH.out);have Ab:Hid (s2.ts.length<n'):=yG (by have:=AH.out.ts; have:=AT.out; omega);have AJ:Hid (zAg m s=zBE m n' s2):=yG (by rw[HQ.out,HC.out]; rfl)
     have Ad:Hid (JN p w3<JN p wa):=yG (by
      obtain⟨R3,AK,_⟩:=AU.out;rw[AK.JN,AF.out.JN]
      have:=AH.out.ts
      have:=AT.out
      omega)
     clear AV he
     go_wp2_with fail
     go_roundw
     case rel=>exact⟨s2,n',AI,Ab,AJ,AU⟩
     case measure=>exact Ad.out
def Or (M X:Nat→Prop)(b:Nat):Prop:=M b∨X b
def OkX (X:Nat→Prop)(w:World)(p B:Nat)(R R':xX)(s':Ps)(w':World):Prop:=PS w' p B s' R'∧xC w (Or (xK p R) X) w' (Or (xK p R') X)
theorem xC.or {w w':World}{M M':Nat→Prop}(h:xC w M w' M')(X:Nat→Prop):xC w (Or M X) w' (Or M' X):=
 ⟨h.os,h.tape,h.output,h.size,fun b hb hM=>h.jL b hb fun k=>hM (.inl k),fun b hb=>by
  rcases hb with hb | hb
  ·rcases h.zDI b hb with h1 | h1
   ·exact .inl (.inl h1)
   ·exact .inr h1
  ·exact .inl (.inr hb)⟩
def zAh {α:Type}(X:Nat→Prop)(w:World)(p B:Nat)(R:xX)(r:Res α)(V:α→xX→World→Prop)(e:Ending)(w':World):Prop:=
 match r with
 | .ok a s'=>e=.returned (.tuple #[])∧∃R',OkX X w p B R R' s' w'∧V a R' w'
 | .err er a=>e=jV er∧∃s' R',s'.hd.at_=a∧OkX X w p B R R' s' w'
theorem OkX.trans {X:Nat→Prop}{w w1 w2:World}{p B:Nat}{R R1 R2:xX}{s:Ps}(h:xC w (Or (xK p R) X) w1 (Or (xK p R1) X))(k:OkX X w1 p B R1 R2 s w2):OkX X w p B R R2 s w2:=⟨k.1,h.trans k.2⟩
theorem zAh.trans {α:Type}{X:Nat→Prop}{w w1 w2:World}{p B:Nat}{R R1:xX}{r:Res α}{V:α→xX→World→Prop}{e:Ending}(h:xC w (Or (xK p R) X) w1 (Or (xK p R1) X))(k:zAh X w1 p B R1 r V e w2):zAh X w p B R r V e w2:=by
 cases r with
 | ok a s=>obtain⟨h1,R',h2,h3⟩:=k; exact⟨h1,R',h2.trans h,h3⟩
 | err er a=>obtain⟨h1,s',R',h2,h3⟩:=k; exact⟨h1,s',R',h2,h3.trans h⟩
theorem zAh.ofU {X:Nat→Prop}{w:World}{p B:Nat}{R:xX}{r:Res Unit}{e:Ending}{w':World}(h:xM w p B R r e w'):zAh X w p B R r (fun _ _ _=>True) e w':=by
 cases r with
 | ok a s=>obtain⟨h1,R',h2,h3⟩:=h; exact⟨h1,R',⟨h2,h3.or X⟩,trivial⟩
 | err er a=>obtain⟨h1,s',h2,R',h3,h4⟩:=h; exact⟨h1,s',R',h2,h3,h4.or X⟩
theorem zAh.unit {α:Type}{X:Nat→Prop}{w:World}{p B:Nat}{R:xX}{r:Res α}{V:α→xX→World→Prop}{e:Ending}{w':World}(h:zAh X w p B R r V e w'):(∃a s' R',r=.ok a s'∧e=.returned (.tuple #[])∧OkX X w p B R R' s' w'∧V a R' w')∨(∃er a,r=.err er a∧e=jV er∧∃s' R',s'.hd.at_=a∧OkX X w p B R R' s' w'):=by
 cases r with
 | ok a s'=>obtain⟨h1,R',h2,h3⟩:=h; exact .inl ⟨a,s',R',rfl,h1,h2,h3⟩
 | err er a=>exact .inr ⟨er,a,rfl,h⟩
def noX:Nat→Prop:=fun _=>False
theorem zAh.toU {w:World}{p B:Nat}{R:xX}{r:Res Unit}{V:Unit→xX→World→Prop}{e:Ending}{w':World}(h:zAh noX w p B R r V e w'):xM w p B R r e w':=by
 have hm:∀ {w' R'},xC w (Or (xK p R) noX) w' (Or (xK p R') noX)→xC w (xK p R) w' (xK p R'):=fun h=>⟨h.os,h.tape,h.output,h.size,fun b hb hM=>h.jL b hb (fun k=>by rcases k with k | k; exact hM k; exact k),fun b hb=>by
  rcases h.zDI b (.inl hb) with (h1 | h1) | h1
  ·exact .inl h1
  ·exact h1.elim
  ·exact .inr h1⟩
 cases r with
 | ok a s=>obtain⟨h1,R',h2,_⟩:=h; exact⟨h1,R',h2.1,hm h2.2⟩
 | err er a=>obtain⟨h1,s',R',h2,h3⟩:=h; exact⟨h1,s',h2,R',h3.1,hm h3.2⟩
theorem PS.zLl {w:World}{p B:Nat}{s:Ps}{R:xX}(h:PS w p B s R)(d:Nat)(hd:d≤64):PS (w.setCell ⟨p,2,none⟩ (.int .i64 (d:Int))) p B { s with deep:=d } R∧xC w (xK p R) (w.setCell ⟨p,2,none⟩ (.int .i64 (d:Int))) (xK p R):=by
 refine⟨⟨?_,fun k hk=>?_,h.zIr,h.zE9,h.nodes,?_,h.pB,⟨h.xV.last,hd⟩⟩,xC.set (.inl rfl)⟩
 ·have:=h.blk.put 2 (.int .i64 (d:Int))
  simpa using this
 ·have AA:R.bt≠p:=by have:=h.zE9; have:=h.pB; omega
  exact(World.cell?_of_block (w:=w) (zS w ⟨p,2,none⟩ _ R.bt AA)).trans (h.zMX k hk)
 ·refine h.ns.jL fun b hb=>zS w ⟨p,2,none⟩ _ b fun e=>?_;rw[e] at hb;exact h.ns.zDr h.blk (by decide) (by decide) hb
theorem zPF {α:Type}{a z:Bs}{body:Pm α}{s:Ps}(h:isP a s=false):jE a z body s=.err 50 s.hd.at_:=by unfold jE; rw[h]; rfl
theorem zNb {α:Type}{a z:Bs}{body:Pm α}{s:Ps}(h:isP a s=true)(hd:s.deep=64):jE a z body s=.err 51 s.hd.at_:=by unfold jE; rw[if_pos h,if_pos hd]
theorem zN3 {α:Type}{a z:Bs}{body:Pm α}{s:Ps}(h:isP a s=true)(hd:s.deep≠64):jE a z body s=(body { s.adv with deep:=s.deep+1 }).bind fun x s=>if z=[] then .ok x { s with deep:=s.deep-1 } else (vX z s).bind fun _ s=>.ok x { s with deep:=s.deep-1 }:=by unfold jE; rw[if_pos h,if_neg hd]
theorem zCv {α:Type}(X:Nat→Prop)(w:World)(p B:Nat)(s:Ps)(R:xX)(a z:Bs)(K:Nat)(first cap:Array Value)(body:Pm α)(V:α→xX→World→Prop)(h:PS w p B s R)(he:∀args w,(callFunc K args).run Tryz.prog w=.ok (.enter K args) w)
  (hV:∀x R1 w1 R2 w2,V x R1 w1→xC w1 (xK p R1) w2 (xK p R2)→V x R2 w2)
  (hdeep:isP a s=true→s.deep≠64→∀x s',body { s.adv with deep:=s.deep+1 } = .ok x s'→s'.deep=s.deep+1)
  (hbody:isP a s=true→s.deep≠64→∀(wr:World) (R':xX),xC w (xK p R) wr (xK p R')→PS wr p B { s.adv with deep:=s.deep+1 } R'→Calls Tryz.prog K (first++cap) wr (zAh X wr p B R' (body { s.adv with deep:=s.deep+1 }) V)) :
  Calls Tryz.prog 141 #[.pointer (some ⟨p,0,none⟩),.string (xG a),.string (xG z),.func (.func K) first cap] w (zAh X w p B R (jE a z body s) V):=by
 have HP:=yG h;have HE:=yG he;have HV:=yG hV;have AY:=yG hdeep;have HB:=yG hbody;clear h he hV hbody hdeep
 cases hi:isP a s with
 | false=>
  have HI:=yG hi;have HW:Hid (jE a z body s=.err 50 s.hd.at_):=yG (zPF hi);clear hi
  go_enter Tryz.func141,Tryz.ntmps141
  go_wp2_with fail
  refine(XP w p B s R a false HI HP.out).mono ?_;rintro e w1 ⟨rfl,AB⟩;have HF:Hid (zAh X w p B R (jE a z body s) V (jV 50) w1):=yG (by rw[HW.out]; exact⟨rfl,s,R,rfl,HP.out.ext AB,(xC.ext AB).or X⟩);clear AB
  go_wp2_with fail
  refine(zBj _ p 50).mono ?_;rintro e w2 ⟨rfl,rfl⟩;exact xD (P:=Tryz.prog) (fn:=Tryz.f141) rfl HF.out
 | true=>
  have HI:=yG hi
  by_cases hd:s.deep=64
  ·have HW:Hid (jE a z body s=.err 51 s.hd.at_):=yG (zNb hi hd);have HD:=yG hd;clear hi hd
   go_enter Tryz.func141,Tryz.ntmps141
   go_wp2_with fail
   refine(XP w p B s R a true HI HP.out).mono ?_;rintro e w1 ⟨rfl,AB⟩;have HF:Hid (zAh X w p B R (jE a z body s) V (jV 51) w1):=yG (by rw[HW.out]; exact⟨rfl,s,R,rfl,HP.out.ext AB,(xC.ext AB).or X⟩);have x2:=(HP.out.ext AB).x2;rw[HD.out] at x2;clear AB
   go_wp2_with fail
   refine(zBj _ p 51).mono ?_;rintro e w2 ⟨rfl,rfl⟩;exact xD (P:=Tryz.prog) (fn:=Tryz.f141) rfl HF.out
  ·have HD:=yG hd;have HW:=yG (zN3 (z:=z) (body:=body) hi hd)
   have Ab:((s.deep:Int)==64)=false:=by rw[yI]; omega
   have Aa:=HP.out.xV.deep;have Ac:=yG (vO hi).1;have HN:Hid ((s.deep:Int)+1=((s.deep+1:Nat):Int)):=yG (by omega);have AP:Hid (s.deep+1≤64):=yG (by omega);have HT:Hid (vX a { s with deep:=s.deep+1 } = .ok () { s.adv with deep:=s.deep+1 }):=yG (by unfold vX; rw[show isP a { s with deep:=s.deep+1 } = isP a s from rfl,if_pos hi]; rfl);clear hi hd
   go_enter Tryz.func141,Tryz.ntmps141
   go_wp2_with fail
   refine(XP w p B s R a true HI HP.out).mono ?_;rintro e w1 ⟨rfl,AB⟩;have AV:=yG AB;have AF:=yG (HP.out.ext AB);have x2:=AF.out.x2;have z2:=AF.out.blk.frozen 2;have AS:=yG (AF.out.zLl (s.deep+1) AP.out);clear AB
   go_wp2_with fail
   rw[HN.out];generalize w1.setCell ⟨p,2,none⟩ (.int .i64 ((s.deep+1:Nat):Int))=w2 at *;refine(jG w2 p B _ R a AS.out.1).mono ?_;rw[HT.out];rintro e w3 ⟨rfl,R3,AO,AR⟩;have AT:=yG AO;have AI:=yG (((xC.ext AV.out).trans AS.out.2).trans AR);clear AO AR x2 z2;have he:=HE.out
   go_wp2_with fail
   refine(HB.out HI.out HD.out _ R3 AI.out AT.out).mono ?_;intro e w4 AA
   rcases AA.unit with ⟨x,s4,R4,hr,rfl,ho,hv⟩ | ⟨er,at_,hr,rfl,s4,R4,AM,ho⟩
   rotate_left
   ·have HF:Hid (zAh X w p B R (jE a z body s) V (jV er) w4):=yG (by rw[HW.out,hr]; exact⟨rfl,s4,R4,AM,ho.trans (AI.out.or X)⟩);exact xD (P:=Tryz.prog) (fn:=Tryz.f141) rfl HF.out
   have HR:=yG hr;have AE:=yG ho.1;have AK:=yG ((AI.out.or X).trans ho.2);have AQ:=yG hv;have AJ:=yG (AY.out HI.out HD.out x s4 hr);clear AA hr ho hv he;have AZ:s.deep+1≤64:=AP.out
   by_cases hz:z=[]
   ·have AL:Hid (jE a z body s=.ok x { s4 with deep:=s.deep }):=yG (by rw[HW.out,HR.out,VN,if_pos hz,AJ.out]; rfl)
    have AX:(xG z).toList.isEmpty=true:=by subst hz; rw[VV]; rfl
    have x2:=AE.out.x2;rw[AJ.out] at x2;have z2:=AE.out.blk.frozen 2;have AG:=yG (AE.out.zLl s.deep (by omega));clear hz
    go_wp2_with fail
    go_end0;rw[AL.out];exact⟨rfl,R4,⟨AG.out.1,AK.out.trans (AG.out.2.or X)⟩,HV.out _ _ _ _ _ AQ.out AG.out.2⟩
   ·have AX:(xG z).toList.isEmpty=false:=by
     cases z with
     | nil=>exact absurd rfl hz
     | cons b l=>simp[VV]
    have HZ:=yG hz;clear hz
    go_wp2_with fail
    refine(jG w4 p B s4 R4 z AE.out).mono ?_;intro e w5 AA
    cases hq:vX z s4 with
    | err er at_=>
     rw[hq] at AA;obtain⟨rfl,s5,AM,R5,AC,AD⟩:=AA;have HF:Hid (zAh X w p B R (jE a z body s) V (jV er) w5):=yG (by rw[HW.out,HR.out,VN,if_neg HZ.out,hq]; exact⟨rfl,s5,R5,AM,AC,AK.out.trans (AD.or X)⟩);exact xD (P:=Tryz.prog) (fn:=Tryz.f141) rfl HF.out
    | ok y s5=>
     rw[hq] at AA;obtain⟨rfl,R5,AC,AD⟩:=AA
     have AH:s5.deep=s.deep+1:=by
      unfold vX at hq
      split at hq
      ·injection hq with _ e2;rw[←e2];exact AJ.out
      ·cases hq
     have AL:Hid (jE a z body s=.ok x { s5 with deep:=s.deep }):=yG (by rw[HW.out,HR.out,VN,if_neg HZ.out,hq,VN,AH]; rfl);have x2:=AC.x2;rw[AH] at x2;have z2:=AC.blk.frozen 2;have AN:=yG (AC.zLl s.deep (by omega));have AW:=yG (AK.out.trans (AD.or X));have AU:=yG (HV.out _ _ _ _ _ AQ.out AD);clear hq AC AD AH
     go_wp2_with fail
     go_end0;rw[AL.out];exact⟨rfl,R5,⟨AN.out.1,AW.out.trans (AN.out.2.or X)⟩,HV.out _ _ _ _ _ AU.out AN.out.2⟩
structure Ran (w:World)(p B:Nat)(R:xX)(s:Ps)(w':World)(R':xX)(s':Ps):Prop where
 ps:PS w' p B s' R'
 mv:xC w (xK p R) w' (xK p R')
 lt:ZI s s'
theorem Ran.refl {w:World}{p B:Nat}{R:xX}{s:Ps}(h:PS w p B s R)(g:Good s):Ran w p B R s w R s:=⟨h,xC.refl _ _,ZI.refl g⟩
theorem Ran.ext {w w' w2:World}{p B:Nat}{R R':xX}{s s':Ps}(h:Ran w p B R s w' R' s')(hx:Ext w' w2):Ran w p B R s w2 R' s':=⟨h.ps.ext hx,h.mv.trans (xC.ext hx),h.lt⟩
theorem Ran.nd {w w':World}{p B:Nat}{R R':xX}{s s':Ps}(h:Ran w p B R s w' R' s')(hb:s.phi≤1000000):s'.nd.length≤1000000:=by have:=h.lt.phi; unfold Ps.phi at this hb; omega
theorem Ran.phi {w w':World}{p B:Nat}{R R':xX}{s s':Ps}(h:Ran w p B R s w' R' s')(hb:s.phi≤1000000):s'.phi≤1000000:=Nat.le_trans h.lt.phi hb
theorem Ran.idx {w w':World}{p B:Nat}{R R':xX}{s s':Ps}(h:Ran w p B R s w' R' s'){i:Nat}(hi:i<s.nd.length):i<s'.nd.length:=yU hi h.lt.nd
theorem Ran.few {w w':World}{p B:Nat}{R R':xX}{s s':Ps}(h:Ran w p B R s w' R' s'){n:Nat}(hn:s.ts.length≤n):s'.ts.length≤n:=Nat.le_trans h.lt.ts hn
theorem Ran.okp {w w':World}{p B:Nat}{R R':xX}{s s':Ps}(h:Ran w p B R s w' R' s'):OkP w p B R s' w':=⟨R',h.ps,h.mv⟩
theorem Ran.then {w w1 w2:World}{p B:Nat}{R R1:xX}{s s1 s2:Ps}(h:Ran w p B R s w1 R1 s1)(k:OkP w1 p B R1 s2 w2)(hl:ZI s1 s2):∃R2,Ran w p B R s w2 R2 s2:=let ⟨R2,a,b⟩:=k; ⟨R2,a,h.mv.trans b,h.lt.trans hl⟩
theorem Ran.go {α:Type}{w w1 w2:World}{p B:Nat}{R R1:xX}{s s1:Ps}{r:Res Unit}{whole:Res α}{f:Unit→Ps→Res α}{e:Ending}(HL:Hid (whole=r.bind f))(h:Hid (Ran w p B R s w1 R1 s1))(hf:jO s1 r)(hp:xM w1 p B R1 r e w2) :
  (∃s2 R2,Hid (whole=f () s2)∧e=.returned (.tuple #[])∧Hid (Ran w p B R s w2 R2 s2))∨(∃er a,e=jV er∧Hid (whole=.err er a)∧Hid (VF w p B R er a (jV er) w2)):=by
 cases r with
 | ok a s2=>
  obtain⟨h1,R2,h2,h3⟩:=hp;exact .inl ⟨s2,R2,yG HL.out,h1,yG ⟨h2,h.out.mv.trans h3,h.out.lt.trans hf⟩⟩
 | err er a=>
  obtain⟨h1,h2⟩:=hp;exact .inr ⟨er,a,h1,yG HL.out,yG (VF.trans h.out.mv ⟨rfl,h2⟩)⟩
theorem ZE {r whole:Res Unit}(h:whole=r):whole=r.bind fun _ s=>.ok () s:=by rw[h]; cases r <;> rfl
theorem zGK {α:Type}{s:Ps}{t:Bs}{whole x y:Res α}(h:Hid (whole=if isP t s=true then x else y))(hi:Hid (isP t s=true)):whole=x:=by rw[h.out,if_pos hi.out]
theorem zKn {α:Type}{s:Ps}{t:Bs}{whole x y:Res α}(h:Hid (whole=if isP t s=true then x else y))(hi:Hid (isP t s=false)):whole=y:=by rw[h.out,hi.out]; rfl
theorem ZI.num {s:Ps}(h:Good s)(i:Nat)(x:Int):ZI s (s.num i x):=zAs h (fun _=>rfl)
theorem ZI.kind {s:Ps}(h:Good s)(i k:Nat):ZI s (s.kind i k):=zAs h (fun _=>rfl)
theorem zBh {s:Ps}{t:Bs}(g:Good s)(h:Hid (isP t s=true)):ZI s s.adv:=VH g (vO h.out).1
end Go.Proofs.YtbadjmmjbpeocaaGreat
