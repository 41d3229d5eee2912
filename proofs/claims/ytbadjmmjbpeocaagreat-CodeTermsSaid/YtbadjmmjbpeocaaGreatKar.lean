/- The program's kid: a node as a kid of another one. (and what follows of it). The conditions stand at each lemma. -/
import Derived.Test.YtbadjmmjbpeocaaGreatKaa
import Derived.Test.YtbadjmmjbpeocaaGreatKak
import Derived.Deep.RegionHeld3
import Derived.Test.YtbadjmmjbpeocaaGreatKai
set_option linter.unusedVariables false
set_option linter.unusedSimpArgs false
set_option maxRecDepth 100000
set_option maxHeartbeats 16000000
namespace Go.Proofs.YtbadjmmjbpeocaaGreat
open Go Go.RowKit
theorem zDX.trans {w w1 w2:World}{p B:Nat}{R R1:xU}{v:Value}{r:Res Unit}{e:Ending}(h:xC w (xK p R) w1 (xK p R1))(k:zDX w1 p B R1 v r e w2):zDX w p B R v r e w2:=by
 cases r with
 | ok a s=>exact⟨k.1,OkP.trans h k.2⟩
 | err er a=>exact VD.trans h k
theorem zFo {α β:Type}(f:α→β)(g:α→α)(k:β→β)(h:∀x,f (g x)=k (f x)):∀(l:List α) (i:Nat),(l.modify i g).map f=(l.map f).modify i k
 | [],i=>by simp
 | x::l,0=>by simp[h]
 | x::l,i+1=>by simp[zFo f g k h l i]
theorem PS.kid {W w1:World}{p B:Nat}{s:Ps}{R:xU}(h:PS W p B s R)(i:Nat)(hi:i<R.nh.length){g gk cap:Nat}(hA:R.A=some ⟨g,0,none⟩)
  (ho:w1.ownsRow B 3 1 (.slice (some ⟨gk,0,none⟩) (R.nh[i].1.kids.length+1) cap) (R.nh[i].1.kids.length+1) (ints R.nh[i].1.kids++[Value.int .i64 (R.nh.length:Int)])) (hg:W.grownBy w1 (Value.slice R.nh[i].2.1 R.nh[i].1.kids.length R.nh[i].2.2).ownBlock)
  (hf:(Value.slice R.nh[i].2.1 R.nh[i].1.kids.length R.nh[i].2.2).ownBlock=some gk∨W.heap.size≤gk) :
  OkP W p B R (s.kid i) (w1.setCell ⟨g,i*5+4,none⟩ (.slice (some ⟨gk,0,none⟩) (R.nh[i].1.kids.length+1) cap)):=by
 have hlen:=h.len;have hns:=h.ns.kid (by decide) i hi R.nh.length hA ho hg hf
 have hpo:(Value.slice R.nh[i].2.1 R.nh[i].1.kids.length R.nh[i].2.2).ownBlock≠some p:=fun e=>by
  obtain⟨cur,hc⟩:=xY (h.ns.kids _ (yO hi)) (xO (h.ns.kids _ (yO hi)) e);exact Blk.differ h.blk hc (by decide) rfl
 have hpg:p≠g:=fun e=>by
  obtain⟨cur,hc⟩:=xY h.ns.row hA;rw[←e] at hc;exact Blk.differ h.blk hc (by decide) rfl
 have hgB:=(jD h.ns.row hA).1;have hgl:=(jD h.ns.row hA).2;refine⟨{ R with nh:=R.nh.modify i fun x=>({ x.1 with kids:=x.1.kids++[R.nh.length] },(some ⟨gk,0,none⟩,cap)) },⟨?_,fun k hk=>?_,h.zID,h.zE8,?_,hns,h.pB,⟨h.xR.last,h.xR.deep⟩⟩,?_⟩
 ·have hb1:Blk w1 p 101 _:=(hg.block p h.blk.lt (fun e=>hpo e.symm)).trans h.blk
  have:=hb1.far (p:=⟨g,i*5+4,none⟩) hpg (.slice (some ⟨gk,0,none⟩) (R.nh[i].1.kids.length+1) cap)
  show Blk _ p 101 #[.slice _ s.ts.length _,.slice _ (R.nh.modify i _).length _,.int .i64 (s.deep:Int)]
  rw[List.length_modify];exact this
 ·have hlt:=h.zE8
  have hne:R.bt≠g:=by omega
  have e1:w1.heap[R.bt]?=W.heap[R.bt]?:=hg.block R.bt h.btl fun e=>by
   have:=(jD (h.ns.kids _ (yO hi)) (xO (h.ns.kids _ (yO hi)) e.symm)).1
   omega
  have e2:=World.cell?_of_block (w:=W) (w':=w1.setCell ⟨g,i*5+4,none⟩ (.slice (some ⟨gk,0,none⟩) (R.nh[i].1.kids.length+1) cap)) (a:=⟨R.bt,R.ot+k,none⟩) ((zS w1 ⟨g,i*5+4,none⟩ _ R.bt hne).trans e1);exact e2.trans (h.zM9 k hk)
 ·show(s.kid i).nd=_
  rw[zFo Prod.fst _ (fun n:Nd=>{ n with kids:=n.kids++[R.nh.length] }) (fun x=>rfl),←h.nodes,←hlen]
  rfl
 ·refine⟨hg.os,hg.tape,hg.output,by have:=hg.size; simp[World.setCell]; omega,fun b hb hM=>?_,fun b hb=>?_⟩
  ·have hbg:b≠g:=fun e=>hM (.inr (.inl (by rw[e]; exact hA)));rw[zS w1 ⟨g,i*5+4,none⟩ _ b hbg];exact hg.block b hb fun e=>hM (.inr (.inr (List.mem_map.2 ⟨_,yO hi,xO (h.ns.kids _ (yO hi)) e.symm⟩)))
  ·rcases hb with hb | hb
   ·exact .inl (.inl hb)
   ·rcases zRv h.ns hi (fun n=>{ n with kids:=n.kids++[R.nh.length] }) hf b hb with h1 | h1
    ·exact .inl (.inr h1)
    ·exact .inr h1
theorem PS.zDe {w:World}{p B:Nat}{s:Ps}{R:xU}(h:PS w p B s R)(i:Nat)(hi:i<R.nh.length){g:Nat}(hA:R.A=some ⟨g,0,none⟩)(j:Nat)(hj:j<5):w.cell? ⟨g,i*5+j,none⟩=(YO R.nh[i])[j]?:=by
 have hr:=h.ns.row;rw[hA] at hr;rw[hr.cellAt (i*5+j) (by omega)];exact zUD R.nh i hi j hj
theorem PS.zKk {w:World}{p B:Nat}{s:Ps}{R:xU}(h:PS w p B s R)(k:Nat){g:Nat}(hA:R.A=some ⟨g,0,none⟩):w.frozen? ⟨g,k,none⟩=false:=by
 obtain⟨cur,hc⟩:=xY h.ns.row hA;exact hc.frozen k
theorem PS.zRs {w:World}{p B:Nat}{s:Ps}{R:xU}(h:PS w p B s R)(hn:0<R.nh.length):∃g,R.A=some ⟨g,0,none⟩:=by
 rcases zAN h.ns.row with e | e
 ·have hr:=h.ns.row;rw[e] at hr
  rcases hr.2 with ⟨_,h0⟩ | ⟨g,_,_,hv,_⟩
  ·omega
  ·cases hv
 ·exact e
theorem zCi (w:World)(p B:Nat)(s:Ps)(R:xU)(i kind:Nat)(F:Option Addr)(l:List KF)(fc:Nat)(h:PS w p B s R)(hi:i<s.nd.length)(hbig:s.nd.length≤1000000)(hl:l.length≤10)(hG:Good s)
  (hF:XH w (xK p R) F (l.map KF.val)) (he:∀f ∈ l,∀args w,(callFunc f.K args).run Tryz.prog w=.ok (.enter f.K args) w)
  (hd:∀(k:Nat) (hk:k<l.length) (s':Ps) (wr:World) (R':xU),zC6 (l.take k) (s.xI i kind)=.ok () s'→xC w (xK p R) wr (xK p R')→PS wr p B s' R'→Calls Tryz.prog l[k].K (l[k].first++#[.int .i64 (s.nd.length:Int)]++l[k].cap) wr (xM wr p B R' (l[k].m s'))) :
  Calls Tryz.prog 104 #[.pointer (some ⟨p,0,none⟩),.int .i64 (i:Int),.int .u8 (kind:Int),.slice F l.length fc] w (zDX w p B R (.int .i64 (s.nd.length:Int)) (zC6 l (s.xI i kind))):=by
 obtain⟨i0,hi0,hz0,hz1,hz2⟩:=info_parts zHA;have hlen:=h.len
 have hi':i<R.nh.length:=by omega
 obtain⟨g,hA⟩:=h.zRs (by omega);obtain⟨x,hxi⟩:∃x,R.nh[i]=x:=⟨_,rfl⟩;obtain⟨⟨nk,np,nt,nn,kk⟩,kA,kc⟩:=x
 have c4:w.cell? ⟨g,i*5+4,none⟩=some (.slice kA kk.length kc):=by rw[h.zDe i hi' hA 4 (by decide),hxi]; rfl
 have hkr:=h.ns.zUH _ (yO hi');have hkk:=h.ns.kids _ (yO hi');rw[hxi] at hkr hkk
 simp only at hkr hkk
 obtain⟨o,HO⟩:∃o,Hid ((Value.slice kA kk.length kc).ownBlock=o):=⟨_,yG rfl⟩
 have HPN:Hid (some p≠o):=yG fun e=>by
  rw[←HO.out] at e;obtain⟨cur,hc⟩:=xY hkk (xO hkk e.symm);exact Blk.differ h.blk hc (by decide) rfl
 have HGN:Hid (some g≠o):=yG fun e=>by
  rw[←HO.out] at e;obtain⟨cur,hc⟩:=xY hkk (xO hkk e.symm);obtain⟨cur2,hc2⟩:=xY h.ns.row hA;exact Blk.differ hc2 hc (by decide) rfl
 have HOG:Hid (∀g,o=some g→g<w.heap.size):=yG fun g e=>by
  rw[←HO.out] at e;exact(jD hkk (xO hkk e)).2
 have hgl:=(jD h.ns.row hA).2;have hpl:=h.blk.lt;have HBW:Hid (B≤w.heap.size):=yG (Nat.le_trans h.pB (zV hpl));have HXI:=yG hxi;have HP:=yG h;have HA:=yG hA;have HKR:=yG hkr;have HFC:=yG hF;have HE:=yG he;have HD:=yG hd;have HLN:=yG hlen
 have HKB:Hid (kk.length≤1000000):=yG (by
  have:=hG.few (R.nh[i].1) (by rw[h.nodes]; exact List.mem_map.2 ⟨_,yO hi',rfl⟩)
  rw[HXI.out] at this
  simp only at this
  omega)
 rw[hlen] at hbig;obtain⟨Fs,HFS⟩:∃Fs,Hid (FsH B 3 (.slice kA kk.length kc) w.heap.size kk.length (ints kk) [Value.int .i64 (R.nh.length:Int)]=Fs):=⟨_,yG rfl⟩
 have hE:∀F ∈ Fs,∀v w w',F v w→Ext w w'→F v w':=by rw[←HFS.out]; exact zF9 _ _ _ _ _ _ _
 have m0:(fun (_:Value) w=>VM B 3 kk.length (ints kk) (.slice kA kk.length kc) w) ∈ Fs:=by rw[←HFS.out]; simp only[FsH,zU,true_or]
 have m1:zBe 3 w.heap.size #[Value.int .i64 (R.nh.length:Int)] ∈ Fs:=by rw[←HFS.out]; simp only[FsH,zU,true_or,or_true]
 have m2:zJO B 3 o w.heap.size (kk.length+1) (ints kk++[Value.int .i64 (R.nh.length:Int)]) ∈ Fs:=by rw[←HFS.out,←HO.out]; simp only[FsH,zU,true_or,or_true]
 have HE2:=yG hE;have M0:=yG m0;have M1:=yG m1;have M2:=yG m2
 have q0:(i:Int)<(R.nh.length:Int):=by omega
 have C4:=yG c4;clear h hF he hd hlen hE m0 m1 m2 hxi hkr hkk hA c4 hG hi
 go_enter Tryz.func104,Tryz.ntmps104
 go_upto_region 1 with fail
 apply zA8 o Fs 22 (by kernel_rfl) (by kernel_rfl) (by kernel_rfl) HE2.out;dsimp only[List.take_succ_cons,List.take_zero,List.drop_succ_cons,List.drop_zero];apply yZ (.pointer (some ⟨p,0,none⟩)) rfl rfl rfl
 ·intro w' hw' hH;clear hH hw';simp[xA,go_sem];exact vG.refl _
 apply yZ (.pointer (some ⟨p,0,none⟩)) rfl rfl rfl
 ·intro w' hw' hH;clear hH hw';simp[xA,go_sem];exact vG.refl _
 apply yZ (.pointer (some ⟨p,1,none⟩)) rfl rfl rfl
 ·intro w' hw' hH;clear hH hw';simp[xA,go_sem];exact vG.refl _
 simp only[Act.put,yD,yE,yF];apply yZ (.slice (some ⟨g,0,none⟩) R.nh.length R.c) rfl rfl rfl
 ·intro w' hw' hH;have hR:=vG.refl (o:=o) (Fs:=Fs) w';have cc:=Blk.cell ((hw'.1.block p hpl HPN.out).trans HP.out.blk) 1;rw[HA.out] at cc;clear hH hw';simp[xA,go_sem,cc,q0];exact hR
 apply yZ (.int .i64 (i:Int)) rfl rfl rfl
 ·intro w' hw' hH;clear hH hw';simp[xA,go_sem];exact vG.refl _
 apply yZ (.pointer (some ⟨p,0,none⟩)) rfl rfl rfl
 ·intro w' hw' hH;clear hH hw';simp[xA,go_sem];exact vG.refl _
 apply yZ (.pointer (some ⟨p,0,none⟩)) rfl rfl rfl
 ·intro w' hw' hH;clear hH hw';simp[xA,go_sem];exact vG.refl _
 apply yZ (.pointer (some ⟨p,1,none⟩)) rfl rfl rfl
 ·intro w' hw' hH;clear hH hw';simp[xA,go_sem];exact vG.refl _
 simp only[Act.put,yD,yE,yF];apply yZ (.slice (some ⟨g,0,none⟩) R.nh.length R.c) rfl rfl rfl
 ·intro w' hw' hH;have hR:=vG.refl (o:=o) (Fs:=Fs) w';have cc:=Blk.cell ((hw'.1.block p hpl HPN.out).trans HP.out.blk) 1;rw[HA.out] at cc;clear hH hw';simp[xA,go_sem,cc,q0];exact hR
 apply yZ (.int .i64 (i:Int)) rfl rfl rfl
 ·intro w' hw' hH;clear hH hw';simp[xA,go_sem];exact vG.refl _
 simp only[Act.put,yD,yE,yF];apply yZ (.pointer (some ⟨g,i*5,none⟩)) rfl rfl rfl
 ·intro w' hw' hH;clear hH hw';simp[xA,go_sem,q0];exact vG.refl _
 apply yZ (.pointer (some ⟨g,i*5+4,none⟩)) rfl rfl rfl
 ·intro w' hw' hH;clear hH hw';simp[xA,go_sem,q0];exact vG.refl _
 simp only[Act.put,yD,yE,yF];apply yZ (.slice kA kk.length kc) rfl rfl rfl
 ·intro w' hw' hH;have hR:=vG.refl (o:=o) (Fs:=Fs) w';have cc:=(World.cell?_of_block (w:=w) (a:=⟨g,i*5+4,none⟩) (hw'.1.block g hgl HGN.out)).trans C4.out;clear hH hw';simp[xA,go_sem,cc,q0];exact hR
 apply yZ (.pointer (some ⟨p,0,none⟩)) rfl rfl rfl
 ·intro w' hw' hH;clear hH hw';simp[xA,go_sem];exact vG.refl _
 apply yZ (.pointer (some ⟨p,0,none⟩)) rfl rfl rfl
 ·intro w' hw' hH;clear hH hw';simp[xA,go_sem];exact vG.refl _
 apply yZ (.pointer (some ⟨p,1,none⟩)) rfl rfl rfl
 ·intro w' hw' hH;clear hH hw';simp[xA,go_sem];exact vG.refl _
 simp only[Act.put,yD,yE,yF];apply yZ (.slice (some ⟨g,0,none⟩) R.nh.length R.c) rfl rfl rfl
 ·intro w' hw' hH;have hR:=vG.refl (o:=o) (Fs:=Fs) w';have cc:=Blk.cell ((hw'.1.block p hpl HPN.out).trans HP.out.blk) 1;rw[HA.out] at cc;clear hH hw';simp[xA,go_sem,cc,q0];exact hR
 simp only[Act.put,yD,yE,yF];apply yZ (.int .i64 (R.nh.length:Int)) rfl rfl rfl
 ·intro w' hw' hH;clear hH hw';simp[xA,go_sem];exact vG.refl _
 apply vB (zBe 3 w.heap.size #[Value.int .i64 (R.nh.length:Int)]) (fun v w w' h hx=>hx.2 _ M1.out v h) rfl rfl rfl
 ·intro w' hw' hH;have hz:=hw'.1.size;clear hH hw';simp[xA,go_sem];exact⟨⟨_,rfl,Blk.new _ _ _,hz⟩,vG.ext HE2.out (Ext.alloc _ _)⟩
 intro v27;simp only[Act.put,yD,yE,yF];apply vB (zJO B 3 o w.heap.size (kk.length+1) (ints kk++[Value.int .i64 (R.nh.length:Int)])) (fun v w w' h hx=>hx.2 _ M2.out v h) rfl rfl rfl
 ·intro w' hw' hH;have hlit:=hH _ (List.mem_cons_self ..) ⟨_,rfl,by decide⟩;have hrow:=hw'.2 _ M0.out undef HKR.out;have hz:=hw'.1.size;clear hH hw';rw[←HFS.out,←HO.out];exact zCB B w.heap.size (.tmp 21) (.tmp 27) 30 rfl 3 i0 _ 8 Tryz.underlying30 hi0 hz0 hz1 hz2 rfl (.slice kA kk.length kc) kk.length (ints kk) [Value.int .i64 (R.nh.length:Int)] (by kernel_rfl) hrow v27 (by kernel_rfl) hlit rfl (by simp[Value.oneCell']) (by unfold maxLen; have:=HKB.out; omega) (by have:=HKB.out; omega) (Nat.le_trans HBW.out hz) hz (fun g e=>HOG.out g (by rw[←HO.out]; exact e))
 intro v28;simp only[Act.put,yD,yE,yF];apply yZ (.pointer (some ⟨g,i*5,none⟩)) rfl rfl rfl
 ·intro w' hw' hH;clear hH hw';simp[xA,go_sem,q0];exact vG.refl _
 apply yZ (.pointer (some ⟨g,i*5+4,none⟩)) rfl rfl rfl
 ·intro w' hw' hH;clear hH hw';simp[xA,go_sem,q0];exact vG.refl _
 apply xX;intro w2 hw2 hH;have h28:=hH _ (List.mem_cons_self ..);clear hH;obtain⟨gk,cap,rfl⟩:=h28.1.at;have hgr:=hw2.1;have hgb:=hw2.1.block g hgl HGN.out;rw[←HO.out] at hgr
 have HS:Hid (OkP w p B R (s.kid i) (w2.setCell ⟨g,i*5+4,none⟩ (.slice (some ⟨gk,0,none⟩) (kk.length+1) cap))):=yG (by
  have hh:=PS.kid (gk:=gk) (cap:=cap) HP.out i hi' HA.out (w1:=w2) (by rw[HXI.out]; exact h28.1.1) (by rw[HXI.out]; exact hgr) (by
   rw[HXI.out]
   rcases h28.2 with e | ⟨g',e,hg'⟩
   ·left; rw[HO.out,←e]; rfl
   ·right; have:gk=g':=by simpa [Value.ownBlock] using e
    omega)
  rw[HXI.out] at hh
  exact hh)
 have y1:w2.cell? ⟨g,i*5+4,none⟩=some (.slice kA kk.length kc):=(World.cell?_of_block (w:=w) (a:=⟨g,i*5+4,none⟩) hgb).trans C4.out;have z1:w2.frozen? ⟨g,i*5+4,none⟩=false:=(World.frozen?_of_block (w:=w) (a:=⟨g,i*5+4,none⟩) hgb).trans (HP.out.zKk _ HA.out);clear h28 hgr hgb hw2;simp only[Act.put,yD,yE,yF]
 go_wp2_with fail
 clear y1 z1;generalize w2.setCell ⟨g,i*5+4,none⟩ (.slice (some ⟨gk,0,none⟩) (kk.length+1) cap)=w3 at *;obtain⟨R3,hps3,hmv3⟩:=HS.out;have hl3:(s.kid i).nd.length=s.nd.length:=zDR;refine(zLb w3 p B (s.kid i) R3 kind F l fc hps3 (by rw[hl3,HLN.out]; exact hbig) hl (HFC.out.xE hmv3) HE.out (fun k hk s' wr R' h1 h2 h3=>by rw[hl3]; exact HD.out k hk s' wr R' h1 (hmv3.trans h2) h3)).mono ?_;have HL3:=yG hl3;have HMV:=yG hmv3;clear hps3 hmv3 hl3;intro e w4 hpost
 have hres:zDX w p B R (.int .i64 (s.nd.length:Int)) (zC6 l (s.xI i kind)) e w4:=by
  have hp:=hpost;rw[HL3.out] at hp;exact zDX.trans HMV.out hp
 cases hq:zC6 l (s.xI i kind) with
 | ok a s2=>
  rw[hq] at hres;obtain⟨he,ho⟩:=hres;subst he;have HOF:=yG ho;have HQ:=yG hq;clear hpost ho hq
  go_wp2_with fail
  go_ret;rw[HQ.out];exact⟨rfl,HOF.out⟩
 | err er a=>
  rw[hq] at hres;obtain⟨he,ho⟩:=hres;subst he;refine xD (P:=Tryz.prog) (fn:=Tryz.f104) rfl ?_;exact⟨rfl,ho⟩
theorem zET (w:World)(p B:Nat)(s:Ps)(R:xU)(i kind:Nat)(h:PS w p B s R)(hi:i<s.nd.length)(hbig:s.nd.length≤1000000)(hG:Good s) :
  Calls Tryz.prog 104 #[.pointer (some ⟨p,0,none⟩),.int .i64 (i:Int),.int .u8 (kind:Int),.slice none 0 0] w (zDX w p B R (.int .i64 (s.nd.length:Int)) (.ok () (s.xI i kind))):=
 zCi w p B s R i kind none [] 0 h hi hbig (by decide) hG (.inl rfl) (fun f hf=>by cases hf) (fun k hk=>by cases hk)
theorem PS.put {w:World}{p B:Nat}{s:Ps}{R:xU}(h:PS w p B s R)(i:Nat)(hi:i<R.nh.length)(j:Nat)(hj:j<5)(u:Value)(f:Nd→Nd)(hk:∀x,(f x).kids=x.kids)(hf:YO (f R.nh[i].1,R.nh[i].2)=(YO R.nh[i]).set j u){g:Nat}(hA:R.A=some ⟨g,0,none⟩) :
  OkP w p B R (s.on i f) (w.setCell ⟨g,i*5+j,none⟩ u):=by
 have hns:=h.ns.put (by decide) i hi j hj u f hk hf hA
 have hpg:p≠g:=fun e=>by
  obtain⟨cur,hc⟩:=xY h.ns.row hA;rw[←e] at hc;exact Blk.differ h.blk hc (by decide) rfl
 have hgB:=(jD h.ns.row hA).1;refine⟨{ R with nh:=R.nh.modify i fun x=>(f x.1,x.2) },⟨?_,fun k hk=>?_,h.zID,h.zE8,?_,hns,h.pB,⟨h.xR.last,h.xR.deep⟩⟩,?_⟩
 ·have:=h.blk.far (p:=⟨g,i*5+j,none⟩) hpg u
  show Blk _ p 101 #[.slice _ s.ts.length _,.slice _ (R.nh.modify i _).length _,.int .i64 (s.deep:Int)]
  rw[List.length_modify];exact this
 ·have hlt:=h.zE8
  have hne:R.bt≠g:=by omega
  have e2:=World.cell?_of_block (w:=w) (w':=w.setCell ⟨g,i*5+j,none⟩ u) (a:=⟨R.bt,R.ot+k,none⟩) (zS w ⟨g,i*5+j,none⟩ _ R.bt hne);exact e2.trans (h.zM9 k hk)
 ·show s.nd.modify i f=_
  rw[zFo Prod.fst _ f (fun x=>rfl),←h.nodes]
 ·refine⟨rfl,rfl,rfl,by simp[World.setCell],fun b hb hM=>zS w ⟨g,i*5+j,none⟩ _ b (fun e=>hM (.inr (.inl (by rw[e]; exact hA)))),fun b hb=>?_⟩
  rcases hb with hb | hb
  ·exact .inl (.inl hb)
  ·exact .inl (.inr (zRF i f b hb))
theorem PS.zHF {w:World}{p B:Nat}{s:Ps}{R:xU}(h:PS w p B s R){i:Nat}(hi:i<s.nd.length):∃g,∃hi':i<R.nh.length,R.A=some ⟨g,0,none⟩∧g<w.heap.size∧g≠p:=by
 have hlen:=h.len
 have hi':i<R.nh.length:=by omega
 obtain⟨g,hA⟩:=h.zRs (by omega);refine⟨g,hi',hA,(jD h.ns.row hA).2,fun e=>?_⟩;obtain⟨cur,hc⟩:=xY h.ns.row hA;rw[e] at hc;exact Blk.differ h.blk hc (by decide) rfl
theorem PS.x1' {w:World}{p B:Nat}{s:Ps}{R:xU}(h:PS w p B s R){g:Nat}(hA:R.A=some ⟨g,0,none⟩):w.cell? ⟨p,1,none⟩=some (.slice (some ⟨g,0,none⟩) R.nh.length R.c):=by rw[←hA]; exact h.x1
theorem zEu {P:Program}{id:Nat}{Q':Exit→Act→World→Prop}{a:Act}{w:World}{l:List Oper}{ks:List Take}(X:List PanicEntry→World→Prop)(hm:P.follows .mixedOrders=true)(hB:YJ l.toArray l.length=true)(hT:zB1 l.toArray l.length=true)
  (hX:∀a',a'.defers=a.defers→∀c w,X c w→Q' (.panic c) a' w) (h:zA1 X P l.toArray Ext w (fun a' w'=>Q' .normal a' w') l ks a []):(Code.region id l.toArray true).wp P Q' a w:=by
 refine zGQ (R:=Ext) l.length ks hm hB hT (fun _ _ _=>Ext.trans) (Below.drew (Below.refl _ _)) hX ?_;rw[List.take_length,List.drop_length];exact h
theorem zCD (w:World)(p B:Nat)(s:Ps)(R:xU)(i:Nat)(h:PS w p B s R)(hi:i<s.nd.length) :
  Calls Tryz.prog 111 #[.pointer (some ⟨p,0,none⟩),.int .i64 (i:Int)] w (xM w p B R (.ok () (s.num i 1))):=by
 obtain⟨g,hi',hA,hgl,hgp⟩:=h.zHF hi;have c3:∃v,w.cell? ⟨g,i*5+3,none⟩=some (.int .i64 v):=⟨_,by rw[h.zDe i hi' hA 3 (by decide)]; rfl⟩;obtain⟨v,c3⟩:=c3;have z3:=h.zKk (i*5+3) hA;have x1:=h.x1' hA;have HF:Hid (OkP w p B R (s.num i 1) (w.setCell ⟨g,i*5+3,none⟩ (.int .i64 1))):=yG (h.put i hi' 3 (by decide) _ (fun n=>{ n with num:=1 }) (fun _=>rfl) rfl hA)
 have q0:(i:Int)<(R.nh.length:Int):=by omega
 clear h hA hi
 go_enter Tryz.func111,Tryz.ntmps111
 go_wp2
 go_end0;exact xM.ok HF.out
theorem JW (w:World)(p B:Nat)(s:Ps)(R:xU)(i:Nat)(h:PS w p B s R)(hi:i<s.nd.length) :
  Calls Tryz.prog 106 #[.pointer (some ⟨p,0,none⟩),.int .i64 (i:Int)] w (xM w p B R (jT i s)):=by
 obtain⟨g,hi',hA,hgl,hgp⟩:=h.zHF hi;have x1:=h.x1' hA;have q0:(0:Int)≤(i:Int):=Int.natCast_nonneg _
 have q1:(i:Int)<(R.nh.length:Int):=by omega
 have HP:=yG h;have HA:=yG hA;have hf3:=zAa;have hpl:=h.blk.lt;clear h hA hi
 by_cases hk:s.hd.kind=1
 ·have HK:=yG hk;have HN:Hid (jT i s=.ok () (s.adv.text i s.hd.text)):=yG (by unfold jT ofP; rw[if_pos hk]; rfl);clear hk
  go_enter Tryz.func106,Tryz.ntmps106
  go_wp2_with fail
  go_region_held3 (fun w'=>w'.cell? ⟨p,1,none⟩=some (.slice (some ⟨g,0,none⟩) R.nh.length R.c))
   (first
    | assumption
    | go_keep
    | exact y1s _)
   (first
    | (go_at_call 139; refine(zHK _ p B s R 1 HK (by decide) (HP.out.ext (by first | exact Ext.refl _ | exact Below.drew (Below.refl _ _)))).mono ?_; rintro e w1 ⟨rfl,ho⟩; simp only[ZZ]; have y1:=ho.1.x1' HA.out; have HO:=yG ho; have c2:w1.cell? ⟨g,i*5+2,none⟩=some (.string (xH R.nh[i].1.text)):=(ho.1.zDe i hi' HA.out 2 (by decide)); have z2:=ho.1.zKk (i*5+2) HA.out; have y1s:∀u,(w1.setCell ⟨g,i*5+2,none⟩ u).cell? ⟨p,1,none⟩=some (.slice (some ⟨g,0,none⟩) R.nh.length R.c):=fun u=>(World.cell?_of_block (w:=w1) (a:=⟨p,1,none⟩) (zS w1 ⟨g,i*5+2,none⟩ u p (fun e=>hgp e.symm))).trans y1; clear ho)
    | (fail))
  have HF:Hid (OkP w p B R (s.adv.text i s.hd.text) (w1.setCell ⟨g,i*5+2,none⟩ (.string (xH s.hd.text)))):=yG (OkP.trans ((xC.ext (Below.drew (Below.refl _ _))).trans HO.out.2) (HO.out.1.put i hi' 2 (by decide) _ (fun n=>{ n with text:=s.hd.text }) (fun _=>rfl) rfl HA.out))
  go_wp2_with fail
  go_end0;rw[HN.out];exact xM.ok HF.out
 ·have HK:Hid (s.hd.kind≠1):=yG hk;have HN:Hid (jT i s=.err 50 s.hd.at_):=yG (by unfold jT ofP; rw[if_neg hk]; rfl);clear hk
  go_enter Tryz.func106,Tryz.ntmps106
  go_wp2_with fail
  have HX:Hid (∀w',Ext w w'→∀e w2,VD w' p B R 50 s.hd.at_ e w2→xM w p B R (jT i s) e w2):=yG fun w' hx e w2 he=>by rw[HN.out]; exact VD.trans (xC.ext hx) he
  apply zEu (fun c w2=>xM w p B R (jT i s) (.panicked c) w2) (by kernel_rfl) (by kernel_rfl) (by kernel_rfl) (fun a' ha c w2 hx=>⟨ha,hx⟩);apply vZ (.pointer (some ⟨p,0,none⟩)) rfl rfl rfl
  ·intro w' hw' hH;clear hH hw';simp[vO,go_sem];exact Ext.refl _
  apply vZ (.pointer (some ⟨p,0,none⟩)) rfl rfl rfl
  ·intro w' hw' hH;clear hH hw';simp[vO,go_sem];exact Ext.refl _
  apply vZ (.pointer (some ⟨p,1,none⟩)) rfl rfl rfl
  ·intro w' hw' hH;clear hH hw';simp[vO,go_sem];exact Ext.refl _
  apply vZ (.slice (some ⟨g,0,none⟩) R.nh.length R.c) rfl rfl rfl
  ·intro w' hw' hH;have cc:=(hw'.cell (p:=⟨p,1,none⟩) hpl).trans x1;clear hH hw';simp[vO,go_sem,cc];exact Ext.refl _
  apply vZ (.int .i64 (i:Int)) rfl rfl rfl
  ·intro w' hw' hH;clear hH hw';simp[vO,go_sem];exact Ext.refl _
  apply vZ (.pointer (some ⟨p,0,none⟩)) rfl rfl rfl
  ·intro w' hw' hH;clear hH hw';simp[vO,go_sem];exact Ext.refl _
  simp only[Act.put,yD,yE,yF];apply VO (fun _ _=>False) (fun v w w' h hx=>h) rfl rfl rfl
  ·intro w' hw' hH;clear hH;simp[vO,go_sem];refine(zSE w' p B s R 1 HK (HP.out.ext hw')).mono ?_;intro e w2 he;exact⟨_,he.1,by have:=HX.out w' hw' e w2 he; rw[he.1] at this; exact this⟩
  intro v10;simp only[Act.put,yD,yE,yF];apply VO (fun _ _=>False) (fun v w w' h hx=>h) rfl rfl rfl
  ·intro w' hw' hH;exact(hH _ (List.mem_cons_self ..) ⟨_,rfl,by decide⟩).elim
  intro v11;simp only[Act.put,yD,yE,yF];apply vZ (.pointer (some ⟨g,i*5,none⟩)) rfl rfl rfl
  ·intro w' hw' hH;clear hH hw';simp[vO,go_sem,q1];exact Ext.refl _
  apply vZ (.pointer (some ⟨g,i*5+2,none⟩)) rfl rfl rfl
  ·intro w' hw' hH;clear hH hw';simp[vO,go_sem,q1];exact Ext.refl _
  simp only[Act.put,yD,yE,yF];apply VO (fun _ _=>False) (fun v w w' h hx=>h) rfl rfl rfl
  ·intro w' hw' hH;exact(hH _ (List.mem_cons_self ..) ⟨_,rfl,by decide⟩).elim
  intro v12;simp only[Act.put,yD,yE,yF];apply zGt;intro w' hw' hH;exact(hH _ (List.mem_cons_self ..)).elim
theorem zO7 (w:World)(p B:Nat)(s:Ps)(R:xU)(i gc:Nat)(h:PS w p B s R)(hi:i<s.nd.length)(hs:Safe w (xK p R) gc 99 #[.pointer (some ⟨p,0,none⟩)]) :
  Calls Tryz.prog 177 #[.int .i64 (i:Int),.pointer (some ⟨gc,0,none⟩)] w (xM w p B R (zCX i s)):=by
 obtain⟨g,hi',hA,hgl,hgp⟩:=h.zHF hi;have x1:=h.x1' hA;have q0:(0:Int)≤(i:Int):=Int.natCast_nonneg _
 have q1:(i:Int)<(R.nh.length:Int):=by omega
 have HP:=yG h;have HA:=yG hA;have hf4:=zDl;have hpl:=h.blk.lt;have hcl:=hs.1.lt;have cg:w.cell? ⟨gc,0,none⟩=some (.pointer (some ⟨p,0,none⟩)):=hs.1.cell 0;have HSF:=yG hs;have hcp:gc≠p:=fun e=>hs.2 (.inl e);have hcg:gc≠g:=fun e=>hs.2 (.inr (.inl (by rw[e]; exact hA)));clear h hA hi hs
 by_cases hk:s.hd.kind=2
 ·have HK:=yG hk;have HN:Hid (zCX i s=.ok () (s.adv.num i s.hd.n)):=yG (by unfold zCX ofP; rw[if_pos hk]; rfl);clear hk
  go_enter Tryz.func177,Tryz.ntmps177
  go_wp2_with fail
  go_region_held3 (fun w'=>w'.cell? ⟨p,1,none⟩=some (.slice (some ⟨g,0,none⟩) R.nh.length R.c)∧w'.cell? ⟨gc,0,none⟩=some (.pointer (some ⟨p,0,none⟩)))
   (first
    | exact⟨y1,yg⟩
    | go_keep
    | exact⟨y1s _,ygs _⟩)
   (first
    | (go_at_call 139; refine(zHK _ p B s R 2 HK (by decide) (HP.out.ext (by first | exact Ext.refl _ | exact Below.drew (Below.refl _ _)))).mono ?_; rintro e w1 ⟨rfl,ho⟩; simp only[ZZ]; have y1:=ho.1.x1' HA.out; have HO:=yG ho; have c2:w1.cell? ⟨g,i*5+3,none⟩=some (.int .i64 R.nh[i].1.num):=(ho.1.zDe i hi' HA.out 3 (by decide)); have z2:=ho.1.zKk (i*5+3) HA.out; have yg:w1.cell? ⟨gc,0,none⟩=some (.pointer (some ⟨p,0,none⟩)):=((HSF.out.xE (xC.ext (Below.drew (Below.refl _ _)))).xE ho.2).1.cell 0; have ygs:∀u,(w1.setCell ⟨g,i*5+3,none⟩ u).cell? ⟨gc,0,none⟩=some (.pointer (some ⟨p,0,none⟩)):=fun u=>(World.cell?_of_block (w:=w1) (a:=⟨gc,0,none⟩) (zS w1 ⟨g,i*5+3,none⟩ u gc hcg)).trans yg; have y1s:∀u,(w1.setCell ⟨g,i*5+3,none⟩ u).cell? ⟨p,1,none⟩=some (.slice (some ⟨g,0,none⟩) R.nh.length R.c):=fun u=>(World.cell?_of_block (w:=w1) (a:=⟨p,1,none⟩) (zS w1 ⟨g,i*5+3,none⟩ u p (fun e=>hgp e.symm))).trans y1; clear ho)
    | (fail))
  have HF:Hid (OkP w p B R (s.adv.num i s.hd.n) (w1.setCell ⟨g,i*5+3,none⟩ (.int .i64 s.hd.n))):=yG (OkP.trans ((xC.ext (Below.drew (Below.refl _ _))).trans HO.out.2) (HO.out.1.put i hi' 3 (by decide) _ (fun n=>{ n with num:=s.hd.n }) (fun _=>rfl) rfl HA.out))
  go_wp2_with fail
  go_end0;rw[HN.out];exact xM.ok HF.out
 ·have HK:Hid (s.hd.kind≠2):=yG hk;have HN:Hid (zCX i s=.err 50 s.hd.at_):=yG (by unfold zCX ofP; rw[if_neg hk]; rfl);clear hk
  go_enter Tryz.func177,Tryz.ntmps177
  go_wp2_with fail
  have HX:Hid (∀w',Ext w w'→∀e w2,VD w' p B R 50 s.hd.at_ e w2→xM w p B R (zCX i s) e w2):=yG fun w' hx e w2 he=>by rw[HN.out]; exact VD.trans (xC.ext hx) he
  apply zEu (fun c w2=>xM w p B R (zCX i s) (.panicked c) w2) (by kernel_rfl) (by kernel_rfl) (by kernel_rfl) (fun a' ha c w2 hx=>⟨ha,hx⟩);apply vZ (.pointer (some ⟨p,0,none⟩)) rfl rfl rfl
  ·intro w' hw' hH;have cc:=(hw'.cell (p:=⟨gc,0,none⟩) hcl).trans cg;clear hH hw';simp[vO,go_sem,cc];exact Ext.refl _
  apply vZ (.pointer (some ⟨p,0,none⟩)) rfl rfl rfl
  ·intro w' hw' hH;clear hH hw';simp[vO,go_sem];exact Ext.refl _
  apply vZ (.pointer (some ⟨p,1,none⟩)) rfl rfl rfl
  ·intro w' hw' hH;clear hH hw';simp[vO,go_sem];exact Ext.refl _
  apply vZ (.slice (some ⟨g,0,none⟩) R.nh.length R.c) rfl rfl rfl
  ·intro w' hw' hH;have cc:=(hw'.cell (p:=⟨p,1,none⟩) hpl).trans x1;clear hH hw';simp[vO,go_sem,cc];exact Ext.refl _
  apply vZ (.int .i64 (i:Int)) rfl rfl rfl
  ·intro w' hw' hH;clear hH hw';simp[vO,go_sem];exact Ext.refl _
  apply vZ (.pointer (some ⟨p,0,none⟩)) rfl rfl rfl
  ·intro w' hw' hH;have cc:=(hw'.cell (p:=⟨gc,0,none⟩) hcl).trans cg;clear hH hw';simp[vO,go_sem,cc];exact Ext.refl _
  simp only[Act.put,yD,yE,yF];apply VO (fun _ _=>False) (fun v w w' h hx=>h) rfl rfl rfl
  ·intro w' hw' hH;clear hH;simp[vO,go_sem];refine(zSE w' p B s R 2 HK (HP.out.ext hw')).mono ?_;intro e w2 he;exact⟨_,he.1,by have:=HX.out w' hw' e w2 he; rw[he.1] at this; exact this⟩
  intro v10;simp only[Act.put,yD,yE,yF];apply VO (fun _ _=>False) (fun v w w' h hx=>h) rfl rfl rfl
  ·intro w' hw' hH;exact(hH _ (List.mem_cons_self ..) ⟨_,rfl,by decide⟩).elim
  intro v11;simp only[Act.put,yD,yE,yF];apply vZ (.pointer (some ⟨g,i*5,none⟩)) rfl rfl rfl
  ·intro w' hw' hH;clear hH hw';simp[vO,go_sem,q1];exact Ext.refl _
  apply vZ (.pointer (some ⟨g,i*5+3,none⟩)) rfl rfl rfl
  ·intro w' hw' hH;clear hH hw';simp[vO,go_sem,q1];exact Ext.refl _
  simp only[Act.put,yD,yE,yF];apply VO (fun _ _=>False) (fun v w w' h hx=>h) rfl rfl rfl
  ·intro w' hw' hH;exact(hH _ (List.mem_cons_self ..) ⟨_,rfl,by decide⟩).elim
  intro v12;simp only[Act.put,yD,yE,yF];apply zGt;intro w' hw' hH;exact(hH _ (List.mem_cons_self ..)).elim
theorem PS.ZX {w:World}{p B:Nat}{s:Ps}{R:xU}(h:PS w p B s R){b:Nat}(hb:xK p R b):b<w.heap.size:=by
 rcases hb with rfl | hb
 ·exact h.blk.lt
 ·exact(h.ns.ZX hb).2
theorem PS.fresh {w:World}{p B:Nat}{s:Ps}{R:xU}(h:PS w p B s R)(t:TypeId)(cs:Array Value):Safe (w.alloc (.cells cs t)) (xK p R) w.heap.size t cs:=⟨Blk.new _ _ _,fun hb=>by have:=h.ZX hb; omega⟩
theorem Safe.row {w:World}{M:Nat→Prop}{g:Nat}{t:TypeId}{cs:Array Value}(h:Safe w M g t cs):XH w M (some ⟨g,0,none⟩) cs.toList:=
 .inr ⟨g,0,rfl,h.1.lt,h.2,fun k hk=>by rw[Nat.zero_add,h.1.cell k]; simp⟩
theorem zKo (r:Res Unit):(r.bind fun _ s=>.ok () s)=r:=by cases r <;> rfl
theorem zCs (f:KF)(s:Ps):zC6 [f] s=f.m s:=zKo _
theorem zDX.unit {w:World}{p B:Nat}{R:xU}{v:Value}{r:Res Unit}{e:Ending}{w':World}(h:zDX w p B R v r e w'):(∃s',r=.ok () s'∧e=.returned v∧OkP w p B R s' w')∨(∃er a,r=.err er a∧VD w p B R er a e w'):=by
 cases r with
 | ok a s'=>exact .inl ⟨s',rfl,h.1,h.2⟩
 | err er a=>exact .inr ⟨er,a,rfl,h⟩
theorem xM.unit {w:World}{p B:Nat}{R:xU}{r:Res Unit}{e:Ending}{w':World}(h:xM w p B R r e w'):(∃s',r=.ok () s'∧e=.returned (.tuple #[])∧OkP w p B R s' w')∨(∃er a,r=.err er a∧VD w p B R er a e w'):=by
 cases r with
 | ok a s'=>exact .inl ⟨s',rfl,h.1,h.2⟩
 | err er a=>exact .inr ⟨er,a,rfl,h⟩
theorem hmf (fn:Fn)(first cap:Array Value)(w:World):(Instr.makeFunc fn first cap).run Tryz.prog w=.ok (.func fn first cap) w:=rfl
theorem zB9 (w:World)(p B:Nat)(s:Ps)(R:xU)(i:Nat)(h:PS w p B s R)(hG:Good s)(hi:i<s.nd.length)(hbig:s.nd.length≤1000000) :
  Calls Tryz.prog 108 #[.pointer (some ⟨p,0,none⟩),.int .i64 (i:Int)] w (xM w p B R (zAH i s)):=by
 have HP:=yG h;have HG:=yG hG;have HF:=yG (h.fresh 119 #[.func (.func 106) #[.pointer (some ⟨p,0,none⟩)] #[]]);have HX:Hid (Ext w (w.alloc (.cells #[.func (.func 106) #[.pointer (some ⟨p,0,none⟩)] #[]] 119))):=yG (Ext.alloc _ _);have HI:=yG hi;have hm:=hmf;clear h hG hi
 go_enter Tryz.func108,Tryz.ntmps108
 go_wp2_with fail
 refine(zCi _ p B s R i 5 _ [⟨106,#[.pointer (some ⟨p,0,none⟩)],#[],jT s.nd.length⟩] 1 (HP.out.ext HX.out) HI.out hbig (by simp) HG.out HF.out.row (fun f hf=>by
  rw[List.mem_singleton.1 hf]
  exact enters_of Tryz.func106 (by kernel_rfl) rfl) (fun k hk s' wr R' h1 h2 h3=>by
  obtain rfl:k=0:=by simp at hk; omega
  injection h1 with _ h1;subst h1
  exact JW wr p B _ R' s.nd.length h3 (by rw[jU]; omega))).mono ?_
 intro e w1 hpost;rw[zCs] at hpost
 rcases hpost.unit with ⟨s',hr,rfl,ho⟩ | ⟨er,a,hr,he⟩
 ·have HR:Hid (zAH i s=.ok () s'):=yG hr;have HO:=yG (OkP.trans (xC.ext HX.out) ho);clear hpost hr ho
  go_wp2_with fail
  go_end0;rw[HR.out];exact xM.ok HO.out
 ·have HE:=yG (VD.trans (xC.ext HX.out) he);have HR:Hid (zAH i s=.err er a):=yG hr;obtain⟨rfl,_⟩:=he;refine xD (P:=Tryz.prog) (fn:=Tryz.f108) rfl ?_;rw[HR.out];exact HE.out
theorem zGY (w:World)(p B:Nat)(s:Ps)(R:xU)(i:Nat)(h:PS w p B s R)(hG:Good s)(hi:i<s.nd.length)(hbig:s.nd.length≤1000000) :
  Calls Tryz.prog 173 #[.pointer (some ⟨p,0,none⟩),.int .i64 (i:Int)] w (xM w p B R (zCx i s)):=by
 have HP:=yG h;have HG:=yG hG;have hb:=h.fresh 99 #[.pointer (some ⟨p,0,none⟩)];have h1:=h.ext (Ext.alloc w (.cells #[.pointer (some ⟨p,0,none⟩)] 99));have hf:=h1.fresh 119 #[.func (.func 177) #[] #[.pointer (some ⟨w.heap.size,0,none⟩)]];have HB:=yG (hb.xE (xC.ext (M:=xK p R) (Ext.alloc (w.alloc (.cells #[.pointer (some ⟨p,0,none⟩)] 99)) (.cells #[.func (.func 177) #[] #[.pointer (some ⟨w.heap.size,0,none⟩)]] 119))));rw[yT] at hf;have HF:=yG hf;have HX:Hid (Ext w ((w.alloc (.cells #[.pointer (some ⟨p,0,none⟩)] 99)).alloc (.cells #[.func (.func 177) #[] #[.pointer (some ⟨w.heap.size,0,none⟩)]] 119))):=yG ((Ext.alloc _ _).trans (Ext.alloc _ _));have HI:=yG hi;have hm:=hmf;clear h hG hi hb h1 hf
 go_enter Tryz.func173,Tryz.ntmps173
 go_wp2_with fail
 refine(zCi _ p B s R i 21 _ [⟨177,#[],#[.pointer (some ⟨w.heap.size,0,none⟩)],zCX s.nd.length⟩] 1 (HP.out.ext HX.out) HI.out hbig (by simp) HG.out HF.out.row (fun f hf=>by
  rw[List.mem_singleton.1 hf]
  exact enters_of Tryz.func177 (by kernel_rfl) rfl) (fun k hk s' wr R' h1 h2 h3=>by
  obtain rfl:k=0:=by simp at hk; omega
  injection h1 with _ h1;subst h1
  exact zO7 wr p B _ R' s.nd.length w.heap.size h3 (by rw[jU]; omega) (HB.out.xE h2))).mono ?_
 intro e w1 hpost;rw[zCs] at hpost
 rcases hpost.unit with ⟨s',hr,rfl,ho⟩ | ⟨er,a,hr,he⟩
 ·have HR:Hid (zCx i s=.ok () s'):=yG hr;have HO:=yG (OkP.trans (xC.ext HX.out) ho);clear hpost hr ho
  go_wp2_with fail
  go_end0;rw[HR.out];exact xM.ok HO.out
 ·have HE:=yG (VD.trans (xC.ext HX.out) he);have HR:Hid (zCx i s=.err er a):=yG hr;obtain⟨rfl,_⟩:=he;refine xD (P:=Tryz.prog) (fn:=Tryz.f173) rfl ?_;rw[HR.out];exact HE.out
def JM (p:Nat)(w:World):Nat:=match w.cell? ⟨p,0,none⟩ with
 | some (.slice _ n _)=>n
 | _=>0
theorem PS.JM {w:World}{p B:Nat}{s:Ps}{R:xU}(h:PS w p B s R):JM p w=s.ts.length:=by unfold Proofs.YtbadjmmjbpeocaaGreat.JM; rw[h.x0]
theorem zSO (one:Pm Unit)(f:Nat)(s:Ps)(h:isP [44] s=false):zBF one (f+1) s=.ok () s:=by unfold zBF; rw[h]; rfl
theorem zQO (one:Pm Unit)(f:Nat)(s:Ps)(h:isP [44] s=true):zBF one (f+1) s=(one s.adv).bind fun _ s=>zBF one f s:=by rw[zBF,if_pos h]
theorem zGN (w:World)(p B:Nat)(s:Ps)(R:xU)(i:Nat)(f:KF)(h:PS w p B s R)(hG:Good s)(he:∀args w,(callFunc f.K args).run Tryz.prog w=.ok (.enter f.K args) w)(hfine:zA5 f.m)
  (hone:∀(wr:World) (s':Ps) (R':xU),ZJ s s'→xC w (xK p R) wr (xK p R')→PS wr p B s' R'→Calls Tryz.prog f.K (f.first.push (.int .i64 (i:Int))++f.cap) wr (xM wr p B R' (f.m s'))) :
  Calls Tryz.prog 107 #[.pointer (some ⟨p,0,none⟩),.int .i64 (i:Int),.func (.func f.K) f.first f.cap] w (xM w p B R (zAc f.m s)):=by
 have HP:=yG h;have HG:=yG hG;have HO:=yG hone;have HFI:=yG hfine;obtain⟨K,first,capt,m⟩:=f
 simp only at he HO HFI ⊢
 have HE:=yG he;clear h hG hone hfine he;have hfm:=HFI.out s HG.out
 cases hr:m s with
 | err er a=>
  have HC:Hid (xM w p B R (m s)=xM w p B R (.err er a)):=yG (by rw[hr]);have HL:Hid (zAc m s=.err er a):=yG (by unfold zAc; rw[hr]; rfl);clear hr hfm;have he:=HE.out
  go_enter Tryz.func107,Tryz.ntmps107
  go_wp2_with fail
  refine(HO.out w s R (ZJ.refl HG.out) (xC.refl _ _) HP.out).mono ?_;rw[HC.out];rintro e w1 ⟨rfl,ho⟩;refine xD (P:=Tryz.prog) (fn:=Tryz.f107) rfl ?_;rw[HL.out];exact⟨rfl,ho⟩
 | ok a s1=>
  rw[hr] at hfm;have HF1:Hid (ZJ s s1):=yG hfm;have HC:Hid (xM w p B R (m s)=xM w p B R (.ok a s1)):=yG (by rw[hr]);have HL:Hid (zAc m s=zBF m (s1.ts.length+1) s1):=yG (by unfold zAc; rw[hr]; rfl);clear hr hfm;have he:=HE.out
  go_enter Tryz.func107,Tryz.ntmps107
  go_wp2_with fail
  refine(HO.out w s R (ZJ.refl HG.out) (xC.refl _ _) HP.out).mono ?_;rw[HC.out];rintro e w1 ⟨rfl,ho⟩;have HO1:=yG ho;clear ho he
  go_wp2_with fail
  go_loopw [] (fun wr=>∃(s':Ps) (n:Nat),Hid (ZJ s s')∧Hid (s'.ts.length<n)∧Hid (zAc m s=zBF m n s')∧Hid (OkP w p B R s' wr)) (fun wr=>JM p wr)
  case atStart=>exact⟨s1,s1.ts.length+1,HF1,yG (Nat.lt_succ_self _),HL,HO1⟩
  case round=>
   obtain⟨s',n,HLT,HN,HEQ,HOK⟩:=hrel;obtain⟨wa,rfl⟩:∃wa:World,wa=wr:=⟨_,rfl⟩;obtain⟨R',hps,hmv⟩:=HOK.out;have HPS:=yG hps;have HMV:=yG hmv;obtain⟨n',rfl⟩:∃n',n=n'+1:=⟨n-1,by have:=HN.out; omega⟩;clear hps hmv
   cases hi:isP [44] s' with
   | false=>
    have HI:=yG hi;have HR:Hid (zAc m s=.ok () s'):=yG (by rw[HEQ.out,zSO m n' s' hi]);clear hi
    go_wp2_with fail
    refine(zAO wa p B s' R' [44] HI HPS.out).mono ?_;rintro e w2 ⟨rfl,hx⟩;have HOF:=yG (OkP.trans HMV.out (HPS.out.okp hx));clear hx
    go_wp2_with fail
    go_end0;rw[HR.out];exact xM.ok HOF.out
   | true=>
    have HI:=yG hi;have hk4:=(vN hi).1;have hla:=VF HLT.out.xR hk4;have HLA:=yG (HLT.out.trans hla)
    have HLN:Hid (s'.adv.ts.length<s'.ts.length∧s'.adv.ts.length<n'):=yG (by
     have h1:=jX (s:=s');have h2:=HLT.out.xR.pos;have h3:=HN.out
     omega)
    have HQ:Hid (zAc m s=(m s'.adv).bind fun _ s=>zBF m n' s):=yG (by rw[HEQ.out,zQO m n' s' hi]);have hfm:=HFI.out s'.adv hla.xR;clear hi hk4 hla
    cases hr:m s'.adv with
    | err er a=>
     have HC:Hid (m s'.adv=.err er a):=yG hr;clear hr hfm;have he:=HE.out
     go_wp2_with fail
     refine(VH wa p B s' R' [44] HI HPS.out).mono ?_;rintro e w2 ⟨rfl,ho⟩;obtain⟨R2,hps2,hmv2⟩:=ho;have HPS2:=yG hps2;have HMV2:=yG (HMV.out.trans hmv2);clear hps2 hmv2
     go_wp2_with fail
     refine(HO.out w2 s'.adv R2 HLA.out HMV2.out HPS2.out).mono ?_;intro e w3 hp;rw[HC.out] at hp;have HP3:Hid (xM w p B R (zAc m s) (jW er) w3):=yG (by rw[HQ.out,HC.out]; obtain⟨_,h⟩:=hp; exact VD.trans HMV2.out ⟨rfl,h⟩);obtain⟨rfl,_⟩:=hp;exact xD (P:=Tryz.prog) (fn:=Tryz.f107) rfl HP3.out
    | ok a s2=>
     rw[hr] at hfm;have HF2:Hid (ZJ s'.adv s2):=yG hfm;have HC:Hid (m s'.adv=.ok a s2):=yG hr;clear hr hfm;have he:=HE.out
     go_wp2_with fail
     refine(VH wa p B s' R' [44] HI HPS.out).mono ?_;rintro e w2 ⟨rfl,ho⟩;obtain⟨R2,hps2,hmv2⟩:=ho;have HPS2:=yG hps2;have HMV2:=yG (HMV.out.trans hmv2);clear hps2 hmv2
     go_wp2_with fail
     refine(HO.out w2 s'.adv R2 HLA.out HMV2.out HPS2.out).mono ?_;intro e w3 hp;rw[HC.out] at hp;obtain⟨rfl,ho3⟩:=hp;have HO3:=yG (OkP.trans HMV2.out ho3);have HLT2:=yG (HLA.out.trans HF2.out);have HN2:Hid (s2.ts.length<n'):=yG (by have:=HF2.out.ts; have:=HLN.out; omega);have HEQ2:Hid (zAc m s=zBF m n' s2):=yG (by rw[HQ.out,HC.out]; rfl)
     have HLL:Hid (JM p w3<JM p wa):=yG (by
      obtain⟨R3,hps3,_⟩:=HO3.out;rw[hps3.JM,HPS.out.JM]
      have:=HF2.out.ts
      have:=HLN.out
      omega)
     clear ho3 he
     go_wp2_with fail
     go_roundw
     case rel=>exact⟨s2,n',HLT2,HN2,HEQ2,HO3⟩
     case measure=>exact HLL.out
end Go.Proofs.YtbadjmmjbpeocaaGreat
