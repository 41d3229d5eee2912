/- The program's kid: a node as a kid of another one. (and what follows of it). The conditions stand at each lemma. -/
import Derived.Test.YtioffpjajhalaaaGreatDoorKaa
import Derived.Test.YtioffpjajhalaaaGreatDoorKai
set_option linter.unusedVariables false
set_option linter.unusedSimpArgs false
set_option maxRecDepth 100000
set_option maxHeartbeats 16000000
namespace Go.Proofs.YtioffpjajhalaaaGreatDoor
open Go Go.RowKit
theorem zEk.trans {w w1 w2:World}{p B:Nat}{R R1:vC}{v:Value}{r:Res Unit}{e:Ending}(h:yZ w (xO p R) w1 (xO p R1))(k:zEk w1 p B R1 v r e w2):zEk w p B R v r e w2:=by
 cases r with
 | ok a s=>exact⟨k.1,OkP.trans h k.2⟩
 | err er a=>exact zAa.trans h k
theorem zCK {α β:Type}(f:α→β)(g:α→α)(k:β→β)(h:∀x,f (g x)=k (f x)):∀(l:List α) (i:Nat),(l.modify i g).map f=(l.map f).modify i k
 | [],i=>by simp
 | x::l,0=>by simp[h]
 | x::l,i+1=>by simp[zCK f g k h l i]
theorem PS.kid {W w1:World}{p B:Nat}{s:Ps}{R:vC}(h:PS W p B s R)(i:Nat)(hi:i<R.nh.length){g gk cap:Nat}(hA:R.A=some ⟨g,0,none⟩)
  (ho:w1.ownsRow B 3 1 (.slice (some ⟨gk,0,none⟩) (R.nh[i].1.kids.length+1) cap) (R.nh[i].1.kids.length+1) (ints R.nh[i].1.kids++[Value.int .i64 (R.nh.length:Int)])) (hg:W.grownBy w1 (Value.slice R.nh[i].2.1 R.nh[i].1.kids.length R.nh[i].2.2).ownBlock)
  (hf:(Value.slice R.nh[i].2.1 R.nh[i].1.kids.length R.nh[i].2.2).ownBlock=some gk∨W.heap.size≤gk) :
  OkP W p B R (s.kid i) (w1.setCell ⟨g,i*5+4,none⟩ (.slice (some ⟨gk,0,none⟩) (R.nh[i].1.kids.length+1) cap)):=by
 have AA:=h.len;have AF:=h.ns.kid (by decide) i hi R.nh.length hA ho hg hf
 have AE:(Value.slice R.nh[i].2.1 R.nh[i].1.kids.length R.nh[i].2.2).ownBlock≠some p:=fun e=>by
  obtain⟨AC,hc⟩:=vZ (h.ns.kids _ (yM hi)) (vH (h.ns.kids _ (yM hi)) e);exact Blk.differ h.blk hc (by decide) rfl
 have AD:p≠g:=fun e=>by
  obtain⟨AC,hc⟩:=vZ h.ns.row hA;rw[←e] at hc;exact Blk.differ h.blk hc (by decide) rfl
 have AJ:=(YP h.ns.row hA).1;have AI:=(YP h.ns.row hA).2;refine⟨{ R with nh:=R.nh.modify i fun x=>({ x.1 with kids:=x.1.kids++[R.nh.length] },(some ⟨gk,0,none⟩,cap)) },⟨?_,fun k hk=>?_,h.zJ3,h.XZ,?_,AF,h.pB,⟨h.yY.last,h.yY.deep⟩⟩,?_⟩
 ·have AB:Blk w1 p 75 _:=(hg.block p h.blk.lt (fun e=>AE e.symm)).trans h.blk
  have:=AB.far (p:=⟨g,i*5+4,none⟩) AD (.slice (some ⟨gk,0,none⟩) (R.nh[i].1.kids.length+1) cap)
  show Blk _ p 75 #[.slice _ s.ts.length _,.slice _ (R.nh.modify i _).length _,.int .i64 (s.deep:Int)]
  rw[List.length_modify];exact this
 ·have AK:=h.XZ
  have AG:R.bt≠g:=by omega
  have e1:w1.heap[R.bt]?=W.heap[R.bt]?:=hg.block R.bt h.btl fun e=>by
   have:=(YP (h.ns.kids _ (yM hi)) (vH (h.ns.kids _ (yM hi)) e.symm)).1
   omega
  have e2:=World.cell?_of_block (w:=W) (w':=w1.setCell ⟨g,i*5+4,none⟩ (.slice (some ⟨gk,0,none⟩) (R.nh[i].1.kids.length+1) cap)) (a:=⟨R.bt,R.ot+k,none⟩) ((zQ w1 ⟨g,i*5+4,none⟩ _ R.bt AG).trans e1);exact e2.trans (h.zBX k hk)
 ·show(s.kid i).nd=_
  rw[zCK Prod.fst _ (fun n:Nd=>{ n with kids:=n.kids++[R.nh.length] }) (fun x=>rfl),←h.nodes,←AA]
  rfl
 ·refine⟨hg.os,hg.tape,hg.output,by have:=hg.size; simp[World.setCell]; omega,fun b hb hM=>?_,fun b hb=>?_⟩
  ·have AH:b≠g:=fun e=>hM (.inr (.inl (by rw[e]; exact hA)));rw[zQ w1 ⟨g,i*5+4,none⟩ _ b AH];exact hg.block b hb fun e=>hM (.inr (.inr (List.mem_map.2 ⟨_,yM hi,vH (h.ns.kids _ (yM hi)) e.symm⟩)))
  ·rcases hb with hb | hb
   ·exact .inl (.inl hb)
   ·rcases zMI h.ns hi (fun n=>{ n with kids:=n.kids++[R.nh.length] }) hf b hb with h1 | h1
    ·exact .inl (.inr h1)
    ·exact .inr h1
theorem PS.jP {w:World}{p B:Nat}{s:Ps}{R:vC}(h:PS w p B s R)(i:Nat)(hi:i<R.nh.length){g:Nat}(hA:R.A=some ⟨g,0,none⟩)(j:Nat)(hj:j<5):w.cell? ⟨g,i*5+j,none⟩=(jL R.nh[i])[j]?:=by
 have hr:=h.ns.row;rw[hA] at hr;rw[hr.cellAt (i*5+j) (by omega)];exact zMt R.nh i hi j hj
theorem PS.JZ {w:World}{p B:Nat}{s:Ps}{R:vC}(h:PS w p B s R)(k:Nat){g:Nat}(hA:R.A=some ⟨g,0,none⟩):w.frozen? ⟨g,k,none⟩=false:=by
 obtain⟨AA,hc⟩:=vZ h.ns.row hA;exact hc.frozen k
theorem PS.zKI {w:World}{p B:Nat}{s:Ps}{R:vC}(h:PS w p B s R)(hn:0<R.nh.length):∃g,R.A=some ⟨g,0,none⟩:=by
 rcases zCJ h.ns.row with e | e
 ·have hr:=h.ns.row;rw[e] at hr
  rcases hr.2 with ⟨_,h0⟩ | ⟨g,_,_,hv,_⟩
  ·omega
  ·cases hv
 ·exact e
theorem zCN (w:World)(p B:Nat)(s:Ps)(R:vC)(i kind:Nat)(F:Option Addr)(l:List KF)(fc:Nat)(h:PS w p B s R)(hi:i<s.nd.length)(hbig:s.nd.length≤1000000)(hl:l.length≤10)(hG:Good s)
  (hF:zF7 w (xO p R) F (l.map KF.val)) (he:∀f ∈ l,∀args w,(callFunc f.K args).run Tryz.prog w=.ok (.enter f.K args) w)
  (hd:∀(k:Nat) (hk:k<l.length) (s':Ps) (wr:World) (R':vC),zDs (l.take k) (s.yX i kind)=.ok () s'→yZ w (xO p R) wr (xO p R')→PS wr p B s' R'→Calls Tryz.prog l[k].K (l[k].first++#[.int .i64 (s.nd.length:Int)]++l[k].cap) wr (xQ wr p B R' (l[k].m s'))) :
  Calls Tryz.prog 127 #[.pointer (some ⟨p,0,none⟩),.int .i64 (i:Int),.int .u8 (kind:Int),.slice F l.length fc] w (zEk w p B R (.int .i64 (s.nd.length:Int)) (zDs l (s.yX i kind))):=by
 obtain⟨i0,Ab,Ao,Ah,Ae⟩:=info_parts zE3;have AF:=h.len
 have AH:i<R.nh.length:=by omega
 obtain⟨g,hA⟩:=h.zKI (by omega);obtain⟨x,AM⟩:∃x,R.nh[i]=x:=⟨_,rfl⟩;obtain⟨⟨nk,np,nt,nn,kk⟩,kA,kc⟩:=x
 have c4:w.cell? ⟨g,i*5+4,none⟩=some (.slice kA kk.length kc):=by rw[h.jP i AH hA 4 (by decide),AM]; rfl
 have AK:=h.ns.zUe _ (yM AH);have AC:=h.ns.kids _ (yM AH);rw[AM] at AK AC
 simp only at AK AC
 obtain⟨o,HO⟩:∃o,Hid ((Value.slice kA kk.length kc).ownBlock=o):=⟨_,yE rfl⟩
 have AS:Hid (some p≠o):=yE fun e=>by
  rw[←HO.out] at e;obtain⟨Af,hc⟩:=vZ AC (vH AC e.symm);exact Blk.differ h.blk hc (by decide) rfl
 have AX:Hid (some g≠o):=yE fun e=>by
  rw[←HO.out] at e;obtain⟨Af,hc⟩:=vZ AC (vH AC e.symm);obtain⟨Ad,Ag⟩:=vZ h.ns.row hA;exact Blk.differ Ag hc (by decide) rfl
 have Ac:Hid (∀g,o=some g→g<w.heap.size):=yE fun g e=>by
  rw[←HO.out] at e;exact(YP AC (vH AC e)).2
 have AW:=(YP h.ns.row hA).2;have AL:=h.blk.lt;have Al:Hid (B≤w.heap.size):=yE (Nat.le_trans h.pB (zS AL));have AG:=yE AM;have HP:=yE h;have HA:=yE hA;have AZ:=yE AK;have Aa:=yE hF;have HE:=yE he;have HD:=yE hd;have Ai:=yE AF
 have AV:Hid (kk.length≤1000000):=yE (by
  have:=hG.few (R.nh[i].1) (by rw[h.nodes]; exact List.mem_map.2 ⟨_,yM AH,rfl⟩)
  rw[AG.out] at this
  simp only at this
  omega)
 rw[AF] at hbig;obtain⟨Fs,AJ⟩:∃Fs,Hid (FsH B 3 (.slice kA kk.length kc) w.heap.size kk.length (ints kk) [Value.int .i64 (R.nh.length:Int)]=Fs):=⟨_,yE rfl⟩
 have hE:∀F ∈ Fs,∀v w w',F v w→Ext w w'→F v w':=by rw[←AJ.out]; exact zI8 _ _ _ _ _ _ _
 have m0:(fun (_:Value) w=>zAK B 3 kk.length (ints kk) (.slice kA kk.length kc) w) ∈ Fs:=by rw[←AJ.out]; simp only[FsH,zR,true_or]
 have m1:zDq 3 w.heap.size #[Value.int .i64 (R.nh.length:Int)] ∈ Fs:=by rw[←AJ.out]; simp only[FsH,zR,true_or,or_true]
 have m2:zNv B 3 o w.heap.size (kk.length+1) (ints kk++[Value.int .i64 (R.nh.length:Int)]) ∈ Fs:=by rw[←AJ.out,←HO.out]; simp only[FsH,zR,true_or,or_true]
 have AY:=yE hE;have M0:=yE m0;have M1:=yE m1;have M2:=yE m2
 have q0:(i:Int)<(R.nh.length:Int):=by omega
 have C4:=yE c4;clear h hF he hd AF hE m0 m1 m2 AM AK AC hA c4 hG hi
 go_enter Tryz.func127,Tryz.ntmps127
 go_upto_region 1 with fail
 apply zAO o Fs 22 (by kernel_rfl) (by kernel_rfl) (by kernel_rfl) AY.out;dsimp only[List.take_succ_cons,List.take_zero,List.drop_succ_cons,List.drop_zero];apply sG vK.refl (.pointer (some ⟨p,0,none⟩));apply sG vK.refl (.pointer (some ⟨p,0,none⟩));apply sG vK.refl (.pointer (some ⟨p,1,none⟩));apply xN (.slice (some ⟨g,0,none⟩) R.nh.length R.c) rfl rfl rfl
 ·intro w' AA hH;have hR:=vK.refl (o:=o) (Fs:=Fs) w';have cc:=Blk.cell ((AA.1.block p AL AS.out).trans HP.out.blk) 1;rw[HA.out] at cc;clear hH AA;simp[xH,go_sem,cc,q0];exact hR
 apply sG vK.refl (.int .i64 (i:Int));apply sG vK.refl (.pointer (some ⟨p,0,none⟩));apply sG vK.refl (.pointer (some ⟨p,0,none⟩));apply sG vK.refl (.pointer (some ⟨p,1,none⟩));apply xN (.slice (some ⟨g,0,none⟩) R.nh.length R.c) rfl rfl rfl
 ·intro w' AA hH;have hR:=vK.refl (o:=o) (Fs:=Fs) w';have cc:=Blk.cell ((AA.1.block p AL AS.out).trans HP.out.blk) 1;rw[HA.out] at cc;clear hH AA;simp[xH,go_sem,cc,q0];exact hR
 apply sG vK.refl (.int .i64 (i:Int));apply xN (.pointer (some ⟨g,i*5,none⟩)) rfl rfl rfl
 ·intro w' AA hH;clear hH AA;simp[xH,go_sem,q0];exact vK.refl _
 apply xN (.pointer (some ⟨g,i*5+4,none⟩)) rfl rfl rfl
 ·intro w' AA hH;clear hH AA;simp[xH,go_sem,q0];exact vK.refl _
 (try simp only[Act.put,yB,yC,yD]);apply xN (.slice kA kk.length kc) rfl rfl rfl
 ·intro w' AA hH;have hR:=vK.refl (o:=o) (Fs:=Fs) w';have cc:=(World.cell?_of_block (w:=w) (a:=⟨g,i*5+4,none⟩) (AA.1.block g AW AX.out)).trans C4.out;clear hH AA;simp[xH,go_sem,cc,q0];exact hR
 apply sG vK.refl (.pointer (some ⟨p,0,none⟩));apply sG vK.refl (.pointer (some ⟨p,0,none⟩));apply sG vK.refl (.pointer (some ⟨p,1,none⟩));apply xN (.slice (some ⟨g,0,none⟩) R.nh.length R.c) rfl rfl rfl
 ·intro w' AA hH;have hR:=vK.refl (o:=o) (Fs:=Fs) w';have cc:=Blk.cell ((AA.1.block p AL AS.out).trans HP.out.blk) 1;rw[HA.out] at cc;clear hH AA;simp[xH,go_sem,cc,q0];exact hR
 (try simp only[Act.put,yB,yC,yD]);apply sG vK.refl (.int .i64 (R.nh.length:Int))
 apply ZK (zDq 3 w.heap.size #[Value.int .i64 (R.nh.length:Int)]) (fun v w w' h hx=>hx.2 _ M1.out v h) rfl rfl rfl
 ·intro w' AA hH;have hz:=AA.1.size;clear hH AA;simp[xH,go_sem];exact⟨⟨_,rfl,Blk.new _ _ _,hz⟩,vK.ext AY.out (Ext.alloc _ _)⟩
 intro Ak;(try simp only[Act.put,yB,yC,yD]);apply ZK (zNv B 3 o w.heap.size (kk.length+1) (ints kk++[Value.int .i64 (R.nh.length:Int)])) (fun v w w' h hx=>hx.2 _ M2.out v h) rfl rfl rfl
 ·intro w' AA hH;have AQ:=hH _ (List.mem_cons_self ..) ⟨_,rfl,by decide⟩;have AT:=AA.2 _ M0.out undef AZ.out;have hz:=AA.1.size;clear hH AA;rw[←AJ.out,←HO.out];exact zED B w.heap.size (.tmp 21) (.tmp 27) 32 rfl 3 i0 _ 8 Tryz.underlying32 Ab Ao Ah Ae rfl (.slice kA kk.length kc) kk.length (ints kk) [Value.int .i64 (R.nh.length:Int)] (by kernel_rfl) AT Ak (by kernel_rfl) AQ rfl (by simp[Value.oneCell']) (by unfold maxLen; have:=AV.out; omega) (by have:=AV.out; omega) (Nat.le_trans Al.out hz) hz (fun g e=>Ac.out g (by rw[←HO.out]; exact e))
 intro Ap;(try simp only[Act.put,yB,yC,yD]);apply xN (.pointer (some ⟨g,i*5,none⟩)) rfl rfl rfl
 ·intro w' AA hH;clear hH AA;simp[xH,go_sem,q0];exact vK.refl _
 apply xN (.pointer (some ⟨g,i*5+4,none⟩)) rfl rfl rfl
 ·intro w' AA hH;clear hH AA;simp[xH,go_sem,q0];exact vK.refl _
 apply ZQ;intro w2 AR hH;have AN:=hH _ (List.mem_cons_self ..);clear hH;obtain⟨gk,cap,rfl⟩:=AN.1.at;have AU:=AR.1;have AP:=AR.1.block g AW AX.out;rw[←HO.out] at AU
 have HS:Hid (OkP w p B R (s.kid i) (w2.setCell ⟨g,i*5+4,none⟩ (.slice (some ⟨gk,0,none⟩) (kk.length+1) cap))):=yE (by
  have hh:=PS.kid (gk:=gk) (cap:=cap) HP.out i AH HA.out (w1:=w2) (by rw[AG.out]; exact AN.1.1) (by rw[AG.out]; exact AU) (by
   rw[AG.out]
   rcases AN.2 with e | ⟨g',e,Aq⟩
   ·left; rw[HO.out,←e]; rfl
   ·right; have:gk=g':=by simpa [Value.ownBlock] using e
    omega)
  rw[AG.out] at hh
  exact hh)
 have y1:w2.cell? ⟨g,i*5+4,none⟩=some (.slice kA kk.length kc):=(World.cell?_of_block (w:=w) (a:=⟨g,i*5+4,none⟩) AP).trans C4.out;have z1:w2.frozen? ⟨g,i*5+4,none⟩=false:=(World.frozen?_of_block (w:=w) (a:=⟨g,i*5+4,none⟩) AP).trans (HP.out.JZ _ HA.out);clear AN AU AP AR;(try simp only[Act.put,yB,yC,yD])
 go_wp2_with fail
 clear y1 z1;generalize w2.setCell ⟨g,i*5+4,none⟩ (.slice (some ⟨gk,0,none⟩) (kk.length+1) cap)=w3 at *;obtain⟨R3,AI,AD⟩:=HS.out;have AO:(s.kid i).nd.length=s.nd.length:=zBC;refine(zLo w3 p B (s.kid i) R3 kind F l fc AI (by rw[AO,Ai.out]; exact hbig) hl (Aa.out.xC AD) HE.out (fun k hk s' wr R' h1 h2 h3=>by rw[AO]; exact HD.out k hk s' wr R' h1 (AD.trans h2) h3)).mono ?_;have An:=yE AO;have Aj:=yE AD;clear AI AD AO;intro e w4 AE
 have AB:zEk w p B R (.int .i64 (s.nd.length:Int)) (zDs l (s.yX i kind)) e w4:=by
  have hp:=AE;rw[An.out] at hp;exact zEk.trans Aj.out hp
 cases hq:zDs l (s.yX i kind) with
 | ok a s2=>
  rw[hq] at AB;obtain⟨he,ho⟩:=AB;subst he;have Am:=yE ho;have HQ:=yE hq;clear AE ho hq
  go_wp2_with fail
  go_ret;rw[HQ.out];exact⟨rfl,Am.out⟩
 | err er a=>
  rw[hq] at AB;obtain⟨he,ho⟩:=AB;subst he;refine xB (P:=Tryz.prog) (fn:=Tryz.f127) rfl ?_;exact⟨rfl,ho⟩
theorem zFd (w:World)(p B:Nat)(s:Ps)(R:vC)(i kind:Nat)(h:PS w p B s R)(hi:i<s.nd.length)(hbig:s.nd.length≤1000000)(hG:Good s) :
  Calls Tryz.prog 127 #[.pointer (some ⟨p,0,none⟩),.int .i64 (i:Int),.int .u8 (kind:Int),.slice none 0 0] w (zEk w p B R (.int .i64 (s.nd.length:Int)) (.ok () (s.yX i kind))):=
 zCN w p B s R i kind none [] 0 h hi hbig (by decide) hG (.inl rfl) (fun f hf=>by cases hf) (fun k hk=>by cases hk)
def jX (X:List PanicEntry→World→Prop)(P:Program)(ρ:Operand→Value)(o:Oper)(w:World)(F:Value→World→Prop):Prop:=
 match (execOp ρ o).run P w with
 | .ok (.value u) w'=>F u w'
 | .ok .skip w'=>F undef w'
 | .ok (.enter f args) w'=>Calls P f args w' fun e AA=>(∃u,e=.returned u∧F u AA)∨∃c,e=.panicked c∧X c AA
 | _=>False
theorem jX.mono {X:List PanicEntry→World→Prop}{P:Program}{ρ:Operand→Value}{o:Oper}{w:World}{F G:Value→World→Prop}(h:jX X P ρ o w F)(hFG:∀v w',F v w'→G v w'):jX X P ρ o w G:=by
 unfold jX at *;generalize (execOp ρ o).run P w=r at *
 cases r with
 | ok n w'=>
  cases n with
  | value u=>exact hFG _ _ h
  | skip=>exact hFG _ _ h
  | enter f args=>exact Calls.mono h fun e AA hh=>hh.imp (fun ⟨u,he,hf⟩=>⟨u,he,hFG _ _ hf⟩) id
  | _=>exact h
 | halt x w'=>exact h
theorem zKx {X:List PanicEntry→World→Prop}{P:Program}{o:Oper}{a:Act}{w:World}{F:Value→World→Prop}{K:Act→World→Prop}{Q:Exit→Act→World→Prop}
  (h:jX X P a.eval o w F) (hk:∀v w',F v w'→K (a.put o.dst v) w') (hX:∀c w',X c w'→Q (.panic c) a w'):o.wp P a w K Q:=by
 unfold jX at h;unfold Oper.wp;generalize (execOp a.eval o).run P w=r at *
 cases r with
 | ok n w'=>
  cases n with
  | value u=>exact hk _ _ h
  | skip=>exact hk _ _ h
  | enter f args=>exact Calls.mono h fun e AA hh=>by rcases hh with ⟨u,he,hf⟩ | ⟨c,he,hx⟩ <;> subst he <;> first | exact hk _ _ hf | exact hX _ _ hx
  | _=>exact h.elim
 | halt x w'=>exact h.elim
section
variable (X:List PanicEntry→World→Prop) (P:Program) (ops:Array Oper) (R:World→World→Prop) (w0:World) (Q:Act→World→Prop)
def zLv (o:Oper)(a:Act)(H:List (Option Tmp × (World→Prop)))(F:Value→World→Prop):Prop:=
 ∀w,R w0 w→(∀p ∈ H,(∃t,p.1=some t∧t ∈ o.looksAt ops)→p.2 w) →
  if Region.wanted o (yielded ops a.tmps)=true then jX X P a.eval o w (fun v w'=>F v w'∧R w w') else F undef w
def zBn:List Oper→List Take→Act→List (Option Tmp × (World→Prop))→Prop
 | [],_,a,H=>∀w,R w0 w→(∀p ∈ H,p.2 w)→Q a w
 | o::l,.det v0::ks,a,H=>zLv X P ops R w0 o a H (fun v _=>v=v0)∧zBn l ks (a.put o.dst v0) H
 | o::l,.fact F::ks,a,H=>(∀v w w',F v w→R w w'→F v w')∧zLv X P ops R w0 o a H F∧∀v,zBn l ks (a.put o.dst v) ((o.dst,F v)::H)
 | _::_,[],_,_=>False
end
section
variable {X:List PanicEntry→World→Prop} {P:Program} {ops:Array Oper} {R:World→World→Prop} {w0:World} {Q:Act→World→Prop}
theorem zKL {a:Act}{H:List (Option Tmp × (World→Prop))}(h:∀w,R w0 w→(∀p ∈ H,p.2 w)→Q a w):zBn X P ops R w0 Q [] [] a H:=h
theorem zQ2 {o:Oper}{l:List Oper}{ks:List Take}{a:Act}{H:List (Option Tmp × (World→Prop))}(v0:Value)
  (h:zLv X P ops R w0 o a H (fun v _=>v=v0)) (hk:zBn X P ops R w0 Q l ks (a.put o.dst v0) H):zBn X P ops R w0 Q (o::l) (.det v0::ks) a H:=⟨h,hk⟩
theorem zOs {o:Oper}{l:List Oper}{ks:List Take}{a:Act}{H:List (Option Tmp × (World→Prop))}(F:Value→World→Prop)
  (hs:∀v w w',F v w→R w w'→F v w') (h:zLv X P ops R w0 o a H F) (hk:∀v,zBn X P ops R w0 Q l ks (a.put o.dst v) ((o.dst,F v)::H)):zBn X P ops R w0 Q (o::l) (.fact F::ks) a H:=⟨hs,h,hk⟩
theorem zFF {ks:List Take}{a0:Act}(vs:Nat→Value):∀(l:List Oper) (k:Nat),(∀j,j<l.length→l[j]?=ops[k+j]?)→zBn X P ops R w0 Q l (ks.drop k) (XR ops ks vs a0 k) (zAs ops ks vs k) →
  (∀i o,k≤i→i<k+l.length→ops[i]?=some o→(∀v w w',(ks.getD i (.det undef)).says v w→R w w'→(ks.getD i (.det undef)).says v w')∧zLv X P ops R w0 o (XR ops ks vs a0 i) (zAs ops ks vs i) (ks.getD i (.det undef)).says) ∧
  ∀w,R w0 w→(∀p ∈ zAs ops ks vs (k+l.length),p.2 w)→Q (XR ops ks vs a0 (k+l.length)) w
 | [],k,hl,h=>by
  refine⟨fun i o hi AB ho=>?_,by simpa [zBn] using h⟩
  simp at AB
  omega
 | o::l,k,hl,h=>by
  have h0:ops[k]?=some o:=by simpa using (hl 0 (by simp)).symm
  have AE:∀j,j<l.length→l[j]?=ops[k+1+j]?:=fun j hj=>by
   have:=hl (j+1) (by simpa using hj)
   simpa [Nat.add_assoc,Nat.add_comm 1 j] using this
  cases hd:ks.drop k with
  | nil=>rw[hd] at h; simp[zBn] at h
  | cons x ks'=>
   rw[hd] at h
   have hx:ks[k]?=some x:=by
    have:=congrArg (fun l=>l[0]?) hd
    simpa using this
   have hg:ks.getD k (.det undef)=x:=by simp[List.getD,hx]
   have AD:ks.drop (k+1)=ks':=by
    rw[←List.drop_drop,hd]; rfl
   have AA:k+(o::l).length=k+1+l.length:=by simp; omega
   cases x with
   | det v0=>
    simp only[zBn] at h
    have hA:XR ops ks vs a0 (k+1)=(XR ops ks vs a0 k).put o.dst v0:=by
     show(XR ops ks vs a0 k).put ((ops[k]?).bind (·.dst)) ((ks.getD k (.det undef)).val (vs k))=_
     rw[hg,h0]; rfl
    have hH:zAs ops ks vs (k+1)=zAs ops ks vs k:=by
     show(match ks.getD k (.det undef) with | .det _=>_ | .fact F=>_)=_
     rw[hg]
    obtain⟨r1,r2⟩:=zFF vs l (k+1) AE (by rw[AD,hA,hH]; exact h.2);rw[AA];refine⟨fun i oi hi AB ho=>?_,r2⟩
    by_cases AC:i=k
    ·subst AC;rw[h0] at ho;obtain rfl:=Option.some.inj ho;rw[hg];exact⟨fun v w w' e _=>e,h.1⟩
    ·exact r1 i oi (by omega) (by omega) ho
   | fact F=>
    simp only[zBn] at h
    have hA:XR ops ks vs a0 (k+1)=(XR ops ks vs a0 k).put o.dst (vs k):=by
     show(XR ops ks vs a0 k).put ((ops[k]?).bind (·.dst)) ((ks.getD k (.det undef)).val (vs k))=_
     rw[hg,h0]; rfl
    have hH:zAs ops ks vs (k+1)=(o.dst,F (vs k))::zAs ops ks vs k:=by
     show(match ks.getD k (.det undef) with | .det _=>_ | .fact F=>_)=_
     rw[hg,h0]; rfl
    obtain⟨r1,r2⟩:=zFF vs l (k+1) AE (by rw[AD,hA,hH]; exact h.2.2 (vs k));rw[AA];refine⟨fun i oi hi AB ho=>?_,r2⟩
    by_cases AC:i=k
    ·subst AC;rw[h0] at ho;obtain rfl:=Option.some.inj ho;rw[hg];exact⟨h.1,h.2.1⟩
    ·exact r1 i oi (by omega) (by omega) ho
theorem zFu (o:Oper)(hs:∀cs b,o.op≠.select cs b)(a a':Act)(h:∀t ∈ o.looksAt ops,a.tmps[t]?=a'.tmps[t]?){w:World}{F:Value→World→Prop}:jX X P a.eval o w F=jX X P a'.eval o w F:=by
 unfold jX;rw[zHu o hs a a' h]
theorem zL9 {m:Nat}(hR:∀a b c,R a b→R b c→R a c)(hB:zAr ops m=true)(hT:zDE ops m=true){ks:List Take}{a0:Act}{Q':Exit→Act→World→Prop}(hX:∀a,a.defers=a0.defers→∀c w,X c w→Q' (.panic c) a w)
  (hst:∀i o,i<m→ops[i]?=some o→∀v w w',(ks.getD i (.det undef)).says v w→R w w'→(ks.getD i (.det undef)).says v w')
  (how:∀vs i o,i<m→ops[i]?=some o→zLv X P ops R w0 o (XR ops ks vs a0 i) (zAs ops ks vs i) (ks.getD i (.det undef)).says)
  (hQ:∀vs w,R w0 w→(∀p ∈ zAs ops ks vs m,p.2 w)→wpList P ops Q' (ops.toList.drop m) (XR ops ks vs a0 m) w) :
  ∀(n:Nat) (listed:Array Bool) (U:List Nat) (a:Act) (w:World) (vs:Nat→Value),listed.size=ops.size→U.length=n→U.Nodup→(∀i,i ∈ U↔i<m∧listed.getD i true=false) →
   zUa P ops m R w0 ks a0 listed a w vs→wpAny P .any ops Q' (n+(ops.size-m)) listed a w:=by
 have Af:=zCC hB
 have AE:∀(listed:Array Bool) (j:Nat),listed.size=ops.size→j<ops.size→listed.getD j false=listed.getD j true:=fun listed j AH hj=>by
  have:j<listed.size:=by omega
  simp[this]
 intro n
 induction n with
 | zero=>
  intro listed U a w vs AH AF AR hU AA;obtain rfl:=List.length_eq_zero_iff.1 AF
  have AP:∀i,i<m→listed.getD i true=true:=fun i hi=>by
   cases hf:listed.getD i true with
   | true=>rfl
   | false=>have:=(hU i).2 ⟨hi,hf⟩; cases this
  have ea:a=XR ops ks vs a0 m:=by
   refine zMr (fun t=>?_) (by rw[AA.defers,zC5])
   by_cases AK:∃(i:Nat) (o:Oper),i<m∧ops[i]?=some o∧o.dst=some t
   ·obtain⟨i,o,AC,hi,hd⟩:=AK;have hl:=AP i AC;rw[AA.done i o t AC hi hd hl,zBx hB (j:=i) (by rw[hi]; exact hd) AC (zU _),Take.zGR (AA.facts i AC hl)]
   ·rw[AA.other t fun i o AC hi hd=>absurd ⟨i,o,AC,hi,hd⟩ AK,JY];intro j hj e;obtain⟨o,ho,hd⟩:=Option.bind_eq_some_iff.1 e;exact AK ⟨j,o,hj,ho,hd⟩
  rw[Nat.zero_add];refine zFG hT _ m listed a w (zU _) (by omega) AH (fun j hj=>?_) AA.closed ?_
  ·by_cases AD:j<m
   ·rw[AP j AD]; simp[AD]
   ·rw[AA.fresh j (by omega) hj]; simp[AD]
  ·rw[ea];refine hQ vs w AA.world fun p hp=>?_;obtain⟨j,hj,_,hs⟩:=zBY hp;exact hs w (AA.facts j hj (AP j hj))
 | succ n ih=>
  intro listed U a w vs AH AF AR hU AA;rw[show n+1+(ops.size-m)=n+(ops.size-m)+1 from by omega]
  have AM:Region.ready .any ops listed≠[]:=fun hr=>by
   have AP:∀n i,i<n→i<m→listed.getD i true=true:=by
    intro n
    induction n with
    | zero=>intro i hi; omega
    | succ n ih'=>
     intro i hi AS
     cases hf:listed.getD i true with
     | true=>rfl
     | false=>
      exfalso
      have AY:ops[i]?=some ops[i]:=Array.getElem?_eq_getElem (by omega)
      have hm:i ∈ Region.ready .any ops listed:=by
       rw[mem_ready];refine⟨hf,_,AY,fun e he hb=>?_⟩;have Ac:=(zAn hB AS AY).2 e he hb;rw[AE listed e.on AH (by omega)];exact ih' e.on (by omega) (by omega)
      rw[hr] at hm
      cases hm
   cases U with
   | nil=>simp at AF
   | cons x xs=>
    have:=(hU x).1 List.mem_cons_self
    rw[AP (x+1) x (by omega) this.1] at this
    cases this.2
  refine⟨fun hr=>absurd hr AM,fun i hi=>?_⟩;obtain⟨h0,o,ho,AI⟩:=mem_ready.1 hi;have AS:i<ops.size:=(Array.getElem?_eq_some_iff.1 ho).1
  have AC:i<m:=by
   rcases Nat.lt_or_ge i m with h | h
   ·exact h
   ·exfalso
    cases U with
    | nil=>simp at AF
    | cons x xs=>
     have hx:=(hU x).1 List.mem_cons_self
     have:=zC6 AA.closed 8 i x o ho AI ((zBy hT ho h).2 x (by omega))
     rw[AE listed x AH (by omega),hx.2] at this
     cases this
  have AU:i<listed.size:=by omega
  have AO:(listed.setIfInBounds i true).getD i true=true:=by simp[AU]
  have AG:∀j,j≠i→(listed.setIfInBounds i true).getD j true=listed.getD j true:=fun j hj=>getD_set_ne true (Ne.symm hj)
  have AN:∀t ∈ o.looksAt ops,a.tmps[t]?=(XR ops ks vs a0 i).tmps[t]?:=fun t ht=>by
   by_cases AK:∃(j:Nat) (p:Oper),j<m∧ops[j]?=some p∧p.dst=some t
   ·obtain⟨j,p,AD,hj,hd⟩:=AK
    rcases(jG hB AC AD ho hj hd).2 ht with ⟨AB,e,he,heq,hb⟩ | ⟨hij,e,he,heq,hb⟩
    ·have AX:listed.getD j true=true:=by
      have h1:=AI e he hb;rw[heq,AE listed j AH (by omega)] at h1;exact h1
     rw[AA.done j p t AD hj hd AX,zBx hB (j:=j) (by rw[hj]; exact hd) AB (by omega),Take.zGR (AA.facts j AD AX)]
    ·have AZ:listed.getD j true=false:=by
      cases hf:listed.getD j true with
      | false=>rfl
      | true=>
       have:=AA.closed j p hj (by rw[AE listed j AH (by omega)]; exact hf) e he hb
       rw[heq,AE listed i AH AS,h0] at this
       cases this
     rw[AA.other t fun k ok AQ hk AJ=>by
       have:=(jG hB AQ AD hk hj hd).1 AJ
       subst this
       exact AZ,JY]
     intro k hk e';obtain⟨ok,Ae,AJ⟩:=Option.bind_eq_some_iff.1 e'
     have:=(jG hB (by omega) AD Ae hj hd).1 AJ
     omega
   ·rw[AA.other t fun i o AC hi hd=>absurd ⟨i,o,AC,hi,hd⟩ AK,JY];intro j hj e;obtain⟨o,ho,hd⟩:=Option.bind_eq_some_iff.1 e;exact AK ⟨j,o,by omega,ho,hd⟩
  have go:∀v w',(ks.getD i (.det undef)).says v w'→R w w'∨w'=w→wpAny P .any ops Q' (n+(ops.size-m)) (listed.setIfInBounds i true) (a.put o.dst v) w':=by
   intro v w' hv AL
   have AT:∀j oj,j<m→ops[j]?=some oj→∀v,(ks.getD j (.det undef)).says v w→(ks.getD j (.det undef)).says v w':=fun j oj AD hj v hs=>by
    rcases AL with AL | rfl
    ·exact hst j oj AD hj v w w' hs AL
    ·exact hs
   refine ih (listed.setIfInBounds i true) (U.erase i) _ w' (fun j=>if j=i then v else vs j) (by simpa using AH) ?_ (AR.erase i) (fun j=>?_) ?_
   ·rw[List.length_erase_of_mem ((hU i).2 ⟨AC,h0⟩),AF]; rfl
   ·rw[AR.mem_erase_iff,hU j]
    by_cases AB:j=i
    ·subst AB; simp[AU]
    ·rw[AG j AB]; simp[AB]
   ·refine⟨?_,by rw[zDj]; exact AA.defers,fun j hj hl=>?_,fun j p t AD hj hd hl=>?_,fun t ht=>?_,fun j p hj hl e he hb=>?_,fun j hj Ad=>?_⟩
    ·rcases AL with AL | rfl
     ·exact hR _ _ _ AA.world AL
     ·exact AA.world
    ·by_cases AB:j=i
     ·subst AB; simpa using hv
     ·rw[AG j AB] at hl;simp only[if_neg AB];exact AT j _ hj (Array.getElem?_eq_getElem (by omega)) _ (AA.facts j hj hl)
    ·by_cases AB:j=i
     ·subst AB;rw[ho] at hj;obtain rfl:=Option.some.inj hj
      rw[hd,zC9,AA.other t fun k ok AQ hk AJ=>by
       have:=(jG hB AQ AC hk ho hd).1 AJ
       subst this
       exact h0]
      simp
     ·rw[AG j AB] at hl;rw[VJ _ _ _ (fun e=>AB ((jG hB AC AD ho hj hd).1 e).symm),AA.done j p t AD hj hd hl];simp[AB]
    ·rw[VJ _ _ _ (fun e=>by
      have:=ht i o AC ho e
      rw[AO] at this
      cases this)]
     refine AA.other t fun k ok AQ hk AJ=>?_
     have:=ht k ok AQ hk AJ
     by_cases AV:k=i
     ·subst AV; exact h0
     ·rwa [AG k AV] at this
    ·by_cases AB:j=i
     ·subst AB;rw[ho] at hj;obtain rfl:=Option.some.inj hj;exact getD_set_true (AI e he hb)
     ·rw[getD_set_ne false (Ne.symm AB)] at hl;exact getD_set_true (AA.closed j p hj hl e he hb)
    ·rw[AG j (by omega)];exact AA.fresh j hj Ad
  have ow:=how vs i o AC ho w AA.world (fun p hp ⟨t,hpt,ht⟩=>by
   obtain⟨j,hj,AW,hs⟩:=zBY hp;rw[hpt] at AW;obtain⟨p',Aa,Ab⟩:=Option.bind_eq_some_iff.1 AW.symm
   rcases(jG hB AC (by omega) ho Aa Ab).2 ht with ⟨_,e,he,heq,hb⟩ | ⟨hij,_⟩
   ·have h1:=AI e he hb;rw[heq,AE listed j AH (by omega)] at h1;exact hs w (AA.facts j (by omega) h1)
   ·omega)
  unfold wpOp;simp only[ho];rw[←zBU o a _ AN,←zFu o (zAn hB AC ho).1 a _ AN] at ow
  split
  ·rename_i hw;simp only[hw,if_true] at ow;exact .inl (zKx ow (fun v w' hv=>go v w' hv.1 (.inl hv.2)) (fun c w' hx=>hX a AA.defers c w' hx))
  ·rename_i hw;simp only[hw] at ow;exact go undef w ow (.inr rfl)
theorem zHo {id:Nat}{Q':Exit→Act→World→Prop}{a:Act}{w:World}{l:List Oper}(m:Nat)(ks:List Take)(hm:P.follows .mixedOrders=true)(hB:zAr l.toArray m=true)(hT:zDE l.toArray m=true)
  (hR:∀a b c,R a b→R b c→R a c) (h0:R w0 w.drew) (hX:∀a',a'.defers=a.defers→∀c w,X c w→Q' (.panic c) a' w)
  (h:zBn X P l.toArray R w0 (fun a' w'=>wpList P l.toArray Q' (l.drop m) a' w') (l.take m) ks a []):(Code.region id l.toArray true).wp P Q' a w:=by
 have AC:=zCC hB;simp only[List.size_toArray] at AC;refine wp_region_any hm ?_
 have sp:=fun vs=>zFF (X:=X) (P:=P) (ops:=l.toArray) (R:=R) (w0:=w0) (Q:=fun a' w'=>wpList P l.toArray Q' (l.drop m) a' w') (ks:=ks) (a0:=a) vs (l.take m) 0 (fun j hj=>by
  have AD:j<m:=by simp at hj; omega
  simp[List.getElem?_take,AD]) (by simpa [XR,zAs] using h)
 have AA:(l.take m).length=m:=by simp; omega
 rw[show l.toArray.size=m+(l.toArray.size-m) from by simp; omega];refine zL9 (X:=X) (P:=P) (ops:=l.toArray) (R:=R) (w0:=w0) (ks:=ks) (a0:=a) (m:=m) hR hB hT hX ?_ ?_ ?_ m _ (List.range m) a _ (fun _=>undef) (by simp; omega) (by simp) List.nodup_range ?_ ?_
 ·exact fun i o AB hi=>((sp fun _=>undef).1 i o (zT _) (by omega) hi).1
 ·exact fun vs i o AB hi=>((sp vs).1 i o (zT _) (by omega) hi).2
 ·intro vs w' AE hp
  have:=(sp vs).2 w' AE (by rw[AA]; simpa using hp)
  rw[AA] at this
  simpa using this
 ·intro i;simp only[List.mem_range]
  constructor
  ·intro h
   have:i<m+(l.length-m):=by omega
   exact⟨h,by simp[this]⟩
  ·exact fun h=>h.1
 ·refine⟨h0,rfl,fun i hi hl=>?_,fun i o t AB hi hd hl=>?_,fun t _=>rfl,fun i o hi hl=>?_,fun i hi AG=>?_⟩
  ·have:i<m+(l.length-m):=by omega
   simp[this] at hl
  ·have:i<m+(l.length-m):=by omega
   simp[this] at hl
  ·have AF:i<l.length:=by simpa using (Array.getElem?_eq_some_iff.1 hi).1
   have:i<m+(l.length-m):=by omega
   simp[this] at hl
  ·have AF:i<l.length:=by simpa using AG
   have:i<m+(l.length-m):=by omega
   simp[this]
theorem YR {o:Oper}{l:List Oper}{ks:List Take}{a:Act}{H:List (Option Tmp × (World→Prop))}{d:Option Tmp}{L:List Tmp}(v0:Value)(hd:o.dst=d)(hg:o.guard=none)(hL:zAM o=L)
  (h:∀w,R w0 w→(∀p ∈ H,(∃t,p.1=some t∧t ∈ L)→p.2 w)→jX X P a.eval o w (fun v w'=>v=v0∧R w w')) (hk:zBn X P ops R w0 Q l ks (a.put d v0) H):zBn X P ops R w0 Q (o::l) (.det v0::ks) a H:=by
 subst hd hL;refine zQ2 v0 (fun w hw hH=>?_) hk
 have:Region.wanted o (yielded ops a.tmps)=true:=by unfold Region.wanted; rw[hg]
 rw[if_pos this];exact h w hw fun p hp ⟨t,ht,hm⟩=>hH p hp ⟨t,ht,List.mem_append_left _ hm⟩
theorem zBo {o:Oper}{l:List Oper}{ks:List Take}{a:Act}{H:List (Option Tmp × (World→Prop))}{d:Option Tmp}{L:List Tmp}(F:Value→World→Prop)(hs:∀v w w',F v w→R w w'→F v w')(hd:o.dst=d)(hg:o.guard=none)(hL:zAM o=L)
  (h:∀w,R w0 w→(∀p ∈ H,(∃t,p.1=some t∧t ∈ L)→p.2 w)→jX X P a.eval o w (fun v w'=>F v w'∧R w w')) (hk:∀v,zBn X P ops R w0 Q l ks (a.put d v) ((d,F v)::H)):zBn X P ops R w0 Q (o::l) (.fact F::ks) a H:=by
 subst hd hL;refine zOs F hs (fun w hw hH=>?_) hk
 have:Region.wanted o (yielded ops a.tmps)=true:=by unfold Region.wanted; rw[hg]
 rw[if_pos this];exact h w hw fun p hp ⟨t,ht,hm⟩=>hH p hp ⟨t,ht,List.mem_append_left _ hm⟩
end
end Go.Proofs.YtioffpjajhalaaaGreatDoor
