/- An expression in memory; the program's put: its nodes. Condition: the nodes fit into memory. -/
import Derived.Test.YtioffpjajhalaaaGreatDoorJaa
import Derived.Test.YtioffpjajhalaaaGreatDoorJao
set_option linter.unusedVariables false
set_option linter.unusedSimpArgs false
set_option maxRecDepth 100000
set_option maxHeartbeats 16000000
namespace Go.Proofs.YtioffpjajhalaaaGreatDoor
open Go Go.RowKit
def Ex.node:Ex→Nd
 | .leaf k p t n=>⟨k,p,t,n,[]⟩
 | .neg p _=>⟨26,p,[],0,[]⟩
 | .bin k p _ _=>⟨k,p,[],0,[]⟩
def Ex.parts:Ex→List Ex
 | .leaf ..=>[]
 | .neg _ a=>[a]
 | .bin _ _ a b=>[a,b]
theorem Ex.zQ0 (e:Ex):e.node.kids=[]:=by cases e <;> rfl
theorem Ex.zNB (e:Ex):e.node.pos=e.pos:=by cases e <;> rfl
def zE5 (i:Nat):List Ex→Ps→Ps
 | [],s=>s
 | x::l,s=>zE5 i l (zAe i x s)
theorem zUe (i:Nat)(e:Ex)(s:Ps):zAe i e s=zE5 s.nd.length e.parts ((s.kid i).add e.node):=by cases e <;> rfl
theorem zLa (i:Nat):∀(l:List Ex) (k:Nat) (hk:k<l.length) (s:Ps),zE5 i (l.take (k+1)) s=zAe i l[k] (zE5 i (l.take k) s)
 | x::l,0,_,s=>rfl
 | x::l,k+1,hk,s=>zLa i l k (by simpa using hk) (zAe i x s)
theorem Ex.zRl (e:Ex):∀x ∈ e.parts,x.size<e.size:=by
 intro x hx
 cases e with
 | leaf=>cases hx
 | neg p a=>rw[List.mem_singleton.1 hx]; show a.size<a.size+1; omega
 | bin k p a b=>
  have AA:x ∈ [a,b]:=hx;simp only[zR,List.not_mem_nil,or_false] at AA
  rcases AA with rfl | rfl
  ·show x.size<x.size+b.size+1; omega
  ·show x.size<a.size+x.size+1; omega
theorem Ex.zRc (e:Ex):e.parts.length≤2:=by cases e <;> simp[Ex.parts]
def jZ (n:Nd)(A:Option Addr)(m c:Nat):List Value:=[.int .u8 (n.kind:Int),.int .i64 (n.pos:Int),.string (yX n.text),.int .i64 n.num,.slice none 0 0,.slice A m c]
def EX (w:World)(M:Nat→Prop):Ex→List Value→Prop
 | .leaf k p t n,cs=>cs=jZ ⟨k,p,t,n,[]⟩ none 0 0
 | .neg p a,cs=>∃g ca,cs=jZ ⟨26,p,[],0,[]⟩ (some ⟨g,0,none⟩) 1 1∧Safe w M g 232 ca.toArray∧EX w M a ca
 | .bin k p a b,cs=>∃g ca cb,cs=jZ ⟨k,p,[],0,[]⟩ (some ⟨g,0,none⟩) 2 2∧Safe w M g 232 (ca++cb).toArray∧EX w M a ca∧EX w M b cb
theorem EX.xJ {w w':World}{M M':Nat→Prop}(k:xH w M w' M'):∀ {e:Ex} {cs:List Value},EX w M e cs→EX w' M' e cs
 | .leaf ..,_,h=>h
 | .neg ..,_,⟨g,ca,h1,h2,h3⟩=>⟨g,ca,h1,h2.xJ k,EX.xJ k h3⟩
 | .bin ..,_,⟨g,ca,cb,h1,h2,h3,h4⟩=>⟨g,ca,cb,h1,h2.xJ k,EX.xJ k h3,EX.xJ k h4⟩
theorem EX.len {w:World}{M:Nat→Prop}:∀ {e:Ex} {cs:List Value},EX w M e cs→cs.length=6
 | .leaf ..,_,h=>by rw[h]; rfl
 | .neg ..,_,⟨g,ca,h1,h2,h3⟩=>by rw[h1]; rfl
 | .bin ..,_,⟨g,ca,cb,h1,h2,h3,h4⟩=>by rw[h1]; rfl
def zMP (w:World)(M:Nat→Prop)(l:List Ex)(A:Option Addr)(f:Nat→List Value):Prop:=
 (∀k (hk:k<l.length),EX w M l[k] (f k))∧(l=[]∨∃b,A=some ⟨b,0,none⟩∧b<w.heap.size∧¬M b∧∀k,k<l.length→∀j,j<6→w.cell? ⟨b,k*6+j,none⟩=(f k)[j]?)
theorem zMP.xJ {w w':World}{M M':Nat→Prop}{l:List Ex}{A:Option Addr}{f:Nat→List Value}(h:zMP w M l A f)(k:xH w M w' M'):zMP w' M' l A f:=by
 refine⟨fun j hj=>(h.1 j hj).xJ k,?_⟩
 rcases h.2 with h | ⟨b,h1,h2,h3,h4⟩
 ·exact .inl h
 ·refine .inr ⟨b,h1,yR h2 k.size,fun h5=>by rcases k.zFT b h5 with h6 | h6 <;> first | exact h3 h6 | omega,fun i hi j hj=>?_⟩
  rw[World.cell?_of_block (w:=w) (k.zAf b h2 h3)];exact h4 i hi j hj
theorem EX.open {w:World}{M:Nat→Prop}{e:Ex}{cs:List Value}(h:EX w M e cs):∃A c f,cs=jZ e.node A e.parts.length c∧zMP w M e.parts A f:=by
 cases e with
 | leaf k p t n=>exact⟨none,0,fun _=>[],h,⟨fun k hk=>by simp[Ex.parts] at hk,.inl rfl⟩⟩
 | neg p a=>
  obtain⟨g,ca,h1,h2,h3⟩:=h;have hl:=h3.len;refine⟨_,_,fun _=>ca,h1,⟨fun k hk=>?_,.inr ⟨g,rfl,h2.1.lt,h2.2,fun k hk j hj=>?_⟩⟩⟩
  ·obtain rfl:k=0:=by simpa [Ex.parts] using hk
   exact h3
  ·obtain rfl:k=0:=by simpa [Ex.parts] using hk
   rw[Nat.zero_mul,Nat.zero_add,h2.1.cell j]
   simp
 | bin kd p a b=>
  obtain⟨g,ca,cb,h1,h2,h3,h4⟩:=h;have hl:=h3.len;refine⟨_,_,fun k=>if k=0 then ca else cb,h1,⟨fun k hk=>?_,.inr ⟨g,rfl,h2.1.lt,h2.2,fun k hk j hj=>?_⟩⟩⟩
  ·have AA:k<2:=hk
   match k,AA with
   | 0,_=>exact h3
   | 1,_=>exact h4
  ·have AA:k<2:=hk;rw[h2.1.cell (k*6+j)]
   match k,AA with
   | 0,_=>
    show(ca++cb).toArray[0*6+j]?=ca[j]?
    rw[Nat.zero_mul,Nat.zero_add,yI,List.getElem?_append_left (by omega)]
   | 1,_=>
    show(ca++cb).toArray[1*6+j]?=cb[j]?
    rw[yI,List.getElem?_append_right (by omega)]
    congr 1
    omega
theorem zLM {s:Ps}(h:Good s)(i:Nat)(x:Nd)(hx:x.kids=[]):Good ((s.kid i).add x):=⟨h.last,h.deep,zBH h.few i x hx⟩
theorem zOd (i:Nat):∀(l:List Ex) (s:Ps),s.nd.length≤(zE5 i l s).nd.length∧(zE5 i l s).ts=s.ts∧(zE5 i l s).deep=s.deep
 | [],s=>⟨zU _,rfl,rfl⟩
 | x::l,s=>by
  obtain⟨h1,h2,h3⟩:=zOd i l (zAe i x s);obtain⟨k1,k2,k3⟩:=zCL x i s;exact⟨by show _≤(zE5 i l (zAe i x s)).nd.length; omega,h2.trans k2,h3.trans k3⟩
theorem zK2 (i:Nat):∀(l:List Ex) (s:Ps),Good s→Good (zE5 i l s)
 | [],s,h=>h
 | x::l,s,h=>zK2 i l _ (by
  obtain⟨k1,k2,k3⟩:=zCL x i s
  exact⟨by rw[k2]; exact h.last,by rw[k3]; exact h.deep,zFO x i s h.few⟩)
theorem zKM (i:Nat):∀(l:List Ex) (s:Ps),(zE5 i l s).nd.length=s.nd.length+(l.map Ex.size).sum
 | [],s=>rfl
 | x::l,s=>by
  show(zE5 i l (zAe i x s)).nd.length=_
  rw[zKM i l,(zCL x i s).1,List.map_cons,List.sum_cons];omega
theorem Ex.zPb (e:Ex):e.size=(e.parts.map Ex.size).sum+1:=by cases e <;> simp[Ex.size,Ex.parts]
theorem zHr:∀(l:List Nat) (k:Nat) (hk:k<l.length),(l.take k).sum+l[k]≤l.sum
 | x::l,0,_=>by simp
 | x::l,k+1,hk=>by
  have:=zHr l k (by simpa using hk)
  simp only[List.take_succ_cons,List.sum_cons,List.getElem_cons_succ];omega
theorem Ex.zOn:∀(e:Ex),0<e.size
 | .leaf ..=>Nat.zero_lt_one
 | .neg ..=>Nat.succ_pos _
 | .bin ..=>Nat.succ_pos _
theorem zRO (f:Nat)(ih:∀(e:Ex),e.size≤f→∀(w:World) (p B:Nat) (s:Ps) (R:xS) (i:Nat) (cs:List Value),PS w p B s R→Good s→i<s.nd.length→s.nd.length+e.size≤1000000→EX w (xG p R) e cs →
  Calls Tryz.prog 206 #[.pointer (some ⟨p,0,none⟩),.int .i64 (i:Int),.agg cs.toArray] w fun en w'=>en=.returned (.tuple #[])∧OkP w p B R (zAe i e s) w')
  (e:Ex) (hsz:e.size≤f+1) (w:World) (p B:Nat) (s:Ps) (R:xS) (i:Nat) (cs:List Value) (h:PS w p B s R) (hG:Good s) (hi:i<s.nd.length) (hbig:s.nd.length+e.size≤1000000) (hx:EX w (xG p R) e cs) :
  Calls Tryz.prog 206 #[.pointer (some ⟨p,0,none⟩),.int .i64 (i:Int),.agg cs.toArray] w fun en w'=>en=.returned (.tuple #[])∧OkP w p B R (zAe i e s) w':=by
 obtain⟨i0,A1,A9,A6,A5⟩:=info_parts zFC;obtain⟨i1,Bm,BK,BP,Bo⟩:=info_parts zNs;obtain⟨eA,ec,ef,Ba,Az⟩:=hx.open;have HQ:=yD (zUe i e s);have BJ:=yD hsz;have BR:=yD hbig;have Bl:=yD e.zPb;have Bn:=yD e.zOn;have BQ:=yD e.zRc;have Ax:=e.zQ0;have Bd:=yD ih;have A0:=fun x (hx:x ∈ e.parts)=>e.zRl x hx;have Ah:=yD A0;clear ih hsz hx A0;generalize e.parts=l at *;generalize e.node=x at *;obtain⟨xk,xp,xt,xn,A3⟩:=x
 simp only at Ax
 subst Ax;subst Ba;have AQ:=h.len
 have AT:i<R.nh.length:=by omega
 obtain⟨g,hA⟩:=h.zR9 (by omega);obtain⟨x,AU⟩:∃x,R.nh[i]=x:=⟨_,rfl⟩;obtain⟨⟨nk,np,nt,nn,kk⟩,kA,kc⟩:=x;unfold jZ;obtain⟨gx,A4⟩:∃gx,Hid (w.heap.size=gx):=⟨_,yD rfl⟩;obtain⟨W,HW⟩:∃W,Hid (W=w.alloc (.cells (jZ ⟨xk,xp,xt,xn,[]⟩ eA l.length ec).toArray 232)):=⟨_,yD rfl⟩;have AZ:Hid (Ext w W):=yD (by rw[HW.out]; exact Ext.alloc _ _);have Bq:Hid (Safe W (xG p R) gx 232 (jZ ⟨xk,xp,xt,xn,[]⟩ eA l.length ec).toArray):=yD (by rw[HW.out,←A4.out]; exact h.fresh _ _);have hP:=h.ext AZ.out
 have c4:W.cell? ⟨g,i*5+4,none⟩=some (.slice kA kk.length kc):=by rw[hP.zDc i AT hA 4 (by decide),AU]; rfl
 have Ad:=hP.ns.zWK _ (yL AT);have AF:=hP.ns.kids _ (yL AT);rw[AU] at Ad AF
 simp only at Ad AF
 obtain⟨o,HO⟩:∃o,Hid ((Value.slice kA kk.length kc).ownBlock=o):=⟨_,yD rfl⟩
 have AP:Hid (some p≠o):=yD fun e=>by
  rw[←HO.out] at e;obtain⟨BC,hc⟩:=ZN AF (jB AF e.symm);exact Blk.differ hP.blk hc (by decide) rfl
 have As:Hid (some g≠o):=yD fun e=>by
  rw[←HO.out] at e;obtain⟨BC,hc⟩:=ZN AF (jB AF e.symm);obtain⟨BG,BH⟩:=ZN hP.ns.row hA;exact Blk.differ BH hc (by decide) rfl
 have AV:Hid (∀g,o=some g→g<W.heap.size):=yD fun g e=>by
  rw[←HO.out] at e;exact(VY AF (jB AF e)).2
 have Aq:=(VY hP.ns.row hA).2;have AW:=hP.blk.lt;have Bc:Hid (B≤W.heap.size):=yD (Nat.le_trans hP.pB (zS AW));have AR:=yD AU;have HP:=yD hP;have HA:=yD hA;have BW:=yD Ad;have BT:=yD (Az.xJ (xH.ext (M:=xG p R) AZ.out));have Ac:=yD AQ;have HG:=yD hG
 have A8:Hid (kk.length≤1000000):=yD (by
  have:=hG.few (R.nh[i].1) (by rw[h.nodes]; exact List.mem_map.2 ⟨_,yL AT,rfl⟩)
  rw[AR.out] at this
  simp only at this
  omega)
 have A2:R.nh.length+1≤1000000:=by have:=Bn.out; omega
 obtain⟨Fs,AC⟩:∃Fs,Hid (FsH B 3 (.slice kA kk.length kc) W.heap.size kk.length (ints kk) [Value.int .i64 (R.nh.length:Int)]=Fs):=⟨_,yD rfl⟩
 have hE:∀F ∈ Fs,∀v w w',F v w→Ext w w'→F v w':=by rw[←AC.out]; exact zL9 _ _ _ _ _ _ _
 have m0:(fun (_:Value) w=>zAP B 3 kk.length (ints kk) (.slice kA kk.length kc) w) ∈ Fs:=by rw[←AC.out]; simp only[FsH,zR,true_or]
 have m1:zFn 3 W.heap.size #[Value.int .i64 (R.nh.length:Int)] ∈ Fs:=by rw[←AC.out]; simp only[FsH,zR,true_or,or_true]
 have m2:zRx B 3 o W.heap.size (kk.length+1) (ints kk++[Value.int .i64 (R.nh.length:Int)]) ∈ Fs:=by rw[←AC.out,←HO.out]; simp only[FsH,zR,true_or,or_true]
 have AO:=yD hE;have M0:=yD m0;have M1:=yD m1;have M2:=yD m2
 have q0:(i:Int)<(R.nh.length:Int):=by omega
 have C4:=yD c4;have x1:=hP.x1' hA;clear h hG hi Az AQ hE m0 m1 m2 AU Ad AF hA c4 hP hbig
 go_enter Tryz.func206,Tryz.ntmps206
 have BY:Hid (w.alloc (.cells #[.int .u8 (xk:Int),.int .i64 (xp:Int),.string (yX xt),.int .i64 xn,.slice none 0 0,.slice eA l.length ec] 232)=W):=yD (by rw[HW.out]; rfl)
 go_upto_region 1 with fail
 rw[BY.out,A4.out]
 go_upto_region 2 with fail
 apply zDD o Fs 18 (by kernel_rfl) (by kernel_rfl) (by kernel_rfl) AO.out;dsimp only[List.take_succ_cons,List.take_zero,List.drop_succ_cons,List.drop_zero];apply sG jI.refl (.pointer (some ⟨p,0,none⟩));apply sG jI.refl (.pointer (some ⟨p,0,none⟩));apply sG jI.refl (.pointer (some ⟨p,1,none⟩));apply xA (.slice (some ⟨g,0,none⟩) R.nh.length R.c) rfl rfl rfl
 ·intro w' AA hH;have hR:=jI.refl (o:=o) (Fs:=Fs) w';have cc:=Blk.cell ((AA.1.block p AW AP.out).trans HP.out.blk) 1;rw[HA.out] at cc;clear hH AA;simp[yY,go_sem,cc,q0];exact hR
 apply sG jI.refl (.int .i64 (i:Int));apply sG jI.refl (.pointer (some ⟨p,0,none⟩));apply sG jI.refl (.pointer (some ⟨p,0,none⟩));apply sG jI.refl (.pointer (some ⟨p,1,none⟩));apply xA (.slice (some ⟨g,0,none⟩) R.nh.length R.c) rfl rfl rfl
 ·intro w' AA hH;have hR:=jI.refl (o:=o) (Fs:=Fs) w';have cc:=Blk.cell ((AA.1.block p AW AP.out).trans HP.out.blk) 1;rw[HA.out] at cc;clear hH AA;simp[yY,go_sem,cc,q0];exact hR
 apply sG jI.refl (.int .i64 (i:Int));apply xA (.pointer (some ⟨g,i*5,none⟩)) rfl rfl rfl
 ·intro w' AA hH;clear hH AA;simp[yY,go_sem,q0];exact jI.refl _
 apply xA (.pointer (some ⟨g,i*5+4,none⟩)) rfl rfl rfl
 ·intro w' AA hH;clear hH AA;simp[yY,go_sem,q0];exact jI.refl _
 (try simp only[Act.put,yA,yB,yC]);apply xA (.slice kA kk.length kc) rfl rfl rfl
 ·intro w' AA hH;have hR:=jI.refl (o:=o) (Fs:=Fs) w';have cc:=(World.cell?_of_block (w:=W) (a:=⟨g,i*5+4,none⟩) (AA.1.block g Aq As.out)).trans C4.out;clear hH AA;simp[yY,go_sem,cc,q0];exact hR
 apply sG jI.refl (.int .i64 (R.nh.length:Int));apply vF (zFn 3 W.heap.size #[Value.int .i64 (R.nh.length:Int)]) (fun v w w' h hx=>hx.2 _ M1.out v h) rfl rfl rfl
 ·intro w' AA hH;have hz:=AA.1.size;clear hH AA;simp[yY,go_sem];exact⟨⟨_,rfl,Blk.new _ _ _,hz⟩,jI.ext AO.out (Ext.alloc _ _)⟩
 intro BS;(try simp only[Act.put,yA,yB,yC]);apply vF (zRx B 3 o W.heap.size (kk.length+1) (ints kk++[Value.int .i64 (R.nh.length:Int)])) (fun v w w' h hx=>hx.2 _ M2.out v h) rfl rfl rfl
 ·intro w' AA hH;have AI:=hH _ (List.mem_cons_self ..) ⟨_,rfl,by decide⟩;have AN:=AA.2 _ M0.out undef BW.out;have hz:=AA.1.size;clear hH AA;rw[←AC.out,←HO.out];exact zHh B W.heap.size (.tmp 26) (.tmp 28) 32 rfl 3 i0 _ 8 Tryz.underlying32 A1 A9 A6 A5 rfl (.slice kA kk.length kc) kk.length (ints kk) [Value.int .i64 (R.nh.length:Int)] (by kernel_rfl) AN BS (by kernel_rfl) AI rfl (by simp[Value.oneCell']) (by unfold maxLen; have:=A8.out; omega) (by have:=A8.out; omega) (Nat.le_trans Bc.out hz) hz (fun g e=>AV.out g (by rw[←HO.out]; exact e))
 intro Bx;(try simp only[Act.put,yA,yB,yC]);apply xA (.pointer (some ⟨g,i*5,none⟩)) rfl rfl rfl
 ·intro w' AA hH;clear hH AA;simp[yY,go_sem,q0];exact jI.refl _
 apply xA (.pointer (some ⟨g,i*5+4,none⟩)) rfl rfl rfl
 ·intro w' AA hH;clear hH AA;simp[yY,go_sem,q0];exact jI.refl _
 apply vA;intro w2 Aj hH;have AY:=hH _ (List.mem_cons_self ..);clear hH;obtain⟨gk,cap,rfl⟩:=AY.1.at;have AL:=Aj.1;have Am:=Aj.1.block g Aq As.out;rw[←HO.out] at AL
 have HS:Hid (OkP W p B R (s.kid i) (w2.setCell ⟨g,i*5+4,none⟩ (.slice (some ⟨gk,0,none⟩) (kk.length+1) cap))):=yD (by
  have hh:=PS.kid (gk:=gk) (cap:=cap) HP.out i AT HA.out (w1:=w2) (by rw[AR.out]; exact AY.1.1) (by rw[AR.out]; exact AL) (by
   rw[AR.out]
   rcases AY.2 with e | ⟨g',e,BN⟩
   ·left; rw[HO.out,←e]; rfl
   ·right; have:gk=g':=by simpa [Value.ownBlock] using e
    omega)
  rw[AR.out] at hh
  exact hh)
 have y1:w2.cell? ⟨g,i*5+4,none⟩=some (.slice kA kk.length kc):=(World.cell?_of_block (w:=W) (a:=⟨g,i*5+4,none⟩) Am).trans C4.out;have z1:w2.frozen? ⟨g,i*5+4,none⟩=false:=(World.frozen?_of_block (w:=W) (a:=⟨g,i*5+4,none⟩) Am).trans (HP.out.zKq _ HA.out);clear AY AL Am Aj x1;(try simp only[Act.put,yA,yB,yC])
 go_upto_region 3 with fail
 clear y1 z1;generalize w2.setCell ⟨g,i*5+4,none⟩ (.slice (some ⟨gk,0,none⟩) (kk.length+1) cap)=w3 at *;obtain⟨R3,AB,AK⟩:=HS.out
 have Aw:R3.nh.length=R.nh.length:=by rw[←AB.len,←Ac.out]; exact zDQ
 have BA:=yD Aw;have Ab:=yD AB;have At:=yD AK;have AX:=yD (Bq.out.xJ AK);have Ai:=AX.out.1.lt;have AJ:=AB.blk.lt;clear Aw;clear A1 A9 A6 A5 i0 AW Aq AC AO M0 M1 M2 AP As AV HO;obtain⟨o,HO⟩:∃o,Hid ((Value.slice R3.A R3.nh.length R3.c).ownBlock=o):=⟨_,yD rfl⟩
 have AP:Hid (some p≠o):=yD fun e=>by
  rw[←HO.out] at e;obtain⟨BC,hc⟩:=ZN AB.ns.row (jB AB.ns.row e.symm);exact Blk.differ AB.blk hc (by decide) rfl
 have BZ:Hid (some gx≠o):=yD fun e=>by
  rw[←HO.out] at e;exact AX.out.2 (.inr (.inl (jB AB.ns.row e.symm)))
 have AV:Hid (∀g,o=some g→g<w3.heap.size):=yD fun g e=>by
  rw[←HO.out] at e;exact(VY AB.ns.row (jB AB.ns.row e)).2
 have Af:Hid (B≤w3.heap.size):=yD (Nat.le_trans AB.pB (zS AJ));obtain⟨Fs,AC⟩:∃Fs,Hid (FsK B 48 (.slice R3.A R3.nh.length R3.c) w3.heap.size R3.nh.length (ncs R3.nh) (YU (⟨xk,xp,xt,xn,[]⟩,(none,0)))=Fs):=⟨_,yD rfl⟩
 have hE:∀F ∈ Fs,∀v w w',F v w→Ext w w'→F v w':=by rw[←AC.out]; exact zLF _ _ _ _ _ _ _
 have m0:(fun (_:Value) w=>zAO B 48 R3.nh.length (ncs R3.nh) (.slice R3.A R3.nh.length R3.c) w) ∈ Fs:=by rw[←AC.out]; simp only[FsK,zR,true_or]
 have m1:zFn 48 w3.heap.size (YU (⟨xk,xp,xt,xn,[]⟩,(none,0))).toArray ∈ Fs:=by rw[←AC.out]; simp only[FsK,zR,true_or,or_true]
 have m2:zQU B 48 o w3.heap.size (R3.nh.length+1) (ncs R3.nh++YU (⟨xk,xp,xt,xn,[]⟩,(none,0))) ∈ Fs:=by rw[←AC.out,←HO.out]; simp only[FsK,zR,true_or,or_true]
 have AO:=yD hE;have M0:=yD m0;have M1:=yD m1;have M2:=yD m2;clear AB AK hE m0 m1 m2;apply zDD o Fs 11 (by kernel_rfl) (by kernel_rfl) (by kernel_rfl) AO.out;dsimp only[List.take_succ_cons,List.take_zero,List.drop_succ_cons,List.drop_zero];apply sG jI.refl (.pointer (some ⟨p,0,none⟩));apply sG jI.refl (.pointer (some ⟨p,0,none⟩));apply sG jI.refl (.pointer (some ⟨p,0,none⟩));apply sG jI.refl (.pointer (some ⟨p,1,none⟩));apply xA (.slice R3.A R3.nh.length R3.c) rfl rfl rfl
 ·intro w' AA hH;have hR:=jI.refl (o:=o) (Fs:=Fs) w';have cc:=Blk.cell ((AA.1.block p AJ AP.out).trans Ab.out.blk) 1;clear hH AA;simp[yY,go_sem,cc];exact hR
 apply sG jI.refl (.pointer (some ⟨gx,0,none⟩));apply xA (.agg #[.int .u8 (xk:Int),.int .i64 (xp:Int),.string (yX xt),.int .i64 xn,.slice none 0 0]) rfl rfl rfl
 ·intro w' AA hH;have hR:=jI.refl (o:=o) (Fs:=Fs) w';have bb:=(AA.1.block gx Ai BZ.out).trans AX.out.1;have c0:=Blk.cell bb 0;have c1:=Blk.cell bb 1;have c2:=Blk.cell bb 2;have c3:=Blk.cell bb 3;have c4:=Blk.cell bb 4;clear bb;simp only[jZ,yI,yJ,List.getElem?_cons_succ] at c0 c1 c2 c3 c4;clear hH AA;simp[yY,go_sem,c0,c1,c2,c3,c4];exact hR
 apply vF (zFn 48 w3.heap.size (YU (⟨xk,xp,xt,xn,[]⟩,(none,0))).toArray) (fun v w w' h hx=>hx.2 _ M1.out v h) rfl rfl rfl
 ·intro w' AA hH;have hz:=AA.1.size;clear hH AA;simp[yY,go_sem];exact⟨⟨_,rfl,Blk.new _ _ _,hz⟩,jI.ext AO.out (Ext.alloc _ _)⟩
 intro BF;(try simp only[Act.put,yA,yB,yC]);apply vF (zQU B 48 o w3.heap.size (R3.nh.length+1) (ncs R3.nh++YU (⟨xk,xp,xt,xn,[]⟩,(none,0)))) (fun v w w' h hx=>hx.2 _ M2.out v h) rfl rfl rfl
 ·intro w' AA hH;have AI:=hH _ (List.mem_cons_self ..) ⟨_,rfl,by decide⟩;have AN:=AA.2 _ M0.out undef Ab.out.ns.zW7;have hz:=AA.1.size;clear hH AA;rw[←AC.out,←HO.out];exact zHk B w3.heap.size (.tmp 36) (.tmp 39) 37 rfl 48 i1 _ 64 Tryz.underlying37 Bm BK BP Bo rfl (.slice R3.A R3.nh.length R3.c) R3.nh.length (ncs R3.nh) (YU (⟨xk,xp,xt,xn,[]⟩,(none,0))) (by kernel_rfl) AN BF (by kernel_rfl) AI rfl (zK5 _) (by unfold maxLen; have:=BA.out; omega) (by have:=BA.out; omega) (Nat.le_trans Af.out hz) hz (fun g e=>AV.out g (by rw[←HO.out]; exact e))
 intro Bw;(try simp only[Act.put,yA,yB,yC]);apply sG jI.refl (.pointer (some ⟨p,0,none⟩));apply sG jI.refl (.pointer (some ⟨p,1,none⟩));apply vA;intro w4 Ak hH;have Aa:=hH _ (List.mem_cons_self ..);clear hH;obtain⟨g4,AS,rfl⟩:=Aa.1.at;have AL:=Ak.1;rw[←HO.out] at AL;have Al:Blk w4 p 75 _:=(Ak.1.block p AJ AP.out).trans Ab.out.blk
 obtain⟨Ay,BB⟩:=PS.snoc (w:=w3) Ab.out (Ext.refl w3) ⟨xk,xp,xt,xn,[]⟩ rfl Aa.1.1 AL (by
  rcases Aa.2 with e | ⟨g',e,BN⟩
  ·left; rw[HO.out,←e]; rfl
  ·right; have:g4=g':=by simpa [Value.ownBlock] using e
   omega)
 have y1:w4.cell? ⟨p,1,none⟩=some (.slice R3.A R3.nh.length R3.c):=Al.cell 1;have z1:=Al.frozen 1;have Bg:Hid (OkP w3 p B R3 ((s.kid i).add ⟨xk,xp,xt,xn,[]⟩) (w4.setCell ⟨p,1,none⟩ (.slice (some ⟨g4,0,none⟩) (R3.nh.length+1) AS))):=yD ⟨_,Ay,BB⟩;clear Aa AL Al Ay BB Ak;(try simp only[Act.put,yA,yC,yB])
 go_upto_region 4 with fail
 clear y1 z1;generalize w4.setCell ⟨p,1,none⟩ (.slice (some ⟨g4,0,none⟩) (R3.nh.length+1) AS)=w5 at *;obtain⟨R5,AH,AE⟩:=Bg.out;have Bu:Hid (OkP w p B R ((s.kid i).add ⟨xk,xp,xt,xn,[]⟩) w5):=yD ⟨R5,AH,((xH.ext AZ.out).trans At.out).trans AE⟩;have Ag:=yD ((BT.out.xJ At.out).xJ AE);have BL:=yD (AX.out.xJ AE);have Bf:=yD AH;have c5:w5.cell? ⟨gx,5,none⟩=some (.slice eA l.length ec):=BL.out.1.cell 5;have Bj:=yD (((xH.ext (M:=xG p R) AZ.out).trans At.out).trans AE);clear AH AE
 go_wp2_with fail
 go_loopw [46] (fun i' wr=>∃(k:Nat) (R':xS),k≤l.length∧i'=.int .i64 k∧Hid (PS wr p B (zE5 s.nd.length (l.take k) ((s.kid i).add ⟨xk,xp,xt,xn,[]⟩)) R')∧Hid (xH w (xG p R) wr (xG p R'))∧Hid (zMP wr (xG p R') l eA ef)) (fun i' _=>l.length-(intOf i').toNat)
 case atStart=>exact⟨0,R5,zT _,rfl,Bf,Bj,Ag⟩
 case round=>
  obtain⟨k,R',hk,rfl,Av,A7,AM⟩:=hrel;obtain⟨wa,rfl⟩:∃wa:World,wa=wr:=⟨_,rfl⟩;have Bt:=BQ.out
  by_cases AD:k<l.length
  ·have d0:decide ((k:Int)<(l.length:Int))=true:=yP (by omega)
   have q1:(k:Int)<(l.length:Int):=by omega
   obtain⟨b,rfl,hb,Bv,AG⟩:∃b,eA=some ⟨b,0,none⟩∧b<wa.heap.size∧¬xG p R' b∧∀k,k<l.length→∀j,j<6→wa.cell? ⟨b,k*6+j,none⟩=(ef k)[j]?:=by
    rcases AM.out.2 with h | h
    ·rw[h] at AD; cases AD
    ·exact h
   have Ao:=AM.out.1 k AD;have Bi:=yD Ao;have Be:=yD (Ah.out l[k] (yL AD));obtain⟨A',c',f',Ap,_⟩:=Ao.open;have e0:=AG k AD 0 (by decide);have e1:=AG k AD 1 (by decide);have e2:=AG k AD 2 (by decide);have e3:=AG k AD 3 (by decide);have e4:=AG k AD 4 (by decide);have e5:=AG k AD 5 (by decide);rw[Ap] at e0 e1 e2 e3 e4 e5;have BE:=yD Ap;simp only[jZ,yJ,List.getElem?_cons_succ,Nat.add_zero] at e0 e1 e2 e3 e4 e5;clear Ao Ap AG;generalize l[k].node=y at *;obtain⟨yk,yp,yt,yn,Bk⟩:=y
   simp only at e0 e1 e2 e3 e4 e5
   generalize l[k].parts.length=ym at *;have Ar:Hid (xH wa (xG p R') (wa.alloc (.cells #[.int .u8 (yk:Int),.int .i64 (yp:Int),.string (yX yt),.int .i64 yn,.slice none 0 0,.slice A' ym c'] 232)) (xG p R')):=yD (xH.ext (Ext.alloc _ _));have Bb:=yD (Av.out.ext (Ext.alloc wa (.cells #[.int .u8 (yk:Int),.int .i64 (yp:Int),.string (yX yt),.int .i64 yn,.slice none 0 0,.slice A' ym c'] 232)));have BO:=yD (zLa s.nd.length l k AD ((s.kid i).add ⟨xk,xp,xt,xn,[]⟩));have Bh:Hid (Good (zE5 s.nd.length (l.take k) ((s.kid i).add ⟨xk,xp,xt,xn,[]⟩))):=yD (zK2 _ _ _ (zLM HG.out i _ rfl))
   have BI:Hid (R.nh.length<(zE5 s.nd.length (l.take k) ((s.kid i).add ⟨xk,xp,xt,xn,[]⟩)).nd.length):=yD (by
    have:=(zOd s.nd.length (l.take k) ((s.kid i).add ⟨xk,xp,xt,xn,[]⟩)).1
    rw[zBQ] at this
    have:=Ac.out
    omega)
   have Br:Hid ((zE5 s.nd.length (l.take k) ((s.kid i).add ⟨xk,xp,xt,xn,[]⟩)).nd.length+l[k].size≤1000000):=yD (by
    rw[zKM,zBQ];have h1:=zHr (l.map Ex.size) k (by simpa using AD);rw[←List.map_take,zA] at h1;have h2:=Bl.out;have h3:=BR.out
    omega)
   go_wp2_with fail
   refine(Bd.out l[k] (by have:=Be.out; have:=BJ.out; omega) _ p B _ R' R.nh.length (jZ ⟨yk,yp,yt,yn,Bk⟩ A' ym c') Bb.out Bh.out BI.out Br.out (by rw[←BE.out]; exact Bi.out.xJ Ar.out)).mono ?_;rintro e' w6 ⟨rfl,R6,An,Ae⟩;have BM:Hid (PS w6 p B (zE5 s.nd.length (l.take (k+1)) ((s.kid i).add ⟨xk,xp,xt,xn,[]⟩)) R6):=yD (by rw[BO.out,Ac.out] ; rw[Ac.out] at An; exact An);have Bp:=yD ((A7.out.trans Ar.out).trans Ae);have BV:=yD ((AM.out.xJ Ar.out).xJ Ae);clear An Ae
   go_wp2_with fail
   go_roundw
   case rel=>exact⟨k+1,R6,by omega,by go_num,BM,Bp,BV⟩
   case measure=>simp[intOf]; omega
  ·obtain rfl:k=l.length:=by omega
   have d0:decide ((l.length:Int)<(l.length:Int))=false:=by simp
   have d1:decide (l.length<l.length)=false:=by simp
   have Au:Hid (OkP w p B R (zAe i e s) wa):=yD (by
    rw[HQ.out];have h:=Av.out;rw[List.take_length] at h
    exact⟨R',h,A7.out⟩)
   go_wp2_with fail
   go_end0;exact⟨rfl,Au.out⟩
theorem zNW:∀(f:Nat) (e:Ex),e.size≤f→∀(w:World) (p B:Nat) (s:Ps) (R:xS) (i:Nat) (cs:List Value),PS w p B s R→Good s→i<s.nd.length→s.nd.length+e.size≤1000000→EX w (xG p R) e cs →
  Calls Tryz.prog 206 #[.pointer (some ⟨p,0,none⟩),.int .i64 (i:Int),.agg cs.toArray] w fun en w'=>en=.returned (.tuple #[])∧OkP w p B R (zAe i e s) w'
 | 0,e,hs=>by have:=e.zOn; omega
 | f+1,e,hs=>fun w p B s R i cs h1 h2 h3 h4 h5=>zRO f (zNW f) e hs w p B s R i cs h1 h2 h3 h4 h5
end Go.Proofs.YtioffpjajhalaaaGreatDoor
