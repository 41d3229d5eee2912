/- An expression in memory; the program's put: its nodes. Condition: the nodes fit into memory. -/
import Derived.Test.YtbadjmmjbpeocaaGreatDoorKaa
import Derived.Test.YtbadjmmjbpeocaaGreatDoorKaj
set_option linter.unusedVariables false
set_option linter.unusedSimpArgs false
set_option maxRecDepth 100000
set_option maxHeartbeats 16000000
namespace Go.Proofs.YtbadjmmjbpeocaaGreatDoor
open Go Go.RowKit
def Ex.node:Ex→Nd
 | .leaf k p t n=>⟨k,p,t,n,[]⟩
 | .neg p _=>⟨26,p,[],0,[]⟩
 | .bin k p _ _=>⟨k,p,[],0,[]⟩
def Ex.parts:Ex→List Ex
 | .leaf ..=>[]
 | .neg _ a=>[a]
 | .bin _ _ a b=>[a,b]
theorem Ex.zQi (e:Ex):e.node.kids=[]:=by cases e <;> rfl
theorem Ex.zMS (e:Ex):e.node.pos=e.pos:=by cases e <;> rfl
def zEZ (i:Nat):List Ex→Ps→Ps
 | [],s=>s
 | x::l,s=>zEZ i l (zB8 i x s)
theorem zTm (i:Nat)(e:Ex)(s:Ps):zB8 i e s=zEZ s.nd.length e.parts ((s.kid i).add e.node):=by cases e <;> rfl
theorem zKK (i:Nat):∀(l:List Ex) (k:Nat) (hk:k<l.length) (s:Ps),zEZ i (l.take (k+1)) s=zB8 i l[k] (zEZ i (l.take k) s)
 | x::l,0,_,s=>rfl
 | x::l,k+1,hk,s=>zKK i l k (by simpa using hk) (zB8 i x s)
theorem Ex.zQz (e:Ex):∀x ∈ e.parts,x.size<e.size:=by
 intro x hx
 cases e with
 | leaf=>cases hx
 | neg p a=>rw[List.mem_singleton.1 hx]; show a.size<a.size+1; omega
 | bin k p a b=>
  have hx':x ∈ [a,b]:=hx;simp only[zU,List.not_mem_nil,or_false] at hx'
  rcases hx' with rfl | rfl
  ·show x.size<x.size+b.size+1; omega
  ·show x.size<a.size+x.size+1; omega
theorem Ex.zQp (e:Ex):e.parts.length≤2:=by cases e <;> simp[Ex.parts]
def jZ (n:Nd)(A:Option Addr)(m c:Nat):List Value:=[.int .u8 (n.kind:Int),.int .i64 (n.pos:Int),.string (xI n.text),.int .i64 n.num,.slice none 0 0,.slice A m c]
def EX (w:World)(M:Nat→Prop):Ex→List Value→Prop
 | .leaf k p t n,cs=>cs=jZ ⟨k,p,t,n,[]⟩ none 0 0
 | .neg p a,cs=>∃g ca,cs=jZ ⟨26,p,[],0,[]⟩ (some ⟨g,0,none⟩) 1 1∧Safe w M g 225 ca.toArray∧EX w M a ca
 | .bin k p a b,cs=>∃g ca cb,cs=jZ ⟨k,p,[],0,[]⟩ (some ⟨g,0,none⟩) 2 2∧Safe w M g 225 (ca++cb).toArray∧EX w M a ca∧EX w M b cb
theorem EX.xG {w w':World}{M M':Nat→Prop}(k:xD w M w' M'):∀ {e:Ex} {cs:List Value},EX w M e cs→EX w' M' e cs
 | .leaf ..,_,h=>h
 | .neg ..,_,⟨g,ca,h1,h2,h3⟩=>⟨g,ca,h1,h2.xG k,EX.xG k h3⟩
 | .bin ..,_,⟨g,ca,cb,h1,h2,h3,h4⟩=>⟨g,ca,cb,h1,h2.xG k,EX.xG k h3,EX.xG k h4⟩
theorem EX.len {w:World}{M:Nat→Prop}:∀ {e:Ex} {cs:List Value},EX w M e cs→cs.length=6
 | .leaf ..,_,h=>by rw[h]; rfl
 | .neg ..,_,⟨g,ca,h1,h2,h3⟩=>by rw[h1]; rfl
 | .bin ..,_,⟨g,ca,cb,h1,h2,h3,h4⟩=>by rw[h1]; rfl
def zL9 (w:World)(M:Nat→Prop)(l:List Ex)(A:Option Addr)(f:Nat→List Value):Prop:=
 (∀k (hk:k<l.length),EX w M l[k] (f k))∧(l=[]∨∃b,A=some ⟨b,0,none⟩∧b<w.heap.size∧¬M b∧∀k,k<l.length→∀j,j<6→w.cell? ⟨b,k*6+j,none⟩=(f k)[j]?)
theorem zL9.xG {w w':World}{M M':Nat→Prop}{l:List Ex}{A:Option Addr}{f:Nat→List Value}(h:zL9 w M l A f)(k:xD w M w' M'):zL9 w' M' l A f:=by
 refine⟨fun j hj=>(h.1 j hj).xG k,?_⟩
 rcases h.2 with h | ⟨b,h1,h2,h3,h4⟩
 ·exact .inl h
 ·refine .inr ⟨b,h1,yU h2 k.size,fun h5=>by rcases k.zDv b h5 with h6 | h6 <;> first | exact h3 h6 | omega,fun i hi j hj=>?_⟩
  rw[World.cell?_of_block (w:=w) (k.jL b h2 h3)];exact h4 i hi j hj
theorem EX.open {w:World}{M:Nat→Prop}{e:Ex}{cs:List Value}(h:EX w M e cs):∃A c f,cs=jZ e.node A e.parts.length c∧zL9 w M e.parts A f:=by
 cases e with
 | leaf k p t n=>exact⟨none,0,fun _=>[],h,⟨fun k hk=>by simp[Ex.parts] at hk,.inl rfl⟩⟩
 | neg p a=>
  obtain⟨g,ca,h1,h2,h3⟩:=h;have hl:=h3.len;refine⟨_,_,fun _=>ca,h1,⟨fun k hk=>?_,.inr ⟨g,rfl,h2.1.lt,h2.2,fun k hk j hj=>?_⟩⟩⟩
  ·obtain rfl:k=0:=by simpa [Ex.parts] using hk
   exact h3
  ·obtain rfl:k=0:=by simpa [Ex.parts] using hk
   rw[Nat.zero_mul,Nat.zero_add,h2.1.cell j]
   simp
 | bin kd p a b=>
  obtain⟨g,ca,cb,h1,h2,h3,h4⟩:=h;have hl:=h3.len;refine⟨_,_,fun k=>if k=0 then ca else cb,h1,⟨fun k hk=>?_,.inr ⟨g,rfl,h2.1.lt,h2.2,fun k hk j hj=>?_⟩⟩⟩
  ·have hk':k<2:=hk
   match k,hk' with
   | 0,_=>exact h3
   | 1,_=>exact h4
  ·have hk':k<2:=hk;rw[h2.1.cell (k*6+j)]
   match k,hk' with
   | 0,_=>
    show(ca++cb).toArray[0*6+j]?=ca[j]?
    rw[Nat.zero_mul,Nat.zero_add,yL,List.getElem?_append_left (by omega)]
   | 1,_=>
    show(ca++cb).toArray[1*6+j]?=cb[j]?
    rw[yL,List.getElem?_append_right (by omega)]
    congr 1
    omega
theorem zLj {s:Ps}(h:Good s)(i:Nat)(x:Nd)(hx:x.kids=[]):Good ((s.kid i).add x):=⟨h.last,h.deep,zBB h.few i x hx⟩
theorem zNr (i:Nat):∀(l:List Ex) (s:Ps),s.nd.length≤(zEZ i l s).nd.length∧(zEZ i l s).ts=s.ts∧(zEZ i l s).deep=s.deep
 | [],s=>⟨zX _,rfl,rfl⟩
 | x::l,s=>by
  obtain⟨h1,h2,h3⟩:=zNr i l (zB8 i x s);obtain⟨k1,k2,k3⟩:=zCJ x i s;exact⟨by show _≤(zEZ i l (zB8 i x s)).nd.length; omega,h2.trans k2,h3.trans k3⟩
theorem zKz (i:Nat):∀(l:List Ex) (s:Ps),Good s→Good (zEZ i l s)
 | [],s,h=>h
 | x::l,s,h=>zKz i l _ (by
  obtain⟨k1,k2,k3⟩:=zCJ x i s
  exact⟨by rw[k2]; exact h.last,by rw[k3]; exact h.deep,zFE x i s h.few⟩)
theorem zKi (i:Nat):∀(l:List Ex) (s:Ps),(zEZ i l s).nd.length=s.nd.length+(l.map Ex.size).sum
 | [],s=>rfl
 | x::l,s=>by
  show(zEZ i l (zB8 i x s)).nd.length=_
  rw[zKi i l,(zCJ x i s).1,List.map_cons,List.sum_cons];omega
theorem Ex.zOG (e:Ex):e.size=(e.parts.map Ex.size).sum+1:=by cases e <;> simp[Ex.size,Ex.parts]
theorem zG3:∀(l:List Nat) (k:Nat) (hk:k<l.length),(l.take k).sum+l[k]≤l.sum
 | x::l,0,_=>by simp
 | x::l,k+1,hk=>by
  have:=zG3 l k (by simpa using hk)
  simp only[List.take_succ_cons,List.sum_cons,List.getElem_cons_succ];omega
theorem Ex.zNE:∀(e:Ex),0<e.size
 | .leaf ..=>Nat.zero_lt_one
 | .neg ..=>Nat.succ_pos _
 | .bin ..=>Nat.succ_pos _
theorem zQY (f:Nat)(ih:∀(e:Ex),e.size≤f→∀(w:World) (p B:Nat) (s:Ps) (R:xV) (i:Nat) (cs:List Value),PS w p B s R→Good s→i<s.nd.length→s.nd.length+e.size≤1000000→EX w (xL p R) e cs →
  Calls Tryz.prog 163 #[.pointer (some ⟨p,0,none⟩),.int .i64 (i:Int),.agg cs.toArray] w fun en w'=>en=.returned (.tuple #[])∧OkP w p B R (zB8 i e s) w')
  (e:Ex) (hsz:e.size≤f+1) (w:World) (p B:Nat) (s:Ps) (R:xV) (i:Nat) (cs:List Value) (h:PS w p B s R) (hG:Good s) (hi:i<s.nd.length) (hbig:s.nd.length+e.size≤1000000) (hx:EX w (xL p R) e cs) :
  Calls Tryz.prog 163 #[.pointer (some ⟨p,0,none⟩),.int .i64 (i:Int),.agg cs.toArray] w fun en w'=>en=.returned (.tuple #[])∧OkP w p B R (zB8 i e s) w':=by
 obtain⟨i0,hi0,hz0,hz1,hz2⟩:=info_parts zIq;obtain⟨i1,hi1,hy0,hy1,hy2⟩:=info_parts zMJ;obtain⟨eA,ec,ef,hcs,hpt⟩:=hx.open;have HQ:=yG (zTm i e s);have HSZ:=yG hsz;have HBG:=yG hbig;have HSP:=yG e.zOG;have HEP:=yG e.zNE;have HPF:=yG e.zQp;have hnk:=e.zQi;have hIH:=yG ih;have hps:=fun x (hx:x ∈ e.parts)=>e.zQz x hx;have HPS0:=yG hps;clear ih hsz hx hps;generalize e.parts=l at *;generalize e.node=x at *;obtain⟨xk,xp,xt,xn,xkids⟩:=x
 simp only at hnk
 subst hnk;subst hcs;have hlen:=h.len
 have hi':i<R.nh.length:=by omega
 obtain⟨g,hA⟩:=h.zRt (by omega);obtain⟨x,hxi⟩:∃x,R.nh[i]=x:=⟨_,rfl⟩;obtain⟨⟨nk,np,nt,nn,kk⟩,kA,kc⟩:=x;unfold jZ;obtain⟨gx,HGE⟩:∃gx,Hid (w.heap.size=gx):=⟨_,yG rfl⟩;obtain⟨W,HW⟩:∃W,Hid (W=w.alloc (.cells (jZ ⟨xk,xp,xt,xn,[]⟩ eA l.length ec).toArray 225)):=⟨_,yG rfl⟩;have HXW:Hid (Ext w W):=yG (by rw[HW.out]; exact Ext.alloc _ _);have HBX:Hid (Safe W (xL p R) gx 225 (jZ ⟨xk,xp,xt,xn,[]⟩ eA l.length ec).toArray):=yG (by rw[HW.out,←HGE.out]; exact h.fresh _ _);have hP:=h.ext HXW.out
 have c4:W.cell? ⟨g,i*5+4,none⟩=some (.slice kA kk.length kc):=by rw[hP.zC8 i hi' hA 4 (by decide),hxi]; rfl
 have hkr:=hP.ns.zU0 _ (yO hi');have hkk:=hP.ns.kids _ (yO hi');rw[hxi] at hkr hkk
 simp only at hkr hkk
 obtain⟨o,HO⟩:∃o,Hid ((Value.slice kA kk.length kc).ownBlock=o):=⟨_,yG rfl⟩
 have HPN:Hid (some p≠o):=yG fun e=>by
  rw[←HO.out] at e;obtain⟨cur,hc⟩:=xY hkk (xP hkk e.symm);exact Blk.differ hP.blk hc (by decide) rfl
 have HGN:Hid (some g≠o):=yG fun e=>by
  rw[←HO.out] at e;obtain⟨cur,hc⟩:=xY hkk (xP hkk e.symm);obtain⟨cur2,hc2⟩:=xY hP.ns.row hA;exact Blk.differ hc2 hc (by decide) rfl
 have HOG:Hid (∀g,o=some g→g<W.heap.size):=yG fun g e=>by
  rw[←HO.out] at e;exact(jE hkk (xP hkk e)).2
 have hgl:=(jE hP.ns.row hA).2;have hpl:=hP.blk.lt;have HBW:Hid (B≤W.heap.size):=yG (Nat.le_trans hP.pB (zV hpl));have HXI:=yG hxi;have HP:=yG hP;have HA:=yG hA;have HKR:=yG hkr;have HPT:=yG (hpt.xG (xD.ext (M:=xL p R) HXW.out));have HLN:=yG hlen;have HG:=yG hG
 have HKB:Hid (kk.length≤1000000):=yG (by
  have:=hG.few (R.nh[i].1) (by rw[h.nodes]; exact List.mem_map.2 ⟨_,yO hi',rfl⟩)
  rw[HXI.out] at this
  simp only at this
  omega)
 have hbig2:R.nh.length+1≤1000000:=by have:=HEP.out; omega
 obtain⟨Fs,HFS⟩:∃Fs,Hid (FsH B 3 (.slice kA kk.length kc) W.heap.size kk.length (ints kk) [Value.int .i64 (R.nh.length:Int)]=Fs):=⟨_,yG rfl⟩
 have hE:∀F ∈ Fs,∀v w w',F v w→Ext w w'→F v w':=by rw[←HFS.out]; exact zFW _ _ _ _ _ _ _
 have m0:(fun (_:Value) w=>VS B 3 kk.length (ints kk) (.slice kA kk.length kc) w) ∈ Fs:=by rw[←HFS.out]; simp only[FsH,zU,true_or]
 have m1:zBj 3 W.heap.size #[Value.int .i64 (R.nh.length:Int)] ∈ Fs:=by rw[←HFS.out]; simp only[FsH,zU,true_or,or_true]
 have m2:zJN B 3 o W.heap.size (kk.length+1) (ints kk++[Value.int .i64 (R.nh.length:Int)]) ∈ Fs:=by rw[←HFS.out,←HO.out]; simp only[FsH,zU,true_or,or_true]
 have HE2:=yG hE;have M0:=yG m0;have M1:=yG m1;have M2:=yG m2
 have q0:(i:Int)<(R.nh.length:Int):=by omega
 have C4:=yG c4;have x1:=hP.x1' hA;clear h hG hi hpt hlen hE m0 m1 m2 hxi hkr hkk hA c4 hP hbig
 go_enter Tryz.func163,Tryz.ntmps163
 have HWE:Hid (w.alloc (.cells #[.int .u8 (xk:Int),.int .i64 (xp:Int),.string (xI xt),.int .i64 xn,.slice none 0 0,.slice eA l.length ec] 225)=W):=yG (by rw[HW.out]; rfl)
 go_upto_region 1 with fail
 rw[HWE.out,HGE.out]
 go_upto_region 2 with fail
 apply zBd o Fs 18 (by kernel_rfl) (by kernel_rfl) (by kernel_rfl) HE2.out;dsimp only[List.take_succ_cons,List.take_zero,List.drop_succ_cons,List.drop_zero];apply yZ (.pointer (some ⟨p,0,none⟩)) rfl rfl rfl
 ·intro w' hw' hH;clear hH hw';simp[xB,go_sem];exact vG.refl _
 apply yZ (.pointer (some ⟨p,0,none⟩)) rfl rfl rfl
 ·intro w' hw' hH;clear hH hw';simp[xB,go_sem];exact vG.refl _
 apply yZ (.pointer (some ⟨p,1,none⟩)) rfl rfl rfl
 ·intro w' hw' hH;clear hH hw';simp[xB,go_sem];exact vG.refl _
 simp only[Act.put,yD,yE,yF];apply yZ (.slice (some ⟨g,0,none⟩) R.nh.length R.c) rfl rfl rfl
 ·intro w' hw' hH;have hR:=vG.refl (o:=o) (Fs:=Fs) w';have cc:=Blk.cell ((hw'.1.block p hpl HPN.out).trans HP.out.blk) 1;rw[HA.out] at cc;clear hH hw';simp[xB,go_sem,cc,q0];exact hR
 apply yZ (.int .i64 (i:Int)) rfl rfl rfl
 ·intro w' hw' hH;clear hH hw';simp[xB,go_sem];exact vG.refl _
 apply yZ (.pointer (some ⟨p,0,none⟩)) rfl rfl rfl
 ·intro w' hw' hH;clear hH hw';simp[xB,go_sem];exact vG.refl _
 apply yZ (.pointer (some ⟨p,0,none⟩)) rfl rfl rfl
 ·intro w' hw' hH;clear hH hw';simp[xB,go_sem];exact vG.refl _
 apply yZ (.pointer (some ⟨p,1,none⟩)) rfl rfl rfl
 ·intro w' hw' hH;clear hH hw';simp[xB,go_sem];exact vG.refl _
 simp only[Act.put,yD,yE,yF];apply yZ (.slice (some ⟨g,0,none⟩) R.nh.length R.c) rfl rfl rfl
 ·intro w' hw' hH;have hR:=vG.refl (o:=o) (Fs:=Fs) w';have cc:=Blk.cell ((hw'.1.block p hpl HPN.out).trans HP.out.blk) 1;rw[HA.out] at cc;clear hH hw';simp[xB,go_sem,cc,q0];exact hR
 apply yZ (.int .i64 (i:Int)) rfl rfl rfl
 ·intro w' hw' hH;clear hH hw';simp[xB,go_sem];exact vG.refl _
 simp only[Act.put,yD,yE,yF];apply yZ (.pointer (some ⟨g,i*5,none⟩)) rfl rfl rfl
 ·intro w' hw' hH;clear hH hw';simp[xB,go_sem,q0];exact vG.refl _
 apply yZ (.pointer (some ⟨g,i*5+4,none⟩)) rfl rfl rfl
 ·intro w' hw' hH;clear hH hw';simp[xB,go_sem,q0];exact vG.refl _
 simp only[Act.put,yD,yE,yF];apply yZ (.slice kA kk.length kc) rfl rfl rfl
 ·intro w' hw' hH;have hR:=vG.refl (o:=o) (Fs:=Fs) w';have cc:=(World.cell?_of_block (w:=W) (a:=⟨g,i*5+4,none⟩) (hw'.1.block g hgl HGN.out)).trans C4.out;clear hH hw';simp[xB,go_sem,cc,q0];exact hR
 apply yZ (.int .i64 (R.nh.length:Int)) rfl rfl rfl
 ·intro w' hw' hH;clear hH hw';simp[xB,go_sem];exact vG.refl _
 apply vE (zBj 3 W.heap.size #[Value.int .i64 (R.nh.length:Int)]) (fun v w w' h hx=>hx.2 _ M1.out v h) rfl rfl rfl
 ·intro w' hw' hH;have hz:=hw'.1.size;clear hH hw';simp[xB,go_sem];exact⟨⟨_,rfl,Blk.new _ _ _,hz⟩,vG.ext HE2.out (Ext.alloc _ _)⟩
 intro v28;simp only[Act.put,yD,yE,yF];apply vE (zJN B 3 o W.heap.size (kk.length+1) (ints kk++[Value.int .i64 (R.nh.length:Int)])) (fun v w w' h hx=>hx.2 _ M2.out v h) rfl rfl rfl
 ·intro w' hw' hH;have hlit:=hH _ (List.mem_cons_self ..) ⟨_,rfl,by decide⟩;have hrow:=hw'.2 _ M0.out undef HKR.out;have hz:=hw'.1.size;clear hH hw';rw[←HFS.out,←HO.out];exact zCK B W.heap.size (.tmp 26) (.tmp 28) 33 rfl 3 i0 _ 8 Tryz.underlying33 hi0 hz0 hz1 hz2 rfl (.slice kA kk.length kc) kk.length (ints kk) [Value.int .i64 (R.nh.length:Int)] (by kernel_rfl) hrow v28 (by kernel_rfl) hlit rfl (by simp[Value.oneCell']) (by unfold maxLen; have:=HKB.out; omega) (by have:=HKB.out; omega) (Nat.le_trans HBW.out hz) hz (fun g e=>HOG.out g (by rw[←HO.out]; exact e))
 intro v29;simp only[Act.put,yD,yE,yF];apply yZ (.pointer (some ⟨g,i*5,none⟩)) rfl rfl rfl
 ·intro w' hw' hH;clear hH hw';simp[xB,go_sem,q0];exact vG.refl _
 apply yZ (.pointer (some ⟨g,i*5+4,none⟩)) rfl rfl rfl
 ·intro w' hw' hH;clear hH hw';simp[xB,go_sem,q0];exact vG.refl _
 apply vC;intro w2 hw2 hH;have h28:=hH _ (List.mem_cons_self ..);clear hH;obtain⟨gk,cap,rfl⟩:=h28.1.at;have hgr:=hw2.1;have hgb:=hw2.1.block g hgl HGN.out;rw[←HO.out] at hgr
 have HS:Hid (OkP W p B R (s.kid i) (w2.setCell ⟨g,i*5+4,none⟩ (.slice (some ⟨gk,0,none⟩) (kk.length+1) cap))):=yG (by
  have hh:=PS.kid (gk:=gk) (cap:=cap) HP.out i hi' HA.out (w1:=w2) (by rw[HXI.out]; exact h28.1.1) (by rw[HXI.out]; exact hgr) (by
   rw[HXI.out]
   rcases h28.2 with e | ⟨g',e,hg'⟩
   ·left; rw[HO.out,←e]; rfl
   ·right; have:gk=g':=by simpa [Value.ownBlock] using e
    omega)
  rw[HXI.out] at hh
  exact hh)
 have y1:w2.cell? ⟨g,i*5+4,none⟩=some (.slice kA kk.length kc):=(World.cell?_of_block (w:=W) (a:=⟨g,i*5+4,none⟩) hgb).trans C4.out;have z1:w2.frozen? ⟨g,i*5+4,none⟩=false:=(World.frozen?_of_block (w:=W) (a:=⟨g,i*5+4,none⟩) hgb).trans (HP.out.zJY _ HA.out);clear h28 hgr hgb hw2 x1;simp only[Act.put,yD,yE,yF]
 go_upto_region 3 with fail
 clear y1 z1;generalize w2.setCell ⟨g,i*5+4,none⟩ (.slice (some ⟨gk,0,none⟩) (kk.length+1) cap)=w3 at *;obtain⟨R3,hps3,hmv3⟩:=HS.out
 have hl3:R3.nh.length=R.nh.length:=by rw[←hps3.len,←HLN.out]; exact zDL
 have HL3:=yG hl3;have HP3:=yG hps3;have HM3:=yG hmv3;have HB3:=yG (HBX.out.xG hmv3);have hb3l:=HB3.out.1.lt;have hpl3:=hps3.blk.lt;clear hl3;clear hi0 hz0 hz1 hz2 i0 hpl hgl HFS HE2 M0 M1 M2 HPN HGN HOG HO;obtain⟨o,HO⟩:∃o,Hid ((Value.slice R3.A R3.nh.length R3.c).ownBlock=o):=⟨_,yG rfl⟩
 have HPN:Hid (some p≠o):=yG fun e=>by
  rw[←HO.out] at e;obtain⟨cur,hc⟩:=xY hps3.ns.row (xP hps3.ns.row e.symm);exact Blk.differ hps3.blk hc (by decide) rfl
 have HXN:Hid (some gx≠o):=yG fun e=>by
  rw[←HO.out] at e;exact HB3.out.2 (.inr (.inl (xP hps3.ns.row e.symm)))
 have HOG:Hid (∀g,o=some g→g<w3.heap.size):=yG fun g e=>by
  rw[←HO.out] at e;exact(jE hps3.ns.row (xP hps3.ns.row e)).2
 have HBW3:Hid (B≤w3.heap.size):=yG (Nat.le_trans hps3.pB (zV hpl3));obtain⟨Fs,HFS⟩:∃Fs,Hid (FsK B 39 (.slice R3.A R3.nh.length R3.c) w3.heap.size R3.nh.length (ncs R3.nh) (YH (⟨xk,xp,xt,xn,[]⟩,(none,0)))=Fs):=⟨_,yG rfl⟩
 have hE:∀F ∈ Fs,∀v w w',F v w→Ext w w'→F v w':=by rw[←HFS.out]; exact zIr _ _ _ _ _ _ _
 have m0:(fun (_:Value) w=>zAj B 39 R3.nh.length (ncs R3.nh) (.slice R3.A R3.nh.length R3.c) w) ∈ Fs:=by rw[←HFS.out]; simp only[FsK,zU,true_or]
 have m1:zBj 39 w3.heap.size (YH (⟨xk,xp,xt,xn,[]⟩,(none,0))).toArray ∈ Fs:=by rw[←HFS.out]; simp only[FsK,zU,true_or,or_true]
 have m2:zMv B 39 o w3.heap.size (R3.nh.length+1) (ncs R3.nh++YH (⟨xk,xp,xt,xn,[]⟩,(none,0))) ∈ Fs:=by rw[←HFS.out,←HO.out]; simp only[FsK,zU,true_or,or_true]
 have HE2:=yG hE;have M0:=yG m0;have M1:=yG m1;have M2:=yG m2;clear hps3 hmv3 hE m0 m1 m2;apply zBd o Fs 11 (by kernel_rfl) (by kernel_rfl) (by kernel_rfl) HE2.out;dsimp only[List.take_succ_cons,List.take_zero,List.drop_succ_cons,List.drop_zero];apply yZ (.pointer (some ⟨p,0,none⟩)) rfl rfl rfl
 ·intro w' hw' hH;clear hH hw';simp[xB,go_sem];exact vG.refl _
 apply yZ (.pointer (some ⟨p,0,none⟩)) rfl rfl rfl
 ·intro w' hw' hH;clear hH hw';simp[xB,go_sem];exact vG.refl _
 apply yZ (.pointer (some ⟨p,0,none⟩)) rfl rfl rfl
 ·intro w' hw' hH;clear hH hw';simp[xB,go_sem];exact vG.refl _
 apply yZ (.pointer (some ⟨p,1,none⟩)) rfl rfl rfl
 ·intro w' hw' hH;clear hH hw';simp[xB,go_sem];exact vG.refl _
 simp only[Act.put,yD,yE,yF];apply yZ (.slice R3.A R3.nh.length R3.c) rfl rfl rfl
 ·intro w' hw' hH;have hR:=vG.refl (o:=o) (Fs:=Fs) w';have cc:=Blk.cell ((hw'.1.block p hpl3 HPN.out).trans HP3.out.blk) 1;clear hH hw';simp[xB,go_sem,cc];exact hR
 apply yZ (.pointer (some ⟨gx,0,none⟩)) rfl rfl rfl
 ·intro w' hw' hH;clear hH hw';simp[xB,go_sem];exact vG.refl _
 simp only[Act.put,yD,yE,yF];apply yZ (.agg #[.int .u8 (xk:Int),.int .i64 (xp:Int),.string (xI xt),.int .i64 xn,.slice none 0 0]) rfl rfl rfl
 ·intro w' hw' hH;have hR:=vG.refl (o:=o) (Fs:=Fs) w';have bb:=(hw'.1.block gx hb3l HXN.out).trans HB3.out.1;have c0:=Blk.cell bb 0;have c1:=Blk.cell bb 1;have c2:=Blk.cell bb 2;have c3:=Blk.cell bb 3;have c4:=Blk.cell bb 4;clear bb;simp only[jZ,yL,yM,List.getElem?_cons_succ] at c0 c1 c2 c3 c4;clear hH hw';simp[xB,go_sem,c0,c1,c2,c3,c4];exact hR
 apply vE (zBj 39 w3.heap.size (YH (⟨xk,xp,xt,xn,[]⟩,(none,0))).toArray) (fun v w w' h hx=>hx.2 _ M1.out v h) rfl rfl rfl
 ·intro w' hw' hH;have hz:=hw'.1.size;clear hH hw';simp[xB,go_sem];exact⟨⟨_,rfl,Blk.new _ _ _,hz⟩,vG.ext HE2.out (Ext.alloc _ _)⟩
 intro v39;simp only[Act.put,yD,yE,yF];apply vE (zMv B 39 o w3.heap.size (R3.nh.length+1) (ncs R3.nh++YH (⟨xk,xp,xt,xn,[]⟩,(none,0)))) (fun v w w' h hx=>hx.2 _ M2.out v h) rfl rfl rfl
 ·intro w' hw' hH;have hlit:=hH _ (List.mem_cons_self ..) ⟨_,rfl,by decide⟩;have hrow:=hw'.2 _ M0.out undef HP3.out.ns.zU8;have hz:=hw'.1.size;clear hH hw';rw[←HFS.out,←HO.out];exact zEj B w3.heap.size (.tmp 36) (.tmp 39) 24 rfl 39 i1 _ 64 Tryz.underlying24 hi1 hy0 hy1 hy2 rfl (.slice R3.A R3.nh.length R3.c) R3.nh.length (ncs R3.nh) (YH (⟨xk,xp,xt,xn,[]⟩,(none,0))) (by kernel_rfl) hrow v39 (by kernel_rfl) hlit rfl (zKF _) (by unfold maxLen; have:=HL3.out; omega) (by have:=HL3.out; omega) (Nat.le_trans HBW3.out hz) hz (fun g e=>HOG.out g (by rw[←HO.out]; exact e))
 intro v40;simp only[Act.put,yD,yE,yF];apply yZ (.pointer (some ⟨p,0,none⟩)) rfl rfl rfl
 ·intro w' hw' hH;clear hH hw';simp[xB,go_sem];exact vG.refl _
 apply yZ (.pointer (some ⟨p,1,none⟩)) rfl rfl rfl
 ·intro w' hw' hH;clear hH hw';simp[xB,go_sem];exact vG.refl _
 apply vC;intro w4 hw4 hH;have h26:=hH _ (List.mem_cons_self ..);clear hH;obtain⟨g4,cap4,rfl⟩:=h26.1.at;have hgr:=hw4.1;rw[←HO.out] at hgr;have hb3:Blk w4 p 72 _:=(hw4.1.block p hpl3 HPN.out).trans HP3.out.blk
 obtain⟨hs1,hs2⟩:=PS.snoc (w:=w3) HP3.out (Ext.refl w3) ⟨xk,xp,xt,xn,[]⟩ rfl h26.1.1 hgr (by
  rcases h26.2 with e | ⟨g',e,hg'⟩
  ·left; rw[HO.out,←e]; rfl
  ·right; have:g4=g':=by simpa [Value.ownBlock] using e
   omega)
 have y1:w4.cell? ⟨p,1,none⟩=some (.slice R3.A R3.nh.length R3.c):=hb3.cell 1;have z1:=hb3.frozen 1;have HS4:Hid (OkP w3 p B R3 ((s.kid i).add ⟨xk,xp,xt,xn,[]⟩) (w4.setCell ⟨p,1,none⟩ (.slice (some ⟨g4,0,none⟩) (R3.nh.length+1) cap4))):=yG ⟨_,hs1,hs2⟩;clear h26 hgr hb3 hs1 hs2 hw4;simp only[Act.put,yD,yF,yE]
 go_upto_region 4 with fail
 clear y1 z1;generalize w4.setCell ⟨p,1,none⟩ (.slice (some ⟨g4,0,none⟩) (R3.nh.length+1) cap4)=w5 at *;obtain⟨R5,hps5,hmv5⟩:=HS4.out;have HS5:Hid (OkP w p B R ((s.kid i).add ⟨xk,xp,xt,xn,[]⟩) w5):=yG ⟨R5,hps5,((xD.ext HXW.out).trans HM3.out).trans hmv5⟩;have HPT5:=yG ((HPT.out.xG HM3.out).xG hmv5);have HB5:=yG (HB3.out.xG hmv5);have HP5:=yG hps5;have c5:w5.cell? ⟨gx,5,none⟩=some (.slice eA l.length ec):=HB5.out.1.cell 5;have HWM:=yG (((xD.ext (M:=xL p R) HXW.out).trans HM3.out).trans hmv5);clear hps5 hmv5
 go_wp2_with fail
 go_loopw [46] (fun i' wr=>∃(k:Nat) (R':xV),k≤l.length∧i'=.int .i64 k∧Hid (PS wr p B (zEZ s.nd.length (l.take k) ((s.kid i).add ⟨xk,xp,xt,xn,[]⟩)) R')∧Hid (xD w (xL p R) wr (xL p R'))∧Hid (zL9 wr (xL p R') l eA ef)) (fun i' _=>l.length-(intOf i').toNat)
 case atStart=>exact⟨0,R5,zW _,rfl,HP5,HWM,HPT5⟩
 case round=>
  obtain⟨k,R',hk,rfl,HPK,HMK,HPTK⟩:=hrel;obtain⟨wa,rfl⟩:∃wa:World,wa=wr:=⟨_,rfl⟩;have hl2:=HPF.out
  by_cases hlt:k<l.length
  ·have d0:decide ((k:Int)<(l.length:Int))=true:=yS (by omega)
   have q1:(k:Int)<(l.length:Int):=by omega
   obtain⟨b,rfl,hb,hbM,hcc⟩:∃b,eA=some ⟨b,0,none⟩∧b<wa.heap.size∧¬xL p R' b∧∀k,k<l.length→∀j,j<6→wa.cell? ⟨b,k*6+j,none⟩=(ef k)[j]?:=by
    rcases HPTK.out.2 with h | h
    ·rw[h] at hlt; cases hlt
    ·exact h
   have hex:=HPTK.out.1 k hlt;have HEX:=yG hex;have HXS:=yG (HPS0.out l[k] (yO hlt));obtain⟨A',c',f',he',_⟩:=hex.open;have e0:=hcc k hlt 0 (by decide);have e1:=hcc k hlt 1 (by decide);have e2:=hcc k hlt 2 (by decide);have e3:=hcc k hlt 3 (by decide);have e4:=hcc k hlt 4 (by decide);have e5:=hcc k hlt 5 (by decide);rw[he'] at e0 e1 e2 e3 e4 e5;have HHE:=yG he';simp only[jZ,yM,List.getElem?_cons_succ,Nat.add_zero] at e0 e1 e2 e3 e4 e5;clear hex he' hcc;generalize l[k].node=y at *;obtain⟨yk,yp,yt,yn,yks⟩:=y
   simp only at e0 e1 e2 e3 e4 e5
   generalize l[k].parts.length=ym at *;have HXA:Hid (xD wa (xL p R') (wa.alloc (.cells #[.int .u8 (yk:Int),.int .i64 (yp:Int),.string (xI yt),.int .i64 yn,.slice none 0 0,.slice A' ym c'] 225)) (xL p R')):=yG (xD.ext (Ext.alloc _ _));have HXP:=yG (HPK.out.ext (Ext.alloc wa (.cells #[.int .u8 (yk:Int),.int .i64 (yp:Int),.string (xI yt),.int .i64 yn,.slice none 0 0,.slice A' ym c'] 225)));have HSN:=yG (zKK s.nd.length l k hlt ((s.kid i).add ⟨xk,xp,xt,xn,[]⟩));have HGK:Hid (Good (zEZ s.nd.length (l.take k) ((s.kid i).add ⟨xk,xp,xt,xn,[]⟩))):=yG (zKz _ _ _ (zLj HG.out i _ rfl))
   have HIK:Hid (R.nh.length<(zEZ s.nd.length (l.take k) ((s.kid i).add ⟨xk,xp,xt,xn,[]⟩)).nd.length):=yG (by
    have:=(zNr s.nd.length (l.take k) ((s.kid i).add ⟨xk,xp,xt,xn,[]⟩)).1
    rw[zBK] at this
    have:=HLN.out
    omega)
   have HBK:Hid ((zEZ s.nd.length (l.take k) ((s.kid i).add ⟨xk,xp,xt,xn,[]⟩)).nd.length+l[k].size≤1000000):=yG (by
    rw[zKi,zBK];have h1:=zG3 (l.map Ex.size) k (by simpa using hlt);rw[←List.map_take,zA] at h1;have h2:=HSP.out;have h3:=HBG.out
    omega)
   go_wp2_with fail
   refine(hIH.out l[k] (by have:=HXS.out; have:=HSZ.out; omega) _ p B _ R' R.nh.length (jZ ⟨yk,yp,yt,yn,yks⟩ A' ym c') HXP.out HGK.out HIK.out HBK.out (by rw[←HHE.out]; exact HEX.out.xG HXA.out)).mono ?_;rintro e' w6 ⟨rfl,R6,hp6,hm6⟩;have HP6:Hid (PS w6 p B (zEZ s.nd.length (l.take (k+1)) ((s.kid i).add ⟨xk,xp,xt,xn,[]⟩)) R6):=yG (by rw[HSN.out,HLN.out] ; rw[HLN.out] at hp6; exact hp6);have HM6:=yG ((HMK.out.trans HXA.out).trans hm6);have HT6:=yG ((HPTK.out.xG HXA.out).xG hm6);clear hp6 hm6
   go_wp2_with fail
   go_roundw
   case rel=>exact⟨k+1,R6,by omega,by go_num,HP6,HM6,HT6⟩
   case measure=>simp[intOf]; omega
  ·obtain rfl:k=l.length:=by omega
   have d0:decide ((l.length:Int)<(l.length:Int))=false:=by simp
   have d1:decide (l.length<l.length)=false:=by simp
   have HPF2:Hid (OkP w p B R (zB8 i e s) wa):=yG (by
    rw[HQ.out];have h:=HPK.out;rw[List.take_length] at h
    exact⟨R',h,HMK.out⟩)
   go_wp2_with fail
   go_end0;exact⟨rfl,HPF2.out⟩
theorem zNd:∀(f:Nat) (e:Ex),e.size≤f→∀(w:World) (p B:Nat) (s:Ps) (R:xV) (i:Nat) (cs:List Value),PS w p B s R→Good s→i<s.nd.length→s.nd.length+e.size≤1000000→EX w (xL p R) e cs →
  Calls Tryz.prog 163 #[.pointer (some ⟨p,0,none⟩),.int .i64 (i:Int),.agg cs.toArray] w fun en w'=>en=.returned (.tuple #[])∧OkP w p B R (zB8 i e s) w'
 | 0,e,hs=>by have:=e.zNE; omega
 | f+1,e,hs=>fun w p B s R i cs h1 h2 h3 h4 h5=>zQY f (zNd f) e hs w p B s R i cs h1 h2 h3 h4 h5
end Go.Proofs.YtbadjmmjbpeocaaGreatDoor
