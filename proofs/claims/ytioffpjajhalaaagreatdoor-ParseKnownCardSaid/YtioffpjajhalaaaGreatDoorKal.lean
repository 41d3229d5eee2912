/- An expression in memory; the program's put: its nodes. Condition: the nodes fit into memory. -/
import Derived.Test.YtioffpjajhalaaaGreatDoorKaa
import Derived.Test.YtioffpjajhalaaaGreatDoorKak
set_option linter.unusedVariables false
set_option linter.unusedSimpArgs false
set_option maxRecDepth 100000
set_option maxHeartbeats 16000000
namespace Go.Proofs.YtioffpjajhalaaaGreatDoor
open Go Go.RowKit
def Ex.node:Ex→Nd
 | .leaf k p t n=>⟨k,p,t,n,[]⟩
 | .neg p _=>⟨26,p,[],0,[]⟩
 | .bin k p _ _=>⟨k,p,[],0,[]⟩
def Ex.parts:Ex→List Ex
 | .leaf ..=>[]
 | .neg _ a=>[a]
 | .bin _ _ a b=>[a,b]
theorem Ex.zKU (e:Ex):e.node.kids=[]:=by cases e <;> rfl
theorem Ex.zEP (e:Ex):e.node.pos=e.pos:=by cases e <;> rfl
def zDG (i:Nat):List Ex→Ps→Ps
 | [],s=>s
 | x::l,s=>zDG i l (JW i x s)
theorem zPj (i:Nat)(e:Ex)(s:Ps):JW i e s=zDG s.nd.length e.parts ((s.kid i).add e.node):=by cases e <;> rfl
theorem zHj (i:Nat):∀(l:List Ex) (k:Nat) (hk:k<l.length) (s:Ps),zDG i (l.take (k+1)) s=JW i l[k] (zDG i (l.take k) s)
 | x::l,0,_,s=>rfl
 | x::l,k+1,hk,s=>zHj i l k (by simpa using hk) (JW i x s)
theorem Ex.zLa (e:Ex):∀x ∈ e.parts,x.size<e.size:=by
 intro x hx
 cases e with
 | leaf=>cases hx
 | neg p a=>rw[List.mem_singleton.1 hx]; show a.size<a.size+1; omega
 | bin k p a b=>
  have AA:x ∈ [a,b]:=hx;simp only[zR,List.not_mem_nil,or_false] at AA
  rcases AA with rfl | rfl
  ·show x.size<x.size+b.size+1; omega
  ·show x.size<a.size+x.size+1; omega
theorem Ex.zK4 (e:Ex):e.parts.length≤2:=by cases e <;> simp[Ex.parts]
def ZM (n:Nd)(A:Option Addr)(m c:Nat):List Value:=[.int .u8 (n.kind:Int),.int .i64 (n.pos:Int),.string (xE n.text),.int .i64 n.num,.slice none 0 0,.slice A m c]
def EX (w:World)(M:Nat→Prop):Ex→List Value→Prop
 | .leaf k p t n,cs=>cs=ZM ⟨k,p,t,n,[]⟩ none 0 0
 | .neg p a,cs=>∃g ca,cs=ZM ⟨26,p,[],0,[]⟩ (some ⟨g,0,none⟩) 1 1∧Safe w M g 232 ca.toArray∧EX w M a ca
 | .bin k p a b,cs=>∃g ca cb,cs=ZM ⟨k,p,[],0,[]⟩ (some ⟨g,0,none⟩) 2 2∧Safe w M g 232 (ca++cb).toArray∧EX w M a ca∧EX w M b cb
theorem EX.xC {w w':World}{M M':Nat→Prop}(k:yZ w M w' M'):∀ {e:Ex} {cs:List Value},EX w M e cs→EX w' M' e cs
 | .leaf ..,_,h=>h
 | .neg ..,_,⟨g,ca,h1,h2,h3⟩=>⟨g,ca,h1,h2.xC k,EX.xC k h3⟩
 | .bin ..,_,⟨g,ca,cb,h1,h2,h3,h4⟩=>⟨g,ca,cb,h1,h2.xC k,EX.xC k h3,EX.xC k h4⟩
theorem EX.len {w:World}{M:Nat→Prop}:∀ {e:Ex} {cs:List Value},EX w M e cs→cs.length=6
 | .leaf ..,_,h=>by rw[h]; rfl
 | .neg ..,_,⟨g,ca,h1,h2,h3⟩=>by rw[h1]; rfl
 | .bin ..,_,⟨g,ca,cb,h1,h2,h3,h4⟩=>by rw[h1]; rfl
def zMJ (w:World)(M:Nat→Prop)(l:List Ex)(A:Option Addr)(f:Nat→List Value):Prop:=
 (∀k (hk:k<l.length),EX w M l[k] (f k))∧(l=[]∨∃b,A=some ⟨b,0,none⟩∧b<w.heap.size∧¬M b∧∀k,k<l.length→∀j,j<6→w.cell? ⟨b,k*6+j,none⟩=(f k)[j]?)
theorem zMJ.xC {w w':World}{M M':Nat→Prop}{l:List Ex}{A:Option Addr}{f:Nat→List Value}(h:zMJ w M l A f)(k:yZ w M w' M'):zMJ w' M' l A f:=by
 refine⟨fun j hj=>(h.1 j hj).xC k,?_⟩
 rcases h.2 with h | ⟨b,h1,h2,h3,h4⟩
 ·exact .inl h
 ·refine .inr ⟨b,h1,yS h2 k.size,fun h5=>by rcases k.zFK b h5 with h6 | h6 <;> first | exact h3 h6 | omega,fun i hi j hj=>?_⟩
  rw[World.cell?_of_block (w:=w) (k.VS b h2 h3)];exact h4 i hi j hj
theorem EX.open {w:World}{M:Nat→Prop}{e:Ex}{cs:List Value}(h:EX w M e cs):∃A c f,cs=ZM e.node A e.parts.length c∧zMJ w M e.parts A f:=by
 cases e with
 | leaf k p t n=>exact⟨none,0,fun _=>[],h,⟨fun k hk=>by simp[Ex.parts] at hk,.inl rfl⟩⟩
 | neg p a=>
  obtain⟨g,ca,h1,h2,h3⟩:=h;have hl:=h3.len;refine⟨_,_,fun _=>ca,h1,⟨fun k hk=>?_,.inr ⟨g,rfl,h2.1.lt,h2.2,fun k hk j hj=>?_⟩⟩⟩
  ·obtain rfl:k=0:=by simpa [Ex.parts] using hk
   exact h3
  ·obtain rfl:k=0:=by simpa [Ex.parts] using hk
   rw[Nat.zero_mul,Nat.zero_add,h2.1.cell j]
   simp
 | bin kd p a b=>
  obtain⟨g,ca,cb,h1,h2,h3,h4⟩:=h;have hl:=h3.len;refine⟨_,_,fun k=>if k=0 then ca else cb,h1,⟨fun k hk=>?_,.inr ⟨g,rfl,h2.1.lt,h2.2,fun k hk j hj=>?_⟩⟩⟩
  ·have AA:k<2:=hk
   match k,AA with
   | 0,_=>exact h3
   | 1,_=>exact h4
  ·have AA:k<2:=hk;rw[h2.1.cell (k*6+j)]
   match k,AA with
   | 0,_=>
    show(ca++cb).toArray[0*6+j]?=ca[j]?
    rw[Nat.zero_mul,Nat.zero_add,yJ,List.getElem?_append_left (by omega)]
   | 1,_=>
    show(ca++cb).toArray[1*6+j]?=cb[j]?
    rw[yJ,List.getElem?_append_right (by omega)]
    congr 1
    omega
theorem zLJ {s:Ps}(h:Good s)(i:Nat)(x:Nd)(hx:x.kids=[]):Good ((s.kid i).add x):=⟨h.last,h.deep,zAT h.few i x hx⟩
theorem zKf (i:Nat):∀(l:List Ex) (s:Ps),s.nd.length≤(zDG i l s).nd.length∧(zDG i l s).ts=s.ts∧(zDG i l s).deep=s.deep
 | [],s=>⟨zU _,rfl,rfl⟩
 | x::l,s=>by
  obtain⟨h1,h2,h3⟩:=zKf i l (JW i x s);obtain⟨k1,k2,k3⟩:=zA6 x i s;exact⟨by show _≤(zDG i l (JW i x s)).nd.length; omega,h2.trans k2,h3.trans k3⟩
theorem zLc (i:Nat):∀(l:List Ex) (s:Ps),Good s→Good (zDG i l s)
 | [],s,h=>h
 | x::l,s,h=>zLc i l _ (by
  obtain⟨k1,k2,k3⟩:=zA6 x i s
  exact⟨by rw[k2]; exact h.last,by rw[k3]; exact h.deep,zFb x i s h.few⟩)
theorem zG5 (i:Nat):∀(l:List Ex) (s:Ps),(zDG i l s).nd.length=s.nd.length+(l.map Ex.size).sum
 | [],s=>rfl
 | x::l,s=>by
  show(zDG i l (JW i x s)).nd.length=_
  rw[zG5 i l,(zA6 x i s).1,List.map_cons,List.sum_cons];omega
theorem Ex.zJ2 (e:Ex):e.size=(e.parts.map Ex.size).sum+1:=by cases e <;> simp[Ex.size,Ex.parts]
theorem zEN:∀(l:List Nat) (k:Nat) (hk:k<l.length),(l.take k).sum+l[k]≤l.sum
 | x::l,0,_=>by simp
 | x::l,k+1,hk=>by
  have:=zEN l k (by simpa using hk)
  simp only[List.take_succ_cons,List.sum_cons,List.getElem_cons_succ];omega
theorem Ex.zGI:∀(e:Ex),0<e.size
 | .leaf ..=>Nat.zero_lt_one
 | .neg ..=>Nat.succ_pos _
 | .bin ..=>Nat.succ_pos _
theorem zRg (f:Nat)(ih:∀(e:Ex),e.size≤f→∀(w:World) (p B:Nat) (s:Ps) (R:vC) (i:Nat) (cs:List Value),PS w p B s R→Good s→i<s.nd.length→s.nd.length+e.size≤1000000→EX w (xO p R) e cs →
  Calls Tryz.prog 206 #[.pointer (some ⟨p,0,none⟩),.int .i64 (i:Int),.agg cs.toArray] w fun en w'=>en=.returned (.tuple #[])∧OkP w p B R (JW i e s) w')
  (e:Ex) (hsz:e.size≤f+1) (w:World) (p B:Nat) (s:Ps) (R:vC) (i:Nat) (cs:List Value) (h:PS w p B s R) (hG:Good s) (hi:i<s.nd.length) (hbig:s.nd.length+e.size≤1000000) (hx:EX w (xO p R) e cs) :
  Calls Tryz.prog 206 #[.pointer (some ⟨p,0,none⟩),.int .i64 (i:Int),.agg cs.toArray] w fun en w'=>en=.returned (.tuple #[])∧OkP w p B R (JW i e s) w':=by
 obtain⟨i0,Av,A0,A7,A3⟩:=info_parts zE3;obtain⟨i1,Bb,Bh,Bj,BO⟩:=info_parts zNc;obtain⟨eA,ec,ef,BM,BA⟩:=hx.open;have HQ:=yE (zPj i e s);have Ba:=yE hsz;have BQ:=yE hbig;have Bn:=yE e.zJ2;have Bf:=yE e.zGI;have Bc:=yE e.zK4;have A2:=e.zKU;have BW:=yE ih;have A6:=fun x (hx:x ∈ e.parts)=>e.zLa x hx;have Ak:=yE A6;clear ih hsz hx A6;generalize e.parts=l at *;generalize e.node=x at *;obtain⟨xk,xp,xt,xn,A1⟩:=x
 simp only at A2
 subst A2;subst BM;have AQ:=h.len
 have AT:i<R.nh.length:=by omega
 obtain⟨g,hA⟩:=h.zKI (by omega);obtain⟨x,Ac⟩:∃x,R.nh[i]=x:=⟨_,rfl⟩;obtain⟨⟨nk,np,nt,nn,kk⟩,kA,kc⟩:=x;unfold ZM;obtain⟨gx,Aw⟩:∃gx,Hid (w.heap.size=gx):=⟨_,yE rfl⟩;obtain⟨W,HW⟩:∃W,Hid (W=w.alloc (.cells (ZM ⟨xk,xp,xt,xn,[]⟩ eA l.length ec).toArray 232)):=⟨_,yE rfl⟩;have AU:Hid (Ext w W):=yE (by rw[HW.out]; exact Ext.alloc _ _);have Bk:Hid (Safe W (xO p R) gx 232 (ZM ⟨xk,xp,xt,xn,[]⟩ eA l.length ec).toArray):=yE (by rw[HW.out,←Aw.out]; exact h.fresh _ _);have hP:=h.ext AU.out
 have c4:W.cell? ⟨g,i*5+4,none⟩=some (.slice kA kk.length kc):=by rw[hP.jP i AT hA 4 (by decide),Ac]; rfl
 have Ab:=hP.ns.zUe _ (yM AT);have AF:=hP.ns.kids _ (yM AT);rw[Ac] at Ab AF
 simp only at Ab AF
 obtain⟨o,HO⟩:∃o,Hid ((Value.slice kA kk.length kc).ownBlock=o):=⟨_,yE rfl⟩
 have AO:Hid (some p≠o):=yE fun e=>by
  rw[←HO.out] at e;obtain⟨A5,hc⟩:=vZ AF (vH AF e.symm);exact Blk.differ hP.blk hc (by decide) rfl
 have At:Hid (some g≠o):=yE fun e=>by
  rw[←HO.out] at e;obtain⟨A5,hc⟩:=vZ AF (vH AF e.symm);obtain⟨BU,Bd⟩:=vZ hP.ns.row hA;exact Blk.differ Bd hc (by decide) rfl
 have AZ:Hid (∀g,o=some g→g<W.heap.size):=yE fun g e=>by
  rw[←HO.out] at e;exact(YP AF (vH AF e)).2
 have Al:=(YP hP.ns.row hA).2;have AV:=hP.blk.lt;have BN:Hid (B≤W.heap.size):=yE (Nat.le_trans hP.pB (zS AV));have AR:=yE Ac;have HP:=yE hP;have HA:=yE hA;have BE:=yE Ab;have BV:=yE (BA.xC (yZ.ext (M:=xO p R) AU.out));have Aa:=yE AQ;have HG:=yE hG
 have Ax:Hid (kk.length≤1000000):=yE (by
  have:=hG.few (R.nh[i].1) (by rw[h.nodes]; exact List.mem_map.2 ⟨_,yM AT,rfl⟩)
  rw[AR.out] at this
  simp only at this
  omega)
 have Ay:R.nh.length+1≤1000000:=by have:=Bf.out; omega
 obtain⟨Fs,AD⟩:∃Fs,Hid (FsH B 3 (.slice kA kk.length kc) W.heap.size kk.length (ints kk) [Value.int .i64 (R.nh.length:Int)]=Fs):=⟨_,yE rfl⟩
 have hE:∀F ∈ Fs,∀v w w',F v w→Ext w w'→F v w':=by rw[←AD.out]; exact zI8 _ _ _ _ _ _ _
 have m0:(fun (_:Value) w=>zAK B 3 kk.length (ints kk) (.slice kA kk.length kc) w) ∈ Fs:=by rw[←AD.out]; simp only[FsH,zR,true_or]
 have m1:zDq 3 W.heap.size #[Value.int .i64 (R.nh.length:Int)] ∈ Fs:=by rw[←AD.out]; simp only[FsH,zR,true_or,or_true]
 have m2:zNv B 3 o W.heap.size (kk.length+1) (ints kk++[Value.int .i64 (R.nh.length:Int)]) ∈ Fs:=by rw[←AD.out,←HO.out]; simp only[FsH,zR,true_or,or_true]
 have AP:=yE hE;have M0:=yE m0;have M1:=yE m1;have M2:=yE m2
 have q0:(i:Int)<(R.nh.length:Int):=by omega
 have C4:=yE c4;have x1:=hP.x1' hA;clear h hG hi BA AQ hE m0 m1 m2 Ac Ab AF hA c4 hP hbig
 go_enter Tryz.func206,Tryz.ntmps206
 have Bg:Hid (w.alloc (.cells #[.int .u8 (xk:Int),.int .i64 (xp:Int),.string (xE xt),.int .i64 xn,.slice none 0 0,.slice eA l.length ec] 232)=W):=yE (by rw[HW.out]; rfl)
 go_upto_region 1 with fail
 rw[Bg.out,Aw.out]
 go_upto_region 2 with fail
 apply zAO o Fs 18 (by kernel_rfl) (by kernel_rfl) (by kernel_rfl) AP.out;dsimp only[List.take_succ_cons,List.take_zero,List.drop_succ_cons,List.drop_zero];apply sG vK.refl (.pointer (some ⟨p,0,none⟩));apply sG vK.refl (.pointer (some ⟨p,0,none⟩));apply sG vK.refl (.pointer (some ⟨p,1,none⟩));apply xN (.slice (some ⟨g,0,none⟩) R.nh.length R.c) rfl rfl rfl
 ·intro w' AA hH;have hR:=vK.refl (o:=o) (Fs:=Fs) w';have cc:=Blk.cell ((AA.1.block p AV AO.out).trans HP.out.blk) 1;rw[HA.out] at cc;clear hH AA;simp[xH,go_sem,cc,q0];exact hR
 apply sG vK.refl (.int .i64 (i:Int));apply sG vK.refl (.pointer (some ⟨p,0,none⟩));apply sG vK.refl (.pointer (some ⟨p,0,none⟩));apply sG vK.refl (.pointer (some ⟨p,1,none⟩));apply xN (.slice (some ⟨g,0,none⟩) R.nh.length R.c) rfl rfl rfl
 ·intro w' AA hH;have hR:=vK.refl (o:=o) (Fs:=Fs) w';have cc:=Blk.cell ((AA.1.block p AV AO.out).trans HP.out.blk) 1;rw[HA.out] at cc;clear hH AA;simp[xH,go_sem,cc,q0];exact hR
 apply sG vK.refl (.int .i64 (i:Int));apply xN (.pointer (some ⟨g,i*5,none⟩)) rfl rfl rfl
 ·intro w' AA hH;clear hH AA;simp[xH,go_sem,q0];exact vK.refl _
 apply xN (.pointer (some ⟨g,i*5+4,none⟩)) rfl rfl rfl
 ·intro w' AA hH;clear hH AA;simp[xH,go_sem,q0];exact vK.refl _
 (try simp only[Act.put,yB,yC,yD]);apply xN (.slice kA kk.length kc) rfl rfl rfl
 ·intro w' AA hH;have hR:=vK.refl (o:=o) (Fs:=Fs) w';have cc:=(World.cell?_of_block (w:=W) (a:=⟨g,i*5+4,none⟩) (AA.1.block g Al At.out)).trans C4.out;clear hH AA;simp[xH,go_sem,cc,q0];exact hR
 apply sG vK.refl (.int .i64 (R.nh.length:Int));apply ZK (zDq 3 W.heap.size #[Value.int .i64 (R.nh.length:Int)]) (fun v w w' h hx=>hx.2 _ M1.out v h) rfl rfl rfl
 ·intro w' AA hH;have hz:=AA.1.size;clear hH AA;simp[xH,go_sem];exact⟨⟨_,rfl,Blk.new _ _ _,hz⟩,vK.ext AP.out (Ext.alloc _ _)⟩
 intro BX;(try simp only[Act.put,yB,yC,yD]);apply ZK (zNv B 3 o W.heap.size (kk.length+1) (ints kk++[Value.int .i64 (R.nh.length:Int)])) (fun v w w' h hx=>hx.2 _ M2.out v h) rfl rfl rfl
 ·intro w' AA hH;have AJ:=hH _ (List.mem_cons_self ..) ⟨_,rfl,by decide⟩;have AM:=AA.2 _ M0.out undef BE.out;have hz:=AA.1.size;clear hH AA;rw[←AD.out,←HO.out];exact zED B W.heap.size (.tmp 26) (.tmp 28) 32 rfl 3 i0 _ 8 Tryz.underlying32 Av A0 A7 A3 rfl (.slice kA kk.length kc) kk.length (ints kk) [Value.int .i64 (R.nh.length:Int)] (by kernel_rfl) AM BX (by kernel_rfl) AJ rfl (by simp[Value.oneCell']) (by unfold maxLen; have:=Ax.out; omega) (by have:=Ax.out; omega) (Nat.le_trans BN.out hz) hz (fun g e=>AZ.out g (by rw[←HO.out]; exact e))
 intro Bp;(try simp only[Act.put,yB,yC,yD]);apply xN (.pointer (some ⟨g,i*5,none⟩)) rfl rfl rfl
 ·intro w' AA hH;clear hH AA;simp[xH,go_sem,q0];exact vK.refl _
 apply xN (.pointer (some ⟨g,i*5+4,none⟩)) rfl rfl rfl
 ·intro w' AA hH;clear hH AA;simp[xH,go_sem,q0];exact vK.refl _
 apply ZQ;intro w2 Aj hH;have Ad:=hH _ (List.mem_cons_self ..);clear hH;obtain⟨gk,cap,rfl⟩:=Ad.1.at;have AN:=Aj.1;have Af:=Aj.1.block g Al At.out;rw[←HO.out] at AN
 have HS:Hid (OkP W p B R (s.kid i) (w2.setCell ⟨g,i*5+4,none⟩ (.slice (some ⟨gk,0,none⟩) (kk.length+1) cap))):=yE (by
  have hh:=PS.kid (gk:=gk) (cap:=cap) HP.out i AT HA.out (w1:=w2) (by rw[AR.out]; exact Ad.1.1) (by rw[AR.out]; exact AN) (by
   rw[AR.out]
   rcases Ad.2 with e | ⟨g',e,BS⟩
   ·left; rw[HO.out,←e]; rfl
   ·right; have:gk=g':=by simpa [Value.ownBlock] using e
    omega)
  rw[AR.out] at hh
  exact hh)
 have y1:w2.cell? ⟨g,i*5+4,none⟩=some (.slice kA kk.length kc):=(World.cell?_of_block (w:=W) (a:=⟨g,i*5+4,none⟩) Af).trans C4.out;have z1:w2.frozen? ⟨g,i*5+4,none⟩=false:=(World.frozen?_of_block (w:=W) (a:=⟨g,i*5+4,none⟩) Af).trans (HP.out.JZ _ HA.out);clear Ad AN Af Aj x1;(try simp only[Act.put,yB,yC,yD])
 go_upto_region 3 with fail
 clear y1 z1;generalize w2.setCell ⟨g,i*5+4,none⟩ (.slice (some ⟨gk,0,none⟩) (kk.length+1) cap)=w3 at *;obtain⟨R3,AB,AH⟩:=HS.out
 have BB:R3.nh.length=R.nh.length:=by rw[←AB.len,←Aa.out]; exact zBC
 have BC:=yE BB;have AX:=yE AB;have Ah:=yE AH;have AW:=yE (Bk.out.xC AH);have An:=AW.out.1.lt;have AK:=AB.blk.lt;clear BB;clear Av A0 A7 A3 i0 AV Al AD AP M0 M1 M2 AO At AZ HO;obtain⟨o,HO⟩:∃o,Hid ((Value.slice R3.A R3.nh.length R3.c).ownBlock=o):=⟨_,yE rfl⟩
 have AO:Hid (some p≠o):=yE fun e=>by
  rw[←HO.out] at e;obtain⟨A5,hc⟩:=vZ AB.ns.row (vH AB.ns.row e.symm);exact Blk.differ AB.blk hc (by decide) rfl
 have BT:Hid (some gx≠o):=yE fun e=>by
  rw[←HO.out] at e;exact AW.out.2 (.inr (.inl (vH AB.ns.row e.symm)))
 have AZ:Hid (∀g,o=some g→g<w3.heap.size):=yE fun g e=>by
  rw[←HO.out] at e;exact(YP AB.ns.row (vH AB.ns.row e)).2
 have As:Hid (B≤w3.heap.size):=yE (Nat.le_trans AB.pB (zS AK));obtain⟨Fs,AD⟩:∃Fs,Hid (FsK B 48 (.slice R3.A R3.nh.length R3.c) w3.heap.size R3.nh.length (ncs R3.nh) (jL (⟨xk,xp,xt,xn,[]⟩,(none,0)))=Fs):=⟨_,yE rfl⟩
 have hE:∀F ∈ Fs,∀v w w',F v w→Ext w w'→F v w':=by rw[←AD.out]; exact zF8 _ _ _ _ _ _ _
 have m0:(fun (_:Value) w=>zAB B 48 R3.nh.length (ncs R3.nh) (.slice R3.A R3.nh.length R3.c) w) ∈ Fs:=by rw[←AD.out]; simp only[FsK,zR,true_or]
 have m1:zDq 48 w3.heap.size (jL (⟨xk,xp,xt,xn,[]⟩,(none,0))).toArray ∈ Fs:=by rw[←AD.out]; simp only[FsK,zR,true_or,or_true]
 have m2:zKt B 48 o w3.heap.size (R3.nh.length+1) (ncs R3.nh++jL (⟨xk,xp,xt,xn,[]⟩,(none,0))) ∈ Fs:=by rw[←AD.out,←HO.out]; simp only[FsK,zR,true_or,or_true]
 have AP:=yE hE;have M0:=yE m0;have M1:=yE m1;have M2:=yE m2;clear AB AH hE m0 m1 m2;apply zAO o Fs 11 (by kernel_rfl) (by kernel_rfl) (by kernel_rfl) AP.out;dsimp only[List.take_succ_cons,List.take_zero,List.drop_succ_cons,List.drop_zero];apply sG vK.refl (.pointer (some ⟨p,0,none⟩));apply sG vK.refl (.pointer (some ⟨p,0,none⟩));apply sG vK.refl (.pointer (some ⟨p,0,none⟩));apply sG vK.refl (.pointer (some ⟨p,1,none⟩));apply xN (.slice R3.A R3.nh.length R3.c) rfl rfl rfl
 ·intro w' AA hH;have hR:=vK.refl (o:=o) (Fs:=Fs) w';have cc:=Blk.cell ((AA.1.block p AK AO.out).trans AX.out.blk) 1;clear hH AA;simp[xH,go_sem,cc];exact hR
 apply sG vK.refl (.pointer (some ⟨gx,0,none⟩));apply xN (.agg #[.int .u8 (xk:Int),.int .i64 (xp:Int),.string (xE xt),.int .i64 xn,.slice none 0 0]) rfl rfl rfl
 ·intro w' AA hH;have hR:=vK.refl (o:=o) (Fs:=Fs) w';have bb:=(AA.1.block gx An BT.out).trans AW.out.1;have c0:=Blk.cell bb 0;have c1:=Blk.cell bb 1;have c2:=Blk.cell bb 2;have c3:=Blk.cell bb 3;have c4:=Blk.cell bb 4;clear bb;simp only[ZM,yJ,yK,List.getElem?_cons_succ] at c0 c1 c2 c3 c4;clear hH AA;simp[xH,go_sem,c0,c1,c2,c3,c4];exact hR
 apply ZK (zDq 48 w3.heap.size (jL (⟨xk,xp,xt,xn,[]⟩,(none,0))).toArray) (fun v w w' h hx=>hx.2 _ M1.out v h) rfl rfl rfl
 ·intro w' AA hH;have hz:=AA.1.size;clear hH AA;simp[xH,go_sem];exact⟨⟨_,rfl,Blk.new _ _ _,hz⟩,vK.ext AP.out (Ext.alloc _ _)⟩
 intro BZ;(try simp only[Act.put,yB,yC,yD]);apply ZK (zKt B 48 o w3.heap.size (R3.nh.length+1) (ncs R3.nh++jL (⟨xk,xp,xt,xn,[]⟩,(none,0)))) (fun v w w' h hx=>hx.2 _ M2.out v h) rfl rfl rfl
 ·intro w' AA hH;have AJ:=hH _ (List.mem_cons_self ..) ⟨_,rfl,by decide⟩;have AM:=AA.2 _ M0.out undef AX.out.ns.zTD;have hz:=AA.1.size;clear hH AA;rw[←AD.out,←HO.out];exact zDc B w3.heap.size (.tmp 36) (.tmp 39) 37 rfl 48 i1 _ 64 Tryz.underlying37 Bb Bh Bj BO rfl (.slice R3.A R3.nh.length R3.c) R3.nh.length (ncs R3.nh) (jL (⟨xk,xp,xt,xn,[]⟩,(none,0))) (by kernel_rfl) AM BZ (by kernel_rfl) AJ rfl (zFp _) (by unfold maxLen; have:=BC.out; omega) (by have:=BC.out; omega) (Nat.le_trans As.out hz) hz (fun g e=>AZ.out g (by rw[←HO.out]; exact e))
 intro Br;(try simp only[Act.put,yB,yC,yD]);apply sG vK.refl (.pointer (some ⟨p,0,none⟩));apply sG vK.refl (.pointer (some ⟨p,1,none⟩));apply ZQ;intro w4 Ai hH;have AY:=hH _ (List.mem_cons_self ..);clear hH;obtain⟨g4,AS,rfl⟩:=AY.1.at;have AN:=Ai.1;rw[←HO.out] at AN;have Ao:Blk w4 p 75 _:=(Ai.1.block p AK AO.out).trans AX.out.blk
 obtain⟨A9,Az⟩:=PS.snoc (w:=w3) AX.out (Ext.refl w3) ⟨xk,xp,xt,xn,[]⟩ rfl AY.1.1 AN (by
  rcases AY.2 with e | ⟨g',e,BS⟩
  ·left; rw[HO.out,←e]; rfl
  ·right; have:g4=g':=by simpa [Value.ownBlock] using e
   omega)
 have y1:w4.cell? ⟨p,1,none⟩=some (.slice R3.A R3.nh.length R3.c):=Ao.cell 1;have z1:=Ao.frozen 1;have BD:Hid (OkP w3 p B R3 ((s.kid i).add ⟨xk,xp,xt,xn,[]⟩) (w4.setCell ⟨p,1,none⟩ (.slice (some ⟨g4,0,none⟩) (R3.nh.length+1) AS))):=yE ⟨_,A9,Az⟩;clear AY AN Ao A9 Az Ai;(try simp only[Act.put,yB,yD,yC])
 go_upto_region 4 with fail
 clear y1 z1;generalize w4.setCell ⟨p,1,none⟩ (.slice (some ⟨g4,0,none⟩) (R3.nh.length+1) AS)=w5 at *;obtain⟨R5,AL,AE⟩:=BD.out;have Bt:Hid (OkP w p B R ((s.kid i).add ⟨xk,xp,xt,xn,[]⟩) w5):=yE ⟨R5,AL,((yZ.ext AU.out).trans Ah.out).trans AE⟩;have Ae:=yE ((BV.out.xC Ah.out).xC AE);have BK:=yE (AW.out.xC AE);have BG:=yE AL;have c5:w5.cell? ⟨gx,5,none⟩=some (.slice eA l.length ec):=BK.out.1.cell 5;have BL:=yE (((yZ.ext (M:=xO p R) AU.out).trans Ah.out).trans AE);clear AL AE
 go_wp2_with fail
 go_loopw [46] (fun i' wr=>∃(k:Nat) (R':vC),k≤l.length∧i'=.int .i64 k∧Hid (PS wr p B (zDG s.nd.length (l.take k) ((s.kid i).add ⟨xk,xp,xt,xn,[]⟩)) R')∧Hid (yZ w (xO p R) wr (xO p R'))∧Hid (zMJ wr (xO p R') l eA ef)) (fun i' _=>l.length-(intOf i').toNat)
 case atStart=>exact⟨0,R5,zT _,rfl,BG,BL,Ae⟩
 case round=>
  obtain⟨k,R',hk,rfl,A8,A4,AI⟩:=hrel;obtain⟨wa,rfl⟩:∃wa:World,wa=wr:=⟨_,rfl⟩;have Bq:=Bc.out
  by_cases AC:k<l.length
  ·have d0:decide ((k:Int)<(l.length:Int))=true:=yQ (by omega)
   have q1:(k:Int)<(l.length:Int):=by omega
   obtain⟨b,rfl,hb,Bu,AG⟩:∃b,eA=some ⟨b,0,none⟩∧b<wa.heap.size∧¬xO p R' b∧∀k,k<l.length→∀j,j<6→wa.cell? ⟨b,k*6+j,none⟩=(ef k)[j]?:=by
    rcases AI.out.2 with h | h
    ·rw[h] at AC; cases AC
    ·exact h
   have Ap:=AI.out.1 k AC;have Bo:=yE Ap;have BH:=yE (Ak.out l[k] (yM AC));obtain⟨A',c',f',Au,_⟩:=Ap.open;have e0:=AG k AC 0 (by decide);have e1:=AG k AC 1 (by decide);have e2:=AG k AC 2 (by decide);have e3:=AG k AC 3 (by decide);have e4:=AG k AC 4 (by decide);have e5:=AG k AC 5 (by decide);rw[Au] at e0 e1 e2 e3 e4 e5;have Bi:=yE Au;simp only[ZM,yK,List.getElem?_cons_succ,Nat.add_zero] at e0 e1 e2 e3 e4 e5;clear Ap Au AG;generalize l[k].node=y at *;obtain⟨yk,yp,yt,yn,BJ⟩:=y
   simp only at e0 e1 e2 e3 e4 e5
   generalize l[k].parts.length=ym at *;have Ar:Hid (yZ wa (xO p R') (wa.alloc (.cells #[.int .u8 (yk:Int),.int .i64 (yp:Int),.string (xE yt),.int .i64 yn,.slice none 0 0,.slice A' ym c'] 232)) (xO p R')):=yE (yZ.ext (Ext.alloc _ _));have Be:=yE (A8.out.ext (Ext.alloc wa (.cells #[.int .u8 (yk:Int),.int .i64 (yp:Int),.string (xE yt),.int .i64 yn,.slice none 0 0,.slice A' ym c'] 232)));have BF:=yE (zHj s.nd.length l k AC ((s.kid i).add ⟨xk,xp,xt,xn,[]⟩));have Bm:Hid (Good (zDG s.nd.length (l.take k) ((s.kid i).add ⟨xk,xp,xt,xn,[]⟩))):=yE (zLc _ _ _ (zLJ HG.out i _ rfl))
   have BP:Hid (R.nh.length<(zDG s.nd.length (l.take k) ((s.kid i).add ⟨xk,xp,xt,xn,[]⟩)).nd.length):=yE (by
    have:=(zKf s.nd.length (l.take k) ((s.kid i).add ⟨xk,xp,xt,xn,[]⟩)).1
    rw[zAo] at this
    have:=Aa.out
    omega)
   have BR:Hid ((zDG s.nd.length (l.take k) ((s.kid i).add ⟨xk,xp,xt,xn,[]⟩)).nd.length+l[k].size≤1000000):=yE (by
    rw[zG5,zAo];have h1:=zEN (l.map Ex.size) k (by simpa using AC);rw[←List.map_take,zA] at h1;have h2:=Bn.out;have h3:=BQ.out
    omega)
   go_wp2_with fail
   refine(BW.out l[k] (by have:=BH.out; have:=Ba.out; omega) _ p B _ R' R.nh.length (ZM ⟨yk,yp,yt,yn,BJ⟩ A' ym c') Be.out Bm.out BP.out BR.out (by rw[←Bi.out]; exact Bo.out.xC Ar.out)).mono ?_;rintro e' w6 ⟨rfl,R6,Ag,Am⟩;have BY:Hid (PS w6 p B (zDG s.nd.length (l.take (k+1)) ((s.kid i).add ⟨xk,xp,xt,xn,[]⟩)) R6):=yE (by rw[BF.out,Aa.out] ; rw[Aa.out] at Ag; exact Ag);have BI:=yE ((A4.out.trans Ar.out).trans Am);have Bl:=yE ((AI.out.xC Ar.out).xC Am);clear Ag Am
   go_wp2_with fail
   go_roundw
   case rel=>exact⟨k+1,R6,by omega,by go_num,BY,BI,Bl⟩
   case measure=>simp[intOf]; omega
  ·obtain rfl:k=l.length:=by omega
   have d0:decide ((l.length:Int)<(l.length:Int))=false:=by simp
   have d1:decide (l.length<l.length)=false:=by simp
   have Aq:Hid (OkP w p B R (JW i e s) wa):=yE (by
    rw[HQ.out];have h:=A8.out;rw[List.take_length] at h
    exact⟨R',h,A4.out⟩)
   go_wp2_with fail
   go_end0;exact⟨rfl,Aq.out⟩
theorem zNH:∀(f:Nat) (e:Ex),e.size≤f→∀(w:World) (p B:Nat) (s:Ps) (R:vC) (i:Nat) (cs:List Value),PS w p B s R→Good s→i<s.nd.length→s.nd.length+e.size≤1000000→EX w (xO p R) e cs →
  Calls Tryz.prog 206 #[.pointer (some ⟨p,0,none⟩),.int .i64 (i:Int),.agg cs.toArray] w fun en w'=>en=.returned (.tuple #[])∧OkP w p B R (JW i e s) w'
 | 0,e,hs=>by have:=e.zGI; omega
 | f+1,e,hs=>fun w p B s R i cs h1 h2 h3 h4 h5=>zRg f (zNH f) e hs w p B s R i cs h1 h2 h3 h4 h5
end Go.Proofs.YtioffpjajhalaaaGreatDoor
