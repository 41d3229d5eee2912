/- An expression in memory; the program's put: its nodes. (and what follows of it). The conditions stand at each lemma. -/
import Derived.Test.YtbadjmmjbpeocaaGreatJaa
import Derived.Test.YtbadjmmjbpeocaaGreatJao
import Derived.ScopeJumps
import Derived.WalkMore
set_option linter.unusedVariables false
set_option linter.unusedSimpArgs false
set_option maxRecDepth 100000
set_option maxHeartbeats 16000000
namespace Go.Proofs.YtbadjmmjbpeocaaGreat
open Go Go.RowKit
def Ex.node:Ex→Nd
 | .leaf k p t n=>⟨k,p,t,n,[]⟩
 | .neg p _=>⟨26,p,[],0,[]⟩
 | .bin k p _ _=>⟨k,p,[],0,[]⟩
def Ex.parts:Ex→List Ex
 | .leaf ..=>[]
 | .neg _ a=>[a]
 | .bin _ _ a b=>[a,b]
theorem Ex.zP9 (e:Ex):e.node.kids=[]:=by cases e <;> rfl
theorem Ex.zMZ (e:Ex):e.node.pos=e.pos:=by cases e <;> rfl
def zFa (i:Nat):List Ex→Ps→Ps
 | [],s=>s
 | x::l,s=>zFa i l (zBT i x s)
theorem zS7 (i:Nat)(e:Ex)(s:Ps):zBT i e s=zFa s.nd.length e.parts ((s.kid i).add e.node):=by cases e <;> rfl
theorem zKQ (i:Nat):∀(l:List Ex) (k:Nat) (hk:k<l.length) (s:Ps),zFa i (l.take (k+1)) s=zBT i l[k] (zFa i (l.take k) s)
 | x::l,0,_,s=>rfl
 | x::l,k+1,hk,s=>zKQ i l k (by simpa using hk) (zBT i x s)
theorem Ex.zQr (e:Ex):∀x ∈ e.parts,x.size<e.size:=by
 intro x hx
 cases e with
 | leaf=>cases hx
 | neg p a=>rw[List.mem_singleton.1 hx]; show a.size<a.size+1; omega
 | bin k p a b=>
  have AA:x ∈ [a,b]:=hx;simp only[zU,List.not_mem_nil,or_false] at AA
  rcases AA with rfl | rfl
  ·show x.size<x.size+b.size+1; omega
  ·show x.size<a.size+x.size+1; omega
theorem Ex.zQh (e:Ex):e.parts.length≤2:=by cases e <;> simp[Ex.parts]
def jY (n:Nd)(A:Option Addr)(m c:Nat):List Value:=[.int .u8 (n.kind:Int),.int .i64 (n.pos:Int),.string (xG n.text),.int .i64 n.num,.slice none 0 0,.slice A m c]
def EX (w:World)(M:Nat→Prop):Ex→List Value→Prop
 | .leaf k p t n,cs=>cs=jY ⟨k,p,t,n,[]⟩ none 0 0
 | .neg p a,cs=>∃g ca,cs=jY ⟨26,p,[],0,[]⟩ (some ⟨g,0,none⟩) 1 1∧Safe w M g 225 ca.toArray∧EX w M a ca
 | .bin k p a b,cs=>∃g ca cb,cs=jY ⟨k,p,[],0,[]⟩ (some ⟨g,0,none⟩) 2 2∧Safe w M g 225 (ca++cb).toArray∧EX w M a ca∧EX w M b cb
theorem EX.xE {w w':World}{M M':Nat→Prop}(k:xC w M w' M'):∀ {e:Ex} {cs:List Value},EX w M e cs→EX w' M' e cs
 | .leaf ..,_,h=>h
 | .neg ..,_,⟨g,ca,h1,h2,h3⟩=>⟨g,ca,h1,h2.xE k,EX.xE k h3⟩
 | .bin ..,_,⟨g,ca,cb,h1,h2,h3,h4⟩=>⟨g,ca,cb,h1,h2.xE k,EX.xE k h3,EX.xE k h4⟩
theorem EX.len {w:World}{M:Nat→Prop}:∀ {e:Ex} {cs:List Value},EX w M e cs→cs.length=6
 | .leaf ..,_,h=>by rw[h]; rfl
 | .neg ..,_,⟨g,ca,h1,h2,h3⟩=>by rw[h1]; rfl
 | .bin ..,_,⟨g,ca,cb,h1,h2,h3,h4⟩=>by rw[h1]; rfl
def zMl (w:World)(M:Nat→Prop)(l:List Ex)(A:Option Addr)(f:Nat→List Value):Prop:=
 (∀k (hk:k<l.length),EX w M l[k] (f k))∧(l=[]∨∃b,A=some ⟨b,0,none⟩∧b<w.heap.size∧¬M b∧∀k,k<l.length→∀j,j<6→w.cell? ⟨b,k*6+j,none⟩=(f k)[j]?)
theorem zMl.xE {w w':World}{M M':Nat→Prop}{l:List Ex}{A:Option Addr}{f:Nat→List Value}(h:zMl w M l A f)(k:xC w M w' M'):zMl w' M' l A f:=by
 refine⟨fun j hj=>(h.1 j hj).xE k,?_⟩
 rcases h.2 with h | ⟨b,h1,h2,h3,h4⟩
 ·exact .inl h
 ·refine .inr ⟨b,h1,yU h2 k.size,fun h5=>by rcases k.zDI b h5 with h6 | h6 <;> first | exact h3 h6 | omega,fun i hi j hj=>?_⟩
  rw[World.cell?_of_block (w:=w) (k.jL b h2 h3)];exact h4 i hi j hj
theorem EX.open {w:World}{M:Nat→Prop}{e:Ex}{cs:List Value}(h:EX w M e cs):∃A c f,cs=jY e.node A e.parts.length c∧zMl w M e.parts A f:=by
 cases e with
 | leaf k p t n=>exact⟨none,0,fun _=>[],h,⟨fun k hk=>by simp[Ex.parts] at hk,.inl rfl⟩⟩
 | neg p a=>
  obtain⟨g,ca,h1,h2,h3⟩:=h;have hl:=h3.len;refine⟨_,_,fun _=>ca,h1,⟨fun k hk=>?_,.inr ⟨g,rfl,h2.1.lt,h2.2,fun k hk j hj=>?_⟩⟩⟩
  ·obtain rfl:k=0:=by simpa [Ex.parts] using hk
   exact h3
  ·obtain rfl:k=0:=by simpa [Ex.parts] using hk
   rw[Nat.zero_mul,Nat.zero_add,h2.1.cell j]
   simp
 | bin kd p a b=>
  obtain⟨g,ca,cb,h1,h2,h3,h4⟩:=h;have hl:=h3.len;refine⟨_,_,fun k=>if k=0 then ca else cb,h1,⟨fun k hk=>?_,.inr ⟨g,rfl,h2.1.lt,h2.2,fun k hk j hj=>?_⟩⟩⟩
  ·have AA:k<2:=hk
   match k,AA with
   | 0,_=>exact h3
   | 1,_=>exact h4
  ·have AA:k<2:=hk;rw[h2.1.cell (k*6+j)]
   match k,AA with
   | 0,_=>
    show(ca++cb).toArray[0*6+j]?=ca[j]?
    rw[Nat.zero_mul,Nat.zero_add,yL,List.getElem?_append_left (by omega)]
   | 1,_=>
    show(ca++cb).toArray[1*6+j]?=cb[j]?
    rw[yL,List.getElem?_append_right (by omega)]
    congr 1
    omega
theorem zLs {s:Ps}(h:Good s)(i:Nat)(x:Nd)(hx:x.kids=[]):Good ((s.kid i).add x):=⟨h.last,h.deep,zBv h.few i x hx⟩
theorem zNB (i:Nat):∀(l:List Ex) (s:Ps),s.nd.length≤(zFa i l s).nd.length∧(zFa i l s).ts=s.ts∧(zFa i l s).deep=s.deep
 | [],s=>⟨zX _,rfl,rfl⟩
 | x::l,s=>by
  obtain⟨h1,h2,h3⟩:=zNB i l (zBT i x s);obtain⟨k1,k2,k3⟩:=zCy x i s;exact⟨by show _≤(zFa i l (zBT i x s)).nd.length; omega,h2.trans k2,h3.trans k3⟩
theorem zKH (i:Nat):∀(l:List Ex) (s:Ps),Good s→Good (zFa i l s)
 | [],s,h=>h
 | x::l,s,h=>zKH i l _ (by
  obtain⟨k1,k2,k3⟩:=zCy x i s
  exact⟨by rw[k2]; exact h.last,by rw[k3]; exact h.deep,zFK x i s h.few⟩)
theorem zKq (i:Nat):∀(l:List Ex) (s:Ps),(zFa i l s).nd.length=s.nd.length+(l.map Ex.size).sum
 | [],s=>rfl
 | x::l,s=>by
  show(zFa i l (zBT i x s)).nd.length=_
  rw[zKq i l,(zCy x i s).1,List.map_cons,List.sum_cons];omega
theorem Ex.zOJ (e:Ex):e.size=(e.parts.map Ex.size).sum+1:=by cases e <;> simp[Ex.size,Ex.parts]
theorem zG0:∀(l:List Nat) (k:Nat) (hk:k<l.length),(l.take k).sum+l[k]≤l.sum
 | x::l,0,_=>by simp
 | x::l,k+1,hk=>by
  have:=zG0 l k (by simpa using hk)
  simp only[List.take_succ_cons,List.sum_cons,List.getElem_cons_succ];omega
theorem Ex.zNN:∀(e:Ex),0<e.size
 | .leaf ..=>Nat.zero_lt_one
 | .neg ..=>Nat.succ_pos _
 | .bin ..=>Nat.succ_pos _
theorem zQU (f:Nat)(ih:∀(e:Ex),e.size≤f→∀(w:World) (p B:Nat) (s:Ps) (R:xX) (i:Nat) (cs:List Value),PS w p B s R→Good s→i<s.nd.length→s.nd.length+e.size≤1000000→EX w (xK p R) e cs →
  Calls Tryz.prog 174 #[.pointer (some ⟨p,0,none⟩),.int .i64 (i:Int),.agg cs.toArray] w fun en w'=>en=.returned (.tuple #[])∧OkP w p B R (zBT i e s) w')
  (e:Ex) (hsz:e.size≤f+1) (w:World) (p B:Nat) (s:Ps) (R:xX) (i:Nat) (cs:List Value) (h:PS w p B s R) (hG:Good s) (hi:i<s.nd.length) (hbig:s.nd.length+e.size≤1000000) (hx:EX w (xK p R) e cs) :
  Calls Tryz.prog 174 #[.pointer (some ⟨p,0,none⟩),.int .i64 (i:Int),.agg cs.toArray] w fun en w'=>en=.returned (.tuple #[])∧OkP w p B R (zBT i e s) w':=by
 obtain⟨i0,A2,A5,Ax,Ay⟩:=info_parts zHo;obtain⟨i1,Bj,Bi,BL,Bo⟩:=info_parts zMR;obtain⟨eA,ec,ef,Bm,BB⟩:=hx.open;have HQ:=yG (zS7 i e s);have Bf:=yG hsz;have Bk:=yG hbig;have BT:=yG e.zOJ;have Bh:=yG e.zNN;have BZ:=yG e.zQh;have A3:=e.zP9;have BY:=yG ih;have A9:=fun x (hx:x ∈ e.parts)=>e.zQr x hx;have Aq:=yG A9;clear ih hsz hx A9;generalize e.parts=l at *;generalize e.node=x at *;obtain⟨xk,xp,xt,xn,A1⟩:=x
 simp only at A3
 subst A3;subst Bm;have AS:=h.len
 have AT:i<R.nh.length:=by omega
 obtain⟨g,hA⟩:=h.zRq (by omega);obtain⟨x,AZ⟩:∃x,R.nh[i]=x:=⟨_,rfl⟩;obtain⟨⟨nk,np,nt,nn,kk⟩,kA,kc⟩:=x;unfold jY;obtain⟨gx,A4⟩:∃gx,Hid (w.heap.size=gx):=⟨_,yG rfl⟩;obtain⟨W,HW⟩:∃W,Hid (W=w.alloc (.cells (jY ⟨xk,xp,xt,xn,[]⟩ eA l.length ec).toArray 225)):=⟨_,yG rfl⟩;have Ab:Hid (Ext w W):=yG (by rw[HW.out]; exact Ext.alloc _ _);have Be:Hid (Safe W (xK p R) gx 225 (jY ⟨xk,xp,xt,xn,[]⟩ eA l.length ec).toArray):=yG (by rw[HW.out,←A4.out]; exact h.fresh _ _);have hP:=h.ext Ab.out
 have c4:W.cell? ⟨g,i*5+4,none⟩=some (.slice kA kk.length kc):=by rw[hP.zDi i AT hA 4 (by decide),AZ]; rfl
 have Ad:=hP.ns.zUL _ (yO AT);have AF:=hP.ns.kids _ (yO AT);rw[AZ] at Ad AF
 simp only at Ad AF
 obtain⟨o,HO⟩:∃o,Hid ((Value.slice kA kk.length kc).ownBlock=o):=⟨_,yG rfl⟩
 have AO:Hid (some p≠o):=yG fun e=>by
  rw[←HO.out] at e;obtain⟨A6,hc⟩:=vA AF (xP AF e.symm);exact Blk.differ hP.blk hc (by decide) rfl
 have Ap:Hid (some g≠o):=yG fun e=>by
  rw[←HO.out] at e;obtain⟨A6,hc⟩:=vA AF (xP AF e.symm);obtain⟨BR,BH⟩:=vA hP.ns.row hA;exact Blk.differ BH hc (by decide) rfl
 have AX:Hid (∀g,o=some g→g<W.heap.size):=yG fun g e=>by
  rw[←HO.out] at e;exact(jD AF (xP AF e)).2
 have Ag:=(jD hP.ns.row hA).2;have AW:=hP.blk.lt;have BS:Hid (B≤W.heap.size):=yG (Nat.le_trans hP.pB (zV AW));have AQ:=yG AZ;have HP:=yG hP;have HA:=yG hA;have Bl:=yG Ad;have BU:=yG (BB.xE (xC.ext (M:=xK p R) Ab.out));have Aa:=yG AS;have HG:=yG hG
 have BA:Hid (kk.length≤1000000):=yG (by
  have:=hG.few (R.nh[i].1) (by rw[h.nodes]; exact List.mem_map.2 ⟨_,yO AT,rfl⟩)
  rw[AQ.out] at this
  simp only at this
  omega)
 have A8:R.nh.length+1≤1000000:=by have:=Bh.out; omega
 obtain⟨Fs,AD⟩:∃Fs,Hid (FsH B 3 (.slice kA kk.length kc) W.heap.size kk.length (ints kk) [Value.int .i64 (R.nh.length:Int)]=Fs):=⟨_,yG rfl⟩
 have hE:∀F ∈ Fs,∀v w w',F v w→Ext w w'→F v w':=by rw[←AD.out]; exact zF1 _ _ _ _ _ _ _
 have m0:(fun (_:Value) w=>VO B 3 kk.length (ints kk) (.slice kA kk.length kc) w) ∈ Fs:=by rw[←AD.out]; simp only[FsH,zU,true_or]
 have m1:zBf 3 W.heap.size #[Value.int .i64 (R.nh.length:Int)] ∈ Fs:=by rw[←AD.out]; simp only[FsH,zU,true_or,or_true]
 have m2:zJB B 3 o W.heap.size (kk.length+1) (ints kk++[Value.int .i64 (R.nh.length:Int)]) ∈ Fs:=by rw[←AD.out,←HO.out]; simp only[FsH,zU,true_or,or_true]
 have AP:=yG hE;have M0:=yG m0;have M1:=yG m1;have M2:=yG m2
 have q0:(i:Int)<(R.nh.length:Int):=by omega
 have C4:=yG c4;have x1:=hP.x1' hA;clear h hG hi BB AS hE m0 m1 m2 AZ Ad AF hA c4 hP hbig
 go_enter Tryz.func174,Tryz.ntmps174
 have Bg:Hid (w.alloc (.cells #[.int .u8 (xk:Int),.int .i64 (xp:Int),.string (xG xt),.int .i64 xn,.slice none 0 0,.slice eA l.length ec] 225)=W):=yG (by rw[HW.out]; rfl)
 go_upto_region 1 with fail
 rw[Bg.out,A4.out]
 go_upto_region 2 with fail
 apply zA9 o Fs 18 (by kernel_rfl) (by kernel_rfl) (by kernel_rfl) AP.out;dsimp only[List.take_succ_cons,List.take_zero,List.drop_succ_cons,List.drop_zero];apply sG vF.refl (.pointer (some ⟨p,0,none⟩));apply sG vF.refl (.pointer (some ⟨p,0,none⟩));apply sG vF.refl (.pointer (some ⟨p,1,none⟩));apply xB (.slice (some ⟨g,0,none⟩) R.nh.length R.c) rfl rfl rfl
 ·intro w' AA hH;have hR:=vF.refl (o:=o) (Fs:=Fs) w';have cc:=Blk.cell ((AA.1.block p AW AO.out).trans HP.out.blk) 1;rw[HA.out] at cc;clear hH AA;simp[xA,go_sem,cc,q0];exact hR
 apply sG vF.refl (.int .i64 (i:Int));apply sG vF.refl (.pointer (some ⟨p,0,none⟩));apply sG vF.refl (.pointer (some ⟨p,0,none⟩));apply sG vF.refl (.pointer (some ⟨p,1,none⟩));apply xB (.slice (some ⟨g,0,none⟩) R.nh.length R.c) rfl rfl rfl
 ·intro w' AA hH;have hR:=vF.refl (o:=o) (Fs:=Fs) w';have cc:=Blk.cell ((AA.1.block p AW AO.out).trans HP.out.blk) 1;rw[HA.out] at cc;clear hH AA;simp[xA,go_sem,cc,q0];exact hR
 apply sG vF.refl (.int .i64 (i:Int));apply xB (.pointer (some ⟨g,i*5,none⟩)) rfl rfl rfl
 ·intro w' AA hH;clear hH AA;simp[xA,go_sem,q0];exact vF.refl _
 apply xB (.pointer (some ⟨g,i*5+4,none⟩)) rfl rfl rfl
 ·intro w' AA hH;clear hH AA;simp[xA,go_sem,q0];exact vF.refl _
 (try simp only[Act.put,yD,yE,yF]);apply xB (.slice kA kk.length kc) rfl rfl rfl
 ·intro w' AA hH;have hR:=vF.refl (o:=o) (Fs:=Fs) w';have cc:=(World.cell?_of_block (w:=W) (a:=⟨g,i*5+4,none⟩) (AA.1.block g Ag Ap.out)).trans C4.out;clear hH AA;simp[xA,go_sem,cc,q0];exact hR
 apply sG vF.refl (.int .i64 (R.nh.length:Int));apply xZ (zBf 3 W.heap.size #[Value.int .i64 (R.nh.length:Int)]) (fun v w w' h hx=>hx.2 _ M1.out v h) rfl rfl rfl
 ·intro w' AA hH;have hz:=AA.1.size;clear hH AA;simp[xA,go_sem];exact⟨⟨_,rfl,Blk.new _ _ _,hz⟩,vF.ext AP.out (Ext.alloc _ _)⟩
 intro BM;(try simp only[Act.put,yD,yE,yF]);apply xZ (zJB B 3 o W.heap.size (kk.length+1) (ints kk++[Value.int .i64 (R.nh.length:Int)])) (fun v w w' h hx=>hx.2 _ M2.out v h) rfl rfl rfl
 ·intro w' AA hH;have AN:=hH _ (List.mem_cons_self ..) ⟨_,rfl,by decide⟩;have AG:=AA.2 _ M0.out undef Bl.out;have hz:=AA.1.size;clear hH AA;rw[←AD.out,←HO.out];exact zCz B W.heap.size (.tmp 26) (.tmp 28) 30 rfl 3 i0 _ 8 Tryz.underlying30 A2 A5 Ax Ay rfl (.slice kA kk.length kc) kk.length (ints kk) [Value.int .i64 (R.nh.length:Int)] (by kernel_rfl) AG BM (by kernel_rfl) AN rfl (by simp[Value.oneCell']) (by unfold maxLen; have:=BA.out; omega) (by have:=BA.out; omega) (Nat.le_trans BS.out hz) hz (fun g e=>AX.out g (by rw[←HO.out]; exact e))
 intro Br;(try simp only[Act.put,yD,yE,yF]);apply xB (.pointer (some ⟨g,i*5,none⟩)) rfl rfl rfl
 ·intro w' AA hH;clear hH AA;simp[xA,go_sem,q0];exact vF.refl _
 apply xB (.pointer (some ⟨g,i*5+4,none⟩)) rfl rfl rfl
 ·intro w' AA hH;clear hH AA;simp[xA,go_sem,q0];exact vF.refl _
 apply xR;intro w2 Ao hH;have Ac:=hH _ (List.mem_cons_self ..);clear hH;obtain⟨gk,cap,rfl⟩:=Ac.1.at;have AM:=Ao.1;have Aj:=Ao.1.block g Ag Ap.out;rw[←HO.out] at AM
 have HS:Hid (OkP W p B R (s.kid i) (w2.setCell ⟨g,i*5+4,none⟩ (.slice (some ⟨gk,0,none⟩) (kk.length+1) cap))):=yG (by
  have hh:=PS.kid (gk:=gk) (cap:=cap) HP.out i AT HA.out (w1:=w2) (by rw[AQ.out]; exact Ac.1.1) (by rw[AQ.out]; exact AM) (by
   rw[AQ.out]
   rcases Ac.2 with e | ⟨g',e,BN⟩
   ·left; rw[HO.out,←e]; rfl
   ·right; have:gk=g':=by simpa [Value.ownBlock] using e
    omega)
  rw[AQ.out] at hh
  exact hh)
 have y1:w2.cell? ⟨g,i*5+4,none⟩=some (.slice kA kk.length kc):=(World.cell?_of_block (w:=W) (a:=⟨g,i*5+4,none⟩) Aj).trans C4.out;have z1:w2.frozen? ⟨g,i*5+4,none⟩=false:=(World.frozen?_of_block (w:=W) (a:=⟨g,i*5+4,none⟩) Aj).trans (HP.out.zJ6 _ HA.out);clear Ac AM Aj Ao x1;(try simp only[Act.put,yD,yE,yF])
 go_upto_region 3 with fail
 clear y1 z1;generalize w2.setCell ⟨g,i*5+4,none⟩ (.slice (some ⟨gk,0,none⟩) (kk.length+1) cap)=w3 at *;obtain⟨R3,AB,AK⟩:=HS.out
 have Av:R3.nh.length=R.nh.length:=by rw[←AB.len,←Aa.out]; exact zDW
 have A0:=yG Av;have AU:=yG AB;have Af:=yG AK;have AV:=yG (Be.out.xE AK);have Ar:=AV.out.1.lt;have AL:=AB.blk.lt;clear Av;clear A2 A5 Ax Ay i0 AW Ag AD AP M0 M1 M2 AO Ap AX HO;obtain⟨o,HO⟩:∃o,Hid ((Value.slice R3.A R3.nh.length R3.c).ownBlock=o):=⟨_,yG rfl⟩
 have AO:Hid (some p≠o):=yG fun e=>by
  rw[←HO.out] at e;obtain⟨A6,hc⟩:=vA AB.ns.row (xP AB.ns.row e.symm);exact Blk.differ AB.blk hc (by decide) rfl
 have Bp:Hid (some gx≠o):=yG fun e=>by
  rw[←HO.out] at e;exact AV.out.2 (.inr (.inl (xP AB.ns.row e.symm)))
 have AX:Hid (∀g,o=some g→g<w3.heap.size):=yG fun g e=>by
  rw[←HO.out] at e;exact(jD AB.ns.row (xP AB.ns.row e)).2
 have Ae:Hid (B≤w3.heap.size):=yG (Nat.le_trans AB.pB (zV AL));obtain⟨Fs,AD⟩:∃Fs,Hid (FsK B 38 (.slice R3.A R3.nh.length R3.c) w3.heap.size R3.nh.length (ncs R3.nh) (YM (⟨xk,xp,xt,xn,[]⟩,(none,0)))=Fs):=⟨_,yG rfl⟩
 have hE:∀F ∈ Fs,∀v w w',F v w→Ext w w'→F v w':=by rw[←AD.out]; exact zHq _ _ _ _ _ _ _
 have m0:(fun (_:Value) w=>zAj B 38 R3.nh.length (ncs R3.nh) (.slice R3.A R3.nh.length R3.c) w) ∈ Fs:=by rw[←AD.out]; simp only[FsK,zU,true_or]
 have m1:zBf 38 w3.heap.size (YM (⟨xk,xp,xt,xn,[]⟩,(none,0))).toArray ∈ Fs:=by rw[←AD.out]; simp only[FsK,zU,true_or,or_true]
 have m2:zME B 38 o w3.heap.size (R3.nh.length+1) (ncs R3.nh++YM (⟨xk,xp,xt,xn,[]⟩,(none,0))) ∈ Fs:=by rw[←AD.out,←HO.out]; simp only[FsK,zU,true_or,or_true]
 have AP:=yG hE;have M0:=yG m0;have M1:=yG m1;have M2:=yG m2;clear AB AK hE m0 m1 m2;apply zA9 o Fs 11 (by kernel_rfl) (by kernel_rfl) (by kernel_rfl) AP.out;dsimp only[List.take_succ_cons,List.take_zero,List.drop_succ_cons,List.drop_zero];apply sG vF.refl (.pointer (some ⟨p,0,none⟩));apply sG vF.refl (.pointer (some ⟨p,0,none⟩));apply sG vF.refl (.pointer (some ⟨p,0,none⟩));apply sG vF.refl (.pointer (some ⟨p,1,none⟩));apply xB (.slice R3.A R3.nh.length R3.c) rfl rfl rfl
 ·intro w' AA hH;have hR:=vF.refl (o:=o) (Fs:=Fs) w';have cc:=Blk.cell ((AA.1.block p AL AO.out).trans AU.out.blk) 1;clear hH AA;simp[xA,go_sem,cc];exact hR
 apply sG vF.refl (.pointer (some ⟨gx,0,none⟩));apply xB (.agg #[.int .u8 (xk:Int),.int .i64 (xp:Int),.string (xG xt),.int .i64 xn,.slice none 0 0]) rfl rfl rfl
 ·intro w' AA hH;have hR:=vF.refl (o:=o) (Fs:=Fs) w';have bb:=(AA.1.block gx Ar Bp.out).trans AV.out.1;have c0:=Blk.cell bb 0;have c1:=Blk.cell bb 1;have c2:=Blk.cell bb 2;have c3:=Blk.cell bb 3;have c4:=Blk.cell bb 4;clear bb;simp only[jY,yL,yM,List.getElem?_cons_succ] at c0 c1 c2 c3 c4;clear hH AA;simp[xA,go_sem,c0,c1,c2,c3,c4];exact hR
 apply xZ (zBf 38 w3.heap.size (YM (⟨xk,xp,xt,xn,[]⟩,(none,0))).toArray) (fun v w w' h hx=>hx.2 _ M1.out v h) rfl rfl rfl
 ·intro w' AA hH;have hz:=AA.1.size;clear hH AA;simp[xA,go_sem];exact⟨⟨_,rfl,Blk.new _ _ _,hz⟩,vF.ext AP.out (Ext.alloc _ _)⟩
 intro Ba;(try simp only[Act.put,yD,yE,yF]);apply xZ (zME B 38 o w3.heap.size (R3.nh.length+1) (ncs R3.nh++YM (⟨xk,xp,xt,xn,[]⟩,(none,0)))) (fun v w w' h hx=>hx.2 _ M2.out v h) rfl rfl rfl
 ·intro w' AA hH;have AN:=hH _ (List.mem_cons_self ..) ⟨_,rfl,by decide⟩;have AG:=AA.2 _ M0.out undef AU.out.ns.zUX;have hz:=AA.1.size;clear hH AA;rw[←AD.out,←HO.out];exact zEv B w3.heap.size (.tmp 36) (.tmp 39) 25 rfl 38 i1 _ 64 Tryz.underlying25 Bj Bi BL Bo rfl (.slice R3.A R3.nh.length R3.c) R3.nh.length (ncs R3.nh) (YM (⟨xk,xp,xt,xn,[]⟩,(none,0))) (by kernel_rfl) AG Ba (by kernel_rfl) AN rfl (zKM _) (by unfold maxLen; have:=A0.out; omega) (by have:=A0.out; omega) (Nat.le_trans Ae.out hz) hz (fun g e=>AX.out g (by rw[←HO.out]; exact e))
 intro Bt;(try simp only[Act.put,yD,yE,yF]);apply sG vF.refl (.pointer (some ⟨p,0,none⟩));apply sG vF.refl (.pointer (some ⟨p,1,none⟩));apply xR;intro w4 Ak hH;have AY:=hH _ (List.mem_cons_self ..);clear hH;obtain⟨g4,AR,rfl⟩:=AY.1.at;have AM:=Ak.1;rw[←HO.out] at AM;have At:Blk w4 p 101 _:=(Ak.1.block p AL AO.out).trans AU.out.blk
 obtain⟨Aw,BC⟩:=PS.snoc (w:=w3) AU.out (Ext.refl w3) ⟨xk,xp,xt,xn,[]⟩ rfl AY.1.1 AM (by
  rcases AY.2 with e | ⟨g',e,BN⟩
  ·left; rw[HO.out,←e]; rfl
  ·right; have:g4=g':=by simpa [Value.ownBlock] using e
   omega)
 have y1:w4.cell? ⟨p,1,none⟩=some (.slice R3.A R3.nh.length R3.c):=At.cell 1;have z1:=At.frozen 1;have BV:Hid (OkP w3 p B R3 ((s.kid i).add ⟨xk,xp,xt,xn,[]⟩) (w4.setCell ⟨p,1,none⟩ (.slice (some ⟨g4,0,none⟩) (R3.nh.length+1) AR))):=yG ⟨_,Aw,BC⟩;clear AY AM At Aw BC Ak;(try simp only[Act.put,yD,yF,yE])
 go_upto_region 4 with fail
 clear y1 z1;generalize w4.setCell ⟨p,1,none⟩ (.slice (some ⟨g4,0,none⟩) (R3.nh.length+1) AR)=w5 at *;obtain⟨R5,AI,AE⟩:=BV.out;have Bq:Hid (OkP w p B R ((s.kid i).add ⟨xk,xp,xt,xn,[]⟩) w5):=yG ⟨R5,AI,((xC.ext Ab.out).trans Af.out).trans AE⟩;have Au:=yG ((BU.out.xE Af.out).xE AE);have BG:=yG (AV.out.xE AE);have BF:=yG AI;have c5:w5.cell? ⟨gx,5,none⟩=some (.slice eA l.length ec):=BG.out.1.cell 5;have BP:=yG (((xC.ext (M:=xK p R) Ab.out).trans Af.out).trans AE);clear AI AE
 go_wp2_with fail
 go_loopw [46] (fun i' wr=>∃(k:Nat) (R':xX),k≤l.length∧i'=.int .i64 k∧Hid (PS wr p B (zFa s.nd.length (l.take k) ((s.kid i).add ⟨xk,xp,xt,xn,[]⟩)) R')∧Hid (xC w (xK p R) wr (xK p R'))∧Hid (zMl wr (xK p R') l eA ef)) (fun i' _=>l.length-(intOf i').toNat)
 case atStart=>exact⟨0,R5,zW _,rfl,BF,BP,Au⟩
 case round=>
  obtain⟨k,R',hk,rfl,A7,Az,AH⟩:=hrel;obtain⟨wa,rfl⟩:∃wa:World,wa=wr:=⟨_,rfl⟩;have Bv:=BZ.out
  by_cases AC:k<l.length
  ·have d0:decide ((k:Int)<(l.length:Int))=true:=yS (by omega)
   have q1:(k:Int)<(l.length:Int):=by omega
   obtain⟨b,rfl,hb,Bu,AJ⟩:∃b,eA=some ⟨b,0,none⟩∧b<wa.heap.size∧¬xK p R' b∧∀k,k<l.length→∀j,j<6→wa.cell? ⟨b,k*6+j,none⟩=(ef k)[j]?:=by
    rcases AH.out.2 with h | h
    ·rw[h] at AC; cases AC
    ·exact h
   have An:=AH.out.1 k AC;have BD:=yG An;have Bb:=yG (Aq.out l[k] (yO AC));obtain⟨A',c',f',Al,_⟩:=An.open;have e0:=AJ k AC 0 (by decide);have e1:=AJ k AC 1 (by decide);have e2:=AJ k AC 2 (by decide);have e3:=AJ k AC 3 (by decide);have e4:=AJ k AC 4 (by decide);have e5:=AJ k AC 5 (by decide);rw[Al] at e0 e1 e2 e3 e4 e5;have BO:=yG Al;simp only[jY,yM,List.getElem?_cons_succ,Nat.add_zero] at e0 e1 e2 e3 e4 e5;clear An Al AJ;generalize l[k].node=y at *;obtain⟨yk,yp,yt,yn,Bc⟩:=y
   simp only at e0 e1 e2 e3 e4 e5
   generalize l[k].parts.length=ym at *;have Ah:Hid (xC wa (xK p R') (wa.alloc (.cells #[.int .u8 (yk:Int),.int .i64 (yp:Int),.string (xG yt),.int .i64 yn,.slice none 0 0,.slice A' ym c'] 225)) (xK p R')):=yG (xC.ext (Ext.alloc _ _));have Bd:=yG (A7.out.ext (Ext.alloc wa (.cells #[.int .u8 (yk:Int),.int .i64 (yp:Int),.string (xG yt),.int .i64 yn,.slice none 0 0,.slice A' ym c'] 225)));have BJ:=yG (zKQ s.nd.length l k AC ((s.kid i).add ⟨xk,xp,xt,xn,[]⟩));have BQ:Hid (Good (zFa s.nd.length (l.take k) ((s.kid i).add ⟨xk,xp,xt,xn,[]⟩))):=yG (zKH _ _ _ (zLs HG.out i _ rfl))
   have Bn:Hid (R.nh.length<(zFa s.nd.length (l.take k) ((s.kid i).add ⟨xk,xp,xt,xn,[]⟩)).nd.length):=yG (by
    have:=(zNB s.nd.length (l.take k) ((s.kid i).add ⟨xk,xp,xt,xn,[]⟩)).1
    rw[zBG] at this
    have:=Aa.out
    omega)
   have BE:Hid ((zFa s.nd.length (l.take k) ((s.kid i).add ⟨xk,xp,xt,xn,[]⟩)).nd.length+l[k].size≤1000000):=yG (by
    rw[zKq,zBG];have h1:=zG0 (l.map Ex.size) k (by simpa using AC);rw[←List.map_take,zA] at h1;have h2:=BT.out;have h3:=Bk.out
    omega)
   go_wp2_with fail
   refine(BY.out l[k] (by have:=Bb.out; have:=Bf.out; omega) _ p B _ R' R.nh.length (jY ⟨yk,yp,yt,yn,Bc⟩ A' ym c') Bd.out BQ.out Bn.out BE.out (by rw[←BO.out]; exact BD.out.xE Ah.out)).mono ?_;rintro e' w6 ⟨rfl,R6,As,Ai⟩;have BW:Hid (PS w6 p B (zFa s.nd.length (l.take (k+1)) ((s.kid i).add ⟨xk,xp,xt,xn,[]⟩)) R6):=yG (by rw[BJ.out,Aa.out] ; rw[Aa.out] at As; exact As);have BX:=yG ((Az.out.trans Ah.out).trans Ai);have BK:=yG ((AH.out.xE Ah.out).xE Ai);clear As Ai
   go_wp2_with fail
   go_roundw
   case rel=>exact⟨k+1,R6,by omega,by go_num,BW,BX,BK⟩
   case measure=>simp[intOf]; omega
  ·obtain rfl:k=l.length:=by omega
   have d0:decide ((l.length:Int)<(l.length:Int))=false:=by simp
   have d1:decide (l.length<l.length)=false:=by simp
   have Am:Hid (OkP w p B R (zBT i e s) wa):=yG (by
    rw[HQ.out];have h:=A7.out;rw[List.take_length] at h
    exact⟨R',h,Az.out⟩)
   go_wp2_with fail
   go_end0;exact⟨rfl,Am.out⟩
theorem zNn:∀(f:Nat) (e:Ex),e.size≤f→∀(w:World) (p B:Nat) (s:Ps) (R:xX) (i:Nat) (cs:List Value),PS w p B s R→Good s→i<s.nd.length→s.nd.length+e.size≤1000000→EX w (xK p R) e cs →
  Calls Tryz.prog 174 #[.pointer (some ⟨p,0,none⟩),.int .i64 (i:Int),.agg cs.toArray] w fun en w'=>en=.returned (.tuple #[])∧OkP w p B R (zBT i e s) w'
 | 0,e,hs=>by have:=e.zNN; omega
 | f+1,e,hs=>fun w p B s R i cs h1 h2 h3 h4 h5=>zQU f (zNn f) e hs w p B s R i cs h1 h2 h3 h4 h5
theorem zR5 (l:Bs):(xG l).size=l.length:=by simp[xG,ByteArray.size]
theorem EX.weaken {w:World}{M M':Nat→Prop}(k:∀b,b<w.heap.size→M' b→M b):∀ {e:Ex} {cs:List Value},EX w M e cs→EX w M' e cs
 | .leaf ..,_,h=>h
 | .neg ..,_,⟨g,ca,h1,h2,h3⟩=>⟨g,ca,h1,⟨h2.1,fun h=>h2.2 (k g h2.1.lt h)⟩,EX.weaken k h3⟩
 | .bin ..,_,⟨g,ca,cb,h1,h2,h3,h4⟩=>⟨g,ca,cb,h1,⟨h2.1,fun h=>h2.2 (k g h2.1.lt h)⟩,EX.weaken k h3,EX.weaken k h4⟩
theorem Touch.xE {g:Nat}{w w':World}(h:Touch g w w'){N:Nat→Prop}(hg:N g):xC w N w' N:=
 ⟨h.os,h.tape,h.output,by rw[h.size]; exact zX _,fun b hb hN=>h.other b fun e=>hN (by rw[e]; exact hg),fun b hb=>.inl hb⟩
theorem Touch.ps {g p B:Nat}{w w':World}{s:Ps}{R:xX}(h:Touch g w w')(k:PS w p B s R)(hB:B≤g)(hM:¬xK p R g):PS w' p B s R:=
 k.jL fun b hb=>h.other b fun e=>by
  subst e
  rcases hb with hb | hb
  ·omega
  ·exact hM hb
theorem Touch.safe {g g':Nat}{w w':World}{M:Nat→Prop}{t:TypeId}{cs:Array Value}(h:Touch g w w')(k:Safe w M g' t cs)(hn:g'≠g):Safe w' M g' t cs:=⟨(h.other g' hn).trans k.1,k.2⟩
theorem xC.jQ {g:Nat}{w w1 w2:World}{M M1:Nat→Prop}(k:xC w M w1 M1)(h:Touch g w1 w2)(hg:w.heap.size≤g):xC w M w2 M1:=
 ⟨h.os.trans k.os,h.tape.trans k.tape,h.output.trans k.output,by rw[h.size]; exact k.size,fun b hb hM=>(h.other b (by omega)).trans (k.jL b hb hM),k.zDI⟩
def under (w:World)(b:Nat):Prop:=b<w.heap.size
def zAp (w:World)(p B:Nat)(R:xX)(r:Res Ex)(e:Ending)(w':World):Prop:=
 match r with
 | .ok x s'=>∃cs R',e=.returned (.agg cs.toArray)∧PS w' p B s' R'∧xC w (xK p R) w' (xK p R')∧EX w' (Or (xK p R') (under w)) x cs
 | .err er a=>VF w p B R er a e w'
theorem zH0 {P:Program}{a:Act}{w:World}{Q:Exit→Act→World→Prop}{x rest:Code}(l:Nat)(J:Act→World→Prop)(μ:Act→World→Nat)(hf:findLabel x l=none)
  (first:x.wp P (Exit.then J (Exit.noGoto Q)) a w) (pass:∀a w,J a w→rest.wp P (Exit.jump l (fun a' w'=>J a' w'∧μ a' w'<μ a w) Q) a w):(Code.scope (x.seq ((Code.label l).seq rest))).wp P Q a w:=by
 refine wp_scope_jumps (rest:=.seq .skip rest) l J μ (by simp[findLabel,hf]) ?_ (fun a w h=>wp_seq (wp_skip (pass a w h)));apply wp_seq;refine wp_mono first ?_;intro e a w h
 cases e with
 | normal=>
  refine wp_seq (wp_label (wp_mono (pass a w h) ?_));intro e a w h
  cases e with
  | goto l'=>exact⟨h.1,h.2.1⟩
  | normal=>exact h
  | exit id=>exact h
  | ret=>exact h
  | panic ch=>exact h
  | outgrown=>exact h
 | goto l'=>exact h.elim
 | exit id=>exact h
 | ret=>exact h
 | panic ch=>exact h
 | outgrown=>exact h
theorem zNp {ms:List (Bs × Nat)}{part:Pm Ex}{f:Nat}{e:Ex}{s:Ps}(h:zD2 ms s=none):VX ms part (f+1) e s=.ok e s:=by rw[VX,h]
theorem zMf {ms:List (Bs × Nat)}{part:Pm Ex}{f k:Nat}{e:Ex}{s:Ps}(h:zD2 ms s=some k):VX ms part (f+1) e s=(part s.adv).bind fun r s=>VX ms part f (.bin k e.pos e r) s:=by rw[VX,h]
theorem zOh {ms:List (Bs × Nat)}{s:Ps}(h:∀m ∈ ms,isP m.1 s=false):zD2 ms s=none:=by
 unfold zD2;rw[List.find?_eq_none.2 (fun m hm=>by rw[h m hm]; simp)]
 rfl
theorem zHX:∀ {ms:List (Bs × Nat)} {s:Ps} (k:Nat) (hk:k<ms.length),(∀j (hj:j<ms.length),j<k→isP ms[j].1 s=false)→isP ms[k].1 s=true→zD2 ms s=some ms[k].2
 | m::ms,s,0,_,_,hi=>by
  have AA:isP m.1 s=true:=hi;unfold zD2;simp[List.find?_cons,AA]
 | m::ms,s,k+1,hk,h,hi=>by
  have h0:isP m.1 s=false:=h 0 (by simp) (by omega);have ih:=zHX (ms:=ms) (s:=s) k (by simpa using hk) (fun j hj AB=>h (j+1) (by simpa using hj) (by omega)) hi;unfold zD2 at ih ⊢;rw[List.find?_cons,h0];exact ih
theorem zIt:∀(ms:List (Bs × Nat)),(∀m ∈ ms,m.1.length=1)→(ms.map Prod.fst).flatten.length=ms.length∧∀k (hk:k<ms.length),((ms.map Prod.fst).flatten.drop k).take 1=ms[k].1
 | [],_=>⟨rfl,fun k hk=>by cases hk⟩
 | m::ms,h=>by
  obtain⟨h1,h2⟩:=zIt ms (fun x hx=>h x (List.mem_cons_of_mem _ hx));obtain⟨c,hc⟩:=List.length_eq_one_iff.1 (h m (List.mem_cons_self ..));refine⟨by rw[List.map_cons,List.flatten_cons,yP,h1,h m (List.mem_cons_self ..),zK]; omega,fun k hk=>?_⟩;rw[List.map_cons,List.flatten_cons,hc]
  match k,hk with
  | 0,_=>rw[List.getElem_cons_zero,hc]; rfl
  | k+1,hk=>exact h2 k (by simpa using hk)
theorem zLJ (L:Bs)(i j:Nat):(xG L).extract i j=xG ((L.drop i).take (j-i)):=by
 apply ByteArray.ext;rw[ByteArray.data_extract]
 show(L.toArray).extract i j=((L.drop i).take (j-i)).toArray
 apply Array.ext';simp[List.extract_eq_take_drop,List.take_drop]
 try omega
def ChX (w:World)(g g0 b:Nat):Prop:=under w b∨b=g∨b=g0
def zRT (n:Nat)(ms:List (Bs × Nat))(part:Pm Ex)(K:Nat)(first cap:Array Value)(A:Option Addr)(kc:Nat)(w:World)(p B:Nat)(s:Ps)(R:xX)(g0:Nat)(a':Act)(w':World):Prop:=
 ∃(g:Nat) (s':Ps) (R':xX) (x:Ex) (cs:List Value) (f:Nat) (u10 u11 u12 u13 u14 u15 u16 u17 u18 u19 u20 u21 u22 u23 u24 u25 u26 u27 u28 u29 u30 u31 u32 u33 u34 u35 u36 u37 u38 u39 u40 u41:Value),
  a' = { tmps:=#[.pointer (some ⟨p,0,none⟩),.func (.func K) first cap,.string (xG (ms.map Prod.fst).flatten),.slice A ms.length kc,undef,undef,undef,undef,.pointer (some ⟨g0,0,none⟩),.pointer (some ⟨g,0,none⟩),u10,u11,u12,u13,u14,u15,u16,u17,u18,u19,u20,u21,u22,u23,u24,u25,u26,u27,u28,u29,u30,u31,u32,u33,u34,u35,u36,u37,u38,u39,u40,u41],defers:=[] } ∧
  Hid (PS w' p B s' R')∧Hid (xC w (xK p R) w' (xK p R'))∧Hid (Good s')∧Hid (s'.ts.length≤n)∧Hid (s'.ts.length<f)∧Hid (XB ms part s=VX ms part f x s') ∧
  Hid (Safe w' (xK p R') g 225 cs.toArray)∧Hid (w.heap.size≤g∧w.heap.size≤g0∧g≠g0∧B≤w.heap.size)∧Hid (EX w' (Or (xK p R') (ChX w g g0)) x cs)∧Hid (Safe w' (xK p R') g0 225 #[.int .u8 0,.int .i64 0,.string ⟨#[]⟩,.int .i64 0,.slice none 0 0,.slice none 0 0])
theorem zIG (n:Nat)(ms:List (Bs × Nat))(part:Pm Ex)(K:Nat)(first cap:Array Value)(A:Option Addr)(kc:Nat)(w:World)(p B:Nat)(s:Ps)(R:xX)(h:PS w p B s R)(hG:Good s)(hn:s.ts.length≤n)
  (h1:∀m ∈ ms,m.1.length=1) (h2:ms.length≤100) (hk:XF w (xK p R) A (ms.map fun m=>.int .u8 (m.2:Int)))
  (hfine:∀t,Good t→t.ts.length≤n→zDm t (part t)) (he:∀args w,(callFunc K args).run Tryz.prog w=.ok (.enter K args) w)
  (hcall:∀(wr:World) (s':Ps) (R':xX),xC w (xK p R) wr (xK p R')→PS wr p B s' R'→Good s'→s'.ts.length≤n→Calls Tryz.prog K (first++cap) wr (zAp wr p B R' (part s'))) :
  Calls Tryz.prog 178 #[.pointer (some ⟨p,0,none⟩),.func (.func K) first cap,.string (xG (ms.map Prod.fst).flatten),.slice A ms.length kc] w (zAp w p B R (XB ms part s)):=by
 have HP:=yG h;have BT:=yG hfine;have HC:=yG hcall;have HK:=yG hk;have HE:=yG he;have HG:=yG hG;have HN:=yG hn;have H1:=yG h1;have AO:=hfine s hG hn;have HZ:=yG (h.fresh 225 #[.int .u8 0,.int .i64 0,.string ⟨#[]⟩,.int .i64 0,.slice none 0 0,.slice none 0 0]);have AI:Hid (Ext w (w.alloc (.cells #[.int .u8 0,.int .i64 0,.string ⟨#[]⟩,.int .i64 0,.slice none 0 0,.slice none 0 0] 225))):=yG (Ext.alloc _ _);obtain⟨g0,Au⟩:∃g0,Hid (w.heap.size=g0):=⟨_,yG rfl⟩;clear h hfine hcall hk hG hn h1
 go_enter Tryz.func178,Tryz.ntmps178
 go_wp2_with fail
 generalize w.alloc (.cells #[.int .u8 0,.int .i64 0,.string ⟨#[]⟩,.int .i64 0,.slice none 0 0,.slice none 0 0] 225)=w0 at *;rw[Au.out];rw[Au.out] at HZ;refine zH0 0 (zRT n ms part K first cap A kc w p B s R g0) (fun _ w=>JN p w) rfl ?_ ?_
 ·go_wp2_with fail
  refine(HC.out w0 s R (xC.ext AI.out) (HP.out.ext AI.out) HG.out HN.out).mono ?_;intro e w1 AA
  cases hr:part s with
  | err er a=>
   rw[hr] at AA;obtain⟨rfl,ho⟩:=AA
   have HF:Hid (zAp w p B R (XB ms part s) (jV er) w1):=yG (by
    unfold XB;rw[hr]
    exact VF.trans (xC.ext AI.out) ⟨rfl,ho⟩)
   exact xD (P:=Tryz.prog) (fn:=Tryz.f178) rfl HF.out
  | ok x s1=>
   rw[hr] at AA AO;obtain⟨cs,R1,rfl,Ah,Ab,Am⟩:=AA;obtain⟨BF,BK,_,_⟩:=AO;have Ae:Hid (XB ms part s=VX ms part (s1.ts.length+1) x s1):=yG (by unfold XB; rw[hr]; rfl);obtain⟨A1,c1,f1,AH,_⟩:=Am.open;have Bd:=yG Am;have Ad:=yG Ah;have AT:=yG Ab;have AJ:=yG (HZ.out.xE Ab);have Af:=yG BF;have Be:Hid (s1.ts.length≤n):=yG (by have:=HN.out; omega);have BJ:=yG AH;have Bc:=yG (Ah.fresh 225 cs.toArray)
   have AE:Hid (w.heap.size≤w1.heap.size∧w.heap.size≤g0∧w1.heap.size≠g0∧B≤w.heap.size):=yG (by
    have h1:=AI.out.size;have h2:=Ab.size;have h3:=Au.out;have h4:=AJ.out.1.lt;have h5:=HP.out.pB;have h6:=HP.out.blk.lt
    omega)
   have BV:Hid (∀b,b<w1.heap.size→Or (xK p R1) (ChX w w1.heap.size g0) b→Or (xK p R1) (under w0) b):=yG fun b hb h=>by
    rcases h with h | h | h | h
    ·exact .inl h
    ·exact .inr (yU h AI.out.size)
    ·omega
    ·subst h; exact .inr (HZ.out.1.lt)
   clear hr Am Ah Ab BF BK;subst AH;unfold jY;generalize x.parts.length=xm at *;generalize HY:x.node=y at *;obtain⟨yk,yp,yt,yn,AL⟩:=y
   simp only
   go_wp2_with fail
   have AG:Hid (Ext w1 (w1.alloc (.cells (jY ⟨yk,yp,yt,yn,AL⟩ A1 xm c1).toArray 225))):=yG (Ext.alloc _ _);exact⟨w1.heap.size,s1,R1,x,jY ⟨yk,yp,yt,yn,AL⟩ A1 xm c1,s1.ts.length+1,_,_,_,_,_,_,_,_,_,_,_,_,_,_,_,_,_,_,_,_,_,_,_,_,_,_,_,_,_,_,_,_,rfl,yG (Ad.out.ext AG.out),yG (((xC.ext AI.out).trans AT.out).trans (xC.ext AG.out)),Af,Be,yG (Nat.lt_succ_self _),Ae,Bc,AE,yG ((Bd.out.weaken BV.out).xE ((xC.ext AG.out).or _)),yG (AJ.out.xE (xC.ext AG.out))⟩
 ·rintro a1 w1 ⟨g,s',R',x,cs,f,CB,CE,Bq,Bn,CF,CH,B5,Bu,Bv,CC,Bo,Bk,B6,B9,Bw,B1,Bp,Bx,Bm,CD,B7,By,CA,CI,Bg,Bh,B8,Bt,Br,B4,B2,Bl,rfl,Ad,AT,Af,BG,BD,Ae,Ao,AE,Av,AJ⟩;obtain⟨f',rfl⟩:∃f',f=f'+1:=⟨f-1,by have:=BD.out; omega⟩
  have B0:(xG (ms.map Prod.fst).flatten).size=ms.length:=by rw[zR5]; exact(zIt ms H1.out).1
  have BR:Hid (JN p w1=s'.ts.length):=yG Ad.out.JN;rw[BR.out]
  go_wp2_with fail
  go_loopw [17] (fun i' wr=>∃(k:Nat),k≤ms.length∧i'=.int .i64 k∧Hid (∀j (hj:j<ms.length),j<k→isP ms[j].1 s'=false)∧Hid (Ext w1 wr)) (fun i' _=>ms.length-(intOf i').toNat)
  case atStart=>exact⟨0,zW _,rfl,yG (fun j hj h=>absurd h (by omega)),yG (Ext.refl _)⟩
  case round=>
   obtain⟨k,hk,rfl,Ag,AF⟩:=hrel;obtain⟨wa,rfl⟩:∃wa:World,wa=wr:=⟨_,rfl⟩;have Ar:=yG (Ad.out.ext AF.out)
   by_cases Aa:k<ms.length
   ·have d0:decide ((k:Int)<(ms.length:Int))=true:=yS (by omega)
    have q1:(k:Int)<(ms.length:Int):=by omega
    obtain⟨b,A4,rfl,hb,A2⟩:=((HK.out.xE AT.out).xE (xC.ext AF.out)).cells.at_ (by simp; omega)
    have e0:wa.cell? ⟨b,A4+k,none⟩=some (.int .u8 (ms[k].2:Int)):=by rw[A2 k (by simpa using Aa)]; simp[Aa]
    have Bj:=yG e0;have BC:Hid ((xG (ms.map Prod.fst).flatten).extract k (k+1)=xG ms[k].1):=yG (by rw[zLJ,show k+1-k=1 by omega,(zIt ms H1.out).2 k Aa]);clear A2
    cases hi:isP ms[k].1 s' with
    | false=>
     have HI:=yG hi;clear hi
     go_wp2_with fail
     rw[BC.out];refine(zAP wa p B s' R' ms[k].1 HI Ar.out).mono ?_;rintro e w2 ⟨rfl,A6⟩;have BU:=yG (AF.out.trans A6);clear A6
     go_wp2_with fail
     go_roundw
     case rel=>exact⟨k+1,by omega,by go_num,yG (fun j hj CG=>by
      rcases Nat.lt_or_ge j k with h | h
      ·exact Ag.out j hj h
      ·obtain rfl:j=k:=by omega
       exact HI.out),BU⟩
     case measure=>simp[intOf]; omega
    | true=>
     have HI:=yG hi;have BL:=yG (zHX k Aa Ag.out hi);have BY:=yG (vO hi).1;clear hi;have A7:=yG (Af.out.adv BY.out)
     have BB:Hid (s'.adv.ts.length<s'.ts.length):=yG (by
      have h1:=jW (s:=s');have h2:=Af.out.pos
      omega)
     have Aj:Hid (s'.adv.ts.length≤n):=yG (by have:=BB.out; have:=BG.out; omega);have HQ:Hid (XB ms part s=(part s'.adv).bind fun r s=>VX ms part f' (.bin ms[k].2 x.pos x r) s):=yG (by rw[Ae.out,zMf BL.out])
     go_wp2_with fail
     rw[BC.out];refine(VJ wa p B s' R' ms[k].1 HI Ar.out).mono ?_;rintro e w2 ⟨rfl,R2,Az,Al⟩;have BM:=yG Az;have AZ:=yG (((AT.out.trans (xC.ext AF.out))).trans Al);have AQ:=yG ((xC.ext (M:=xK p R') AF.out).trans Al);clear Az Al
     go_wp2_with fail
     refine(HC.out w2 s'.adv R2 AZ.out BM.out A7.out Aj.out).mono ?_;intro e w3 AA;have AO:=BT.out s'.adv A7.out Aj.out
     cases hr:part s'.adv with
     | err er a=>
      rw[hr] at AA;obtain⟨rfl,ho⟩:=AA
      have HF:Hid (zAp w p B R (XB ms part s) (jV er) w3):=yG (by
       rw[HQ.out,hr]
       exact VF.trans AZ.out ⟨rfl,ho⟩)
      exact xD (P:=Tryz.prog) (fn:=Tryz.f178) rfl HF.out
     | ok r s3=>
      rw[hr] at AA AO;obtain⟨BQ,R3,rfl,BE,AR,Ap⟩:=AA;obtain⟨A8,BH,_,_⟩:=AO;have AB:=yG ((Ao.out.xE AQ.out).xE AR);have Ay:=yG ((AJ.out.xE AQ.out).xE AR);have AY:=yG ((Av.out.xE (AQ.out.or _)).xE (AR.or _));obtain⟨A1,c1,f1,AH,_⟩:=AY.out.open;obtain⟨A3,c3,f3,AS,_⟩:=Ap.open
      have BP:Hid (EX w3 (Or (xK p R3) (ChX w g g0)) r BQ):=yG (Ap.weaken fun b hb h=>by
       rcases h with h | h
       ·exact .inl h
       ·refine .inr ?_;have h1:=AZ.out.size;have h2:=(Ao.out.xE AQ.out).1.lt;have h3:=(AJ.out.xE AQ.out).1.lt;unfold under
        rcases h with h | h | h
        ·unfold under at h; omega
        ·omega
        ·omega)
      have A0:=yG BE;have Aw:=yG (AZ.out.trans AR);have Bf:=yG A8;have Ai:Hid (s3.ts.length≤n∧s3.ts.length<s'.ts.length):=yG (by have:=Aj.out; have:=BB.out; omega);have BN:Hid (XB ms part s=VX ms part f' (.bin ms[k].2 x.pos x r) s3):=yG (by rw[HQ.out,hr]; rfl);have BJ:=yG AH;have BX:=yG AS;have A9:=x.zMZ;clear hr BE AR Ap A8 BH;subst AH AS;unfold jY;have AU:=AB.out.1.cell 0;have AK:=AB.out.1.cell 1;have AV:=AB.out.1.cell 2;have AN:=AB.out.1.cell 3;have AX:=AB.out.1.cell 4;have AW:=AB.out.1.cell 5;simp only[jY,yL,yM,List.getElem?_cons_succ] at AU AK AV AN AX AW;have Bi:=AB.out.1.lt;rw[A9] at AK;clear A9;generalize x.parts.length=xm at *;generalize r.parts.length=rm at *;generalize HY:x.node=y at *;generalize HYR:r.node=yr at *;obtain⟨yk,yp,yt,yn,AL⟩:=y;obtain⟨rk,rp,rt,rn,BO⟩:=yr
      simp only at AU AK AV AN AX AW ⊢
      have AD:Hid (Ext w3 ((w3.alloc (.cells #[.int .u8 (rk:Int),.int .i64 (rp:Int),.string (xG rt),.int .i64 rn,.slice none 0 0,.slice A3 rm c3] 225)).alloc (.cells #[.int .u8 (yk:Int),.int .i64 (x.pos:Int),.string (xG yt),.int .i64 yn,.slice none 0 0,.slice A1 xm c1,.int .u8 (rk:Int),.int .i64 (rp:Int),.string (xG rt),.int .i64 rn,.slice none 0 0,.slice A3 rm c3] 225))):=yG ((Ext.alloc _ _).trans (Ext.alloc _ _));have Aq:=yG ((A0.out.ext (Ext.alloc w3 (.cells #[.int .u8 (rk:Int),.int .i64 (rp:Int),.string (xG rt),.int .i64 rn,.slice none 0 0,.slice A3 rm c3] 225))).fresh 225 #[.int .u8 (yk:Int),.int .i64 (x.pos:Int),.string (xG yt),.int .i64 yn,.slice none 0 0,.slice A1 xm c1,.int .u8 (rk:Int),.int .i64 (rp:Int),.string (xG rt),.int .i64 rn,.slice none 0 0,.slice A3 rm c3]);have Ba:Hid ((w3.alloc (.cells #[.int .u8 (rk:Int),.int .i64 (rp:Int),.string (xG rt),.int .i64 rn,.slice none 0 0,.slice A3 rm c3] 225)).heap.size=w3.heap.size+1):=yG (yT _ _);rw[Ba.out] at Aq
      go_wp2_with (refine xQ rfl 225 (.tmp 9) (.tmp 39) rfl g #[.int .u8 (ms[k].2:Int),.int .i64 (x.pos:Int),.string ⟨#[]⟩,.int .i64 0,.slice none 0 0,.slice (some ⟨w3.heap.size+1,0,none⟩) 2 2] (by rfl) (by rfl) 225 _ (AB.out.1.ext AD.out) (by kernel_rfl) rfl rfl ?_; intro w6 AC AP)
      have As:yp=x.pos:=by have:=x.zMZ; rw[HY] at this; exact this
      have Bz:=yG As;have A5:=yG (AC.ps (A0.out.ext AD.out) (Nat.le_trans AE.out.2.2.2 AE.out.1) AB.out.2);have BW:=yG ((Aw.out.trans (xC.ext AD.out)).jQ AC AE.out.1);have Ac:Hid (xC w3 (Or (xK p R3) (ChX w g g0)) w6 (Or (xK p R3) (ChX w g g0))):=yG (((xC.ext AD.out).or _).trans (AC.xE (.inr (.inr (.inl rfl)))))
      have BZ:Hid (Safe w6 (Or (xK p R3) (ChX w g g0)) (w3.heap.size+1) 225 (jY ⟨yk,yp,yt,yn,AL⟩ A1 xm c1++jY ⟨rk,rp,rt,rn,BO⟩ A3 rm c3).toArray):=yG (by
       have h1:=AB.out.1.lt;have h2:=Ay.out.1.lt;have h3:=Aw.out.size
       have hs:Safe _ (Or (xK p R3) (ChX w g g0)) (w3.heap.size+1) 225 _:=⟨Aq.out.1,fun h=>by
        rcases h with h | h | h | h
        ·exact Aq.out.2 h
        ·unfold under at h; omega
        ·omega
        ·omega⟩
       rw[As]
       exact AC.safe hs (by omega))
      have Bb:=yG (AC.safe (Ay.out.xE (xC.ext AD.out)) (Ne.symm AE.out.2.2.1));have Ak:=yG AP;have BS:Hid (EX w6 (Or (xK p R3) (ChX w g g0)) (.bin ms[k].2 x.pos x r) (jY ⟨ms[k].2,x.pos,[],0,[]⟩ (some ⟨w3.heap.size+1,0,none⟩) 2 2)):=yG ⟨_,_,_,rfl,BZ.out,AY.out.xE Ac.out,BP.out.xE Ac.out⟩;have An:Hid (s3.ts.length<f'):=yG (by have:=BD.out; have:=Ai.out; omega);clear AC AP As;apply wp_goto;refine(show(0=0∧zRT n ms part K first cap (some ⟨b,A4,none⟩) kc w p B s R g0 _ w6∧JN p w6<s'.ts.length) from⟨rfl,⟨g,s3,R3,.bin ms[k].2 x.pos x r,jY ⟨ms[k].2,x.pos,[],0,[]⟩ (some ⟨w3.heap.size+1,0,none⟩) 2 2,f',_,_,_,_,_,_,_,_,_,_,_,_,_,_,_,_,_,_,_,_,_,_,_,_,_,_,_,_,_,_,_,_,rfl,A5,BW,Bf,yG Ai.out.1,An,BN,yG ⟨Ak.out,AB.out.2⟩,AE,BS,Bb⟩,by rw[A5.out.JN]; exact Ai.out.2⟩)
   ·obtain rfl:k=ms.length:=by omega
    have d0:decide ((ms.length:Int)<(ms.length:Int))=false:=by simp
    have d1:decide (ms.length<ms.length)=false:=by simp
    have At:Hid (XB ms part s=.ok x s'):=yG (by rw[Ae.out,zNp (zOh fun m hm=>by
     obtain⟨j,hj,rfl⟩:=List.mem_iff_getElem.1 hm
     exact Ag.out j hj hj)])
    have AM:=yG (Ao.out.xE (xC.ext AF.out));have BA:=yG (AJ.out.xE (xC.ext AF.out));have Ax:=yG (Av.out.xE ((xC.ext AF.out).or _));obtain⟨A1,c1,f1,AH,_⟩:=Ax.out.open;have AU:=AM.out.1.cell 0;have AK:=AM.out.1.cell 1;have AV:=AM.out.1.cell 2;have AN:=AM.out.1.cell 3;have AX:=AM.out.1.cell 4;have AW:=AM.out.1.cell 5;subst AH;simp only[jY,yL,yM,List.getElem?_cons_succ] at AU AK AV AN AX AW;generalize x.parts.length=xm at *;generalize HY:x.node=y at *;obtain⟨yk,yp,yt,yn,AL⟩:=y
    simp only at AU AK AV AN AX AW
    go_wp2_with (refine xQ rfl 225 (.tmp 8) (.tmp 41) rfl g0 #[.int .u8 (yk:Int),.int .i64 (yp:Int),.string (xG yt),.int .i64 yn,.slice none 0 0,.slice A1 xm c1] (by rfl) (by rfl) 225 _ BA.out.1 (by kernel_rfl) rfl rfl ?_; intro w6 AC AP)
    have Ac:Hid (xC wa (Or (xK p R') (ChX w g g0)) w6 (Or (xK p R') (ChX w g g0))):=yG (AC.xE (.inr (.inr (.inr rfl))))
    have An:Hid (zAp w p B R (XB ms part s) (.returned (.agg (jY ⟨yk,yp,yt,yn,AL⟩ A1 xm c1).toArray)) w6):=yG (by
     rw[At.out]
     exact⟨_,R',rfl,AC.ps Ar.out (Nat.le_trans AE.out.2.2.2 AE.out.2.1) BA.out.2,(AT.out.trans (xC.ext AF.out)).jQ AC AE.out.2.1,(Ax.out.xE Ac.out).weaken (fun b hb h=>by
      rcases h with h | h
      ·exact .inl h
      ·exact .inr (.inl h))⟩)
    have Ak:=yG AP;clear AC AP
    go_wp2_with fail
    exact JH g0 225 _ _ Tryz.results178 rfl rfl Ak.out Tryz.underlying225 rfl (by kernel_rfl) An.out
def zCc (F f:Nat)(m:Pm Ex):Prop:=∀(w:World) (p B:Nat) (s:Ps) (R:xX),PS w p B s R→Good s→s.ts.length≤f→Calls Tryz.prog F #[.pointer (some ⟨p,0,none⟩)] w (zAp w p B R (m s))
def JR:Array Value:=#[.int .u8 0,.int .i64 0,.string ⟨#[]⟩,.int .i64 0,.slice none 0 0,.slice none 0 0]
theorem zSN (f:Nat)(part:Pm Ex)(hpart:zCc 180 f part)(hfine:∀t,Good t→t.ts.length≤f→zDm t (part t)):zCc 179 f (XB zKP part):=by
 intro w p B s R h hG hl;have HP:=yG h;have HG:=yG hG;have AQ:=yG hpart;have AP:=yG hfine;have HL:=yG hl;have hm:=hmf;have AK:Hid (Ext w (w.alloc (.cells JR 225))):=yG (Ext.alloc _ _);have AC:Hid (Ext w ((w.alloc (.cells JR 225)).alloc (.cells #[.int .u8 25] 5))):=yG ((Ext.alloc _ _).trans (Ext.alloc _ _));have HZ:Hid (Safe ((w.alloc (.cells JR 225)).alloc (.cells #[.int .u8 25] 5)) (xK p R) w.heap.size 225 JR):=yG ((h.fresh 225 JR).xE (xC.ext (M:=xK p R) (Ext.alloc _ _)));have hk:=(h.ext AK.out).fresh 5 #[.int .u8 25];rw[yT] at hk;have HK:=yG hk;have AJ:Hid (B≤w.heap.size):=yG (Nat.le_trans h.pB (zV h.blk.lt));clear h hG hpart hfine hl hk
 go_enter Tryz.func179,Tryz.ntmps179
 go_wp2_with fail
 refine(zIG f zKP part 180 #[.pointer (some ⟨p,0,none⟩)] #[] (some ⟨w.heap.size+1,0,none⟩) 1 _ p B s R (HP.out.ext AC.out) HG.out HL.out (by intro m hm; simp only[zKP,zU,List.not_mem_nil,or_false] at hm; rw[hm]; rfl) (by decide) HK.out.row AP.out (enters_of Tryz.func180 (by kernel_rfl) rfl) (fun wr s' R' hm hp hg hn=>AQ.out wr p B s' R' hp hg hn)).mono ?_;intro e w1 AA
 cases hr:XB zKP part s with
 | err er a=>
  rw[hr] at AA;obtain⟨rfl,ho⟩:=AA;have HF:Hid (zAp w p B R (Res.err er a) (jV er) w1):=yG (VF.trans (xC.ext AC.out) ⟨rfl,ho⟩);exact xD (P:=Tryz.prog) (fn:=Tryz.f179) rfl HF.out
 | ok x s1=>
  rw[hr] at AA;obtain⟨cs,R1,rfl,AG,AD,AE⟩:=AA;obtain⟨A1,c1,f1,AN,_⟩:=AE.open;have AI:=yG AG;have AL:=yG ((xC.ext (M:=xK p R) AC.out).trans AD);have AF:=yG (HZ.out.xE AD);have AO:=yG AE;have HR:=yG hr;clear hr AG AD AE;subst AN;unfold jY;generalize x.parts.length=xm at *;generalize HY:x.node=y at *;obtain⟨yk,yp,yt,yn,AM⟩:=y
  simp only
  go_wp2_with (refine xQ rfl 225 (.tmp 2) (.tmp 7) rfl w.heap.size #[.int .u8 (yk:Int),.int .i64 (yp:Int),.string (xG yt),.int .i64 yn,.slice none 0 0,.slice A1 xm c1] (by rfl) (by rfl) 225 _ AF.out.1 (by kernel_rfl) rfl rfl ?_; intro w6 AB AH)
  have AR:Hid (zAp w p B R (XB zKP part s) (.returned (.agg (jY ⟨yk,yp,yt,yn,AM⟩ A1 xm c1).toArray)) w6):=yG (by rw[HR.out]; exact⟨_,R1,rfl,AB.ps AI.out AJ.out AF.out.2,AL.out.jQ AB (zX _),((AO.out.weaken (M':=Or (xK p R1) (fun b=>under w b∨b=w.heap.size)) fun b hb k=>by
   rcases k with k | k | k
   ·exact .inl k
   ·exact .inr (yU k AC.out.size)
   ·subst k; exact .inr HZ.out.1.lt).xE (AB.xE (.inr (.inr rfl)))).weaken fun b hb k=>by
   rcases k with k | k
   ·exact .inl k
   ·exact .inr (.inl k)⟩)
  have AS:=yG AH;clear AB AH
  go_wp2_with fail
  exact JH w.heap.size 225 _ _ Tryz.results179 rfl rfl AS.out Tryz.underlying225 rfl (by kernel_rfl) AR.out
theorem zTP (f:Nat)(part:Pm Ex)(hpart:zCc 179 f part)(hfine:∀t,Good t→t.ts.length≤f→zDm t (part t)):zCc 175 f (XB zKc part):=by
 intro w p B s R h hG hl;have HP:=yG h;have HG:=yG hG;have AQ:=yG hpart;have AP:=yG hfine;have HL:=yG hl;have hm:=hmf;have AK:Hid (Ext w (w.alloc (.cells JR 225))):=yG (Ext.alloc _ _);have AC:Hid (Ext w ((w.alloc (.cells JR 225)).alloc (.cells #[.int .u8 23,.int .u8 24] 5))):=yG ((Ext.alloc _ _).trans (Ext.alloc _ _));have HZ:Hid (Safe ((w.alloc (.cells JR 225)).alloc (.cells #[.int .u8 23,.int .u8 24] 5)) (xK p R) w.heap.size 225 JR):=yG ((h.fresh 225 JR).xE (xC.ext (M:=xK p R) (Ext.alloc _ _)));have hk:=(h.ext AK.out).fresh 5 #[.int .u8 23,.int .u8 24];rw[yT] at hk;have HK:=yG hk;have AJ:Hid (B≤w.heap.size):=yG (Nat.le_trans h.pB (zV h.blk.lt));clear h hG hpart hfine hl hk
 go_enter Tryz.func175,Tryz.ntmps175
 go_wp2_with fail
 refine(zIG f zKc part 179 #[.pointer (some ⟨p,0,none⟩)] #[] (some ⟨w.heap.size+1,0,none⟩) 2 _ p B s R (HP.out.ext AC.out) HG.out HL.out (by intro m hm; simp only[zKc,zU,List.not_mem_nil,or_false] at hm; rcases hm with rfl | rfl <;> rfl) (by decide) HK.out.row AP.out (enters_of Tryz.func179 (by kernel_rfl) rfl) (fun wr s' R' hm hp hg hn=>AQ.out wr p B s' R' hp hg hn)).mono ?_
 intro e w1 AA
 cases hr:XB zKc part s with
 | err er a=>
  rw[hr] at AA;obtain⟨rfl,ho⟩:=AA;have HF:Hid (zAp w p B R (Res.err er a) (jV er) w1):=yG (VF.trans (xC.ext AC.out) ⟨rfl,ho⟩);exact xD (P:=Tryz.prog) (fn:=Tryz.f175) rfl HF.out
 | ok x s1=>
  rw[hr] at AA;obtain⟨cs,R1,rfl,AG,AD,AE⟩:=AA;obtain⟨A1,c1,f1,AN,_⟩:=AE.open;have AI:=yG AG;have AL:=yG ((xC.ext (M:=xK p R) AC.out).trans AD);have AF:=yG (HZ.out.xE AD);have AO:=yG AE;have HR:=yG hr;clear hr AG AD AE;subst AN;unfold jY;generalize x.parts.length=xm at *;generalize HY:x.node=y at *;obtain⟨yk,yp,yt,yn,AM⟩:=y
  simp only
  go_wp2_with (refine xQ rfl 225 (.tmp 2) (.tmp 7) rfl w.heap.size #[.int .u8 (yk:Int),.int .i64 (yp:Int),.string (xG yt),.int .i64 yn,.slice none 0 0,.slice A1 xm c1] (by rfl) (by rfl) 225 _ AF.out.1 (by kernel_rfl) rfl rfl ?_; intro w6 AB AH)
  have AR:Hid (zAp w p B R (XB zKc part s) (.returned (.agg (jY ⟨yk,yp,yt,yn,AM⟩ A1 xm c1).toArray)) w6):=yG (by rw[HR.out]; exact⟨_,R1,rfl,AB.ps AI.out AJ.out AF.out.2,AL.out.jQ AB (zX _),((AO.out.weaken (M':=Or (xK p R1) (fun b=>under w b∨b=w.heap.size)) fun b hb k=>by
   rcases k with k | k | k
   ·exact .inl k
   ·exact .inr (yU k AC.out.size)
   ·subst k; exact .inr HZ.out.1.lt).xE (AB.xE (.inr (.inr rfl)))).weaken fun b hb k=>by
   rcases k with k | k
   ·exact .inl k
   ·exact .inr (.inl k)⟩)
  have AS:=yG AH;clear AB AH
  go_wp2_with fail
  exact JH w.heap.size 225 _ _ Tryz.results175 rfl rfl AS.out Tryz.underlying225 rfl (by kernel_rfl) AR.out
theorem zNu (f:Nat)(part:Pm Ex)(hpart:zCc 180 f part)(hfine:∀t,Good t→t.ts.length≤f→zDm t (part t)):zCc 175 f (zEA part):=
 zTP f (zRY part) (zSN f part hpart hfine) (zEu f hfine)
def EAt (w:World)(g p pos:Nat)(neg:Bool)(a:Ex)(R':xX)(w':World):Prop:=∃cs,Safe w' (xK p R') g 225 cs.toArray∧EX w' (Or (xK p R') (fun b=>under w b∨b=g)) (if neg then .neg pos a else a) cs
theorem EAt.xE {w:World}{g p pos:Nat}{neg:Bool}{a:Ex}{R1 R2:xX}{w1 w2:World}(h:EAt w g p pos neg a R1 w1)(k:xC w1 (xK p R1) w2 (xK p R2)):EAt w g p pos neg a R2 w2:=let ⟨cs,h1,h2⟩:=h; ⟨cs,h1.xE k,h2.xE (k.or _)⟩
theorem zQy (w0 w:World)(p B gb g f pos:Nat)(s:Ps)(R:xX)(part:Pm Ex)(hpart:zCc 180 f part)(h:PS w p B s R)(hG:Good s)(hl:s.ts.length≤f)(hb:Safe w (xK p R) gb 99 #[.pointer (some ⟨p,0,none⟩)])(hg:Safe w (xK p R) g 225 (jY ⟨26,pos,[],0,[]⟩ none 0 0).toArray)(hB:B≤g)(hw0:w0.heap.size≤w.heap.size) :
  Calls Tryz.prog 181 #[.pointer (some ⟨gb,0,none⟩),.pointer (some ⟨g,0,none⟩)] w (zAh (fun b=>b=g) w p B R (part s) (EAt w0 g p pos true)):=by
 have HP:=yG h;have AU:=yG (hpart w p B s R h hG hl);have AL:=yG hg;have HB:=yG hB;have AN:=yG hw0;have cb:=hb.1.cell 0;simp only[yL,yM] at cb;clear h hpart hG hl hb hg hB hw0
 go_enter Tryz.func181,Tryz.ntmps181
 go_wp2_with fail
 refine AU.out.mono ?_;intro e w1 AA
 cases hr:part s with
 | err er a=>
  rw[hr] at AA;obtain⟨rfl,s1,AV,R1,AD,AC⟩:=AA;have HF:Hid (zAh (fun b=>b=g) w p B R (part s) (EAt w0 g p pos true) (jV er) w1):=yG (by rw[hr]; exact⟨rfl,s1,R1,AV,AD,AC.or _⟩);exact xD (P:=Tryz.prog) (fn:=Tryz.f181) rfl HF.out
 | ok x s1=>
  rw[hr] at AA;obtain⟨cs,R1,rfl,AD,AC,AJ⟩:=AA;obtain⟨A1,c1,f1,AM,_⟩:=AJ.open;have AB:=yG (AL.out.xE AC);have AK:=yG AC;have AP:=yG AD;have AT:=yG AJ;have AR:=yG (AD.fresh 225 cs.toArray);have AX:=yG AM;have HR:=yG hr;clear hr AD AC AJ;subst AM;have c5:=AB.out.1.cell 5;have z5:=AB.out.1.frozen 5;have AS:=AB.out.1.lt;simp only[jY,yL,yM,List.getElem?_cons_succ] at c5;unfold jY;generalize x.parts.length=xm at *;generalize HY:x.node=y at *;obtain⟨yk,yp,yt,yn,AF⟩:=y
  simp only
  go_wp2_with fail
  go_end0;rw[HR.out];obtain⟨W,hW⟩:∃W,w1.setCell ⟨g,5,none⟩ (.slice (some ⟨w1.heap.size,0,none⟩) 1 1)=W:=⟨_,rfl⟩
  have AW:W.heap.size=w1.heap.size:=by rw[←hW]; simp[World.setCell]
  have AI:∀b,b≠g→W.heap[b]?=w1.heap[b]?:=fun b hb=>by rw[←hW]; exact zS w1 ⟨g,5,none⟩ _ b hb
  have AG:∀ {N:Nat→Prop},N g→xC w1 N W N:=fun h=>by rw[←hW]; exact xC.set h
  have AH:Ext W (W.alloc (.cells (jY ⟨yk,yp,yt,yn,AF⟩ A1 xm c1).toArray 225)):=Ext.alloc _ _;have AQ:g≠w1.heap.size:=Nat.ne_of_lt AS;have AO:=AB.out.1.put 5 (.slice (some ⟨w1.heap.size,0,none⟩) 1 1);rw[hW] at AO ⊢;have AE:=Blk.new W 225 (jY ⟨yk,yp,yt,yn,AF⟩ A1 xm c1).toArray;rw[AW] at AE;have ht:∀ {N:Nat→Prop},N g→xC w1 N (W.alloc (.cells (jY ⟨yk,yp,yt,yn,AF⟩ A1 xm c1).toArray 225)) N:=fun h=>(AG h).trans (xC.ext AH);refine⟨rfl,R1,⟨?_,?_⟩,?_⟩
  ·refine PS.ext (AP.out.jL fun b hb=>AI b fun e=>?_) AH;subst e
   rcases hb with hb | hb
   ·have:=HB.out; omega
   ·exact AB.out.2 hb
  ·exact(AK.out.or _).trans (ht (.inr rfl))
  ·refine⟨jY ⟨26,pos,[],0,[]⟩ (some ⟨w1.heap.size,0,none⟩) 1 1,⟨?_,AB.out.2⟩,⟨w1.heap.size,jY ⟨yk,yp,yt,yn,AF⟩ A1 xm c1,rfl,⟨AE,fun k=>?_⟩,?_⟩⟩
   ·have:=AO.ext AH
    simpa [jY] using this
   ·rcases k with k | k | k
    ·exact AR.out.2 k
    ·have h1:=AN.out;have h2:=AK.out.size;unfold under at k;omega
    ·exact AQ k.symm
   ·refine((AT.out.weaken (M':=Or (xK p R1) (fun b=>under w0 b∨b=g)) fun b hb k=>?_).xE (ht (.inr (.inr rfl))))
    rcases k with k | k | k
    ·exact .inl k
    ·exact .inr (yU k AN.out)
    ·subst k; exact .inr AL.out.1.lt
theorem zPV (w0 w:World)(p B gb g f pos:Nat)(s:Ps)(R:xX)(part:Pm Ex)(hpart:zCc 175 f part)(h:PS w p B s R)(hG:Good s)(hl:s.ts.length≤f)(hb:Safe w (xK p R) gb 99 #[.pointer (some ⟨p,0,none⟩)])(cs0:List Value)(h6:cs0.length=6)(hg:Safe w (xK p R) g 225 cs0.toArray)(hB:B≤g)(hw0:w0.heap.size≤w.heap.size) :
  Calls Tryz.prog 182 #[.pointer (some ⟨gb,0,none⟩),.pointer (some ⟨g,0,none⟩)] w (zAh (fun b=>b=g) w p B R (part s) (EAt w0 g p pos false)):=by
 have HP:=yG h;have AN:=yG (hpart w p B s R h hG hl);have AG:=yG hg;have HB:=yG hB;have AP:=yG hw0;have H6:=yG h6;have cb:=hb.1.cell 0;simp only[yL,yM] at cb;clear h hpart hG hl hb hg hB hw0 h6
 go_enter Tryz.func182,Tryz.ntmps182
 go_wp2_with fail
 refine AN.out.mono ?_;intro e w1 AA
 cases hr:part s with
 | err er a=>
  rw[hr] at AA;obtain⟨rfl,s1,AO,R1,AC,AB⟩:=AA;have HF:Hid (zAh (fun b=>b=g) w p B R (part s) (EAt w0 g p pos false) (jV er) w1):=yG (by rw[hr]; exact⟨rfl,s1,R1,AO,AC,AB.or _⟩);exact xD (P:=Tryz.prog) (fn:=Tryz.f182) rfl HF.out
 | ok x s1=>
  rw[hr] at AA;obtain⟨cs,R1,rfl,AC,AB,AE⟩:=AA;obtain⟨A1,c1,f1,AL,_⟩:=AE.open;have AF:=yG (AG.out.xE AB);have AJ:=yG AB;have AI:=yG AC;have AM:=yG AE;have HR:=yG hr;clear hr AC AB AE;subst AL;unfold jY;generalize x.parts.length=xm at *;generalize HY:x.node=y at *;obtain⟨yk,yp,yt,yn,AK⟩:=y
  simp only
  go_wp2_with (refine xQ rfl 225 (.tmp 1) (.tmp 3) rfl g #[.int .u8 (yk:Int),.int .i64 (yp:Int),.string (xG yt),.int .i64 yn,.slice none 0 0,.slice A1 xm c1] (by rfl) (by rfl) 225 _ AF.out.1 (by kernel_rfl) (by have:=H6.out; simpa using this) rfl ?_; intro w6 AD AH)
  have AQ:Hid (zAh (fun b=>b=g) w p B R (part s) (EAt w0 g p pos false) (.returned (.tuple #[])) w6):=yG (by rw[HR.out]; exact⟨rfl,R1,⟨AD.ps AI.out HB.out AF.out.2,(AJ.out.or _).trans (AD.xE (.inr rfl))⟩,jY ⟨yk,yp,yt,yn,AK⟩ A1 xm c1,⟨AH,AF.out.2⟩,(AM.out.weaken (M':=Or (xK p R1) (fun b=>under w0 b∨b=g)) fun b hb k=>by
   rcases k with k | k | k
   ·exact .inl k
   ·exact .inr (yU k AP.out)
   ·subst k; exact .inr AG.out.1.lt).xE (AD.xE (.inr (.inr rfl)))⟩)
  clear AD AH
  go_wp2_with fail
  go_end0;exact AQ.out
end Go.Proofs.YtbadjmmjbpeocaaGreat
