/- The document's expression in memory. (and what follows of it). The conditions stand at each lemma. -/
import Derived.Test.YtioffpjajhalaaaGreatDoorKaa
import Derived.Test.YtioffpjajhalaaaGreatDoorKbb
import Derived.Test.YtioffpjajhalaaaGreatDoorKal
set_option linter.unusedVariables false
set_option linter.unusedSimpArgs false
set_option maxRecDepth 100000
set_option maxHeartbeats 16000000
namespace Go.Proofs.YtioffpjajhalaaaGreatDoor
open Go Go.RowKit
def jD (n:Nd)(A:Option Addr)(m c:Nat):List Value:=[.int .u8 (n.kind:Int),.int .i64 (n.pos:Int),.string (xE n.text),.int .i64 n.num,.slice A m c]
def EY (w:World)(M:Nat→Prop):Ex→List Value→Prop
 | .leaf k p t n,cs=>cs=jD ⟨k,p,t,n,[]⟩ none 0 0
 | .neg p a,cs=>∃g ca,cs=jD ⟨26,p,[],0,[]⟩ (some ⟨g,0,none⟩) 1 1∧Safe w M g 223 ca.toArray∧EY w M a ca
 | .bin k p a b,cs=>∃g ca cb,cs=jD ⟨k,p,[],0,[]⟩ (some ⟨g,0,none⟩) 2 2∧Safe w M g 223 (ca++cb).toArray∧EY w M a ca∧EY w M b cb
theorem EY.xC {w w':World}{M M':Nat→Prop}(k:yZ w M w' M'):∀ {e:Ex} {cs:List Value},EY w M e cs→EY w' M' e cs
 | .leaf ..,_,h=>h
 | .neg ..,_,⟨g,ca,h1,h2,h3⟩=>⟨g,ca,h1,h2.xC k,EY.xC k h3⟩
 | .bin ..,_,⟨g,ca,cb,h1,h2,h3,h4⟩=>⟨g,ca,cb,h1,h2.xC k,EY.xC k h3,EY.xC k h4⟩
theorem EY.len {w:World}{M:Nat→Prop}:∀ {e:Ex} {cs:List Value},EY w M e cs→cs.length=5
 | .leaf ..,_,h=>by rw[h]; rfl
 | .neg ..,_,⟨g,ca,h1,h2,h3⟩=>by rw[h1]; rfl
 | .bin ..,_,⟨g,ca,cb,h1,h2,h3,h4⟩=>by rw[h1]; rfl
def zJv (w:World)(M:Nat→Prop)(l:List Ex)(A:Option Addr)(f:Nat→List Value):Prop:=
 (∀k (hk:k<l.length),EY w M l[k] (f k))∧(l=[]∨∃b,A=some ⟨b,0,none⟩∧b<w.heap.size∧¬M b∧∀k,k<l.length→∀j,j<5→w.cell? ⟨b,k*5+j,none⟩=(f k)[j]?)
theorem zJv.xC {w w':World}{M M':Nat→Prop}{l:List Ex}{A:Option Addr}{f:Nat→List Value}(h:zJv w M l A f)(k:yZ w M w' M'):zJv w' M' l A f:=by
 refine⟨fun j hj=>(h.1 j hj).xC k,?_⟩
 rcases h.2 with h | ⟨b,h1,h2,h3,h4⟩
 ·exact .inl h
 ·refine .inr ⟨b,h1,yS h2 k.size,fun h5=>by rcases k.zFK b h5 with h6 | h6 <;> first | exact h3 h6 | omega,fun i hi j hj=>?_⟩
  rw[World.cell?_of_block (w:=w) (k.VS b h2 h3)];exact h4 i hi j hj
theorem EY.open {w:World}{M:Nat→Prop}{e:Ex}{cs:List Value}(h:EY w M e cs):∃A c f,cs=jD e.node A e.parts.length c∧zJv w M e.parts A f:=by
 cases e with
 | leaf k p t n=>exact⟨none,0,fun _=>[],h,⟨fun k hk=>by simp[Ex.parts] at hk,.inl rfl⟩⟩
 | neg p a=>
  obtain⟨g,ca,h1,h2,h3⟩:=h;have hl:=h3.len;refine⟨_,_,fun _=>ca,h1,⟨fun k hk=>?_,.inr ⟨g,rfl,h2.1.lt,h2.2,fun k hk j hj=>?_⟩⟩⟩
  ·obtain rfl:k=0:=by simpa [Ex.parts] using hk
   exact h3
  ·obtain rfl:k=0:=by simpa [Ex.parts] using hk
   rw[Nat.zero_mul,Nat.zero_add,h2.1.cell j]
   simp
 | bin kd p a b=>
  obtain⟨g,ca,cb,h1,h2,h3,h4⟩:=h;have hl:=h3.len;refine⟨_,_,fun k=>if k=0 then ca else cb,h1,⟨fun k hk=>?_,.inr ⟨g,rfl,h2.1.lt,h2.2,fun k hk j hj=>?_⟩⟩⟩
  ·have AA:k<2:=hk
   match k,AA with
   | 0,_=>exact h3
   | 1,_=>exact h4
  ·have AA:k<2:=hk;rw[h2.1.cell (k*5+j)]
   match k,AA with
   | 0,_=>
    show(ca++cb).toArray[0*5+j]?=ca[j]?
    rw[Nat.zero_mul,Nat.zero_add,yJ,List.getElem?_append_left (by omega)]
   | 1,_=>
    show(ca++cb).toArray[1*5+j]?=cb[j]?
    rw[yJ,List.getElem?_append_right (by omega)]
    congr 1
    omega
theorem QS.zBM {w:World}{p B:Nat}{r:Rs}{R:vJ}(h:QS w p B r R){b:Nat}(hb:xI p R b):b<w.heap.size:=by
 rcases hb with rfl | hb
 ·exact h.blk.lt
 ·exact(h.ns.zBM hb).2
theorem QS.fresh {w:World}{p B:Nat}{r:Rs}{R:vJ}(h:QS w p B r R)(t:TypeId)(cs:Array Value):Safe (w.alloc (.cells cs t)) (xI p R) w.heap.size t cs:=⟨Blk.new _ _ _,fun hb=>by have:=h.zBM hb; omega⟩
theorem zQI (f:Nat)(ih:∀(e:Ex),e.size≤f→∀(w:World) (p B:Nat) (r:Rs) (R:vJ) (i:Nat) (cs:List Value),QS w p B r R→i<r.s.nd.length→r.s.nd.length+e.size≤1900000→EY w (xI p R) e cs →
  Calls Tryz.prog 188 #[.pointer (some ⟨p,0,none⟩),.int .i64 (i:Int),.agg cs.toArray] w fun en w'=>en=.returned (.tuple #[])∧jO w p B R { r with s:=JW i e r.s } w')
  (e:Ex) (hsz:e.size≤f+1) (w:World) (p B:Nat) (r:Rs) (R:vJ) (i:Nat) (cs:List Value) (h:QS w p B r R) (hi:i<r.s.nd.length) (hbig:r.s.nd.length+e.size≤1900000) (hx:EY w (xI p R) e cs) :
  Calls Tryz.prog 188 #[.pointer (some ⟨p,0,none⟩),.int .i64 (i:Int),.agg cs.toArray] w fun en w'=>en=.returned (.tuple #[])∧jO w p B R { r with s:=JW i e r.s } w':=by
 obtain⟨i1,BE,BI,BK,A5⟩:=info_parts zKT;obtain⟨eA,ec,ef,A4,As⟩:=hx.open;have HQ:=yE (zPj i e r.s);have BD:=yE hsz;have AX:=yE hbig;have BN:=yE e.zJ2;have BG:=yE e.zGI;have BF:=yE e.zK4;have Am:=e.zKU;have BA:=yE ih;have Ao:=fun x (hx:x ∈ e.parts)=>e.zLa x hx;have AV:=yE Ao;clear ih hsz hx Ao;generalize e.parts=l at *;generalize e.node=x at *;obtain⟨xk,xp,xt,xn,Al⟩:=x
 simp only at Am
 subst Am;subst A4;have AJ:=h.len;unfold jD;obtain⟨gx,Ag⟩:∃gx,Hid (w.heap.size=gx):=⟨_,yE rfl⟩;obtain⟨W,HW⟩:∃W,Hid (W=w.alloc (.cells (jD ⟨xk,xp,xt,xn,[]⟩ eA l.length ec).toArray 223)):=⟨_,yE rfl⟩;have AW:Hid (Ext w W):=yE (by rw[HW.out]; exact Ext.alloc _ _);have BL:Hid (Safe W (xI p R) gx 223 (jD ⟨xk,xp,xt,xn,[]⟩ eA l.length ec).toArray):=yE (by rw[HW.out,←Ag.out]; exact h.fresh _ _);have HP:=yE (h.ext AW.out);have A8:=yE (As.xC (yZ.ext (M:=xI p R) AW.out));have BU:=yE AJ;have HI:=yE hi;clear h hi As AJ hbig
 go_enter Tryz.func188,Tryz.ntmps188
 have BH:Hid (w.alloc (.cells #[.int .u8 (xk:Int),.int .i64 (xp:Int),.string (xE xt),.int .i64 xn,.slice eA l.length ec] 223)=W):=yE (by rw[HW.out]; rfl)
 go_upto_region 1 with fail
 rw[BH.out,Ag.out]
 go_wp2_with fail
 refine(jK W p B r R i HP.out HI.out (by have:=AX.out; omega)).mono ?_;rintro e' w3 ⟨rfl,R3,AB,AT⟩;have AO:=yE AB;have Ai:=yE AT;have AF:=yE (BL.out.xC AT);have AD:=AF.out.1.lt;have AH:=AB.blk.lt;have x3:w3.cell? ⟨p,3,none⟩=some (.slice R3.A R3.nh.length R3.c):=AB.blk.cell 3
 have Au:Hid (R3.nh.length=r.s.nd.length):=yE (by
  have h1:({ r with s:=r.s.kid i }:Rs).s.nd.length=R3.nh.length:=by rw[AB.nodes,yO]
  have h2:(r.s.kid i).nd.length=r.s.nd.length:=zPg
  rw[←h1,←h2])
 have Aj:R3.nh.length+1≤1900000:=by have:=AX.out; have:=BG.out; have:=Au.out; omega
 obtain⟨o,HO⟩:∃o,Hid ((Value.slice R3.A R3.nh.length R3.c).ownBlock=o):=⟨_,yE rfl⟩
 have Aq:Hid (some p≠o):=yE fun e=>by
  rw[←HO.out] at e;obtain⟨BS,hc⟩:=vZ AB.ns.row (vH AB.ns.row e.symm);exact Blk.differ AB.blk hc (by decide) rfl
 have AP:Hid (some gx≠o):=yE fun e=>by
  rw[←HO.out] at e;exact AF.out.2 (.inr (.inl (vH AB.ns.row e.symm)))
 have A9:Hid (∀g,o=some g→g<w3.heap.size):=yE fun g e=>by
  rw[←HO.out] at e;exact(YP AB.ns.row (vH AB.ns.row e)).2
 have Ac:Hid (B≤w3.heap.size):=yE (Nat.le_trans AB.pB (zS AH));obtain⟨Fs,AN⟩:∃Fs,Hid (FsK B 100 (.slice R3.A R3.nh.length R3.c) w3.heap.size R3.nh.length (ncs R3.nh) (jL (⟨xk,xp,xt,xn,[]⟩,(none,0)))=Fs):=⟨_,yE rfl⟩
 have hE:∀F ∈ Fs,∀v w w',F v w→Ext w w'→F v w':=by rw[←AN.out]; exact zF8 _ _ _ _ _ _ _
 have m0:(fun (_:Value) w=>zAB B 100 R3.nh.length (ncs R3.nh) (.slice R3.A R3.nh.length R3.c) w) ∈ Fs:=by rw[←AN.out]; simp only[FsK,zR,true_or]
 have m1:zDq 100 w3.heap.size (jL (⟨xk,xp,xt,xn,[]⟩,(none,0))).toArray ∈ Fs:=by rw[←AN.out]; simp only[FsK,zR,true_or,or_true]
 have m2:zKt B 100 o w3.heap.size (R3.nh.length+1) (ncs R3.nh++jL (⟨xk,xp,xt,xn,[]⟩,(none,0))) ∈ Fs:=by rw[←AN.out,←HO.out]; simp only[FsK,zR,true_or,or_true]
 have At:=yE hE;have M0:=yE m0;have M1:=yE m1;have M2:=yE m2;clear AB AT hE m0 m1 m2
 go_upto_region 3 with fail
 clear x3;apply zAO o Fs 18 (by kernel_rfl) (by kernel_rfl) (by kernel_rfl) At.out;dsimp only[List.take_succ_cons,List.take_zero,List.drop_succ_cons,List.drop_zero];apply sG vK.refl (.pointer (some ⟨p,0,none⟩));apply sG vK.refl (.pointer (some ⟨p,0,none⟩));apply sG vK.refl (.pointer (some ⟨p,0,none⟩));apply sG vK.refl (.pointer (some ⟨p,3,none⟩));apply xN (.slice R3.A R3.nh.length R3.c) rfl rfl rfl
 ·intro w' AA hH;have hR:=vK.refl (o:=o) (Fs:=Fs) w';have cc:=Blk.cell ((AA.1.block p AH Aq.out).trans AO.out.blk) 3;clear hH AA;simp[xH,go_sem,cc];exact hR
 apply sG vK.refl (.pointer (some ⟨gx,0,none⟩));apply xN (.int .u8 (xk:Int)) rfl rfl rfl
 ·intro w' AA hH;have hR:=vK.refl (o:=o) (Fs:=Fs) w';have cc:=Blk.cell ((AA.1.block gx AD AP.out).trans AF.out.1) 0;simp only[jD,yJ,yK,List.getElem?_cons_succ] at cc;clear hH AA;simp[xH,go_sem,cc];exact hR
 apply sG vK.refl (.pointer (some ⟨gx,1,none⟩));apply xN (.int .i64 (xp:Int)) rfl rfl rfl
 ·intro w' AA hH;have hR:=vK.refl (o:=o) (Fs:=Fs) w';have cc:=Blk.cell ((AA.1.block gx AD AP.out).trans AF.out.1) 1;simp only[jD,yJ,yK,List.getElem?_cons_succ] at cc;clear hH AA;simp[xH,go_sem,cc];exact hR
 apply sG vK.refl (.pointer (some ⟨gx,2,none⟩));apply xN (.string (xE xt)) rfl rfl rfl
 ·intro w' AA hH;have hR:=vK.refl (o:=o) (Fs:=Fs) w';have cc:=Blk.cell ((AA.1.block gx AD AP.out).trans AF.out.1) 2;simp only[jD,yJ,yK,List.getElem?_cons_succ] at cc;clear hH AA;simp[xH,go_sem,cc];exact hR
 apply sG vK.refl (.pointer (some ⟨gx,3,none⟩));apply xN (.int .i64 xn) rfl rfl rfl
 ·intro w' AA hH;have hR:=vK.refl (o:=o) (Fs:=Fs) w';have cc:=Blk.cell ((AA.1.block gx AD AP.out).trans AF.out.1) 3;simp only[jD,yJ,yK,List.getElem?_cons_succ] at cc;clear hH AA;simp[xH,go_sem,cc];exact hR
 (try simp only[Act.put,yB,yC,yD]);apply sG vK.refl (.agg #[.int .u8 (xk:Int),.int .i64 (xp:Int),.string (xE xt),.int .i64 xn,.slice none 0 0])
 apply ZK (zDq 100 w3.heap.size (jL (⟨xk,xp,xt,xn,[]⟩,(none,0))).toArray) (fun v w w' h hx=>hx.2 _ M1.out v h) rfl rfl rfl
 ·intro w' AA hH;have hz:=AA.1.size;clear hH AA;simp[xH,go_sem];exact⟨⟨_,rfl,Blk.new _ _ _,hz⟩,vK.ext At.out (Ext.alloc _ _)⟩
 intro BC;(try simp only[Act.put,yB,yC,yD]);apply ZK (zKt B 100 o w3.heap.size (R3.nh.length+1) (ncs R3.nh++jL (⟨xk,xp,xt,xn,[]⟩,(none,0)))) (fun v w w' h hx=>hx.2 _ M2.out v h) rfl rfl rfl
 ·intro w' AA hH;have AZ:=hH _ (List.mem_cons_self ..) ⟨_,rfl,by decide⟩;have Ad:=AA.2 _ M0.out undef AO.out.ns.zTD;have hz:=AA.1.size;clear hH AA;rw[←AN.out,←HO.out];exact zDc B w3.heap.size (.tmp 20) (.tmp 30) 52 rfl 100 i1 _ 64 Tryz.underlying52 BE BI BK A5 rfl (.slice R3.A R3.nh.length R3.c) R3.nh.length (ncs R3.nh) (jL (⟨xk,xp,xt,xn,[]⟩,(none,0))) (by kernel_rfl) Ad BC (by kernel_rfl) AZ rfl (zFp _) (by unfold maxLen; omega) (by omega) (Nat.le_trans Ac.out hz) hz (fun g e=>A9.out g (by rw[←HO.out]; exact e))
 intro BR;(try simp only[Act.put,yB,yC,yD]);apply sG vK.refl (.pointer (some ⟨p,0,none⟩));apply sG vK.refl (.pointer (some ⟨p,3,none⟩));apply ZQ;intro w4 AU hH;have AQ:=hH _ (List.mem_cons_self ..);clear hH;obtain⟨g4,AL,rfl⟩:=AQ.1.at;have Af:=AU.1;rw[←HO.out] at Af;have AY:Blk w4 p 127 _:=(AU.1.block p AH Aq.out).trans AO.out.blk
 obtain⟨Ar,Ak⟩:=QK.snoc (w:=w3) AO.out (Ext.refl w3) ⟨xk,xp,xt,xn,[]⟩ rfl AQ.1.1 Af (by
  rcases AQ.2 with e | ⟨g',e,BQ⟩
  ·left; rw[HO.out,←e]; rfl
  ·right; have:g4=g':=by simpa [Value.ownBlock] using e
   omega)
 have y1:w4.cell? ⟨p,3,none⟩=some (.slice R3.A R3.nh.length R3.c):=AY.cell 3;have z1:=AY.frozen 3;have Av:Hid (jO w3 p B R3 { r with s:=(r.s.kid i).add ⟨xk,xp,xt,xn,[]⟩ } (w4.setCell ⟨p,3,none⟩ (.slice (some ⟨g4,0,none⟩) (R3.nh.length+1) AL))):=yE ⟨_,Ar,Ak⟩;clear AQ Af AY Ar Ak AU;(try simp only[Act.put,yB,yD,yC])
 go_upto_region 4 with fail
 clear y1 z1;generalize w4.setCell ⟨p,3,none⟩ (.slice (some ⟨g4,0,none⟩) (R3.nh.length+1) AL)=w5 at *;obtain⟨R5,AM,AE⟩:=Av.out;have AS:=yE ((A8.out.xC Ai.out).xC AE);have A2:=yE (AF.out.xC AE);have Ax:=yE AM;have A3:=yE (((yZ.ext (M:=xI p R) AW.out).trans Ai.out).trans AE);rw[Au.out];clear AM AE
 go_wp2_with fail
 go_loopw [7] (fun i' wr=>∃(k:Nat) (R':vJ),k≤l.length∧i'=.int .i64 k∧Hid (QS wr p B { r with s:=zDG r.s.nd.length (l.take k) ((r.s.kid i).add ⟨xk,xp,xt,xn,[]⟩) } R')∧Hid (yZ w (xI p R) wr (xI p R'))∧Hid (zJv wr (xI p R') l eA ef)∧Hid (Safe wr (xI p R') gx 223 (jD ⟨xk,xp,xt,xn,[]⟩ eA l.length ec).toArray)) (fun i' _=>l.length-(intOf i').toNat)
 case atStart=>exact⟨0,R5,zT _,rfl,Ax,A3,AS,A2⟩
 case round=>
  obtain⟨k,R',hk,rfl,Ap,An,AG,AK⟩:=hrel;obtain⟨wa,rfl⟩:∃wa:World,wa=wr:=⟨_,rfl⟩;have BP:=BF.out;have c4:wa.cell? ⟨gx,4,none⟩=some (.slice eA l.length ec):=AK.out.1.cell 4
  by_cases AC:k<l.length
  ·have d0:decide ((k:Int)<(l.length:Int))=true:=yQ (by omega)
   have q1:(k:Int)<(l.length:Int):=by omega
   obtain⟨b,rfl,hb,BT,AI⟩:∃b,eA=some ⟨b,0,none⟩∧b<wa.heap.size∧¬xI p R' b∧∀k,k<l.length→∀j,j<5→wa.cell? ⟨b,k*5+j,none⟩=(ef k)[j]?:=by
    rcases AG.out.2 with h | h
    ·rw[h] at AC; cases AC
    ·exact h
   have Aa:=AG.out.1 k AC;have BO:=yE Aa;have Ay:=yE (AV.out l[k] (yM AC));obtain⟨A',c',f',Ae,_⟩:=Aa.open;have e0:=AI k AC 0 (by decide);have e1:=AI k AC 1 (by decide);have e2:=AI k AC 2 (by decide);have e3:=AI k AC 3 (by decide);have e4:=AI k AC 4 (by decide);rw[Ae] at e0 e1 e2 e3 e4;have BJ:=yE Ae;simp only[jD,yK,List.getElem?_cons_succ,Nat.add_zero] at e0 e1 e2 e3 e4;clear Aa Ae AI;generalize l[k].node=y at *;obtain⟨yk,yp,yt,yn,A0⟩:=y
   simp only at e0 e1 e2 e3 e4
   generalize l[k].parts.length=ym at *;have Aw:=yE (zHj r.s.nd.length l k AC ((r.s.kid i).add ⟨xk,xp,xt,xn,[]⟩))
   have A6:Hid (r.s.nd.length<(zDG r.s.nd.length (l.take k) ((r.s.kid i).add ⟨xk,xp,xt,xn,[]⟩)).nd.length):=yE (by
    have:=(zKf r.s.nd.length (l.take k) ((r.s.kid i).add ⟨xk,xp,xt,xn,[]⟩)).1
    rw[zAo] at this
    omega)
   have A7:Hid ((zDG r.s.nd.length (l.take k) ((r.s.kid i).add ⟨xk,xp,xt,xn,[]⟩)).nd.length+l[k].size≤1900000):=yE (by
    rw[zG5,zAo];have h1:=zEN (l.map Ex.size) k (by simpa using AC);rw[←List.map_take,zA] at h1;have h2:=BN.out;have h3:=AX.out
    omega)
   go_wp2_with fail
   refine(BA.out l[k] (by have:=Ay.out; have:=BD.out; omega) wa p B _ R' r.s.nd.length (jD ⟨yk,yp,yt,yn,A0⟩ A' ym c') Ap.out A6.out A7.out (by rw[←BJ.out]; exact BO.out)).mono ?_;rintro e' w6 ⟨rfl,R6,Ah,AR⟩;have BB:Hid (QS w6 p B { r with s:=zDG r.s.nd.length (l.take (k+1)) ((r.s.kid i).add ⟨xk,xp,xt,xn,[]⟩) } R6):=yE (by rw[Aw.out]; exact Ah);have Az:=yE (An.out.trans AR);have BM:=yE (AG.out.xC AR);have A1:=yE (AK.out.xC AR);clear Ah AR
   go_wp2_with fail
   go_roundw
   case rel=>exact⟨k+1,R6,by omega,by go_num,BB,Az,BM,A1⟩
   case measure=>simp[intOf]; omega
  ·obtain rfl:k=l.length:=by omega
   have d0:decide ((l.length:Int)<(l.length:Int))=false:=by simp
   have d1:decide (l.length<l.length)=false:=by simp
   have Ab:Hid (jO w p B R { r with s:=JW i e r.s } wa):=yE (by
    rw[HQ.out];have h:=Ap.out;rw[List.take_length] at h
    exact⟨R',h,An.out⟩)
   go_wp2_with fail
   go_end0;exact⟨rfl,Ab.out⟩
theorem zNk:∀(f:Nat) (e:Ex),e.size≤f→∀(w:World) (p B:Nat) (r:Rs) (R:vJ) (i:Nat) (cs:List Value),QS w p B r R→i<r.s.nd.length→r.s.nd.length+e.size≤1900000→EY w (xI p R) e cs →
  Calls Tryz.prog 188 #[.pointer (some ⟨p,0,none⟩),.int .i64 (i:Int),.agg cs.toArray] w fun en w'=>en=.returned (.tuple #[])∧jO w p B R { r with s:=JW i e r.s } w'
 | 0,e,hs=>by have:=e.zGI; omega
 | f+1,e,hs=>fun w p B r R i cs h1 h2 h3 h4=>zQI f (zNk f) e hs w p B r R i cs h1 h2 h3 h4
section
variable (P:Program) (ops:Array Oper) (wd:World) (G:World→Prop) (Q:Act→World→Prop) (c:Nat)
def zPm (i:Nat)(o:Oper)(a:Act)(H:List (Option Tmp × (World→Prop))):Take→Prop
 | .det v0=>∀w,w=wd∨G w→if Region.wanted o (yielded ops a.tmps)=true then xH P a.eval o w (fun v w'=>v=v0∧w'=w) else undef=v0
 | .fact F=>(∀v w w',F v w→Ext w w'→F v w')∧if i=c then (if Region.wanted o (yielded ops a.tmps)=true then xH P a.eval o wd (fun v w'=>F v w'∧G w') else F undef wd∧G wd)
  else ∀w,G w→(∀p ∈ H,(∃t,p.1=some t∧t ∈ o.looksAt ops)→p.2 w)→if Region.wanted o (yielded ops a.tmps)=true then xH P a.eval o w (fun v w'=>F v w'∧Ext w w') else F undef w
def zC2:Nat→List Oper→List Take→Act→List (Option Tmp × (World→Prop))→Prop
 | _,[],_,a,H=>∀w,G w→(∀p ∈ H,p.2 w)→Q a w
 | k,o::l,.det v0::ks,a,H=>zPm P ops wd G c k o a H (.det v0)∧zC2 (k+1) l ks (a.put o.dst v0) H
 | k,o::l,.fact F::ks,a,H=>zPm P ops wd G c k o a H (.fact F)∧∀v,zC2 (k+1) l ks (a.put o.dst v) ((o.dst,F v)::H)
 | _,_::_,[],_,_=>False
end
section
variable {P:Program} {ops:Array Oper} {wd:World} {G:World→Prop} {Q:Act→World→Prop} {c:Nat}
theorem zHp {k:Nat}{a:Act}{H:List (Option Tmp × (World→Prop))}(h:∀w,G w→(∀p ∈ H,p.2 w)→Q a w):zC2 P ops wd G Q c k [] [] a H:=h
theorem JH {k:Nat}{o:Oper}{l:List Oper}{ks:List Take}{a:Act}{H:List (Option Tmp × (World→Prop))}{d:Option Tmp}(v0:Value)(hd:o.dst=d)(hg:o.guard=none)
  (h:∀w,w=wd∨G w→xH P a.eval o w (fun v w'=>v=v0∧w'=w)) (hk:zC2 P ops wd G Q c (k+1) l ks (a.put d v0) H):zC2 P ops wd G Q c k (o::l) (.det v0::ks) a H:=by
 subst hd;refine⟨fun w hw=>?_,hk⟩
 have:Region.wanted o (yielded ops a.tmps)=true:=by unfold Region.wanted; rw[hg]
 rw[if_pos this];exact h w hw
theorem zHr {k:Nat}{o:Oper}{l:List Oper}{ks:List Take}{a:Act}{H:List (Option Tmp × (World→Prop))}{d:Option Tmp}(F:Value→World→Prop)(hkc:k=c)(hs:∀v w w',F v w→Ext w w'→F v w')(hd:o.dst=d)(hg:o.guard=none)
  (h:xH P a.eval o wd (fun v w'=>F v w'∧G w')) (hk:∀v,zC2 P ops wd G Q c (k+1) l ks (a.put d v) ((d,F v)::H)):zC2 P ops wd G Q c k (o::l) (.fact F::ks) a H:=by
 subst hd;refine⟨⟨hs,?_⟩,hk⟩
 have:Region.wanted o (yielded ops a.tmps)=true:=by unfold Region.wanted; rw[hg]
 rw[if_pos hkc,if_pos this];exact h
theorem zG8 {k:Nat}{o:Oper}{l:List Oper}{ks:List Take}{a:Act}{H:List (Option Tmp × (World→Prop))}{d:Option Tmp}{L:List Tmp}(F:Value→World→Prop)(hkc:k≠c)(hs:∀v w w',F v w→Ext w w'→F v w')(hd:o.dst=d)(hg:o.guard=none)(hL:zAM o=L)
  (h:∀w,G w→(∀p ∈ H,(∃t,p.1=some t∧t ∈ L)→p.2 w)→xH P a.eval o w (fun v w'=>F v w'∧Ext w w')) (hk:∀v,zC2 P ops wd G Q c (k+1) l ks (a.put d v) ((d,F v)::H)):zC2 P ops wd G Q c k (o::l) (.fact F::ks) a H:=by
 subst hd hL;refine⟨⟨hs,?_⟩,hk⟩
 have:Region.wanted o (yielded ops a.tmps)=true:=by unfold Region.wanted; rw[hg]
 rw[if_neg hkc];intro w hw hH;rw[if_pos this];exact h w hw fun p hp ⟨t,ht,hm⟩=>hH p hp ⟨t,ht,List.mem_append_left _ hm⟩
theorem zFU {ks:List Take}{a0:Act}(vs:Nat→Value):∀(l:List Oper) (k:Nat),(∀j,j<l.length→l[j]?=ops[k+j]?)→zC2 P ops wd G Q c k l (ks.drop k) (XR ops ks vs a0 k) (zAs ops ks vs k) →
  (∀i o,k≤i→i<k+l.length→ops[i]?=some o→zPm P ops wd G c i o (XR ops ks vs a0 i) (zAs ops ks vs i) (ks.getD i (.det undef))) ∧
  ∀w,G w→(∀p ∈ zAs ops ks vs (k+l.length),p.2 w)→Q (XR ops ks vs a0 (k+l.length)) w
 | [],k,hl,h=>by
  refine⟨fun i o hi AB ho=>?_,by simpa [zC2] using h⟩
  simp at AB
  omega
 | o::l,k,hl,h=>by
  have h0:ops[k]?=some o:=by simpa using (hl 0 (by simp)).symm
  have AE:∀j,j<l.length→l[j]?=ops[k+1+j]?:=fun j hj=>by
   have:=hl (j+1) (by simpa using hj)
   simpa [Nat.add_assoc,Nat.add_comm 1 j] using this
  cases hd:ks.drop k with
  | nil=>rw[hd] at h; simp[zC2] at h
  | cons x ks'=>
   rw[hd] at h
   have hx:ks[k]?=some x:=by
    have:=congrArg (fun l=>l[0]?) hd
    simpa using this
   have hg:ks.getD k (.det undef)=x:=by simp[List.getD,hx]
   have AD:ks.drop (k+1)=ks':=by
    rw[←List.drop_drop,hd]; rfl
   have AA:k+(o::l).length=k+1+l.length:=by simp; omega
   cases x with
   | det v0=>
    simp only[zC2] at h
    have hA:XR ops ks vs a0 (k+1)=(XR ops ks vs a0 k).put o.dst v0:=by
     show(XR ops ks vs a0 k).put ((ops[k]?).bind (·.dst)) ((ks.getD k (.det undef)).val (vs k))=_
     rw[hg,h0]; rfl
    have hH:zAs ops ks vs (k+1)=zAs ops ks vs k:=by
     show(match ks.getD k (.det undef) with | .det _=>_ | .fact F=>_)=_
     rw[hg]
    obtain⟨r1,r2⟩:=zFU vs l (k+1) AE (by rw[AD,hA,hH]; exact h.2);rw[AA];refine⟨fun i oi hi AB ho=>?_,r2⟩
    by_cases AC:i=k
    ·subst AC;rw[h0] at ho;obtain rfl:=Option.some.inj ho;rw[hg];exact h.1
    ·exact r1 i oi (by omega) (by omega) ho
   | fact F=>
    simp only[zC2] at h
    have hA:XR ops ks vs a0 (k+1)=(XR ops ks vs a0 k).put o.dst (vs k):=by
     show(XR ops ks vs a0 k).put ((ops[k]?).bind (·.dst)) ((ks.getD k (.det undef)).val (vs k))=_
     rw[hg,h0]; rfl
    have hH:zAs ops ks vs (k+1)=(o.dst,F (vs k))::zAs ops ks vs k:=by
     show(match ks.getD k (.det undef) with | .det _=>_ | .fact F=>_)=_
     rw[hg,h0]; rfl
    obtain⟨r1,r2⟩:=zFU vs l (k+1) AE (by rw[AD,hA,hH]; exact h.2 (vs k));rw[AA];refine⟨fun i oi hi AB ho=>?_,r2⟩
    by_cases AC:i=k
    ·subst AC;rw[h0] at ho;obtain rfl:=Option.some.inj ho;rw[hg];exact h.1
    ·exact r1 i oi (by omega) (by omega) ho
structure zUH (P:Program)(ops:Array Oper)(m c:Nat)(wd:World)(G:World→Prop)(ks:List Take)(a0:Act)(listed:Array Bool)(a:Act)(w:World)(vs:Nat→Value):Prop where
 first:listed.getD c true=false→w=wd
 world:listed.getD c true=true→G w
 defers:a.defers=a0.defers
 facts:∀i,i<m→listed.getD i true=true→(ks.getD i (.det undef)).says (vs i) w
 done:∀i o t,i<m→ops[i]?=some o→o.dst=some t→listed.getD i true=true→a.tmps[t]?=(a0.tmps[t]?).map fun _=>vs i
 other:∀t,(∀i o,i<m→ops[i]?=some o→o.dst=some t→listed.getD i true=false)→a.tmps[t]?=a0.tmps[t]?
 closed:∀i o,ops[i]?=some o→listed.getD i false=true→∀e ∈ o.after,Region.binds .any e=true→listed.getD e.on false=true
 fresh:∀i,m≤i→i<ops.size→listed.getD i true=false
def zL4 (ops:Array Oper)(c i:Nat):Bool:=match ops[i]? with
 | none=>false
 | some o=>o.after.any fun e=>e.on==c&&Region.binds .any e
theorem zQq {m:Nat}(hG:∀w w',G w→Ext w w'→G w')(hB:zAr ops m=true)(hT:zDE ops m=true){ks:List Take}{a0:Act}{Q':Exit→Act→World→Prop}(hcm:c<m)
  (hcf:∃F,ks.getD c (.det undef)=.fact F) (hc:∀i F,i<m→ks.getD i (.det undef)=.fact F→i=c∨zL4 ops c i=true)
  (how:∀vs i o,i<m→ops[i]?=some o→zPm P ops wd G c i o (XR ops ks vs a0 i) (zAs ops ks vs i) (ks.getD i (.det undef)))
  (hQ:∀vs w,G w→(∀p ∈ zAs ops ks vs m,p.2 w)→wpList P ops Q' (ops.toList.drop m) (XR ops ks vs a0 m) w) :
  ∀(n:Nat) (listed:Array Bool) (U:List Nat) (a:Act) (w:World) (vs:Nat→Value),listed.size=ops.size→U.length=n→U.Nodup→(∀i,i ∈ U↔i<m∧listed.getD i true=false) →
   zUH P ops m c wd G ks a0 listed a w vs→wpAny P .any ops Q' (n+(ops.size-m)) listed a w:=by
 have An:=zCC hB
 have AD:∀(listed:Array Bool) (j:Nat),listed.size=ops.size→j<ops.size→listed.getD j false=listed.getD j true:=fun listed j AJ hj=>by
  have:j<listed.size:=by omega
  simp[this]
 intro n
 induction n with
 | zero=>
  intro listed U a w vs AJ AL AW hU AA;obtain rfl:=List.length_eq_zero_iff.1 AL
  have AP:∀i,i<m→listed.getD i true=true:=fun i hi=>by
   cases hf:listed.getD i true with
   | true=>rfl
   | false=>have:=(hU i).2 ⟨hi,hf⟩; cases this
  have ea:a=XR ops ks vs a0 m:=by
   refine zMr (fun t=>?_) (by rw[AA.defers,zC5])
   by_cases AO:∃(i:Nat) (o:Oper),i<m∧ops[i]?=some o∧o.dst=some t
   ·obtain⟨i,o,AC,hi,hd⟩:=AO;have hl:=AP i AC;rw[AA.done i o t AC hi hd hl,zBx hB (j:=i) (by rw[hi]; exact hd) AC (zU _),Take.zGR (AA.facts i AC hl)]
   ·rw[AA.other t fun i o AC hi hd=>absurd ⟨i,o,AC,hi,hd⟩ AO,JY];intro j hj e;obtain⟨o,ho,hd⟩:=Option.bind_eq_some_iff.1 e;exact AO ⟨j,o,hj,ho,hd⟩
  rw[Nat.zero_add];refine zFG hT _ m listed a w (zU _) (by omega) AJ (fun j hj=>?_) AA.closed ?_
  ·by_cases AF:j<m
   ·rw[AP j AF]; simp[AF]
   ·rw[AA.fresh j (by omega) hj]; simp[AF]
  ·rw[ea];refine hQ vs w (AA.world (AP c hcm)) fun p hp=>?_;obtain⟨j,hj,_,hs⟩:=zBY hp;exact hs w (AA.facts j hj (AP j hj))
 | succ n ih=>
  intro listed U a w vs AJ AL AW hU AA;rw[show n+1+(ops.size-m)=n+(ops.size-m)+1 from by omega]
  have AQ:Region.ready .any ops listed≠[]:=fun hr=>by
   have AP:∀n i,i<n→i<m→listed.getD i true=true:=by
    intro n
    induction n with
    | zero=>intro i hi; omega
    | succ n ih'=>
     intro i hi AY
     cases hf:listed.getD i true with
     | true=>rfl
     | false=>
      exfalso
      have Af:ops[i]?=some ops[i]:=Array.getElem?_eq_getElem (by omega)
      have hm:i ∈ Region.ready .any ops listed:=by
       rw[mem_ready];refine⟨hf,_,Af,fun e he hb=>?_⟩;have Aj:=(zAn hB AY Af).2 e he hb;rw[AD listed e.on AJ (by omega)];exact ih' e.on (by omega) (by omega)
      rw[hr] at hm
      cases hm
   cases U with
   | nil=>simp at AL
   | cons x xs=>
    have:=(hU x).1 List.mem_cons_self
    rw[AP (x+1) x (by omega) this.1] at this
    cases this.2
  refine⟨fun hr=>absurd hr AQ,fun i hi=>?_⟩;obtain⟨h0,o,ho,AK⟩:=mem_ready.1 hi;have AY:i<ops.size:=(Array.getElem?_eq_some_iff.1 ho).1
  have AC:i<m:=by
   rcases Nat.lt_or_ge i m with h | h
   ·exact h
   ·exfalso
    cases U with
    | nil=>simp at AL
    | cons x xs=>
     have hx:=(hU x).1 List.mem_cons_self
     have:=zC6 AA.closed 8 i x o ho AK ((zBy hT ho h).2 x (by omega))
     rw[AD listed x AJ (by omega),hx.2] at this
     cases this
  have Ac:i<listed.size:=by omega
  have AM:(listed.setIfInBounds i true).getD i true=true:=by simp[Ac]
  have AG:∀j,j≠i→(listed.setIfInBounds i true).getD j true=listed.getD j true:=fun j hj=>getD_set_ne true (Ne.symm hj)
  have AI:∀t ∈ o.looksAt ops,a.tmps[t]?=(XR ops ks vs a0 i).tmps[t]?:=fun t ht=>by
   by_cases AO:∃(j:Nat) (p:Oper),j<m∧ops[j]?=some p∧p.dst=some t
   ·obtain⟨j,p,AF,hj,hd⟩:=AO
    rcases(jG hB AC AF ho hj hd).2 ht with ⟨AB,e,he,heq,hb⟩ | ⟨hij,e,he,heq,hb⟩
    ·have AU:listed.getD j true=true:=by
      have h1:=AK e he hb;rw[heq,AD listed j AJ (by omega)] at h1;exact h1
     rw[AA.done j p t AF hj hd AU,zBx hB (j:=j) (by rw[hj]; exact hd) AB (by omega),Take.zGR (AA.facts j AF AU)]
    ·have Ag:listed.getD j true=false:=by
      cases hf:listed.getD j true with
      | false=>rfl
      | true=>
       have:=AA.closed j p hj (by rw[AD listed j AJ (by omega)]; exact hf) e he hb
       rw[heq,AD listed i AJ AY,h0] at this
       cases this
     rw[AA.other t fun k ok AS hk AN=>by
       have:=(jG hB AS AF hk hj hd).1 AN
       subst this
       exact Ag,JY]
     intro k hk e';obtain⟨ok,Am,AN⟩:=Option.bind_eq_some_iff.1 e'
     have:=(jG hB (by omega) AF Am hj hd).1 AN
     omega
   ·rw[AA.other t fun i o AC hi hd=>absurd ⟨i,o,AC,hi,hd⟩ AO,JY];intro j hj e;obtain⟨o,ho,hd⟩:=Option.bind_eq_some_iff.1 e;exact AO ⟨j,o,by omega,ho,hd⟩
  have AR:∀(j:Nat) (F:Value→World→Prop),j<m→ks.getD j (.det undef)=.fact F→j≠c→∃p e,ops[j]?=some p∧e ∈ p.after∧e.on=c∧Region.binds .any e=true:=fun j F hj hk Aa=>by
   rcases hc j F hj hk with h | h
   ·exact absurd h Aa
   ·unfold zL4 at h
    cases hp:ops[j]? with
    | none=>rw[hp] at h; cases h
    | some p=>
     rw[hp] at h;simp only[Array.any_eq_true,zF,zN] at h;obtain⟨x,hx,h1,h2⟩:=h;exact⟨p,p.after[x],rfl,Array.getElem_mem hx,h1,h2⟩
  have AT:∀(j:Nat) (F:Value→World→Prop),j<m→ks.getD j (.det undef)=.fact F→j≠c→listed.getD j true=true→listed.getD c true=true:=fun j F hj hk Aa hl=>by
   obtain⟨p,e,hp,he,Ab,hb⟩:=AR j F hj hk Aa
   have:=AA.closed j p hp (by rw[AD listed j AJ (by omega)]; exact hl) e he hb
   rw[Ab,AD listed c AJ (by omega)] at this;exact this
  have go:∀v w',(ks.getD i (.det undef)).says v w'→(w'=w∧i≠c)∨(i=c∧w=wd∧G w')∨(G w∧Ext w w'∧i≠c∧listed.getD c true=true)→wpAny P .any ops Q' (n+(ops.size-m)) (listed.setIfInBounds i true) (a.put o.dst v) w':=by
   intro v w' hv AV
   have AZ:∀j oj,j≠i→j<m→ops[j]?=some oj→listed.getD j true=true→∀v,(ks.getD j (.det undef)).says v w→(ks.getD j (.det undef)).says v w':=fun j oj AB AF hj AU v hs=>by
    rcases AV with ⟨rfl,_⟩ | ⟨AE,_,_⟩ | ⟨_,hx,_,_⟩
    ·exact hs
    ·cases hk:ks.getD j (.det undef) with
     | det v0=>rw[hk] at hs; exact hs
     | fact F'=>
      have h1:=AT j F' AF hk (by rw[←AE]; exact AB) AU;rw[←AE,h0] at h1
      cases h1
    ·cases hk:ks.getD j (.det undef) with
     | det v0=>rw[hk] at hs; exact hs
     | fact F'=>
      have h1:=how vs j oj AF hj;rw[hk] at h1 hs;exact h1.1 v w w' hs hx
   refine ih (listed.setIfInBounds i true) (U.erase i) _ w' (fun j=>if j=i then v else vs j) (by simpa using AJ) ?_ (AW.erase i) (fun j=>?_) ?_
   ·rw[List.length_erase_of_mem ((hU i).2 ⟨AC,h0⟩),AL]; rfl
   ·rw[AW.mem_erase_iff,hU j]
    by_cases AB:j=i
    ·subst AB; simp[Ac]
    ·rw[AG j AB]; simp[AB]
   ·refine⟨?_,?_,by rw[zDj]; exact AA.defers,fun j hj hl=>?_,fun j p t AF hj hd hl=>?_,fun t ht=>?_,fun j p hj hl e he hb=>?_,fun j hj Ak=>?_⟩
    ·intro AH
     by_cases AX:c=i
     ·subst AX; rw[AM] at AH; cases AH
     ·rw[AG c AX] at AH
      rcases AV with ⟨rfl,_⟩ | ⟨AE,_,_⟩ | ⟨_,_,_,hl⟩
      ·exact AA.first AH
      ·exact absurd AE.symm AX
      ·rw[AH] at hl; cases hl
    ·intro AH
     rcases AV with ⟨rfl,AE⟩ | ⟨_,_,hg⟩ | ⟨hg,hx,_,_⟩
     ·rw[AG c (Ne.symm AE)] at AH;exact AA.world AH
     ·exact hg
     ·exact hG _ _ hg hx
    ·by_cases AB:j=i
     ·subst AB; simpa using hv
     ·rw[AG j AB] at hl;simp only[if_neg AB];exact AZ j _ AB hj (Array.getElem?_eq_getElem (by omega)) hl _ (AA.facts j hj hl)
    ·by_cases AB:j=i
     ·subst AB;rw[ho] at hj;obtain rfl:=Option.some.inj hj
      rw[hd,zC9,AA.other t fun k ok AS hk AN=>by
       have:=(jG hB AS AC hk ho hd).1 AN
       subst this
       exact h0]
      simp
     ·rw[AG j AB] at hl;rw[VJ _ _ _ (fun e=>AB ((jG hB AC AF ho hj hd).1 e).symm),AA.done j p t AF hj hd hl];simp[AB]
    ·rw[VJ _ _ _ (fun e=>by
      have:=ht i o AC ho e
      rw[AM] at this
      cases this)]
     refine AA.other t fun k ok AS hk AN=>?_
     have:=ht k ok AS hk AN
     by_cases Ad:k=i
     ·subst Ad; exact h0
     ·rwa [AG k Ad] at this
    ·by_cases AB:j=i
     ·subst AB;rw[ho] at hj;obtain rfl:=Option.some.inj hj;exact getD_set_true (AK e he hb)
     ·rw[getD_set_ne false (Ne.symm AB)] at hl;exact getD_set_true (AA.closed j p hj hl e he hb)
    ·rw[AG j (by omega)];exact AA.fresh j hj Ak
  have ow:=how vs i o AC ho
  have hH:∀p ∈ zAs ops ks vs i,(∃t,p.1=some t∧t ∈ o.looksAt ops)→p.2 w:=fun p hp ⟨t,hpt,ht⟩=>by
   obtain⟨j,hj,Ae,hs⟩:=zBY hp;rw[hpt] at Ae;obtain⟨p',Ah,Ai⟩:=Option.bind_eq_some_iff.1 Ae.symm
   rcases(jG hB AC (by omega) ho Ah Ai).2 ht with ⟨_,e,he,heq,hb⟩ | ⟨hij,_⟩
   ·have h1:=AK e he hb;rw[heq,AD listed j AJ (by omega)] at h1;exact hs w (AA.facts j (by omega) h1)
   ·omega
  unfold wpOp;simp only[ho]
  cases hk:ks.getD i (.det undef) with
  | det v0=>
   have AE:i≠c:=fun e=>by
    obtain⟨F,hF⟩:=hcf;rw[←e,hk] at hF
    cases hF
   rw[hk] at ow go
   have ow:=ow w (by
    cases AH:listed.getD c true with
    | false=>exact .inl (AA.first AH)
    | true=>exact .inr (AA.world AH))
   rw[←zBU o a _ AI,←VT o (zAn hB AC ho).1 a _ AI] at ow
   split
   ·rename_i hw;simp only[hw,if_true] at ow;exact .inl (zBN ow fun v w' hv=>go v w' hv.1 (.inl ⟨hv.2,AE⟩))
   ·rename_i hw;simp only[hw] at ow;exact go undef w ow (.inl ⟨rfl,AE⟩)
  | fact F=>
   rw[hk] at ow go;have ow:=ow.2
   by_cases AE:i=c
   ·have Al:w=wd:=AA.first (by rw[←AE]; exact h0);rw[if_pos AE,←zBU o a _ AI,←VT o (zAn hB AC ho).1 a _ AI] at ow;subst Al
    split
    ·rename_i hw;simp only[hw,if_true] at ow;exact .inl (zBN ow fun v w' hv=>go v w' hv.1 (.inr (.inl ⟨AE,rfl,hv.2⟩)))
    ·rename_i hw;simp only[hw] at ow;exact go undef w ow.1 (.inr (.inl ⟨AE,rfl,ow.2⟩))
   ·obtain⟨p,e,hp,he,Ab,hb⟩:=AR i F AC hk AE;rw[ho] at hp;obtain rfl:=Option.some.inj hp
    have AH:listed.getD c true=true:=by
     have h1:=AK e he hb;rw[Ab,AD listed c AJ (by omega)] at h1;exact h1
    have hg:=AA.world AH;rw[if_neg AE] at ow;have ow:=ow w hg hH;rw[←zBU o a _ AI,←VT o (zAn hB AC ho).1 a _ AI] at ow
    split
    ·rename_i hw;simp only[hw,if_true] at ow;exact .inl (zBN ow fun v w' hv=>go v w' hv.1 (.inr (.inr ⟨hg,hv.2,AE,AH⟩)))
    ·rename_i hw;simp only[hw] at ow;exact go undef w ow (.inl ⟨rfl,AE⟩)
def zN3:Take→Bool
 | .fact _=>true
 | .det _=>false
theorem zDr {id:Nat}{Q':Exit→Act→World→Prop}{a:Act}{w:World}{l:List Oper}(m c:Nat)(G:World→Prop){ks:List Take}(hG:∀w w',G w→Ext w w'→G w')(hm:P.follows .mixedOrders=true)(hB:zAr l.toArray m=true)(hT:zDE l.toArray m=true)(hcm:c<m)
  (h:zC2 P l.toArray w.drew G (fun a' w'=>wpList P l.toArray Q' (l.drop m) a' w') c 0 (l.take m) ks a [])
  (hk:zN3 (ks.getD c (.det undef))=true) (hc:(List.range m).all (fun i=>!zN3 (ks.getD i (.det undef))||(i==c||zL4 l.toArray c i))=true):(Code.region id l.toArray true).wp P Q' a w:=by
 have AC:∃F,ks.getD c (.det undef)=.fact F:=by
  cases hx:ks.getD c (.det undef) with
  | det v0=>rw[hx] at hk; cases hk
  | fact F=>exact⟨F,rfl⟩
 have AH:∀i F,i<m→ks.getD i (.det undef)=.fact F→i=c∨zL4 l.toArray c i=true:=fun i F hi hx=>by
  have h1:=List.all_eq_true.1 hc i (List.mem_range.2 hi);rw[hx] at h1
  simpa [zN3] using h1
 have AD:=zCC hB;simp only[List.size_toArray] at AD;refine wp_region_any hm ?_
 have sp:=fun vs=>zFU (P:=P) (ops:=l.toArray) (wd:=w.drew) (G:=G) (c:=c) (Q:=fun a' w'=>wpList P l.toArray Q' (l.drop m) a' w') (ks:=ks) (a0:=a) vs (l.take m) 0 (fun j hj=>by
  have AE:j<m:=by simp at hj; omega
  simp[List.getElem?_take,AE]) (by simpa [XR,zAs] using h)
 have AA:(l.take m).length=m:=by simp; omega
 rw[show l.toArray.size=m+(l.toArray.size-m) from by simp; omega];refine zQq (P:=P) (ops:=l.toArray) (wd:=w.drew) (G:=G) (c:=c) (ks:=ks) (a0:=a) (m:=m) hG hB hT hcm AC AH ?_ ?_ m _ (List.range m) a _ (fun _=>undef) (by simp; omega) (by simp) List.nodup_range ?_ ?_
 ·exact fun vs i o AB hi=>((sp vs).1 i o (zT _) (by omega) hi)
 ·intro vs w' AF hp
  have:=(sp vs).2 w' AF (by rw[AA]; simpa using hp)
  rw[AA] at this
  simpa using this
 ·intro i;simp only[List.mem_range]
  constructor
  ·intro h
   have:i<m+(l.length-m):=by omega
   exact⟨h,by simp[this]⟩
  ·exact fun h=>h.1
 ·refine⟨fun _=>rfl,fun hl=>?_,rfl,fun i hi hl=>?_,fun i o t AB hi hd hl=>?_,fun t _=>rfl,fun i o hi hl=>?_,fun i hi AI=>?_⟩
  ·have:c<m+(l.length-m):=by omega
   simp[this] at hl
  ·have:i<m+(l.length-m):=by omega
   simp[this] at hl
  ·have:i<m+(l.length-m):=by omega
   simp[this] at hl
  ·have AG:i<l.length:=by simpa using (Array.getElem?_eq_some_iff.1 hi).1
   have:i<m+(l.length-m):=by omega
   simp[this] at hl
  ·have AG:i<l.length:=by simpa using AI
   have:i<m+(l.length-m):=by omega
   simp[this]
end
end Go.Proofs.YtioffpjajhalaaaGreatDoor
