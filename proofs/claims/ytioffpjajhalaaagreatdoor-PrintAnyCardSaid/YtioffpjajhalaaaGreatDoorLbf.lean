/- print.Print, walked: a right tree's lines; a tree that is not right is refused. (and what follows of it). The conditions stand at each lemma. -/
import Derived.Test.YtioffpjajhalaaaGreatDoorLaa
import Derived.Test.YtioffpjajhalaaaGreatDoorLbe
import Derived.Test.YtioffpjajhalaaaGreatDoorLal
import Derived.Lib.Strings
import Derived.Test.YtioffpjajhalaaaGreatDoorLai
set_option linter.unusedVariables false
set_option linter.unusedSimpArgs false
set_option maxRecDepth 100000
set_option maxHeartbeats 16000000
namespace Go.Proofs.YtioffpjajhalaaaGreatDoor
open Go Go.RowKit
theorem zOx (w:World)(l:Bs):(convert 9 22 (.string (yX l))).run Tryz.prog w=.ok (.slice (some ⟨w.heap.size,0,none⟩) l.length (grownCap w l.length 0 5)) (Lib.bytesWorld w 5 (yX l))∧l.length≤grownCap w l.length 0 5:=by
 have AB:(yX l).size=l.length:=by simp[yX,ByteArray.size]
 have h:=Lib.run_convert_string_bytes (P:=Tryz.prog) w 9 22 5 (yX l) Tryz.underlying9 Tryz.underlying22 Tryz.underlying5;have AA:=grownCap_ge w (yX l).size 0 5;rw[AB] at h AA;exact⟨h,AA⟩
theorem zRc (t:TypeId)(v:Value)(s:ByteArray)(w:World):Calls Tryz.prog 46 #[.iface t v,.string s] w fun e w'=>e=.returned (.iface 139 (.agg #[.iface t v,.string s]))∧w=w':=by
 go_enter Tryz.func46,Tryz.ntmps46
 go_wp2_with fail
 go_ret;exact⟨rfl,rfl⟩
theorem zL3 (w:World)(l:Bs):Cells (Lib.bytesWorld w 5 (yX l)) (some ⟨w.heap.size,0,none⟩) (xL l):=by
 have AA:(yX l).size=l.length:=by simp[yX,ByteArray.size]
 exact .inr ⟨w.heap.size,0,rfl,by rw[Lib.bytesWorld_size]; omega,fun k hk=>by
  rw[jJ] at hk;rw[Nat.zero_add,Lib.bytesWorld_cell w 5 (yX l) k (by rw[AA]; exact hk),JU l k hk]
  simp[yX,hk]⟩
theorem zEN {t:Bs}{x:Int}{kk:List Nat}(h:ZY 1 t x kk)(j:Nat)(hj:j<kk.length):kk.getD j 0=2∨kk.getD j 0=3:=by
 have hf:(kk.map fun (j:Nat)=>(j:Int)).all TT.VJ=true:=h.2.2.2;rw[zG] at hf
 have hb:TT.VJ ((kk.getD j 0:Nat):Int)=true:=hf _ (by
  rw[yS];refine⟨kk[j],yL hj,?_⟩;rw[yE,yG hj]
  rfl)
 unfold TT.VJ at hb;simp only[Bool.or_eq_true,zN] at hb;omega
theorem zDn {t:Bs}{x:Int}{kk:List Nat}(h:ZY 3 t x kk):kk.length=2∧kk.getD 1 0=6:=by
 have hf:TT.isR (kk.map fun (j:Nat)=>(j:Int)) [4,6]=true:=h.2.2.2;have h1:=ZF hf;have h2:=zCq hf 1 (by decide);rw[JY] at h2;have h2:((kk.getD 1 0:Int)==6)=true:=h2;rw[zN] at h2
 simp at h1
 exact⟨h1,by omega⟩
theorem zJ9 {t:Bs}{x:Int}{kk:List Nat}(h:ZY 3 t x kk):x=0∨x=1:=by
 have:=h.2.2.1
 unfold TT.vL at this;simp only[zF,zE] at this;have hm:TT.zBB ((3:Nat):Int)=1:=rfl
 have:=this.2.2
 omega
theorem zQF (w:World)(A:Option Addr)(n c:Nat)(L:List TT.xB)(hn:n=L.length)(hT:TT.vV w A L)(hlen:L.length≤9000)(hsm:∀x ∈ L,TT.zBz x)(hr:TT.XL L=false) :
  Calls Tryz.prog 17 #[.agg #[.slice A n c]] w fun e w'=>e=.returned (.tuple #[.slice none 0 0,.iface 54 (.int .i64 2)])∧Ext w w':=by
 have AA:Hid (Ext w (w.alloc (.cells #[.slice A n c] 39))):=yD (Ext.alloc _ _);have AD:Hid (Blk (w.alloc (.cells #[.slice A n c] 39)) w.heap.size 39 #[.slice A n c]):=yD (Blk.new _ _ _);have HR:Hid (∀w',Ext w w'→Calls Tryz.prog 21 #[.agg #[.slice A n c]] w' fun e AC=>e=.returned (.bool false)∧Ext w' AC):=yD fun w' hx=>TT.zDg L A n c w' hn (hT.ext hx) hlen hsm false (yD hr);clear hT hn hlen hsm hr
 go_enter Tryz.func17,Tryz.ntmps17
 go_upto_region 1 with fail
 generalize w.heap.size=gt at *;generalize w.alloc (.cells #[.slice A n c] 39)=w1 at *;have c0:w1.cell? ⟨gt,0,none⟩=some (.slice A n c):=AD.out.cell 0
 go_wp2_with fail
 refine(HR.out w1 AA.out).mono ?_;rintro e w2 ⟨rfl,AB⟩;have AE:=yD (AA.out.trans AB);clear AB c0
 go_wp2_with fail
 go_ret2;exact⟨rfl,AE.out⟩
def zNQ (w:World)(out:Bs)(e:Ending)(w':World):Prop:=
 (65536<out.length→e=.returned (.tuple #[.slice none 0 0,.iface 139 (.agg #[.iface 54 (.int .i64 3),.string ⟨#[112,114,105,110,116]⟩])])) ∧
 (out.length≤65536→∃b k,e=.returned (.tuple #[.slice (some ⟨b,0,none⟩) out.length k,.nilIface])∧out.length≤k∧Cells w' (some ⟨b,0,none⟩) (xL out))∧Ext w w'
theorem zIx (w:World)(A:Option Addr)(n c:Nat)(L:List TT.xB)(hn:n=L.length)(hT:TT.vV w A L)(hlen:L.length≤9000)(hsm:∀x ∈ L,TT.zBz x)(hr:TT.XL L=true)(hpw:PW w)
  (t1:Bs) (x1:Int) (f:Fo) (hL:VE L 0 (Fo.one 1 0 t1 x1 f)) (hok:(Fo.one 1 0 t1 x1 f).ok 0) (hwt:f.wt≤1099511627776) (hsz:f.size≤100000) (htot:f.print.length≤140737488355328) :
  Calls Tryz.prog 17 #[.agg #[.slice A n c]] w (zNQ w f.print):=by
 have B0:Hid (Ext w (w.alloc (.cells #[.slice A n c] 39))):=yD (Ext.alloc _ _);have BA:Hid (Blk (w.alloc (.cells #[.slice A n c] 39)) w.heap.size 39 #[.slice A n c]):=yD (Blk.new _ _ _);have HR:Hid (∀w',Ext w w'→Calls Tryz.prog 21 #[.agg #[.slice A n c]] w' fun e w''=>e=.returned (.bool true)∧Ext w' w''):=yD fun w' hx=>TT.zDg L A n c w' hn (hT.ext hx) hlen hsm true (yD hr);obtain⟨⟨x,Ah,CA,CJ,CG,Ao⟩,hf,B9⟩:=hL;have BC:x.kids=xG (f.roots 1):=Ao;clear CJ CG Ao B9;have Aw:0<L.length:=(List.getElem?_eq_some_iff.1 Ah).1
 have Bh:L[0]=x:=by rw[yG Aw] at Ah; exact Option.some.inj Ah
 obtain⟨tb,tf,hA,Bn,BP⟩:=hT.at_ 0 Aw;rw[Bh] at BP;have B5:Hid (x ∈ L):=yD (zY Ah);have HA:=yD hA;clear hA;have HT:=yD hT;have CQ:=yD hpw;have Bv:Hid (VE L 1 f):=yD hf;have Bm:Hid (f.ok 0):=yD hok.2.1;have CS:=yD hwt;have B8:=yD hsz;have Al:=yD htot;have Aa:=yD Bn;have AZ:=yD BP;have CB:=yD BC;have HN:=yD hn;have Bt:=yD Aw;have CC:=yD hok.1.1;have BW:Hid (x.kids.length=(f.roots 1).length):=yD (by rw[BC]; simp[xG]);have B6:Hid ((f.roots 1).length≤100000):=yD (Nat.le_trans (jO f 1) hsz);clear hn hT hlen hsm hr hpw hf hok hwt hsz htot Bn BP BC Ah CA Bh Aw
 go_enter Tryz.func17,Tryz.ntmps17
 go_upto_region 1 with fail
 generalize w.heap.size=gt at BA ⊢;generalize w.alloc (.cells #[.slice A n c] 39)=w1 at *;have c0:w1.cell? ⟨gt,0,none⟩=some (.slice A n c):=BA.out.cell 0
 go_wp2_with fail
 refine(HR.out w1 B0.out).mono ?_;rintro e w2 ⟨rfl,AD⟩;have Ac:=yD (B0.out.trans AD);have BM:=yD (BA.out.ext AD);clear AD c0 HR;obtain rfl:=HA.out;clear HA;have B3:VD w2 w2.heap.size n (some ⟨tb,tf,none⟩) L:=⟨rfl,HT.out.ext Ac.out,HN.out,CQ.out.ext Ac.out⟩;have c0:w2.cell? ⟨gt,0,none⟩=some (.slice (some ⟨tb,tf,none⟩) n c):=BM.out.cell 0;have AX:Hid (Ext w2 (w2.alloc (.cells #[.slice (some ⟨tb,tf,none⟩) n c,.pointer none,.slice none 0 0,.int .i64 0] 82))):=yD (Ext.alloc _ _);have B1:Hid (PrS (w2.alloc (.cells #[.slice (some ⟨tb,tf,none⟩) n c,.pointer none,.slice none 0 0,.int .i64 0] 82)) w2.heap.size w2.heap.size (some ⟨tb,tf,none⟩) n c (.slice none 0 0) [] 0):=yD ⟨zU _,.inl (Blk.new _ _ _),zP _ _ _ _⟩
 go_upto_region 4 with fail
 have AP:=yD B3;have Bi:Hid (gt≠w2.heap.size):=yD (by have:=BM.out.lt; omega);clear B3 c0;generalize hgb:w2.heap.size=B at AP B1 AX Bi ⊢;have A4:=yD hgb;clear hgb;generalize w2.alloc (.cells #[.slice (some ⟨tb,tf,none⟩) n c,.pointer none,.slice none 0 0,.int .i64 0] 82)=w3 at *;have Bz:=yD (BM.out.ext AX.out);have CH:=yD (Ac.out.trans AX.out)
 have q0:(0:Int)<(n:Int):=by have:=HN.out; have:=Bt.out; omega
 have c0:w3.cell? ⟨gt,0,none⟩=some (.slice (some ⟨tb,tf,none⟩) n c):=Bz.out.cell 0
 have u4:w3.cell? ⟨tb,tf+4,none⟩=some (.slice x.kA x.kids.length x.kc):=by
  have:=(CH.out.cell (p:=⟨tb,tf+0*5+4,none⟩) Aa.out).trans (AZ.out 4 (by decide))
  simp only[Nat.zero_mul,Nat.add_zero] at this;exact this
 rw[BW.out] at u4
 go_wp2_with fail
 clear u4 c0
 go_loopw [20] (fun i wr=>∃(k:Nat) (v:Value),k≤(f.roots 1).length∧i=.int .i64 k∧Hid (PrS wr B B (some ⟨tb,tf,none⟩) n c v (f.top.take k).flatten 0)∧Hid (vS w3 wr B B)∧Hid (k=0→v=.slice none 0 0)) (fun i _=>(f.roots 1).length-(intOf i).toNat)
 case atStart=>exact⟨0,_,zT _,rfl,yD B1.out,yD (vS.refl _ _ _),yD fun _=>rfl⟩
 case round=>
  obtain⟨i,v,hi,rfl,HS,HM,HV⟩:=hrel;obtain⟨wa,rfl⟩:∃wa:World,wa=wr:=⟨_,rfl⟩;have CZ:=B6.out;have Ar:=yD (AP.out.ext AX.out HM.out (zU _))
  by_cases AI:i<(f.roots 1).length
  rotate_left
  ·obtain rfl:i=(f.roots 1).length:=by omega
   have d0:decide (((f.roots 1).length:Int)<((f.roots 1).length:Int))=false:=by simp
   have d1:decide ((f.roots 1).length<(f.roots 1).length)=false:=by simp
   have CM:Hid ((f.top.take (f.roots 1).length).flatten=f.print):=yD (by rw[List.take_of_length_le (by rw[zDb f 1]; exact zU _)]; rfl);rw[CM.out] at HS
   have CN:Hid ((f.roots 1).length≠0→f.print≠[]):=yD fun h h0=>by
    obtain⟨k',t',x',c',m',_,_,_,_,_,_,_,_,_,_,_,CU,_⟩:=zEr f 1 Bv.out Bm.out 0 (by omega)
    have hm:zC3 k' t' x' c'.txt c'.inn ((c'.st 1).map Prod.snd) ∈ f.top:=by
     rw[←CU,yE,yG (by rw[zDb f 1]; omega)];exact yL _
    have h0:f.top.flatten=[]:=h0;rw[List.flatten_eq_nil_iff] at h0;exact zSm _ _ _ _ _ _ (h0 _ hm)
   generalize f.print=out at *;have CV:=yD Al.out;generalize (f.roots 1).length=rl at *;have HL:=yD (zQm wa B B n c _ v out 0 HS.out)
   have CL:Hid (Calls Tryz.prog 47 #[.pointer (some ⟨B,1,none⟩)] wa fun e w'=>e=.returned (.string (yX out))∧Below B wa w'):=yD (by
    by_cases hz:out=[]
    ·have:rl=0:=by
      rcases Nat.eq_zero_or_pos rl with h | h
      ·exact h
      ·exact absurd hz (CN.out (by omega))
     have hv:=HV.out this;have hs:=HS.out;rw[hz,hv] at hs;rw[hz];exact zJM wa B B n c _ 0 hs
    ·exact zKn wa B B n c _ v out 0 HS.out hz)
   by_cases AL:65536<out.length
   ·have e0:decide ((out.length:Int) > 65536)=true:=yP (by omega);have e1:decide ((65536:Int)<(out.length:Int))=true:=e0;have AU:=yD AL;clear AL hi AI
    go_wp2_with fail
    refine HL.out.mono ?_;rintro e _ ⟨rfl,rfl⟩
    go_wp2_with fail
    refine(zRc 54 (.int .i64 3) ⟨#[112,114,105,110,116]⟩ wa).mono ?_;rintro e _ ⟨rfl,rfl⟩
    go_wp2_with fail
    go_ret2;exact⟨fun _=>rfl,fun h=>absurd h (by have:=AU.out; omega),Ac.out.trans Ar.out⟩
   ·have e0:decide ((out.length:Int) > 65536)=false:=yO (by omega);have e1:decide ((65536:Int)<(out.length:Int))=false:=e0;have AU:=yD AL;clear AL hi AI
    go_wp2_with fail
    refine HL.out.mono ?_;rintro e _ ⟨rfl,rfl⟩
    go_wp2_with fail
    refine CL.out.mono ?_;rintro e w5 ⟨rfl,Bw⟩
    have Ab:Hid (Ext w2 w5):=yD (by
     have h1:=Ar.out
     have h2:Below w2.heap.size wa w5:=by rw[A4.out]; exact Bw
     exact Below.trans h1 h2)
    obtain⟨CY,An⟩:=zOx w5 out;have Bg:Ext w5 (Lib.bytesWorld w5 5 (yX out)):=Ext.bytesWorld w5 5 (yX out);have Bj:=zL3 w5 out;have BU:=yD An;have B7:=yD (Ab.out.trans Bg);have CI:=yD Bj;clear Bw Bg Bj An
    go_wp2_with fail
    go_ret2;exact⟨fun h=>absurd h AU.out,fun _=>⟨_,_,rfl,BU.out,CI.out⟩,Ac.out.trans B7.out⟩
  have d0:decide ((i:Int)<((f.roots 1).length:Int))=true:=yP (by omega);have d1:decide (i<(f.roots 1).length)=true:=yP AI;obtain⟨k,t,num,c',y,hy,AG,AK,AM,BS,BX,Be,Bo,Bl,BZ,Aj,AO,_⟩:=zEr f 1 Bv.out Bm.out i AI;have Ay:=yD AI
  have Ag:∀w',Ext w2 w'→PrS w' B B (some ⟨tb,tf,none⟩) n c v (f.top.take i).flatten 0→Calls Tryz.prog 40 #[.pointer (some ⟨B,0,none⟩),.agg #[.int .u8 x.kind,.int .i64 x.pos,.string x.text,.int .i64 x.num,.slice x.kA x.kids.length x.kc],.int .i64 (i:Int)] w' fun e w''=>e=.returned (vZ y)∧Ext w' w'':=fun w' hx hs=>by
   have hp:=AP.out.prT hx hs;exact zAl w' B n c _ L hp.tree hp.len hp.at0 hp.lt x ((hp.tree.ok x B5.out).kids) i ((f.roots 1)[i]'AI) (by rw[BW.out]; exact AI) (by simp only[CB.out,xG,zA]) (List.getElem?_eq_some_iff.1 hy).1 y hy
  have At:=yD (Ag wa Ar.out HS.out);have By:Hid (y ∈ L):=yD (zY hy);have BY:=yD Bo;have Ak:=yD BS;have BH:=yD BX;have A1:=yD Be;have As:Hid (c'.wt≤1099511627776):=yD (Nat.le_trans Bl CS.out);have Az:Hid (c'.size≤100000):=yD (Nat.le_trans BZ B8.out);have CR:Hid (y.kids.length=(c'.roots ((f.roots 1)[i]+1)).length):=yD (by rw[BS]; exact yN ..)
  have AE:Hid ((f.top.take (i+1)).flatten=(f.top.take i).flatten++zC3 k t num c'.txt c'.inn ((c'.st 1).map Prod.snd)):=yD (by
   have Br:i<f.top.length:=by rw[zDb f 1]; exact AI
   rw[←AO,List.take_add_one,yG Br,List.flatten_append,yE,yG Br]
   simp)
  have A0:Hid ((f.top.take (i+1)).flatten.length≤140737488355328):=yD (by
   refine Nat.le_trans ?_ Al.out;unfold Fo.print
   conv=>rhs; rw[←List.take_append_drop (i+1) f.top]
   rw[List.flatten_append,yM]
   omega)
  have CP:=yD (HM.out.blk Bz.out Bi.out (by decide));have c0:wa.cell? ⟨gt,0,none⟩=some (.slice (some ⟨tb,tf,none⟩) n c):=CP.out.cell 0
  have q0:(0:Int)<(n:Int):=by have:=HN.out; have:=Bt.out; omega
  have Ai:=yD (Ac.out.trans Ar.out)
  have u0:wa.cell? ⟨tb,tf,none⟩=some (.int .u8 x.kind):=by
   have:=(Ai.out.cell (p:=⟨tb,tf+0*5+0,none⟩) Aa.out).trans (AZ.out 0 (by decide))
   simp only[Nat.zero_mul,Nat.add_zero] at this;exact this
  have u1:wa.cell? ⟨tb,tf+1,none⟩=some (.int .i64 x.pos):=by
   have:=(Ai.out.cell (p:=⟨tb,tf+0*5+1,none⟩) Aa.out).trans (AZ.out 1 (by decide))
   simp only[Nat.zero_mul,Nat.add_zero] at this;exact this
  have u2:wa.cell? ⟨tb,tf+2,none⟩=some (.string x.text):=by
   have:=(Ai.out.cell (p:=⟨tb,tf+0*5+2,none⟩) Aa.out).trans (AZ.out 2 (by decide))
   simp only[Nat.zero_mul,Nat.add_zero] at this;exact this
  have u3:wa.cell? ⟨tb,tf+3,none⟩=some (.int .i64 x.num):=by
   have:=(Ai.out.cell (p:=⟨tb,tf+0*5+3,none⟩) Aa.out).trans (AZ.out 3 (by decide))
   simp only[Nat.zero_mul,Nat.add_zero] at this;exact this
  have u4:wa.cell? ⟨tb,tf+4,none⟩=some (.slice x.kA x.kids.length x.kc):=by
   have:=(Ai.out.cell (p:=⟨tb,tf+0*5+4,none⟩) Aa.out).trans (AZ.out 4 (by decide))
   simp only[Nat.zero_mul,Nat.add_zero] at this;exact this
  have BD:Hid (y.kind=(k:Int)∧y.num=num∧y.text=yX t):=yD ⟨AG,AK,AM⟩;have BT:Hid (k=2∨k=3):=yD (by rw[←Aj]; exact zEN CC.out i (by rw[ZR f 1]; exact AI));clear Ag hy AG AK AM BS BX Be Bo Bl BZ Aj AO;generalize hri:(f.roots 1)[i]'AI+1=ri at *;clear hri AI
  go_wp2_with fail
  refine At.out.mono ?_;rintro e w4 ⟨rfl,Bb⟩;have Bq:=yD Bb;clear Bb u0 u1 u2 u3 u4 c0 q0 At;unfold vZ
  go_wp2_with (refine vF rfl 48 _ _ rfl w4.heap.size #[.int .u8 y.kind,.int .i64 y.pos,.string y.text,.int .i64 y.num,.slice y.kA y.kids.length y.kc] (by kernel_rfl) (by kernel_rfl) 48 _ (Blk.new _ _ _) (by kernel_rfl) rfl rfl ?_)
  intro w5 BV Bd;have Ab:Hid (Ext wa w5):=yD (Bq.out.trans (BV.ext (Ext.alloc w4 _) (zU _)));have AC:=yD Bd;clear BV Bd;generalize w4.heap.size=gy at *;have AY:=yD (HS.out.ext Ab.out);have AS:=yD (Ar.out.trans Ab.out);have A2:=yD (HM.out.trans (vS.ext Ab.out))
  have B4:Hid (gy≠B):=yD fun e=>by
   obtain⟨ad,hb⟩:=AY.out.any;subst e;exact Blk.differ AC.out hb (by decide) rfl
  obtain⟨AG,AK,AM⟩:=BD.out;have AW:=yD (AP.out.prT AS.out AY.out);have CE:=yD (zCj w5 B n c _ L AW.out c' ri BH.out A1.out As.out);have Bx:=yD (AW.out.tree.ok y By.out).kids;have BO:=yD (Nat.le_trans (XU c' A1.out) As.out);have BK:=yD (Nat.le_trans (jO c' ri) Az.out);clear Bq Ab
  rcases BT.out with rfl | rfl
  ·replace AG:y.kind=2:=AG
   rw[AG,AK,AM] at AC;have n0:w5.cell? ⟨gy,0,none⟩=some (.int .u8 2):=AC.out.cell 0;have n1:w5.cell? ⟨gy,1,none⟩=some (.int .i64 y.pos):=AC.out.cell 1;have n2:w5.cell? ⟨gy,2,none⟩=some (.string (yX t)):=AC.out.cell 2;have n3:w5.cell? ⟨gy,3,none⟩=some (.int .i64 num):=AC.out.cell 3;have n4:w5.cell? ⟨gy,4,none⟩=some (.slice y.kA y.kids.length y.kc):=AC.out.cell 4;have AB:=yD AC.out.lt
   have BL:Hid (∀w',Ext w5 w'→Calls Tryz.prog 42 #[.pointer (some ⟨B,0,none⟩),.agg #[.int .u8 2,.int .i64 y.pos,.string (yX t),.int .i64 num,.slice y.kA y.kids.length y.kc],.int .i64 0] w' fun e w''=>e=.returned (.string (yX (vB c'.txt)))∧Ext w' w''):=yD fun w' hx=>by
    have:=zHG w' B n c _ L (AW.out.ext hx) y (Bx.out.ext hx) (c'.roots ri) c'.kinds c'.txt Ak.out (YU c' ri) BK.out (fun j hj=>by
     obtain⟨z,h1,h2,h3⟩:=CE.out j hj
     exact⟨z,h1,h2,fun w2 AD=>h3 w2 (hx.trans AD)⟩) BO.out 0 (zT _)
    unfold vZ at this;rw[AG,AM,AK] at this;exact this
   have AE:Hid ((f.top.take (i+1)).flatten=(f.top.take i).flatten++xV 0 [[116,97,98,108,101,32],t,[40],vB c'.txt,[41,59]]):=AE;generalize vB c'.txt=lq at *;obtain⟨T1,AQ⟩:∃b,Hid (xV 0 [[116,97,98,108,101,32],t,[40],lq,[41,59]]=b):=⟨_,yD rfl⟩;rw[AQ.out] at AE
   go_upto_region 9 with fail
   apply xI 7 (by kernel_rfl) (by kernel_rfl) (by kernel_rfl);apply sQ (.pointer (some ⟨B,0,none⟩));apply sQ (.pointer (some ⟨gy,2,none⟩));apply yZ (.string (yX t)) rfl rfl rfl
   ·intro w' AA hH;clear hH;have y2:=(AA.cell (p:=⟨gy,2,none⟩) AB.out).trans n2;simp[yY,go_sem,y2];exact Ext.refl _
   apply sQ (.pointer (some ⟨B,0,none⟩));apply yZ (.agg #[.int .u8 2,.int .i64 y.pos,.string (yX t),.int .i64 num,.slice y.kA y.kids.length y.kc]) rfl rfl rfl
   ·intro w' AA hH;clear hH;have y0:=(AA.cell (p:=⟨gy,0,none⟩) AB.out).trans n0;have y1:=(AA.cell (p:=⟨gy,1,none⟩) AB.out).trans n1;have y2:=(AA.cell (p:=⟨gy,2,none⟩) AB.out).trans n2;have y3:=(AA.cell (p:=⟨gy,3,none⟩) AB.out).trans n3;have y4:=(AA.cell (p:=⟨gy,4,none⟩) AB.out).trans n4;simp[yY,go_sem,y0,y1,y2,y3,y4];exact Ext.refl _
   apply yZ (.string (yX lq)) rfl rfl rfl
   ·intro w' AA hH;clear hH;simp[yY,go_sem];refine(BL.out w' AA).mono ?_;rintro e w2 ⟨rfl,AD⟩;exact⟨_,rfl,rfl,AD⟩
   apply vA (XJ 9 5 (JM [[116,97,98,108,101,32],t,[40],lq,[41,59]])) (fun v a b h k=>XJ.ext v a b h k) rfl rfl rfl
   ·intro w' AA hH;clear hH;simp[yY,go_sem];exact⟨⟨_,rfl,Blk.new w' _ _⟩,Ext.alloc _ _⟩
   intro CX;apply xN;intro w6 AH hH;obtain⟨pb,rfl,AJ⟩:=hH _ (List.mem_cons_self ..);clear hH n0 n1 n2 n3 n4
   try simp only[Act.put,yA,yC,yB]
   have AN:=yD (AY.out.ext AH);have AR:=yD (A2.out.trans (vS.ext AH));have AF:=yD (AS.out.trans AH);have BI:=yD (AC.out.ext AH);clear AH AY A2
   go_wp2_with fail
   refine(jV w6 B B _ n c _ (f.top.take i).flatten 0 [[116,97,98,108,101,32],t,[40],lq,[41,59]] pb 5 AN.out rfl (by decide) (by simp) AJ (fun e=>by obtain⟨ad,hb⟩:=AN.out.any; subst e; exact Blk.differ AJ hb (by decide) rfl) (by
    have h9:=A0.out;rw[AE.out] at h9;rw[AQ.out];simp only[yM] at h9 ⊢
    omega) (by have:=AF.out.size; have:=A4.out; omega)).mono ?_
   rintro e w7 ⟨rfl,⟨v7,hu⟩,hm⟩
   replace hu:=hu.prS (zU _)
   rw[AQ.out,←AE.out] at hu;have HU:=yD hu;have BJ:=yD (AR.out.trans hm);clear AJ hu hm
   go_wp2_with fail
   go_roundw
   case rel=>exact⟨i+1,v7,Ay.out,by go_num,HU,BJ,yD fun h=>by omega⟩
   case measure=>simp[intOf]; have:=Ay.out; omega
  ·replace AG:y.kind=3:=AG
   rw[AG,AK,AM] at AC;have n0:w5.cell? ⟨gy,0,none⟩=some (.int .u8 3):=AC.out.cell 0;have n1:w5.cell? ⟨gy,1,none⟩=some (.int .i64 y.pos):=AC.out.cell 1;have n2:w5.cell? ⟨gy,2,none⟩=some (.string (yX t)):=AC.out.cell 2;have n3:w5.cell? ⟨gy,3,none⟩=some (.int .i64 num):=AC.out.cell 3;have n4:w5.cell? ⟨gy,4,none⟩=some (.slice y.kA y.kids.length y.kc):=AC.out.cell 4;have AB:=yD AC.out.lt;have Ap:=yD (zDn BY.out);have Bf:Hid ((c'.roots ri).length=2):=yD (by rw[←ZR c' ri]; exact Ap.out.1);have Aq:Hid (0<(c'.roots ri).length):=yD (by rw[Bf.out]; decide);have A9:Hid (1<(c'.roots ri).length):=yD (by rw[Bf.out]; decide);obtain⟨k4,t4,x4,f4,p4,Ax,_,_,_,Au,Ad,AV,_,AT,Am,_,_,Af⟩:=zEr c' ri BH.out A1.out 0 Aq.out;have BB:Hid (p4 ∈ L):=yD (zY Ax)
   have CD:Hid (∀w',Ext w5 w'→Calls Tryz.prog 40 #[.pointer (some ⟨B,0,none⟩),.agg #[.int .u8 3,.int .i64 y.pos,.string (yX t),.int .i64 num,.slice y.kA y.kids.length y.kc],.int .i64 0] w' fun e w''=>e=.returned (vZ p4)∧Ext w' w''):=yD fun w' hx=>by
    have hp:=AW.out.ext hx
    have:=zAl w' B n c _ L hp.tree hp.len hp.at0 hp.lt y (Bx.out.ext hx) 0 ((c'.roots ri)[0]'Aq.out) (by rw[Ak.out]; simpa [xG] using Aq.out) (by simp only[Ak.out,xG,zA]) (List.getElem?_eq_some_iff.1 Ax).1 p4 Ax
    unfold vZ at this ⊢;rw[AG,AM,AK] at this;exact this
   have BR:=yD (zCj w5 B n c _ L AW.out f4 ((c'.roots ri)[0]'Aq.out+1) Ad AV (Nat.le_trans AT As.out))
   have BL:Hid (∀w',Ext w5 w'→Calls Tryz.prog 42 #[.pointer (some ⟨B,0,none⟩),vZ p4,.int .i64 0] w' fun e w''=>e=.returned (.string (yX (c'.inn.getD 0 [])))∧Ext w' w''):=yD fun w' hx=>by
    have hp:=AW.out.ext hx
    have:=zHG w' B n c _ L hp p4 ((hp.tree.ok p4 BB.out).kids) (f4.roots ((c'.roots ri)[0]'Aq.out+1)) f4.kinds f4.txt Au (YU f4 _) (Nat.le_trans (jO f4 _) (Nat.le_trans Am Az.out)) (fun j hj=>by
     obtain⟨z,h1,h2,h3⟩:=BR.out j hj
     exact⟨z,h1,h2,fun w2 AD=>h3 w2 (hx.trans AD)⟩) (Nat.le_trans (Nat.le_trans (XU f4 AV) AT) As.out) 0 (zT _)
    rw[Af];exact this
   have BN:=yD (zJ9 BY.out)
   have CK:Hid (∀w' lb,Ext w5 w'→Blk w' lb 9 #[.string (yX [32,123]),.string (yX [32,115,105,110,103,108,101,32,123])]→Calls Tryz.prog 43 #[.agg #[.int .u8 3,.int .i64 y.pos,.string (yX t),.int .i64 num,.slice y.kA y.kids.length y.kc],.slice (some ⟨lb,0,none⟩) 2 2] w' fun e w''=>e=.returned (.string (yX (jU num [32,123] [32,115,105,110,103,108,101,32,123])))∧Ext w' w''):=yD fun w' lb hx hb=>by
    have:=zEb w' y (by rw[AK]; exact BN.out) [32,123] [32,115,105,110,103,108,101,32,123] lb hb
    unfold vZ at this;rw[AG,AM,AK] at this;exact this
   obtain⟨q6,A7,_,Ba⟩:=zMT w2 B B n c _ L AP.out c' ri BH.out A1.out As.out Az.out 1 A9.out;have CO:=yD (Ba Ap.out.2)
   have CF:Hid (∀(w':World) (v':Value) (B2:Bs),Ext w2 w'→PrS w' B B (some ⟨tb,tf,none⟩) n c v' B2 0→Calls Tryz.prog 40 #[.pointer (some ⟨B,0,none⟩),.agg #[.int .u8 3,.int .i64 y.pos,.string (yX t),.int .i64 num,.slice y.kA y.kids.length y.kc],.int .i64 1] w' fun e w''=>e=.returned (vZ q6)∧Ext w' w''):=yD fun w' v' B2 hx hs=>by
    have hp:=AP.out.prT hx hs
    have:=zAl w' B n c _ L hp.tree hp.len hp.at0 hp.lt y ((hp.tree.ok y By.out).kids) 1 ((c'.roots ri)[1]'A9.out) (by rw[Ak.out]; simpa [xG] using A9.out) (by simp only[Ak.out,xG,zA]) (List.getElem?_eq_some_iff.1 A7).1 q6 A7
    unfold vZ at this ⊢;rw[AG,AM,AK] at this;exact this
   have AE:Hid ((f.top.take (i+1)).flatten=(f.top.take i).flatten++(xV 0 [[112,114,111,99,32],t,[40],c'.inn.getD 0 [],[41],jU num [32,123] [32,115,105,110,103,108,101,32,123]]++(((c'.st 1).map Prod.snd).getD 1 []++xV 0 [[125]]))):=AE;rw[zBo] at AE;obtain⟨G1,BE⟩:∃b,Hid (((c'.st 1).getD 1 ([],[])).2=b):=⟨_,yD rfl⟩;rw[BE.out] at AE;generalize c'.inn.getD 0 []=lq at *;generalize jU num [32,123] [32,115,105,110,103,108,101,32,123]=lp at *;obtain⟨T1,AQ⟩:∃b,Hid (xV 0 [[112,114,111,99,32],t,[40],lq,[41],lp]=b):=⟨_,yD rfl⟩;obtain⟨T9,BG⟩:∃b,Hid (xV 0 [[125]]=b):=⟨_,yD rfl⟩;rw[AQ.out,BG.out] at AE;clear Ax Au Ad AV AT Am Af A7 Ba
   have e2:((3:Int)==2)=false:=by decide
   go_upto_region 10 with fail
   apply xI 12 (by kernel_rfl) (by kernel_rfl) (by kernel_rfl);apply sQ (.pointer (some ⟨B,0,none⟩));apply sQ (.pointer (some ⟨gy,2,none⟩));apply yZ (.string (yX t)) rfl rfl rfl
   ·intro w' AA hH;clear hH;have y2:=(AA.cell (p:=⟨gy,2,none⟩) AB.out).trans n2;simp[yY,go_sem,y2];exact Ext.refl _
   apply sQ (.pointer (some ⟨B,0,none⟩));apply sQ (.pointer (some ⟨B,0,none⟩));apply yZ (.agg #[.int .u8 3,.int .i64 y.pos,.string (yX t),.int .i64 num,.slice y.kA y.kids.length y.kc]) rfl rfl rfl
   ·intro w' AA hH;clear hH;have y0:=(AA.cell (p:=⟨gy,0,none⟩) AB.out).trans n0;have y1:=(AA.cell (p:=⟨gy,1,none⟩) AB.out).trans n1;have y2:=(AA.cell (p:=⟨gy,2,none⟩) AB.out).trans n2;have y3:=(AA.cell (p:=⟨gy,3,none⟩) AB.out).trans n3;have y4:=(AA.cell (p:=⟨gy,4,none⟩) AB.out).trans n4;simp[yY,go_sem,y0,y1,y2,y3,y4];exact Ext.refl _
   apply yZ (vZ p4) rfl rfl rfl
   ·intro w' AA hH;clear hH;simp[yY,go_sem];refine(CD.out w' AA).mono ?_;rintro e w2 ⟨rfl,AD⟩;exact⟨_,rfl,rfl,AD⟩
   apply yZ (.string (yX lq)) rfl rfl rfl
   ·intro w' AA hH;clear hH;simp[yY,go_sem];refine(BL.out w' AA).mono ?_;rintro e w2 ⟨rfl,AD⟩;exact⟨_,rfl,rfl,AD⟩
   apply yZ (.agg #[.int .u8 3,.int .i64 y.pos,.string (yX t),.int .i64 num,.slice y.kA y.kids.length y.kc]) rfl rfl rfl
   ·intro w' AA hH;clear hH;have y0:=(AA.cell (p:=⟨gy,0,none⟩) AB.out).trans n0;have y1:=(AA.cell (p:=⟨gy,1,none⟩) AB.out).trans n1;have y2:=(AA.cell (p:=⟨gy,2,none⟩) AB.out).trans n2;have y3:=(AA.cell (p:=⟨gy,3,none⟩) AB.out).trans n3;have y4:=(AA.cell (p:=⟨gy,4,none⟩) AB.out).trans n4;simp[yY,go_sem,y0,y1,y2,y3,y4];exact Ext.refl _
   apply vA (XJ 9 2 #[.string (yX [32,123]),.string (yX [32,115,105,110,103,108,101,32,123])]) (fun v a b h k=>XJ.ext v a b h k) rfl rfl rfl
   ·intro w' AA hH;clear hH;simp[yY,go_sem];exact⟨⟨_,rfl,Blk.new w' _ _⟩,Ext.alloc _ _⟩
   intro Ca;apply yZ (.string (yX lp)) rfl rfl rfl
   ·intro w' AA hH;obtain⟨lb,rfl,CT⟩:=hH _ (List.mem_cons_self ..) ⟨50,rfl,by decide⟩;clear hH;simp[yY,go_sem];refine(CK.out w' lb AA CT).mono ?_;rintro e w2 ⟨rfl,AD⟩;exact⟨_,rfl,rfl,AD⟩
   apply vA (XJ 9 6 (JM [[112,114,111,99,32],t,[40],lq,[41],lp])) (fun v a b h k=>XJ.ext v a b h k) rfl rfl rfl
   ·intro w' AA hH;clear hH;simp[yY,go_sem];exact⟨⟨_,rfl,Blk.new w' _ _⟩,Ext.alloc _ _⟩
   intro CW;apply xN;intro w6 AH hH;obtain⟨pb,rfl,AJ⟩:=hH _ (List.mem_cons_self ..);clear hH n0 n1 n2 n3 n4
   try simp only[Act.put,yA,yC,yB]
   have AN:=yD (AY.out.ext AH);have AR:=yD (A2.out.trans (vS.ext AH));have AF:=yD (AS.out.trans AH);have BI:=yD (AC.out.ext AH);clear AH AY A2
   go_wp2_with fail
   refine(jV w6 B B _ n c _ (f.top.take i).flatten 0 [[112,114,111,99,32],t,[40],lq,[41],lp] pb 6 AN.out rfl (by decide) (by simp) AJ (fun e=>by obtain⟨ad,hb⟩:=AN.out.any; subst e; exact Blk.differ AJ hb (by decide) rfl) (by
    have h9:=A0.out;rw[AE.out] at h9;rw[AQ.out];simp only[yM] at h9 ⊢
    omega) (by have:=AF.out.size; have:=A4.out; omega)).mono ?_
   rintro e w7 ⟨rfl,⟨v7,hu⟩,hm⟩
   replace hu:=hu.prS (zU _)
   rw[AQ.out] at hu;have BQ:=yD hu;have BF:=yD (AR.out.trans hm);have Ae:=yD (hm.blk BI.out B4.out (by decide));clear AJ hu hm AN AR BI AF;have Av:=yD (AP.out.ext AX.out BF.out (zU _));have n0:w7.cell? ⟨gy,0,none⟩=some (.int .u8 3):=Ae.out.cell 0;have n1:w7.cell? ⟨gy,1,none⟩=some (.int .i64 y.pos):=Ae.out.cell 1;have n2:w7.cell? ⟨gy,2,none⟩=some (.string (yX t)):=Ae.out.cell 2;have n3:w7.cell? ⟨gy,3,none⟩=some (.int .i64 num):=Ae.out.cell 3;have n4:w7.cell? ⟨gy,4,none⟩=some (.slice y.kA y.kids.length y.kc):=Ae.out.cell 4
   go_wp2_with fail
   refine(CF.out w7 _ _ Av.out BQ.out).mono ?_;rintro e w8 ⟨rfl,A3⟩;have Bk:=yD (BQ.out.ext A3);have Bp:=yD (BF.out.trans (vS.ext A3));have A6:=yD (Av.out.trans A3);clear A3 n0 n1 n2 n3 n4 BQ BF
   go_wp2_with fail
   refine(CO.out w8 _ _ 0 A6.out Bk.out (by have:=Az.out; omega) (by
    have h9:=A0.out;rw[AE.out] at h9
    show _+(((c'.st (0+1)).getD 1 ([],[])).2).length≤_
    rw[BE.out];simp only[yM] at h9 ⊢
    omega)).mono ?_
   rintro e w9 ⟨rfl,⟨v9,hu⟩,hm⟩
   replace hu:PrS w9 B B _ n c v9 ((f.top.take i).flatten++T1++((c'.st (0+1)).getD 1 ([],[])).2) 0:=hu
   rw[BE.out] at hu;have Bc:=yD hu;have Bu:=yD (Bp.out.trans hm);clear hu hm Bk Bp;have A8:Hid (Ext w9 (w9.alloc (.cells #[.string ⟨#[125]⟩] 9))):=yD (Ext.alloc _ _);have A5:Hid (Blk (w9.alloc (.cells #[.string ⟨#[125]⟩] 9)) w9.heap.size 9 #[.string ⟨#[125]⟩]):=yD (Blk.new _ _ _)
   go_wp2_with fail
   generalize w9.heap.size=pb at A5 ⊢;generalize w9.alloc (.cells #[.string ⟨#[125]⟩] 9)=w6 at *;have AJ:Blk w6 pb 9 (JM [[125]]):=A5.out;have AN:=yD (Bc.out.ext A8.out);have AR:=yD (Bu.out.trans (vS.ext A8.out));have AF:=yD (AP.out.ext AX.out AR.out (zU _));clear A5 A8 Bc Bu
   refine(jV w6 B B _ n c _ ((f.top.take i).flatten++T1++G1) 0 [[125]] pb 1 AN.out rfl (by decide) (by simp) AJ (fun e=>by obtain⟨ad,hb⟩:=AN.out.any; subst e; exact Blk.differ AJ hb (by decide) rfl) (by
    have h9:=A0.out;rw[AE.out] at h9;rw[BG.out];simp only[yM] at h9 ⊢
    omega) (by have:=AF.out.size; have:=A4.out; omega)).mono ?_
   rintro e w7 ⟨rfl,⟨v7,hu⟩,hm⟩
   replace hu:=hu.prS (zU _)
   rw[BG.out,List.append_assoc,List.append_assoc,←AE.out] at hu;have HU:=yD hu;have BJ:=yD (AR.out.trans hm);clear AJ hu hm
   go_wp2_with fail
   go_roundw
   case rel=>exact⟨i+1,v7,Ay.out,by go_num,HU,BJ,yD fun h=>by omega⟩
   case measure=>simp[intOf]; have:=Ay.out; omega
end Go.Proofs.YtioffpjajhalaaaGreatDoor
namespace Go.Proofs.YtioffpjajhalaaaGreatDoor.TT
open Go Go.RowKit
theorem Ext.drewN {a w:World}(h:Ext a w)(n:Nat):Ext a (w.drewN n):=by
 induction n with
 | zero=>exact h
 | succ n ih=>exact Below.drew ih
theorem zQ5 {ls:List Int}{frm:Nat}{what:Int}(h:∀j,frm≤j→j<ls.length→zE6 what (ls.getD j 0)=true):zAP ls frm what=true:=by
 unfold zAP;rw[zG];intro x hx;obtain⟨i,hi,rfl⟩:=List.getElem_of_mem hx;rw[List.length_drop] at hi;rw[List.getElem_drop]
 have:=h (frm+i) (by omega) (by omega)
 rwa [yE,yG (by omega)] at this
theorem zRd {ls:List Int}{frm:Nat}{what:Int}(j:Nat)(h1:frm≤j)(h2:j<ls.length)(h:zE6 what (ls.getD j 0)=false):zAP ls frm what=false:=by
 unfold zAP;rw[Bool.eq_false_iff];intro hh;rw[zG] at hh
 have:=hh ls[j] (by
  rw[show ls[j]=(ls.drop frm)[j-frm]'(by rw[List.length_drop]; omega) from by rw[List.getElem_drop]; congr 1; omega]
  exact yL _)
 rw[yE,yG h2] at h;simp only[Option.getD_some] at h;rw[h] at this
 cases this
theorem zGG (L:Option Addr)(ls:List Int)(n c frm:Nat)(f what:Int)(w:World)(hn:n=ls.length)(hf:f=(frm:Int))(hl:Cells w L (xL ls))(hlen:ls.length≤9000)(hfr:frm≤ls.length)(hw:what=0∨what=1∨what=5)(b:Bool)(hb:Hid (zAP ls frm what=b)) :
  Calls Tryz.prog 144 #[.slice L n c,.int .i64 f,.int .u8 what] w fun e w'=>e=.returned (.bool b)∧w=w':=by
 subst hn hf;have HL:=yD hl;clear hl
 go_enter Tryz.func144,Tryz.ntmps144
 go_wp2_with fail
 go_loop [7] (fun i=>∃k:Nat,frm≤k∧k≤ls.length∧i=.int .i64 k∧Hid (∀j,frm≤j→j<k→zE6 what (ls.getD j 0)=true)) (fun i=>ls.length-(intOf i).toNat)
 case atStart=>exact⟨frm,zU _,hfr,rfl,yD fun j h1 h2=>by omega⟩
 case round=>
  obtain⟨k,AG,hk,rfl,HR⟩:=hrel
  by_cases AD:k<ls.length
  ·have d0:decide ((k:Int)<(ls.length:Int))=true:=yP (by omega);obtain⟨bb,AI,rfl,AH,AE⟩:=zAW HL.out k AD
   have AB:ls.getD k 0=ls[k]:=by simp[yE,AD]
   obtain⟨t,ht⟩:∃t,zE6 what ls[k]=t:=⟨_,rfl⟩
   have AA:Hid (t=true→∀j,frm≤j→j<k+1→zE6 what (ls.getD j 0)=true):=yD (by
    intro h j h1 h2
    by_cases hj:j=k
    ·subst hj; rw[AB,ht]; exact h
    ·exact HR.out j h1 (by omega))
   have AC:Hid (t=false→b=false):=yD (by
    intro h;rw[←hb.out]
    exact zRd k AG AD (by rw[AB,ht]; exact h))
   clear AB;generalize ls[k]=x at *
   rcases hw with rfl | rfl | rfl
   ·have HT:Hid (XH x=t):=yD ht;clear ht
    cases t with
    | true=>
     go_wp2_with (first | (go_at_call 169; refine(zB9 _ _).mono ?_; rintro e w' ⟨rfl,rfl⟩; rw[HT.out]) | (go_at_call 170; refine(zD4 _ _).mono ?_; rintro e w' ⟨rfl,rfl⟩; rw[HT.out]))
     go_round
     case rel=>exact⟨k+1,by omega,by omega,by go_num,yD (AA.out (by simp))⟩
     case measure=>simp[intOf]; omega
    | false=>
     go_wp2_with (first | (go_at_call 169; refine(zB9 _ _).mono ?_; rintro e w' ⟨rfl,rfl⟩; rw[HT.out]) | (go_at_call 170; refine(zD4 _ _).mono ?_; rintro e w' ⟨rfl,rfl⟩; rw[HT.out]))
     go_ret;exact⟨xE (AC.out (by simp)).symm,rfl⟩
   ·have HT:Hid (JP x=t):=yD ht;clear ht
    cases t with
    | true=>
     go_wp2_with (first | (go_at_call 169; refine(zB9 _ _).mono ?_; rintro e w' ⟨rfl,rfl⟩; rw[HT.out]) | (go_at_call 170; refine(zD4 _ _).mono ?_; rintro e w' ⟨rfl,rfl⟩; rw[HT.out]))
     go_round
     case rel=>exact⟨k+1,by omega,by omega,by go_num,yD (AA.out (by simp))⟩
     case measure=>simp[intOf]; omega
    | false=>
     go_wp2_with (first | (go_at_call 169; refine(zB9 _ _).mono ?_; rintro e w' ⟨rfl,rfl⟩; rw[HT.out]) | (go_at_call 170; refine(zD4 _ _).mono ?_; rintro e w' ⟨rfl,rfl⟩; rw[HT.out]))
     go_ret;exact⟨xE (AC.out (by simp)).symm,rfl⟩
   ·have AF:(x==5)=t:=ht
    have AJ:(x != 5) = !t:=by rw[bne,AF]
    clear ht
    cases t with
    | true=>
     go_wp2_with fail
     go_round
     case rel=>exact⟨k+1,by omega,by omega,by go_num,yD (AA.out (by simp))⟩
     case measure=>simp[intOf]; omega
    | false=>
     go_wp2_with fail
     go_ret;exact⟨xE (AC.out (by simp)).symm,rfl⟩
  ·obtain rfl:k=ls.length:=by omega
   have d0:decide ((ls.length:Int)<(ls.length:Int))=false:=by simp
   go_wp2_with fail
   go_ret;exact⟨xE (by rw[←hb.out]; exact(zQ5 HR.out).symm),rfl⟩
theorem zSo {ls ws:List Int}(j:Nat)(h2:j<ls.length)(h:YD (ws.getD j 0) (ls.getD j 0)=false):isR ls ws=false:=by
 unfold isR
 have:(List.range ls.length).all (fun i=>YD (ws.getD i 0) (ls.getD i 0))=false:=by
  rw[Bool.eq_false_iff];intro hh;rw[zG] at hh
  have:=hh j (List.mem_range.2 h2)
  rw[h] at this
  cases this
 rw[this,Bool.and_false]
theorem zRN {ls ws:List Int}(hl:ls.length=ws.length)(h:∀j,j<ls.length→YD (ws.getD j 0) (ls.getD j 0)=true):isR ls ws=true:=by
 unfold isR;rw[show(ls.length==ws.length)=true from by simp[hl],Bool.true_and,zG];intro j hj;exact h j (List.mem_range.1 hj)
theorem ZF {ls ws:List Int}(hl:ls.length≠ws.length):isR ls ws=false:=by
 unfold isR;rw[show(ls.length==ws.length)=false from beq_eq_false_iff_ne.2 hl,Bool.false_and]
theorem XN (L W:Option Addr)(ls ws:List Int)(n c m d:Nat)(w:World)(hn:n=ls.length)(hm:m=ws.length)(hl:Cells w L (xL ls))(hw:Cells w W (xL ws))(hlen:ls.length≤9000)(hwl:ws.length≤9000)(hw0:∀x ∈ ws,0≤x)(b:Bool)(hb:Hid (isR ls ws=b)) :
  Calls Tryz.prog 145 #[.slice L n c,.slice W m d] w fun e w'=>e=.returned (.bool b)∧Ext w w':=by
 subst hn hm;have HL:=yD hl;have HW:=yD hw;have AN:=yD hw0;clear hl hw hw0
 by_cases AC:ls.length=ws.length
 ·have e0:((ls.length:Int)==(ws.length:Int))=true:=by rw[AC]; simp
  have e1:((ls.length:Int) != (ws.length:Int))=false:=by rw[AC]; simp
  have AH:=yD AC;clear AC
  go_enter Tryz.func145,Tryz.ntmps145
  go_wp2_with fail
  go_loopw [5] (fun i wr=>∃k:Nat,k≤ls.length∧i=.int .i64 k∧Hid (Ext w wr)∧Hid (∀j,j<k→YD (ws.getD j 0) (ls.getD j 0)=true)) (fun i _=>ls.length-(intOf i).toNat)
  case atStart=>exact⟨0,zT _,rfl,yD (Ext.refl _),yD fun j hj=>by omega⟩
  case round=>
   obtain⟨k,hk,rfl,HX,HR⟩:=hrel;obtain⟨wa,rfl⟩:∃wa:World,wa=wr:=⟨_,rfl⟩
   by_cases AG:k<ls.length
   ·have d0:decide ((k:Int)<(ls.length:Int))=true:=yP (by omega)
    have AA:k<ws.length:=by have:=AH.out; omega
    obtain⟨b1,AM,rfl,AT,AO⟩:=zAW (HL.out.ext HX.out) k AG;obtain⟨b2,AL,rfl,AP,AR⟩:=zAW (HW.out.ext HX.out) k AA
    have AF:ls.getD k 0=ls[k]:=by simp[yE,AG]
    have AE:ws.getD k 0=ws[k]:=by simp[yE,AA]
    obtain⟨t,ht⟩:∃t,YD ws[k] ls[k]=t:=⟨_,rfl⟩;have AS:0≤ws[k]:=AN.out _ (yL AA)
    have AD:Hid (t=true→∀j,j<k+1→YD (ws.getD j 0) (ls.getD j 0)=true):=yD (by
     intro h j h2
     by_cases hj:j=k
     ·subst hj; rw[AF,AE,ht]; exact h
     ·exact HR.out j (by omega))
    have AI:Hid (t=false→b=false):=yD (by
     intro h;rw[←hb.out]
     exact zSo k AG (by rw[AF,AE,ht]; exact h))
    clear AF AE
    have q1:(k:Int)<(ls.length:Int):=by omega
    have q2:(k:Int)<(ws.length:Int):=by omega
    generalize ls[k]=x at *;generalize ws[k]=y at *
    by_cases hy:y=0
    ·subst hy;have HT:Hid (XH x=t):=yD (by rw[←ht]; rfl);clear ht
     cases t with
     | true=>
      go_wp2_with fail
      go_quiet ((go_at_call 169; exact Calls.quiet_of_same ((zB9 x _).mono fun e w' h=>⟨by rw[h.1,HT.out],h.2.symm⟩)))
      rename_i nq;have AB:=yD (Ext.drewN HX.out nq)
      go_wp2_with fail
      go_roundw
      case rel=>exact⟨k+1,by omega,by go_num,AB,yD (AD.out (by simp))⟩
      case measure=>simp[intOf]; omega
     | false=>
      go_wp2_with fail
      go_quiet ((go_at_call 169; exact Calls.quiet_of_same ((zB9 x _).mono fun e w' h=>⟨by rw[h.1,HT.out],h.2.symm⟩)))
      rename_i nq;have AB:=yD (Ext.drewN HX.out nq)
      go_wp2_with fail
      go_ret;exact⟨xE (AI.out (by simp)).symm,AB.out⟩
    ·have e5:(y==0)=false:=beq_eq_false_iff_ne.2 hy
     have AK:0<y:=by omega
     have d5:decide (0<y)=true:=yP AK
     have AJ:(x==y)=t:=by rw[←ht]; unfold YD; rw[if_neg hy]
     have AQ:(x != y) = !t:=by rw[bne,AJ]
     clear ht hy
     cases t with
     | true=>
      go_wp2_with fail
      go_quiet (fail)
      rename_i nq;have AB:=yD (Ext.drewN HX.out nq)
      go_wp2_with fail
      go_roundw
      case rel=>exact⟨k+1,by omega,by go_num,AB,yD (AD.out (by simp))⟩
      case measure=>simp[intOf]; omega
     | false=>
      go_wp2_with fail
      go_quiet (fail)
      rename_i nq;have AB:=yD (Ext.drewN HX.out nq)
      go_wp2_with fail
      go_ret;exact⟨xE (AI.out (by simp)).symm,AB.out⟩
   ·obtain rfl:k=ls.length:=by omega
    have d0:decide ((ls.length:Int)<(ls.length:Int))=false:=by simp
    go_wp2_with fail
    go_ret;exact⟨xE (by rw[←hb.out]; exact(zRN AH.out HR.out).symm),HX.out⟩
 ·have e0:((ls.length:Int)==(ws.length:Int))=false:=by rw[yF]; omega
  have e1:((ls.length:Int) != (ws.length:Int))=true:=by rw[bne,e0]; rfl
  have HB:Hid (b=false):=yD (by rw[←hb.out]; exact ZF AC)
  go_enter Tryz.func145,Tryz.ntmps145
  go_wp2_with fail
  go_ret;exact⟨xE HB.out.symm,Ext.refl _⟩
end Go.Proofs.YtioffpjajhalaaaGreatDoor.TT
