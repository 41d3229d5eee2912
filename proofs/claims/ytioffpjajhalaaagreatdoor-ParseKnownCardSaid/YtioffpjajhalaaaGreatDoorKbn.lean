/- interlocklaw05.ParseAny, walked: always true. (and what follows of it). The conditions stand at each lemma. -/
import Derived.Test.YtioffpjajhalaaaGreatDoorKaa
import Derived.Test.YtioffpjajhalaaaGreatDoorKar
import Derived.Test.YtioffpjajhalaaaGreatDoorKbm
import Derived.Deep.QuietTactic
import Derived.Deep.Cut
set_option linter.unusedVariables false
set_option linter.unusedSimpArgs false
set_option maxRecDepth 100000
set_option maxHeartbeats 16000000
namespace Go.Proofs.YtioffpjajhalaaaGreatDoor
open Go Go.RowKit
theorem zJ1:∀(f p:Nat) (s:Bs) (a:Nat) (e:Int),s.length<f→zBs f p s=.err a e→e=30∨e=31
 | 0,_,_,_,_,h,_=>absurd h (by omega)
 | f+1,p,s,a,e,hf,h=>by
  have hw:=zAe s;unfold zBs at h
  cases hs:step s with
  | fin=>rw[hs] at h; cases h
  | bad e'=>
   rw[hs] at h;injection h with _ h;subst h
   cases s with
   | nil=>cases hs
   | cons c r=>
    have AA:jS c r=_:=hs;unfold jS zDb at AA
    repeat' split at AA
    all_goals first | (injection AA with AA; subst AA; decide) | cases AA
  | skip k=>
   rw[hs] at h hw;have h1:1≤k:=hw.1;have h2:k≤s.length:=hw.2;exact zJ1 f _ _ a e (by simp; omega) h
  | tok kd k n=>
   rw[hs] at h hw;have h1:1≤k:=hw.1;have h2:k≤s.length:=hw.2;exact zJ1 f _ _ a e (by simp; omega) (zRM h)
theorem zM9 {l:Bs}{a:Nat}{e:Int}(h:XS l=.err a e):e≠0:=by
 unfold XS at h
 split at h
 ·injection h with _ h; subst h; decide
 ·rcases zJ1 _ _ _ a e (by omega) h with rfl | rfl <;> decide
theorem zFv (A B:Option Addr)(a b:Bs)(n m c d:Nat)(w:World)(hn:n=a.length)(hm:m=b.length)(hA:Cells w A (xL a))(hB:Cells w B (xL b)) :
  Calls Tryz.prog 19 #[.slice A n c,.slice B m d] w fun e w'=>e=.returned (.bool (a==b))∧w=w':=by
 have h1:=jZ (P:=Tryz.prog) (n:=n) (c:=c) Tryz.underlying22 Tryz.underlying5 Tryz.underlying9 hn hA;have h2:=jZ (P:=Tryz.prog) (n:=m) (c:=d) Tryz.underlying22 Tryz.underlying5 Tryz.underlying9 hm hB;have HE:=yE (show((xE a).toList==(xE b).toList)=(a==b) by rw[YU,YU]);clear hA hB hn hm
 go_enter Tryz.func19,Tryz.ntmps19
 go_wp2_with fail
 go_ret;exact⟨YA HE.out,rfl⟩
theorem zJu (A:Option Addr)(l:Bs)(n c:Nat)(w:World)(hn:n=l.length)(hbig:l.length≤1000)(hcap:l.length≤c)(h:Cells w A (xL l)) :
  Calls Tryz.prog 33 #[.slice A n c] w (zD1 w (jU l)):=by
 cases hl:XS l with
 | err a er=>
  have e:jU l=.err a er:=by unfold jU; rw[hl]
  rw[e];exact zKD A l n c w hn hbig hcap h a er hl (zM9 hl)
 | ok ts=>
  have AA:YJ 0 l=.ok ts:=by
   unfold XS at hl;rw[if_neg (by omega)] at hl;exact hl
  obtain⟨⟨m,e,h1,h2⟩,h3,_⟩:=zFo AA;have hL:Lst ⟨ts,[],0⟩:=⟨m,e,h1,h2⟩
  have e:jU l=zD5 ts:=by
   rw[zJI hL];unfold jU;rw[hl]
  rw[e];exact zP2 A l n c w hn hbig hcap h ts hl hL (by omega)
theorem zP9 {l:Bs}{a:Nat}{er:Int}(h:jU l=.err a er):er≠0:=by
 unfold jU at h
 cases hl:XS l with
 | err p e=>
  rw[hl] at h;injection h with h1 h2;rw[←h2];exact zM9 hl
 | ok ts=>
  rw[hl] at h
  have AA:YJ 0 l=.ok ts:=by
   unfold XS at hl
   split at hl
   ·cases hl
   ·exact hl
  obtain⟨⟨m,e,h1,h2⟩,_,_⟩:=zFo AA;have h3:XF ts=.err a er:=h;rw[←zJI ⟨m,e,h1,h2⟩] at h3;unfold zD5 at h3
  dsimp only at h3
  split at h3
  ·cases h3
  ·rename_i he;injection h3 with _ h4;rw[←h4];exact he
theorem ints_at (xs:List Nat)(k:Nat)(hk:k<xs.length):(ints xs)[k]?=some (.int .i64 (xs[k]:Int)):=by unfold ints; simp[hk]
theorem zLO (A B:Option Addr)(c d:Nat)(xs:List Nat)(w:World)(hb:xs.length≤1000000)(hA:Cells w A (ints xs))(hB:Cells w B (ints xs)) :
  Calls Tryz.prog 79 #[.slice A xs.length c,.slice B xs.length d] w fun e w'=>e=.returned (.bool true)∧∃m,w'=w.drewN m:=by
 have HA:=yE hA;have HB:=yE hB
 have AC:(ints xs).length=xs.length:=by unfold ints; simp
 have AA:=yE AC;have AD:=yE (fun k hk=>ints_at xs k hk);clear hA hB AC
 go_enter Tryz.func79,Tryz.ntmps79
 go_wp2_with fail
 go_loopw [5] (fun i' wr=>∃(k m:Nat),k≤xs.length∧i'=.int .i64 k∧wr=w.drewN m) (fun i' _=>xs.length-(intOf i').toNat)
 case atStart=>exact⟨0,0,zT _,rfl,rfl⟩
 case round=>
  obtain⟨k,m,hk,rfl,rfl⟩:=hrel
  by_cases AB:k<xs.length
  ·have d0:decide ((k:Int)<(xs.length:Int))=true:=yQ (by omega)
   have q1:(k:Int)<(xs.length:Int):=by omega
   obtain⟨b1,o1,rfl,_,h1⟩:=HA.out.at_ (by rw[AA.out]; omega);obtain⟨b2,o2,rfl,_,h2⟩:=HB.out.at_ (by rw[AA.out]; omega);have e1:=h1 k (by rw[AA.out]; exact AB);have e2:=h2 k (by rw[AA.out]; exact AB);rw[AD.out k AB] at e1 e2;generalize xs[k]=x at *;clear h1 h2
   go_wp2_with fail
   go_quiet (fail)
   rename_i nq
   go_wp2_with fail
   go_roundw
   case rel=>exact⟨k+1,m+nq,by omega,by go_num,by first | rfl | exact World.drewN_drewN ..⟩
   case measure=>simp[intOf]; omega
  ·obtain rfl:k=xs.length:=by omega
   have d0:decide ((xs.length:Int)<(xs.length:Int))=false:=by simp
   have d1:decide (xs.length<xs.length)=false:=by simp
   go_wp2_with fail
   go_ret;exact⟨rfl,m,rfl⟩
theorem zNj (A B:Option Addr)(c d:Nat)(nh mh:List (Nd × Hd2))(w:World)(hb:nh.length≤1000000)(hkb:∀x ∈ nh,x.1.kids.length≤1000000)(hnm:nh.map Prod.fst=mh.map Prod.fst)(hA:TR w A nh)(hB:TR w B mh) :
  Calls Tryz.prog 34 #[.agg #[.slice A nh.length c],.slice B mh.length d] w fun e w'=>e=.returned (.bool true)∧Ext w w':=by
 have AD:mh.length=nh.length:=by
  have:=congrArg List.length hnm
  simpa using this.symm
 have HA:=yE hA;have HB:=yE hB;have AY:=yE hnm;have AT:=yE AD;have AU:=yE hkb;clear hkb;rw[AD];have AL:Hid (Ext w (w.alloc (.cells #[.slice A nh.length c] 39))):=yE (Ext.alloc _ _);have AQ:=yE (Blk.new w 39 #[.slice A nh.length c]);clear hA hB hnm AD
 go_enter Tryz.func34,Tryz.ntmps34
 go_upto_region 1 with fail
 generalize w.alloc (.cells #[.slice A nh.length c] 39)=w1 at *;generalize w.heap.size=gt at *;have c0:w1.cell? ⟨gt,0,none⟩=some (.slice A nh.length c):=AQ.out.cell 0
 go_wp2_with fail
 go_loopw [5] (fun i' wr=>∃(k:Nat),k≤nh.length∧i'=.int .i64 k∧Hid (Ext w1 wr)) (fun i' _=>nh.length-(intOf i').toNat)
 case atStart=>exact⟨0,zT _,rfl,yE (Ext.refl _)⟩
 case round=>
  obtain⟨k,hk,rfl,AG⟩:=hrel;obtain⟨wa,rfl⟩:∃wa:World,wa=wr:=⟨_,rfl⟩;have c0:wa.cell? ⟨gt,0,none⟩=some (.slice A nh.length c):=(AQ.out.ext AG.out).cell 0
  by_cases AA:k<nh.length
  ·have d0:decide ((k:Int)<(nh.length:Int))=true:=yQ (by omega)
   have q1:(k:Int)<(nh.length:Int):=by omega
   have AB:k<mh.length:=by rw[AT.out]; exact AA
   have AM:=HA.out.ext (AL.out.trans AG.out);have AP:=HB.out.ext (AL.out.trans AG.out);obtain⟨b1,o1,rfl,_,h1⟩:=AM.at (by omega);obtain⟨b2,o2,rfl,AO,h2⟩:=AP.at (by omega)
   have AF:nh[k].1=mh[k].1:=by
    have h:=congrArg (fun l=>l[k]?) AY.out
    simpa [AA,AB] using h
   have a0:=h1 k AA 0 (by decide);have a1:=h1 k AA 1 (by decide);have a2:=h1 k AA 2 (by decide);have a3:=h1 k AA 3 (by decide);have a4:=h1 k AA 4 (by decide);have b0:=h2 k AB 0 (by decide);have AE:=h2 k AB 1 (by decide);have AC:=h2 k AB 2 (by decide);have b3:=h2 k AB 3 (by decide);have b4:=h2 k AB 4 (by decide);rw[←Nat.add_assoc] at a1 a2 a3 a4;have AK:=AU.out _ (yM AA);have k1:=AM.kids _ (yM AA);have k2:=AP.kids _ (yM AB);rw[←AF] at k2;obtain⟨x,hx⟩:∃x,nh[k]=x:=⟨_,rfl⟩;obtain⟨y,hy⟩:∃y,mh[k]=y:=⟨_,rfl⟩;rw[hx] at a0 a1 a2 a3 a4 k1 k2 AF AK;rw[hy] at b0 AE AC b3 b4 k2 AF;obtain⟨⟨xk,xp,xt,xn,xs⟩,xA,xc⟩:=x;obtain⟨⟨yk,yp,yt,yn,ys⟩,yA,yc⟩:=y
   simp only at AF
   injection AF with e1 e2 e3 e4 e5;subst e1 e2 e3 e4 e5;simp only[jL,yK,List.getElem?_cons_succ,Nat.add_zero] at a0 a1 a2 a3 a4 b0 AE AC b3 b4
   simp only at k1 k2 AK
   have AS:=yE AK;clear AK;have AJ:Hid (Ext wa (wa.alloc (.cells #[.int .u8 (xk:Int),.int .i64 (xp:Int),.string (xE xt),.int .i64 xn,.slice xA xs.length xc] 48))):=yE (Ext.alloc _ _);have AH:=yE (Blk.new wa 48 #[.int .u8 (xk:Int),.int .i64 (xp:Int),.string (xE xt),.int .i64 xn,.slice xA xs.length xc]);have AW:=yE (k1.ext AJ.out);have AV:=yE (k2.ext AJ.out)
   have AI:Hid (∀j,j<5→(wa.alloc (.cells #[.int .u8 (xk:Int),.int .i64 (xp:Int),.string (xE xt),.int .i64 xn,.slice xA xs.length xc] 48)).cell? ⟨b2,o2+(k*5+j),none⟩=(jL (⟨xk,xp,xt,xn,xs⟩,(yA,yc)))[j]?):=yE fun j hj=>by
    rw[AJ.out.cell (p:=⟨b2,o2+(k*5+j),none⟩) AO,h2 k AB j hj,hy]
   clear h1 h2 hx hy k1 k2 b0 AE AC b3 b4 AO
   go_upto_region 7 with fail
   clear a0 a1 a2 a3 a4 c0;generalize wa.alloc (.cells #[.int .u8 (xk:Int),.int .i64 (xp:Int),.string (xE xt),.int .i64 xn,.slice xA xs.length xc] 48)=w2 at *;generalize wa.heap.size=gn at *;have n0:=AH.out.cell 0;have n1:=AH.out.cell 1;have n2:=AH.out.cell 2;have n3:=AH.out.cell 3;have n4:=AH.out.cell 4;have b0:=AI.out 0 (by decide);have AE:=AI.out 1 (by decide);have AC:=AI.out 2 (by decide);have b3:=AI.out 3 (by decide);have b4:=AI.out 4 (by decide);rw[←Nat.add_assoc] at AE AC b3 b4;simp only[jL,yJ,yK,List.getElem?_cons_succ,Nat.add_zero] at n0 n1 n2 n3 n4 b0 AE AC b3 b4;have AX:=yE (fun W (h1:Cells W xA (ints xs)) (h2:Cells W yA (ints xs))=>zLO xA yA xc yc xs W AS.out h1 h2);have AN:Hid (∀n,Cells (w2.drewN n) xA (ints xs)∧Cells (w2.drewN n) yA (ints xs)):=yE fun n=>⟨AW.out,AV.out⟩
   go_quiet (refine Calls.quiet_of (AX.out _ (AN.out _).1 (AN.out _).2))
   rename_i nq;have AR:Hid (Ext w1 (w2.drewN nq)):=yE ((AG.out.trans AJ.out).trans (by have:=xU (w:=w2) (M:=fun _=>False) nq; exact⟨this.os,this.tape,this.output,this.size,fun b hb=>this.VS b hb (fun h=>h)⟩));clear n0 n1 n2 n3 n4 b0 AE AC b3 b4;generalize w2.drewN nq=w3 at *
   go_wp2_with fail
   go_roundw
   case rel=>exact⟨k+1,by omega,by go_num,AR⟩
   case measure=>simp[intOf]; omega
  ·obtain rfl:k=nh.length:=by omega
   have d0:decide ((nh.length:Int)<(nh.length:Int))=false:=by simp
   have d1:decide (nh.length<nh.length)=false:=by simp
   go_wp2_with fail
   go_ret;exact⟨rfl,AL.out.trans AG.out⟩
theorem zAy (A:Option Addr)(l:Bs)(n c:Nat)(w:World)(hG:GT w)(hn:n=l.length)(hcap:l.length≤c)(hnil:A=none→c=0)(h:Cells w A (xL l)) :
  Calls Tryz.prog 10 #[.slice A n c] w fun e w'=>e=.returned (.bool true)∧Ext w w':=by
 subst hn;have HG:=yE hG;have HC:=yE h;clear hG h
 by_cases Ai:1000<l.length
 ·have d0:decide ((1000:Int)<(l.length:Int))=true:=yQ (by omega)
  go_enter Tryz.func10,Tryz.ntmps10
  go_wp2_with fail
  refine(YM w HG.out).mono ?_;rintro e w' ⟨rfl,hx⟩
  go_wp2_with fail
  go_ret;exact⟨rfl,hx⟩
 ·have d0:decide ((1000:Int)<(l.length:Int))=false:=yP (by omega)
  have AL:l.length≤140737488355328:=by omega
  have AN:=jZ (P:=Tryz.prog) (n:=l.length) (c:=c) Tryz.underlying22 Tryz.underlying5 Tryz.underlying9 rfl HC.out;obtain⟨AJ,Ah⟩:=zEz w l;have An:=yE (zGp w l);have AP:=yE (zGX w l);generalize Lib.bytesWorld w 5 (xE l)=w1 at *;generalize grownCap w l.length 0 5=cp at *;generalize w.heap.size=gs at *
  cases hr:jU l with
  | ok nd=>
   have HR:=yE hr;clear hr
   go_enter Tryz.func10,Tryz.ntmps10
   go_wp2_with fail
   refine(zCQ (some ⟨gs,0,none⟩) l l.length cp w1 rfl AL Ah (fun h=>by cases h) AP.out nd HR.out).mono ?_;rintro e AB ⟨A2,c2,nh,rfl,Ae,Ak,AF⟩;clear AN AJ;have Aw:=yE Ak.tr;have At:=yE Ae;have AT:=yE (An.out.trans AF);have AG:=yE AF;clear Ak Ae AF
   go_upto_region 5 with fail
   have AD:Ext AB (AB.alloc (.cells #[.slice A2 nh.length c2] 39)):=Ext.alloc _ _;have AZ:=yE (Blk.new AB 39 #[.slice A2 nh.length c2]);have AI:=yE (AT.out.trans AD);have Aq:=yE (Aw.out.ext AD);have AS:=yE ((AP.out.ext AG.out).ext AD);clear AD;generalize AB.alloc (.cells #[.slice A2 nh.length c2] 39)=w2 at *;generalize AB.heap.size=gt at *
   go_wp2_with fail
   refine(zJu A l l.length c w2 rfl (by omega) hcap (HC.out.ext AI.out)).mono ?_;rw[HR.out];rintro e w3 ⟨AC,A3,c3,mh,rfl,Ag,AM,AE,Ax,Aj⟩;have AV:=yE (Aq.out.ext AC);have Av:Hid (TR w3 A3 mh):=yE ⟨AM,AE⟩;have Ao:Hid (nh.map Prod.fst=mh.map Prod.fst):=yE (At.out.symm.trans Ag)
   have Al:Hid (nh.length≤1000000∧∀x ∈ nh,x.1.kids.length≤1000000):=yE (by
    have h1:=Ao.out;refine⟨?_,fun x hx=>?_⟩
    ·have:=congrArg List.length h1
     simp only[yO] at this;omega
    ·have h2:x.1 ∈ mh.map Prod.fst:=by rw[←h1]; exact List.mem_map.2 ⟨x,hx,rfl⟩
     obtain⟨y,hy,e⟩:=List.mem_map.1 h2;rw[←e]
     exact Aj y hy)
   have AR:=yE (AI.out.trans AC);have Aa:=yE (AS.out.ext AC);have AU:=yE (AZ.out.ext AC);clear AC Ag AM AE Ax Aj
   go_wp2_with fail
   refine(zLw w3).mono ?_;rintro e w4 ⟨rfl,AA⟩;have Ac:=yE (AV.out.ext AA);have Ar:=yE (Av.out.ext AA);have AO:=yE (AR.out.trans AA);have Ab:=yE (Aa.out.ext AA);have A0:=yE (AU.out.ext AA);clear AA;dsimp only[zGB];have ct:w4.cell? ⟨gt,0,none⟩=some (.slice A2 nh.length c2):=A0.out.cell 0
   go_wp2_with fail
   refine(zJ7 w4).mono ?_;rintro e w' ⟨rfl,rfl⟩
   go_wp2_with fail
   refine(zNj A2 A3 c2 c3 nh mh w4 Al.out.1 Al.out.2 Ao.out Ac.out Ar.out).mono ?_;rintro e w6 ⟨rfl,AH⟩;have AK:=yE (AO.out.trans AH);have AX:=yE (Ab.out.ext AH);clear AH ct
   go_wp2_with fail
   refine(zFv (some ⟨gs,0,none⟩) A l l l.length l.length cp c w6 rfl rfl AX.out (HC.out.ext AK.out)).mono ?_;rintro e w' ⟨rfl,rfl⟩;rw[show(l==l)=true from by simp]
   go_wp2_with fail
   refine(YM w6 (HG.out.ext AK.out)).mono ?_;rintro e w7 ⟨rfl,AW⟩
   go_wp2_with fail
   go_ret;exact⟨rfl,AK.out.trans AW⟩
  | err a er=>
   have HR:=yE hr;have Ad:er≠0:=zP9 hr
   have d1:(er != 0)=true:=by rw[zD]; exact Ad
   have HE:=yE Ad;clear hr Ad
   go_enter Tryz.func10,Tryz.ntmps10
   go_wp2_with fail
   refine(zBq (some ⟨gs,0,none⟩) l l.length cp w1 rfl AL Ah (fun h=>by cases h) AP.out a er HR.out).mono ?_;rintro e AB ⟨g2,rfl,_,Am,AF⟩;clear AN AJ;have Au:=yE Am;have AT:=yE (An.out.trans AF);have AG:=yE AF;clear Am AF
   go_upto_region 5 with fail
   have AD:Ext AB (AB.alloc (.cells #[.slice none 0 0] 39)):=Ext.alloc _ _;have AZ:=yE (Blk.new AB 39 #[.slice none 0 0]);have AI:=yE (AT.out.trans AD);have Ay:=yE (Au.out.ext AD);have AS:=yE ((AP.out.ext AG.out).ext AD);clear AD;generalize AB.alloc (.cells #[.slice none 0 0] 39)=w2 at *;generalize AB.heap.size=gt at *
   go_wp2_with fail
   refine(zJu A l l.length c w2 rfl (by omega) hcap (HC.out.ext AI.out)).mono ?_;rw[HR.out];rintro e w3 ⟨AC,rfl⟩;have Af:=yE (Ay.out.ext AC);have AR:=yE (AI.out.trans AC);have Aa:=yE (AS.out.ext AC);have AU:=yE (AZ.out.ext AC);clear AC
   go_wp2_with fail
   refine(zGz g2 _ _ _ _ w3 (HG.out.ext AR.out) Af.out).mono ?_;rintro e w4 ⟨rfl,AA⟩;have As:=yE (Af.out.ext AA);have AO:=yE (AR.out.trans AA);have Ab:=yE (Aa.out.ext AA);have Ac:=yE (AU.out.ext AA);clear AA
   go_wp2_with fail
   refine(zFq g2 _ _ _ _ w4 (HG.out.ext AO.out) As.out).mono ?_;rintro e w5 ⟨rfl,AQ⟩;have AK:=yE (AO.out.trans AQ);have AX:=yE (Ab.out.ext AQ);have Az:=yE (Ac.out.ext AQ);clear AQ;have ct:w5.cell? ⟨gt,0,none⟩=some (.slice none 0 0):=Az.out.cell 0
   go_wp2_with fail
   refine(zNj none none 0 0 [] [] w5 (by decide) (fun x hx=>by cases hx) rfl ⟨.inl rfl,fun x hx=>by cases hx⟩ ⟨.inl rfl,fun x hx=>by cases hx⟩).mono ?_;rintro e w6 ⟨rfl,AH⟩;have AY:=yE (AK.out.trans AH);have Ap:=yE (AX.out.ext AH);clear AH ct
   go_wp2_with fail
   refine(zFv (some ⟨gs,0,none⟩) A l l l.length l.length cp c w6 rfl rfl Ap.out (HC.out.ext AY.out)).mono ?_;rintro e w' ⟨rfl,rfl⟩;rw[show(l==l)=true from by simp]
   go_wp2_with fail
   refine(YM w6 (HG.out.ext AY.out)).mono ?_;rintro e w7 ⟨rfl,AW⟩
   go_wp2_with fail
   go_ret;exact⟨rfl,AY.out.trans AW⟩
theorem jB {a b:Bool}(h:a=b):Ending.returned (.bool a)=.returned (.bool b):=by rw[h]
theorem zK9 {α β:Type}(f:α→List β)(n:Nat)(h:∀x,(f x).length=n):∀l:List α,(l.flatMap f).length=l.length*n
 | []=>by simp
 | x::l=>by rw[List.flatMap_cons,yN,h,zK9 f n h l,zJ]; rw[Nat.add_mul]; omega
theorem zNe {α β:Type}(f:α→List β)(n:Nat)(h:∀x,(f x).length=n):∀(l:List α) (k j:Nat) (hk:k<l.length),j<n→(l.flatMap f)[k*n+j]?=(f l[k])[j]?
 | [],k,j,hk,_=>by simp at hk
 | x::l,0,j,hk,hj=>by rw[List.flatMap_cons,List.getElem?_append_left (by rw[h]; omega)]; simp
 | x::l,k+1,j,hk,hj=>by
  rw[List.flatMap_cons,List.getElem?_append_right (by rw[h,Nat.add_mul]; omega),h,show(k+1)*n+j-n=k*n+j by rw[Nat.add_mul]; omega];exact zNe f n h l k j (by simpa using hk) hj
structure vI where
 kind:Int
 pos:Int
 text:ByteArray
 num:Int
 kA:Option Addr
 kc:Nat
 kids:List Int
def vI.cells (x:vI):List Value:=[.int .u8 x.kind,.int .i64 x.pos,.string x.text,.int .i64 x.num,.slice x.kA x.kids.length x.kc]
def zAL (l:List Int):List Value:=l.map (Value.int .i64)
structure zAm (w:World)(x:vI):Prop where
 kids:Cells w x.kA (zAL x.kids)
theorem zAm.ext {w w':World}{x:vI}(h:zAm w x)(hx:Ext w w'):zAm w' x:=⟨h.kids.ext hx⟩
def zA8 (l:List vI):List Value:=l.flatMap vI.cells
theorem zBP (l:List vI):(zA8 l).length=l.length*5:=zK9 vI.cells 5 (fun _=>rfl) l
theorem zFL (l:List vI)(k j:Nat)(h:k<l.length)(hj:j<5):(zA8 l)[k*5+j]?=(l[k].cells)[j]?:=zNe vI.cells 5 (fun _=>rfl) l k j h hj
theorem zHV (l:List Int):(zAL l).length=l.length:=by simp[zAL]
theorem zOY (l:List Int)(k:Nat)(h:k<l.length):(zAL l)[k]?=some (.int .i64 l[k]):=by simp[zAL,h]
structure VZ (w:World)(A:Option Addr)(l:List vI):Prop where
 cells:Cells w A (zA8 l)
 ok:∀x ∈ l,zAm w x
theorem VZ.ext {w w':World}{A:Option Addr}{l:List vI}(h:VZ w A l)(hx:Ext w w'):VZ w' A l:=⟨h.cells.ext hx,fun x hm=>(h.ok x hm).ext hx⟩
theorem VZ.at_ {w:World}{A:Option Addr}{l:List vI}(h:VZ w A l)(k:Nat)(hk:k<l.length) :
  ∃b AA,A=some ⟨b,AA,none⟩∧b<w.heap.size∧∀j,j<5→w.cell? ⟨b,AA+k*5+j,none⟩=(l[k].cells)[j]?:=by
 obtain⟨b,AA,hA,hb,AB⟩:=h.cells.at_ (by rw[zBP]; omega);refine⟨b,AA,hA,hb,fun j hj=>?_⟩;rw[Nat.add_assoc,AB _ (by rw[zBP]; omega)];exact zFL l k j hk hj
theorem zCw {w:World}{A:Option Addr}{l:List Int}(h:Cells w A (zAL l))(k:Nat)(hk:k<l.length):∃b AA,A=some ⟨b,AA,none⟩∧b<w.heap.size∧w.cell? ⟨b,AA+k,none⟩=some (.int .i64 l[k]):=by
 obtain⟨b,AA,hA,hb,AB⟩:=h.at_ (by rw[zHV]; omega);exact⟨b,AA,hA,hb,(AB k (by rw[zHV]; exact hk)).trans (zOY l k hk)⟩
def jV (x y:vI):Bool:=x.kind==y.kind&&(x.text.toList==y.text.toList&&(x.num==y.num&&x.kids==y.kids))
def zAC:List vI→List vI→Bool
 | [],[]=>true
 | x::l,y::m=>jV x y&&zAC l m
 | _,_=>false
theorem zFs:∀ {l m:List vI},l.length≠m.length→zAC l m=false
 | [],[],h=>absurd rfl h
 | [],_::_,_=>rfl
 | _::_,[],_=>rfl
 | x::l,y::m,h=>by
  show(jV x y&&zAC l m)=false
  rw[zFs (l:=l) (m:=m) (fun e=>h (by simp[e])),Bool.and_false]
theorem zFg:∀ {l m:List vI},l.length=m.length→(∀i (h1:i<l.length) (h2:i<m.length),jV l[i] m[i]=true)→zAC l m=true
 | [],[],_,_=>rfl
 | x::l,y::m,h,ha=>by
  show(jV x y&&zAC l m)=true
  rw[show jV x y=true from ha 0 (by simp) (by simp),zFg (l:=l) (m:=m) (by simpa using h) (fun i h1 h2=>ha (i+1) (by simpa using h1) (by simpa using h2)),Bool.and_true]
theorem zGA:∀ {l m:List vI} (i:Nat) (h1:i<l.length) (h2:i<m.length),jV l[i] m[i]=false→zAC l m=false
 | x::l,y::m,0,_,_,h=>by
  show(jV x y&&zAC l m)=false
  rw[show jV x y=false from h,Bool.false_and]
 | x::l,y::m,i+1,h1,h2,h=>by
  show(jV x y&&zAC l m)=false
  rw[zGA (l:=l) (m:=m) i (by simpa using h1) (by simpa using h2) h,Bool.and_false]
theorem zMn {l m:List Int}(h:l.length=m.length)(hh:∀j (h1:j<l.length) (h2:j<m.length),l[j]=m[j]):l=m:=List.ext_getElem h hh
theorem zOk (L M:Option Addr)(ls ms:List Int)(n c m d:Nat)(w:World)(hn:n=ls.length)(hm:m=ms.length)(hl:Cells w L (zAL ls))(hw:Cells w M (zAL ms))(hlen:ls.length≤4000)(hwl:ms.length≤4000)(b:Bool)(hb:Hid ((ls==ms)=b)) :
  Calls Tryz.prog 50 #[.slice L n c,.slice M m d] w fun e w'=>e=.returned (.bool b)∧Ext w w':=by
 subst hn hm;have HL:=yE hl;have HW:=yE hw;clear hl hw
 by_cases AB:ls.length=ms.length
 ·have e0:((ls.length:Int)==(ms.length:Int))=true:=by rw[AB]; simp
  have e1:((ls.length:Int) != (ms.length:Int))=false:=by rw[AB]; simp
  have AF:=yE AB;clear AB
  go_enter Tryz.func50,Tryz.ntmps50
  go_wp2_with fail
  go_loopw [13] (fun i wr=>∃k:Nat,k≤ls.length∧i=.int .i64 k∧Hid (Ext w wr)∧Hid (∀j (h1:j<ls.length) (h2:j<ms.length),j<k→ls[j]=ms[j])) (fun i _=>ls.length-(intOf i).toNat)
  case atStart=>exact⟨0,zT _,rfl,yE (Ext.refl _),yE fun j h1 h2 hj=>by omega⟩
  case round=>
   obtain⟨k,hk,rfl,HX,HR⟩:=hrel;obtain⟨wa,rfl⟩:∃wa:World,wa=wr:=⟨_,rfl⟩
   by_cases AI:k<ls.length
   ·have d0:decide ((k:Int)<(ls.length:Int))=true:=yQ (by omega)
    have AC:k<ms.length:=by have:=AF.out; omega
    obtain⟨b1,AJ,rfl,AK,AM⟩:=zCw (HL.out.ext HX.out) k AI;obtain⟨b2,AG,rfl,AL,AN⟩:=zCw (HW.out.ext HX.out) k AC
    have q1:(k:Int)<(ls.length:Int):=by omega
    have q2:(k:Int)<(ms.length:Int):=by omega
    have AD:Hid (ls[k]=ms[k]→∀j (h1:j<ls.length) (h2:j<ms.length),j<k+1→ls[j]=ms[j]):=yE (by
     intro h j h1 h2 h3
     by_cases hj:j=k
     ·subst hj; exact h
     ·exact HR.out j h1 h2 (by omega))
    have AH:Hid (ls[k]≠ms[k]→b=false):=yE (by
     intro h;rw[←hb.out,yG];rintro rfl
     exact h rfl)
    generalize ls[k]=x at *;generalize ms[k]=y at *
    by_cases AA:x=y
    ·have HY:=yE (AD.out AA)
     have e5:(x==y)=true:=by rw[AA]; simp
     have e6:(x != y)=false:=by rw[AA]; simp
     clear AA
     go_wp2_with fail
     go_quiet (fail)
     rename_i nq;have AE:=yE ((Below.trans HX.out ⟨rfl,rfl,rfl,zU _,fun _ _=>rfl⟩:Ext w (wa.drewN nq)))
     go_wp2_with fail
     go_roundw
     case rel=>exact⟨k+1,by omega,by go_num,AE,HY⟩
     case measure=>simp[intOf]; omega
    ·have HN:=yE (AH.out AA);have e5:(x==y)=false:=beq_eq_false_iff_ne.2 AA
     have e6:(x != y)=true:=by rw[bne,e5]; rfl
     clear AA
     go_wp2_with fail
     go_quiet (fail)
     rename_i nq;have AE:=yE ((Below.trans HX.out ⟨rfl,rfl,rfl,zU _,fun _ _=>rfl⟩:Ext w (wa.drewN nq)))
     go_wp2_with fail
     go_ret;exact⟨jB HN.out.symm,AE.out⟩
   ·obtain rfl:k=ls.length:=by omega
    have d0:decide ((ls.length:Int)<(ls.length:Int))=false:=by simp
    have HB:Hid (b=true):=yE (by
     rw[←hb.out,zN]
     exact zMn AF.out (fun j h1 h2=>HR.out j h1 h2 h1))
    go_wp2_with fail
    go_ret;exact⟨jB HB.out.symm,HX.out⟩
 ·have e0:((ls.length:Int)==(ms.length:Int))=false:=by rw[yG]; omega
  have e1:((ls.length:Int) != (ms.length:Int))=true:=by rw[bne,e0]; rfl
  have HB:Hid (b=false):=yE (by rw[←hb.out,yG]; rintro rfl; exact AB rfl)
  go_enter Tryz.func50,Tryz.ntmps50
  go_wp2_with fail
  go_ret;exact⟨jB HB.out.symm,Ext.refl _⟩
theorem zQS (x y:vI)(w:World)(hx:Cells w x.kA (zAL x.kids))(hy:Cells w y.kA (zAL y.kids))(hxl:x.kids.length≤4000)(hyl:y.kids.length≤4000)(b:Bool)(hb:Hid (jV x y=b)) :
  Calls Tryz.prog 49 #[.agg (Array.mk x.cells),.agg (Array.mk y.cells)] w fun e w'=>e=.returned (.bool b)∧Ext w w':=by
 have AM:=yE hx;have AO:=yE hy;clear hx hy;obtain⟨kind,pos,text,num,kA,kc,AD⟩:=x;obtain⟨AB,AF,AC,AE,AG,AH,AA⟩:=y
 simp only at hxl hyl AM AO
 show Calls Tryz.prog 49 #[.agg #[.int .u8 kind,.int .i64 pos,.string text,.int .i64 num,.slice kA AD.length kc],.agg #[.int .u8 AB,.int .i64 AF,.string AC,.int .i64 AE,.slice AG AA.length AH]] w fun e w'=>e=.returned (.bool b)∧Ext w w'
 have HS:Hid ((kind==AB&&(text.toList==AC.toList&&(num==AE&&AD==AA)))=b):=hb;clear hb;have AI:Hid (Ext w ((w.alloc (.cells #[.int .u8 kind,.int .i64 pos,.string text,.int .i64 num,.slice kA AD.length kc] 48)).alloc (.cells #[.int .u8 AB,.int .i64 AF,.string AC,.int .i64 AE,.slice AG AA.length AH] 48))):=yE ((Ext.alloc _ _).trans (Ext.alloc _ _));have AK:Hid (Blk ((w.alloc (.cells #[.int .u8 kind,.int .i64 pos,.string text,.int .i64 num,.slice kA AD.length kc] 48)).alloc (.cells #[.int .u8 AB,.int .i64 AF,.string AC,.int .i64 AE,.slice AG AA.length AH] 48)) w.heap.size 48 #[.int .u8 kind,.int .i64 pos,.string text,.int .i64 num,.slice kA AD.length kc]):=yE ((Blk.new _ _ _).alloc _);have AJ:Hid (Blk ((w.alloc (.cells #[.int .u8 kind,.int .i64 pos,.string text,.int .i64 num,.slice kA AD.length kc] 48)).alloc (.cells #[.int .u8 AB,.int .i64 AF,.string AC,.int .i64 AE,.slice AG AA.length AH] 48)) (w.heap.size+1) 48 #[.int .u8 AB,.int .i64 AF,.string AC,.int .i64 AE,.slice AG AA.length AH]):=yE (Blk.newAt (by simp));have x0:=AK.out.cell 0;have x2:=AK.out.cell 2;have x3:=AK.out.cell 3;have x4:=AK.out.cell 4;have y0:=AJ.out.cell 0;have y2:=AJ.out.cell 2;have y3:=AJ.out.cell 3;have y4:=AJ.out.cell 4;obtain⟨t1,h1⟩:∃t,(kind==AB)=t:=⟨_,rfl⟩;obtain⟨t2,h2⟩:∃t,(text.toList==AC.toList)=t:=⟨_,rfl⟩;obtain⟨t3,h3⟩:∃t,(num==AE)=t:=⟨_,rfl⟩
 obtain⟨t4,AN⟩:∃t,Hid ((AD==AA)=t):=⟨_,yE rfl⟩;rw[h1,h2,h3,AN.out] at HS
 cases t1 with
 | false=>
  go_enter Tryz.func49,Tryz.ntmps49
  go_wp2_with fail
  go_ret;exact⟨jB (by rw[←HS.out]; rfl),AI.out⟩
 | true=>
  cases t2 with
  | false=>
   go_enter Tryz.func49,Tryz.ntmps49
   go_wp2_with fail
   go_ret;exact⟨jB (by rw[←HS.out]; rfl),AI.out⟩
  | true=>
   cases t3 with
   | false=>
    go_enter Tryz.func49,Tryz.ntmps49
    go_wp2_with fail
    go_ret;exact⟨jB (by rw[←HS.out]; rfl),AI.out⟩
   | true=>
    have HB:Hid (t4=b):=yE (by rw[←HS.out]; rfl)
    go_enter Tryz.func49,Tryz.ntmps49
    go_wp2_with fail
    refine(zOk kA AG AD AA _ kc _ AH _ rfl rfl (AM.out.ext AI.out) (AO.out.ext AI.out) hxl hyl t4 AN).mono ?_;rintro e w2 ⟨rfl,AL⟩;have AP:Hid (Ext w w2):=yE (AI.out.trans AL);clear AL x0 x2 x3 x4 y0 y2 y3 y4
    go_wp2_with fail
    go_ret;exact⟨jB HB.out,AP.out⟩
theorem zKy (l m:List vI)(A B:Option Addr)(n c n2 c2:Nat)(w:World)(hn:n=l.length)(hn2:n2=m.length)(hl:VZ w A l)(hm:VZ w B m)(hlen:l.length≤4000)(hlen2:m.length≤4000)(hk:∀x ∈ l,x.kids.length≤4000)(hk2:∀x ∈ m,x.kids.length≤4000)(b:Bool)(hb:Hid (zAC l m=b)) :
  Calls Tryz.prog 48 #[.slice A n c,.slice B n2 c2,.func (.func 49) #[] #[]] w fun e w'=>e=.returned (.bool b)∧Ext w w':=by
 subst hn hn2;have HL:=yE hl;have HM:=yE hm;have HK:=yE hk;have Aj:=yE hk2;clear hl hm hk hk2
 by_cases AS:l.length=m.length
 ·have e0:((l.length:Int)==(m.length:Int))=true:=by rw[AS]; simp
  have e1:((l.length:Int) != (m.length:Int))=false:=by rw[AS]; simp
  have Af:=yE AS;clear AS
  go_enter Tryz.func48,Tryz.ntmps48
  go_wp2_with fail
  go_loopw [17] (fun i wr=>∃k:Nat,k≤l.length∧i=.int .i64 k∧Hid (Ext w wr)∧Hid (∀j (h1:j<l.length) (h2:j<m.length),j<k→jV l[j] m[j]=true)) (fun i _=>l.length-(intOf i).toNat)
  case atStart=>exact⟨0,zT _,rfl,yE (Ext.refl _),yE fun j h1 h2 hj=>by omega⟩
  case round=>
   obtain⟨k,Aq,rfl,HX,HR⟩:=hrel;obtain⟨wa,rfl⟩:∃wa:World,wa=wr:=⟨_,rfl⟩
   by_cases AT:k<l.length
   ·have d0:decide ((k:Int)<(l.length:Int))=true:=yQ (by omega)
    have AK:k<m.length:=by have:=Af.out; omega
    have q1:(k:Int)<(l.length:Int):=by omega
    have q2:(k:Int)<(m.length:Int):=by omega
    have Aa:=yE (HL.out.ext HX.out);have Ab:=yE (HM.out.ext HX.out);obtain⟨b1,AI,rfl,Ap,AO⟩:=Aa.out.at_ k AT;obtain⟨b2,AD,rfl,Am,AZ⟩:=Ab.out.at_ k AK;have An:Hid (zAm wa l[k]):=yE (Aa.out.ok _ (yM AT));have Ai:Hid (zAm wa m[k]):=yE (Ab.out.ok _ (yM AK));have AY:l[k].kids.length≤4000:=HK.out _ (yM AT);have Ac:m[k].kids.length≤4000:=Aj.out _ (yM AK);have Ah:=yE AY;have Ak:=yE Ac;clear AY Ac;obtain⟨t,ht⟩:∃t,jV l[k] m[k]=t:=⟨_,rfl⟩
    have AU:Hid (t=true→∀j (h1:j<l.length) (h2:j<m.length),j<k+1→jV l[j] m[j]=true):=yE (by
     intro h j h1 h2 h3
     by_cases hj:j=k
     ·subst hj; rw[ht]; exact h
     ·exact HR.out j h1 h2 (by omega))
    have Ao:Hid (t=false→b=false):=yE (by
     intro h;rw[←hb.out]
     exact zGA k AT AK (by rw[ht]; exact h))
    have Ag:=yE ht;clear ht;generalize l[k]=x at *;generalize m[k]=y at *;obtain⟨kind,pos,text,num,kA,kc,AG⟩:=x;obtain⟨AA,AF,AB,AE,AL,AM,AC⟩:=y;have x0:wa.cell? ⟨b1,AI+k*5,none⟩=some (.int .u8 kind):=AO 0 (by omega);have x1:wa.cell? ⟨b1,AI+k*5+1,none⟩=some (.int .i64 pos):=AO 1 (by omega);have x2:wa.cell? ⟨b1,AI+k*5+2,none⟩=some (.string text):=AO 2 (by omega);have x3:wa.cell? ⟨b1,AI+k*5+3,none⟩=some (.int .i64 num):=AO 3 (by omega);have x4:wa.cell? ⟨b1,AI+k*5+4,none⟩=some (.slice kA AG.length kc):=AO 4 (by omega);have AQ:Hid (∀j,j<5→wa.cell? ⟨b2,AD+k*5+j,none⟩=([Value.int .u8 AA,.int .i64 AF,.string AB,.int .i64 AE,.slice AL AC.length AM])[j]?):=yE AZ;have AJ:=yE Am;clear AO AZ
    go_upto_region 6 with fail
    have AN:Hid (Ext wa (wa.alloc (.cells #[.int .u8 kind,.int .i64 pos,.string text,.int .i64 num,.slice kA AG.length kc] 48))):=yE (Ext.alloc _ _);have Ad:Hid (Blk (wa.alloc (.cells #[.int .u8 kind,.int .i64 pos,.string text,.int .i64 num,.slice kA AG.length kc] 48)) wa.heap.size 48 #[.int .u8 kind,.int .i64 pos,.string text,.int .i64 num,.slice kA AG.length kc]):=yE (Blk.new _ _ _);clear x0 x1 x2 x3 x4;generalize wa.alloc (.cells #[.int .u8 kind,.int .i64 pos,.string text,.int .i64 num,.slice kA AG.length kc] 48)=wb at *;obtain⟨gx,Ae⟩:∃gx,gx=wa.heap.size:=⟨_,rfl⟩;rw[←Ae] at Ad ⊢;clear Ae;have y0:wb.cell? ⟨b2,AD+k*5,none⟩=some (.int .u8 AA):=(AN.out.cell (p:=⟨b2,AD+k*5,none⟩) AJ.out).trans (AQ.out 0 (by omega));have y1:wb.cell? ⟨b2,AD+k*5+1,none⟩=some (.int .i64 AF):=(AN.out.cell (p:=⟨b2,AD+k*5+1,none⟩) AJ.out).trans (AQ.out 1 (by omega));have y2:wb.cell? ⟨b2,AD+k*5+2,none⟩=some (.string AB):=(AN.out.cell (p:=⟨b2,AD+k*5+2,none⟩) AJ.out).trans (AQ.out 2 (by omega));have y3:wb.cell? ⟨b2,AD+k*5+3,none⟩=some (.int .i64 AE):=(AN.out.cell (p:=⟨b2,AD+k*5+3,none⟩) AJ.out).trans (AQ.out 3 (by omega));have y4:wb.cell? ⟨b2,AD+k*5+4,none⟩=some (.slice AL AC.length AM):=(AN.out.cell (p:=⟨b2,AD+k*5+4,none⟩) AJ.out).trans (AQ.out 4 (by omega))
    go_upto_region 7 with fail
    have AV:Hid (Ext wb (wb.alloc (.cells #[.int .u8 AA,.int .i64 AF,.string AB,.int .i64 AE,.slice AL AC.length AM] 48))):=yE (Ext.alloc _ _);have AP:Hid (Blk (wb.alloc (.cells #[.int .u8 AA,.int .i64 AF,.string AB,.int .i64 AE,.slice AL AC.length AM] 48)) wb.heap.size 48 #[.int .u8 AA,.int .i64 AF,.string AB,.int .i64 AE,.slice AL AC.length AM]):=yE (Blk.new _ _ _);clear y0 y1 y2 y3 y4;have AH:=yE (Ad.out.ext AV.out);have Al:Hid (Ext w (wb.alloc (.cells #[.int .u8 AA,.int .i64 AF,.string AB,.int .i64 AE,.slice AL AC.length AM] 48))):=yE ((HX.out.trans AN.out).trans AV.out);have AR:=yE (AN.out.trans AV.out);generalize wb.alloc (.cells #[.int .u8 AA,.int .i64 AF,.string AB,.int .i64 AE,.slice AL AC.length AM] 48)=wc at *;generalize wb.heap.size=gy at *;have x0:=AH.out.cell 0;have x1:=AH.out.cell 1;have x2:=AH.out.cell 2;have x3:=AH.out.cell 3;have x4:=AH.out.cell 4;have y0:=AP.out.cell 0;have y1:=AP.out.cell 1;have y2:=AP.out.cell 2;have y3:=AP.out.cell 3;have y4:=AP.out.cell 4
    go_wp2_with fail
    refine(zQS ⟨kind,pos,text,num,kA,kc,AG⟩ ⟨AA,AF,AB,AE,AL,AM,AC⟩ wc (An.out.kids.ext AR.out) (Ai.out.kids.ext AR.out) Ah.out Ak.out t Ag).mono ?_;rintro e w2 ⟨rfl,AX⟩;have AW:Hid (Ext w w2):=yE (Al.out.trans AX);clear AX x0 x1 x2 x3 x4 y0 y1 y2 y3 y4
    cases t with
    | true=>
     go_wp2_with fail
     go_roundw
     case rel=>exact⟨k+1,by omega,by go_num,AW,yE (AU.out (by simp))⟩
     case measure=>simp[intOf]; omega
    | false=>
     go_wp2_with fail
     go_ret;exact⟨jB (Ao.out (by simp)).symm,AW.out⟩
   ·obtain rfl:k=l.length:=by omega
    have d0:decide ((l.length:Int)<(l.length:Int))=false:=by simp
    have HB:Hid (b=true):=yE (by
     rw[←hb.out]
     exact zFg Af.out (fun j h1 h2=>HR.out j h1 h2 h1))
    go_wp2_with fail
    go_ret;exact⟨jB HB.out.symm,HX.out⟩
 ·have e0:((l.length:Int)==(m.length:Int))=false:=by rw[yG]; omega
  have e1:((l.length:Int) != (m.length:Int))=true:=by rw[bne,e0]; rfl
  have HB:Hid (b=false):=yE (by rw[←hb.out]; exact zFs AS)
  go_enter Tryz.func48,Tryz.ntmps48
  go_wp2_with fail
  go_ret;exact⟨jB HB.out.symm,Ext.refl _⟩
theorem zSP (l m:List vI)(A B:Option Addr)(n c n2 c2:Nat)(w:World)(hn:n=l.length)(hn2:n2=m.length)(hl:VZ w A l)(hm:VZ w B m)(hlen:l.length≤4000)(hlen2:m.length≤4000)(hk:∀x ∈ l,x.kids.length≤4000)(hk2:∀x ∈ m,x.kids.length≤4000)(b:Bool)(hb:Hid (zAC l m=b)) :
  Calls Tryz.prog 18 #[.agg #[.slice A n c],.agg #[.slice B n2 c2]] w fun e w'=>e=.returned (.bool b)∧Ext w w':=by
 subst hn hn2;have HL:=yE hl;have HM:=yE hm;have HK:=yE hk;have AC:=yE hk2;clear hl hm hk hk2;have AA:Hid (Ext w ((w.alloc (.cells #[.slice A l.length c] 39)).alloc (.cells #[.slice B m.length c2] 39))):=yE ((Ext.alloc _ _).trans (Ext.alloc _ _));have x0:((w.alloc (.cells #[.slice A l.length c] 39)).alloc (.cells #[.slice B m.length c2] 39)).cell? ⟨w.heap.size,0,none⟩=some (.slice A l.length c):=((Blk.new _ _ _).alloc _).cell 0;have y0:((w.alloc (.cells #[.slice A l.length c] 39)).alloc (.cells #[.slice B m.length c2] 39)).cell? ⟨w.heap.size+1,0,none⟩=some (.slice B m.length c2):=(Blk.zS1 (g:=w.heap.size+1) (by simp)).cell 0
 go_enter Tryz.func18,Tryz.ntmps18
 go_wp2_with fail
 refine(zKy l m A B l.length c m.length c2 _ rfl rfl (HL.out.ext AA.out) (HM.out.ext AA.out) hlen hlen2 HK.out AC.out b hb).mono ?_;rintro e w2 ⟨rfl,AB⟩;have AD:Hid (Ext w w2):=yE (AA.out.trans AB);clear AB x0 y0
 go_wp2_with fail
 go_ret;exact⟨rfl,AD.out⟩
def toM (x:Nd × Hd2):vI:=⟨x.1.kind,x.1.pos,xE x.1.text,x.1.num,x.2.1,x.2.2,x.1.kids.map fun (k:Nat)=>(k:Int)⟩
theorem zP3 (x:Nd × Hd2):(toM x).cells=jL x:=by simp[toM,vI.cells,jL]
theorem zS6 (l:List Nat):ints l=zAL (l.map fun (k:Nat)=>(k:Int)):=by simp[ints,zAL]
theorem TR.toM {w:World}{A:Option Addr}{nh:List (Nd × Hd2)}(h:TR w A nh):VZ w A (nh.map Proofs.YtioffpjajhalaaaGreatDoor.toM):=by
 refine⟨?_,fun x hx=>?_⟩
 ·have e:zA8 (nh.map Proofs.YtioffpjajhalaaaGreatDoor.toM)=ncs nh:=by
   unfold zA8 ncs;rw[List.flatMap_map]
   congr 1
   funext x
   exact zP3 x
  rw[e];exact h.row
 ·obtain⟨y,hy,rfl⟩:=List.mem_map.1 hx;refine⟨?_⟩
  have:=h.kids y hy
  rw[zS6] at this;exact this
theorem zQ1 {l m:List (Nd × Hd2)}(h:(l.map Prod.fst).map (fun n:Nd=>({ n with pos:=0 }:Nd))=(m.map Prod.fst).map (fun n:Nd=>({ n with pos:=0 }:Nd))):zAC (l.map toM) (m.map toM)=true:=by
 induction l generalizing m with
 | nil=>cases m with
  | nil=>rfl
  | cons y m=>simp at h
 | cons x l ih=>cases m with
  | nil=>simp at h
  | cons y m=>
   simp only[List.map_cons,List.cons.injEq] at h;obtain⟨h1,h2⟩:=h
   show(jV (toM x) (toM y)&&zAC (l.map toM) (m.map toM))=true
   rw[ih h2,Bool.and_true];obtain⟨⟨k1,p1,t1,n1,s1⟩,AB⟩:=x;obtain⟨⟨k2,p2,t2,n2,s2⟩,AA⟩:=y;injection h1 with a1 a2 a3 a4 a5;subst a1 a3 a4 a5;simp[jV,toM]
theorem zPI (l m:List (Nd × Hd2))(A B:Option Addr)(n c n2 c2:Nat)(w:World)(hn:n=l.length)(hn2:n2=m.length)(hl:TR w A l)(hm:TR w B m)(hlen:l.length≤4000)(hlen2:m.length≤4000)(hk:∀x ∈ l,x.1.kids.length≤4000)(hk2:∀x ∈ m,x.1.kids.length≤4000)
  (h:(l.map Prod.fst).map (fun n:Nd=>({ n with pos:=0 }:Nd))=(m.map Prod.fst).map (fun n:Nd=>({ n with pos:=0 }:Nd))) :
  Calls Tryz.prog 18 #[.agg #[.slice A n c],.agg #[.slice B n2 c2]] w fun e w'=>e=.returned (.bool true)∧Ext w w':=by
 refine zSP (l.map toM) (m.map toM) A B n c n2 c2 w (by simpa using hn) (by simpa using hn2) hl.toM hm.toM (by simpa using hlen) (by simpa using hlen2) (fun x hx=>?_) (fun x hx=>?_) true (yE (zQ1 h))
 ·obtain⟨y,hy,rfl⟩:=List.mem_map.1 hx
  simpa [toM] using hk y hy
 ·obtain⟨y,hy,rfl⟩:=List.mem_map.1 hx
  simpa [toM] using hk2 y hy
end Go.Proofs.YtioffpjajhalaaaGreatDoor
