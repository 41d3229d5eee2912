/- Chapter 7's examples: interlocklaw07.works, walked: always true. (and what follows of it). The conditions stand at each lemma. -/
import Derived.Test.YtbadjmmjbpeocaaGreatDoorKaa
import Derived.Test.YtbadjmmjbpeocaaGreatDoorKaq
import Derived.Test.YtbadjmmjbpeocaaGreatDoorKbk
import Derived.Deep.Cut
import Derived.Deep.QuietTactic
import Derived.Test.YtbadjmmjbpeocaaGreatDoorKar
import Derived.Test.YtbadjmmjbpeocaaGreatDoorKau
set_option linter.unusedVariables false
set_option linter.unusedSimpArgs false
set_option maxRecDepth 100000
set_option maxHeartbeats 16000000
namespace Go.Proofs.YtbadjmmjbpeocaaGreatDoor
open Go Go.RowKit
theorem zO8 (l:List Bs)(k:Nat)(h:k<l.length):(strs l)[k]?=some (.string (xI l[k])):=by simp[strs,h]
theorem zJT (A B:Option Addr)(c d n m:Nat)(xs:List Bs)(w:World)(hn:n=xs.length)(hm:m=xs.length)(hb:xs.length≤1000000)(hA:Cells w A (strs xs))(hB:Cells w B (strs xs)) :
  Calls Tryz.prog 18 #[.slice A n c,.slice B m d] w fun e w'=>e=.returned (.bool true)∧∃m,w'=w.drewN m:=by
 subst hn hm;have HA:=yG hA;have HB:=yG hB;have HLI:=yG (zIS xs);have HAT:=yG (fun k hk=>zO8 xs k hk);clear hA hB
 go_enter Tryz.func18,Tryz.ntmps18
 go_wp2_with fail
 go_loopw [5] (fun i' wr=>∃(k m:Nat),k≤xs.length∧i'=.int .i64 k∧wr=w.drewN m) (fun i' _=>xs.length-(intOf i').toNat)
 case atStart=>exact⟨0,0,zW _,rfl,rfl⟩
 case round=>
  obtain⟨k,m,hk,rfl,rfl⟩:=hrel
  by_cases hlt:k<xs.length
  ·have d0:decide ((k:Int)<(xs.length:Int))=true:=yS (by omega)
   have q1:(k:Int)<(xs.length:Int):=by omega
   obtain⟨b1,o1,rfl,_,h1⟩:=HA.out.at_ (by rw[HLI.out]; omega);obtain⟨b2,o2,rfl,_,h2⟩:=HB.out.at_ (by rw[HLI.out]; omega);have e1:=h1 k (by rw[HLI.out]; exact hlt);have e2:=h2 k (by rw[HLI.out]; exact hlt);rw[HAT.out k hlt] at e1 e2;generalize xs[k]=x at *;clear h1 h2
   go_wp2_with fail
   go_quiet (fail)
   rename_i nq
   go_wp2_with fail
   go_roundw
   case rel=>exact⟨k+1,m+nq,by omega,by go_num,by first | rfl | exact World.drewN_drewN ..⟩
   case measure=>simp[intOf]; omega
  ·obtain rfl:k=xs.length:=by omega
   have d0:decide ((xs.length:Int)<(xs.length:Int))=false:=by simp
   have d1:decide (xs.length<xs.length)=false:=by simp
   go_wp2_with fail
   go_ret;exact⟨rfl,m,rfl⟩
def zNS (src:Bs):Int:=match zBc src with
 | .ok nd=>if TT.JS (nd.map zLS)=true then (match jK nd with | .err _ e=>e | .ok _=>0) else 0
 | .err _ _=>0
theorem zTx {src:Bs}{er:Int}(h:zNS src=er)(h0:er≠0):∃nd i,zBc src=.ok nd∧TT.JS (nd.map zLS)=true∧jK nd=.err i er:=by
 unfold zNS at h
 cases hp:zBc src with
 | err a e=>rw[hp] at h; exact absurd h.symm h0
 | ok nd=>
  rw[hp] at h
  simp only at h
  split at h
  ·rename_i hr
   cases hq:jK nd with
   | ok s=>rw[hq] at h; exact absurd h.symm h0
   | err i e=>
    rw[hq] at h
    simp only at h
    subst h;exact⟨nd,i,rfl,hr,hq⟩
  ·exact absurd h.symm h0
theorem zDP (src:Bs)(er:Int)(w:World)(hG:GT w)(hl:src.length≤1500)(he:zNS src=er)(h0:er≠0) :
  Calls Tryz.prog 19 #[.string (xI src)] w fun e w'=>e=.returned (.int .i64 er)∧Ext w w':=by
 obtain⟨nd,i,hp,hr,hq⟩:=zTx he h0;have HP:=yG hp;have HR:=yG hr;have HQ:=yG hq;have HG:=yG hG;clear he h0 hp hr hq hG;obtain⟨hcv,hcap⟩:=zMk w src;have hx1:=zPh w src;have hc1:=zJ4 w src;obtain⟨w1,HW1⟩:∃w1,Hid (Lib.bytesWorld w 5 (xI src)=w1):=⟨_,yG rfl⟩;rw[HW1.out] at hcv hx1 hc1;have HC1:=yG hc1;have HX1:=yG hx1;have HCAP:=yG hcap;clear hx1 hc1 hcap HW1;generalize grownCap w src.length 0 5=c1 at *
 go_enter Tryz.func19,Tryz.ntmps19
 go_wp2_with fail
 refine(zI2 _ src _ _ w1 rfl (by omega) HCAP.out (fun h=>by cases h) HC1.out nd HP.out).mono ?_;rintro e w2 ⟨A2,c2,nh,rfl,rfl,hns,hx2⟩;obtain⟨hs1,hs2,hs3,hs4⟩:=zSP HP.out hl;have HT2:=yG (hns.toT hs4);have hz2:A2=none→c2=0:=zF1 hns.row;have HX2:=yG (HX1.out.trans hx2);clear hx2 hns hcv
 go_upto_region 2 with fail
 have hx3:Ext w2 (w2.alloc (.cells #[.slice A2 nh.length c2] 26)):=Ext.alloc _ _;have HX3:=yG (HX2.out.trans hx3);have HT3:=yG (HT2.out.ext hx3);have HB3:=yG (Blk.new w2 26 #[.slice A2 nh.length c2]);generalize w2.heap.size=g3 at *;generalize w2.alloc (.cells #[.slice A2 nh.length c2] 26)=w3 at *;have HS:=yG (show(∀x ∈ nh.map toT,TT.zC0 x)∧∀x ∈ nh.map toT,-9223372036854775808≤x.pos∧x.pos≤9223372036854775807 from⟨hs2,hs3⟩);have HLN:Hid (nh.length=(nh.map toT).length):=yG (by rw[yQ]);obtain⟨hcv,hcap⟩:=zMk w3 src;have hx4:=zPh w3 src;have hc4:=zJ4 w3 src;obtain⟨w4,HW4⟩:∃w4,Hid (Lib.bytesWorld w3 5 (xI src)=w4):=⟨_,yG rfl⟩;rw[HW4.out] at hcv hx4 hc4;have HC4:=yG hc4;have HX4:=yG (HX3.out.trans hx4);have HCAP4:=yG hcap;have HT4:=yG (HT3.out.ext hx4);have q3:w4.cell? ⟨g3,0,none⟩=some (.slice A2 nh.length c2):=(HB3.out.ext hx4).cell 0;clear hx4 hc4 hcap HW4 hs2 hs3 hs4 hx3;generalize grownCap w3 src.length 0 5=c4 at *;generalize w3.heap.size=g4 at *
 go_wp2_with fail
 refine(zD9 (some ⟨g4,0,none⟩) src src.length c4 rfl A2 (nh.map toT) nh.length c2 HLN.out w4 (by omega) HCAP4.out HC4.out HT4.out hz2 hs1 HS.out.1 HS.out.2).mono ?_;intro e w5 hpost;rw[zKx nh,if_pos HR.out] at hpost;obtain⟨_,hx5,hres⟩:=hpost;rw[zLG,HQ.out] at hres;obtain⟨g5,rfl,hg5,hb5⟩:=hres;have HX5:=yG (HX4.out.trans hx5);have HB5:=yG hb5;clear hx5 hb5 q3 hcv;unfold zAE
 go_upto_region 5 with fail
 have hx6:Ext w5 (w5.alloc (.cells #[.slice none 0 0,.slice none 0 0,.slice none 0 0,.slice none 0 0] 35)):=Ext.alloc _ _;have HX6:=yG (HX5.out.trans hx6);have HB6:=yG (HB5.out.ext hx6);clear hx6;generalize w5.alloc (.cells #[.slice none 0 0,.slice none 0 0,.slice none 0 0,.slice none 0 0] 35)=w6 at *
 go_wp2_with fail
 refine(zTW g5 _ _ _ er w6 (HG.out.ext HX6.out) HB6.out).mono ?_;rintro e w7 ⟨rfl,hx7⟩
 go_wp2_with fail
 go_ret;exact⟨rfl,HX6.out.trans hx7⟩
def zL6:Bs:=[116,97,98,108,101,32,116,40,99,41,59,32,112,114,111,99,32,112,40,97,41,32,123,32,114,101,97,100,32,120,32,61,32,116,91,97,93,46,99,59,32,101,109,105,116,32,120,59,32,125]
def zQq:List Nd:=[⟨1,0,[],0,[1,3]⟩,⟨2,0,[116],0,[2]⟩,⟨5,8,[99],0,[]⟩,⟨3,12,[112],0,[4,6]⟩,⟨4,19,[],0,[5]⟩,⟨5,19,[97],0,[]⟩,⟨6,22,[],0,[7,11]⟩,⟨7,24,[120],0,[8,10]⟩,⟨20,33,[116],0,[9]⟩,⟨22,35,[97],0,[]⟩,⟨5,38,[99],0,[]⟩,⟨17,41,[],0,[12]⟩,⟨22,46,[120],0,[]⟩]
def s07:Nr:=⟨[⟨[116],[[99]]⟩],[⟨[112],1,[[97],[120]],false,3⟩],[-1,0,0,0,-1,0,-1,1,0,0,0,-1,1],[[97],[120]],[]⟩
theorem zPj:zBc zL6=.ok zQq:=by decide +kernel
theorem zS7:TT.JS (zQq.map zLS)=true:=by decide +kernel
theorem zVf:jK zQq=.ok s07:=by
 have h:(match jK zQq with | .ok s=>decide (s=s07) | .err _ _=>false)=true:=by decide +kernel
 split at h
 ·rename_i s hs;rw[hs,of_decide_eq_true h]
 ·cases h
theorem zTq:zNS [112,114,111,99,32,112,40,41,32,123,32,101,109,105,116,32,120,59,32,125]=70:=by decide +kernel
theorem zTh:zNS [112,114,111,99,32,112,40,41,32,123,32,105,102,32,49,32,60,32,50,32,123,32,108,101,116,32,120,32,61,32,49,59,32,125,32,101,109,105,116,32,120,59,32,125]=70:=by decide +kernel
theorem zTl:zNS [116,97,98,108,101,32,116,40,99,44,32,100,41,59,32,112,114,111,99,32,112,40,41,32,123,32,112,117,116,32,116,91,49,93,40,50,41,59,32,125]=72:=by decide +kernel
theorem zTC:zNS [112,114,111,99,32,112,40,41,32,123,32,105,102,32,49,32,60,32,50,32,123,32,99,104,111,112,59,32,125,32,125]=73:=by decide +kernel
theorem zDM (w:World)(hG:GT w):Calls Tryz.prog 6 #[] w fun e w'=>e=.returned (.bool true)∧Ext w w':=by
 have HG:=yG hG;clear hG;have v1:=fun W=>zRv W #[.int .u8 116,.int .u8 97,.int .u8 98,.int .u8 108,.int .u8 101,.int .u8 32,.int .u8 116,.int .u8 40,.int .u8 99,.int .u8 41,.int .u8 59,.int .u8 32,.int .u8 112,.int .u8 114,.int .u8 111,.int .u8 99,.int .u8 32,.int .u8 112,.int .u8 40,.int .u8 97,.int .u8 41,.int .u8 32,.int .u8 123,.int .u8 32,.int .u8 114,.int .u8 101,.int .u8 97,.int .u8 100,.int .u8 32,.int .u8 120,.int .u8 32,.int .u8 61,.int .u8 32,.int .u8 116,.int .u8 91,.int .u8 97,.int .u8 93,.int .u8 46,.int .u8 99,.int .u8 59,.int .u8 32,.int .u8 101,.int .u8 109,.int .u8 105,.int .u8 116,.int .u8 32,.int .u8 120,.int .u8 59,.int .u8 32,.int .u8 125] 50 rfl
 go_enter Tryz.func6,Tryz.ntmps6
 go_wp2_with fail
 have HC0:Hid (Cells ((w.alloc (.cells #[.int .u8 116,.int .u8 97,.int .u8 98,.int .u8 108,.int .u8 101,.int .u8 32,.int .u8 116,.int .u8 40,.int .u8 99,.int .u8 41,.int .u8 59,.int .u8 32,.int .u8 112,.int .u8 114,.int .u8 111,.int .u8 99,.int .u8 32,.int .u8 112,.int .u8 40,.int .u8 97,.int .u8 41,.int .u8 32,.int .u8 123,.int .u8 32,.int .u8 114,.int .u8 101,.int .u8 97,.int .u8 100,.int .u8 32,.int .u8 120,.int .u8 32,.int .u8 61,.int .u8 32,.int .u8 116,.int .u8 91,.int .u8 97,.int .u8 93,.int .u8 46,.int .u8 99,.int .u8 59,.int .u8 32,.int .u8 101,.int .u8 109,.int .u8 105,.int .u8 116,.int .u8 32,.int .u8 120,.int .u8 59,.int .u8 32,.int .u8 125] 5)).freeze ⟨w.heap.size,50,none⟩ 1) (some ⟨w.heap.size,0,none⟩) (vB zL6)):=yG (zQD w _ 50 zL6 rfl);have HX0:Hid (Ext w ((w.alloc (.cells #[.int .u8 116,.int .u8 97,.int .u8 98,.int .u8 108,.int .u8 101,.int .u8 32,.int .u8 116,.int .u8 40,.int .u8 99,.int .u8 41,.int .u8 59,.int .u8 32,.int .u8 112,.int .u8 114,.int .u8 111,.int .u8 99,.int .u8 32,.int .u8 112,.int .u8 40,.int .u8 97,.int .u8 41,.int .u8 32,.int .u8 123,.int .u8 32,.int .u8 114,.int .u8 101,.int .u8 97,.int .u8 100,.int .u8 32,.int .u8 120,.int .u8 32,.int .u8 61,.int .u8 32,.int .u8 116,.int .u8 91,.int .u8 97,.int .u8 93,.int .u8 46,.int .u8 99,.int .u8 59,.int .u8 32,.int .u8 101,.int .u8 109,.int .u8 105,.int .u8 116,.int .u8 32,.int .u8 120,.int .u8 59,.int .u8 32,.int .u8 125] 5)).freeze ⟨w.heap.size,50,none⟩ 1)):=yG (zUe w _ 50)
 generalize (w.alloc (.cells #[.int .u8 116,.int .u8 97,.int .u8 98,.int .u8 108,.int .u8 101,.int .u8 32,.int .u8 116,.int .u8 40,.int .u8 99,.int .u8 41,.int .u8 59,.int .u8 32,.int .u8 112,.int .u8 114,.int .u8 111,.int .u8 99,.int .u8 32,.int .u8 112,.int .u8 40,.int .u8 97,.int .u8 41,.int .u8 32,.int .u8 123,.int .u8 32,.int .u8 114,.int .u8 101,.int .u8 97,.int .u8 100,.int .u8 32,.int .u8 120,.int .u8 32,.int .u8 61,.int .u8 32,.int .u8 116,.int .u8 91,.int .u8 97,.int .u8 93,.int .u8 46,.int .u8 99,.int .u8 59,.int .u8 32,.int .u8 101,.int .u8 109,.int .u8 105,.int .u8 116,.int .u8 32,.int .u8 120,.int .u8 59,.int .u8 32,.int .u8 125] 5)).freeze ⟨w.heap.size,50,none⟩ 1=w1 at *;generalize w.heap.size=g1 at *;clear v1;refine(zI2 (some ⟨g1,0,none⟩) zL6 50 50 w1 rfl (by decide) (by decide) (fun h=>by cases h) HC0.out zQq zPj).mono ?_;rintro e w2 ⟨A2,c2,nh,rfl,hnd,hns,hx2⟩;have hp:=zPj;rw[hnd] at hp;obtain⟨hs1,hs2,hs3,hs4⟩:=zSP hp (by decide);have HT2:=yG (hns.toT hs4);have hz2:A2=none→c2=0:=zF1 hns.row;have HX2:=yG (HX0.out.trans hx2);have HC2:=yG (HC0.out.ext hx2);have HND:=yG hnd;have HL13:Hid (nh.length=13):=yG (by have:=congrArg List.length hnd; simpa [zQq] using this.symm);clear hx2 hns hp hnd HC0
 go_upto_region 3 with fail
 have hx3:Ext w2 (w2.alloc (.cells #[.slice A2 nh.length c2] 26)):=Ext.alloc _ _;have HX3:=yG (HX2.out.trans hx3);have HC3:=yG (HC2.out.ext hx3);have HT3:=yG (HT2.out.ext hx3);have HB3:=yG (Blk.new w2 26 #[.slice A2 nh.length c2]);generalize w2.heap.size=g3 at *;generalize w2.alloc (.cells #[.slice A2 nh.length c2] 26)=w3 at *;have HS:=yG (show(∀x ∈ nh.map toT,TT.zC0 x)∧∀x ∈ nh.map toT,-9223372036854775808≤x.pos∧x.pos≤9223372036854775807 from⟨hs2,hs3⟩);have HLN:Hid (nh.length=(nh.map toT).length):=yG (by rw[yQ]);have q3:w3.cell? ⟨g3,0,none⟩=some (.slice A2 nh.length c2):=HB3.out.cell 0;clear hx3 hs2 hs3 hs4
 go_wp2_with fail
 refine(zD9 (some ⟨g1,0,none⟩) zL6 50 50 rfl A2 (nh.map toT) nh.length c2 HLN.out w3 (by decide) (by decide) HC3.out HT3.out hz2 hs1 HS.out.1 HS.out.2).mono ?_;intro e w5 hpost;rw[zKx nh,←HND.out,if_pos zS7] at hpost;obtain⟨_,hx5,hres⟩:=hpost;rw[zLG,←HND.out,zVf] at hres;obtain⟨v,rfl,hprog⟩:=hres;obtain⟨M,A,At,Ap,l,th,ps,bo,ct,cT,cP,co,rfl,hprg,htn,hpn⟩:=hprog.out
 have hl13:(nh.map toT).length=13:=by rw[yQ]; exact HL13.out
 rw[hl13]
 obtain⟨x,rfl⟩:∃x,ps=[x]:=by
  have h:=congrArg List.length hprg.psl;rw[yQ] at h;exact List.length_eq_one_iff.1 h
 have hx1:x.1=⟨[112],1,[[97],[120]],false,3⟩:=by
  have h:=hprg.psl;have h2:[x.1]=[(⟨[112],1,[[97],[120]],false,3⟩:Np)]:=h;injection h2
 have HVC:=yG (hprg.vars x (by simp)).cells;have HPC:=yG hprg.procs.cells;have HOC:=yG hprg.of.cells;rw[hx1] at HVC;have HX5:=yG (HX3.out.trans hx5);clear hx5 hprog hprg htn hpn q3;rw[show s07.procs.length=1 from rfl,show s07.xH.length=1 from rfl];obtain⟨pb,po,rfl,hpb,hpc⟩:=HPC.out.at_ (by rw[zAW]; show 0<1*5; decide)
 have k2:w5.cell? ⟨pb,po+2,none⟩=some (.slice x.2.1 2 x.2.2):=by
  rw[hpc 2 (by rw[zAW]; show 2<1*5; decide)]
  show some (Value.slice x.2.1 x.1.vars.length x.2.2)=_
  rw[hx1]
  rfl
 obtain⟨ob,oo,hoe,hob,hoc⟩:=HOC.out.at_ (by decide);injection hoe with hoe;injection hoe with e1 e2;subst e1; subst e2;have k3:w5.cell? ⟨bo,0+12,none⟩=some (.int .i64 1):=hoc 12 (by decide);have HK2:=yG (show w5.cell? ⟨pb,po+2,none⟩=some (.slice x.2.1 2 x.2.2)∧pb<w5.heap.size from⟨k2,hpb⟩);have HK3:=yG (show w5.cell? ⟨bo,0+12,none⟩=some (.int .i64 1)∧bo<w5.heap.size from⟨k3,hob⟩);clear k2 k3 hpc hpb hob hoc hx1 hl13;generalize x.2.1=xA at *;generalize x.2.2=xc at *
 go_upto_region 4 with fail
 have hx6:Ext w5 (w5.alloc (.cells #[.slice A 13 ct,.slice At 1 cT,.slice (some ⟨pb,po,none⟩) 1 cP,.slice (some ⟨bo,0,none⟩) 13 co] 35)):=Ext.alloc _ _;have HB6:=yG (Blk.new w5 35 #[.slice A 13 ct,.slice At 1 cT,.slice (some ⟨pb,po,none⟩) 1 cP,.slice (some ⟨bo,0,none⟩) 13 co]);have HX6:=yG (HX5.out.trans hx6);have HV6:=yG (HVC.out.ext hx6);have k2:=(hx6.cell (p:=⟨pb,po+2,none⟩) HK2.out.2).trans HK2.out.1;have HK6:=yG (show _∧bo<(w5.alloc (.cells #[.slice A 13 ct,.slice At 1 cT,.slice (some ⟨pb,po,none⟩) 1 cP,.slice (some ⟨bo,0,none⟩) 13 co] 35)).heap.size from⟨(hx6.cell (p:=⟨bo,0+12,none⟩) HK3.out.2).trans HK3.out.1,yU HK3.out.2 hx6.size⟩);clear hx6 HK2 HK3;generalize w5.heap.size=g5 at *;generalize w5.alloc (.cells #[.slice A 13 ct,.slice At 1 cT,.slice (some ⟨pb,po,none⟩) 1 cP,.slice (some ⟨bo,0,none⟩) 13 co] 35)=w6 at *;have y2:w6.cell? ⟨g5,2,none⟩=some (.slice (some ⟨pb,po,none⟩) 1 cP):=HB6.out.cell 2;have y3:w6.cell? ⟨g5,3,none⟩=some (.slice (some ⟨bo,0,none⟩) 13 co):=HB6.out.cell 3
 go_wp2_with fail
 clear y2 y3 k2;have hx7:Ext w6 (w6.alloc (.cells #[.string ⟨#[97]⟩,.string ⟨#[120]⟩] 9)):=Ext.alloc _ _;have HX7:=yG (HX6.out.trans hx7);have HV7:=yG (HV6.out.ext hx7);have HB7:=yG (HB6.out.ext hx7);have HK7:=yG (show _∧bo<(w6.alloc (.cells #[.string ⟨#[97]⟩,.string ⟨#[120]⟩] 9)).heap.size from⟨(hx7.cell (p:=⟨bo,0+12,none⟩) HK6.out.2).trans HK6.out.1,yU HK6.out.2 hx7.size⟩);have HS7:Hid (Cells (w6.alloc (.cells #[.string ⟨#[97]⟩,.string ⟨#[120]⟩] 9)) (some ⟨w6.heap.size,0,none⟩) (strs [[97],[120]])):=yG (Cells.new w6 9 #[.string ⟨#[97]⟩,.string ⟨#[120]⟩]);clear hx7 HV6 HB6 HK6;generalize w6.heap.size=g6 at *;generalize w6.alloc (.cells #[.string ⟨#[97]⟩,.string ⟨#[120]⟩] 9)=w7 at *;refine(zJT xA (some ⟨g6,0,none⟩) xc 2 2 2 [[97],[120]] w7 rfl rfl (by decide) HV7.out HS7.out).mono ?_;rintro e w8 ⟨rfl,mq,rfl⟩;have hx8:Ext w7 (w7.drewN mq):=⟨rfl,rfl,rfl,zX _,fun _ _=>rfl⟩;have HX8:=yG (HX7.out.trans hx8);have y3:(w7.drewN mq).cell? ⟨g5,3,none⟩=some (.slice (some ⟨bo,0,none⟩) 13 co):=(HB7.out.ext hx8).cell 3;have k3:(w7.drewN mq).cell? ⟨bo,12,none⟩=some (.int .i64 1):=(hx8.cell (p:=⟨bo,0+12,none⟩) HK7.out.2).trans HK7.out.1;clear hx8;generalize w7.drewN mq=w8 at *
 go_wp2_with fail
 clear y3 k3;refine(zDP [112,114,111,99,32,112,40,41,32,123,32,101,109,105,116,32,120,59,32,125] 70 w8 (HG.out.ext HX8.out) (by decide) zTq (by decide)).mono ?_;rintro e w9 ⟨rfl,hx⟩;have HX9:=yG (HX8.out.trans hx);clear hx
 go_wp2_with fail
 refine(zDP [112,114,111,99,32,112,40,41,32,123,32,105,102,32,49,32,60,32,50,32,123,32,108,101,116,32,120,32,61,32,49,59,32,125,32,101,109,105,116,32,120,59,32,125] 70 w9 (HG.out.ext HX9.out) (by decide) zTh (by decide)).mono ?_;rintro e w10 ⟨rfl,hx⟩;have HX10:=yG (HX9.out.trans hx);clear hx
 go_wp2_with fail
 refine(zDP [116,97,98,108,101,32,116,40,99,44,32,100,41,59,32,112,114,111,99,32,112,40,41,32,123,32,112,117,116,32,116,91,49,93,40,50,41,59,32,125] 72 w10 (HG.out.ext HX10.out) (by decide) zTl (by decide)).mono ?_;rintro e w11 ⟨rfl,hx⟩;have HX11:=yG (HX10.out.trans hx);clear hx
 go_wp2_with fail
 refine(zDP [112,114,111,99,32,112,40,41,32,123,32,105,102,32,49,32,60,32,50,32,123,32,99,104,111,112,59,32,125,32,125] 73 w11 (HG.out.ext HX11.out) (by decide) zTC (by decide)).mono ?_;rintro e w12 ⟨rfl,hx⟩;have HX12:=yG (HX11.out.trans hx);clear hx
 go_wp2_with fail
 go_ret;exact⟨rfl,HX12.out⟩
end Go.Proofs.YtbadjmmjbpeocaaGreatDoor
namespace Go.Proofs.YtbadjmmjbpeocaaGreatDoor
def zIA (t:List Nd)(ks:List (List Int)):Prop:=ks.length=t.length∧∀i,ks.getD i []=(xC t i).kids.map fun (k:Nat)=>(k:Int)
theorem zGF {t:List Nd}{g:Nat→Option Nat}{len:Nat}(hg:∀a e,g a=some e→a<e∧∀j,Sub t a j↔a≤j∧j<e):∀(l:List Nat) (a0 e:Nat),TT.zCS g len (l.map fun (k:Nat)=>(k:Int)) (some a0)=some e →
  a0≤e∧(∀j,(∃k ∈ l,Sub t k j)↔a0≤j∧j<e)∧l.Pairwise (fun a b=>a<b∧∀j,Sub t a j→¬Sub t b j)
 | [],a0,e,h=>by
  injection h with h;subst h;exact⟨zX _,fun j=>⟨fun ⟨k,hk,_⟩=>(by cases hk),fun h=>(by omega)⟩,List.Pairwise.nil⟩
 | k::l,a0,e,h=>by
  rw[List.map_cons,TT.VV] at h
  split at h
  ·rename_i hc;obtain⟨hlt,hk⟩:=hc
   have hk:k=a0:=by omega
   subst hk
   cases ha:g k with
   | none=>rw[ha,TT.zAt] at h; cases h
   | some a1=>
    rw[ha] at h;obtain⟨h1,h2⟩:=hg k a1 ha;obtain⟨r1,r2,r3⟩:=zGF hg l a1 e h;refine⟨by omega,fun j=>⟨fun ⟨x,hx,hs⟩=>?_,fun hj=>?_⟩,List.Pairwise.cons (fun b hb=>?_) r3⟩
    ·rcases List.mem_cons.1 hx with rfl | hx
     ·have:=(h2 j).1 hs; omega
     ·have:=(r2 j).1 ⟨x,hx,hs⟩; omega
    ·by_cases hja:j<a1
     ·exact⟨k,List.mem_cons_self ..,(h2 j).2 ⟨hj.1,hja⟩⟩
     ·obtain⟨x,hx,hs⟩:=(r2 j).2 ⟨by omega,hj.2⟩;exact⟨x,List.mem_cons_of_mem _ hx,hs⟩
    ·have hb':=(r2 b).1 ⟨b,hb,.self b⟩;refine⟨by omega,fun j hs hs'=>?_⟩;have e1:=(h2 j).1 hs;have e2:=(r2 j).1 ⟨b,hb,hs'⟩;omega
  ·cases h
theorem zEk {t:List Nd}{ks:List (List Int)}(hk:zIA t ks):∀(f i e:Nat),TT.zFn ks f i=some e→i<e∧∀j,Sub t i j↔i≤j∧j<e
 | 0,i,e,h=>by cases h
 | f+1,i,e,h=>by
  unfold TT.zFn at h
  split at h
  ·rw[hk.2 i] at h;obtain⟨r1,r2,_⟩:=zGF (fun a e ha=>zEk hk f a e ha) _ _ _ h;refine⟨by omega,fun j=>⟨fun hs=>?_,fun hj=>?_⟩⟩
   ·cases hs with
    | self=>omega
    | kid hm hs=>have:=(r2 j).1 ⟨_,hm,hs⟩; omega
   ·by_cases hji:j=i
    ·subst hji; exact .self j
    ·obtain⟨k,hm,hs⟩:=(r2 j).2 (by omega);exact .kid hm hs
  ·cases h
theorem zNH {t:List Nd}{ks:List (List Int)}(hk:zIA t ks){f i e:Nat}(h:TT.zFn ks f i=some e):(xC t i).kids.Pairwise (fun a b=>a<b∧∀j,Sub t a j→¬Sub t b j):=by
 cases f with
 | zero=>cases h
 | succ f=>
  unfold TT.zFn at h
  split at h
  ·rw[hk.2 i] at h;exact(zGF (fun a e ha=>zEk hk f a e ha) _ _ _ h).2.2
  ·cases h
structure zSF (t:List Nd):Prop where
 flat:∀i,i<t.length→(xC t i).kind=5∨(xC t i).kind=21→(xC t i).kids=[]
 f7:∀i,i<t.length→(xC t i).kind=7→∀a b,(xC t i).kids=[a,b]→(xC t b).kind=5
 f8:∀i,i<t.length→(xC t i).kind=8→∀a b c,(xC t i).kids=[a,b,c]→(xC t b).kind=5
 f11:∀i,i<t.length→(xC t i).kind=11→∀a b,(xC t i).kids=[a,b]→(xC t a).kind=5∧(xC t b).kind=5
 f15:∀i,i<t.length→(xC t i).kind=15→∀a b c,(xC t i).kids=[a,b,c]→(xC t a).kind=21∧(xC t b).kind=21
theorem zUa {t:List Nd}{m:Nn}{F G:Nat→Prop}(c:Nr→Prop) [∀s,Decidable (c s)] (a:Nat)(b:Int)(h:XR t m F G):XR t (fun s=>if c s then m s else .err a b) F G:=fun s s' h1 h2 h3 e=>by
 simp only at e
 split at e
 ·exact h s s' h1 h2 h3 e
 ·cases e
theorem zNG {t:List Nd}{m:Nn}{F G:Nat→Prop}(c:Nr→Prop) [∀s,Decidable (c s)] (a:Nat)(b:Int)(h:XR t m F G):XR t (fun s=>if c s then .err a b else m s) F G:=fun s s' h1 h2 h3 e=>by
 simp only at e
 split at e
 ·cases e
 ·exact h s s' h1 h2 h3 e
theorem XR.zVi {t:List Nd}{m:Nn}{F G:Nat→Prop}(h:XR t m F G)(E:Nat→Prop)(hE:∀j s,E j→zE0 t s j):XR t m F fun j=>G j∨E j:=fun s s' a b c d=>by
 obtain⟨x,y,z⟩:=h s s' a b c d
 exact⟨x,y,fun j hj=>by
  rcases hj with hj | hj
  ·exact z j hj
  ·exact hE j s' hj⟩
theorem zAJ {t:List Nd}{i j:Nat}(h:Sub t i j):j=i∨∃k ∈ (xC t i).kids,Sub t k j:=by
 cases h with
 | self=>exact .inl rfl
 | kid hk h=>exact .inr ⟨_,hk,h⟩
theorem zKj {t:List Nd}(R:VA t):∀(f i:Nat),t.length≤f+i→i<t.length→(zDA (xC t i).kind∨(xC t i).kind=20)→XR t (xX t f i) (Sub t i) (Sub t i)
 | 0,i,h,hi,_=>absurd h (by omega)
 | f+1,i,h,hi,hx=>by
  have hk:∀k ∈ (xC t i).kids,zDA (xC t k).kind∧k<t.length:=by
   rcases hx with hx | hx
   ·exact zTz R hi hx
   ·have hf:=R.form i hi (by omega) (by omega);unfold zAg at hf;rw[hx] at hf;obtain⟨a,ha,hb⟩:=hf;intro k hm;have hu:=R.up i k hm;rw[ha] at hm;rw[List.mem_singleton.1 hm] at hu ⊢;exact⟨hb,hu.2⟩
  have hkids:XR t (vD (xX t f) (xC t i).kids) (Sub t i) fun j=>∃k ∈ (xC t i).kids,Sub t k j:=zCr _ fun k hm=>(zKj R f k (by have:=(R.up i k hm).1; omega) (hk k hm).2 (.inl (hk k hm).1)).mono (fun j hj=>.kid hm hj) fun _ h=>h
  have key:∀ {m:Nn},XR t m (fun j=>j=i) (fun j=>j=i)→XR t (fun s=>(m s).bind (vD (xX t f) (xC t i).kids)) (Sub t i) (Sub t i):=fun {m} hm=>
   (JG (hm.mono (F':=Sub t i) (fun j hj=>by rw[hj]; exact .self i) fun _ h=>h) hkids).mono (fun _ h=>h) fun j hj=>zAJ hj
  have e:xX t (f+1) i=fun s=>((if (xC t i).kind=22 then (match VJ s (xC t i).text with | none=>.err i 70 | some v=>.ok (s.set i v.n))
   else if (xC t i).kind=20 then ofN t i s else .ok s):YQ Nr).bind (vD (xX t f) (xC t i).kids):=by
   funext s
   rfl
  rw[e]
  by_cases h22:(xC t i).kind=22
  ·simp only[if_pos h22];exact key (zRJ hi (by omega))
  ·by_cases h20:(xC t i).kind=20
   ·simp only[if_neg h22,if_pos h20];exact key (zOZ hi (by unfold zDq; omega))
   ·simp only[if_neg h22,if_neg h20];refine key (zIw fun j s hj=>?_);rw[hj];refine zBn ?_ h20
    have:=hx.resolve_right h20
    unfold zDA at this;unfold zDq;omega
theorem zJl {t:List Nd}(R:VA t){st:Nat→Nn}{i:Nat}{top:Bool}(hi:i<t.length)(h6:(xC t i).kind=6)(hst:∀k ∈ (xC t i).kids,7≤(xC t k).kind→(xC t k).kind≤19→XR t (st k) (Sub t k) (Sub t k)) :
  XR t (jN t st i top) (Sub t i) (Sub t i):=by
 have hf:=R.form i hi (by omega) (by omega);unfold zAg at hf;rw[h6] at hf
 have h1:XR t (vD (fun k s=>if (top||(xC t k).kind != 19)=true then st k s else .err k 73) (xC t i).kids) (Sub t i) fun j=>∃k ∈ (xC t i).kids,Sub t k j:=
  zCr _ fun k hm=>(zUa (fun _=>(top||(xC t k).kind != 19)=true) k 73 (hst k hm (hf k hm).1 (hf k hm).2)).mono (fun j hj=>.kid hm hj) fun _ h=>h
 intro s s' a b c d;obtain⟨x,y,z⟩:=zG4 h1 s s' a b c d;refine⟨x,y,fun j hj=>?_⟩
 rcases zAJ hj with rfl | hj
 ·exact zBn (by unfold zDq; omega) (by omega)
 ·exact z j hj
theorem zPQ {t:List Nd}{i:Nat}(hi:i<t.length)(h7:7≤(xC t i).kind∧(xC t i).kind≤19):XR t (ZC t i) (fun j=>j=i) fun j=>j=i∧(xC t i).kind≠15:=by
 have e:ZC t i=fun s=>if (xC t i).kind=7∨(xC t i).kind=11∨(xC t i).kind=16 then ZR t i s else .ok s:=rfl;rw[e]
 by_cases h:(xC t i).kind=7∨(xC t i).kind=11∨(xC t i).kind=16
 ·simp only[if_pos h];exact(zNx hi (by omega)).mono (fun _ h=>h) fun _ h=>h.1
 ·simp only[if_neg h];refine zIw fun j s hj=>?_;obtain⟨rfl,h15⟩:=hj;exact zBn (by unfold zDq; omega) (by omega)
theorem zKv {t:List Nd}(R:VA t)(C:zSF t):∀(f i:Nat),t.length≤f+i→i<t.length→7≤(xC t i).kind→(xC t i).kind≤19→XR t (vF t f i) (Sub t i) (Sub t i)
 | 0,i,h,hi,_,_=>absurd h (by omega)
 | f+1,i,h,hi,h7,h19=>by
  have hup:=R.up i;have hform:=R.form i hi (by omega) (by omega);have hw5:∀ {k j:Nat},k<t.length→(xC t k).kind=5∨(xC t k).kind=21→Sub t k j→j=k:=fun {k j} hk h5 hs=>hs.none (C.flat k hk h5);have hex:∀k ∈ (xC t i).kids,zDA (xC t k).kind∨(xC t k).kind=20→XR t (xX t (f+1) k) (Sub t i) (Sub t k):=fun k hm hx=>(zKj R (f+1) k (by have:=(hup k hm).1; omega) (hup k hm).2 hx).mono (fun j hj=>.kid hm hj) fun _ h=>h;have hofk:∀k ∈ (xC t i).kids,(xC t k).kind=5∨(xC t k).kind=20→XR t (ofN t k) (Sub t i) (fun j=>j=k):=fun k hm hx=>(zOZ (hup k hm).2 (by unfold zDq; omega)).mono (fun j hj=>by rw[hj]; exact .kid hm (.self k)) fun _ h=>h
  have hbl:∀k ∈ (xC t i).kids,(xC t k).kind=6→XR t (jN t (vF t f) k false) (Sub t i) (Sub t k):=fun k hm h6=>
   (zJl R (hup k hm).2 h6 fun x hx a b=>zKv R C f x (by have:=(hup k hm).1; have:=(R.up k x hx).1; omega) (R.up k x hx).2 a b).mono (fun j hj=>.kid hm hj) fun _ h=>h
  have fin:∀ {m:Nn} {G:Nat→Prop},XR t m (Sub t i) G→(∀j,(∃k ∈ (xC t i).kids,Sub t k j)→G j)→((xC t i).kind=15→G i)→XR t (fun s=>(m s).bind (ZC t i)) (Sub t i) (Sub t i):=fun {m G} hm hg h15=>
   (JG hm ((zPQ hi ⟨h7,h19⟩).mono (F':=Sub t i) (fun j hj=>by rw[hj]; exact .self i) fun _ h=>h)).mono (fun _ h=>h) fun j hj=>by
    rcases zAJ hj with rfl | hj
    ·by_cases hk:(xC t j).kind=15
     ·exact .inl (h15 hk)
     ·exact .inr ⟨rfl,hk⟩
    ·exact .inl (hg j hj)
  have e:vF t (f+1) i=fun s=>((if (xC t i).kind=7∨(xC t i).kind=8 then
    (xX t (f+1) (YI t i 0) s).bind fun s=>(ZH t (YI t i 1) (zAO s (YI t i 0)) s).bind (vD (xX t (f+1)) ((xC t i).kids.drop 2))
   else if (xC t i).kind=9 then
    (ofN t (YI t i 0) s).bind fun s=>
     (if (xC t i).kids.length=((s.xH[(zAO s (YI t i 0)).toNat]?).map fun x=>x.zA0.length).getD 0+1 then YQ.ok (s.set i (zAO s (YI t i 0))) else .err i 72).bind
      (vD (xX t (f+1)) (xC t i).kids)
   else if (xC t i).kind=11 then (ofN t (YI t i 0) s).bind fun s=>ZH t (YI t i 1) (zAO s (YI t i 0)) s
   else if (xC t i).kind=15 then
    (if (VJ s (xC t i).text).isSome=true then .err i 71
     else jQ (fun s=>(vT t i true s).bind (jN t (vF t f) (YI t i 2) false)) s)
   else vD (fun k s=>if (xC t k).kind=5 then ofN t k s else if (xC t k).kind=6 then jN t (vF t f) k false s else xX t (f+1) k s) (xC t i).kids s):YQ Nr).bind (ZC t i):=by
   funext s
   rw[vF]
  rw[e]
  have hcol:∀k ∈ (xC t i).kids,(xC t k).kind=5→∀y:Nat,XR t (fun s=>ZH t k (zAO s y) s) (Sub t i) (fun j=>j=k):=fun k hm h5 y s s' a b c d=>
   ((zMy (x:=zAO s y) (hup k hm).2 (by unfold zDq; omega) (by omega)).mono (F':=Sub t i) (fun j hj=>by rw[hj]; exact .kid hm (.self k)) fun _ h=>h) s s' a b c d
  by_cases c78:(xC t i).kind=7∨(xC t i).kind=8
  ·simp only[if_pos c78]
   have hk:∃a b l,(xC t i).kids=a::b::l∧(xC t a).kind=20∧(xC t b).kind=5∧∀k ∈ l,zDA (xC t k).kind:=by
    unfold zAg at hform
    rcases c78 with hk | hk
    ·rw[hk] at hform;obtain⟨a,b,h1,h2⟩:=hform;exact⟨a,b,[],h1,h2,C.f7 i hi hk a b h1,fun k hk=>by cases hk⟩
    ·rw[hk] at hform;obtain⟨a,b,c,h1,h2,h3⟩:=hform;exact⟨a,b,[c],h1,h2,C.f8 i hi hk a b c h1,fun k hk=>by rw[List.mem_singleton.1 hk]; exact h3⟩
   obtain⟨a,b,l,hkk,ha,hb,hl⟩:=hk
   have k0:YI t i 0=a:=by unfold YI; rw[hkk]; rfl
   have k1:YI t i 1=b:=by unfold YI; rw[hkk]; rfl
   rw[k0,k1]
   have hma:a ∈ (xC t i).kids:=by rw[hkk]; simp
   have hmb:b ∈ (xC t i).kids:=by rw[hkk]; simp
   have hd:(xC t i).kids.drop 2=l:=by rw[hkk]; rfl
   rw[hd]
   have hml:∀k ∈ l,k ∈ (xC t i).kids:=fun k hk=>by rw[hkk]; exact List.mem_cons_of_mem _ (List.mem_cons_of_mem _ hk)
   refine fin (JG (hex a hma (.inr ha)) (JG (hcol b hmb hb a) (zCr l fun k hk=>hex k (hml k hk) (.inl (hl k hk))))) (fun j hj=>?_) (fun h15=>by omega);obtain⟨k,hk,hs⟩:=hj;rw[hkk] at hk
   rcases List.mem_cons.1 hk with rfl | hk
   ·exact .inl hs
   ·rcases List.mem_cons.1 hk with rfl | hk
    ·exact .inr (.inl (hw5 (hup k hmb).2 (.inl hb) hs))
    ·exact .inr (.inr ⟨k,hk,hs⟩)
  ·simp only[if_neg c78]
   by_cases c9:(xC t i).kind=9
   ·simp only[if_pos c9];have hf:=hform;unfold zAg at hf;rw[c9] at hf;obtain⟨a,l,hkk,ha,hl⟩:=hf
    have k0:YI t i 0=a:=by unfold YI; rw[hkk]; rfl
    rw[k0]
    have hma:a ∈ (xC t i).kids:=by rw[hkk]; simp
    have hall:∀k ∈ (xC t i).kids,zDA (xC t k).kind∨(xC t k).kind=20:=fun k hk=>by
     rw[hkk] at hk
     rcases List.mem_cons.1 hk with rfl | hk
     ·exact .inr ha
     ·exact .inl (hl k hk)
    have hset:XR t (fun s=>(if (xC t i).kids.length=((s.xH[(zAO s a).toNat]?).map fun x=>x.zA0.length).getD 0+1 then YQ.ok (s.set i (zAO s a)) else .err i 72)) (Sub t i) (fun j=>j=i):=fun s s' h1 h2 h3 e=>by
     simp only at e
     split at e
     ·injection e with e;subst e;obtain⟨x,y,z⟩:=zEG (t:=t) i hi (zAO s a) h1 h2 h3 ⟨fun hv=>absurd hv (by unfold zDq; omega),fun hv=>by omega⟩;exact⟨x.mono fun j hj=>by rw[hj]; exact .self i,y,z⟩
     ·cases e
    exact fin (JG (hofk a hma (.inr ha)) (JG hset (zCr _ fun k hk=>hex k hk (hall k hk)))) (fun j hj=>.inr (.inr hj)) (fun h15=>by omega)
   ·simp only[if_neg c9]
    by_cases c11:(xC t i).kind=11
    ·simp only[if_pos c11];have hf:=hform;unfold zAg at hf;rw[c11] at hf;obtain⟨a,b,hkk⟩:=hf;obtain⟨ha,hb⟩:=C.f11 i hi c11 a b hkk
     have k0:YI t i 0=a:=by unfold YI; rw[hkk]; rfl
     have k1:YI t i 1=b:=by unfold YI; rw[hkk]; rfl
     rw[k0,k1]
     have hma:a ∈ (xC t i).kids:=by rw[hkk]; simp
     have hmb:b ∈ (xC t i).kids:=by rw[hkk]; simp
     refine fin (JG (hofk a hma (.inl ha)) (hcol b hmb hb a)) (fun j hj=>?_) (fun h15=>by omega);obtain⟨k,hk,hs⟩:=hj;rw[hkk] at hk
     rcases List.mem_cons.1 hk with rfl | hk
     ·exact .inl (hw5 (hup k hma).2 (.inl ha) hs)
     ·rw[List.mem_singleton.1 hk] at hs;exact .inr (hw5 (hup b hmb).2 (.inl hb) hs)
    ·simp only[if_neg c11]
     by_cases c15:(xC t i).kind=15
     ·simp only[if_pos c15];have hf:=hform;unfold zAg at hf;rw[c15] at hf;obtain⟨a,b,c,hkk,hc⟩:=hf;obtain⟨ha,hb⟩:=C.f15 i hi c15 a b c hkk
      have k2:YI t i 2=c:=by unfold YI; rw[hkk]; rfl
      rw[k2]
      have hma:a ∈ (xC t i).kids:=by rw[hkk]; simp
      have hmb:b ∈ (xC t i).kids:=by rw[hkk]; simp
      have hmc:c ∈ (xC t i).kids:=by rw[hkk]; simp
      have hin:XR t (fun s=>(vT t i true s).bind (jN t (vF t f) c false)) (Sub t i) fun j=>j=i∨Sub t c j:=
       JG ((zDz hi (by omega)).mono (F':=Sub t i) (fun j hj=>by rw[hj]; exact .self i) fun _ h=>h) (hbl c hmc hc)
      have hua:=(hup a hma).2;have hub:=(hup b hmb).2;refine fin (XR.zVi (zNG (fun s=>(VJ s (xC t i).text).isSome=true) i 71 (zG4 hin)) (fun j=>j=a∨j=b) fun j s hj=>?_) (fun j hj=>?_) (fun _=>.inl (.inl rfl))
      ·rcases hj with rfl | rfl
       ·exact zBn (by unfold zDq; omega) (by omega)
       ·exact zBn (by unfold zDq; omega) (by omega)
      ·obtain⟨k,hk,hs⟩:=hj;rw[hkk] at hk
       rcases List.mem_cons.1 hk with rfl | hk
       ·exact .inr (.inl (hw5 hua (.inr ha) hs))
       ·rcases List.mem_cons.1 hk with rfl | hk
        ·exact .inr (.inr (hw5 hub (.inr hb) hs))
        ·rw[List.mem_singleton.1 hk] at hs;exact .inl (.inr hs)
     ·simp only[if_neg c15]
      have hall:∀k ∈ (xC t i).kids,(xC t k).kind=5∨(xC t k).kind=6∨zDA (xC t k).kind∨(xC t k).kind=20:=by
       intro k hk;have hf:=hform;unfold zAg at hf
       have hcs:(xC t i).kind=10∨(xC t i).kind=12∨(xC t i).kind=13∨(xC t i).kind=14∨(xC t i).kind=16∨(xC t i).kind=17∨(xC t i).kind=18∨(xC t i).kind=19:=by omega
       rcases hcs with hx | hx | hx | hx | hx | hx | hx | hx <;> rw[hx] at hf
       ·obtain⟨a,h1,h2⟩:=hf;rw[h1] at hk; rw[List.mem_singleton.1 hk]; exact .inr (.inr (.inr h2))
       ·obtain⟨a,h1,h2⟩:=hf;rw[h1] at hk; rw[List.mem_singleton.1 hk]
        rcases h2 with h2 | h2
        ·exact .inl h2
        ·exact .inr (.inr (.inr h2))
       ·obtain⟨a,h1,h2⟩:=hf;rw[h1] at hk; rw[List.mem_singleton.1 hk]
        rcases h2 with h2 | h2
        ·exact .inl h2
        ·exact .inr (.inr (.inr h2))
       ·obtain⟨a,b,l,h1,h2,h3,h4⟩:=hf;rw[h1] at hk
        rcases List.mem_cons.1 hk with rfl | hk
        ·exact .inr (.inr (.inl h2))
        ·rcases List.mem_cons.1 hk with rfl | hk
         ·exact .inr (.inr (.inl h3))
         ·exact .inr (.inl (h4 k hk))
       ·obtain⟨a,h1,h2⟩:=hf;rw[h1] at hk; rw[List.mem_singleton.1 hk]; exact .inr (.inr (.inl h2))
       ·obtain⟨a,h1,h2⟩:=hf;rw[h1] at hk; rw[List.mem_singleton.1 hk]; exact .inr (.inr (.inl h2))
       ·have h1:(xC t i).kids=[]:=hf;rw[h1] at hk; cases hk
       ·have h1:(xC t i).kids=[]:=hf;rw[h1] at hk; cases hk
      refine fin (G:=fun j=>∃k ∈ (xC t i).kids,Sub t k j) (zCr _ fun k hk=>?_) (fun j hj=>hj) (fun h15=>absurd h15 c15)
      by_cases d5:(xC t k).kind=5
      ·simp only[if_pos d5];exact(hofk k hk (.inl d5)).mono (fun _ h=>h) fun j hj=>hw5 (hup k hk).2 (.inl d5) hj
      ·by_cases d6:(xC t k).kind=6
       ·simp only[if_neg d5,if_pos d6];exact hbl k hk d6
       ·simp only[if_neg d5,if_neg d6];exact hex k hk (by rcases hall k hk with h | h | h | h; exact absurd h d5; exact absurd h d6; exact .inl h; exact .inr h)
theorem zG0 {t:List Nd}:∀(l:List Nat),(∀k ∈ l,k<t.length∧(xC t k).kind≠20)→XR t (ZP t l) (fun j=>j ∈ l) (fun j=>j ∈ l)
 | [],_=>by
  have e:ZP t []=YQ.ok:=by funext s; rfl
  rw[e]
  exact zIw fun j s h=>by cases h
 | k::l,h=>by
  have e:ZP t (k::l)=fun s=>if (VJ s (xC t k).text).isSome=true then .err k 71 else (vT t k false s).bind (ZP t l):=by funext s; rfl
  rw[e];refine(zNG (fun s=>(VJ s (xC t k).text).isSome=true) k 71 (JG ((zDz (h k (List.mem_cons_self ..)).1 (h k (List.mem_cons_self ..)).2).mono (F':=fun j=>j ∈ k::l) (fun j hj=>by rw[hj]; exact List.mem_cons_self ..) fun _ h=>h) ((zG0 l fun x hx=>h x (List.mem_cons_of_mem _ hx)).mono (fun j hj=>List.mem_cons_of_mem _ hj) fun _ h=>h))).mono (fun _ h=>h) fun j hj=>?_
  rcases List.mem_cons.1 hj with rfl | hj
  ·exact .inl rfl
  ·exact .inr hj
def zFS (t:List Nd)(p j:Nat):Prop:=∃k ∈ (xC t p).kids,Sub t k j
structure zO6 (t:List Nd):Prop where
 two:∀i,i<t.length→(xC t i).kind=3→∃a b,(xC t i).kids=[a,b]∧(xC t a).kind=4∧(xC t b).kind=6
 words:∀i,i<t.length→(xC t i).kind=4→∀k ∈ (xC t i).kids,(xC t k).kind=5
structure zO4 (t:List Nd)(s:Nr)(p:Np):Prop where
 few:p.vars.length≤64
 names:∀i,zFS t p.root i→zBR t { s with vars:=p.vars } i (s.of.getD i (-1))
theorem zTI {t:List Nd}(R:VA t)(C:zSF t)(P:zO6 t){s s':Nr}{j:Nat}{p:Np}(hp:s.procs[j]?=some p)(hr:p.root<t.length)(h3:(xC t p.root).kind=3)(hb:s.blocks=[])(hl:s.of.length=t.length)(h:zFO t j s=.ok s') :
  ∃q,s'.procs=s.procs.set j q∧q.root=p.root∧q.name=p.name∧s'.xH=s.xH∧s'.blocks=[]∧s'.of.length=t.length∧zO4 t s' q∧∀i,¬zFS t p.root i→s'.of.getD i (-1)=s.of.getD i (-1):=by
 unfold zFO at h;rw[hp] at h
 simp only at h
 obtain⟨x,e1,e2⟩:=ZA h;injection e2 with e2;unfold jQ at e1;obtain⟨y,f1,f2⟩:=ZA e1;injection f2 with f2;obtain⟨a,b,hkk,ha,hb6⟩:=P.two _ hr h3
 have k0:YI t p.root 0=a:=by unfold YI; rw[hkk]; rfl
 have k1:YI t p.root 1=b:=by unfold YI; rw[hkk]; rfl
 rw[k0,k1] at f1
 have hma:a ∈ (xC t p.root).kids:=by rw[hkk]; simp
 have hmb:b ∈ (xC t p.root).kids:=by rw[hkk]; simp
 have hal:=(R.up _ a hma).2;have hbl:=(R.up _ b hmb).2;have hwords:=P.words a hal ha
 have hD:XR t (fun s=>(ZP t (xC t a).kids s).bind (jN t (vF t t.length) b true)) (zFS t p.root) fun j=>j ∈ (xC t a).kids∨Sub t b j:=
  JG ((zG0 _ fun k hk=>⟨(R.up a k hk).2,by rw[hwords k hk]; decide⟩).mono (F':=zFS t p.root) (fun j hj=>⟨a,hma,.kid hj (.self j)⟩) fun _ h=>h)
   ((zJl R hbl hb6 fun k hk h7 h19=>zKv R C t.length k (by omega) (R.up b k hk).2 h7 h19).mono (fun j hj=>⟨b,hmb,hj⟩) fun _ h=>h)
 obtain⟨st,ke,va⟩:=hD (⟨s.xH,s.procs,s.of,[],[]::s.blocks⟩:Nr) y ⟨zW _,fun c hc v hv=>(by
  rcases List.mem_cons.1 hc with rfl | hc
  ·cases hv
  ·rw[hb] at hc
   cases hc)⟩ (by simp) hl f1
 obtain⟨n,c,rest,g1,g2⟩:=ke.blocks;injection g1 with g1 g3;subst g1
 have g3:rest=[]:=by rw[←g3]; exact hb
 subst g3
 have hxo:x.of=y.of:=by rw[←f2]
 have hxt:x.xH=y.xH:=by rw[←f2]
 have hxv:x.vars=y.vars:=by rw[←f2]
 have hxp:x.procs=y.procs:=by rw[←f2]
 have hxb:x.blocks=[]:=by rw[←f2]; show y.blocks.tail=[]; rw[g2]; rfl
 have hso:s'.of=y.of:=by rw[←e2,←hxo]
 have hst:s'.xH=y.xH:=by rw[←e2,←hxt]
 refine⟨{ p with params:=(xC t a).kids.length,vars:=x.vars },?_,rfl,rfl,hst.trans st.xH,by rw[←e2]; exact hxb,by rw[hso]; exact st.len.trans hl,⟨by show x.vars.length≤64; rw[hxv]; exact st.inn.few,fun i hi=>?_⟩,fun i hi=>by rw[hso]; exact st.fr i hi⟩
 ·rw[←e2,k0]
  show x.procs.set j _=_
  rw[hxp,st.procs]
 ·have hval:∀z,zE0 t y z→zBR t { s' with vars:=x.vars } z (s'.of.getD z (-1)):=fun z hz=>by
   rw[hso];exact zBR.up hz hst ⟨[],by simp[hxv]⟩
  refine hval i ?_;obtain⟨k,hk,hs⟩:=hi;rw[hkk] at hk
  rcases List.mem_cons.1 hk with rfl | hk
  ·rcases zAJ hs with rfl | ⟨z,hz,hs⟩
   ·exact zBn (by unfold zDq; omega) (by omega)
   ·have h5:=hwords z hz;rw[hs.none (C.flat z (R.up k z hz).2 (.inl h5))];exact va z (.inl hz)
  ·rw[List.mem_singleton.1 hk] at hs;exact va i (.inr hs)
def zNW (t:List Nd)(l:List Np):Prop:=∀(a b:Nat) (p q:Np),l[a]?=some p→l[b]?=some q→a≠b→∀i,zFS t p.root i→¬zFS t q.root i
theorem zJW {t:List Nd}(R:VA t)(C:zSF t)(P:zO6 t):∀(f j:Nat) (s s':Nr),s.procs.length≤f+j→s.blocks=[]→s.of.length=t.length→(∀p ∈ s.procs,p.root<t.length∧(xC t p.root).kind=3)→zNW t s.procs →
  (∀k p,k<j→s.procs[k]?=some p→zO4 t s p)→JX t f j s=.ok s' →
  s'.of.length=t.length∧s'.xH=s.xH∧s'.procs.map (fun p=>(p.name,p.root))=s.procs.map (fun p=>(p.name,p.root))∧(∀p ∈ s'.procs,zO4 t s' p)∧∀i,(∀p ∈ s.procs,¬zFS t p.root i)→s'.of.getD i (-1)=s.of.getD i (-1)
 | 0,j,s,s',hf,hb,hl,hr,hA,hv,h=>by
  injection h with h;subst h;exact⟨hl,rfl,rfl,fun p hp=>by obtain⟨k,hk,rfl⟩:=List.getElem_of_mem hp; exact hv k _ (by omega) (yJ hk),fun _ _=>rfl⟩
 | f+1,j,s,s',hf,hb,hl,hr,hA,hv,h=>by
  unfold JX at h
  split at h
  ·rename_i hj;obtain⟨x,e1,e2⟩:=ZA h;have hpj:=yJ hj;obtain⟨q,h1,h2,h3,h4,h5,h6,h7,h8⟩:=zTI R C P hpj (hr _ (yO hj)).1 (hr _ (yO hj)).2 hb hl e1
   have hlen:x.procs.length=s.procs.length:=by rw[h1,zB]
   have hmap:x.procs.map (fun p:Np=>(p.name,p.root))=s.procs.map (fun p:Np=>(p.name,p.root)):=by
    apply List.ext_getElem?;intro k;rw[h1,zN,zN,List.getElem?_set]
    by_cases hk:j=k
    ·subst hk;simp[hj,h2,h3]
    ·rw[if_neg hk]
   have hroot:∀(k:Nat) (p:Np),x.procs[k]?=some p→∃p':Np,s.procs[k]?=some p'∧p'.root=p.root:=fun k p hp=>by
    have e:(x.procs.map (fun p:Np=>(p.name,p.root)))[k]?=some (p.name,p.root):=by rw[zN,hp]; rfl
    rw[hmap,zN] at e
    cases hs:s.procs[k]? with
    | none=>rw[hs] at e; cases e
    | some p'=>rw[hs] at e; simp at e; exact⟨p',rfl,e.2⟩
   have hrx:∀p ∈ x.procs,p.root<t.length∧(xC t p.root).kind=3:=fun p hp=>by
    obtain⟨k,hk,rfl⟩:=List.getElem_of_mem hp;obtain⟨p',h9,h10⟩:=hroot k _ (yJ hk);rw[←h10];exact hr p' (yB h9)
   have hAx:zNW t x.procs:=fun a b p q' ha hb' hab i=>by
    obtain⟨p1,h9,h10⟩:=hroot a p ha;obtain⟨q1,h11,h12⟩:=hroot b q' hb';rw[←h10,←h12];exact hA a b p1 q1 h9 h11 hab i
   obtain⟨r1,r2,r3,r4,r5⟩:=zJW R C P f (j+1) x s' (by omega) h5 h6 hrx hAx (fun k p hk hp=>by
    by_cases hkj:k=j
    ·subst hkj;rw[h1,List.getElem?_set_self hj] at hp;injection hp with hp;subst hp;exact h7
    ·rw[h1,List.getElem?_set_ne (Ne.symm hkj)] at hp;have hold:=hv k p (by omega) hp;refine⟨hold.few,fun i hi=>?_⟩;rw[h8 i fun hi'=>hA k j p _ hp hpj hkj i hi hi']
     exact zBR.up (hold.names i hi) h4 ⟨[],by simp⟩) e2
   refine⟨r1,r2.trans h4,r3.trans hmap,r4,fun i hi=>?_⟩;rw[r5 i fun p hp=>?_,h8 i (hi _ (yO hj))];obtain⟨k,hk,rfl⟩:=List.getElem_of_mem hp;obtain⟨p',h9,h10⟩:=hroot k _ (yJ hk);rw[←h10];exact hi p' (yB h9)
  ·rename_i hj;injection h with h;subst h;exact⟨hl,rfl,rfl,fun p hp=>by obtain⟨k,hk,rfl⟩:=List.getElem_of_mem hp; exact hv k _ (by omega) (yJ hk),fun _ _=>rfl⟩
end Go.Proofs.YtbadjmmjbpeocaaGreatDoor
