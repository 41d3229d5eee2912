/- interlocklaw05.ParseRight, walked, at sources of which a closed look says that their trees are right. (and what follows of it). The conditions stand at each lemma. -/
import Derived.Test.YtioffpjajhalaaaGreatDoorKaa
import Derived.Test.YtioffpjajhalaaaGreatDoorKau
import Derived.Test.YtioffpjajhalaaaGreatDoorKay
import Derived.Deep.AppendSrc
import Derived.Test.YtioffpjajhalaaaGreatDoorKaq
set_option linter.unusedVariables false
set_option linter.unusedSimpArgs false
set_option maxRecDepth 100000
set_option maxHeartbeats 16000000
namespace Go.Proofs.YtioffpjajhalaaaGreatDoor
open Go Go.RowKit
def zDP (x:Nd × Hd2):TT.vI:=⟨x.1.kind,x.1.pos,xE x.1.text,x.1.num,x.2.1,x.2.2,x.1.kids.map fun (k:Nat)=>(k:Int)⟩
def zHk (n:Nd):TT.vI:=zDP (n,(none,0))
theorem zSt {w:World}{B:Nat}{t:TypeId}{s n m c:Nat}{A:Option Addr}{xs:List Value}(h:w.ownsRow B t s (.slice A m c) n xs):A=none→c=0:=fun e=>by
 subst e
 rcases h.2 with ⟨hv,_⟩ | ⟨g,_,_,hv,_⟩
 ·injection hv
 ·injection hv with h1; cases h1
theorem zUO {w:World}{B:Nat}{A:Option Addr}{c:Nat}{nh:List (Nd × Hd2)}(h:NS w B 48 3 A c nh)(hk:∀x ∈ nh,x.1.kind<256 ∧ -9223372036854775808≤x.1.num∧x.1.num≤9223372036854775807):TT.VZ w A (nh.map zDP):=by
 refine⟨?_,fun x hx=>?_⟩
 ·have e:TT.zA8 (nh.map zDP)=ncs nh:=by
   unfold TT.zA8 ncs;rw[List.flatMap_map]
   congr 1
   funext x
   simp[zDP,TT.vI.cells,jL]
  rw[e];exact Cells.own h.row
 ·obtain⟨y,hy,rfl⟩:=List.mem_map.1 hx;obtain⟨h1,h2,h3⟩:=hk y hy;refine⟨⟨Int.natCast_nonneg _,by show((y.1.kind:Nat):Int)<256; omega⟩,⟨h2,h3⟩,?_,zSt (h.kids y hy)⟩
  have:=Cells.own (h.kids y hy)
  rw[show ints y.1.kids=TT.vB (y.1.kids.map fun (k:Nat)=>(k:Int)) by simp[ints,TT.vB]] at this;exact this
theorem zUW (nh:List (Nd × Hd2)):TT.zBG (nh.map zDP)=TT.zBG ((nh.map Prod.fst).map zHk):=by simp[TT.zBG,zHk,zDP,Function.comp_def]
theorem zU0 (nh:List (Nd × Hd2)):TT.zJZ (nh.map zDP)=TT.zJZ ((nh.map Prod.fst).map zHk):=by simp[TT.zJZ,zHk,zDP,Function.comp_def]
theorem zPo (nh:List (Nd × Hd2)):TT.zA9 (nh.map zDP)=TT.zA9 ((nh.map Prod.fst).map zHk):=by
 have AA:TT.zDZ (nh.map zDP)=TT.zDZ ((nh.map Prod.fst).map zHk):=by
  funext k
  unfold TT.zDZ;rw[zM,zM,zM]
  cases nh[k.toNat]? <;> rfl
 have AB:∀x:Nd × Hd2,TT.zCF (nh.map zDP) (zDP x)=TT.zCF ((nh.map Prod.fst).map zHk) (zHk x.1):=fun x=>by
  unfold TT.zCF TT.XL;rw[AA]
  rfl
 unfold TT.zA9;rw[zUW,AA,List.all_map,List.all_map,List.all_map]
 congr 2
 congr 1
 funext x
 exact AB x
theorem zUv (nh:List (Nd × Hd2)):TT.zGt (nh.map zDP)=TT.zGt ((nh.map Prod.fst).map zHk):=by
 unfold TT.zGt;rw[zPo,zUW,zU0]
def prB (src:Bs):Bool:=decide (src.length≤1000)&&match jU src,XS src with
 | .ok y,.ok ts=>TT.zA9 (y.map zHk)&&(decide (TT.zGt (y.map zHk)≤ts.length)&&(decide (ts.length≤9000)&&(decide (y.length≤9000)&&(y.all fun n=>decide (n.kind<256)&&(decide (0≤n.num)&&(decide (n.num≤2147483647)&&(decide (n.text.length≤9000)&&(decide (n.kids.length≤9000)&&ts.any fun t=>t.at_==n.pos))))))))
 | .err _ _,_=>true
 | _,_=>false
theorem zTd {src:Bs}(h:prB src=true):src.length≤1000:=by
 unfold prB at h;rw[zF,zE] at h;exact h.1
theorem zUk {src:Bs}{y:List Nd}(h:prB src=true)(hy:jU src=.ok y):∃ts,XS src=.ok ts∧TT.zA9 (y.map zHk)=true∧TT.zGt (y.map zHk)≤ts.length∧ts.length≤9000∧y.length≤9000∧∀n ∈ y,n.kind<256∧0≤n.num∧n.num≤2147483647∧n.text.length≤9000∧n.kids.length≤9000∧(ts.any fun t=>t.at_==n.pos)=true:=by
 unfold prB at h;rw[zF,hy] at h;obtain⟨_,h⟩:=h
 cases hl:XS src with
 | err a e=>rw[hl] at h; cases h
 | ok ts=>
  rw[hl] at h;simp only[zF,zE,zG] at h;exact⟨ts,rfl,h.1,h.2.1,h.2.2.1,h.2.2.2.1,fun n hn=>h.2.2.2.2 n hn⟩
theorem zLl (w:World)(n:Nat):Ext w (w.drewN n):=⟨rfl,rfl,rfl,zU _,fun _ _=>rfl⟩
theorem zSJ {α:Type}(f:α→Bool)(l:List α)(k:Nat)(hk:k<l.length):(l.take (k+1)).any f=((l.take k).any f||f l[k]):=by
 rw[zW hk,List.any_append]
 simp
theorem zFB (A:Option Addr)(l:Bs)(n c:Nat)(w:World)(hG:GT w)(hn:n=l.length)(hcap:l.length≤c)(hnil:A=none→c=0)(h:Cells w A (xL l))(hb:prB l=true) :
  Calls Tryz.prog 12 #[.slice A n c] w fun e w'=>e=.returned (.bool true)∧Ext w w':=by
 subst hn;have HG:=yE hG;have HC:=yE h;have HB:=yE hb;have hl:=zTd hb;clear hG h hb;have d0:decide ((l.length:Int) > 1000)=false:=yP (by omega);have d1:decide ((1000:Int)<(l.length:Int))=false:=d0;have d2:decide (1000<l.length)=false:=yP (by omega)
 cases hr:jU l with
 | err a er=>
  have HR:=yE hr;clear hr
  go_enter Tryz.func12,Tryz.ntmps12
  go_wp2_with fail
  refine(zBq A l l.length c w rfl (by omega) hcap hnil HC.out a er HR.out).mono ?_;rintro e w2 ⟨g2,rfl,_,_,AC⟩;have AF:=yE AC;clear AC
  go_upto_region 4 with fail
  have AA:=yE (AF.out.trans (Ext.alloc w2 (.cells #[.slice none 0 0] 39)));have AJ:=yE (Blk.new w2 39 #[.slice none 0 0]);generalize w2.heap.size=g3 at *;generalize w2.alloc (.cells #[.slice none 0 0] 39)=w3 at *;have y0:w3.cell? ⟨g3,0,none⟩=some (.slice none 0 0):=AJ.out.cell 0
  go_wp2_with fail
  refine(YM w3 (HG.out.ext AA.out)).mono ?_;rintro e w' ⟨rfl,hx⟩
  go_wp2_with fail
  go_ret;exact⟨rfl,AA.out.trans hx⟩
 | ok y=>
  obtain⟨ts,AT,h1,h2,h3,h4,h5⟩:=zUk HB.out hr;have HR:=yE hr;have As:=yE AT;have Ai:=yE h5;have Ao:=yE h1;have Aq:=yE h2;clear hr AT h5 h1 h2 HB
  go_enter Tryz.func12,Tryz.ntmps12
  go_wp2_with fail
  refine(zCQ A l l.length c w rfl (by omega) hcap hnil HC.out y HR.out).mono ?_;rintro e w2 ⟨A2,c2,nh,rfl,An,Ae,AC⟩;subst An;have AK:Hid (∀x ∈ nh,x.1.kind<256∧0≤x.1.num∧x.1.num≤2147483647∧x.1.text.length≤9000∧x.1.kids.length≤9000∧(ts.any fun t=>t.at_==x.1.pos)=true):=yE fun x hx=>Ai.out _ (List.mem_map.2 ⟨x,hx,rfl⟩);have AZ:=yE (zUO Ae fun x hx=>by obtain⟨a1,a2,a3,_⟩:=AK.out x hx; omega);have AF:=yE AC
  have Aj:Hid (∀x ∈ nh.map zDP,TT.zOT x):=yE fun x hx=>by
   obtain⟨u,hu,rfl⟩:=List.mem_map.1 hx;obtain⟨_,_,_,a4,a5,_⟩:=AK.out u hu;refine⟨?_,?_⟩
   ·show(xE u.1.text).size≤9000
    have:(xE u.1.text).size=u.1.text.length:=by simp[xE,ByteArray.size]
    omega
   ·show(u.1.kids.map fun (k:Nat)=>(k:Int)).length≤9000
    rw[yO];omega
  have AI:Hid (nh.length=(nh.map zDP).length∧(nh.map zDP).length≤9000):=yE ⟨by rw[yO],by rw[yO]; rw[yO] at h4; exact h4⟩
  have Au:nh.length≤9000:=by rw[yO] at h4; exact h4
  clear AC Ae h4 Ai
  go_upto_region 4 with fail
  have AP:Ext w2 (w2.alloc (.cells #[.slice A2 nh.length c2] 39)):=Ext.alloc _ _;have AA:=yE (AF.out.trans AP);have AQ:=yE (AZ.out.ext AP);have AJ:=yE (Blk.new w2 39 #[.slice A2 nh.length c2]);clear AP AF AZ;generalize w2.heap.size=g3 at *;generalize w2.alloc (.cells #[.slice A2 nh.length c2] 39)=w3 at *
  go_wp2_with fail
  refine(zDV A l l.length c w3 rfl (by omega) hcap hnil (HC.out.ext AA.out)).mono ?_;rw[As.out];rintro e w4 ⟨AH,A4,c4,rfl,_,Af⟩;have Ag:=yE (AA.out.trans AH);have AX:=yE (Cells.own Af);have AN:=yE (AQ.out.ext AH);have AM:=yE (AJ.out.ext AH);clear AH Af AA AQ AJ;have y0:w4.cell? ⟨g3,0,none⟩=some (.slice A2 nh.length c2):=AM.out.cell 0
  go_wp2_with fail
  refine(TT.zK0 (nh.map zDP) A2 nh.length c2 w4 AI.out.1 AN.out AI.out.2 Aj.out true (yE (by rw[zPo]; exact Ao.out))).mono ?_;rintro e w5 ⟨rfl,AD⟩;have AU:=yE (Ag.out.trans AD);have AS:=yE (AX.out.ext AD);have AO:=yE (AN.out.ext AD);have AL:=yE (AM.out.ext AD);clear AD y0 Ag AX AN AM;have y0:w5.cell? ⟨g3,0,none⟩=some (.slice A2 nh.length c2):=AL.out.cell 0;obtain⟨r,AV⟩:∃r,Hid (TT.zGt (nh.map zDP)=r):=⟨_,yE rfl⟩
  have Ak:r≤ts.length:=by rw[←AV.out,zUv]; exact Aq.out
  have e1:decide (r > (ts.length:Int))=false:=yP (by omega);have e2:decide ((ts.length:Int)<r)=false:=e1
  go_wp2_with fail
  refine(TT.zRk (nh.map zDP) A2 nh.length c2 w5 AI.out.1 AO.out AI.out.2 Aj.out r AV).mono ?_;rintro e w6 ⟨rfl,AE⟩;have Ad:=yE (AU.out.trans AE);have Ap:=yE (AS.out.ext AE);have Ar:=yE (AO.out.ext AE);have AW:=yE (AL.out.ext AE);clear AE y0 AU AS AO AL
  go_wp2_with fail
  clear e1 e2 Ak d0 d1 d2
  go_loopw [7] (fun i' wr=>∃i:Nat,i≤nh.length∧i'=.int .i64 i∧Hid (Ext w6 wr)) (fun i' _=>nh.length-(intOf i').toNat)
  case atStart=>exact⟨0,zT _,rfl,yE (Ext.refl _)⟩
  case round=>
   obtain⟨i,hi,rfl,AG⟩:=hrel;obtain⟨w7,rfl⟩:∃w7:World,w7=wr:=⟨_,rfl⟩;have y0:w7.cell? ⟨g3,0,none⟩=some (.slice A2 nh.length c2):=(AW.out.ext AG.out).cell 0
   by_cases AY:i<nh.length
   rotate_left
   ·obtain rfl:i=nh.length:=by omega
    have d0:decide ((nh.length:Int)<(nh.length:Int))=false:=by simp
    have d1:decide (nh.length<nh.length)=false:=by simp
    go_wp2_with fail
    refine(YM w7 (HG.out.ext (Ad.out.trans AG.out))).mono ?_;rintro e w' ⟨rfl,hx⟩
    go_wp2_with fail
    go_ret;exact⟨rfl,Ad.out.trans (AG.out.trans hx)⟩
   have d0:decide ((i:Int)<(nh.length:Int))=true:=yQ (by omega)
   have q0:(i:Int)<(nh.length:Int):=by omega
   have AR:i<(nh.map zDP).length:=by rw[yO]; exact AY
   obtain⟨tb,tf,hA,_,hc⟩:=Ar.out.at_ i AR;subst hA;obtain⟨p,Aa⟩:∃p:Nat,Hid (nh[i].1.pos=p):=⟨_,yE rfl⟩;have Am:Hid ((ts.any fun t=>t.at_==p)=true):=yE (by rw[←Aa.out]; exact(AK.out _ (yM AY)).2.2.2.2.2)
   have HV:Hid (w6.cell? ⟨tb,tf+i*5+1,none⟩=some (.int .i64 (p:Int))∧tb<w6.heap.size):=yE ⟨by
    rw[hc 1 (by decide),zA,←Aa.out]
    rfl,by assumption⟩
   clear hc AR
   go_wp2_with fail
   clear y0 d0
   go_loopw [8,9] (fun fv iv wr=>∃(k:Nat) (b:Bool),k≤ts.length∧iv=.int .i64 k∧fv=.bool b∧Hid (b=(ts.take k).any fun t=>t.at_==p)∧Hid (Ext w6 wr)) (fun _ iv _=>ts.length-(intOf iv).toNat)
   case atStart=>exact⟨0,false,zT _,rfl,rfl,yE (by simp),AG⟩
   case round=>
    obtain⟨k,b,hk,rfl,rfl,HF,AB⟩:=hrel;obtain⟨w8,rfl⟩:∃w8:World,w8=wr:=⟨_,rfl⟩
    by_cases Ah:k<ts.length
    rotate_left
    ·obtain rfl:k=ts.length:=by omega
     have d0:decide ((ts.length:Int)<(ts.length:Int))=false:=by simp
     have d1:decide (ts.length<ts.length)=false:=by simp
     obtain rfl:b=true:=by rw[HF.out,List.take_length]; exact Am.out
     go_wp2_with fail
     go_roundw
     case rel=>exact⟨i+1,by omega,by go_num,AB⟩
     case measure=>simp[intOf]; omega
    have d0:decide ((k:Int)<(ts.length:Int))=true:=yQ (by omega)
    have q1:(k:Int)<(ts.length:Int):=by omega
    have y0:w8.cell? ⟨g3,0,none⟩=some (.slice (some ⟨tb,tf,none⟩) nh.length c2):=(AW.out.ext AB.out).cell 0;have v0:w8.cell? ⟨tb,tf+i*5+1,none⟩=some (.int .i64 (p:Int)):=(AB.out.cell (p:=⟨tb,tf+i*5+1,none⟩) HV.out.2).trans HV.out.1;obtain⟨kb,kf,Al,_,Ac⟩:=(Ap.out.ext AB.out).at_ (by rw[XO]; omega);subst Al;obtain⟨a,Ab⟩:∃a:Nat,Hid (ts[k].at_=a):=⟨_,yE rfl⟩
    have v1:w8.cell? ⟨kb,kf+k*5+1,none⟩=some (.int .i64 (a:Int)):=by
     rw[Nat.add_assoc,Ac _ (by rw[XO]; omega),zD2 ts k Ah 1 (by decide),←Ab.out]
     rfl
    clear Ac;have HS:Hid (((ts.take (k+1)).any fun t=>t.at_==p)=(b||a==p)):=yE (by rw[zSJ _ _ _ Ah,HF.out,Ab.out])
    cases b with
    | true=>
     go_wp2_with fail
     go_quiet (fail)
     rename_i nq
     go_wp2_with fail
     go_roundw
     case rel=>exact⟨k+1,true,by omega,by go_num,rfl,yE (by rw[HS.out]; rfl),yE (AB.out.trans (zLl w8 nq))⟩
     case measure=>simp[intOf]; omega
    | false=>
     obtain⟨bq,HQ⟩:∃bq,Hid ((a==p)=bq):=⟨_,yE rfl⟩
     have e0:((a:Int)==(p:Int))=bq:=by
      rw[←HQ.out]
      by_cases h:a=p
      ·subst h; simp
      ·rw[beq_eq_false_iff_ne.2 h,beq_eq_false_iff_ne.2 (by omega)]
     have e1:(a==p)=bq:=HQ.out;have At:Hid (bq=(ts.take (k+1)).any fun t=>t.at_==p):=yE (by rw[HS.out,HQ.out]; rfl)
     go_wp2_with fail
     go_quiet (fail)
     rename_i nq
     go_wp2_with fail
     go_roundw
     case rel=>exact⟨k+1,bq,by omega,by go_num,rfl,At,yE (AB.out.trans (zLl w8 nq))⟩
     case measure=>simp[intOf]; omega
def JE:Bs:=[116,97,98,108,101,32,116,40,99,44,32,100,41,59,32,112,114,111,99,32,112,40,97,44,32,98,41,32,115,105,110,103,108,101,32,123,32,114,101,97,100,32,120,32,61,32,116,91,97,32,43,32,49,93,46,99,32,102,111,114,32,117,112,100,97,116,101,59,32,115,101,116,32,116,91,45,120,93,46,100,32,61,32,40,97,32,45,32,98,41,32,42,32,50,59,32,112,117,116,32,116,91,49,93,40,97,44,32,50,41,59,32,100,101,108,101,116,101,32,116,91,98,93,59,32,115,99,97,110,32,121,32,61,32,116,46,99,59,32,108,111,99,107,32,116,32,97,108,108,59,32,114,101,108,101,97,115,101,32,116,91,97,93,59,32,114,101,108,101,97,115,101,32,116,59,32,105,102,32,120,32,60,32,121,32,123,32,101,109,105,116,32,120,59,32,125,32,101,108,115,101,32,123,32,114,111,108,108,98,97,99,107,59,32,125,32,99,104,111,112,59,32,102,111,114,32,105,32,61,32,49,32,116,111,32,51,32,123,32,108,101,116,32,120,32,61,32,105,59,32,105,102,32,120,32,61,61,32,50,32,123,32,125,32,125,32,108,111,99,107,32,116,32,115,104,97,114,101,100,59,32,125,32,112,114,111,99,32,113,40,41,32,123,32,125]
def zTN:Nat→List Tok→Bool
 | _,[]=>true
 | i,t::r=>decide (t.at_≤295)&&(decide (t.en≤295)&&(decide (0<t.at_∨t.en<295)&&((decide (i % 4≠0)||prB (JE.take t.at_++JE.drop t.en))&&zTN (i+1) r)))
def lexB:Bool:=match XS JE with
 | .ok ts=>decide (ts.length≤200)&&zTN 0 ts
 | .err _ _=>false
theorem zUZ:prB JE=true:=by decide +kernel
theorem zUP:lexB=true:=by decide +kernel
def zsK:List Int:=JE.map fun c=>(c.toNat:Int)
theorem zRs:(zsK.map (Value.int .u8)).toArray.toList=xL JE:=by
 unfold zsK xL;rw[List.map_map]
 rfl
theorem zUX:JE.length=295:=by decide +kernel
def zUT (i:Nat)(t:Tok):Prop:=t.at_≤295∧t.en≤295∧(0<t.at_∨t.en<295)∧(i % 4=0→prB (JE.take t.at_++JE.drop t.en)=true)
theorem zRX:∀(ts:List Tok) (i:Nat),zTN i ts=true→∀j (hj:j<ts.length),zUT (i+j) ts[j]
 | [],_,_=>fun j hj=>by cases hj
 | t::r,i,h=>fun j hj=>by
  unfold zTN at h;simp only[zF,zE,Bool.or_eq_true] at h;obtain⟨h1,h2,h3,h4,h5⟩:=h
  cases j with
  | zero=>exact⟨h1,h2,h3,fun e=>h4.resolve_left fun h=>h e⟩
  | succ j=>
   have:=zRX r (i+1) h5 j (Nat.lt_of_succ_lt_succ hj)
   rw[show i+1+j=i+(j+1) by omega] at this;exact this
theorem zU4:∃ts,XS JE=.ok ts∧ts.length≤200∧∀j (hj:j<ts.length),zUT j ts[j]:=by
 have h:=zUP;unfold lexB at h
 cases e:XS JE with
 | err a r=>rw[e] at h; cases h
 | ok ts=>
  rw[e] at h;simp only[zF,zE] at h;refine⟨ts,rfl,h.1,fun j hj=>?_⟩
  have:=zRX ts 0 h.2 j hj
  rw[Nat.zero_add] at this;exact this
structure zFS (H:Nat)(l:Bs)(g c:Nat)(w:World):Prop where
 lo:H≤g
 lt:g<w.heap.size
 le:l.length≤c
 cells:Cells w (some ⟨g,0,none⟩) (xL l)
 room:∀j,j<c→(w.cell? ⟨g,j,none⟩).isSome=true∧w.frozen? ⟨g,j,none⟩=false
theorem zFS.ext {H:Nat}{l:Bs}{g c:Nat}{w w':World}(h:zFS H l g c w)(hx:Ext w w'):zFS H l g c w':=by
 have hb:=hx.block g h.lt
 exact⟨h.lo,yS h.lt hx.size,h.le,h.cells.ext hx,fun j hj=>by
  rw[World.cell?_of_block (a:=⟨g,j,none⟩) hb,World.frozen?_of_block (a:=⟨g,j,none⟩) hb]
  exact h.room j hj⟩
theorem zHb (w:World)(l:Bs):zFS w.heap.size l w.heap.size (grownCap w l.length 0 5) (Lib.bytesWorld w 5 (xE l)):=by
 have AA:(xE l).size=l.length:=by simp[xE,ByteArray.size]
 have AB:=grownCap_ge w (xE l).size 0 5;have hn:=Lib.bytesWorld_at_new w 5 (xE l)
 have AC:(Lib.bytesCells w 5 (xE l)).size=grownCap w l.length 0 5:=by
  unfold Lib.bytesCells;rw[Array.size_append,Array.size_map,Array.size_replicate,AA,show(xE l).data.size=l.length from AA];rw[AA] at AB;omega
 rw[AA] at AB;refine⟨zU _,by rw[Lib.bytesWorld_size]; omega,AB,zGX w l,fun j hj=>⟨?_,?_⟩⟩
 ·unfold World.cell?;simp only[hn];rw[Array.getElem?_eq_getElem (by rw[AC]; exact hj)]
  rfl
 ·unfold World.frozen?;simp only[hn];rw[AC]
  simp
  omega
theorem zEg (w0:World)(b:Nat)(hb:w0.heap.size≤b):∀(vs:List Value) (o:Nat) (w:World),Ext w0 w→Ext w0 (w.setCells b o vs)
 | [],_,_,h=>h
 | v::r,o,w,h=>zEg w0 b hb r (o+1) _ (h.set hb)
theorem zBu (a b:Bs):xL (a++b)=xL a++xL b:=by simp[xL]
theorem zTY:(Tryz.prog.info? 5).map (fun i=>(i.zero,i.size,i.bytes))=some (some (.int .u8 0),1,1):=by kernel_rfl
theorem zQ8 {H:Nat}{l k:Bs}{g c:Nat}{w0 w:World}(h:zFS H l g c w)(hx:Ext w0 w)(hH:w0.heap.size≤H)(ty:TypeId)(b o m cc:Nat)(hm:m=k.length)(hk:Cells w (some ⟨b,o,none⟩) (xL k))(hs:l.length+k.length≤100000) :
  ∃g' c' w',(Builtin.append_ #[22,22] ty #[.slice (some ⟨g,0,none⟩) l.length c,.slice (some ⟨b,o,none⟩) m cc]).run Tryz.prog w=.ok (.slice (some ⟨g',0,none⟩) (l.length+m) c') w'∧l.length+m≤c'∧Ext w0 w'∧Cells w' (some ⟨g',0,none⟩) (xL (l++k)):=by
 subst hm;obtain⟨i0,hi,AH,AB,AI⟩:=info_parts zTY;have AF:=h.cells
 have AE:∀(q:Bs) (b o:Nat),Cells w (some ⟨b,o,none⟩) (xL q)→∀j u,(xL q)[j]?=some u→w.cell? ((⟨b,o,none⟩:Addr).add j)=some u:=fun q b o hq j u hu=>by
  have hj:=(List.getElem?_eq_some_iff.1 hu).1;obtain⟨b2,o2,e,_,hc⟩:=hq.at_ (by omega);obtain rfl:b=b2:=congrArg Addr.block (Option.some.inj e);obtain rfl:o=o2:=congrArg Addr.off (Option.some.inj e);rw[zNw,hc j hj,hu]
 have AD:∀u ∈ xL k,u.oneCell'=true:=fun u hu=>by
  obtain⟨x,_,rfl⟩:=List.mem_map.1 hu
  rfl
 have AA:Src Tryz.prog i0.size 22 (.slice (some ⟨b,o,none⟩) k.length cc) k.length (xL k) w:=Src.ofSlice w Tryz.underlying22 _ _ _ _ (by rw[AB,xW,Nat.mul_one]) (AE k b o hk) AD
 by_cases hr:l.length+k.length≤c
 ·have hw:=run_append_room_src (P:=Tryz.prog) w 22 22 ty 5 i0 Tryz.underlying22 hi g 0 l.length c _ k.length (xL k) AA hr (fun j hj=>by
   rw[xW] at hj;rw[AB,Nat.mul_one,Nat.zero_add]
   exact(h.room (l.length+j) (by omega)).1) (fun j hj=>by
   rw[xW] at hj;rw[AB,Nat.mul_one,Nat.zero_add]
   exact(h.room (l.length+j) (by omega)).2)
  rw[AB,Nat.mul_one,Nat.zero_add] at hw;refine⟨g,c,_,hw,hr,zEg w0 g (Nat.le_trans hH h.lo) _ _ _ hx,?_⟩;have AJ:Ext w0 (w.setCells g l.length (xL k)):=zEg w0 g (Nat.le_trans hH h.lo) _ _ _ hx;refine .inr ⟨g,0,rfl,?_,fun j hj=>?_⟩
  ·have:∀(vs:List Value) (o:Nat) (w:World),(w.setCells g o vs).heap.size=w.heap.size:=fun vs=>by
    induction vs with
    | nil=>intro o w; rfl
    | cons v r ih=>intro o w; exact(ih (o+1) _).trans (by simp[World.setCell])
   rw[this];exact h.lt
  ·rw[xW,yN] at hj;rw[Nat.zero_add,zBu]
   by_cases AC:j<l.length
   ·rw[List.getElem?_append_left (by rw[xW]; exact AC),World.cell?_setCells_out g _ _ w ⟨g,j,none⟩ fun _ _=>.inl AC]
    have:=AE l g 0 h.cells j _ (yH (by rw[xW]; exact AC))
    rw[zNw,Nat.zero_add] at this;rw[this,yH (by rw[xW]; exact AC)]
   ·rw[List.getElem?_append_right (by rw[xW]; omega),xW]
    have:=World.cell?_setCells_in g (xL k) l.length w (fun j hj=>by
     rw[xW] at hj
     exact(h.room (l.length+j) (by omega)).1) (j-l.length) (by rw[xW]; omega)
    rw[show l.length+(j-l.length)=j by omega] at this;rw[this,yH]
 ·have AG:=nextslicecap_le (need:=l.length+k.length) (old:=c) (by omega)
  have hw:=run_append_grow_src (P:=Tryz.prog) w 22 22 ty 5 i0 (.int .u8 0) Tryz.underlying22 hi AH (some ⟨g,0,none⟩) l.length c (xL l)
   (run_firstCells_some (P:=Tryz.prog) w.drew i0.size l.length ⟨g,0,none⟩ l.length c (xL l) (by rw[AB,xW,Nat.mul_one]) (fun j u hu=>AE l g 0 h.cells j u hu)) _ k.length (xL k) AA (by omega) (by omega) (by rw[AI]; omega)
  refine⟨_,_,_,hw,grownCap_ge _ _ _ _,Below.trans hx ⟨rfl,rfl,rfl,by simp,fun q hq=>?_⟩,?_⟩
  ·exact(Ext.alloc w.drew _).block q (yS hq hx.size)
  ·rw[zBu]
   exact .inr ⟨w.heap.size,0,rfl,by simp,fun j hj=>by
    have hn:((w.drew.alloc (.cells ((xL l++xL k).toArray++Builtin.zeroCells (Value.int .u8 0).cells (grownCap w (l.length+k.length) c 5-(l.length+k.length))) 5)).heap[w.heap.size]?)=some (.cells ((xL l++xL k).toArray++Builtin.zeroCells (Value.int .u8 0).cells (grownCap w (l.length+k.length) c 5-(l.length+k.length))) 5 (0,0)):=zO w.drew _;rw[Nat.zero_add,cell_of_row _ _ j _ _ _ hn,Array.getElem?_append_left (by simpa using hj)]
    simp⟩
theorem zOg {ops:Array Oper}{rest:List Oper}{o:Oper}{a:Act}{w:World}{Q:Exit→Act→World→Prop}(hgd:o.guard=none)(s x:Operand)
  (ho:o.op=.call { callee:=.builtin .append,args:=#[s,x],argTypes:=#[22,22] }) (v xv v':Value) (w':World) (hv:a.eval s=v) (hx:a.eval x=xv)
  (hrun:(Builtin.append_ #[22,22] o.type #[v,xv]).run Tryz.prog w=.ok v' w') (hK:wpList Tryz.prog ops Q rest (a.put o.dst v') w'):wpList Tryz.prog ops Q (o::rest) a w:=by
 refine wpList_plain hgd fun K AA=>?_;unfold Oper.wp;simp[execOp,ho,resolve,invoke,builtin,hv,hx,hrun,Result.andThen];exact AA _ _ hK
theorem zS7 {e0 oe g:Nat}(h1:e0<295→oe=e0)(h2:e0=295→oe=0)(h:e0≤295):(if 295=e0 then (some ⟨g,0,none⟩:Option Addr) else some ⟨g,e0,none⟩)=some ⟨g,oe,none⟩:=by
 by_cases h3:e0=295
 ·rw[if_pos h3.symm,h2 h3]
 ·rw[if_neg fun h=>h3 h.symm,h1 (by omega)]
def zMG (w:World)(g:Nat):Prop:=g<w.heap.size∧∀j,j<5→∃h,w.cell? ⟨g,j,none⟩=some (.slice (some ⟨h,0,none⟩) 5 5)∧h<w.heap.size∧∀k,k<5→∃s:ByteArray,w.cell? ⟨h,k,none⟩=some (.string s)∧s.size≤21
theorem zMG.ext {w w':World}{g:Nat}(h:zMG w g)(hx:Ext w w'):zMG w' g:=⟨yS h.1 hx.size,fun j hj=>by
 obtain⟨b,h1,h2,h3⟩:=h.2 j hj;refine⟨b,(hx.cell (p:=⟨g,j,none⟩) h.1).trans h1,yS h2 hx.size,fun k hk=>?_⟩;obtain⟨s,h4,h5⟩:=h3 k hk
 exact⟨s,(hx.cell (p:=⟨b,k,none⟩) h2).trans h4,h5⟩⟩
theorem zRN (s:ByteArray):s=xE s.data.toList:=by
 cases s
 simp[xE]
def zFY (a:Array Value):Prop:=∀k,k<5→∃s:ByteArray,a[k]?=some (.string s)∧s.size≤21
theorem zAE {s0 s1 s2 s3 s4:ByteArray}(h:s0.size≤21∧s1.size≤21∧s2.size≤21∧s3.size≤21∧s4.size≤21):zFY #[.string s0,.string s1,.string s2,.string s3,.string s4]:=fun k hk=>by
 have:k=0∨k=1∨k=2∨k=3∨k=4:=by omega
 rcases this with rfl | rfl | rfl | rfl | rfl
 ·exact⟨_,rfl,h.1⟩
 ·exact⟨_,rfl,h.2.1⟩
 ·exact⟨_,rfl,h.2.2.1⟩
 ·exact⟨_,rfl,h.2.2.2.1⟩
 ·exact⟨_,rfl,h.2.2.2.2⟩
theorem zM5 {w w1 w2 w3 w4 w5 w6:World}{t u:TypeId}{a0 a1 a2 a3 a4:Array Value}(h1:w.alloc (.cells a0 t)=w1)(h2:w1.alloc (.cells a1 t)=w2)(h3:w2.alloc (.cells a2 t)=w3)(h4:w3.alloc (.cells a3 t)=w4)(h5:w4.alloc (.cells a4 t)=w5)
  (h6:w5.alloc (.cells #[.slice (some ⟨w.heap.size,0,none⟩) 5 5,.slice (some ⟨w.heap.size+1,0,none⟩) 5 5,.slice (some ⟨w.heap.size+1+1,0,none⟩) 5 5,.slice (some ⟨w.heap.size+1+1+1,0,none⟩) 5 5,.slice (some ⟨w.heap.size+1+1+1+1,0,none⟩) 5 5] u)=w6)
  (k0:zFY a0) (k1:zFY a1) (k2:zFY a2) (k3:zFY a3) (k4:zFY a4):zMG w6 (w.heap.size+1+1+1+1+1)∧Ext w w6:=by
 have s1:w1.heap.size=w.heap.size+1:=by rw[←h1]; simp
 have s2:w2.heap.size=w.heap.size+1+1:=by rw[←h2]; simp[s1]
 have s3:w3.heap.size=w.heap.size+1+1+1:=by rw[←h3]; simp[s2]
 have s4:w4.heap.size=w.heap.size+1+1+1+1:=by rw[←h4]; simp[s3]
 have s5:w5.heap.size=w.heap.size+1+1+1+1+1:=by rw[←h5]; simp[s4]
 have x1:Ext w w1:=h1 ▸ Ext.alloc _ _;have x2:Ext w1 w2:=h2 ▸ Ext.alloc _ _;have x3:Ext w2 w3:=h3 ▸ Ext.alloc _ _;have x4:Ext w3 w4:=h4 ▸ Ext.alloc _ _;have x5:Ext w4 w5:=h5 ▸ Ext.alloc _ _;have x6:Ext w5 w6:=h6 ▸ Ext.alloc _ _;have b0:Blk w1 w.heap.size t a0:=h1 ▸ Blk.new _ _ _;have b1:Blk w2 w1.heap.size t a1:=h2 ▸ Blk.new _ _ _;have b2:Blk w3 w2.heap.size t a2:=h3 ▸ Blk.new _ _ _;have b3:Blk w4 w3.heap.size t a3:=h4 ▸ Blk.new _ _ _;have b4:Blk w5 w4.heap.size t a4:=h5 ▸ Blk.new _ _ _;have b5:Blk w6 w5.heap.size u _:=h6 ▸ Blk.new _ _ _;rw[s1] at b1;rw[s2] at b2;rw[s3] at b3;rw[s4] at b4;rw[s5] at b5;have y5:=x6;have y4:=x5.trans y5;have y3:=x4.trans y4;have y2:=x3.trans y3;have y1:=x2.trans y2;have c0:=b0.ext y1;have c1:=b1.ext y2;have c2:=b2.ext y3;have c3:=b3.ext y4;have c4:=b4.ext y5
 have AA:∀ {a:Array Value} {h:Nat},zFY a→Blk w6 h t a→h<w6.heap.size∧∀k,k<5→∃s:ByteArray,w6.cell? ⟨h,k,none⟩=some (.string s)∧s.size≤21:=fun ha hb=>⟨hb.lt,fun k hk=>by
  obtain⟨s,e,hs⟩:=ha k hk
  exact⟨s,(hb.cell k).trans e,hs⟩⟩
 refine⟨⟨b5.lt,fun j hj=>?_⟩,x1.trans y1⟩
 have:j=0∨j=1∨j=2∨j=3∨j=4:=by omega
 rcases this with rfl | rfl | rfl | rfl | rfl
 ·exact⟨_,b5.cell 0,AA k0 c0⟩
 ·exact⟨_,b5.cell 1,AA k1 c1⟩
 ·exact⟨_,b5.cell 2,AA k2 c2⟩
 ·exact⟨_,b5.cell 3,AA k3 c3⟩
 ·exact⟨_,b5.cell 4,AA k4 c4⟩
theorem zPN {w:World}{g:Nat}{l:Bs}(h:Cells w (some ⟨g,0,none⟩) (xL l))(i:Nat)(hi:i<l.length)(x:UInt8):Cells (w.setCell ⟨g,i,none⟩ (.int .u8 (x.toNat:Int))) (some ⟨g,0,none⟩) (xL (l.set i x)):=by
 obtain⟨b,o,e,hb,hc⟩:=h.at_ (by rw[xW]; omega);injection e with e;injection e with e1 e2;subst e1 e2;refine .inr ⟨g,0,rfl,by simp[World.setCell]; exact hb,fun j hj=>?_⟩;rw[xW,zB] at hj
 have AB:xL (l.set i x)=(xL l).set i (.int .u8 (x.toNat:Int)):=by unfold xL; rw[List.map_set]
 rw[Nat.zero_add,AB,List.getElem?_set];have AC:=hc j (by rw[xW]; exact hj);rw[Nat.zero_add] at AC
 have hv:(w.cell? ⟨g,i,none⟩).isSome=true:=by
  have:=hc i (by rw[xW]; exact hi)
  rw[Nat.zero_add] at this;rw[this,yH (by rw[xW]; exact hi)]
  rfl
 by_cases AA:i=j
 ·subst AA;rw[if_pos rfl,if_pos (by rw[xW]; exact hi)];exact World.cell?_setCell_same' _ _ _ hv
 ·rw[if_neg AA,←AC];exact World.cell?_setCell_other _ _ _ _ (fun e=>AA (congrArg Addr.off e))
end Go.Proofs.YtioffpjajhalaaaGreatDoor
namespace Go.Proofs.YtioffpjajhalaaaGreatDoor
structure Rs where
 s:Ps
 e:Int
def Rs.is (t:Bs)(r:Rs):Bool:=r.e==0&&isP t r.s
def Rs.fail (e:Int)(r:Rs):Rs:=if r.e=0 then { r with e:=e } else r
def Rs.adv (r:Rs):Rs:={ r with s:=r.s.adv }
def xD (t:Bs)(r:Rs):Rs:=if r.is t=true then r.adv else r.fail 50
def Rs.zF6 (r:Rs):Bool:=r.e==0&&r.s.hd.kind==1
def Rs.zAz (r:Rs):Bs:=if r.zF6=true then r.s.hd.text else []
def zDD (r:Rs):Rs:=if r.zF6=true then r.adv else r.fail 50
def Rs.inn (r:Rs):Rs:=let r':Rs:=if r.e=0∧64≤r.s.deep then { r with e:=51 } else r
 { r' with s:={ r'.s with deep:=r'.s.deep+1 } }
def Rs.out (r:Rs):Rs:={ r with s:={ r.s with deep:=r.s.deep-1 } }
def Rs.yX (r:Rs)(i k:Nat):Rs:={ r with s:=r.s.yX i k }
def Rs.text (r:Rs)(i:Nat)(t:Bs):Rs:={ r with s:=r.s.text i t }
def Rs.num (r:Rs)(i:Nat)(x:Int):Rs:={ r with s:=r.s.num i x }
def Rs.kind (r:Rs)(i:Nat)(k:Nat):Rs:={ r with s:=r.s.kind i k }
def xM (i:Nat)(r:Rs):Rs:=(zDD r).text i r.zAz
def vW (i:Nat)(r:Rs):Rs:=xM r.s.nd.length (r.yX i 5)
def zAi (i:Nat)(r:Rs):Rs:=let q:=r.yX i 21
 if (q.e==0&&q.s.hd.kind==2)=true then (q.num r.s.nd.length q.s.hd.n).adv else q.fail 50
def zBZ (ms:List (Bs × Nat))(r:Rs):Option Nat:=(ms.find? fun m=>r.is m.1).map Prod.snd
def YG (ms:List (Bs × Nat))(part:Rs→Ex × Rs):Nat→Ex→Rs→Ex × Rs
 | 0,e,r=>(e,r)
 | f+1,e,r=>match zBZ ms r with
  | none=>(e,r)
  | some k=>YG ms part f (.bin k e.pos e (part r.adv).1) (part r.adv).2
def vQ (ms:List (Bs × Nat))(part:Rs→Ex × Rs)(r:Rs):Ex × Rs:=YG ms part ((part r).2.s.ts.length+1) (part r).1 (part r).2
def xZ:Nat→Rs→Ex × Rs
 | 0,r=>(.leaf 0 0 [] 0,r)
 | f+1,r=>
  if r.e≠0 then (.leaf 0 r.s.hd.at_ r.s.hd.text 0,r)
  else if r.s.hd.kind=1 then (.leaf 22 r.s.hd.at_ r.s.hd.text 0,r.adv)
  else if r.s.hd.kind=2 then (.leaf 21 r.s.hd.at_ [] r.s.hd.n,r.adv)
  else if r.is [40]=true then
   if r.inn.e=0 then let x:=vQ ZL (vQ YI (xZ f)) r.inn.adv; (x.1,(xD [41] x.2).out)
   else (.leaf 0 r.s.hd.at_ r.s.hd.text 0,r.inn.out)
  else if r.is [45]=true then
   if r.inn.e=0 then let x:=xZ f r.inn.adv; (.neg r.s.hd.at_ x.1,x.2.out)
   else (.leaf 26 r.s.hd.at_ [] 0,r.inn.out)
  else (.leaf 0 r.s.hd.at_ r.s.hd.text 0,r.fail 50)
def zDK (r:Rs):Ex × Rs:=vQ ZL (vQ YI (xZ r.s.ts.length)) r
def vU (i:Nat)(r:Rs):Rs:=if (zDK r).2.e=0 then { (zDK r).2 with s:=JW i (zDK r).1 (zDK r).2.s } else (zDK r).2
def zOA (M:Rs→Rs):Prop:=∀r,r.e≠0→(M r).e=r.e∧(M r).s.ts=r.s.ts
def Fits {α:Type}(s:Ps)(x:Res α)(r:Rs)(a:α→Prop):Prop:=match x with
 | .ok v s'=>r=⟨s',0⟩∧s'.deep=s.deep∧a v
 | .err e p=>e≠0→r.e=e∧r.s.hd.at_=p
abbrev zDU (s:Ps)(x:Res Unit)(r:Rs):Prop:=Fits s x r fun _=>True
structure ZU (m:Pm Unit)(M:Rs→Rs):Prop where
 dead:zOA M
 live:∀s,s.deep≤64→zDU s (m s) (M ⟨s,0⟩)
theorem zOA.comp {M N:Rs→Rs}(h:zOA M)(k:zOA N):zOA fun r=>N (M r):=fun r hr=>by
 obtain⟨h1,h2⟩:=h r hr;obtain⟨k1,k2⟩:=k (M r) (by rw[h1]; exact hr);exact⟨k1.trans h1,k2.trans h2⟩
theorem zHB {s s':Ps}(h:s'.ts=s.ts):s'.hd=s.hd:=by unfold Ps.hd; rw[h]
theorem Fits.bind {α β:Type}{s:Ps}{x:Res α}{r:Rs}{A:α→Prop}{B:β→Prop}{f:α→Ps→Res β}{N:Rs→Rs}(h:Fits s x r A)(hN:r.e≠0→(N r).e=r.e∧(N r).s.ts=r.s.ts)(k:∀a t,A a→t.deep=s.deep→r=⟨t,0⟩→Fits t (f a t) (N r) B):Fits s (x.bind f) (N r) B:=by
 cases x with
 | ok a t=>
  obtain⟨h1,h2,h3⟩:=h;have h4:=k a t h3 h2 h1
  show Fits s (f a t) _ _
  cases hr:f a t with
  | ok b u=>
   rw[hr] at h4;obtain⟨k1,k2,k3⟩:=h4;exact⟨k1,k2.trans h2,k3⟩
  | err e p=>
   rw[hr] at h4;exact h4
 | err e p=>
  intro he;obtain⟨h1,h2⟩:=h he;obtain⟨k1,k2⟩:=hN (by rw[h1]; exact he);exact⟨k1.trans h1,by rw[zHB k2]; exact h2⟩
theorem ZU.bind {m:Pm Unit}{f:Pm Unit}{M N:Rs→Rs}(h:ZU m M)(k:ZU f N):ZU (fun s=>(m s).bind fun _ t=>f t) fun r=>N (M r):=
 ⟨h.dead.comp k.dead,fun s hs=>Fits.bind (h.live s hs) (fun hr=>k.dead _ hr) fun _ t _ hd hr=>by rw[hr]; exact k.live t (by rw[hd]; exact hs)⟩
theorem zDL (e:Int):zOA (Rs.fail e):=fun r hr=>by unfold Rs.fail; rw[if_neg hr]; exact⟨rfl,rfl⟩
theorem zE4 {r:Rs}(h:r.e≠0)(t:Bs):r.is t=false:=by unfold Rs.is; rw[beq_eq_false_iff_ne.2 h,Bool.false_and]
theorem zBf (t:Bs)(s:Ps):(⟨s,0⟩:Rs).is t=isP t s:=rfl
theorem jE (t:Bs):ZU (xY t) (xD t):=by
 refine⟨fun r hr=>?_,fun s hs=>?_⟩
 ·unfold xD;rw[if_neg (by rw[zE4 hr]; decide)];exact zDL 50 r hr
 ·unfold xD xY;rw[zBf]
  split
  ·exact⟨rfl,rfl,trivial⟩
  ·exact fun _=>⟨rfl,rfl⟩
theorem zOc {r:Rs}(h:r.e≠0):r.zF6=false:=by unfold Rs.zF6; rw[beq_eq_false_iff_ne.2 h,Bool.false_and]
theorem XI (i:Nat):ZU (jC i) (xM i):=by
 refine⟨fun r hr=>?_,fun s hs=>?_⟩
 ·unfold xM zDD;rw[if_neg (by rw[zOc hr]; decide)];exact zDL 50 r hr
 ·unfold jC ofP xM zDD Rs.zAz;have e:(⟨s,0⟩:Rs).zF6=(s.hd.kind==1):=rfl;rw[e]
  by_cases hk:s.hd.kind=1
  ·rw[if_pos hk,if_pos (by rw[hk]; rfl),if_pos (by rw[hk]; rfl)];exact⟨rfl,rfl,trivial⟩
  ·rw[if_neg hk,if_neg (by simpa using hk),if_neg (by simpa using hk)];exact fun _=>⟨rfl,rfl⟩
theorem zBv (i:Nat):ZU (JA i) (vW i):=
 ⟨fun r hr=>(XI _).dead (r.yX i 5) hr,fun s hs=>(XI _).live (s.yX i 5) hs⟩
theorem zF4 (i:Nat):ZU (YL i) (zAi i):=by
 refine⟨fun r hr=>?_,fun s hs=>?_⟩
 ·unfold zAi;have hq:(r.yX i 21).e≠0:=hr;rw[if_neg (by rw[beq_eq_false_iff_ne.2 hq]; simp)];exact zDL 50 (r.yX i 21) hq
 ·unfold YL zCe ofP zAi;have e:(((⟨s,0⟩:Rs).yX i 21).e==0&&((⟨s,0⟩:Rs).yX i 21).s.hd.kind==2)=((s.yX i 21).hd.kind==2):=rfl
  dsimp only
  rw[e]
  by_cases hk:(s.yX i 21).hd.kind=2
  ·rw[if_pos hk,if_pos (by rw[hk]; rfl)];exact⟨rfl,rfl,trivial⟩
  ·rw[if_neg hk,if_neg (by simpa using hk)];exact fun _=>⟨rfl,rfl⟩
structure zJA (m:Pm Ex)(M:Rs→Ex × Rs):Prop where
 dead:∀r,r.e≠0→(M r).2.e=r.e∧(M r).2.s.ts=r.s.ts
 live:∀s,s.deep≤64→Fits s (m s) (M ⟨s,0⟩).2 fun v=>(M ⟨s,0⟩).1=v
theorem zO1 {r:Rs}(h:r.e≠0)(ms:List (Bs × Nat)):zBZ ms r=none:=by
 unfold zBZ;rw[List.find?_eq_none.2 fun m _=>by rw[zE4 h]; decide]
 rfl
theorem zO7 (ms:List (Bs × Nat))(s:Ps):zBZ ms ⟨s,0⟩=zCn ms s:=rfl
theorem zEw {part:Rs→Ex × Rs}(ms:List (Bs × Nat)):∀(f:Nat) (e:Ex) (r:Rs),r.e≠0→YG ms part f e r=(e,r)
 | 0,e,r,_=>rfl
 | f+1,e,r,h=>by unfold YG; rw[zO1 h]
theorem zJg {ms:List (Bs × Nat)}{part:Pm Ex}{P:Rs→Ex × Rs}(h:zJA part P):∀(f:Nat) (e:Ex) (s:Ps),s.deep≤64→Fits s (YW ms part f e s) (YG ms P f e ⟨s,0⟩).2 fun v=>(YG ms P f e ⟨s,0⟩).1=v
 | 0,e,s,_=>fun he=>absurd rfl he
 | f+1,e,s,hs=>by
  unfold YW YG;rw[zO7]
  cases zCn ms s with
  | none=>exact⟨rfl,rfl,rfl⟩
  | some k=>
   have h1:=h.live s.adv hs
   dsimp only
   have e1:(⟨s,0⟩:Rs).adv=⟨s.adv,0⟩:=rfl;rw[e1];generalize P ⟨s.adv,0⟩=y at *;obtain⟨b,q⟩:=y
   dsimp only at h1 ⊢
   have h2:∀(x:Res Ex),x=part s.adv→Fits s.adv x q (fun v=>b=v)→Fits s (x.bind fun r t=>YW ms part f (.bin k e.pos e r) t) (YG ms P f (.bin k e.pos e b) q).2 fun v=>(YG ms P f (.bin k e.pos e b) q).1=v:=by
    intro x hx hf
    cases x with
    | ok v t=>
     obtain⟨h1,h2,h3⟩:=hf;subst h1 h3;have h4:=zJg (ms:=ms) h f (.bin k e.pos e b) t (by rw[h2]; exact hs)
     show Fits s (YW ms part f (.bin k e.pos e b) t) _ _
     cases hr:YW ms part f (.bin k e.pos e b) t with
     | ok w u=>
      rw[hr] at h4;obtain⟨k1,k2,k3⟩:=h4;exact⟨k1,k2.trans h2,k3⟩
     | err e p=>
      rw[hr] at h4;exact h4
    | err e' p=>
     intro he;obtain⟨h1,h2⟩:=hf he;rw[zEw ms f _ q (by rw[h1]; exact he)];exact⟨h1,h2⟩
   exact h2 _ rfl h1
theorem zAW (ms:List (Bs × Nat)){part:Pm Ex}{P:Rs→Ex × Rs}(h:zJA part P):zJA (XD ms part) (vQ ms P):=by
 refine⟨fun r hr=>?_,fun s hs=>?_⟩
 ·unfold vQ;obtain⟨h1,h2⟩:=h.dead r hr;rw[zEw ms _ _ _ (by rw[h1]; exact hr)];exact⟨h1,h2⟩
 ·unfold vQ XD;have h1:=h.live s hs;generalize P ⟨s,0⟩=y at *;obtain⟨b,q⟩:=y
  dsimp only at h1 ⊢
  cases hx:part s with
  | ok v t=>
   rw[hx] at h1;obtain⟨a1,a2,a3⟩:=h1;subst a1 a3;have h4:=zJg (ms:=ms) h (t.ts.length+1) b t (by rw[a2]; exact hs)
   show Fits s (YW ms part (t.ts.length+1) b t) _ _
   cases hr:YW ms part (t.ts.length+1) b t with
   | ok w u=>
    rw[hr] at h4;obtain⟨k1,k2,k3⟩:=h4;exact⟨k1,k2.trans a2,k3⟩
   | err e p=>
    rw[hr] at h4;exact h4
  | err e p=>
   rw[hx] at h1;intro he;obtain⟨a1,a2⟩:=h1 he;rw[zEw ms _ _ q (by rw[a1]; exact he)];exact⟨a1,a2⟩
theorem zIX {α:Type}{a z:Bs}{body:Pm α}{s:Ps}{r:Rs}{A:α→Prop}(ha:isP a s=true)(h64:s.deep=64→r.e=51∧r.s.hd.at_=s.hd.at_)
  (hin:s.deep≠64→∃q:Rs,Fits { s.adv with deep:=s.deep+1 } (body { s.adv with deep:=s.deep+1 }) q A∧r=(if z=[] then q else xD z q).out):Fits s (vR a z body s) r A:=by
 unfold vR;rw[if_pos ha]
 by_cases hd:s.deep=64
 ·rw[if_pos hd];exact fun _=>h64 hd
 ·rw[if_neg hd];obtain⟨q,h1,rfl⟩:=hin hd
  cases hx:body { s.adv with deep:=s.deep+1 } with
  | err e p=>
   rw[hx] at h1;intro he;obtain⟨a1,a2⟩:=h1 he
   have hq:q.e≠0:=by rw[a1]; exact he
   split
   ·exact⟨a1,a2⟩
   ·obtain⟨b1,b2⟩:=(jE z).dead q hq;exact⟨b1.trans a1,by show(xD z q).s.hd.at_=p; rw[zHB b2]; exact a2⟩
  | ok v t=>
   rw[hx] at h1;obtain⟨a1,a2,a3⟩:=h1;subst a1;rw[JJ]
   have a4:t.deep-1=s.deep:=by rw[a2]; show s.deep+1-1=s.deep; omega
   split
   ·exact⟨rfl,a4,a3⟩
   ·unfold xY xD;rw[zBf]
    by_cases hz:isP z t=true
    ·rw[if_pos hz,if_pos hz];exact⟨rfl,a4,a3⟩
    ·rw[if_neg hz,if_neg hz];exact fun _=>⟨rfl,rfl⟩
theorem zGm {s:Ps}(h:s.deep≤64)(hd:s.deep≠64):(⟨s,0⟩:Rs).inn=⟨{ s with deep:=s.deep+1 },0⟩:=by
 unfold Rs.inn;rw[if_neg (by rintro ⟨_,h2⟩; have:64≤s.deep:=h2; omega)]
theorem zGs {s:Ps}(hd:s.deep=64):(⟨s,0⟩:Rs).inn=⟨{ s with deep:=s.deep+1 },51⟩:=by
 unfold Rs.inn;rw[if_pos ⟨rfl,by show 64≤s.deep; omega⟩]
theorem zFc {t:Bs}{s:Ps}(h:isP t s=true):s.hd.kind≠4∧s.hd.kind≠2∧s.hd.text=t:=by
 unfold isP at h;simp only[zF,zD,zN] at h;exact⟨h.1.1,h.1.2,h.2⟩
theorem zD6:∀f,zJA (vM f) (xZ f)
 | 0=>⟨fun r hr=>⟨rfl,rfl⟩,fun s hs he=>absurd rfl he⟩
 | f+1=>by
  have ih:=zD6 f;refine⟨fun r hr=>?_,fun s hs=>?_⟩
  ·unfold xZ;rw[if_pos hr];exact⟨rfl,rfl⟩
  ·unfold xZ vM
   have e0:¬((⟨s,0⟩:Rs).e≠0):=by intro h; exact h rfl
   rw[if_neg e0,zBf,zBf]
   dsimp only
   by_cases h1:s.hd.kind=1
   ·rw[if_pos h1,if_pos h1];exact⟨rfl,rfl,rfl⟩
   ·rw[if_neg h1,if_neg h1]
    by_cases h2:s.hd.kind=2
    ·rw[if_pos h2,if_pos h2];exact⟨rfl,rfl,rfl⟩
    ·rw[if_neg h2,if_neg h2]
     by_cases h3:isP [45] s=true
     ·have h4:¬isP [40] s=true:=fun h4=>by
       have a:=(zFc h3).2.2;rw[(zFc h4).2.2] at a
       cases a
      rw[if_pos h3,if_neg h4,if_pos h3]
      have AA:Fits s (vR [45] [] (vM f) s) (if (⟨s,0⟩:Rs).inn.e=0 then (let x:=xZ f (⟨s,0⟩:Rs).inn.adv; ((.neg s.hd.at_ x.1,x.2.out):Ex × Rs)) else (.leaf 26 s.hd.at_ [] 0,(⟨s,0⟩:Rs).inn.out)).2 fun v=>(if (⟨s,0⟩:Rs).inn.e=0 then (let x:=xZ f (⟨s,0⟩:Rs).inn.adv; ((.neg s.hd.at_ x.1,x.2.out):Ex × Rs)) else (.leaf 26 s.hd.at_ [] 0,(⟨s,0⟩:Rs).inn.out)).1=.neg s.hd.at_ v:=by
       refine zIX h3 (fun hd=>?_) (fun hd=>?_)
       ·rw[zGs hd,if_neg (show ¬((51:Int)=0) by decide)];exact⟨rfl,rfl⟩
       ·rw[zGm hs hd,if_pos rfl];have hl:=ih.live { s.adv with deep:=s.deep+1 } (by show s.deep+1≤64; omega);have ea:(⟨{ s with deep:=s.deep+1 },0⟩:Rs).adv=⟨{ s.adv with deep:=s.deep+1 },0⟩:=rfl;rw[ea];generalize xZ f ⟨{ s.adv with deep:=s.deep+1 },0⟩=y at *;obtain⟨b,q⟩:=y;refine⟨q,?_,by rw[if_pos rfl]⟩
        dsimp only at hl ⊢
        cases hx:vM f { s.adv with deep:=s.deep+1 } with
        | ok v t=>
         rw[hx] at hl;obtain⟨a1,a2,a3⟩:=hl;exact⟨a1,a2,by rw[a3]⟩
        | err e p=>
         rw[hx] at hl;exact hl
      generalize (if (⟨s,0⟩:Rs).inn.e=0 then (let x:=xZ f (⟨s,0⟩:Rs).inn.adv; ((.neg s.hd.at_ x.1,x.2.out):Ex × Rs)) else (.leaf 26 s.hd.at_ [] 0,(⟨s,0⟩:Rs).inn.out))=y at *
      cases hw:vR [45] [] (vM f) s with
      | ok v t=>
       rw[hw] at AA;obtain⟨a1,a2,a3⟩:=AA;exact⟨a1,a2,a3⟩
      | err e p=>
       rw[hw] at AA;exact AA
     ·rw[if_neg h3,if_neg h3]
      by_cases h4:isP [40] s=true
      ·rw[if_pos h4];refine zIX h4 (fun hd=>?_) (fun hd=>?_)
       ·rw[zGs hd,if_neg (show ¬((51:Int)=0) by decide)];exact⟨rfl,rfl⟩
       ·rw[zGm hs hd,if_pos rfl];have hl:=(zAW ZL (zAW YI ih)).live { s.adv with deep:=s.deep+1 } (by show s.deep+1≤64; omega);have ea:(⟨{ s with deep:=s.deep+1 },0⟩:Rs).adv=⟨{ s.adv with deep:=s.deep+1 },0⟩:=rfl;rw[ea];exact⟨_,hl,by rw[if_neg (by decide)]⟩
      ·rw[if_neg h4];unfold vR;rw[if_neg h4];exact fun _=>⟨rfl,rfl⟩
theorem zLf:zJA zKr zDK:=by
 refine⟨fun r hr=>?_,fun s hs=>?_⟩
 ·exact(zAW ZL (zAW YI (zD6 r.s.ts.length))).dead r hr
 ·exact(zAW ZL (zAW YI (zD6 s.ts.length))).live s hs
theorem zLq (i:Nat)(e:Ex)(s:Ps):(JW i e s).deep=s.deep:=by
 induction e generalizing i s with
 | leaf k p t n=>rfl
 | neg p a ih=>unfold JW; rw[ih]; rfl
 | bin k p a b iha ihb=>unfold JW; rw[ihb,iha]; rfl
theorem zAP (i:Nat):ZU (JS i) (vU i):=by
 refine⟨fun r hr=>?_,fun s hs=>?_⟩
 ·unfold vU;obtain⟨h1,h2⟩:=zLf.dead r hr;rw[if_neg (by rw[h1]; exact hr)];exact⟨h1,h2⟩
 ·unfold JS vU;have h:=zLf.live s hs;generalize zDK ⟨s,0⟩=y at *;obtain⟨b,q⟩:=y
  dsimp only at h ⊢
  cases hx:zKr s with
  | ok v t=>
   rw[hx] at h;obtain⟨a1,a2,a3⟩:=h;subst a1 a3;rw[if_pos rfl];exact⟨rfl,(zLq _ _ _).trans a2,trivial⟩
  | err e p=>
   rw[hx] at h;intro he;obtain⟨a1,a2⟩:=h he;rw[if_neg (by rw[a1]; exact he)];exact⟨a1,a2⟩
end Go.Proofs.YtioffpjajhalaaaGreatDoor
