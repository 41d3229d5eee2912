/- interlocklaw06.plain, and of interlockref06: bracket, Mark, either, ahead: walked. (and what follows of it). The conditions stand at each lemma. -/
import Derived.Test.YtioffpjajhalaaaGreatDoorLaa
import Derived.Test.YtioffpjajhalaaaGreatDoorLax
import Derived.Test.YtioffpjajhalaaaGreatDoorLal
import Derived.Test.YtioffpjajhalaaaGreatDoorLaw
import Derived.BigQuiet
import Derived.Deep.CutRange
set_option linter.unusedVariables false
set_option linter.unusedSimpArgs false
set_option maxRecDepth 100000
set_option maxHeartbeats 16000000
namespace Go.Proofs.YtioffpjajhalaaaGreatDoor
open Go Go.RowKit
theorem xZ (a b:Bs):yX (a++b)=yX a++yX b:=by
 apply ByteArray.ext;simp[yX]
theorem zPQ {w:World}{B N:Nat}{t:TypeId}{sz n:Nat}{v:Value}{xs:List Value}(h:w.ownsRow B t sz v n xs)(hN:N≤B):w.ownsRow N t sz v n xs:=by
 refine⟨h.1,?_⟩
 rcases h.2 with hn | ⟨g,AA,AB,hv,hb,r⟩
 ·exact .inl hn
 ·exact .inr ⟨g,AA,AB,hv,Nat.le_trans hN hb,r⟩
theorem zOc:(Tryz.prog.info? 100).map (fun i=>(i.zero,i.size,i.bytes))=some (some (.agg #[.int .u8 0,.int .i64 0,.string ⟨#[]⟩,.int .i64 0,.slice none 0 0]),5,64):=by kernel_rfl
theorem zMP (A:Option Addr)(nh:List TT.xB)(n c:Nat)(w:World)(hn:n=nh.length)(h9:nh.length≤9000)(ht:TT.vV w A nh) :
  Calls Tryz.prog 25 #[.agg #[.slice A n c]] w fun e w'=>∃A' c',e=.returned (.slice A' nh.length c')∧w'.ownsRow w.heap.size 100 5 (.slice A' nh.length c') nh.length (TT.YN nh)∧Ext w w':=by
 subst hn;have HT:=yD ht;clear ht;obtain⟨i1,AT,AV,AP,AW⟩:=info_parts zOc
 go_enter Tryz.func25,Tryz.ntmps25
 go_upto_region 1 with fail
 have AE:Hid (Ext w (w.alloc (.cells #[.slice A nh.length c] 39))):=yD (Ext.alloc _ _);have AK:Hid (Blk (w.alloc (.cells #[.slice A nh.length c] 39)) w.heap.size 39 #[.slice A nh.length c]):=yD (Blk.new _ _ _);generalize w.alloc (.cells #[.slice A nh.length c] 39)=w1 at *;obtain⟨g,HG⟩:∃g,Hid (w.heap.size=g):=⟨_,yD rfl⟩;rw[HG.out] at AK ⊢
 go_wp2_with fail
 go_loopw [3,4] (fun s i' wr=>∃(k c':Nat) (A':Option Addr),k≤nh.length∧i'=.int .i64 k∧s=.slice A' k c'∧Hid (wr.ownsRow w1.heap.size 100 5 (.slice A' k c') k (TT.YN (nh.take k)))∧Hid (Ext w1 wr)) (fun _ i' _=>nh.length-(intOf i').toNat)
 case atStart=>exact⟨0,0,none,zT _,rfl,rfl,yD (zP _ _ _ _),yD (Ext.refl _)⟩
 case round=>
  obtain⟨k,c',A',hk,rfl,rfl,HO,HX⟩:=hrel;have t0:wr.cell? ⟨g,0,none⟩=some (.slice A nh.length c):=(AK.out.ext HX.out).cell 0
  by_cases AM:k<nh.length
  rotate_left
  ·obtain rfl:k=nh.length:=by omega
   have d0:decide ((nh.length:Int)<(nh.length:Int))=false:=by simp
   have d1:decide (nh.length<nh.length)=false:=by simp
   have AB:Hid (wr.ownsRow w.heap.size 100 5 (.slice A' nh.length c') nh.length (TT.YN nh)):=yD (by have:=HO.out; rw[List.take_length] at this; exact zPQ this AE.out.size)
   go_wp2_with fail
   go_ret;exact⟨A',c',rfl,AB.out,AE.out.trans HX.out⟩
  have d0:decide ((k:Int)<(nh.length:Int))=true:=yP (by omega)
  have q1:(k:Int)<(nh.length:Int):=by omega
  obtain⟨b,AZ,rfl,_,hc⟩:=(HT.out.ext (AE.out.trans HX.out)).at_ k AM;have AO:Hid (TT.YN (nh.take (k+1))=TT.YN (nh.take k)++nh[k].cells):=yD (by rw[zW AM,TT.zJv]);obtain⟨x,AX⟩:∃x,Hid (nh[k]=x):=⟨_,yD rfl⟩;have e0:=hc 0 (by decide);have e1:=hc 1 (by decide);have e2:=hc 2 (by decide);have e3:=hc 3 (by decide);have e4:=hc 4 (by decide);rw[AX.out] at e0 e1 e2 e3 e4 AO;clear hc;unfold TT.xB.cells at e0 e1 e2 e3 e4;simp only[yJ,List.getElem?_cons_succ,Nat.add_zero] at e0 e1 e2 e3 e4;have AD:Hid (Ext wr (wr.alloc (.cells x.cells.toArray 48))):=yD (Ext.alloc _ _);have AA:Hid (Blk (wr.alloc (.cells x.cells.toArray 48)) wr.heap.size 48 x.cells.toArray):=yD (Blk.new _ _ _);have AB:Hid ((wr.alloc (.cells x.cells.toArray 48)).ownsRow w1.heap.size 100 5 (.slice A' k c') k (TT.YN (nh.take k))):=yD (zCc HO.out fun b e=>AD.out.block b (XY HO.out (vQ HO.out e)).2);have AC:=yD (HX.out.trans AD.out);unfold TT.xB.cells at AD AA AB AC
  go_upto_region 6 with fail
  clear e0 e1 e2 e3 e4 t0 AD;generalize wr.heap.size=g2 at *;obtain⟨w2,AF⟩:∃w2,Hid (wr.alloc (.cells (([.int .u8 x.kind,.int .i64 x.pos,.string x.text,.int .i64 x.num,.slice x.kA x.kids.length x.kc]:List Value)).toArray 48)=w2):=⟨_,yD rfl⟩;rw[AF.out] at AA AB AC;have AN:wr.alloc (.cells #[.int .u8 x.kind,.int .i64 x.pos,.string x.text,.int .i64 x.num,.slice x.kA x.kids.length x.kc] 48)=w2:=AF.out;rw[AN];clear AN AF;have y0:w2.cell? ⟨g2,0,none⟩=some (.int .u8 x.kind):=AA.out.cell 0;have y1:w2.cell? ⟨g2,1,none⟩=some (.int .i64 x.pos):=AA.out.cell 1;have y2:w2.cell? ⟨g2,2,none⟩=some (.string x.text):=AA.out.cell 2;have y3:w2.cell? ⟨g2,3,none⟩=some (.int .i64 x.num):=AA.out.cell 3;have y4:w2.cell? ⟨g2,4,none⟩=some (.slice x.kA x.kids.length x.kc):=AA.out.cell 4;have AJ:Hid (Ext w2 (w2.alloc (.cells #[.int .u8 x.kind,.int .i64 x.pos,.string x.text,.int .i64 x.num,.slice x.kA x.kids.length x.kc] 100))):=yD (Ext.alloc _ _);have AI:Hid ((w2.alloc (.cells #[.int .u8 x.kind,.int .i64 x.pos,.string x.text,.int .i64 x.num,.slice x.kA x.kids.length x.kc] 100)).ownsRow w1.heap.size 100 5 (.slice A' k c') k (TT.YN (nh.take k))):=yD (zCc AB.out fun b e=>AJ.out.block b (XY AB.out (vQ AB.out e)).2);have AQ:Hid (Blk (w2.alloc (.cells #[.int .u8 x.kind,.int .i64 x.pos,.string x.text,.int .i64 x.num,.slice x.kA x.kids.length x.kc] 100)) w2.heap.size 100 x.cells.toArray):=yD (Blk.new _ _ _);have AG:=yD (AC.out.trans AJ.out)
  have AR:Hid (Cells (w2.alloc (.cells #[.int .u8 x.kind,.int .i64 x.pos,.string x.text,.int .i64 x.num,.slice x.kA x.kids.length x.kc] 100)) (some ⟨w2.heap.size,0,none⟩) x.cells):=yD (zQu AQ.out)
  go_wp2_with (at_builtin; refine XP rfl (.tmp 18) (.tmp 30) 52 rfl w1.heap.size 100 i1 _ 5 64 Tryz.underlying52 AT AV AP AW rfl (by decide) (.slice A' k c') k (TT.YN (nh.take k)) rfl AI.out (some ⟨w2.heap.size,0,none⟩) 1 1 x.cells rfl (fun h=>by cases h) rfl AR.out (by simp[TT.xB.cells,Value.oneCell']) (by unfold maxLen; omega) (by omega) AG.out.size ?_)
  intro A2 c2 w9 AY AL AH;have AS:Hid (w9.ownsRow w1.heap.size 100 5 (.slice A2 (k+1) c2) (k+1) (TT.YN (nh.take (k+1)))):=yD (by rw[AO.out]; exact AL);have AU:Hid (Ext w1 w9):=yD (Below.grown AG.out AH AG.out.size (fun b hb=>(AI.out.lt b hb).1));clear AL AH AY y0 y1 y2 y3 y4
  go_wp2_with fail
  go_roundw
  case rel=>exact⟨k+1,c2,A2,by omega,by go_num,rfl,AS,AU⟩
  case measure=>simp[intOf] <;> omega
def VF (k:Nat)(second:Bool)(part:Nat):Bool:=if k=26 then (part==23||part==24)||part==25 else if k=25 then (part==23||part==24)||(second&&part==25) else second&&(part==23||part==24)
theorem zK6 (k part:Nat)(second:Bool)(w:World):Calls Tryz.prog 62 #[.int .u8 (k:Int),.bool second,.int .u8 (part:Int)] w fun e w'=>e=.returned (.bool (VF k second part))∧w=w':=by
 have AJ:((part:Int)==23)=(part==23):=by rw[Bool.eq_iff_iff,zN,zN]; omega
 have AK:((part:Int)==24)=(part==24):=by rw[Bool.eq_iff_iff,zN,zN]; omega
 have AI:((part:Int)==25)=(part==25):=by rw[Bool.eq_iff_iff,zN,zN]; omega
 obtain⟨r,HR⟩:∃r,Hid (VF k second part=r):=⟨_,yD rfl⟩;rw[HR.out];unfold VF at HR;generalize (part==23)=AB at *;generalize (part==24)=AC at *;generalize (part==25)=AE at *
 go_enter Tryz.func62,Tryz.ntmps62
 by_cases AF:k=26
 ·subst AF;have AA:=HR.out;rw[if_pos rfl] at AA;subst AA
  cases AB <;> cases AC <;> cases AE <;> (go_wp2_with fail; go_ret; exact⟨rfl,rfl⟩)
 have AG:((k:Int)==26)=false:=by rw[yF]; omega
 by_cases AD:k=25
 ·subst AD;have AA:=HR.out;rw[if_neg (by decide),if_pos rfl] at AA;subst AA
  cases AB <;> cases AC <;> cases AE <;> cases second <;> (go_wp2_with fail; go_ret; exact⟨rfl,rfl⟩)
 have AH:((k:Int)==25)=false:=by rw[yF]; omega
 have AA:=HR.out;rw[if_neg AF,if_neg AD] at AA;subst AA
 cases AB <;> cases AC <;> cases second <;> (go_wp2_with fail; go_ret; exact⟨rfl,rfl⟩)
def zFv (k:Nat):Bs:=if k=23 then [32,43,32] else if k=24 then [32,45,32] else [32,42,32]
theorem zQb (k:Nat)(hk:k=23∨k=24∨k=25)(w:World):Calls Tryz.prog 64 #[.int .u8 (k:Int)] w fun e w'=>e=.returned (.string (yX (zFv k)))∧Ext w w':=by
 rcases hk with rfl | rfl | rfl
 all_goals
  go_enter Tryz.func64,Tryz.ntmps64
  go_wp2_with fail
  go_ret;exact⟨rfl,Ext.alloc _ _⟩
theorem JQ (x:Int)(a b:ByteArray)(w:World):Calls Tryz.prog 59 #[.int .i64 x,.string a,.string b] w fun e w'=>e=.returned (.string (if x=1 then b else a))∧w=w':=by
 by_cases h:x=1
 ·subst h
  go_enter Tryz.func59,Tryz.ntmps59
  go_wp2_with fail
  go_ret;exact⟨rfl,rfl⟩
 ·have e0:(x==1)=false:=beq_eq_false_iff_ne.2 h;rw[if_neg h]
  go_enter Tryz.func59,Tryz.ntmps59
  go_wp2_with fail
  go_ret;exact⟨rfl,rfl⟩
theorem YI (d:Nat)(hd:d≤1000000)(w:World):Calls Tryz.prog 146 #[.int .i64 (d:Int)] w fun e w'=>e=.returned (.string (yX (List.replicate d 9)))∧w=w':=by
 go_enter Tryz.func146,Tryz.ntmps146
 go_wp2_with fail
 go_loopw [3,4] (fun s i wr=>∃k:Nat,k≤d∧i=.int .i64 k∧s=.string (yX (List.replicate k 9))∧Hid (wr=w)) (fun _ i _=>d-(intOf i).toNat)
 case atStart=>exact⟨0,zT _,rfl,rfl,yD rfl⟩
 case round=>
  obtain⟨k,hk,rfl,rfl,HW⟩:=hrel;have hw:w=_:=HW.out.symm;subst hw
  by_cases AD:k<d
  ·have d0:decide ((k:Int)<(d:Int))=true:=yP (by omega)
   have HS:Hid ((yX (List.replicate k 9)).size=k∧yX (List.replicate k 9)++⟨#[9]⟩=yX (List.replicate (k+1) 9)):=yD ⟨by simp[yX,ByteArray.size],by
    rw[List.replicate_succ',xZ]
    rfl⟩
   obtain⟨AB,AA⟩:=HS.out
   have AC:¬(9223372036854775807<(yX (List.replicate k 9)).size+1):=by rw[AB]; omega
   have HE:=yD AA;clear AB AA HS;obtain⟨s,hs⟩:∃s,yX (List.replicate k 9)=s:=⟨_,rfl⟩;rw[hs] at AC HE ⊢;clear hs
   go_wp2_with fail
   go_roundw
   case rel=>exact⟨k+1,by omega,by go_num,by rw[←HE.out],by first | exact yD rfl | exact yD trivial⟩
   case measure=>simp[intOf]; omega
  ·obtain rfl:d=k:=by omega
   have d0:decide ((d:Int)<(d:Int))=false:=by simp
   have d1:decide (d<d)=false:=by simp
   go_wp2_with fail
   go_ret;exact⟨rfl,rfl⟩
def XB (k:Nat)(kk:List Nat)(ls:List Bs)(j:Nat):Bs:=if (k != 20&&VF k (j==1) (kk.getD j 0))=true then [40]++ls.getD j []++[41] else ls.getD j []
def zCr (k:Nat)(kk:List Nat)(ls:List Bs)(n:Nat):List Bs:=(List.range n).map (XB k kk ls)
theorem zK9 (k:Nat)(kk:List Nat)(ls:List Bs)(n:Nat):zCr k kk ls (n+1)=zCr k kk ls n++[XB k kk ls n]:=by
 unfold zCr;rw[List.range_succ,List.map_append]
 rfl
theorem zAw (n part:Nat)(s:Bs):jE n part s=if YO part<n then [40]++s++[41] else s:=rfl
theorem zO0 (k:Nat)(t:Bs)(x:Int)(ls:List Bs)(kk:List Nat)(h:k=23∨k=24∨k=25):XB k kk ls 0++zFv k++XB k kk ls 1=YH k t x ls kk:=by
 have b1:∀p:Nat,¬(YO p<1):=fun p=>by
  unfold YO
  split
  ·omega
  ·split <;> omega
 have b2:∀p:Nat,(YO p<2)↔((p==23||p==24)=true):=fun p=>by
  unfold YO;rw[Bool.or_eq_true,zN,zN]
  split
  ·omega
  ·split <;> omega
 have b3:∀p:Nat,(YO p<3)↔((p==23||p==24||p==25)=true):=fun p=>by
  unfold YO;rw[Bool.or_eq_true,Bool.or_eq_true,zN,zN,zN]
  split
  ·omega
  ·split <;> omega
 rcases h with rfl | rfl | rfl
 ·show _=jE 1 (kk.getD 0 0) (ls.getD 0 [])++[32,43,32]++jE 2 (kk.getD 1 0) (ls.getD 1 [])
  rw[zAw,zAw,if_neg (b1 _)];unfold XB VF;simp[b2,zFv]
 ·show _=jE 1 (kk.getD 0 0) (ls.getD 0 [])++[32,45,32]++jE 2 (kk.getD 1 0) (ls.getD 1 [])
  rw[zAw,zAw,if_neg (b1 _)];unfold XB VF;simp[b2,zFv]
 ·show _=jE 2 (kk.getD 0 0) (ls.getD 0 [])++[32,42,32]++jE 3 (kk.getD 1 0) (ls.getD 1 [])
  rw[zAw,zAw];unfold XB VF;simp[b2,b3,zFv]
theorem zO7 (t:Bs)(x:Int)(ls:List Bs)(kk:List Nat):[45]++XB 26 kk ls 0=YH 26 t x ls kk:=by
 have b3:∀p:Nat,(YO p<3)↔((p==23||p==24||p==25)=true):=fun p=>by
  unfold YO;rw[Bool.or_eq_true,Bool.or_eq_true,zN,zN,zN]
  split
  ·omega
  ·split <;> omega
 show _=[45]++jE 3 (kk.getD 0 0) (ls.getD 0 [])
 rw[zAw];unfold XB VF;simp[b3]
theorem zQo:(Tryz.prog.info? 9).map (fun i=>(i.zero,i.size,i.bytes))=some (some (.string ⟨#[]⟩),1,16):=by kernel_rfl
theorem zMH (w:World)(A:Option Addr)(n c:Nat)(L:List TT.xB)(hT:TT.vV w A L)(hpw:PW w)(hn:n=L.length)(i:Nat)(m:TT.xB)(hm:L[i]?=some m)(k:Nat)(t:Bs)(x:Int)(ks kk:List Nat)(ls:List Bs)
  (hk:m.kind=(k:Int)) (ht:m.text=yX t) (hx:m.num=x) (hks:m.kids=xG ks) (hnk:ZY k t x kk) (AQ:20≤k) (hkl:kk.length=ks.length) (hll:ls.length=ks.length)
  (hkid:∀j (hj:j<ks.length),∃y,L[ks[j]]?=some y∧y.kind=((kk.getD j 0:Nat):Int)∧∀w',Ext w w'→Calls Tryz.prog 29 #[.slice A n c,.int .i64 (ks[j]:Int)] w' fun e Ad=>e=.returned (.string (yX (ls.getD j [])))∧Ext w' Ad)
  (hs:vR ls+t.length≤1099511627776) (hsz:ks.length≤100000) :
  Calls Tryz.prog 29 #[.slice A n c,.int .i64 (i:Int)] w fun e w'=>e=.returned (.string (yX (YH k t x ls kk)))∧Ext w w':=by
 subst hn hx;obtain⟨i0,hi,BH,BF,A5⟩:=info_parts zQo;have AZ:i<L.length:=(List.getElem?_eq_some_iff.1 hm).1
 have Av:L[i]=m:=by rw[yG AZ] at hm; exact Option.some.inj hm
 obtain⟨tb,tf,hA,BT,hc⟩:=hT.at_ i AZ;rw[Av] at hc;have Ar:Hid (Cells w m.kA (TT.xD m.kids)):=yD (hT.ok m (zY hm)).kids
 have Ap:m.kids.length=ks.length:=by rw[hks]; simp[xG]
 have v0:w.cell? ⟨tb,tf+i*5,none⟩=some (.int .u8 (k:Int)):=by rw[←hk]; exact hc 0 (by decide)
 have v1:w.cell? ⟨tb,tf+i*5+1,none⟩=some (.int .i64 m.pos):=hc 1 (by decide)
 have v2:w.cell? ⟨tb,tf+i*5+2,none⟩=some (.string (yX t)):=by rw[←ht]; exact hc 2 (by decide)
 have v3:w.cell? ⟨tb,tf+i*5+3,none⟩=some (.int .i64 m.num):=hc 3 (by decide)
 have v4:w.cell? ⟨tb,tf+i*5+4,none⟩=some (.slice m.kA ks.length m.kc):=by rw[←Ap]; exact hc 4 (by decide)
 have q0:(i:Int)<(L.length:Int):=by omega
 have Ai:=yD hkid;have AN:=yD hks;have HT:=yD hT;have BI:=yD hpw;have Ab:=yD hnk;have Ba:=yD hll;have HS:=yD hs
 have HN:Hid (0≤m.num∧m.num≤2147483647):=yD (by
  obtain⟨_,_,h3,_⟩:=hnk;unfold TT.vL at h3;simp only[zF,zE] at h3
  have:=h3.2.2
  unfold TT.zBB at this
  split at this
  ·omega
  ·split at this <;> omega)
 have A3:=yD hkl;have BD:=yD AQ;have AI:=hA;clear hc hT hm hk ht hks hnk hkid hs hpw hll Ap hkl AQ AZ Av;subst AI;have AE:Hid (Ext w (w.alloc (.cells #[.int .u8 (k:Int),.int .i64 m.pos,.string (yX t),.int .i64 m.num,.slice m.kA ks.length m.kc] 100))):=yD (Ext.alloc _ _);have A8:Hid (Blk (w.alloc (.cells #[.int .u8 (k:Int),.int .i64 m.pos,.string (yX t),.int .i64 m.num,.slice m.kA ks.length m.kc] 100)) w.heap.size 100 #[.int .u8 (k:Int),.int .i64 m.pos,.string (yX t),.int .i64 m.num,.slice m.kA ks.length m.kc]):=yD (Blk.new _ _ _);generalize hmA:m.kA=kA at *;generalize m.kc=kc at *;generalize m.pos=pos at *;generalize m.num=x at *;generalize htt:yX t=tt at *
 go_enter Tryz.func29,Tryz.ntmps29
 go_upto_region 2 with fail
 clear v0 v1 v2 v3 v4 q0;generalize w.heap.size=gn at *;generalize w.alloc (.cells #[.int .u8 (k:Int),.int .i64 pos,.string tt,.int .i64 x,.slice kA ks.length kc] 100)=w1 at *
 go_wp2_with fail
 go_loopw [6,7] (fun lv iv wr=>∃(j:Nat) (A':Option Addr) (c':Nat),j≤ks.length∧iv=.int .i64 j∧lv=.slice A' j c'∧Hid (Ext w1 wr)∧Hid (wr.ownsRow w1.heap.size 9 1 (.slice A' j c') j (YE (zCr k kk ls j)))) (fun _ iv _=>ks.length-(intOf iv).toNat)
 case atStart=>exact⟨0,none,0,zT _,rfl,rfl,yD (Ext.refl _),yD (zP _ _ _ _)⟩
 case round=>
  obtain⟨j,A',c',hj,rfl,rfl,HX,HO⟩:=hrel;obtain⟨wa,rfl⟩:∃wa:World,wa=wr:=⟨_,rfl⟩;have AM:=yD (A8.out.ext HX.out);have n4:wa.cell? ⟨gn,4,none⟩=some (.slice kA ks.length kc):=AM.out.cell 4
  by_cases AK:j<ks.length
  ·have d0:decide ((j:Int)<(ks.length:Int))=true:=yP (by omega)
   have q1:(j:Int)<(ks.length:Int):=by omega
   obtain⟨kb,kf,BE,BL,Ax⟩:=(Ar.out.ext (AE.out.trans HX.out)).at_ (by rw[AN.out]; simp[TT.xD,xG]; omega)
   have e5:wa.cell? ⟨kb,kf+j,none⟩=some (.int .i64 (ks[j]:Int)):=by
    rw[Ax j (by rw[AN.out]; simp[TT.xD,xG]; exact AK),AN.out];simp[TT.xD,xG,AK]
   obtain⟨y,hy,Az,Ay⟩:=Ai.out j AK;have AR:=yD Ay;have Al:=yD Az;have HY:=yD hy;have AO:=yD AK;have AG:ks[j]<L.length:=(List.getElem?_eq_some_iff.1 hy).1;clear Ax hy Az Ay;obtain⟨kj,AP⟩:∃kj:Nat,ks[j]'AK=kj:=⟨_,rfl⟩;have BA:Hid (ks[j]?=some kj):=yD (by rw[yG AK,AP])
   replace e5:wa.cell? ⟨kb,kf+j,none⟩=some (.int .i64 (kj:Int)):=by rw[←AP]; exact e5
   replace AR:Hid (∀w',Ext w w'→Calls Tryz.prog 29 #[.slice (some ⟨tb,tf,none⟩) L.length c,.int .i64 (kj:Int)] w' fun e Ad=>e=.returned (.string (yX (ls.getD j [])))∧Ext w' Ad):=by rw[←AP]; exact AR
   replace HY:Hid (L[kj]?=some y):=by rw[←AP]; exact HY
   replace AG:kj<L.length:=by rw[←AP]; exact AG
   clear AP;subst BE;obtain⟨lj,AW⟩:∃lj,Hid (ls.getD j []=lj):=⟨_,yD rfl⟩;rw[AW.out] at AR;clear AK
   go_wp2_with fail
   refine(AR.out wa (AE.out.trans HX.out)).mono ?_;rintro e w2 ⟨rfl,AY⟩;have Af:=yD (HX.out.trans AY);have BJ:=yD (zCs HO.out AY);have At:=yD (AM.out.ext AY);clear AY n4 e5 d0
   go_upto_region 7 with fail
   have BV:Hid (kk.getD j 0<256):=yD (by
    have h:=Ab.out
    have:=(HT.out.ok y (zY HY.out)).kind.2
    rw[Al.out] at this
    omega)
   obtain⟨pk,Aq⟩:∃pk,Hid (kk.getD j 0=pk):=⟨_,yD rfl⟩;obtain⟨BO,BY,AI,Ag,As⟩:=(HT.out.ext (AE.out.trans Af.out)).at_ kj AG;injection AI with AI;injection AI with AI hA3;subst AI hA3
   have v0:w2.cell? ⟨tb,tf+kj*5,none⟩=some (.int .u8 (pk:Int)):=by
    have h:=As 0 (by decide)
    have A1:L[kj]=y:=by have h:=HY.out; rw[yG AG] at h; exact Option.some.inj h
    rw[A1] at h;rw[←Aq.out,←Al.out];exact h
   clear As Ag;have n0:w2.cell? ⟨gn,0,none⟩=some (.int .u8 (k:Int)):=At.out.cell 0;have n4:w2.cell? ⟨gn,4,none⟩=some (.slice (some ⟨kb,kf,none⟩) ks.length kc):=At.out.cell 4
   have e5:w2.cell? ⟨kb,kf+j,none⟩=some (.int .i64 (kj:Int)):=by
    obtain⟨BS,BX,AJ,_,Ac⟩:=(Ar.out.ext (AE.out.trans Af.out)).at_ (by rw[AN.out]; simp[TT.xD,xG]; have:=AO.out; omega);injection AJ with AJ;injection AJ with hk2 hk3;subst hk2 hk3;rw[Ac j (by rw[AN.out]; simp[TT.xD,xG]; exact AO.out),AN.out];simp[TT.xD,xG,BA.out]
   have q2:(kj:Int)<(L.length:Int):=by omega
   obtain⟨bq,AX⟩:∃bq,Hid ((k != 20&&VF k (j==1) pk)=bq):=⟨_,yD rfl⟩
   go_cut [45] from 27 to 46 (fun s wx=>s=.bool bq∧Hid (Ext w2 wx))
   case first=>
    by_cases AQ:k=20
    ·subst AQ;have hb:bq=false:=AX.out.symm;subst hb
     go_wp2_with fail
     go_quiet (fail)
     go_wp2_with fail
     go_meet
     exact⟨rfl,yD ⟨rfl,rfl,rfl,zU _,fun _ _=>rfl⟩⟩
    ·have BW:((k:Int)==20)=false:=beq_eq_false_iff_ne.2 (by omega)
     have BP:((k:Int) != 20)=true:=by rw[zD]; omega
     have ej:((j:Int)==1)=(j==1):=by rw[Bool.eq_iff_iff,zN,zN]; omega
     have hb:VF k (j==1) pk=bq:=by
      have:=AX.out
      rw[show(k != 20)=true by rw[zD]; exact AQ,Bool.true_and] at this;exact this
     have Au:=yD (fun w=>zK6 k pk (j==1) w);rw[hb] at Au;generalize (j==1)=j1 at *
     go_wp2_with fail
     go_quiet ((go_at_call 62; exact Calls.quiet_of_same ((Au.out _).mono fun e w' h=>⟨h.1,h.2.symm⟩)))
     go_wp2_with fail
     go_meet
     exact⟨rfl,yD ⟨rfl,rfl,rfl,zU _,fun _ _=>rfl⟩⟩
   case rest=>
   obtain⟨rfl,Aa⟩:=hcut;generalize wc=w3 at *;have Ah:=yD (Af.out.trans Aa.out);have A0:=yD (zCs BJ.out Aa.out);have Am:Hid (lj.length≤1099511627776∧(yX lj).size=lj.length):=yD ⟨by have:=jF ls j; have:=HS.out; rw[AW.out] at *; omega,by simp[yX,ByteArray.size]⟩;obtain⟨pj,Ak⟩:∃pj,Hid (XB k kk ls j=pj):=⟨_,yD rfl⟩
   have AT:Hid (yX pj=if bq=true then (⟨#[40]⟩:ByteArray)++yX lj++⟨#[41]⟩ else yX lj):=yD (by
    rw[←Ak.out];unfold XB;rw[Aq.out,AX.out,AW.out]
    split
    ·rw[xZ,xZ]; rfl
    ·rfl)
   clear n0 n4 e5 v0 q2 Aa;have AH:=AT.out;obtain⟨l1,l2⟩:=Am.out
   have AC:¬(9223372036854775807<1+(yX lj).size):=by omega
   have AD:¬(9223372036854775807<1+(yX lj).size+1):=by omega
   clear AT AR AX Am AW;generalize yX lj=sl at *
   cases bq
   all_goals
    first | rw[if_pos rfl] at AH | rw[if_neg (by decide)] at AH
    have AT:=yD AH;clear AH
    go_wp2_with (at_builtin; refine XP rfl (.tmp 49) (.tmp 51) 33 rfl w1.heap.size 9 i0 (.string ⟨#[]⟩) 1 16 Tryz.underlying33 hi BH BF A5 rfl (by decide) (.slice A' j c') j (YE (zCr k kk ls j)) rfl (A0.out.alloc _) (some ⟨w3.heap.size,0,none⟩) 1 1 [.string (yX pj)] rfl (fun h=>by cases h) rfl ?c1 ?c2 ?c3 ?c4 ?c5 ?_)
    case c1=>rw[AT.out]; exact Cells.new w3 9 #[_]
    case c2=>first | rfl | (intro u hu; simp at hu; subst hu; rfl)
    case c3=>have:=AO.out; unfold maxLen; omega
    case c4=>have:=AO.out; omega
    case c5=>have:=Ah.out.size; simp; omega
    intro A2 c2 w4 A6 Aw Aj
    have BB:Hid (w4.ownsRow w1.heap.size 9 1 (.slice A2 (j+1) c2) (j+1) (YE (zCr k kk ls (j+1)))):=yD (by
     rw[zK9,Ak.out]
     simpa [YE] using Aw)
    have BG:Hid (Ext w1 w4):=yD (Below.grown (Ah.out.trans (Ext.alloc _ _)) Aj (by have:=Ah.out.size; simp; omega) (fun q hq=>(A0.out.lt q hq).1));clear A6 Aw Aj
    go_wp2_with fail
    go_roundw
    case rel=>exact⟨j+1,A2,c2,by have:=AO.out; omega,by go_num,rfl,BG,BB⟩
    case measure=>simp[intOf]; have:=AO.out; omega
  obtain rfl:j=ks.length:=by omega
  have d0:decide ((ks.length:Int)<(ks.length:Int))=false:=by simp
  have d1:decide (ks.length<ks.length)=false:=by simp
  have n0:wa.cell? ⟨gn,0,none⟩=some (.int .u8 (k:Int)):=AM.out.cell 0;have n2:wa.cell? ⟨gn,2,none⟩=some (.string tt):=AM.out.cell 2;have n3:wa.cell? ⟨gn,3,none⟩=some (.int .i64 x):=AM.out.cell 3;have BK:=yD (Cells.own HO.out)
  have AS:∀q,q<ks.length→∃rb ro,A'=some ⟨rb,ro,none⟩∧rb<wa.heap.size∧wa.cell? ⟨rb,ro+q,none⟩=some (.string (yX (XB k kk ls q))):=fun q hq=>by
   obtain⟨rb,ro,e,hb,hc⟩:=BK.out.at_ (by simp[YE,zCr]; omega);refine⟨rb,ro,e,hb,?_⟩;rw[hc q (by simp[YE,zCr]; exact hq)];simp[YE,zCr,hq]
  have An:∀q,(yX (XB k kk ls q)).size≤1099511627780:=fun q=>by
   have h1:=jF ls q;have h2:=HS.out
   have h3:(yX (XB k kk ls q)).size=(XB k kk ls q).length:=by simp[yX,ByteArray.size]
   rw[h3];unfold XB
   split
   ·simp only[yM,zJ,zK]; omega
   ·omega
  have BZ:tt.size≤1099511627776:=by
   rw[←htt,show(yX t).size=t.length by simp[yX,ByteArray.size]]
   have:=HS.out
   omega
  have AF:=yD AS;have AU:=yD An;have AL:=Ab.out.2.2.2;have BC:=A3.out
  have A4:k=20∨k=21∨k=22∨(k=23∨k=24∨k=25)∨k=26:=by have:=BD.out; have:=Ab.out.2.1; omega
  clear AS An
  rcases A4 with rfl | rfl | rfl | h3 | rfl
  ·
   have h1:ks.length=1:=by
    have:=ZF (l:=xG kk) (want:=[0]) AL
    simp[xG] at this;omega
   obtain⟨rb,ro,rfl,AV,r0⟩:=AF.out 0 (by omega);have hp:=AU.out 0
   have AA:Hid (yX (YH 20 t x ls kk)=tt++⟨#[91]⟩++yX (XB 20 kk ls 0)++⟨#[93]⟩):=yD (by
    rw[←htt]
    show yX (t++[91]++ls.getD 0 []++[93])=_
    rw[xZ,xZ,xZ]
    rfl)
   have AC:¬(9223372036854775807<tt.size+1):=by omega
   have AD:¬(9223372036854775807<tt.size+1+(yX (XB 20 kk ls 0)).size):=by omega
   have BM:¬(9223372036854775807<tt.size+1+(yX (XB 20 kk ls 0)).size+1):=by omega
   have q3:(0:Int)<(ks.length:Int):=by omega
   rw[Nat.add_zero] at r0;generalize yX (XB 20 kk ls 0)=s0 at *
   go_wp2_with fail
   go_quiet (fail)
   go_wp2_with fail
   go_ret;exact⟨by rw[AA.out]; rfl,(AE.out.trans HX.out).trans ⟨rfl,rfl,rfl,zU _,fun _ _=>rfl⟩⟩
  ·
   have AA:Hid (YH 21 t x ls kk=Lib.itoa x):=yD rfl;have BQ:=HN.out
   go_wp2_with fail
   refine(zNt x (by omega) (by omega) wa (BI.out.ext (AE.out.trans HX.out))).mono ?_;rintro e w9 ⟨rfl,Ae⟩
   go_wp2_with fail
   go_ret;exact⟨by rw[AA.out]; rfl,AE.out.trans (HX.out.trans Ae)⟩
  ·
   have AA:Hid (YH 22 t x ls kk=t):=yD rfl
   go_wp2_with fail
   go_ret;exact⟨by rw[AA.out,htt]; rfl,AE.out.trans HX.out⟩
  ·
   have h2:ks.length=2:=by
    have h:TT.isR (xG kk) [0,0]=true:=by rcases h3 with rfl | rfl | rfl <;> exact AL
    have:=ZF (l:=xG kk) (want:=[0,0]) h
    simp[xG] at this;omega
   obtain⟨rb,ro,rfl,AV,r0⟩:=AF.out 0 (by omega);obtain⟨Bc,BR,e2,_,r1⟩:=AF.out 1 (by omega);injection e2 with e2;injection e2 with e2 e3;subst e2 e3;have BU:=AU.out 0;have BN:=AU.out 1
   have AA:Hid (yX (YH k t x ls kk)=yX (XB k kk ls 0)++yX (zFv k)++yX (XB k kk ls 1)):=yD (by
    rw[←xZ,←xZ]
    congr 1
    exact(zO0 k t x ls kk h3).symm)
   have A9:Hid ((yX (zFv k)).size=3):=yD (by rcases h3 with rfl | rfl | rfl <;> rfl)
   have A7:=yD (fun w=>zQb k h3 w);have Bb:=A9.out;rw[Nat.add_zero] at r0;generalize yX (XB k kk ls 0)=s0 at *;generalize yX (XB k kk ls 1)=s1 at *;generalize yX (zFv k)=sm at *
   have AC:¬(9223372036854775807<s0.size+sm.size):=by omega
   have AD:¬(9223372036854775807<s0.size+sm.size+s1.size):=by omega
   have q3:(0:Int)<(ks.length:Int):=by omega
   have q4:(1:Int)<(ks.length:Int):=by omega
   have q5:0<ks.length:=by omega
   have q6:1<ks.length:=by omega
   have k1:((k:Int)==20)=false:=beq_eq_false_iff_ne.2 (by omega);have k2:((k:Int)==21)=false:=beq_eq_false_iff_ne.2 (by omega);have k3:((k:Int)==22)=false:=beq_eq_false_iff_ne.2 (by omega);have k4:((k:Int)==26)=false:=beq_eq_false_iff_ne.2 (by omega)
   go_upto_region 19 with fail
   have Ao:=AM.out.lt;apply xY (by kernel_rfl) (by kernel_rfl) (by kernel_rfl);apply yZ (.slice (some ⟨rb,ro,none⟩) ks.length c') rfl rfl rfl
   ·intro w' AB hH;clear hH;simp[yY,go_sem,q3,q4,q5,q6,AC,AD];exact Ext.refl _
   apply yZ (.pointer (some ⟨rb,ro,none⟩)) rfl rfl rfl
   ·intro w' AB hH;clear hH;simp[yY,go_sem,q3,q4,q5,q6,AC,AD];exact Ext.refl _
   apply yZ (.string s0) rfl rfl rfl
   ·intro w' AB hH;clear hH;have z0:=(AB.cell (p:=⟨rb,ro,none⟩) AV).trans r0;simp[yY,go_sem,q3,q4,q5,q6,AC,AD,z0];exact Ext.refl _
   apply yZ (.pointer (some ⟨gn,0,none⟩)) rfl rfl rfl
   ·intro w' AB hH;clear hH;simp[yY,go_sem,q3,q4,q5,q6,AC,AD];exact Ext.refl _
   apply yZ (.int .u8 (k:Int)) rfl rfl rfl
   ·intro w' AB hH;clear hH;have z0:=(AB.cell (p:=⟨gn,0,none⟩) Ao).trans n0;simp[yY,go_sem,q3,q4,q5,q6,AC,AD,z0];exact Ext.refl _
   apply yZ (.string sm) rfl rfl rfl
   ·intro w' AB hH;clear hH;simp[yY,go_sem];refine(A7.out w').mono ?_;rintro e w2 ⟨rfl,hx⟩;exact⟨_,rfl,rfl,hx⟩
   apply yZ (.string (s0++sm)) rfl rfl rfl
   ·intro w' AB hH;clear hH;simp[yY,go_sem,q3,q4,q5,q6,AC,AD];exact Ext.refl _
   apply yZ (.slice (some ⟨rb,ro,none⟩) ks.length c') rfl rfl rfl
   ·intro w' AB hH;clear hH;simp[yY,go_sem,q3,q4,q5,q6,AC,AD];exact Ext.refl _
   apply yZ (.pointer (some ⟨rb,ro+1,none⟩)) rfl rfl rfl
   ·intro w' AB hH;clear hH;simp[yY,go_sem,q3,q4,q5,q6,AC,AD];exact Ext.refl _
   apply yZ (.string s1) rfl rfl rfl
   ·intro w' AB hH;clear hH;have z0:=(AB.cell (p:=⟨rb,ro+1,none⟩) AV).trans r1;simp[yY,go_sem,q3,q4,q5,q6,AC,AD,z0];exact Ext.refl _
   apply yZ (.string (s0++sm++s1)) rfl rfl rfl
   ·intro w' AB hH;clear hH;simp[yY,go_sem,q3,q4,q5,q6,AC,AD];exact Ext.refl _
   apply yZ (.string (s0++sm++s1)) rfl rfl rfl
   ·intro w' AB hH;clear hH;simp[yY,go_sem,q3,q4,q5,q6,AC,AD];exact Ext.refl _
   apply xN;intro w9 Ae hH;clear hH r0 r1 n0 Ao
   try simp only[Act.put,yA,yC,yB]
   go_wp2_with fail
   go_ret;exact⟨by rw[AA.out]; rfl,AE.out.trans (HX.out.trans Ae)⟩
  ·
   have h1:ks.length=1:=by
    have:=ZF (l:=xG kk) (want:=[0]) AL
    simp[xG] at this;omega
   obtain⟨rb,ro,rfl,AV,r0⟩:=AF.out 0 (by omega);have hp:=AU.out 0
   have AA:Hid (yX (YH 26 t x ls kk)=⟨#[45]⟩++yX (XB 26 kk ls 0)):=yD (by
    rw[show YH 26 t x ls kk=[45]++XB 26 kk ls 0 from(zO7 t x ls kk).symm,xZ]
    rfl)
   have AC:¬(9223372036854775807<1+(yX (XB 26 kk ls 0)).size):=by omega
   have q3:(0:Int)<(ks.length:Int):=by omega
   rw[Nat.add_zero] at r0;generalize yX (XB 26 kk ls 0)=s0 at *
   go_wp2_with fail
   go_ret;exact⟨by rw[AA.out]; rfl,AE.out.trans HX.out⟩
def jU (x:Int)(s0 s1:Bs):Bs:=if x=1 then s1 else s0
theorem zEb (w:World)(x:TT.xB)(hx:x.num=0∨x.num=1)(s0 s1:Bs)(lb:Nat)(hb:Blk w lb 9 #[.string (yX s0),.string (yX s1)]) :
  Calls Tryz.prog 43 #[vZ x,.slice (some ⟨lb,0,none⟩) 2 2] w fun e w'=>e=.returned (.string (yX (jU x.num s0 s1)))∧Ext w w':=by
 have AB:Hid (Ext w (w.alloc (.cells #[.int .u8 x.kind,.int .i64 x.pos,.string x.text,.int .i64 x.num,.slice x.kA x.kids.length x.kc] 48))):=yD (Ext.alloc _ _);have AE:Hid (Blk (w.alloc (.cells #[.int .u8 x.kind,.int .i64 x.pos,.string x.text,.int .i64 x.num,.slice x.kA x.kids.length x.kc] 48)) w.heap.size 48 #[.int .u8 x.kind,.int .i64 x.pos,.string x.text,.int .i64 x.num,.slice x.kA x.kids.length x.kc]):=yD (Blk.new _ _ _);have AC:=yD (hb.ext AB.out);clear hb;obtain⟨AD,AA⟩:∃r,Hid (yX (jU x.num s0 s1)=r):=⟨_,yD rfl⟩;rw[AA.out];unfold jU at AA;unfold vZ
 go_enter Tryz.func43,Tryz.ntmps43
 go_upto_region 1 with fail
 generalize w.heap.size=gn at *;generalize w.alloc (.cells #[.int .u8 x.kind,.int .i64 x.pos,.string x.text,.int .i64 x.num,.slice x.kA x.kids.length x.kc] 48)=w1 at *;have n3:w1.cell? ⟨gn,3,none⟩=some (.int .i64 x.num):=AE.out.cell 3;have l0:w1.cell? ⟨lb,0,none⟩=some (.string (yX s0)):=AC.out.cell 0;have l1:w1.cell? ⟨lb,1,none⟩=some (.string (yX s1)):=AC.out.cell 1
 rcases hx with hx | hx
 ·rw[hx] at n3;have HR:Hid (yX s0=AD):=yD (by rw[←AA.out,hx]; rfl);clear AA
  go_wp2_with fail
  go_ret;rw[HR.out];exact⟨rfl,AB.out⟩
 ·rw[hx] at n3;have HR:Hid (yX s1=AD):=yD (by rw[←AA.out,hx]; rfl);clear AA
  go_wp2_with fail
  go_ret;rw[HR.out];exact⟨rfl,AB.out⟩
theorem ZC (w:World)(g n c bp bn:Nat)(A:Option Addr)(L:List TT.xB)(hP:PrT w g n c A L)(x:TT.xB)(hbp:Blk w bp 77 #[.pointer (some ⟨g,0,none⟩)])(hbn:Blk w bn 48 #[.int .u8 x.kind,.int .i64 x.pos,.string x.text,.int .i64 x.num,.slice x.kA x.kids.length x.kc])(hx:Cells w x.kA (TT.xD x.kids))(i k kk:Nat)(hi:i<x.kids.length)(hk:x.kids[i]=(k:Int))(s:Bs)(hy:zCf w g L k kk s) :
  Calls Tryz.prog 138 #[.int .i64 (i:Int),.pointer (some ⟨bp,0,none⟩),.pointer (some ⟨bn,0,none⟩)] w fun e w'=>e=.returned (.string (yX s))∧Ext w w':=by
 obtain⟨y,hy,AJ,HT⟩:=hy;have AE:k<L.length:=(List.getElem?_eq_some_iff.1 hy).1
 have HK:Hid (∀w',Ext w w'→Calls Tryz.prog 40 #[.pointer (some ⟨g,0,none⟩),vZ x,.int .i64 (i:Int)] w' fun e AG=>e=.returned (vZ y)∧Ext w' AG):=yD fun w' AF=>by
  have hp:=hP.ext AF;exact zAl w' g n c A L hp.tree hp.len hp.at0 hp.lt x (hx.ext AF) i k hi hk AE y hy
 have AI:=yD HT;have x0:w.cell? ⟨bp,0,none⟩=some (.pointer (some ⟨g,0,none⟩)):=hbp.cell 0;have AD:=yD hbp.lt;have AC:=yD hbn.lt;have n0:w.cell? ⟨bn,0,none⟩=some (.int .u8 x.kind):=hbn.cell 0;have n1:w.cell? ⟨bn,1,none⟩=some (.int .i64 x.pos):=hbn.cell 1;have n2:w.cell? ⟨bn,2,none⟩=some (.string x.text):=hbn.cell 2;have n3:w.cell? ⟨bn,3,none⟩=some (.int .i64 x.num):=hbn.cell 3;have n4:w.cell? ⟨bn,4,none⟩=some (.slice x.kA x.kids.length x.kc):=hbn.cell 4;unfold vZ at HK;clear hP hbp hbn hx hi hk hy HT AE
 go_enter Tryz.func138,Tryz.ntmps138
 go_upto_region 1 with fail
 apply xY (by kernel_rfl) (by kernel_rfl) (by kernel_rfl);apply yZ (.pointer (some ⟨g,0,none⟩)) rfl rfl rfl
 ·intro w' AA hH;clear hH;have yp:=(AA.cell (p:=⟨bp,0,none⟩) AD.out).trans x0;simp[yY,go_sem,yp];exact Ext.refl _
 apply yZ (.pointer (some ⟨g,0,none⟩)) rfl rfl rfl
 ·intro w' AA hH;clear hH;have yp:=(AA.cell (p:=⟨bp,0,none⟩) AD.out).trans x0;simp[yY,go_sem,yp];exact Ext.refl _
 apply yZ (.agg #[.int .u8 x.kind,.int .i64 x.pos,.string x.text,.int .i64 x.num,.slice x.kA x.kids.length x.kc]) rfl rfl rfl
 ·intro w' AA hH;clear hH;have y0:=(AA.cell (p:=⟨bn,0,none⟩) AC.out).trans n0;have y1:=(AA.cell (p:=⟨bn,1,none⟩) AC.out).trans n1;have y2:=(AA.cell (p:=⟨bn,2,none⟩) AC.out).trans n2;have y3:=(AA.cell (p:=⟨bn,3,none⟩) AC.out).trans n3;have y4:=(AA.cell (p:=⟨bn,4,none⟩) AC.out).trans n4;simp[yY,go_sem,y0,y1,y2,y3,y4];exact Ext.refl _
 apply sQ (.int .i64 (i:Int));apply yZ (vZ y) rfl rfl rfl
 ·intro w' AA hH;clear hH;simp[yY,go_sem];refine(HK.out w' AA).mono ?_;rintro e w2 ⟨rfl,AB⟩;exact⟨_,rfl,rfl,AB⟩
 apply yZ (.string (yX s)) rfl rfl rfl
 ·intro w' AA hH;clear hH;simp[yY,go_sem];refine(AI.out w' AA).mono ?_;rintro e w2 ⟨rfl,AB⟩;exact⟨_,rfl,rfl,AB⟩
 apply sQ (.string (yX s));apply xN;intro w2 AB hH;clear hH
 try simp only[Act.put,yA,yC,yB]
 have AH:=yD AB;clear AB x0 n0 n1 n2 n3 n4
 go_wp2_with fail
 go_ret;exact⟨rfl,AH.out⟩
theorem PrS.ext {w w':World}{B g:Nat}{A:Option Addr}{n c:Nat}{v:Value}{bs:Bs}{d:Nat}(h:PrS w B g A n c v bs d)(hx:Ext w w'):PrS w' B g A n c v bs d:=
 ⟨h.lo,h.blk.imp (fun h=>h.ext hx) (fun h=>h.ext hx),zCs h.own hx⟩
structure VD (w0:World)(B n:Nat)(A:Option Addr)(L:List TT.xB):Prop where
 size:w0.heap.size=B
 tree:TT.vV w0 A L
 len:n=L.length
 tab:PW w0
theorem VD.prT {w0 w:World}{B g n c:Nat}{A:Option Addr}{L:List TT.xB}{v:Value}{bs:Bs}{d:Nat}(h:VD w0 B n A L)(hx:Ext w0 w)(hs:PrS w B g A n c v bs d):PrT w g n c A L:=by
 obtain⟨ad,hb⟩:=hs.any;exact⟨h.tree.ext hx,h.len,hb.cell 0,hb.lt,h.tab.ext hx⟩
theorem VD.ext {w0 w w':World}{B g n:Nat}{A:Option Addr}{L:List TT.xB}(h:VD w0 B n A L)(hx:Ext w0 w)(hm:vS w w' B g)(hg:B≤g):Ext w0 w':=by
 have hs:=h.size;subst hs;exact Below.trans hx (hm.below hg hx.size)
def zBC (w:World)(B g:Nat)(A:Option Addr)(n c:Nat)(bs:Bs)(d:Nat)(w':World):Prop:=(∃v,PrS w' B g A n c v bs d)∧vS w w' B g
def zAk (w0:World)(B g n c:Nat)(A:Option Addr)(y:TT.xB)(D:Nat)(out:Nat→Bs):Prop:=
 ∀(w:World) (v:Value) (bs:Bs) (d:Nat),Ext w0 w→PrS w B g A n c v bs d→d+D≤1000000→bs.length+(out d).length≤140737488355328 →
  Calls Tryz.prog 89 #[.pointer (some ⟨g,0,none⟩),vZ y] w fun e w'=>e=.returned (.tuple #[])∧zBC w B g A n c (bs++out d) d w'
def XX (w0:World)(B g n c:Nat)(A:Option Addr)(y:TT.xB)(D:Nat)(out:Nat→Bs):Prop:=
 ∀(w:World) (v:Value) (bs:Bs) (d:Nat),Ext w0 w→PrS w B g A n c v bs d→d+D≤1000000→bs.length+(out (d+1)).length≤140737488355328 →
  Calls Tryz.prog 44 #[.pointer (some ⟨g,0,none⟩),vZ y] w fun e w'=>e=.returned (.tuple #[])∧zBC w B g A n c (bs++out (d+1)) d w'
theorem PrS.zNY {w:World}{B g:Nat}{A:Option Addr}{n c:Nat}{v:Value}{bs:Bs}{d:Nat}(h:PrS w B g A n c v bs d)(d':Nat):PrS (w.setCell ⟨g,3,none⟩ (.int .i64 (d':Int))) B g A n c v bs d'∧vS w (w.setCell ⟨g,3,none⟩ (.int .i64 (d':Int))) B g:=by
 have hk:∀b,b≠g→(w.setCell ⟨g,3,none⟩ (.int .i64 (d':Int))).heap[b]?=w.heap[b]?:=fun b AA=>zQ _ _ _ _ AA;refine⟨⟨h.lo,h.blk.imp (fun h=>h.put 3 _) (fun h=>h.put 3 _),zCc h.own fun b hb=>hk b fun e=>h.ne (by rw[hb,e])⟩,⟨rfl,rfl,rfl,by simp[World.setCell],fun b _ hM _=>hk b hM⟩⟩
theorem zLt (w0:World)(B g n c:Nat)(A:Option Addr)(L:List TT.xB)(hB:VD w0 B n A L)(x:TT.xB)(hx:Cells w0 x.kA (TT.xD x.kids))(ks:List Nat)(hks:x.kids=xG ks)(AG:ks.length≤100000)(D:Nat)(outs:Nat→List Bs)(hlo:∀d,(outs d).length=ks.length)
  (HK:∀j (hj:j<ks.length),∃y,L[ks[j]]?=some y∧zAk w0 B g n c A y D fun d=>(outs d).getD j []) :
  XX w0 B g n c A x (D+1) fun d=>(outs d).flatten:=by
 intro w v bs d AS hS hd AD;have HB:=yD hB;have Ab:=yD hx;have Ak:=yD hks;have Aa:=yD AG;have Ag:=yD HK;have Ai:=yD AS;have Am:=yD hS.lo;have AI:=yD AD;have AF:=yD hd;have AR:=yD (hlo (d+1));have AO:Hid (x.kids.length=ks.length):=yD (by rw[hks]; simp[xG]);clear hB hx hks AG HK AS AD hd hlo;have AX:Hid (Ext w (w.alloc (.cells #[.int .u8 x.kind,.int .i64 x.pos,.string x.text,.int .i64 x.num,.slice x.kA x.kids.length x.kc] 48))):=yD (Ext.alloc _ _);have An:Hid (Blk (w.alloc (.cells #[.int .u8 x.kind,.int .i64 x.pos,.string x.text,.int .i64 x.num,.slice x.kA x.kids.length x.kc] 48)) w.heap.size 48 #[.int .u8 x.kind,.int .i64 x.pos,.string x.text,.int .i64 x.num,.slice x.kA x.kids.length x.kc]):=yD (Blk.new _ _ _);have AK:=yD (hS.ext AX.out)
 have AN:w.heap.size≠g:=fun e=>by
  obtain⟨ad,hb⟩:=hS.any
  have:=hb.lt
  omega
 have AQ:=yD AN;clear hS AN;unfold vZ
 go_enter Tryz.func44,Tryz.ntmps44
 go_upto_region 1 with fail
 generalize w.heap.size=gn at *;generalize w.alloc (.cells #[.int .u8 x.kind,.int .i64 x.pos,.string x.text,.int .i64 x.num,.slice x.kA x.kids.length x.kc] 48)=w1 at *
 have x3:w1.cell? ⟨g,3,none⟩=some (.int .i64 (d:Int)):=by obtain⟨ad,hb⟩:=AK.out.any; exact hb.cell 3
 have f3:w1.frozen? ⟨g,3,none⟩=false:=by obtain⟨ad,hb⟩:=AK.out.any; exact hb.frozen 3
 have qd:IntKind.wrap .i64 ((d:Int)+1)=(d:Int)+1:=by rw[IntKind.wrap_i64]; have:=AF.out; omega
 go_upto_region 2 with fail
 have ht:=AK.out.zNY (d+1)
 have AA:((d+1:Nat):Int)=(d:Int)+1:=by omega
 rw[AA] at ht;have HT:=yD ht;clear ht x3 f3 qd;generalize w1.setCell ⟨g,3,none⟩ (.int .i64 ((d:Int)+1))=w2 at *;have Aj:Hid (PrS w2 B g A n c v bs (d+1)):=yD HT.out.1;have Al:Hid (vS w w2 B g):=yD ((vS.ext AX.out).trans HT.out.2);have AU:=yD (HT.out.2.blk An.out AQ.out (by decide));clear HT;have n4:w2.cell? ⟨gn,4,none⟩=some (.slice x.kA x.kids.length x.kc):=AU.out.cell 4;rw[AO.out] at n4
 go_wp2_with fail
 clear n4
 go_loopw [15] (fun i wr=>∃(k:Nat) (v:Value),k≤ks.length∧i=.int .i64 k∧Hid (PrS wr B g A n c v (bs++((outs (d+1)).take k).flatten) (d+1))∧Hid (vS w2 wr B g)) (fun i _=>ks.length-(intOf i).toNat)
 case atStart=>exact⟨0,v,zT _,rfl,yD (by simpa using Aj.out),yD (vS.refl _ _ _)⟩
 case round=>
  obtain⟨k,v1,hk,rfl,HP,HM⟩:=hrel;obtain⟨wa,rfl⟩:∃wa:World,wa=wr:=⟨_,rfl⟩;have AG:=Aa.out;have AW:=yD (Al.out.trans HM.out);have AL:=yD (HB.out.ext Ai.out AW.out Am.out);have HN:=yD (HM.out.blk AU.out AQ.out (by decide))
  by_cases AB:k<ks.length
  ·have d0:decide ((k:Int)<(ks.length:Int))=true:=yP (by omega);have d1:decide (k<ks.length)=true:=yP AB;have n0:wa.cell? ⟨gn,0,none⟩=some (.int .u8 x.kind):=HN.out.cell 0;have n1:wa.cell? ⟨gn,1,none⟩=some (.int .i64 x.pos):=HN.out.cell 1;have n2:wa.cell? ⟨gn,2,none⟩=some (.string x.text):=HN.out.cell 2;have n3:wa.cell? ⟨gn,3,none⟩=some (.int .i64 x.num):=HN.out.cell 3;have n4:wa.cell? ⟨gn,4,none⟩=some (.slice x.kA x.kids.length x.kc):=HN.out.cell 4;obtain⟨y,hy,AZ⟩:=Ag.out k AB;have hp:=HB.out.prT AL.out HP.out;have AC:=zAl wa g n c A L hp.tree hp.len hp.at0 hp.lt x (Ab.out.ext AL.out) k (ks[k]'AB) (by rw[AO.out]; exact AB) (by simp only[Ak.out,xG,zA]) (List.getElem?_eq_some_iff.1 hy).1 y hy;unfold vZ at AC;have AE:=yD AC;have Ac:=yD AZ
   have AM:k<(outs (d+1)).length:=by rw[AR.out]; exact AB
   have AH:((outs (d+1)).take (k+1)).flatten=((outs (d+1)).take k).flatten++(outs (d+1)).getD k []:=by
    rw[List.take_add_one,yG AM,List.flatten_append,yE,yG AM]
    simp
   have AT:((outs (d+1)).take (k+1)).flatten.length≤(outs (d+1)).flatten.length:=by
    conv=>rhs; rw[←List.take_append_drop (k+1) (outs (d+1))]
    rw[List.flatten_append,yM];omega
   rw[AH,yM] at AT;have Ae:Hid (bs.length+((outs (d+1)).take k).flatten.length+((outs (d+1)).getD k []).length≤140737488355328):=yD (by have:=AI.out; omega);have Ah:=yD AH;have AY:=yD AB;clear hy AZ hp AC AB AH AT AM
   go_wp2_with fail
   refine AE.out.mono ?_;rintro e w3 ⟨rfl,AV⟩;have AJ:=yD AV;clear AV n0 n1 n2 n3 n4 AE
   go_wp2_with fail
   refine(Ac.out w3 v1 (bs++((outs (d+1)).take k).flatten) (d+1) (AL.out.trans AJ.out) (HP.out.ext AJ.out) (by have:=AF.out; omega) (by rw[yM]; have:=Ae.out; omega)).mono ?_;rintro e w4 ⟨rfl,⟨v4,hu⟩,hm⟩
   have HU:Hid (PrS w4 B g A n c v4 (bs++((outs (d+1)).take (k+1)).flatten) (d+1)):=yD (by
    have:=hu
    rw[Ah.out,←List.append_assoc]
    exact this)
   have Af:=yD (HM.out.trans ((vS.ext AJ.out).trans hm));clear hu hm
   go_wp2_with fail
   go_roundw
   case rel=>exact⟨k+1,v4,by have:=AY.out; omega,by go_num,HU,Af⟩
   case measure=>simp[intOf]; have:=AY.out; omega
  ·obtain rfl:k=ks.length:=by omega
   have d0:decide ((ks.length:Int)<(ks.length:Int))=false:=by simp
   have d1:decide (ks.length<ks.length)=false:=by simp
   have x3:wa.cell? ⟨g,3,none⟩=some (.int .i64 ((d+1:Nat):Int)):=by obtain⟨ad,hb⟩:=HP.out.any; exact hb.cell 3
   have AA:((d+1:Nat):Int)=(d:Int)+1:=by omega
   rw[AA] at x3
   have f3:wa.frozen? ⟨g,3,none⟩=false:=by obtain⟨ad,hb⟩:=HP.out.any; exact hb.frozen 3
   have qd:IntKind.wrap .i64 ((d:Int)+1-1)=(d:Int):=by rw[IntKind.wrap_i64]; have:=AF.out; omega
   have HF:=yD (HP.out.zNY d);have Ad:Hid ((outs (d+1)).take ks.length=outs (d+1)):=yD (List.take_of_length_le (by rw[AR.out]; exact zU _))
   have Ap:d≤1000000:=by have:=AF.out; omega
   clear AB hk AA
   go_wp2_with fail
   go_end0;obtain⟨AP,Ao⟩:=HF.out;rw[Ad.out] at AP;exact⟨rfl,⟨v1,AP⟩,AW.out.trans Ao⟩
end Go.Proofs.YtioffpjajhalaaaGreatDoor
