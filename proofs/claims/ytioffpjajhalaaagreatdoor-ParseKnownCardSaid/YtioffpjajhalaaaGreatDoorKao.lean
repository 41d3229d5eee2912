/- The program's key, row, cell, and the statements that hold no block. (and what follows of it). The conditions stand at each lemma. -/
import Derived.Test.YtioffpjajhalaaaGreatDoorKaa
import Derived.Test.YtioffpjajhalaaaGreatDoorKan
set_option linter.unusedVariables false
set_option linter.unusedSimpArgs false
set_option maxRecDepth 100000
set_option maxHeartbeats 16000000
namespace Go.Proofs.YtioffpjajhalaaaGreatDoor
open Go Go.RowKit
theorem bind_eq {α:Type}{whole:Res α}{r r':Res Unit}{f:Unit→Ps→Res α}(h:Hid (whole=r.bind f))(e:r=r'):whole=r'.bind f:=by rw[h.out,e]
theorem Safe.trans {w w1:World}{M M1:Nat→Prop}{g:Nat}{t:TypeId}{cs:Array Value}(h:Safe w M g t cs)(k:yZ w M w1 M1):Safe w1 M1 g t cs:=h.xC k
theorem zRf (w:World)(p B g1 g2:Nat)(s:Ps)(R:vC)(i:Nat)(h:PS w p B s R)(hG:Good s)(hi:i<s.nd.length)(hbig:s.phi≤1000000)(h1:Safe w (xO p R) g1 73 #[.pointer (some ⟨p,0,none⟩)])(h2:Safe w (xO p R) g2 3 #[.int .i64 (i:Int)]) :
  Calls Tryz.prog 209 #[.pointer (some ⟨g1,0,none⟩),.pointer (some ⟨g2,0,none⟩)] w (xQ w p B R (JS i s)):=by
 have AA:=yE (Ran.refl h hG);have HI:=yE hi;have AF:=yE hbig;obtain⟨AB,AC⟩:∃x,Hid (x=JS i s):=⟨_,yE rfl⟩;rw[←AC.out];have c1:=h1.1.cell 0;have c2:=h2.1.cell 0;simp only[yJ,yK] at c1 c2;clear h hG hi hbig h1 h2
 go_enter Tryz.func209,Tryz.ntmps209
 have AD:=yE (ZT AC.out)
 go_wp2_with fail
 refine(zA0 _ p B s R i AA.out.ps AA.out.lt.yY (AA.out.idx HI.out) (AA.out.phi AF.out)).mono ?_;intro e w1 hp
 rcases Ran.go AD AA (YS i _ AA.out.lt.yY) hp with ⟨s1,R1,AG,rfl,AE⟩ | ⟨er,a,rfl,HX,HY⟩
 rotate_left
 ·refine xB (P:=Tryz.prog) (fn:=Tryz.f209) rfl ?_;rw[HX.out];exact HY.out
 clear hp
 go_wp2_with fail
 go_end0;rw[AG.out];exact xQ.ok AE.out.okp
theorem zNz (w:World)(p B:Nat)(s:Ps)(R:vC)(i:Nat)(h:PS w p B s R)(hG:Good s)(hi:i<s.nd.length)(hbig:s.phi≤1000000) :
  Calls Tryz.prog 204 #[.pointer (some ⟨p,0,none⟩),.int .i64 (i:Int)] w (xQ w p B R (zCI i s)):=by
 have HP:=yE h;have HG:=yE hG;have HI:=yE hi;have AH:=yE hbig;have hm:=hmf;obtain⟨W0,AB⟩:∃W0,Hid ((w.alloc (.cells #[.pointer (some ⟨p,0,none⟩)] 73)).alloc (.cells #[.int .i64 (i:Int)] 3)=W0):=⟨_,yE rfl⟩;have AE:Hid (Ext w W0):=yE (by rw[←AB.out]; exact(Ext.alloc _ _).trans (Ext.alloc _ _));have AD:Hid (Safe W0 (xO p R) w.heap.size 73 #[.pointer (some ⟨p,0,none⟩)]):=yE (by rw[←AB.out]; exact(h.fresh 73 _).ext (Ext.alloc _ _))
 have AG:Hid (Safe W0 (xO p R) (w.heap.size+1) 3 #[.int .i64 (i:Int)]):=yE (by
  have:=(h.ext (Ext.alloc w (.cells #[.pointer (some ⟨p,0,none⟩)] 73))).fresh 3 #[.int .i64 (i:Int)]
  rw[yR] at this;rw[←AB.out]
  exact this)
 have cb:=AD.out.1.cell 0;simp only[yJ,yK] at cb;clear h hG hi hbig
 go_enter Tryz.func204,Tryz.ntmps204
 go_upto_region 1 with fail
 rw[AB.out]
 go_wp2_with fail
 have yY:isP [91] s=true→Good { s.adv with deep:=s.deep+1 } ∨ s.deep=64:=fun hi=>by
  by_cases hd:s.deep=64
  ·exact .inr hd
  ·exact .inl ⟨(HG.out.base.adv (vG hi).1).last,by show s.deep+1≤64; have:=HG.out.deep; omega,HG.out.few⟩
 refine(zC8 noX W0 p B s R [91] [93] 209 #[] #[.pointer (some ⟨w.heap.size,0,none⟩),.pointer (some ⟨w.heap.size+1,0,none⟩)] (JS i) (fun _ _ _=>True) (HP.out.ext AE.out) (enters_of Tryz.func209 (by kernel_rfl) rfl) (fun _ _ _ _ _ h _=>h) (fun hi hd x s' hr=>?_) (fun hi hd wr R' hm hp=>?_)).mono ?_
 ·have AC:=(yY hi).resolve_right hd;have hf:=YS i _ AC;rw[hr] at hf;exact hf.deep
 ·have AC:=(yY hi).resolve_right hd;refine(zRf wr p B _ _ _ R' i hp AC HI.out ?_ (AD.out.xC hm) (AG.out.xC hm)).mono fun e w2 h=>zAA.ofU h;have h1:=AH.out;have h2:=ZF (s:=s)
  show s.nd.length+2*s.adv.ts.length≤1000000
  unfold Ps.phi at h1;omega
 ·intro e w1 AA;have hu:xQ W0 p B R (zCI i s) e w1:=AA.toU;have AF:=xQ.trans (yZ.ext AE.out) hu
  rcases AF.unit with ⟨s',hr,rfl,ho⟩ | ⟨er,a,hr,he⟩
  ·have HR:Hid (zCI i s=.ok () s'):=yE hr;have HO:=yE ho;clear AA hu AF hr ho yY
   go_wp2_with fail
   go_end0;rw[HR.out];exact xQ.ok HO.out
  ·have HE:=yE he;have HR:Hid (zCI i s=.err er a):=yE hr;obtain⟨rfl,_⟩:=he;refine xB (P:=Tryz.prog) (fn:=Tryz.f204) rfl ?_;rw[HR.out];exact HE.out
theorem zDe (s:Ps)(i k:Nat):(s.yX i k).phi=s.phi+1:=by
 unfold Ps.phi;rw[xR,ZZ];omega
theorem zJE (w:World)(p B:Nat)(s:Ps)(R:vC)(i:Nat)(h:PS w p B s R)(hG:Good s)(hi:i<s.nd.length)(hbig:s.phi≤1000000) :
  Calls Tryz.prog 193 #[.pointer (some ⟨p,0,none⟩),.int .i64 (i:Int)] w (xQ w p B R (zG9 i s)):=by
 have HP:=yE h;have HG:=yE hG;have HF:=yE (h.fresh 133 #[.func (.func 129) #[.pointer (some ⟨p,0,none⟩)] #[],.func (.func 204) #[.pointer (some ⟨p,0,none⟩)] #[]]);have HX:Hid (Ext w (w.alloc (.cells #[.func (.func 129) #[.pointer (some ⟨p,0,none⟩)] #[],.func (.func 204) #[.pointer (some ⟨p,0,none⟩)] #[]] 133))):=yE (Ext.alloc _ _);have HI:=yE hi;have AD:=yE hbig
 have HQ:Hid (zDs [⟨129,#[.pointer (some ⟨p,0,none⟩)],#[],jC s.nd.length⟩,⟨204,#[.pointer (some ⟨p,0,none⟩)],#[],zCI s.nd.length⟩] (s.yX i 20)=zG9 i s):=yE (by
  show((jC s.nd.length (s.yX i 20)).bind fun _ t=>(zCI s.nd.length t).bind fun _ u=>.ok () u)=(jC s.nd.length (s.yX i 20)).bind fun _ t=>zCI s.nd.length t
  cases jC s.nd.length (s.yX i 20) with
  | ok a t=>exact zKJ _
  | err e q=>rfl)
 have hm:=hmf;clear h hG hi hbig
 go_enter Tryz.func193,Tryz.ntmps193
 go_wp2_with fail
 refine(zCN _ p B s R i 20 _ [⟨129,#[.pointer (some ⟨p,0,none⟩)],#[],jC s.nd.length⟩,⟨204,#[.pointer (some ⟨p,0,none⟩)],#[],zCI s.nd.length⟩] 2 (HP.out.ext HX.out) HI.out (by have:=AD.out; unfold Ps.phi at this; omega) (by simp) HG.out HF.out.row (fun f hf=>by
  simp only[zR,List.not_mem_nil,or_false] at hf
  rcases hf with rfl | rfl
  ·exact enters_of Tryz.func129 (by kernel_rfl) rfl
  ·exact enters_of Tryz.func204 (by kernel_rfl) rfl) (fun k hk s' wr R' h1 h2 h3=>by
  have AE:k<2:=hk
  match k,AE with
  | 0,_=>
   injection h1 with _ h1;subst h1;exact VR wr p B _ R' s.nd.length h3 (by rw[xR]; omega)
  | 1,_=>
   have AC:zDs [⟨129,#[.pointer (some ⟨p,0,none⟩)],#[],jC s.nd.length⟩] (s.yX i 20)=.ok () s':=h1;rw[zCV] at AC;have hf:=zAU s.nd.length (vT HG.out i 20);have AB:jC s.nd.length (s.yX i 20)=.ok () s':=AC;rw[AB] at hf;obtain⟨f1,f2,f3,f4,f5⟩:=hf;rw[zDe] at f2;rw[xR] at f4
   exact zNz wr p B s' R' s.nd.length h3 f1 (by omega) (by have:=AD.out; omega))).mono ?_
 intro e w1 AA;rw[HQ.out] at AA
 rcases AA.unit with ⟨s',hr,rfl,ho⟩ | ⟨er,a,hr,he⟩
 ·have HR:Hid (zG9 i s=.ok () s'):=yE hr;have HO:=yE (OkP.trans (yZ.ext HX.out) ho);clear AA hr ho
  go_wp2_with fail
  go_end0;rw[HR.out];exact xQ.ok HO.out
 ·have HE:=yE (zAa.trans (yZ.ext HX.out) he);have HR:Hid (zG9 i s=.err er a):=yE hr;obtain⟨rfl,_⟩:=he;refine xB (P:=Tryz.prog) (fn:=Tryz.f193) rfl ?_;rw[HR.out];exact HE.out
theorem zLt (w:World)(p B:Nat)(s:Ps)(R:vC)(i:Nat)(h:PS w p B s R)(hG:Good s)(hi:i<s.nd.length)(hbig:s.phi≤1000000) :
  Calls Tryz.prog 203 #[.pointer (some ⟨p,0,none⟩),.int .i64 (i:Int)] w (xQ w p B R (zGF i s)):=by
 have AB:=yE (Ran.refl h hG);have HI:=yE hi;have AD:=yE hbig;obtain⟨AE,AF⟩:∃x,Hid (x=zGF i s):=⟨_,yE rfl⟩;rw[←AF.out];have hm:=hmf;clear h hG hi hbig
 go_enter Tryz.func203,Tryz.ntmps203
 go_wp2_with fail
 refine(zJE _ p B s R i AB.out.ps AB.out.lt.yY (AB.out.idx HI.out) (AB.out.phi AD.out)).mono ?_;intro e w2 hp
 rcases Ran.go AF AB (zET i _ AB.out.lt.yY) hp with ⟨s2,R2,AI,rfl,AC⟩ | ⟨er,a,rfl,HX,HY⟩
 rotate_left
 ·refine xB (P:=Tryz.prog) (fn:=Tryz.f203) rfl ?_;rw[HX.out];exact HY.out
 clear hp
 go_wp2_with fail
 refine(jN _ p B s2 R2 [46] AC.out.ps).mono ?_;intro e w3 hp
 rcases Ran.go AI AC (vA _ _ AC.out.lt.yY) hp with ⟨s3,R3,AK,rfl,AA⟩ | ⟨er,a,rfl,HX,HY⟩
 rotate_left
 ·refine xB (P:=Tryz.prog) (fn:=Tryz.f203) rfl ?_;rw[HX.out];exact HY.out
 clear hp;have AH:=yE (ZT AK.out)
 go_wp2_with fail
 refine(zCy _ p B s3 R3 i AA.out.ps AA.out.lt.yY (AA.out.idx HI.out) (AA.out.nd AD.out)).mono ?_;intro e w4 hp
 rcases Ran.go AH AA (YZ i _ AA.out.lt.yY) hp with ⟨s4,R4,AJ,rfl,AG⟩ | ⟨er,a,rfl,HX,HY⟩
 rotate_left
 ·refine xB (P:=Tryz.prog) (fn:=Tryz.f203) rfl ?_;rw[HX.out];exact HY.out
 clear hp
 go_wp2_with fail
 go_end0;rw[AJ.out];exact xQ.ok AG.out.okp
theorem zQx (w:World)(p B:Nat)(s:Ps)(R:vC)(i:Nat)(h:PS w p B s R)(hG:Good s)(hi:i<s.nd.length)(hbig:s.phi≤1000000) :
  Calls Tryz.prog 190 #[.pointer (some ⟨p,0,none⟩),.int .i64 (i:Int)] w (xQ w p B R (zGC i s)):=by
 have AF:=yE (Ran.refl h hG);have HI:=yE hi;have AP:=yE hbig;obtain⟨AN,AL⟩:∃x,Hid (x=zGC i s):=⟨_,yE rfl⟩;rw[←AL.out];have hm:=hmf;clear h hG hi hbig
 go_enter Tryz.func190,Tryz.ntmps190
 go_wp2_with fail
 refine(VR _ p B s R i AF.out.ps (AF.out.idx HI.out)).mono ?_;intro e w5 hp
 rcases Ran.go AL AF (YN i _ AF.out.lt.yY) hp with ⟨s5,R5,AQ,rfl,AJ⟩ | ⟨er,a,rfl,HX,HY⟩
 rotate_left
 ·refine xB (P:=Tryz.prog) (fn:=Tryz.f190) rfl ?_;rw[HX.out];exact HY.out
 clear hp
 go_wp2_with fail
 refine(jN _ p B s5 R5 [61] AJ.out.ps).mono ?_;intro e w6 hp
 rcases Ran.go AQ AJ (vA _ _ AJ.out.lt.yY) hp with ⟨s6,R6,AR,rfl,AA⟩ | ⟨er,a,rfl,HX,HY⟩
 rotate_left
 ·refine xB (P:=Tryz.prog) (fn:=Tryz.f190) rfl ?_;rw[HX.out];exact HY.out
 clear hp
 go_wp2_with fail
 refine(zLt _ p B s6 R6 i AA.out.ps AA.out.lt.yY (AA.out.idx HI.out) (AA.out.phi AP.out)).mono ?_;intro e w7 hp
 rcases Ran.go AR AA (zFr i _ AA.out.lt.yY) hp with ⟨s7,R7,AM,rfl,AC⟩ | ⟨er,a,rfl,HX,HY⟩
 rotate_left
 ·refine xB (P:=Tryz.prog) (fn:=Tryz.f190) rfl ?_;rw[HX.out];exact HY.out
 clear hp
 cases hi8:isP [102,111,114] s7 with
 | false=>
  have AB:=yE hi8;clear hi8;have AH:=yE (zKR (t:=[102,111,114]) (s:=s7) AM AB)
  go_wp2_with fail
  refine(zA4 _ p B s7 R7 [102,111,114] AB AC.out.ps).mono ?_;rintro e w8 ⟨rfl,hx⟩;have AD:=yE (AC.out.ext hx);clear hx
  go_wp2_with fail
  go_end0;rw[AH.out];exact xQ.ok AD.out.okp
 | true=>
  have AB:=yE hi8;clear hi8;have AH:=yE (zHq (t:=[102,111,114]) (s:=s7) AM AB)
  go_wp2_with fail
  refine(zAf _ p B s7 R7 [102,111,114] AB AC.out.ps).mono ?_;rintro e w8 ⟨rfl,ho⟩;obtain⟨R8,hs⟩:=AC.out.then ho (zBD AC.out.lt.yY AB);have AD:=yE hs;clear ho hs
  go_wp2_with fail
  refine(jN _ p B s7.adv R8 [117,112,100,97,116,101] AD.out.ps).mono ?_;intro e w9 hp
  rcases Ran.go AH AD (vA _ _ AD.out.lt.yY) hp with ⟨s9,R9,AO,rfl,AE⟩ | ⟨er,a,rfl,HX,HY⟩
  rotate_left
  ·refine xB (P:=Tryz.prog) (fn:=Tryz.f190) rfl ?_;rw[HX.out];exact HY.out
  clear hp;have AK:=yE (ZT AO.out)
  go_wp2_with fail
  refine(zDd _ p B s9 R9 i AE.out.ps (AE.out.idx HI.out)).mono ?_;intro e AU hp
  rcases Ran.go AK AE (ZY.num AE.out.lt.yY i 1) hp with ⟨AT,AS,AI,rfl,AG⟩ | ⟨er,a,rfl,HX,HY⟩
  rotate_left
  ·refine xB (P:=Tryz.prog) (fn:=Tryz.f190) rfl ?_;rw[HX.out];exact HY.out
  clear hp
  go_wp2_with fail
  go_end0;rw[AI.out];exact xQ.ok AG.out.okp
theorem zRE (w:World)(p B:Nat)(s:Ps)(R:vC)(i:Nat)(h:PS w p B s R)(hG:Good s)(hi:i<s.nd.length)(hbig:s.phi≤1000000) :
  Calls Tryz.prog 191 #[.pointer (some ⟨p,0,none⟩),.int .i64 (i:Int)] w (xQ w p B R (zL2 i s)):=by
 have AC:=yE (Ran.refl h hG);have HI:=yE hi;have AI:=yE hbig;obtain⟨AJ,AK⟩:∃x,Hid (x=zL2 i s):=⟨_,yE rfl⟩;rw[←AK.out];have hm:=hmf;clear h hG hi hbig
 go_enter Tryz.func191,Tryz.ntmps191
 go_wp2_with fail
 refine(zLt _ p B s R i AC.out.ps AC.out.lt.yY (AC.out.idx HI.out) (AC.out.phi AI.out)).mono ?_;intro e AT hp
 rcases Ran.go AK AC (zFr i _ AC.out.lt.yY) hp with ⟨AO,AL,AF,rfl,AB⟩ | ⟨er,a,rfl,HX,HY⟩
 rotate_left
 ·refine xB (P:=Tryz.prog) (fn:=Tryz.f191) rfl ?_;rw[HX.out];exact HY.out
 clear hp
 go_wp2_with fail
 refine(jN _ p B AO AL [61] AB.out.ps).mono ?_;intro e AP hp
 rcases Ran.go AF AB (vA _ _ AB.out.lt.yY) hp with ⟨AN,AM,AG,rfl,AA⟩ | ⟨er,a,rfl,HX,HY⟩
 rotate_left
 ·refine xB (P:=Tryz.prog) (fn:=Tryz.f191) rfl ?_;rw[HX.out];exact HY.out
 clear hp;have AE:=yE (ZT AG.out)
 go_wp2_with fail
 refine(zA0 _ p B AN AM i AA.out.ps AA.out.lt.yY (AA.out.idx HI.out) (AA.out.phi AI.out)).mono ?_;intro e AS hp
 rcases Ran.go AE AA (YS i _ AA.out.lt.yY) hp with ⟨AR,AQ,AD,rfl,AH⟩ | ⟨er,a,rfl,HX,HY⟩
 rotate_left
 ·refine xB (P:=Tryz.prog) (fn:=Tryz.f191) rfl ?_;rw[HX.out];exact HY.out
 clear hp
 go_wp2_with fail
 go_end0;rw[AD.out];exact xQ.ok AH.out.okp
theorem zNi (w:World)(p B:Nat)(s:Ps)(R:vC)(i:Nat)(h:PS w p B s R)(hG:Good s)(hi:i<s.nd.length)(hbig:s.phi≤1000000) :
  Calls Tryz.prog 192 #[.pointer (some ⟨p,0,none⟩),.int .i64 (i:Int)] w (xQ w p B R (zCu i s)):=by
 have AD:=yE (Ran.refl h hG);have HI:=yE hi;have AL:=yE hbig;obtain⟨AN,AM⟩:∃x,Hid (x=zCu i s):=⟨_,yE rfl⟩;rw[←AM.out];have hm:=hmf;clear h hG hi hbig
 go_enter Tryz.func192,Tryz.ntmps192
 go_wp2_with fail
 refine(zJE _ p B s R i AD.out.ps AD.out.lt.yY (AD.out.idx HI.out) (AD.out.phi AL.out)).mono ?_;intro e AW hp
 rcases Ran.go AM AD (zET i _ AD.out.lt.yY) hp with ⟨AQ,AP,AI,rfl,AB⟩ | ⟨er,a,rfl,HX,HY⟩
 rotate_left
 ·refine xB (P:=Tryz.prog) (fn:=Tryz.f192) rfl ?_;rw[HX.out];exact HY.out
 clear hp
 go_wp2_with fail
 refine(jN _ p B AQ AP [40] AB.out.ps).mono ?_;intro e Aa hp
 rcases Ran.go AI AB (vA _ _ AB.out.lt.yY) hp with ⟨AT,AS,AH,rfl,AA⟩ | ⟨er,a,rfl,HX,HY⟩
 rotate_left
 ·refine xB (P:=Tryz.prog) (fn:=Tryz.f192) rfl ?_;rw[HX.out];exact HY.out
 clear hp
 go_wp2_with fail
 refine(zHl _ p B AT AS i ⟨200,#[.pointer (some ⟨p,0,none⟩)],#[],JS i⟩ AA.out.ps AA.out.lt.yY (enters_of Tryz.func200 (by kernel_rfl) rfl) (YS i) (fun wr s9 R9 AK AV AO=>zA0 wr p B s9 R9 i AO AK.yY (yS (AA.out.idx HI.out) AK.nd) (Nat.le_trans AK.phi (AA.out.phi AL.out)))).mono ?_;intro e AZ hp
 rcases Ran.go AH AA (zBH (YS i) _ AA.out.lt.yY) hp with ⟨AR,AU,AF,rfl,AC⟩ | ⟨er,a,rfl,HX,HY⟩
 rotate_left
 ·refine xB (P:=Tryz.prog) (fn:=Tryz.f192) rfl ?_;rw[HX.out];exact HY.out
 clear hp;have AE:=yE (ZT AF.out)
 go_wp2_with fail
 refine(jN _ p B AR AU [41] AC.out.ps).mono ?_;intro e Ab hp
 rcases Ran.go AE AC (vA _ _ AC.out.lt.yY) hp with ⟨AX,AY,AG,rfl,AJ⟩ | ⟨er,a,rfl,HX,HY⟩
 rotate_left
 ·refine xB (P:=Tryz.prog) (fn:=Tryz.f192) rfl ?_;rw[HX.out];exact HY.out
 clear hp
 go_wp2_with fail
 go_end0;rw[AG.out];exact xQ.ok AJ.out.okp
theorem zQk (w:World)(p B:Nat)(s:Ps)(R:vC)(i:Nat)(h:PS w p B s R)(hG:Good s)(hi:i<s.nd.length)(hbig:s.phi≤1000000) :
  Calls Tryz.prog 194 #[.pointer (some ⟨p,0,none⟩),.int .i64 (i:Int)] w (xQ w p B R (zF5 i s)):=by
 have AE:=yE (Ran.refl h hG);have HI:=yE hi;have AM:=yE hbig;obtain⟨AO,AN⟩:∃x,Hid (x=zF5 i s):=⟨_,yE rfl⟩;rw[←AN.out];have hm:=hmf;clear h hG hi hbig
 go_enter Tryz.func194,Tryz.ntmps194
 go_wp2_with fail
 refine(VR _ p B s R i AE.out.ps (AE.out.idx HI.out)).mono ?_;intro e AY hp
 rcases Ran.go AN AE (YN i _ AE.out.lt.yY) hp with ⟨AP,AT,AK,rfl,AC⟩ | ⟨er,a,rfl,HX,HY⟩
 rotate_left
 ·refine xB (P:=Tryz.prog) (fn:=Tryz.f194) rfl ?_;rw[HX.out];exact HY.out
 clear hp
 go_wp2_with fail
 refine(jN _ p B AP AT [61] AC.out.ps).mono ?_;intro e Aa hp
 rcases Ran.go AK AC (vA _ _ AC.out.lt.yY) hp with ⟨AU,AW,AI,rfl,AB⟩ | ⟨er,a,rfl,HX,HY⟩
 rotate_left
 ·refine xB (P:=Tryz.prog) (fn:=Tryz.f194) rfl ?_;rw[HX.out];exact HY.out
 clear hp
 go_wp2_with fail
 refine(zCy _ p B AU AW i AB.out.ps AB.out.lt.yY (AB.out.idx HI.out) (AB.out.nd AM.out)).mono ?_;intro e AX hp
 rcases Ran.go AI AB (YZ i _ AB.out.lt.yY) hp with ⟨AR,AV,AJ,rfl,AD⟩ | ⟨er,a,rfl,HX,HY⟩
 rotate_left
 ·refine xB (P:=Tryz.prog) (fn:=Tryz.f194) rfl ?_;rw[HX.out];exact HY.out
 clear hp
 go_wp2_with fail
 refine(jN _ p B AR AV [46] AD.out.ps).mono ?_;intro e Ab hp
 rcases Ran.go AJ AD (vA _ _ AD.out.lt.yY) hp with ⟨AQ,AS,AH,rfl,AA⟩ | ⟨er,a,rfl,HX,HY⟩
 rotate_left
 ·refine xB (P:=Tryz.prog) (fn:=Tryz.f194) rfl ?_;rw[HX.out];exact HY.out
 clear hp;have AG:=yE (ZT AH.out)
 go_wp2_with fail
 refine(zCy _ p B AQ AS i AA.out.ps AA.out.lt.yY (AA.out.idx HI.out) (AA.out.nd AM.out)).mono ?_;intro e Ac hp
 rcases Ran.go AG AA (YZ i _ AA.out.lt.yY) hp with ⟨Ad,AZ,AL,rfl,AF⟩ | ⟨er,a,rfl,HX,HY⟩
 rotate_left
 ·refine xB (P:=Tryz.prog) (fn:=Tryz.f194) rfl ?_;rw[HX.out];exact HY.out
 clear hp
 go_wp2_with fail
 go_end0;rw[AL.out];exact xQ.ok AF.out.okp
theorem zQe (w:World)(p B:Nat)(s:Ps)(R:vC)(i:Nat)(h:PS w p B s R)(hG:Good s)(hi:i<s.nd.length)(hbig:s.phi≤1000000) :
  Calls Tryz.prog 195 #[.pointer (some ⟨p,0,none⟩),.int .i64 (i:Int)] w (xQ w p B R (zGg i s)):=by
 have AF:=yE (Ran.refl h hG);have HI:=yE hi;have AR:=yE hbig;obtain⟨AP,AO⟩:∃x,Hid (x=zGg i s):=⟨_,yE rfl⟩;rw[←AO.out];have hm:=hmf;clear h hG hi hbig
 go_enter Tryz.func195,Tryz.ntmps195
 go_wp2_with fail
 refine(zCy _ p B s R i AF.out.ps AF.out.lt.yY (AF.out.idx HI.out) (AF.out.nd AR.out)).mono ?_;intro e AT hp
 rcases Ran.go AO AF (YZ i _ AF.out.lt.yY) hp with ⟨AD,AM,AG,rfl,AC⟩ | ⟨er,a,rfl,HX,HY⟩
 rotate_left
 ·refine xB (P:=Tryz.prog) (fn:=Tryz.f195) rfl ?_;rw[HX.out];exact HY.out
 clear hp
 cases hi24:isP [97,108,108] AD with
 | false=>
  have AB:=yE hi24;clear hi24;have AE:=yE (zKR (t:=[97,108,108]) (s:=AD) AG AB)
  go_wp2_with fail
  refine(zA4 _ p B AD AM [97,108,108] AB AC.out.ps).mono ?_;rintro e AQ ⟨rfl,hx⟩;have AA:=yE (AC.out.ext hx);clear hx;have AN:=yE (ZT AE.out)
  go_wp2_with fail
  refine(jN _ p B AD AM [115,104,97,114,101,100] AA.out.ps).mono ?_;intro e AV hp
  rcases Ran.go AN AA (vA _ _ AA.out.lt.yY) hp with ⟨AW,AU,AH,rfl,AJ⟩ | ⟨er,a,rfl,HX,HY⟩
  rotate_left
  ·refine xB (P:=Tryz.prog) (fn:=Tryz.f195) rfl ?_;rw[HX.out];exact HY.out
  clear hp
  go_wp2_with fail
  go_end0;rw[AH.out];exact xQ.ok AJ.out.okp
 | true=>
  have AB:=yE hi24;clear hi24;have AE:=yE (zHq (t:=[97,108,108]) (s:=AD) AG AB)
  go_wp2_with fail
  refine(zAf _ p B AD AM [97,108,108] AB AC.out.ps).mono ?_;rintro e AQ ⟨rfl,ho⟩;obtain⟨AS,hs⟩:=AC.out.then ho (zBD AC.out.lt.yY AB);have AA:=yE hs;clear ho hs;have AK:=yE (ZT AE.out)
  go_wp2_with fail
  refine(zDd _ p B AD.adv AS i AA.out.ps (AA.out.idx HI.out)).mono ?_;intro e AX hp
  rcases Ran.go AK AA (ZY.num AA.out.lt.yY i 1) hp with ⟨AZ,AY,AI,rfl,AL⟩ | ⟨er,a,rfl,HX,HY⟩
  rotate_left
  ·refine xB (P:=Tryz.prog) (fn:=Tryz.f195) rfl ?_;rw[HX.out];exact HY.out
  clear hp
  go_wp2_with fail
  refine bodyPost_ret (v:=.tuple #[]) (by simp[results,Tryz.results195,go_sem]) rfl ?_;rw[AI.out];exact xQ.ok AL.out.okp
theorem zSo (w:World)(p B:Nat)(s:Ps)(R:vC)(i:Nat)(h:PS w p B s R)(hG:Good s)(hi:i<s.nd.length)(hbig:s.phi≤1000000) :
  Calls Tryz.prog 199 #[.pointer (some ⟨p,0,none⟩),.int .i64 (i:Int)] w (xQ w p B R (zLF i s)):=by
 have AC:=yE (Ran.refl h hG);have HI:=yE hi;have AN:=yE hbig;obtain⟨AI,AJ⟩:∃x,Hid (x=zLF i s):=⟨_,yE rfl⟩;rw[←AJ.out];have hm:=hmf;clear h hG hi hbig
 go_enter Tryz.func199,Tryz.ntmps199
 go_wp2_with fail
 refine(VR _ p B s R i AC.out.ps (AC.out.idx HI.out)).mono ?_;intro e AQ hp
 rcases Ran.go AJ AC (YN i _ AC.out.lt.yY) hp with ⟨AL,AO,AG,rfl,AB⟩ | ⟨er,a,rfl,HX,HY⟩
 rotate_left
 ·refine xB (P:=Tryz.prog) (fn:=Tryz.f199) rfl ?_;rw[HX.out];exact HY.out
 clear hp
 go_wp2_with fail
 refine(jN _ p B AL AO [61] AB.out.ps).mono ?_;intro e AP hp
 rcases Ran.go AG AB (vA _ _ AB.out.lt.yY) hp with ⟨AK,AM,AE,rfl,AA⟩ | ⟨er,a,rfl,HX,HY⟩
 rotate_left
 ·refine xB (P:=Tryz.prog) (fn:=Tryz.f199) rfl ?_;rw[HX.out];exact HY.out
 clear hp;have AD:=yE (ZT AE.out)
 go_wp2_with fail
 refine(zA0 _ p B AK AM i AA.out.ps AA.out.lt.yY (AA.out.idx HI.out) (AA.out.phi AN.out)).mono ?_;intro e AS hp
 rcases Ran.go AD AA (YS i _ AA.out.lt.yY) hp with ⟨AR,AT,AH,rfl,AF⟩ | ⟨er,a,rfl,HX,HY⟩
 rotate_left
 ·refine xB (P:=Tryz.prog) (fn:=Tryz.f199) rfl ?_;rw[HX.out];exact HY.out
 clear hp
 go_wp2_with fail
 go_end0;rw[AH.out];exact xQ.ok AF.out.okp
theorem zKE (w:World)(p B:Nat)(s:Ps)(R:vC)(i:Nat)(h:PS w p B s R) :
  Calls Tryz.prog 201 #[.pointer (some ⟨p,0,none⟩),.int .i64 (i:Int)] w (xQ w p B R (zSR s)):=by
 have HP:=yE h;clear h
 go_enter Tryz.func201,Tryz.ntmps201
 go_wp2
 go_end0;exact xQ.ok ⟨R,HP.out,yZ.refl _ _⟩
theorem Ran.goE {α:Type}{w w1 w2:World}{p B:Nat}{R R1:vC}{s s1:Ps}{v:Value}{r:Res Unit}{whole:Res α}{f:Unit→Ps→Res α}{e:Ending}(HL:Hid (whole=r.bind f))(h:Hid (Ran w p B R s w1 R1 s1))(hf:jW s1 r)(hp:zEk w1 p B R1 v r e w2) :
  (∃s2 R2,Hid (r=.ok () s2)∧Hid (whole=f () s2)∧e=.returned v∧Hid (Ran w p B R s w2 R2 s2))∨(∃er a,e=ZH er∧Hid (whole=.err er a)∧Hid (zAa w p B R er a (ZH er) w2)):=by
 cases r with
 | ok a s2=>
  obtain⟨h1,R2,h2,h3⟩:=hp;exact .inl ⟨s2,R2,yE rfl,yE HL.out,h1,yE ⟨h2,h.out.mv.trans h3,h.out.lt.trans hf⟩⟩
 | err er a=>
  obtain⟨h1,h2⟩:=hp;exact .inr ⟨er,a,h1,yE HL.out,yE (zAa.trans h.out.mv ⟨rfl,h2⟩)⟩
theorem zGf {s s1:Ps}{i k:Nat}(g:Good s)(h:jC s.nd.length (s.yX i k)=.ok () s1):s.nd.length<s1.nd.length:=by
 have hf:=zAU s.nd.length (vT g i k);rw[h] at hf
 have:=hf.2.2.2.1
 rw[xR] at this;omega
theorem zLE (w:World)(p B:Nat)(s:Ps)(R:vC)(i:Nat)(h:PS w p B s R)(hG:Good s)(hi:i<s.nd.length)(hbig:s.phi≤1000000) :
  Calls Tryz.prog 196 #[.pointer (some ⟨p,0,none⟩),.int .i64 (i:Int)] w (xQ w p B R (zBh i s)):=by
 have HP:=yE h;have HG:=yE hG;have HF:=yE (h.fresh 133 #[.func (.func 129) #[.pointer (some ⟨p,0,none⟩)] #[]]);have HX:Hid (Ext w (w.alloc (.cells #[.func (.func 129) #[.pointer (some ⟨p,0,none⟩)] #[]] 133))):=yE (Ext.alloc _ _);have AQ:=yE ((Ran.refl h hG).ext HX.out);have HI:=yE hi;have AF:=yE hbig;obtain⟨AI,AG⟩:∃x,Hid (x=zBh i s):=⟨_,yE rfl⟩;rw[←AG.out];have hm:=hmf;obtain⟨n,HN⟩:∃n,Hid (s.nd.length=n):=⟨_,yE rfl⟩;clear h hG hi hbig
 go_enter Tryz.func196,Tryz.ntmps196
 go_wp2_with fail
 refine(zCN _ p B s R i 5 _ [⟨129,#[.pointer (some ⟨p,0,none⟩)],#[],jC s.nd.length⟩] 1 (HP.out.ext HX.out) HI.out (by have:=AF.out; unfold Ps.phi at this; omega) (by simp) HG.out HF.out.row (fun f hf=>by
  rw[List.mem_singleton.1 hf]
  exact enters_of Tryz.func129 (by kernel_rfl) rfl) (fun k hk s' wr R' h1 h2 h3=>by
  obtain rfl:k=0:=by simp at hk; omega
  injection h1 with _ h1;subst h1
  exact VR wr p B _ R' s.nd.length h3 (by rw[xR]; omega))).mono ?_
 intro e w1 hp;rw[zCV] at hp
 rcases Ran.goE AG AQ (VM.at (i:=i) (k:=5) (zAU _ (vT HG.out i 5))) hp with ⟨s1,R1,AK,AB,rfl,AA⟩ | ⟨er,a,rfl,HX,HY⟩
 rotate_left
 ·refine xB (P:=Tryz.prog) (fn:=Tryz.f196) rfl ?_;rw[HX.out];exact HY.out
 clear hp;have AP:Hid (n<s1.nd.length):=yE (by rw[←HN.out]; exact zGf HG.out AK.out);rw[HN.out] at AB ⊢
 cases hi1:isP [91] s1 with
 | false=>
  have AD:=yE hi1;clear hi1;have AB:=yE (zKR (t:=[91]) (s:=s1) AB AD)
  go_wp2_with fail
  refine(JI _ p B s1 R1 [91] false AD AA.out.ps).mono ?_;rintro e w1 ⟨rfl,hx⟩;have AA:=yE (AA.out.ext hx);clear hx
  go_wp2_with fail
  go_end0;rw[AB.out];exact xQ.ok AA.out.okp
 | true=>
  have AD:=yE hi1;clear hi1;have AB:=yE (zHq (t:=[91]) (s:=s1) AB AD)
  go_wp2_with fail
  refine(JI _ p B s1 R1 [91] true AD AA.out.ps).mono ?_;rintro e w1 ⟨rfl,hx⟩;have AA:=yE (AA.out.ext hx);clear hx;have AH:Hid (n<s1.nd.length):=AP;obtain⟨g,AE,hA,AR,AS⟩:=AA.out.ps.YC AH.out;have c0:∃v,w1.cell? ⟨g,n*5,none⟩=some (.int .u8 v):=⟨_,AA.out.ps.jP n AE hA 0 (by decide)⟩;obtain⟨v,c0⟩:=c0;have z0:w1.frozen? ⟨g,n*5,none⟩=false:=AA.out.ps.JZ (n*5) hA;have x1:=AA.out.ps.x1' hA
  have q0:(n:Int)<(R1.nh.length:Int):=by omega
  have AL:Hid (OkP w1 p B R1 (s1.kind n 20) (w1.setCell ⟨g,n*5,none⟩ (.int .u8 20))):=yE (AA.out.ps.put n AE 0 (by decide) _ (fun x=>{ x with kind:=20 }) (fun _=>rfl) rfl hA);obtain⟨R9,AJ⟩:=AA.out.then AL.out (ZY.kind AA.out.lt.yY n 20);have AC:=yE AJ;clear AJ hA
  go_wp2_with fail
  clear c0 z0 x1;have AN:=yE (ZT AB.out);refine(zNz _ p B (s1.kind n 20) R9 n AC.out.ps AC.out.lt.yY (yS AH.out (by show _≤(s1.on n _).nd.length; rw[zBC]; exact zU _)) (AC.out.phi AF.out)).mono ?_;intro e w2 hp
  rcases Ran.go AN AC (zJb n _ AC.out.lt.yY) hp with ⟨s2,R2,AM,rfl,AO⟩ | ⟨er,a,rfl,HX,HY⟩
  rotate_left
  ·refine xB (P:=Tryz.prog) (fn:=Tryz.f196) rfl ?_;rw[HX.out];exact HY.out
  clear hp
  go_wp2_with fail
  go_end0;rw[AM.out];exact xQ.ok AO.out.okp
def zAN (F n:Nat)(m:Nat→Pm Unit):Prop:=∀(w:World) (p B:Nat) (s:Ps) (R:vC) (i:Nat),PS w p B s R→Good s→i<s.nd.length→s.phi≤1000000→s.ts.length≤n→Calls Tryz.prog F #[.pointer (some ⟨p,0,none⟩),.int .i64 (i:Int)] w (xQ w p B R (m i s))
def zJR (n:Nat)(st:Nat→Pm Unit):Prop:=∀i s s',Good s→s.ts.length≤n→st i s=.ok () s'→s'.ts.length<s.ts.length
theorem zP7 {st:Nat→Pm Unit}{i f:Nat}{s:Ps}(h:isP [125] s=true):YF st i (f+1) s=.ok () s:=by unfold YF; rw[if_pos h]
theorem zOI {st:Nat→Pm Unit}{i f:Nat}{s:Ps}(h:isP [125] s=false):YF st i (f+1) s=(st i s).bind fun _ s=>YF st i f s:=by rw[YF,h]; rfl
theorem zNB (n:Nat)(st:Nat→Pm Unit)(hst:zAN 165 n st)(hfine:zDS n st)(h1:zJR n st)(w:World)(p B g1 g2:Nat)(s:Ps)(R:vC)(i:Nat)(h:PS w p B s R)(hG:Good s)(hi:i<s.nd.length)(hbig:s.phi≤1000000)(hn:s.ts.length≤n)(hb1:Safe w (xO p R) g1 73 #[.pointer (some ⟨p,0,none⟩)])(hb2:Safe w (xO p R) g2 3 #[.int .i64 (i:Int)]) :
  Calls Tryz.prog 164 #[.pointer (some ⟨g1,0,none⟩),.pointer (some ⟨g2,0,none⟩)] w (xQ w p B R (YF st i (s.ts.length+1) s)):=by
 have AW:=yE (Ran.refl h hG);have HI:=yE hi;have AT:=yE hbig;have HN:=yE hn;have AP:=yE hst;have AU:=yE hfine;have AQ:=yE h1;have AD:=yE hb1;have AC:=yE hb2;obtain⟨AA,AH⟩:∃x,Hid (x=YF st i (s.ts.length+1) s):=⟨_,yE rfl⟩;rw[←AH.out];clear h hG hi hbig hn hst hfine h1 hb1 hb2
 go_enter Tryz.func164,Tryz.ntmps164
 go_wp2_with fail
 go_loopw [] (fun wr=>∃(s':Ps) (R':vC) (m:Nat),Hid (Ran w p B R s wr R' s')∧Hid (s'.ts.length<m)∧Hid (AA=YF st i m s')) (fun wr=>VH p wr)
 case atStart=>exact⟨s,R,s.ts.length+1,AW,yE (Nat.lt_succ_self _),AH⟩
 case round=>
  obtain⟨s',R',m,HS,HM,HL⟩:=hrel;obtain⟨wa,rfl⟩:∃wa:World,wa=wr:=⟨_,rfl⟩;obtain⟨m',rfl⟩:∃m',m=m'+1:=⟨m-1,by have:=HM.out; omega⟩;have AI:=(AD.out.xC HS.out.mv).1.cell 0;have AK:=(AC.out.xC HS.out.mv).1.cell 0;simp only[yJ,yK] at AI AK;have AX:=(AD.out.xC HS.out.mv).1.lt;have AY:=(AC.out.xC HS.out.mv).1.lt
  cases hi:isP [125] s' with
  | true=>
   have AE:=yE hi;have HR:Hid (AA=.ok () s'):=yE (by rw[HL.out,zP7 hi]);clear hi
   go_wp2_with fail
   refine(JI wa p B s' R' [125] true AE HS.out.ps).mono ?_;rintro e w2 ⟨rfl,hx⟩;have AB:=yE (HS.out.ext hx);clear hx
   go_wp2_with fail
   go_end0;rw[HR.out];exact xQ.ok AB.out.okp
  | false=>
   have AE:=yE hi;have HQ:Hid (AA=(st i s').bind fun _ s=>YF st i m' s):=yE (by rw[HL.out,zOI hi]);clear hi
   go_wp2_with fail
   refine(JI wa p B s' R' [125] false AE HS.out.ps).mono ?_;rintro e w2 ⟨rfl,hx⟩;have AB:=yE (HS.out.ext hx);have AO:=((AD.out.xC AB.out.mv).1.cell 0);have AN:=((AC.out.xC AB.out.mv).1.cell 0);simp only[yJ,yK] at AO AN;clear hx AI AK
   go_wp2_with fail
   refine(AP.out w2 p B s' R' i AB.out.ps AB.out.lt.yY (AB.out.idx HI.out) (AB.out.phi AT.out) (AB.out.few HN.out)).mono ?_;intro e w3 hp;have AM:∀s3,st i s'=.ok () s3→s3.ts.length<s'.ts.length:=fun s3 h3=>AQ.out i s' s3 AB.out.lt.yY (AB.out.few HN.out) h3;have AL:=AU.out i s' AB.out.lt.yY (AB.out.few HN.out)
   cases hr:st i s' with
   | err er a=>
    rw[hr] at hp;obtain⟨rfl,ho⟩:=hp;have HF:Hid (xQ w p B R AA (ZH er) w3):=yE (by rw[HQ.out,hr]; exact zAa.trans AB.out.mv ⟨rfl,ho⟩);exact xB (P:=Tryz.prog) (fn:=Tryz.f164) rfl HF.out
   | ok a s3=>
    rw[hr] at hp AL;obtain⟨rfl,ho⟩:=hp;obtain⟨R3,AF⟩:=AB.out.then ho AL;have AJ:=yE AF;have AG:=yE (AM s3 hr);have AR:Hid (AA=YF st i m' s3):=yE (by rw[HQ.out,hr]; rfl);have AV:Hid (s3.ts.length<m'):=yE (by have:=AG.out; have:=HM.out; omega);have AS:Hid (VH p w3<VH p wa):=yE (by rw[AJ.out.ps.VH,HS.out.ps.VH]; exact AG.out);clear hr ho AF AM AO AN
    go_wp2_with fail
    go_roundw
    case rel=>exact⟨s3,R3,m',AJ,AV,AR⟩
    case measure=>exact AS.out
theorem zMx (n:Nat)(st:Nat→Pm Unit)(hst:zAN 165 n st)(hfine:zDS n st)(h1:zJR n st)(w:World)(p B g1:Nat)(s:Ps)(R:vC)(i:Nat)(h:PS w p B s R)(hG:Good s)(hi:i<s.nd.length)(hbig:s.nd.length+2*(s.ts.length-1)≤1000000)(hn:s.ts.length≤n+1)(hb1:Safe w (xO p R) g1 73 #[.pointer (some ⟨p,0,none⟩)]) :
  Calls Tryz.prog 162 #[.int .i64 (i:Int),.pointer (some ⟨g1,0,none⟩)] w (xQ w p B R (vR [123] [125] (fun t=>YF st i (t.ts.length+1) t) s)):=by
 have HP:=yE h;have HG:=yE hG;have HI:=yE hi;have AJ:=yE hbig;have HN:=yE hn;have AH:=yE hst;have AG:=yE hfine;have AI:=yE h1;have AC:Hid (Ext w (w.alloc (.cells #[.int .i64 (i:Int)] 3))):=yE (Ext.alloc _ _);have AF:=yE (hb1.ext AC.out);have AK:=yE (h.fresh 3 #[.int .i64 (i:Int)]);have cb:=AF.out.1.cell 0;simp only[yJ,yK] at cb;obtain⟨AB,AD⟩:∃x,Hid (x=vR [123] [125] (fun t=>YF st i (t.ts.length+1) t) s):=⟨_,yE rfl⟩;rw[←AD.out];have hm:=hmf;clear h hG hi hbig hn hst hfine h1 hb1
 go_enter Tryz.func162,Tryz.ntmps162
 go_upto_region 1 with fail
 generalize w.alloc (.cells #[.int .i64 (i:Int)] 3)=W0 at *
 go_wp2_with fail
 have yY:isP [123] s=true→s.deep≠64→Good { s.adv with deep:=s.deep+1 }:=fun hi hd=>⟨(HG.out.base.adv (vG hi).1).last,by show s.deep+1≤64; have:=HG.out.deep; omega,HG.out.few⟩
 have few:s.adv.ts.length≤n:=by have h2:=ZF (s:=s); have:=HN.out; have:=HG.out.pos; omega
 refine(zC8 noX W0 p B s R [123] [125] 164 #[] #[.pointer (some ⟨g1,0,none⟩),.pointer (some ⟨w.heap.size,0,none⟩)] (fun t=>YF st i (t.ts.length+1) t) (fun _ _ _=>True) (HP.out.ext AC.out) (enters_of Tryz.func164 (by kernel_rfl) rfl) (fun _ _ _ _ _ h _=>h) (fun hi hd x s' hr=>?_) (fun hi hd wr R' hm hp=>?_)).mono ?_
 ·have hf:=zFR AG.out i ({ s.adv with deep:=s.deep+1 }:Ps).ts.length.succ _ (yY hi hd) few;rw[show YF st i ({ s.adv with deep:=s.deep+1 }:Ps).ts.length.succ { s.adv with deep:=s.deep+1 } = .ok x s' from hr] at hf;exact hf.deep
 ·refine(zNB n st AH.out AG.out AI.out wr p B _ _ _ R' i hp (yY hi hd) HI.out ?_ few (AF.out.xC hm) (AK.out.xC hm)).mono fun e w2 h=>zAA.ofU h;have h1:=AJ.out;have h2:=ZF (s:=s)
  show s.nd.length+2*s.adv.ts.length≤1000000
  omega
 ·intro e w1 AA;have AE:=xQ.trans (yZ.ext AC.out) AA.toU
  rcases AE.unit with ⟨s',hr,rfl,ho⟩ | ⟨er,a,hr,he⟩
  ·have HR:Hid (AB=.ok () s'):=yE (AD.out.trans hr);have HO:=yE ho;clear AA AE hr ho yY few
   go_wp2_with fail
   go_end0;rw[HR.out];exact xQ.ok HO.out
  ·have HE:=yE he;have HR:Hid (AB=.err er a):=yE (AD.out.trans hr);obtain⟨rfl,_⟩:=he;refine xB (P:=Tryz.prog) (fn:=Tryz.f162) rfl ?_;rw[HR.out];exact HE.out
theorem zKX (n:Nat)(st:Nat→Pm Unit)(hst:zAN 165 n st)(hfine:zDS n st)(h1:zJR n st):zAN 135 (n+1) (ZC st):=by
 intro w p B s R i h hG hi AC hn;have HP:=yE h;have HG:=yE hG;have HI:=yE hi;have AH:=yE AC;have HN:=yE hn;have AK:=yE hst;have AM:=yE hfine;have AL:=yE h1;have AG:Hid (Ext w (w.alloc (.cells #[.pointer (some ⟨p,0,none⟩)] 73))):=yE (Ext.alloc _ _);have AE:=yE (h.fresh 73 #[.pointer (some ⟨p,0,none⟩)]);have AJ:=yE (h.ext AG.out);have cb:=AE.out.1.cell 0;simp only[yJ,yK] at cb;obtain⟨AB,AF⟩:∃x,Hid (x=ZC st i s):=⟨_,yE rfl⟩;rw[←AF.out];have hm:=hmf;obtain⟨gb,AI⟩:∃gb,Hid (w.heap.size=gb):=⟨_,yE rfl⟩;rw[AI.out] at AE cb;clear h hG hi AC hn hst hfine h1
 go_enter Tryz.func135,Tryz.ntmps135
 go_upto_region 1 with fail
 rw[AI.out];generalize w.alloc (.cells #[.pointer (some ⟨p,0,none⟩)] 73)=W0 at *;have HF:=yE (AJ.out.fresh 133 #[.func (.func 162) #[] #[.pointer (some ⟨gb,0,none⟩)]]);have AD:Hid (Ext W0 (W0.alloc (.cells #[.func (.func 162) #[] #[.pointer (some ⟨gb,0,none⟩)]] 133))):=yE (Ext.alloc _ _)
 go_wp2_with fail
 refine(zCN _ p B s R i 6 _ [⟨162,#[],#[.pointer (some ⟨gb,0,none⟩)],vR [123] [125] (fun t=>YF st s.nd.length (t.ts.length+1) t)⟩] 1 (AJ.out.ext AD.out) HI.out (by have:=AH.out; unfold Ps.phi at this; omega) (by simp) HG.out HF.out.row (fun f hf=>by
  rw[List.mem_singleton.1 hf]
  exact enters_of Tryz.func162 (by kernel_rfl) rfl) (fun k hk s' wr R' h1 h2 h3=>by
  obtain rfl:k=0:=by simp at hk; omega
  injection h1 with _ h1;subst h1
  exact zMx n st AK.out AM.out AL.out wr p B gb _ R' s.nd.length h3 (vT HG.out i 6) (by rw[xR]; omega) (by
   rw[xR,ZZ];have h1:=AH.out;have h2:=HG.out.pos;unfold Ps.phi at h1
   omega) (by rw[ZZ]; exact HN.out) ((AE.out.ext AD.out).xC h2))).mono ?_
 intro e w1 AA;rw[zCV] at AA
 rcases AA.unit with ⟨s',hr,rfl,ho⟩ | ⟨er,a,hr,he⟩
 ·have HR:Hid (AB=.ok () s'):=yE (AF.out.trans hr);have HO:=yE (OkP.trans (yZ.ext (AG.out.trans AD.out)) ho);clear AA hr ho
  go_wp2_with fail
  go_end0;rw[HR.out];exact xQ.ok HO.out
 ·have HE:=yE (zAa.trans (yZ.ext (AG.out.trans AD.out)) he);have HR:Hid (AB=.err er a):=yE (AF.out.trans hr);obtain⟨rfl,_⟩:=he;refine xB (P:=Tryz.prog) (fn:=Tryz.f135) rfl ?_;rw[HR.out];exact HE.out
end Go.Proofs.YtioffpjajhalaaaGreatDoor
