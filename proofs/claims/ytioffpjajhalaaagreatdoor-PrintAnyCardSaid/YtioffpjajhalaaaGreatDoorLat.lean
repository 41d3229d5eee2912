/- The program's key, row, cell, and the statements that hold no block. (and what follows of it). The conditions stand at each lemma. -/
import Derived.Test.YtioffpjajhalaaaGreatDoorLaa
import Derived.Test.YtioffpjajhalaaaGreatDoorLas
set_option linter.unusedVariables false
set_option linter.unusedSimpArgs false
set_option maxRecDepth 100000
set_option maxHeartbeats 16000000
namespace Go.Proofs.YtioffpjajhalaaaGreatDoor
open Go Go.RowKit
theorem bind_eq {α:Type}{whole:Res α}{r r':Res Unit}{f:Unit→Ps→Res α}(h:Hid (whole=r.bind f))(e:r=r'):whole=r'.bind f:=by rw[h.out,e]
theorem Safe.trans {w w1:World}{M M1:Nat→Prop}{g:Nat}{t:TypeId}{cs:Array Value}(h:Safe w M g t cs)(k:xK w M w1 M1):Safe w1 M1 g t cs:=h.xO k
theorem zPg (w:World)(p B g1 g2:Nat)(s:Ps)(R:xW)(i:Nat)(h:PS w p B s R)(hG:Good s)(hi:i<s.nd.length)(hbig:s.phi≤1000000)(h1:Safe w (xJ p R) g1 73 #[.pointer (some ⟨p,0,none⟩)])(h2:Safe w (xJ p R) g2 3 #[.int .i64 (i:Int)]) :
  Calls Tryz.prog 209 #[.pointer (some ⟨g1,0,none⟩),.pointer (some ⟨g2,0,none⟩)] w (xM w p B R (zAi i s)):=by
 have AA:=yD (Ran.refl h hG);have HI:=yD hi;have AE:=yD hbig;obtain⟨AB,AC⟩:∃x,Hid (x=zAi i s):=⟨_,yD rfl⟩;rw[←AC.out];have c1:=h1.1.cell 0;have c2:=h2.1.cell 0;simp only[yI,yJ] at c1 c2;clear h hG hi hbig h1 h2
 go_enter Tryz.func209,Tryz.ntmps209
 have AD:=yD (jT AC.out)
 go_wp2_with fail
 refine(zAd _ p B s R i AA.out.ps AA.out.lt.xU (AA.out.idx HI.out) (AA.out.phi AE.out)).mono ?_;intro e w1 hp
 rcases Ran.go AD AA (ZL i _ AA.out.lt.xU) hp with ⟨s1,R1,AG,rfl,AF⟩ | ⟨er,a,rfl,HX,HY⟩
 rotate_left
 ·refine xA (P:=Tryz.prog) (fn:=Tryz.f209) rfl ?_;rw[HX.out];exact HY.out
 clear hp
 go_wp2_with fail
 go_end0;rw[AG.out];exact xM.ok AF.out.okp
theorem zKP (w:World)(p B:Nat)(s:Ps)(R:xW)(i:Nat)(h:PS w p B s R)(hG:Good s)(hi:i<s.nd.length)(hbig:s.phi≤1000000) :
  Calls Tryz.prog 204 #[.pointer (some ⟨p,0,none⟩),.int .i64 (i:Int)] w (xM w p B R (zFB i s)):=by
 have HP:=yD h;have HG:=yD hG;have HI:=yD hi;have AH:=yD hbig;have hm:=hmf;obtain⟨W0,AB⟩:∃W0,Hid ((w.alloc (.cells #[.pointer (some ⟨p,0,none⟩)] 73)).alloc (.cells #[.int .i64 (i:Int)] 3)=W0):=⟨_,yD rfl⟩;have AF:Hid (Ext w W0):=yD (by rw[←AB.out]; exact(Ext.alloc _ _).trans (Ext.alloc _ _));have AE:Hid (Safe W0 (xJ p R) w.heap.size 73 #[.pointer (some ⟨p,0,none⟩)]):=yD (by rw[←AB.out]; exact(h.fresh 73 _).ext (Ext.alloc _ _))
 have AG:Hid (Safe W0 (xJ p R) (w.heap.size+1) 3 #[.int .i64 (i:Int)]):=yD (by
  have:=(h.ext (Ext.alloc w (.cells #[.pointer (some ⟨p,0,none⟩)] 73))).fresh 3 #[.int .i64 (i:Int)]
  rw[yQ] at this;rw[←AB.out]
  exact this)
 have cb:=AE.out.1.cell 0;simp only[yI,yJ] at cb;clear h hG hi hbig
 go_enter Tryz.func204,Tryz.ntmps204
 go_upto_region 1 with fail
 rw[AB.out]
 go_wp2_with fail
 have xU:isP [91] s=true→Good { s.adv with deep:=s.deep+1 } ∨ s.deep=64:=fun hi=>by
  by_cases hd:s.deep=64
  ·exact .inr hd
  ·exact .inl ⟨(HG.out.base.adv (vD hi).1).last,by show s.deep+1≤64; have:=HG.out.deep; omega,HG.out.few⟩
 refine(zBG noX W0 p B s R [91] [93] 209 #[] #[.pointer (some ⟨w.heap.size,0,none⟩),.pointer (some ⟨w.heap.size+1,0,none⟩)] (zAi i) (fun _ _ _=>True) (HP.out.ext AF.out) (enters_of Tryz.func209 (by kernel_rfl) rfl) (fun _ _ _ _ _ h _=>h) (fun hi hd x s' hr=>?_) (fun hi hd wr R' hm hp=>?_)).mono ?_
 ·have AC:=(xU hi).resolve_right hd;have hf:=ZL i _ AC;rw[hr] at hf;exact hf.deep
 ·have AC:=(xU hi).resolve_right hd;refine(zPg wr p B _ _ _ R' i hp AC HI.out ?_ (AE.out.xO hm) (AG.out.xO hm)).mono fun e w2 h=>VB.ofU h;have h1:=AH.out;have h2:=jN (s:=s)
  show s.nd.length+2*s.adv.ts.length≤1000000
  unfold Ps.phi at h1;omega
 ·intro e w1 AA;have hu:xM W0 p B R (zFB i s) e w1:=AA.toU;have AD:=xM.trans (xK.ext AF.out) hu
  rcases AD.unit with ⟨s',hr,rfl,ho⟩ | ⟨er,a,hr,he⟩
  ·have HR:Hid (zFB i s=.ok () s'):=yD hr;have HO:=yD ho;clear AA hu AD hr ho xU
   go_wp2_with fail
   go_end0;rw[HR.out];exact xM.ok HO.out
  ·have HE:=yD he;have HR:Hid (zFB i s=.err er a):=yD hr;obtain⟨rfl,_⟩:=he;refine xA (P:=Tryz.prog) (fn:=Tryz.f204) rfl ?_;rw[HR.out];exact HE.out
theorem zBN (s:Ps)(i k:Nat):(s.xH i k).phi=s.phi+1:=by
 unfold Ps.phi;rw[jH,YB];omega
theorem zHd (w:World)(p B:Nat)(s:Ps)(R:xW)(i:Nat)(h:PS w p B s R)(hG:Good s)(hi:i<s.nd.length)(hbig:s.phi≤1000000) :
  Calls Tryz.prog 193 #[.pointer (some ⟨p,0,none⟩),.int .i64 (i:Int)] w (xM w p B R (zJd i s)):=by
 have HP:=yD h;have HG:=yD hG;have HF:=yD (h.fresh 133 #[.func (.func 129) #[.pointer (some ⟨p,0,none⟩)] #[],.func (.func 204) #[.pointer (some ⟨p,0,none⟩)] #[]]);have HX:Hid (Ext w (w.alloc (.cells #[.func (.func 129) #[.pointer (some ⟨p,0,none⟩)] #[],.func (.func 204) #[.pointer (some ⟨p,0,none⟩)] #[]] 133))):=yD (Ext.alloc _ _);have HI:=yD hi;have AD:=yD hbig
 have HQ:Hid (zBV [⟨129,#[.pointer (some ⟨p,0,none⟩)],#[],jI s.nd.length⟩,⟨204,#[.pointer (some ⟨p,0,none⟩)],#[],zFB s.nd.length⟩] (s.xH i 20)=zJd i s):=yD (by
  show((jI s.nd.length (s.xH i 20)).bind fun _ t=>(zFB s.nd.length t).bind fun _ u=>.ok () u)=(jI s.nd.length (s.xH i 20)).bind fun _ t=>zFB s.nd.length t
  cases jI s.nd.length (s.xH i 20) with
  | ok a t=>exact zH8 _
  | err e q=>rfl)
 have hm:=hmf;clear h hG hi hbig
 go_enter Tryz.func193,Tryz.ntmps193
 go_wp2_with fail
 refine(zBq _ p B s R i 20 _ [⟨129,#[.pointer (some ⟨p,0,none⟩)],#[],jI s.nd.length⟩,⟨204,#[.pointer (some ⟨p,0,none⟩)],#[],zFB s.nd.length⟩] 2 (HP.out.ext HX.out) HI.out (by have:=AD.out; unfold Ps.phi at this; omega) (by simp) HG.out HF.out.row (fun f hf=>by
  simp only[zR,List.not_mem_nil,or_false] at hf
  rcases hf with rfl | rfl
  ·exact enters_of Tryz.func129 (by kernel_rfl) rfl
  ·exact enters_of Tryz.func204 (by kernel_rfl) rfl) (fun k hk s' wr R' h1 h2 h3=>by
  have AE:k<2:=hk
  match k,AE with
  | 0,_=>
   injection h1 with _ h1;subst h1;exact XW wr p B _ R' s.nd.length h3 (by rw[jH]; omega)
  | 1,_=>
   have AC:zBV [⟨129,#[.pointer (some ⟨p,0,none⟩)],#[],jI s.nd.length⟩] (s.xH i 20)=.ok () s':=h1;rw[zBw] at AC;have hf:=zAa s.nd.length (vC HG.out i 20);have AB:jI s.nd.length (s.xH i 20)=.ok () s':=AC;rw[AB] at hf;obtain⟨f1,f2,f3,f4,f5⟩:=hf;rw[zBN] at f2;rw[jH] at f4
   exact zKP wr p B s' R' s.nd.length h3 f1 (by omega) (by have:=AD.out; omega))).mono ?_
 intro e w1 AA;rw[HQ.out] at AA
 rcases AA.unit with ⟨s',hr,rfl,ho⟩ | ⟨er,a,hr,he⟩
 ·have HR:Hid (zJd i s=.ok () s'):=yD hr;have HO:=yD (OkP.trans (xK.ext HX.out) ho);clear AA hr ho
  go_wp2_with fail
  go_end0;rw[HR.out];exact xM.ok HO.out
 ·have HE:=yD (JE.trans (xK.ext HX.out) he);have HR:Hid (zJd i s=.err er a):=yD hr;obtain⟨rfl,_⟩:=he;refine xA (P:=Tryz.prog) (fn:=Tryz.f193) rfl ?_;rw[HR.out];exact HE.out
theorem zII (w:World)(p B:Nat)(s:Ps)(R:xW)(i:Nat)(h:PS w p B s R)(hG:Good s)(hi:i<s.nd.length)(hbig:s.phi≤1000000) :
  Calls Tryz.prog 203 #[.pointer (some ⟨p,0,none⟩),.int .i64 (i:Int)] w (xM w p B R (zIJ i s)):=by
 have AB:=yD (Ran.refl h hG);have HI:=yD hi;have AE:=yD hbig;obtain⟨AD,AF⟩:∃x,Hid (x=zIJ i s):=⟨_,yD rfl⟩;rw[←AF.out];have hm:=hmf;clear h hG hi hbig
 go_enter Tryz.func203,Tryz.ntmps203
 go_wp2_with fail
 refine(zHd _ p B s R i AB.out.ps AB.out.lt.xU (AB.out.idx HI.out) (AB.out.phi AE.out)).mono ?_;intro e w2 hp
 rcases Ran.go AF AB (zC4 i _ AB.out.lt.xU) hp with ⟨s2,R2,AG,rfl,AC⟩ | ⟨er,a,rfl,HX,HY⟩
 rotate_left
 ·refine xA (P:=Tryz.prog) (fn:=Tryz.f203) rfl ?_;rw[HX.out];exact HY.out
 clear hp
 go_wp2_with fail
 refine(vT _ p B s2 R2 [46] AC.out.ps).mono ?_;intro e w3 hp
 rcases Ran.go AG AC (xS _ _ AC.out.lt.xU) hp with ⟨s3,R3,AI,rfl,AA⟩ | ⟨er,a,rfl,HX,HY⟩
 rotate_left
 ·refine xA (P:=Tryz.prog) (fn:=Tryz.f203) rfl ?_;rw[HX.out];exact HY.out
 clear hp;have AH:=yD (jT AI.out)
 go_wp2_with fail
 refine(zBk _ p B s3 R3 i AA.out.ps AA.out.lt.xU (AA.out.idx HI.out) (AA.out.nd AE.out)).mono ?_;intro e w4 hp
 rcases Ran.go AH AA (ZT i _ AA.out.lt.xU) hp with ⟨s4,R4,AK,rfl,AJ⟩ | ⟨er,a,rfl,HX,HY⟩
 rotate_left
 ·refine xA (P:=Tryz.prog) (fn:=Tryz.f203) rfl ?_;rw[HX.out];exact HY.out
 clear hp
 go_wp2_with fail
 go_end0;rw[AK.out];exact xM.ok AJ.out.okp
theorem zOq (w:World)(p B:Nat)(s:Ps)(R:xW)(i:Nat)(h:PS w p B s R)(hG:Good s)(hi:i<s.nd.length)(hbig:s.phi≤1000000) :
  Calls Tryz.prog 190 #[.pointer (some ⟨p,0,none⟩),.int .i64 (i:Int)] w (xM w p B R (zKV i s)):=by
 have AE:=yD (Ran.refl h hG);have HI:=yD hi;have AR:=yD hbig;obtain⟨AM,AN⟩:∃x,Hid (x=zKV i s):=⟨_,yD rfl⟩;rw[←AN.out];have hm:=hmf;clear h hG hi hbig
 go_enter Tryz.func190,Tryz.ntmps190
 go_wp2_with fail
 refine(XW _ p B s R i AE.out.ps (AE.out.idx HI.out)).mono ?_;intro e w5 hp
 rcases Ran.go AN AE (ZI i _ AE.out.lt.xU) hp with ⟨s5,R5,AO,rfl,AK⟩ | ⟨er,a,rfl,HX,HY⟩
 rotate_left
 ·refine xA (P:=Tryz.prog) (fn:=Tryz.f190) rfl ?_;rw[HX.out];exact HY.out
 clear hp
 go_wp2_with fail
 refine(vT _ p B s5 R5 [61] AK.out.ps).mono ?_;intro e w6 hp
 rcases Ran.go AO AK (xS _ _ AK.out.lt.xU) hp with ⟨s6,R6,AQ,rfl,AB⟩ | ⟨er,a,rfl,HX,HY⟩
 rotate_left
 ·refine xA (P:=Tryz.prog) (fn:=Tryz.f190) rfl ?_;rw[HX.out];exact HY.out
 clear hp
 go_wp2_with fail
 refine(zII _ p B s6 R6 i AB.out.ps AB.out.lt.xU (AB.out.idx HI.out) (AB.out.phi AR.out)).mono ?_;intro e w7 hp
 rcases Ran.go AQ AB (zDo i _ AB.out.lt.xU) hp with ⟨s7,R7,AL,rfl,AD⟩ | ⟨er,a,rfl,HX,HY⟩
 rotate_left
 ·refine xA (P:=Tryz.prog) (fn:=Tryz.f190) rfl ?_;rw[HX.out];exact HY.out
 clear hp
 cases hi8:isP [102,111,114] s7 with
 | false=>
  have AA:=yD hi8;clear hi8;have AI:=yD (zIg (t:=[102,111,114]) (s:=s7) AL AA)
  go_wp2_with fail
  refine(zAg _ p B s7 R7 [102,111,114] AA AD.out.ps).mono ?_;rintro e w8 ⟨rfl,hx⟩;have AC:=yD (AD.out.ext hx);clear hx
  go_wp2_with fail
  go_end0;rw[AI.out];exact xM.ok AC.out.okp
 | true=>
  have AA:=yD hi8;clear hi8;have AI:=yD (zE4 (t:=[102,111,114]) (s:=s7) AL AA)
  go_wp2_with fail
  refine(JG _ p B s7 R7 [102,111,114] AA AD.out.ps).mono ?_;rintro e w8 ⟨rfl,ho⟩;obtain⟨R8,hs⟩:=AD.out.then ho (zAD AD.out.lt.xU AA);have AC:=yD hs;clear ho hs
  go_wp2_with fail
  refine(vT _ p B s7.adv R8 [117,112,100,97,116,101] AC.out.ps).mono ?_;intro e w9 hp
  rcases Ran.go AI AC (xS _ _ AC.out.lt.xU) hp with ⟨s9,R9,AP,rfl,AF⟩ | ⟨er,a,rfl,HX,HY⟩
  rotate_left
  ·refine xA (P:=Tryz.prog) (fn:=Tryz.f190) rfl ?_;rw[HX.out];exact HY.out
  clear hp;have AG:=yD (jT AP.out)
  go_wp2_with fail
  refine(zBM _ p B s9 R9 i AF.out.ps (AF.out.idx HI.out)).mono ?_;intro e AS hp
  rcases Ran.go AG AF (ZE.num AF.out.lt.xU i 1) hp with ⟨AU,AT,AJ,rfl,AH⟩ | ⟨er,a,rfl,HX,HY⟩
  rotate_left
  ·refine xA (P:=Tryz.prog) (fn:=Tryz.f190) rfl ?_;rw[HX.out];exact HY.out
  clear hp
  go_wp2_with fail
  go_end0;rw[AJ.out];exact xM.ok AH.out.okp
theorem zPH (w:World)(p B:Nat)(s:Ps)(R:xW)(i:Nat)(h:PS w p B s R)(hG:Good s)(hi:i<s.nd.length)(hbig:s.phi≤1000000) :
  Calls Tryz.prog 191 #[.pointer (some ⟨p,0,none⟩),.int .i64 (i:Int)] w (xM w p B R (zQs i s)):=by
 have AC:=yD (Ran.refl h hG);have HI:=yD hi;have AJ:=yD hbig;obtain⟨AI,AK⟩:∃x,Hid (x=zQs i s):=⟨_,yD rfl⟩;rw[←AK.out];have hm:=hmf;clear h hG hi hbig
 go_enter Tryz.func191,Tryz.ntmps191
 go_wp2_with fail
 refine(zII _ p B s R i AC.out.ps AC.out.lt.xU (AC.out.idx HI.out) (AC.out.phi AJ.out)).mono ?_;intro e AT hp
 rcases Ran.go AK AC (zDo i _ AC.out.lt.xU) hp with ⟨AN,AO,AD,rfl,AB⟩ | ⟨er,a,rfl,HX,HY⟩
 rotate_left
 ·refine xA (P:=Tryz.prog) (fn:=Tryz.f191) rfl ?_;rw[HX.out];exact HY.out
 clear hp
 go_wp2_with fail
 refine(vT _ p B AN AO [61] AB.out.ps).mono ?_;intro e AR hp
 rcases Ran.go AD AB (xS _ _ AB.out.lt.xU) hp with ⟨AL,AM,AH,rfl,AA⟩ | ⟨er,a,rfl,HX,HY⟩
 rotate_left
 ·refine xA (P:=Tryz.prog) (fn:=Tryz.f191) rfl ?_;rw[HX.out];exact HY.out
 clear hp;have AF:=yD (jT AH.out)
 go_wp2_with fail
 refine(zAd _ p B AL AM i AA.out.ps AA.out.lt.xU (AA.out.idx HI.out) (AA.out.phi AJ.out)).mono ?_;intro e AQ hp
 rcases Ran.go AF AA (ZL i _ AA.out.lt.xU) hp with ⟨AP,AS,AG,rfl,AE⟩ | ⟨er,a,rfl,HX,HY⟩
 rotate_left
 ·refine xA (P:=Tryz.prog) (fn:=Tryz.f191) rfl ?_;rw[HX.out];exact HY.out
 clear hp
 go_wp2_with fail
 go_end0;rw[AG.out];exact xM.ok AE.out.okp
theorem zKx (w:World)(p B:Nat)(s:Ps)(R:xW)(i:Nat)(h:PS w p B s R)(hG:Good s)(hi:i<s.nd.length)(hbig:s.phi≤1000000) :
  Calls Tryz.prog 192 #[.pointer (some ⟨p,0,none⟩),.int .i64 (i:Int)] w (xM w p B R (zEq i s)):=by
 have AD:=yD (Ran.refl h hG);have HI:=yD hi;have AM:=yD hbig;obtain⟨AL,AN⟩:∃x,Hid (x=zEq i s):=⟨_,yD rfl⟩;rw[←AN.out];have hm:=hmf;clear h hG hi hbig
 go_enter Tryz.func192,Tryz.ntmps192
 go_wp2_with fail
 refine(zHd _ p B s R i AD.out.ps AD.out.lt.xU (AD.out.idx HI.out) (AD.out.phi AM.out)).mono ?_;intro e AW hp
 rcases Ran.go AN AD (zC4 i _ AD.out.lt.xU) hp with ⟨AP,AR,AH,rfl,AB⟩ | ⟨er,a,rfl,HX,HY⟩
 rotate_left
 ·refine xA (P:=Tryz.prog) (fn:=Tryz.f192) rfl ?_;rw[HX.out];exact HY.out
 clear hp
 go_wp2_with fail
 refine(vT _ p B AP AR [40] AB.out.ps).mono ?_;intro e AX hp
 rcases Ran.go AH AB (xS _ _ AB.out.lt.xU) hp with ⟨AU,AS,AK,rfl,AA⟩ | ⟨er,a,rfl,HX,HY⟩
 rotate_left
 ·refine xA (P:=Tryz.prog) (fn:=Tryz.f192) rfl ?_;rw[HX.out];exact HY.out
 clear hp
 go_wp2_with fail
 refine(zE1 _ p B AU AS i ⟨200,#[.pointer (some ⟨p,0,none⟩)],#[],zAi i⟩ AA.out.ps AA.out.lt.xU (enters_of Tryz.func200 (by kernel_rfl) rfl) (ZL i) (fun wr s9 R9 AI Ab AQ=>zAd wr p B s9 R9 i AQ AI.xU (yR (AA.out.idx HI.out) AI.nd) (Nat.le_trans AI.phi (AA.out.phi AM.out)))).mono ?_;intro e AY hp
 rcases Ran.go AK AA (zAG (ZL i) _ AA.out.lt.xU) hp with ⟨AT,AO,AG,rfl,AC⟩ | ⟨er,a,rfl,HX,HY⟩
 rotate_left
 ·refine xA (P:=Tryz.prog) (fn:=Tryz.f192) rfl ?_;rw[HX.out];exact HY.out
 clear hp;have AE:=yD (jT AG.out)
 go_wp2_with fail
 refine(vT _ p B AT AO [41] AC.out.ps).mono ?_;intro e Aa hp
 rcases Ran.go AE AC (xS _ _ AC.out.lt.xU) hp with ⟨AZ,AV,AJ,rfl,AF⟩ | ⟨er,a,rfl,HX,HY⟩
 rotate_left
 ·refine xA (P:=Tryz.prog) (fn:=Tryz.f192) rfl ?_;rw[HX.out];exact HY.out
 clear hp
 go_wp2_with fail
 go_end0;rw[AJ.out];exact xM.ok AF.out.okp
theorem zOa (w:World)(p B:Nat)(s:Ps)(R:xW)(i:Nat)(h:PS w p B s R)(hG:Good s)(hi:i<s.nd.length)(hbig:s.phi≤1000000) :
  Calls Tryz.prog 194 #[.pointer (some ⟨p,0,none⟩),.int .i64 (i:Int)] w (xM w p B R (zJI i s)):=by
 have AE:=yD (Ran.refl h hG);have HI:=yD hi;have AN:=yD hbig;obtain⟨AM,AO⟩:∃x,Hid (x=zJI i s):=⟨_,yD rfl⟩;rw[←AO.out];have hm:=hmf;clear h hG hi hbig
 go_enter Tryz.func194,Tryz.ntmps194
 go_wp2_with fail
 refine(XW _ p B s R i AE.out.ps (AE.out.idx HI.out)).mono ?_;intro e Ac hp
 rcases Ran.go AO AE (ZI i _ AE.out.lt.xU) hp with ⟨AQ,AT,AF,rfl,AD⟩ | ⟨er,a,rfl,HX,HY⟩
 rotate_left
 ·refine xA (P:=Tryz.prog) (fn:=Tryz.f194) rfl ?_;rw[HX.out];exact HY.out
 clear hp
 go_wp2_with fail
 refine(vT _ p B AQ AT [61] AD.out.ps).mono ?_;intro e AY hp
 rcases Ran.go AF AD (xS _ _ AD.out.lt.xU) hp with ⟨AR,AV,AI,rfl,AB⟩ | ⟨er,a,rfl,HX,HY⟩
 rotate_left
 ·refine xA (P:=Tryz.prog) (fn:=Tryz.f194) rfl ?_;rw[HX.out];exact HY.out
 clear hp
 go_wp2_with fail
 refine(zBk _ p B AR AV i AB.out.ps AB.out.lt.xU (AB.out.idx HI.out) (AB.out.nd AN.out)).mono ?_;intro e AZ hp
 rcases Ran.go AI AB (ZT i _ AB.out.lt.xU) hp with ⟨AS,AP,AH,rfl,AC⟩ | ⟨er,a,rfl,HX,HY⟩
 rotate_left
 ·refine xA (P:=Tryz.prog) (fn:=Tryz.f194) rfl ?_;rw[HX.out];exact HY.out
 clear hp
 go_wp2_with fail
 refine(vT _ p B AS AP [46] AC.out.ps).mono ?_;intro e Ad hp
 rcases Ran.go AH AC (xS _ _ AC.out.lt.xU) hp with ⟨AW,AU,AK,rfl,AA⟩ | ⟨er,a,rfl,HX,HY⟩
 rotate_left
 ·refine xA (P:=Tryz.prog) (fn:=Tryz.f194) rfl ?_;rw[HX.out];exact HY.out
 clear hp;have AJ:=yD (jT AK.out)
 go_wp2_with fail
 refine(zBk _ p B AW AU i AA.out.ps AA.out.lt.xU (AA.out.idx HI.out) (AA.out.nd AN.out)).mono ?_;intro e Aa hp
 rcases Ran.go AJ AA (ZT i _ AA.out.lt.xU) hp with ⟨AX,Ab,AG,rfl,AL⟩ | ⟨er,a,rfl,HX,HY⟩
 rotate_left
 ·refine xA (P:=Tryz.prog) (fn:=Tryz.f194) rfl ?_;rw[HX.out];exact HY.out
 clear hp
 go_wp2_with fail
 go_end0;rw[AG.out];exact xM.ok AL.out.okp
theorem zN4 (w:World)(p B:Nat)(s:Ps)(R:xW)(i:Nat)(h:PS w p B s R)(hG:Good s)(hi:i<s.nd.length)(hbig:s.phi≤1000000) :
  Calls Tryz.prog 195 #[.pointer (some ⟨p,0,none⟩),.int .i64 (i:Int)] w (xM w p B R (zJ3 i s)):=by
 have AF:=yD (Ran.refl h hG);have HI:=yD hi;have AS:=yD hbig;obtain⟨AO,AP⟩:∃x,Hid (x=zJ3 i s):=⟨_,yD rfl⟩;rw[←AP.out];have hm:=hmf;clear h hG hi hbig
 go_enter Tryz.func195,Tryz.ntmps195
 go_wp2_with fail
 refine(zBk _ p B s R i AF.out.ps AF.out.lt.xU (AF.out.idx HI.out) (AF.out.nd AS.out)).mono ?_;intro e AY hp
 rcases Ran.go AP AF (ZT i _ AF.out.lt.xU) hp with ⟨AE,AN,AG,rfl,AC⟩ | ⟨er,a,rfl,HX,HY⟩
 rotate_left
 ·refine xA (P:=Tryz.prog) (fn:=Tryz.f195) rfl ?_;rw[HX.out];exact HY.out
 clear hp
 cases hi24:isP [97,108,108] AE with
 | false=>
  have AB:=yD hi24;clear hi24;have AD:=yD (zIg (t:=[97,108,108]) (s:=AE) AG AB)
  go_wp2_with fail
  refine(zAg _ p B AE AN [97,108,108] AB AC.out.ps).mono ?_;rintro e AQ ⟨rfl,hx⟩;have AA:=yD (AC.out.ext hx);clear hx;have AH:=yD (jT AD.out)
  go_wp2_with fail
  refine(vT _ p B AE AN [115,104,97,114,101,100] AA.out.ps).mono ?_;intro e AZ hp
  rcases Ran.go AH AA (xS _ _ AA.out.lt.xU) hp with ⟨AT,AW,AL,rfl,AK⟩ | ⟨er,a,rfl,HX,HY⟩
  rotate_left
  ·refine xA (P:=Tryz.prog) (fn:=Tryz.f195) rfl ?_;rw[HX.out];exact HY.out
  clear hp
  go_wp2_with fail
  go_end0;rw[AL.out];exact xM.ok AK.out.okp
 | true=>
  have AB:=yD hi24;clear hi24;have AD:=yD (zE4 (t:=[97,108,108]) (s:=AE) AG AB)
  go_wp2_with fail
  refine(JG _ p B AE AN [97,108,108] AB AC.out.ps).mono ?_;rintro e AQ ⟨rfl,ho⟩;obtain⟨AR,hs⟩:=AC.out.then ho (zAD AC.out.lt.xU AB);have AA:=yD hs;clear ho hs;have AJ:=yD (jT AD.out)
  go_wp2_with fail
  refine(zBM _ p B AE.adv AR i AA.out.ps (AA.out.idx HI.out)).mono ?_;intro e AU hp
  rcases Ran.go AJ AA (ZE.num AA.out.lt.xU i 1) hp with ⟨AV,AX,AI,rfl,AM⟩ | ⟨er,a,rfl,HX,HY⟩
  rotate_left
  ·refine xA (P:=Tryz.prog) (fn:=Tryz.f195) rfl ?_;rw[HX.out];exact HY.out
  clear hp
  go_wp2_with fail
  refine bodyPost_ret (v:=.tuple #[]) (by simp[results,Tryz.results195,go_sem]) rfl ?_;rw[AI.out];exact xM.ok AM.out.okp
theorem zQk (w:World)(p B:Nat)(s:Ps)(R:xW)(i:Nat)(h:PS w p B s R)(hG:Good s)(hi:i<s.nd.length)(hbig:s.phi≤1000000) :
  Calls Tryz.prog 199 #[.pointer (some ⟨p,0,none⟩),.int .i64 (i:Int)] w (xM w p B R (zPE i s)):=by
 have AC:=yD (Ran.refl h hG);have HI:=yD hi;have AO:=yD hbig;obtain⟨AI,AJ⟩:∃x,Hid (x=zPE i s):=⟨_,yD rfl⟩;rw[←AJ.out];have hm:=hmf;clear h hG hi hbig
 go_enter Tryz.func199,Tryz.ntmps199
 go_wp2_with fail
 refine(XW _ p B s R i AC.out.ps (AC.out.idx HI.out)).mono ?_;intro e AR hp
 rcases Ran.go AJ AC (ZI i _ AC.out.lt.xU) hp with ⟨AN,AK,AD,rfl,AB⟩ | ⟨er,a,rfl,HX,HY⟩
 rotate_left
 ·refine xA (P:=Tryz.prog) (fn:=Tryz.f199) rfl ?_;rw[HX.out];exact HY.out
 clear hp
 go_wp2_with fail
 refine(vT _ p B AN AK [61] AB.out.ps).mono ?_;intro e AT hp
 rcases Ran.go AD AB (xS _ _ AB.out.lt.xU) hp with ⟨AL,AM,AH,rfl,AA⟩ | ⟨er,a,rfl,HX,HY⟩
 rotate_left
 ·refine xA (P:=Tryz.prog) (fn:=Tryz.f199) rfl ?_;rw[HX.out];exact HY.out
 clear hp;have AF:=yD (jT AH.out)
 go_wp2_with fail
 refine(zAd _ p B AL AM i AA.out.ps AA.out.lt.xU (AA.out.idx HI.out) (AA.out.phi AO.out)).mono ?_;intro e AP hp
 rcases Ran.go AF AA (ZL i _ AA.out.lt.xU) hp with ⟨AQ,AS,AE,rfl,AG⟩ | ⟨er,a,rfl,HX,HY⟩
 rotate_left
 ·refine xA (P:=Tryz.prog) (fn:=Tryz.f199) rfl ?_;rw[HX.out];exact HY.out
 clear hp
 go_wp2_with fail
 go_end0;rw[AE.out];exact xM.ok AG.out.okp
theorem zH2 (w:World)(p B:Nat)(s:Ps)(R:xW)(i:Nat)(h:PS w p B s R) :
  Calls Tryz.prog 201 #[.pointer (some ⟨p,0,none⟩),.int .i64 (i:Int)] w (xM w p B R (zSg s)):=by
 have HP:=yD h;clear h
 go_enter Tryz.func201,Tryz.ntmps201
 go_wp2
 go_end0;exact xM.ok ⟨R,HP.out,xK.refl _ _⟩
theorem Ran.goE {α:Type}{w w1 w2:World}{p B:Nat}{R R1:xW}{s s1:Ps}{v:Value}{r:Res Unit}{whole:Res α}{f:Unit→Ps→Res α}{e:Ending}(HL:Hid (whole=r.bind f))(h:Hid (Ran w p B R s w1 R1 s1))(hf:jC s1 r)(hp:zCD w1 p B R1 v r e w2) :
  (∃s2 R2,Hid (r=.ok () s2)∧Hid (whole=f () s2)∧e=.returned v∧Hid (Ran w p B R s w2 R2 s2))∨(∃er a,e=jL er∧Hid (whole=.err er a)∧Hid (JE w p B R er a (jL er) w2)):=by
 cases r with
 | ok a s2=>
  obtain⟨h1,R2,h2,h3⟩:=hp;exact .inl ⟨s2,R2,yD rfl,yD HL.out,h1,yD ⟨h2,h.out.mv.trans h3,h.out.lt.trans hf⟩⟩
 | err er a=>
  obtain⟨h1,h2⟩:=hp;exact .inr ⟨er,a,h1,yD HL.out,yD (JE.trans h.out.mv ⟨rfl,h2⟩)⟩
theorem zD7 {s s1:Ps}{i k:Nat}(g:Good s)(h:jI s.nd.length (s.xH i k)=.ok () s1):s.nd.length<s1.nd.length:=by
 have hf:=zAa s.nd.length (vC g i k);rw[h] at hf
 have:=hf.2.2.2.1
 rw[jH] at this;omega
theorem zIV (w:World)(p B:Nat)(s:Ps)(R:xW)(i:Nat)(h:PS w p B s R)(hG:Good s)(hi:i<s.nd.length)(hbig:s.phi≤1000000) :
  Calls Tryz.prog 196 #[.pointer (some ⟨p,0,none⟩),.int .i64 (i:Int)] w (xM w p B R (zCY i s)):=by
 have HP:=yD h;have HG:=yD hG;have HF:=yD (h.fresh 133 #[.func (.func 129) #[.pointer (some ⟨p,0,none⟩)] #[]]);have HX:Hid (Ext w (w.alloc (.cells #[.func (.func 129) #[.pointer (some ⟨p,0,none⟩)] #[]] 133))):=yD (Ext.alloc _ _);have AM:=yD ((Ran.refl h hG).ext HX.out);have HI:=yD hi;have AJ:=yD hbig;obtain⟨AF,AE⟩:∃x,Hid (x=zCY i s):=⟨_,yD rfl⟩;rw[←AE.out];have hm:=hmf;obtain⟨n,HN⟩:∃n,Hid (s.nd.length=n):=⟨_,yD rfl⟩;clear h hG hi hbig
 go_enter Tryz.func196,Tryz.ntmps196
 go_wp2_with fail
 refine(zBq _ p B s R i 5 _ [⟨129,#[.pointer (some ⟨p,0,none⟩)],#[],jI s.nd.length⟩] 1 (HP.out.ext HX.out) HI.out (by have:=AJ.out; unfold Ps.phi at this; omega) (by simp) HG.out HF.out.row (fun f hf=>by
  rw[List.mem_singleton.1 hf]
  exact enters_of Tryz.func129 (by kernel_rfl) rfl) (fun k hk s' wr R' h1 h2 h3=>by
  obtain rfl:k=0:=by simp at hk; omega
  injection h1 with _ h1;subst h1
  exact XW wr p B _ R' s.nd.length h3 (by rw[jH]; omega))).mono ?_
 intro e w1 hp;rw[zBw] at hp
 rcases Ran.goE AE AM (XR.at (i:=i) (k:=5) (zAa _ (vC HG.out i 5))) hp with ⟨s1,R1,AQ,AB,rfl,AA⟩ | ⟨er,a,rfl,HX,HY⟩
 rotate_left
 ·refine xA (P:=Tryz.prog) (fn:=Tryz.f196) rfl ?_;rw[HX.out];exact HY.out
 clear hp;have AO:Hid (n<s1.nd.length):=yD (by rw[←HN.out]; exact zD7 HG.out AQ.out);rw[HN.out] at AB ⊢
 cases hi1:isP [91] s1 with
 | false=>
  have AC:=yD hi1;clear hi1;have AB:=yD (zIg (t:=[91]) (s:=s1) AB AC)
  go_wp2_with fail
  refine(YT _ p B s1 R1 [91] false AC AA.out.ps).mono ?_;rintro e w1 ⟨rfl,hx⟩;have AA:=yD (AA.out.ext hx);clear hx
  go_wp2_with fail
  go_end0;rw[AB.out];exact xM.ok AA.out.okp
 | true=>
  have AC:=yD hi1;clear hi1;have AB:=yD (zE4 (t:=[91]) (s:=s1) AB AC)
  go_wp2_with fail
  refine(YT _ p B s1 R1 [91] true AC AA.out.ps).mono ?_;rintro e w1 ⟨rfl,hx⟩;have AA:=yD (AA.out.ext hx);clear hx;have AH:Hid (n<s1.nd.length):=AO;obtain⟨g,AI,hA,AS,AR⟩:=AA.out.ps.zGE AH.out;have c0:∃v,w1.cell? ⟨g,n*5,none⟩=some (.int .u8 v):=⟨_,AA.out.ps.zB2 n AI hA 0 (by decide)⟩;obtain⟨v,c0⟩:=c0;have z0:w1.frozen? ⟨g,n*5,none⟩=false:=AA.out.ps.zH4 (n*5) hA;have x1:=AA.out.ps.x1' hA
  have q0:(n:Int)<(R1.nh.length:Int):=by omega
  have AN:Hid (OkP w1 p B R1 (s1.kind n 20) (w1.setCell ⟨g,n*5,none⟩ (.int .u8 20))):=yD (AA.out.ps.put n AI 0 (by decide) _ (fun x=>{ x with kind:=20 }) (fun _=>rfl) rfl hA);obtain⟨R9,AG⟩:=AA.out.then AN.out (ZE.kind AA.out.lt.xU n 20);have AD:=yD AG;clear AG hA
  go_wp2_with fail
  clear c0 z0 x1;have AL:=yD (jT AB.out);refine(zKP _ p B (s1.kind n 20) R9 n AD.out.ps AD.out.lt.xU (yR AH.out (by show _≤(s1.on n _).nd.length; rw[zCA]; exact zU _)) (AD.out.phi AJ.out)).mono ?_;intro e w2 hp
  rcases Ran.go AL AD (zGQ n _ AD.out.lt.xU) hp with ⟨s2,R2,AP,rfl,AK⟩ | ⟨er,a,rfl,HX,HY⟩
  rotate_left
  ·refine xA (P:=Tryz.prog) (fn:=Tryz.f196) rfl ?_;rw[HX.out];exact HY.out
  clear hp
  go_wp2_with fail
  go_end0;rw[AP.out];exact xM.ok AK.out.okp
def VO (F n:Nat)(m:Nat→Pm Unit):Prop:=∀(w:World) (p B:Nat) (s:Ps) (R:xW) (i:Nat),PS w p B s R→Good s→i<s.nd.length→s.phi≤1000000→s.ts.length≤n→Calls Tryz.prog F #[.pointer (some ⟨p,0,none⟩),.int .i64 (i:Int)] w (xM w p B R (m i s))
def zHu (n:Nat)(st:Nat→Pm Unit):Prop:=∀i s s',Good s→s.ts.length≤n→st i s=.ok () s'→s'.ts.length<s.ts.length
theorem zNT {st:Nat→Pm Unit}{i f:Nat}{s:Ps}(h:isP [125] s=true):YZ st i (f+1) s=.ok () s:=by unfold YZ; rw[if_pos h]
theorem zL9 {st:Nat→Pm Unit}{i f:Nat}{s:Ps}(h:isP [125] s=false):YZ st i (f+1) s=(st i s).bind fun _ s=>YZ st i f s:=by rw[YZ,h]; rfl
theorem zKS (n:Nat)(st:Nat→Pm Unit)(hst:VO 165 n st)(hfine:zCi n st)(h1:zHu n st)(w:World)(p B g1 g2:Nat)(s:Ps)(R:xW)(i:Nat)(h:PS w p B s R)(hG:Good s)(hi:i<s.nd.length)(hbig:s.phi≤1000000)(hn:s.ts.length≤n)(hb1:Safe w (xJ p R) g1 73 #[.pointer (some ⟨p,0,none⟩)])(hb2:Safe w (xJ p R) g2 3 #[.int .i64 (i:Int)]) :
  Calls Tryz.prog 164 #[.pointer (some ⟨g1,0,none⟩),.pointer (some ⟨g2,0,none⟩)] w (xM w p B R (YZ st i (s.ts.length+1) s)):=by
 have AT:=yD (Ran.refl h hG);have HI:=yD hi;have AW:=yD hbig;have HN:=yD hn;have AS:=yD hst;have AV:=yD hfine;have AP:=yD h1;have AE:=yD hb1;have AD:=yD hb2;obtain⟨AA,AO⟩:∃x,Hid (x=YZ st i (s.ts.length+1) s):=⟨_,yD rfl⟩;rw[←AO.out];clear h hG hi hbig hn hst hfine h1 hb1 hb2
 go_enter Tryz.func164,Tryz.ntmps164
 go_wp2_with fail
 go_loopw [] (fun wr=>∃(s':Ps) (R':xW) (m:Nat),Hid (Ran w p B R s wr R' s')∧Hid (s'.ts.length<m)∧Hid (AA=YZ st i m s')) (fun wr=>XO p wr)
 case atStart=>exact⟨s,R,s.ts.length+1,AT,yD (Nat.lt_succ_self _),AO⟩
 case round=>
  obtain⟨s',R',m,HS,HM,HL⟩:=hrel;obtain⟨wa,rfl⟩:∃wa:World,wa=wr:=⟨_,rfl⟩;obtain⟨m',rfl⟩:∃m',m=m'+1:=⟨m-1,by have:=HM.out; omega⟩;have AF:=(AE.out.xO HS.out.mv).1.cell 0;have AI:=(AD.out.xO HS.out.mv).1.cell 0;simp only[yI,yJ] at AF AI;have AX:=(AE.out.xO HS.out.mv).1.lt;have AY:=(AD.out.xO HS.out.mv).1.lt
  cases hi:isP [125] s' with
  | true=>
   have AC:=yD hi;have HR:Hid (AA=.ok () s'):=yD (by rw[HL.out,zNT hi]);clear hi
   go_wp2_with fail
   refine(YT wa p B s' R' [125] true AC HS.out.ps).mono ?_;rintro e w2 ⟨rfl,hx⟩;have AB:=yD (HS.out.ext hx);clear hx
   go_wp2_with fail
   go_end0;rw[HR.out];exact xM.ok AB.out.okp
  | false=>
   have AC:=yD hi;have HQ:Hid (AA=(st i s').bind fun _ s=>YZ st i m' s):=yD (by rw[HL.out,zL9 hi]);clear hi
   go_wp2_with fail
   refine(YT wa p B s' R' [125] false AC HS.out.ps).mono ?_;rintro e w2 ⟨rfl,hx⟩;have AB:=yD (HS.out.ext hx);have AG:=((AE.out.xO AB.out.mv).1.cell 0);have AH:=((AD.out.xO AB.out.mv).1.cell 0);simp only[yI,yJ] at AG AH;clear hx AF AI
   go_wp2_with fail
   refine(AS.out w2 p B s' R' i AB.out.ps AB.out.lt.xU (AB.out.idx HI.out) (AB.out.phi AW.out) (AB.out.few HN.out)).mono ?_;intro e w3 hp;have AN:∀s3,st i s'=.ok () s3→s3.ts.length<s'.ts.length:=fun s3 h3=>AP.out i s' s3 AB.out.lt.xU (AB.out.few HN.out) h3;have AM:=AV.out i s' AB.out.lt.xU (AB.out.few HN.out)
   cases hr:st i s' with
   | err er a=>
    rw[hr] at hp;obtain⟨rfl,ho⟩:=hp;have HF:Hid (xM w p B R AA (jL er) w3):=yD (by rw[HQ.out,hr]; exact JE.trans AB.out.mv ⟨rfl,ho⟩);exact xA (P:=Tryz.prog) (fn:=Tryz.f164) rfl HF.out
   | ok a s3=>
    rw[hr] at hp AM;obtain⟨rfl,ho⟩:=hp;obtain⟨R3,AL⟩:=AB.out.then ho AM;have AK:=yD AL;have AJ:=yD (AN s3 hr);have AQ:Hid (AA=YZ st i m' s3):=yD (by rw[HQ.out,hr]; rfl);have AU:Hid (s3.ts.length<m'):=yD (by have:=AJ.out; have:=HM.out; omega);have AR:Hid (XO p w3<XO p wa):=yD (by rw[AK.out.ps.XO,HS.out.ps.XO]; exact AJ.out);clear hr ho AL AN AG AH
    go_wp2_with fail
    go_roundw
    case rel=>exact⟨s3,R3,m',AK,AU,AQ⟩
    case measure=>exact AR.out
theorem zJB (n:Nat)(st:Nat→Pm Unit)(hst:VO 165 n st)(hfine:zCi n st)(h1:zHu n st)(w:World)(p B g1:Nat)(s:Ps)(R:xW)(i:Nat)(h:PS w p B s R)(hG:Good s)(hi:i<s.nd.length)(hbig:s.nd.length+2*(s.ts.length-1)≤1000000)(hn:s.ts.length≤n+1)(hb1:Safe w (xJ p R) g1 73 #[.pointer (some ⟨p,0,none⟩)]) :
  Calls Tryz.prog 162 #[.int .i64 (i:Int),.pointer (some ⟨g1,0,none⟩)] w (xM w p B R (vX [123] [125] (fun t=>YZ st i (t.ts.length+1) t) s)):=by
 have HP:=yD h;have HG:=yD hG;have HI:=yD hi;have AK:=yD hbig;have HN:=yD hn;have AJ:=yD hst;have AG:=yD hfine;have AH:=yD h1;have AD:Hid (Ext w (w.alloc (.cells #[.int .i64 (i:Int)] 3))):=yD (Ext.alloc _ _);have AF:=yD (hb1.ext AD.out);have AI:=yD (h.fresh 3 #[.int .i64 (i:Int)]);have cb:=AF.out.1.cell 0;simp only[yI,yJ] at cb;obtain⟨AA,AC⟩:∃x,Hid (x=vX [123] [125] (fun t=>YZ st i (t.ts.length+1) t) s):=⟨_,yD rfl⟩;rw[←AC.out];have hm:=hmf;clear h hG hi hbig hn hst hfine h1 hb1
 go_enter Tryz.func162,Tryz.ntmps162
 go_upto_region 1 with fail
 generalize w.alloc (.cells #[.int .i64 (i:Int)] 3)=W0 at *
 go_wp2_with fail
 have xU:isP [123] s=true→s.deep≠64→Good { s.adv with deep:=s.deep+1 }:=fun hi hd=>⟨(HG.out.base.adv (vD hi).1).last,by show s.deep+1≤64; have:=HG.out.deep; omega,HG.out.few⟩
 have few:s.adv.ts.length≤n:=by have h2:=jN (s:=s); have:=HN.out; have:=HG.out.pos; omega
 refine(zBG noX W0 p B s R [123] [125] 164 #[] #[.pointer (some ⟨g1,0,none⟩),.pointer (some ⟨w.heap.size,0,none⟩)] (fun t=>YZ st i (t.ts.length+1) t) (fun _ _ _=>True) (HP.out.ext AD.out) (enters_of Tryz.func164 (by kernel_rfl) rfl) (fun _ _ _ _ _ h _=>h) (fun hi hd x s' hr=>?_) (fun hi hd wr R' hm hp=>?_)).mono ?_
 ·have hf:=zDR AG.out i ({ s.adv with deep:=s.deep+1 }:Ps).ts.length.succ _ (xU hi hd) few;rw[show YZ st i ({ s.adv with deep:=s.deep+1 }:Ps).ts.length.succ { s.adv with deep:=s.deep+1 } = .ok x s' from hr] at hf;exact hf.deep
 ·refine(zKS n st AJ.out AG.out AH.out wr p B _ _ _ R' i hp (xU hi hd) HI.out ?_ few (AF.out.xO hm) (AI.out.xO hm)).mono fun e w2 h=>VB.ofU h;have h1:=AK.out;have h2:=jN (s:=s)
  show s.nd.length+2*s.adv.ts.length≤1000000
  omega
 ·intro e w1 AB;have AE:=xM.trans (xK.ext AD.out) AB.toU
  rcases AE.unit with ⟨s',hr,rfl,ho⟩ | ⟨er,a,hr,he⟩
  ·have HR:Hid (AA=.ok () s'):=yD (AC.out.trans hr);have HO:=yD ho;clear AB AE hr ho xU few
   go_wp2_with fail
   go_end0;rw[HR.out];exact xM.ok HO.out
  ·have HE:=yD he;have HR:Hid (AA=.err er a):=yD (AC.out.trans hr);obtain⟨rfl,_⟩:=he;refine xA (P:=Tryz.prog) (fn:=Tryz.f162) rfl ?_;rw[HR.out];exact HE.out
theorem zIk (n:Nat)(st:Nat→Pm Unit)(hst:VO 165 n st)(hfine:zCi n st)(h1:zHu n st):VO 135 (n+1) (zAK st):=by
 intro w p B s R i h hG hi AC hn;have HP:=yD h;have HG:=yD hG;have HI:=yD hi;have AI:=yD AC;have HN:=yD hn;have AL:=yD hst;have AM:=yD hfine;have AK:=yD h1;have AG:Hid (Ext w (w.alloc (.cells #[.pointer (some ⟨p,0,none⟩)] 73))):=yD (Ext.alloc _ _);have AF:=yD (h.fresh 73 #[.pointer (some ⟨p,0,none⟩)]);have AH:=yD (h.ext AG.out);have cb:=AF.out.1.cell 0;simp only[yI,yJ] at cb;obtain⟨AB,AE⟩:∃x,Hid (x=zAK st i s):=⟨_,yD rfl⟩;rw[←AE.out];have hm:=hmf;obtain⟨gb,AJ⟩:∃gb,Hid (w.heap.size=gb):=⟨_,yD rfl⟩;rw[AJ.out] at AF cb;clear h hG hi AC hn hst hfine h1
 go_enter Tryz.func135,Tryz.ntmps135
 go_upto_region 1 with fail
 rw[AJ.out];generalize w.alloc (.cells #[.pointer (some ⟨p,0,none⟩)] 73)=W0 at *;have HF:=yD (AH.out.fresh 133 #[.func (.func 162) #[] #[.pointer (some ⟨gb,0,none⟩)]]);have AD:Hid (Ext W0 (W0.alloc (.cells #[.func (.func 162) #[] #[.pointer (some ⟨gb,0,none⟩)]] 133))):=yD (Ext.alloc _ _)
 go_wp2_with fail
 refine(zBq _ p B s R i 6 _ [⟨162,#[],#[.pointer (some ⟨gb,0,none⟩)],vX [123] [125] (fun t=>YZ st s.nd.length (t.ts.length+1) t)⟩] 1 (AH.out.ext AD.out) HI.out (by have:=AI.out; unfold Ps.phi at this; omega) (by simp) HG.out HF.out.row (fun f hf=>by
  rw[List.mem_singleton.1 hf]
  exact enters_of Tryz.func162 (by kernel_rfl) rfl) (fun k hk s' wr R' h1 h2 h3=>by
  obtain rfl:k=0:=by simp at hk; omega
  injection h1 with _ h1;subst h1
  exact zJB n st AL.out AM.out AK.out wr p B gb _ R' s.nd.length h3 (vC HG.out i 6) (by rw[jH]; omega) (by
   rw[jH,YB];have h1:=AI.out;have h2:=HG.out.pos;unfold Ps.phi at h1
   omega) (by rw[YB]; exact HN.out) ((AF.out.ext AD.out).xO h2))).mono ?_
 intro e w1 AA;rw[zBw] at AA
 rcases AA.unit with ⟨s',hr,rfl,ho⟩ | ⟨er,a,hr,he⟩
 ·have HR:Hid (AB=.ok () s'):=yD (AE.out.trans hr);have HO:=yD (OkP.trans (xK.ext (AG.out.trans AD.out)) ho);clear AA hr ho
  go_wp2_with fail
  go_end0;rw[HR.out];exact xM.ok HO.out
 ·have HE:=yD (JE.trans (xK.ext (AG.out.trans AD.out)) he);have HR:Hid (AB=.err er a):=yD (AE.out.trans hr);obtain⟨rfl,_⟩:=he;refine xA (P:=Tryz.prog) (fn:=Tryz.f135) rfl ?_;rw[HR.out];exact HE.out
end Go.Proofs.YtioffpjajhalaaaGreatDoor
