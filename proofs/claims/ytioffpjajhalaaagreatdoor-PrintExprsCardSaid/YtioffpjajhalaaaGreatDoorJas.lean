/- The program's key, row, cell, and the statements that hold no block. (and what follows of it). The conditions stand at each lemma. -/
import Derived.Test.YtioffpjajhalaaaGreatDoorJaa
import Derived.Test.YtioffpjajhalaaaGreatDoorJar
set_option linter.unusedVariables false
set_option linter.unusedSimpArgs false
set_option maxRecDepth 100000
set_option maxHeartbeats 16000000
namespace Go.Proofs.YtioffpjajhalaaaGreatDoor
open Go Go.RowKit
theorem bind_eq {α:Type}{whole:Res α}{r r':Res Unit}{f:Unit→Ps→Res α}(h:Hid (whole=r.bind f))(e:r=r'):whole=r'.bind f:=by rw[h.out,e]
theorem Safe.trans {w w1:World}{M M1:Nat→Prop}{g:Nat}{t:TypeId}{cs:Array Value}(h:Safe w M g t cs)(k:xH w M w1 M1):Safe w1 M1 g t cs:=h.xJ k
theorem zRN (w:World)(p B g1 g2:Nat)(s:Ps)(R:xS)(i:Nat)(h:PS w p B s R)(hG:Good s)(hi:i<s.nd.length)(hbig:s.phi≤1000000)(h1:Safe w (xG p R) g1 73 #[.pointer (some ⟨p,0,none⟩)])(h2:Safe w (xG p R) g2 3 #[.int .i64 (i:Int)]) :
  Calls Tryz.prog 209 #[.pointer (some ⟨g1,0,none⟩),.pointer (some ⟨g2,0,none⟩)] w (xI w p B R (XC i s)):=by
 have AA:=yD (Ran.refl h hG);have HI:=yD hi;have AG:=yD hbig;obtain⟨AB,AC⟩:∃x,Hid (x=XC i s):=⟨_,yD rfl⟩;rw[←AC.out];have c1:=h1.1.cell 0;have c2:=h2.1.cell 0;simp only[yI,yJ] at c1 c2;clear h hG hi hbig h1 h2
 go_enter Tryz.func209,Tryz.ntmps209
 have AE:=yD (ZH AC.out)
 go_wp2_with fail
 refine(zAN _ p B s R i AA.out.ps AA.out.lt.xQ (AA.out.idx HI.out) (AA.out.phi AG.out)).mono ?_;intro e w1 hp
 rcases Ran.go AE AA (YB i _ AA.out.lt.xQ) hp with ⟨s1,R1,AF,rfl,AD⟩ | ⟨er,a,rfl,HX,HY⟩
 rotate_left
 ·refine yZ (P:=Tryz.prog) (fn:=Tryz.f209) rfl ?_;rw[HX.out];exact HY.out
 clear hp
 go_wp2_with fail
 go_end0;rw[AF.out];exact xI.ok AD.out.okp
theorem zNN (w:World)(p B:Nat)(s:Ps)(R:xS)(i:Nat)(h:PS w p B s R)(hG:Good s)(hi:i<s.nd.length)(hbig:s.phi≤1000000) :
  Calls Tryz.prog 204 #[.pointer (some ⟨p,0,none⟩),.int .i64 (i:Int)] w (xI w p B R (zD5 i s)):=by
 have HP:=yD h;have HG:=yD hG;have HI:=yD hi;have AH:=yD hbig;have hm:=hmf;obtain⟨W0,AB⟩:∃W0,Hid ((w.alloc (.cells #[.pointer (some ⟨p,0,none⟩)] 73)).alloc (.cells #[.int .i64 (i:Int)] 3)=W0):=⟨_,yD rfl⟩;have AE:Hid (Ext w W0):=yD (by rw[←AB.out]; exact(Ext.alloc _ _).trans (Ext.alloc _ _));have AF:Hid (Safe W0 (xG p R) w.heap.size 73 #[.pointer (some ⟨p,0,none⟩)]):=yD (by rw[←AB.out]; exact(h.fresh 73 _).ext (Ext.alloc _ _))
 have AG:Hid (Safe W0 (xG p R) (w.heap.size+1) 3 #[.int .i64 (i:Int)]):=yD (by
  have:=(h.ext (Ext.alloc w (.cells #[.pointer (some ⟨p,0,none⟩)] 73))).fresh 3 #[.int .i64 (i:Int)]
  rw[yQ] at this;rw[←AB.out]
  exact this)
 have cb:=AF.out.1.cell 0;simp only[yI,yJ] at cb;clear h hG hi hbig
 go_enter Tryz.func204,Tryz.ntmps204
 go_upto_region 1 with fail
 rw[AB.out]
 go_wp2_with fail
 have xQ:isP [91] s=true→Good { s.adv with deep:=s.deep+1 } ∨ s.deep=64:=fun hi=>by
  by_cases hd:s.deep=64
  ·exact .inr hd
  ·exact .inl ⟨(HG.out.base.adv (vI hi).1).last,by show s.deep+1≤64; have:=HG.out.deep; omega,HG.out.few⟩
 refine(zCJ noX W0 p B s R [91] [93] 209 #[] #[.pointer (some ⟨w.heap.size,0,none⟩),.pointer (some ⟨w.heap.size+1,0,none⟩)] (XC i) (fun _ _ _=>True) (HP.out.ext AE.out) (enters_of Tryz.func209 (by kernel_rfl) rfl) (fun _ _ _ _ _ h _=>h) (fun hi hd x s' hr=>?_) (fun hi hd wr R' hm hp=>?_)).mono ?_
 ·have AC:=(xQ hi).resolve_right hd;have hf:=YB i _ AC;rw[hr] at hf;exact hf.deep
 ·have AC:=(xQ hi).resolve_right hd;refine(zRN wr p B _ _ _ R' i hp AC HI.out ?_ (AF.out.xJ hm) (AG.out.xJ hm)).mono fun e w2 h=>zAj.ofU h;have h1:=AH.out;have h2:=jX (s:=s)
  show s.nd.length+2*s.adv.ts.length≤1000000
  unfold Ps.phi at h1;omega
 ·intro e w1 AA;have hu:xI W0 p B R (zD5 i s) e w1:=AA.toU;have AD:=xI.trans (xH.ext AE.out) hu
  rcases AD.unit with ⟨s',hr,rfl,ho⟩ | ⟨er,a,hr,he⟩
  ·have HR:Hid (zD5 i s=.ok () s'):=yD hr;have HO:=yD ho;clear AA hu AD hr ho xQ
   go_wp2_with fail
   go_end0;rw[HR.out];exact xI.ok HO.out
  ·have HE:=yD he;have HR:Hid (zD5 i s=.err er a):=yD hr;obtain⟨rfl,_⟩:=he;refine yZ (P:=Tryz.prog) (fn:=Tryz.f204) rfl ?_;rw[HR.out];exact HE.out
theorem zCP (s:Ps)(i k:Nat):(s.xB i k).phi=s.phi+1:=by
 unfold Ps.phi;rw[jR,YY];omega
theorem zJi (w:World)(p B:Nat)(s:Ps)(R:xS)(i:Nat)(h:PS w p B s R)(hG:Good s)(hi:i<s.nd.length)(hbig:s.phi≤1000000) :
  Calls Tryz.prog 193 #[.pointer (some ⟨p,0,none⟩),.int .i64 (i:Int)] w (xI w p B R (zEn i s)):=by
 have HP:=yD h;have HG:=yD hG;have HF:=yD (h.fresh 133 #[.func (.func 129) #[.pointer (some ⟨p,0,none⟩)] #[],.func (.func 204) #[.pointer (some ⟨p,0,none⟩)] #[]]);have HX:Hid (Ext w (w.alloc (.cells #[.func (.func 129) #[.pointer (some ⟨p,0,none⟩)] #[],.func (.func 204) #[.pointer (some ⟨p,0,none⟩)] #[]] 133))):=yD (Ext.alloc _ _);have HI:=yD hi;have AD:=yD hbig
 have HQ:Hid (zC3 [⟨129,#[.pointer (some ⟨p,0,none⟩)],#[],vS s.nd.length⟩,⟨204,#[.pointer (some ⟨p,0,none⟩)],#[],zD5 s.nd.length⟩] (s.xB i 20)=zEn i s):=yD (by
  show((vS s.nd.length (s.xB i 20)).bind fun _ t=>(zD5 s.nd.length t).bind fun _ u=>.ok () u)=(vS s.nd.length (s.xB i 20)).bind fun _ t=>zD5 s.nd.length t
  cases vS s.nd.length (s.xB i 20) with
  | ok a t=>exact zKw _
  | err e q=>rfl)
 have hm:=hmf;clear h hG hi hbig
 go_enter Tryz.func193,Tryz.ntmps193
 go_wp2_with fail
 refine(zCz _ p B s R i 20 _ [⟨129,#[.pointer (some ⟨p,0,none⟩)],#[],vS s.nd.length⟩,⟨204,#[.pointer (some ⟨p,0,none⟩)],#[],zD5 s.nd.length⟩] 2 (HP.out.ext HX.out) HI.out (by have:=AD.out; unfold Ps.phi at this; omega) (by simp) HG.out HF.out.row (fun f hf=>by
  simp only[zR,List.not_mem_nil,or_false] at hf
  rcases hf with rfl | rfl
  ·exact enters_of Tryz.func129 (by kernel_rfl) rfl
  ·exact enters_of Tryz.func204 (by kernel_rfl) rfl) (fun k hk s' wr R' h1 h2 h3=>by
  have AE:k<2:=hk
  match k,AE with
  | 0,_=>
   injection h1 with _ h1;subst h1;exact VC wr p B _ R' s.nd.length h3 (by rw[jR]; omega)
  | 1,_=>
   have AC:zC3 [⟨129,#[.pointer (some ⟨p,0,none⟩)],#[],vS s.nd.length⟩] (s.xB i 20)=.ok () s':=h1;rw[zCF] at AC;have hf:=zAK s.nd.length (vH HG.out i 20);have AB:vS s.nd.length (s.xB i 20)=.ok () s':=AC;rw[AB] at hf;obtain⟨f1,f2,f3,f4,f5⟩:=hf;rw[zCP] at f2;rw[jR] at f4
   exact zNN wr p B s' R' s.nd.length h3 f1 (by omega) (by have:=AD.out; omega))).mono ?_
 intro e w1 AA;rw[HQ.out] at AA
 rcases AA.unit with ⟨s',hr,rfl,ho⟩ | ⟨er,a,hr,he⟩
 ·have HR:Hid (zEn i s=.ok () s'):=yD hr;have HO:=yD (OkP.trans (xH.ext HX.out) ho);clear AA hr ho
  go_wp2_with fail
  go_end0;rw[HR.out];exact xI.ok HO.out
 ·have HE:=yD (VK.trans (xH.ext HX.out) he);have HR:Hid (zEn i s=.err er a):=yD hr;obtain⟨rfl,_⟩:=he;refine yZ (P:=Tryz.prog) (fn:=Tryz.f193) rfl ?_;rw[HR.out];exact HE.out
theorem zLl (w:World)(p B:Nat)(s:Ps)(R:xS)(i:Nat)(h:PS w p B s R)(hG:Good s)(hi:i<s.nd.length)(hbig:s.phi≤1000000) :
  Calls Tryz.prog 203 #[.pointer (some ⟨p,0,none⟩),.int .i64 (i:Int)] w (xI w p B R (zEF i s)):=by
 have AB:=yD (Ran.refl h hG);have HI:=yD hi;have AF:=yD hbig;obtain⟨AD,AE⟩:∃x,Hid (x=zEF i s):=⟨_,yD rfl⟩;rw[←AE.out];have hm:=hmf;clear h hG hi hbig
 go_enter Tryz.func203,Tryz.ntmps203
 go_wp2_with fail
 refine(zJi _ p B s R i AB.out.ps AB.out.lt.xQ (AB.out.idx HI.out) (AB.out.phi AF.out)).mono ?_;intro e w2 hp
 rcases Ran.go AE AB (zEv i _ AB.out.lt.xQ) hp with ⟨s2,R2,AK,rfl,AC⟩ | ⟨er,a,rfl,HX,HY⟩
 rotate_left
 ·refine yZ (P:=Tryz.prog) (fn:=Tryz.f203) rfl ?_;rw[HX.out];exact HY.out
 clear hp
 go_wp2_with fail
 refine(vX _ p B s2 R2 [46] AC.out.ps).mono ?_;intro e w3 hp
 rcases Ran.go AK AC (xN _ _ AC.out.lt.xQ) hp with ⟨s3,R3,AH,rfl,AA⟩ | ⟨er,a,rfl,HX,HY⟩
 rotate_left
 ·refine yZ (P:=Tryz.prog) (fn:=Tryz.f203) rfl ?_;rw[HX.out];exact HY.out
 clear hp;have AJ:=yD (ZH AH.out)
 go_wp2_with fail
 refine(zCo _ p B s3 R3 i AA.out.ps AA.out.lt.xQ (AA.out.idx HI.out) (AA.out.nd AF.out)).mono ?_;intro e w4 hp
 rcases Ran.go AJ AA (YN i _ AA.out.lt.xQ) hp with ⟨s4,R4,AG,rfl,AI⟩ | ⟨er,a,rfl,HX,HY⟩
 rotate_left
 ·refine yZ (P:=Tryz.prog) (fn:=Tryz.f203) rfl ?_;rw[HX.out];exact HY.out
 clear hp
 go_wp2_with fail
 go_end0;rw[AG.out];exact xI.ok AI.out.okp
theorem zQ5 (w:World)(p B:Nat)(s:Ps)(R:xS)(i:Nat)(h:PS w p B s R)(hG:Good s)(hi:i<s.nd.length)(hbig:s.phi≤1000000) :
  Calls Tryz.prog 190 #[.pointer (some ⟨p,0,none⟩),.int .i64 (i:Int)] w (xI w p B R (zGb i s)):=by
 have AE:=yD (Ran.refl h hG);have HI:=yD hi;have AP:=yD hbig;obtain⟨AN,AL⟩:∃x,Hid (x=zGb i s):=⟨_,yD rfl⟩;rw[←AL.out];have hm:=hmf;clear h hG hi hbig
 go_enter Tryz.func190,Tryz.ntmps190
 go_wp2_with fail
 refine(VC _ p B s R i AE.out.ps (AE.out.idx HI.out)).mono ?_;intro e w5 hp
 rcases Ran.go AL AE (ZY i _ AE.out.lt.xQ) hp with ⟨s5,R5,AQ,rfl,AJ⟩ | ⟨er,a,rfl,HX,HY⟩
 rotate_left
 ·refine yZ (P:=Tryz.prog) (fn:=Tryz.f190) rfl ?_;rw[HX.out];exact HY.out
 clear hp
 go_wp2_with fail
 refine(vX _ p B s5 R5 [61] AJ.out.ps).mono ?_;intro e w6 hp
 rcases Ran.go AQ AJ (xN _ _ AJ.out.lt.xQ) hp with ⟨s6,R6,AR,rfl,AA⟩ | ⟨er,a,rfl,HX,HY⟩
 rotate_left
 ·refine yZ (P:=Tryz.prog) (fn:=Tryz.f190) rfl ?_;rw[HX.out];exact HY.out
 clear hp
 go_wp2_with fail
 refine(zLl _ p B s6 R6 i AA.out.ps AA.out.lt.xQ (AA.out.idx HI.out) (AA.out.phi AP.out)).mono ?_;intro e w7 hp
 rcases Ran.go AR AA (zE0 i _ AA.out.lt.xQ) hp with ⟨s7,R7,AM,rfl,AD⟩ | ⟨er,a,rfl,HX,HY⟩
 rotate_left
 ·refine yZ (P:=Tryz.prog) (fn:=Tryz.f190) rfl ?_;rw[HX.out];exact HY.out
 clear hp
 cases hi8:isP [102,111,114] s7 with
 | false=>
  have AB:=yD hi8;clear hi8;have AG:=yD (zKH (t:=[102,111,114]) (s:=s7) AM AB)
  go_wp2_with fail
  refine(zAQ _ p B s7 R7 [102,111,114] AB AD.out.ps).mono ?_;rintro e w8 ⟨rfl,hx⟩;have AC:=yD (AD.out.ext hx);clear hx
  go_wp2_with fail
  go_end0;rw[AG.out];exact xI.ok AC.out.okp
 | true=>
  have AB:=yD hi8;clear hi8;have AG:=yD (zG8 (t:=[102,111,114]) (s:=s7) AM AB)
  go_wp2_with fail
  refine(VO _ p B s7 R7 [102,111,114] AB AD.out.ps).mono ?_;rintro e w8 ⟨rfl,ho⟩;obtain⟨R8,hs⟩:=AD.out.then ho (zBw AD.out.lt.xQ AB);have AC:=yD hs;clear ho hs
  go_wp2_with fail
  refine(vX _ p B s7.adv R8 [117,112,100,97,116,101] AC.out.ps).mono ?_;intro e w9 hp
  rcases Ran.go AG AC (xN _ _ AC.out.lt.xQ) hp with ⟨s9,R9,AO,rfl,AF⟩ | ⟨er,a,rfl,HX,HY⟩
  rotate_left
  ·refine yZ (P:=Tryz.prog) (fn:=Tryz.f190) rfl ?_;rw[HX.out];exact HY.out
  clear hp;have AH:=yD (ZH AO.out)
  go_wp2_with fail
  refine(zCO _ p B s9 R9 i AF.out.ps (AF.out.idx HI.out)).mono ?_;intro e AU hp
  rcases Ran.go AH AF (ZR.num AF.out.lt.xQ i 1) hp with ⟨AS,AT,AK,rfl,AI⟩ | ⟨er,a,rfl,HX,HY⟩
  rotate_left
  ·refine yZ (P:=Tryz.prog) (fn:=Tryz.f190) rfl ?_;rw[HX.out];exact HY.out
  clear hp
  go_wp2_with fail
  go_end0;rw[AK.out];exact xI.ok AI.out.okp
theorem zR8 (w:World)(p B:Nat)(s:Ps)(R:xS)(i:Nat)(h:PS w p B s R)(hG:Good s)(hi:i<s.nd.length)(hbig:s.phi≤1000000) :
  Calls Tryz.prog 191 #[.pointer (some ⟨p,0,none⟩),.int .i64 (i:Int)] w (xI w p B R (zL4 i s)):=by
 have AC:=yD (Ran.refl h hG);have HI:=yD hi;have AK:=yD hbig;obtain⟨AI,AJ⟩:∃x,Hid (x=zL4 i s):=⟨_,yD rfl⟩;rw[←AJ.out];have hm:=hmf;clear h hG hi hbig
 go_enter Tryz.func191,Tryz.ntmps191
 go_wp2_with fail
 refine(zLl _ p B s R i AC.out.ps AC.out.lt.xQ (AC.out.idx HI.out) (AC.out.phi AK.out)).mono ?_;intro e AQ hp
 rcases Ran.go AJ AC (zE0 i _ AC.out.lt.xQ) hp with ⟨AO,AM,AD,rfl,AB⟩ | ⟨er,a,rfl,HX,HY⟩
 rotate_left
 ·refine yZ (P:=Tryz.prog) (fn:=Tryz.f191) rfl ?_;rw[HX.out];exact HY.out
 clear hp
 go_wp2_with fail
 refine(vX _ p B AO AM [61] AB.out.ps).mono ?_;intro e AP hp
 rcases Ran.go AD AB (xN _ _ AB.out.lt.xQ) hp with ⟨AL,AN,AF,rfl,AA⟩ | ⟨er,a,rfl,HX,HY⟩
 rotate_left
 ·refine yZ (P:=Tryz.prog) (fn:=Tryz.f191) rfl ?_;rw[HX.out];exact HY.out
 clear hp;have AG:=yD (ZH AF.out)
 go_wp2_with fail
 refine(zAN _ p B AL AN i AA.out.ps AA.out.lt.xQ (AA.out.idx HI.out) (AA.out.phi AK.out)).mono ?_;intro e AT hp
 rcases Ran.go AG AA (YB i _ AA.out.lt.xQ) hp with ⟨AR,AS,AH,rfl,AE⟩ | ⟨er,a,rfl,HX,HY⟩
 rotate_left
 ·refine yZ (P:=Tryz.prog) (fn:=Tryz.f191) rfl ?_;rw[HX.out];exact HY.out
 clear hp
 go_wp2_with fail
 go_end0;rw[AH.out];exact xI.ok AE.out.okp
theorem zNv (w:World)(p B:Nat)(s:Ps)(R:xS)(i:Nat)(h:PS w p B s R)(hG:Good s)(hi:i<s.nd.length)(hbig:s.phi≤1000000) :
  Calls Tryz.prog 192 #[.pointer (some ⟨p,0,none⟩),.int .i64 (i:Int)] w (xI w p B R (zCm i s)):=by
 have AD:=yD (Ran.refl h hG);have HI:=yD hi;have AM:=yD hbig;obtain⟨AN,AL⟩:∃x,Hid (x=zCm i s):=⟨_,yD rfl⟩;rw[←AL.out];have hm:=hmf;clear h hG hi hbig
 go_enter Tryz.func192,Tryz.ntmps192
 go_wp2_with fail
 refine(zJi _ p B s R i AD.out.ps AD.out.lt.xQ (AD.out.idx HI.out) (AD.out.phi AM.out)).mono ?_;intro e AV hp
 rcases Ran.go AL AD (zEv i _ AD.out.lt.xQ) hp with ⟨AT,AO,AE,rfl,AC⟩ | ⟨er,a,rfl,HX,HY⟩
 rotate_left
 ·refine yZ (P:=Tryz.prog) (fn:=Tryz.f192) rfl ?_;rw[HX.out];exact HY.out
 clear hp
 go_wp2_with fail
 refine(vX _ p B AT AO [40] AC.out.ps).mono ?_;intro e Aa hp
 rcases Ran.go AE AC (xN _ _ AC.out.lt.xQ) hp with ⟨AP,AU,AI,rfl,AA⟩ | ⟨er,a,rfl,HX,HY⟩
 rotate_left
 ·refine yZ (P:=Tryz.prog) (fn:=Tryz.f192) rfl ?_;rw[HX.out];exact HY.out
 clear hp
 go_wp2_with fail
 refine(zG4 _ p B AP AU i ⟨200,#[.pointer (some ⟨p,0,none⟩)],#[],XC i⟩ AA.out.ps AA.out.lt.xQ (enters_of Tryz.func200 (by kernel_rfl) rfl) (YB i) (fun wr s9 R9 AH AX AQ=>zAN wr p B s9 R9 i AQ AH.xQ (yR (AA.out.idx HI.out) AH.nd) (Nat.le_trans AH.phi (AA.out.phi AM.out)))).mono ?_;intro e Ab hp
 rcases Ran.go AI AA (zBz (YB i) _ AA.out.lt.xQ) hp with ⟨AS,AR,AJ,rfl,AB⟩ | ⟨er,a,rfl,HX,HY⟩
 rotate_left
 ·refine yZ (P:=Tryz.prog) (fn:=Tryz.f192) rfl ?_;rw[HX.out];exact HY.out
 clear hp;have AF:=yD (ZH AJ.out)
 go_wp2_with fail
 refine(vX _ p B AS AR [41] AB.out.ps).mono ?_;intro e AW hp
 rcases Ran.go AF AB (xN _ _ AB.out.lt.xQ) hp with ⟨AY,AZ,AG,rfl,AK⟩ | ⟨er,a,rfl,HX,HY⟩
 rotate_left
 ·refine yZ (P:=Tryz.prog) (fn:=Tryz.f192) rfl ?_;rw[HX.out];exact HY.out
 clear hp
 go_wp2_with fail
 go_end0;rw[AG.out];exact xI.ok AK.out.okp
theorem zQR (w:World)(p B:Nat)(s:Ps)(R:xS)(i:Nat)(h:PS w p B s R)(hG:Good s)(hi:i<s.nd.length)(hbig:s.phi≤1000000) :
  Calls Tryz.prog 194 #[.pointer (some ⟨p,0,none⟩),.int .i64 (i:Int)] w (xI w p B R (zFH i s)):=by
 have AE:=yD (Ran.refl h hG);have HI:=yD hi;have AN:=yD hbig;obtain⟨AO,AM⟩:∃x,Hid (x=zFH i s):=⟨_,yD rfl⟩;rw[←AM.out];have hm:=hmf;clear h hG hi hbig
 go_enter Tryz.func194,Tryz.ntmps194
 go_wp2_with fail
 refine(VC _ p B s R i AE.out.ps (AE.out.idx HI.out)).mono ?_;intro e Ac hp
 rcases Ran.go AM AE (ZY i _ AE.out.lt.xQ) hp with ⟨AR,AQ,AJ,rfl,AD⟩ | ⟨er,a,rfl,HX,HY⟩
 rotate_left
 ·refine yZ (P:=Tryz.prog) (fn:=Tryz.f194) rfl ?_;rw[HX.out];exact HY.out
 clear hp
 go_wp2_with fail
 refine(vX _ p B AR AQ [61] AD.out.ps).mono ?_;intro e AY hp
 rcases Ran.go AJ AD (xN _ _ AD.out.lt.xQ) hp with ⟨AV,AW,AI,rfl,AA⟩ | ⟨er,a,rfl,HX,HY⟩
 rotate_left
 ·refine yZ (P:=Tryz.prog) (fn:=Tryz.f194) rfl ?_;rw[HX.out];exact HY.out
 clear hp
 go_wp2_with fail
 refine(zCo _ p B AV AW i AA.out.ps AA.out.lt.xQ (AA.out.idx HI.out) (AA.out.nd AN.out)).mono ?_;intro e Ab hp
 rcases Ran.go AI AA (YN i _ AA.out.lt.xQ) hp with ⟨AS,AP,AH,rfl,AC⟩ | ⟨er,a,rfl,HX,HY⟩
 rotate_left
 ·refine yZ (P:=Tryz.prog) (fn:=Tryz.f194) rfl ?_;rw[HX.out];exact HY.out
 clear hp
 go_wp2_with fail
 refine(vX _ p B AS AP [46] AC.out.ps).mono ?_;intro e AX hp
 rcases Ran.go AH AC (xN _ _ AC.out.lt.xQ) hp with ⟨AU,AT,AF,rfl,AB⟩ | ⟨er,a,rfl,HX,HY⟩
 rotate_left
 ·refine yZ (P:=Tryz.prog) (fn:=Tryz.f194) rfl ?_;rw[HX.out];exact HY.out
 clear hp;have AK:=yD (ZH AF.out)
 go_wp2_with fail
 refine(zCo _ p B AU AT i AB.out.ps AB.out.lt.xQ (AB.out.idx HI.out) (AB.out.nd AN.out)).mono ?_;intro e AZ hp
 rcases Ran.go AK AB (YN i _ AB.out.lt.xQ) hp with ⟨Aa,Ad,AG,rfl,AL⟩ | ⟨er,a,rfl,HX,HY⟩
 rotate_left
 ·refine yZ (P:=Tryz.prog) (fn:=Tryz.f194) rfl ?_;rw[HX.out];exact HY.out
 clear hp
 go_wp2_with fail
 go_end0;rw[AG.out];exact xI.ok AL.out.okp
theorem zQM (w:World)(p B:Nat)(s:Ps)(R:xS)(i:Nat)(h:PS w p B s R)(hG:Good s)(hi:i<s.nd.length)(hbig:s.phi≤1000000) :
  Calls Tryz.prog 195 #[.pointer (some ⟨p,0,none⟩),.int .i64 (i:Int)] w (xI w p B R (zFR i s)):=by
 have AF:=yD (Ran.refl h hG);have HI:=yD hi;have AQ:=yD hbig;obtain⟨AP,AO⟩:∃x,Hid (x=zFR i s):=⟨_,yD rfl⟩;rw[←AO.out];have hm:=hmf;clear h hG hi hbig
 go_enter Tryz.func195,Tryz.ntmps195
 go_wp2_with fail
 refine(zCo _ p B s R i AF.out.ps AF.out.lt.xQ (AF.out.idx HI.out) (AF.out.nd AQ.out)).mono ?_;intro e AV hp
 rcases Ran.go AO AF (YN i _ AF.out.lt.xQ) hp with ⟨AD,AJ,AG,rfl,AC⟩ | ⟨er,a,rfl,HX,HY⟩
 rotate_left
 ·refine yZ (P:=Tryz.prog) (fn:=Tryz.f195) rfl ?_;rw[HX.out];exact HY.out
 clear hp
 cases hi24:isP [97,108,108] AD with
 | false=>
  have AB:=yD hi24;clear hi24;have AE:=yD (zKH (t:=[97,108,108]) (s:=AD) AG AB)
  go_wp2_with fail
  refine(zAQ _ p B AD AJ [97,108,108] AB AC.out.ps).mono ?_;rintro e AS ⟨rfl,hx⟩;have AA:=yD (AC.out.ext hx);clear hx;have AI:=yD (ZH AE.out)
  go_wp2_with fail
  refine(vX _ p B AD AJ [115,104,97,114,101,100] AA.out.ps).mono ?_;intro e AW hp
  rcases Ran.go AI AA (xN _ _ AA.out.lt.xQ) hp with ⟨AX,AZ,AN,rfl,AL⟩ | ⟨er,a,rfl,HX,HY⟩
  rotate_left
  ·refine yZ (P:=Tryz.prog) (fn:=Tryz.f195) rfl ?_;rw[HX.out];exact HY.out
  clear hp
  go_wp2_with fail
  go_end0;rw[AN.out];exact xI.ok AL.out.okp
 | true=>
  have AB:=yD hi24;clear hi24;have AE:=yD (zG8 (t:=[97,108,108]) (s:=AD) AG AB)
  go_wp2_with fail
  refine(VO _ p B AD AJ [97,108,108] AB AC.out.ps).mono ?_;rintro e AS ⟨rfl,ho⟩;obtain⟨AR,hs⟩:=AC.out.then ho (zBw AC.out.lt.xQ AB);have AA:=yD hs;clear ho hs;have AH:=yD (ZH AE.out)
  go_wp2_with fail
  refine(zCO _ p B AD.adv AR i AA.out.ps (AA.out.idx HI.out)).mono ?_;intro e AT hp
  rcases Ran.go AH AA (ZR.num AA.out.lt.xQ i 1) hp with ⟨AU,AY,AK,rfl,AM⟩ | ⟨er,a,rfl,HX,HY⟩
  rotate_left
  ·refine yZ (P:=Tryz.prog) (fn:=Tryz.f195) rfl ?_;rw[HX.out];exact HY.out
  clear hp
  go_wp2_with fail
  refine bodyPost_ret (v:=.tuple #[]) (by simp[results,Tryz.results195,go_sem]) rfl ?_;rw[AK.out];exact xI.ok AM.out.okp
theorem zSV (w:World)(p B:Nat)(s:Ps)(R:xS)(i:Nat)(h:PS w p B s R)(hG:Good s)(hi:i<s.nd.length)(hbig:s.phi≤1000000) :
  Calls Tryz.prog 199 #[.pointer (some ⟨p,0,none⟩),.int .i64 (i:Int)] w (xI w p B R (zLI i s)):=by
 have AC:=yD (Ran.refl h hG);have HI:=yD hi;have AM:=yD hbig;obtain⟨AI,AJ⟩:∃x,Hid (x=zLI i s):=⟨_,yD rfl⟩;rw[←AJ.out];have hm:=hmf;clear h hG hi hbig
 go_enter Tryz.func199,Tryz.ntmps199
 go_wp2_with fail
 refine(VC _ p B s R i AC.out.ps (AC.out.idx HI.out)).mono ?_;intro e AT hp
 rcases Ran.go AJ AC (ZY i _ AC.out.lt.xQ) hp with ⟨AL,AO,AH,rfl,AB⟩ | ⟨er,a,rfl,HX,HY⟩
 rotate_left
 ·refine yZ (P:=Tryz.prog) (fn:=Tryz.f199) rfl ?_;rw[HX.out];exact HY.out
 clear hp
 go_wp2_with fail
 refine(vX _ p B AL AO [61] AB.out.ps).mono ?_;intro e AR hp
 rcases Ran.go AH AB (xN _ _ AB.out.lt.xQ) hp with ⟨AK,AN,AF,rfl,AA⟩ | ⟨er,a,rfl,HX,HY⟩
 rotate_left
 ·refine yZ (P:=Tryz.prog) (fn:=Tryz.f199) rfl ?_;rw[HX.out];exact HY.out
 clear hp;have AE:=yD (ZH AF.out)
 go_wp2_with fail
 refine(zAN _ p B AK AN i AA.out.ps AA.out.lt.xQ (AA.out.idx HI.out) (AA.out.phi AM.out)).mono ?_;intro e AS hp
 rcases Ran.go AE AA (YB i _ AA.out.lt.xQ) hp with ⟨AP,AQ,AG,rfl,AD⟩ | ⟨er,a,rfl,HX,HY⟩
 rotate_left
 ·refine yZ (P:=Tryz.prog) (fn:=Tryz.f199) rfl ?_;rw[HX.out];exact HY.out
 clear hp
 go_wp2_with fail
 go_end0;rw[AG.out];exact xI.ok AD.out.okp
theorem zKo (w:World)(p B:Nat)(s:Ps)(R:xS)(i:Nat)(h:PS w p B s R) :
  Calls Tryz.prog 201 #[.pointer (some ⟨p,0,none⟩),.int .i64 (i:Int)] w (xI w p B R (zTu s)):=by
 have HP:=yD h;clear h
 go_enter Tryz.func201,Tryz.ntmps201
 go_wp2
 go_end0;exact xI.ok ⟨R,HP.out,xH.refl _ _⟩
theorem Ran.goE {α:Type}{w w1 w2:World}{p B:Nat}{R R1:xS}{s s1:Ps}{v:Value}{r:Res Unit}{whole:Res α}{f:Unit→Ps→Res α}{e:Ending}(HL:Hid (whole=r.bind f))(h:Hid (Ran w p B R s w1 R1 s1))(hf:jM s1 r)(hp:zDW w1 p B R1 v r e w2) :
  (∃s2 R2,Hid (r=.ok () s2)∧Hid (whole=f () s2)∧e=.returned v∧Hid (Ran w p B R s w2 R2 s2))∨(∃er a,e=jW er∧Hid (whole=.err er a)∧Hid (VK w p B R er a (jW er) w2)):=by
 cases r with
 | ok a s2=>
  obtain⟨h1,R2,h2,h3⟩:=hp;exact .inl ⟨s2,R2,yD rfl,yD HL.out,h1,yD ⟨h2,h.out.mv.trans h3,h.out.lt.trans hf⟩⟩
 | err er a=>
  obtain⟨h1,h2⟩:=hp;exact .inr ⟨er,a,h1,yD HL.out,yD (VK.trans h.out.mv ⟨rfl,h2⟩)⟩
theorem zFQ {s s1:Ps}{i k:Nat}(g:Good s)(h:vS s.nd.length (s.xB i k)=.ok () s1):s.nd.length<s1.nd.length:=by
 have hf:=zAK s.nd.length (vH g i k);rw[h] at hf
 have:=hf.2.2.2.1
 rw[jR] at this;omega
theorem zLE (w:World)(p B:Nat)(s:Ps)(R:xS)(i:Nat)(h:PS w p B s R)(hG:Good s)(hi:i<s.nd.length)(hbig:s.phi≤1000000) :
  Calls Tryz.prog 196 #[.pointer (some ⟨p,0,none⟩),.int .i64 (i:Int)] w (xI w p B R (zAw i s)):=by
 have HP:=yD h;have HG:=yD hG;have HF:=yD (h.fresh 133 #[.func (.func 129) #[.pointer (some ⟨p,0,none⟩)] #[]]);have HX:Hid (Ext w (w.alloc (.cells #[.func (.func 129) #[.pointer (some ⟨p,0,none⟩)] #[]] 133))):=yD (Ext.alloc _ _);have AM:=yD ((Ran.refl h hG).ext HX.out);have HI:=yD hi;have AG:=yD hbig;obtain⟨AH,AF⟩:∃x,Hid (x=zAw i s):=⟨_,yD rfl⟩;rw[←AF.out];have hm:=hmf;obtain⟨n,HN⟩:∃n,Hid (s.nd.length=n):=⟨_,yD rfl⟩;clear h hG hi hbig
 go_enter Tryz.func196,Tryz.ntmps196
 go_wp2_with fail
 refine(zCz _ p B s R i 5 _ [⟨129,#[.pointer (some ⟨p,0,none⟩)],#[],vS s.nd.length⟩] 1 (HP.out.ext HX.out) HI.out (by have:=AG.out; unfold Ps.phi at this; omega) (by simp) HG.out HF.out.row (fun f hf=>by
  rw[List.mem_singleton.1 hf]
  exact enters_of Tryz.func129 (by kernel_rfl) rfl) (fun k hk s' wr R' h1 h2 h3=>by
  obtain rfl:k=0:=by simp at hk; omega
  injection h1 with _ h1;subst h1
  exact VC wr p B _ R' s.nd.length h3 (by rw[jR]; omega))).mono ?_
 intro e w1 hp;rw[zCF] at hp
 rcases Ran.goE AF AM (JV.at (i:=i) (k:=5) (zAK _ (vH HG.out i 5))) hp with ⟨s1,R1,AK,AB,rfl,AA⟩ | ⟨er,a,rfl,HX,HY⟩
 rotate_left
 ·refine yZ (P:=Tryz.prog) (fn:=Tryz.f196) rfl ?_;rw[HX.out];exact HY.out
 clear hp;have AQ:Hid (n<s1.nd.length):=yD (by rw[←HN.out]; exact zFQ HG.out AK.out);rw[HN.out] at AB ⊢
 cases hi1:isP [91] s1 with
 | false=>
  have AC:=yD hi1;clear hi1;have AB:=yD (zKH (t:=[91]) (s:=s1) AB AC)
  go_wp2_with fail
  refine(XT _ p B s1 R1 [91] false AC AA.out.ps).mono ?_;rintro e w1 ⟨rfl,hx⟩;have AA:=yD (AA.out.ext hx);clear hx
  go_wp2_with fail
  go_end0;rw[AB.out];exact xI.ok AA.out.okp
 | true=>
  have AC:=yD hi1;clear hi1;have AB:=yD (zG8 (t:=[91]) (s:=s1) AB AC)
  go_wp2_with fail
  refine(XT _ p B s1 R1 [91] true AC AA.out.ps).mono ?_;rintro e w1 ⟨rfl,hx⟩;have AA:=yD (AA.out.ext hx);clear hx;have AJ:Hid (n<s1.nd.length):=AQ;obtain⟨g,AE,hA,AR,AS⟩:=AA.out.ps.zIK AJ.out;have c0:∃v,w1.cell? ⟨g,n*5,none⟩=some (.int .u8 v):=⟨_,AA.out.ps.zDc n AE hA 0 (by decide)⟩;obtain⟨v,c0⟩:=c0;have z0:w1.frozen? ⟨g,n*5,none⟩=false:=AA.out.ps.zKq (n*5) hA;have x1:=AA.out.ps.x1' hA
  have q0:(n:Int)<(R1.nh.length:Int):=by omega
  have AN:Hid (OkP w1 p B R1 (s1.kind n 20) (w1.setCell ⟨g,n*5,none⟩ (.int .u8 20))):=yD (AA.out.ps.put n AE 0 (by decide) _ (fun x=>{ x with kind:=20 }) (fun _=>rfl) rfl hA);obtain⟨R9,AI⟩:=AA.out.then AN.out (ZR.kind AA.out.lt.xQ n 20);have AD:=yD AI;clear AI hA
  go_wp2_with fail
  clear c0 z0 x1;have AL:=yD (ZH AB.out);refine(zNN _ p B (s1.kind n 20) R9 n AD.out.ps AD.out.lt.xQ (yR AJ.out (by show _≤(s1.on n _).nd.length; rw[zDQ]; exact zU _)) (AD.out.phi AG.out)).mono ?_;intro e w2 hp
  rcases Ran.go AL AD (zIV n _ AD.out.lt.xQ) hp with ⟨s2,R2,AP,rfl,AO⟩ | ⟨er,a,rfl,HX,HY⟩
  rotate_left
  ·refine yZ (P:=Tryz.prog) (fn:=Tryz.f196) rfl ?_;rw[HX.out];exact HY.out
  clear hp
  go_wp2_with fail
  go_end0;rw[AP.out];exact xI.ok AO.out.okp
def zAC (F n:Nat)(m:Nat→Pm Unit):Prop:=∀(w:World) (p B:Nat) (s:Ps) (R:xS) (i:Nat),PS w p B s R→Good s→i<s.nd.length→s.phi≤1000000→s.ts.length≤n→Calls Tryz.prog F #[.pointer (some ⟨p,0,none⟩),.int .i64 (i:Int)] w (xI w p B R (m i s))
def zJA (n:Nat)(st:Nat→Pm Unit):Prop:=∀i s s',Good s→s.ts.length≤n→st i s=.ok () s'→s'.ts.length<s.ts.length
theorem zQF {st:Nat→Pm Unit}{i f:Nat}{s:Ps}(h:isP [125] s=true):ZJ st i (f+1) s=.ok () s:=by unfold ZJ; rw[if_pos h]
theorem zO0 {st:Nat→Pm Unit}{i f:Nat}{s:Ps}(h:isP [125] s=false):ZJ st i (f+1) s=(st i s).bind fun _ s=>ZJ st i f s:=by rw[ZJ,h]; rfl
theorem zNQ (n:Nat)(st:Nat→Pm Unit)(hst:zAC 165 n st)(hfine:zDt n st)(h1:zJA n st)(w:World)(p B g1 g2:Nat)(s:Ps)(R:xS)(i:Nat)(h:PS w p B s R)(hG:Good s)(hi:i<s.nd.length)(hbig:s.phi≤1000000)(hn:s.ts.length≤n)(hb1:Safe w (xG p R) g1 73 #[.pointer (some ⟨p,0,none⟩)])(hb2:Safe w (xG p R) g2 3 #[.int .i64 (i:Int)]) :
  Calls Tryz.prog 164 #[.pointer (some ⟨g1,0,none⟩),.pointer (some ⟨g2,0,none⟩)] w (xI w p B R (ZJ st i (s.ts.length+1) s)):=by
 have AT:=yD (Ran.refl h hG);have HI:=yD hi;have AS:=yD hbig;have HN:=yD hn;have AR:=yD hst;have AU:=yD hfine;have AV:=yD h1;have AD:=yD hb1;have AC:=yD hb2;obtain⟨AA,AH⟩:∃x,Hid (x=ZJ st i (s.ts.length+1) s):=⟨_,yD rfl⟩;rw[←AH.out];clear h hG hi hbig hn hst hfine h1 hb1 hb2
 go_enter Tryz.func164,Tryz.ntmps164
 go_wp2_with fail
 go_loopw [] (fun wr=>∃(s':Ps) (R':xS) (m:Nat),Hid (Ran w p B R s wr R' s')∧Hid (s'.ts.length<m)∧Hid (AA=ZJ st i m s')) (fun wr=>JP p wr)
 case atStart=>exact⟨s,R,s.ts.length+1,AT,yD (Nat.lt_succ_self _),AH⟩
 case round=>
  obtain⟨s',R',m,HS,HM,HL⟩:=hrel;obtain⟨wa,rfl⟩:∃wa:World,wa=wr:=⟨_,rfl⟩;obtain⟨m',rfl⟩:∃m',m=m'+1:=⟨m-1,by have:=HM.out; omega⟩;have AI:=(AD.out.xJ HS.out.mv).1.cell 0;have AK:=(AC.out.xJ HS.out.mv).1.cell 0;simp only[yI,yJ] at AI AK;have AX:=(AD.out.xJ HS.out.mv).1.lt;have AY:=(AC.out.xJ HS.out.mv).1.lt
  cases hi:isP [125] s' with
  | true=>
   have AE:=yD hi;have HR:Hid (AA=.ok () s'):=yD (by rw[HL.out,zQF hi]);clear hi
   go_wp2_with fail
   refine(XT wa p B s' R' [125] true AE HS.out.ps).mono ?_;rintro e w2 ⟨rfl,hx⟩;have AB:=yD (HS.out.ext hx);clear hx
   go_wp2_with fail
   go_end0;rw[HR.out];exact xI.ok AB.out.okp
  | false=>
   have AE:=yD hi;have HQ:Hid (AA=(st i s').bind fun _ s=>ZJ st i m' s):=yD (by rw[HL.out,zO0 hi]);clear hi
   go_wp2_with fail
   refine(XT wa p B s' R' [125] false AE HS.out.ps).mono ?_;rintro e w2 ⟨rfl,hx⟩;have AB:=yD (HS.out.ext hx);have AN:=((AD.out.xJ AB.out.mv).1.cell 0);have AM:=((AC.out.xJ AB.out.mv).1.cell 0);simp only[yI,yJ] at AN AM;clear hx AI AK
   go_wp2_with fail
   refine(AR.out w2 p B s' R' i AB.out.ps AB.out.lt.xQ (AB.out.idx HI.out) (AB.out.phi AS.out) (AB.out.few HN.out)).mono ?_;intro e w3 hp;have AG:∀s3,st i s'=.ok () s3→s3.ts.length<s'.ts.length:=fun s3 h3=>AV.out i s' s3 AB.out.lt.xQ (AB.out.few HN.out) h3;have AO:=AU.out i s' AB.out.lt.xQ (AB.out.few HN.out)
   cases hr:st i s' with
   | err er a=>
    rw[hr] at hp;obtain⟨rfl,ho⟩:=hp;have HF:Hid (xI w p B R AA (jW er) w3):=yD (by rw[HQ.out,hr]; exact VK.trans AB.out.mv ⟨rfl,ho⟩);exact yZ (P:=Tryz.prog) (fn:=Tryz.f164) rfl HF.out
   | ok a s3=>
    rw[hr] at hp AO;obtain⟨rfl,ho⟩:=hp;obtain⟨R3,AJ⟩:=AB.out.then ho AO;have AF:=yD AJ;have AL:=yD (AG s3 hr);have AQ:Hid (AA=ZJ st i m' s3):=yD (by rw[HQ.out,hr]; rfl);have AP:Hid (s3.ts.length<m'):=yD (by have:=AL.out; have:=HM.out; omega);have AW:Hid (JP p w3<JP p wa):=yD (by rw[AF.out.ps.JP,HS.out.ps.JP]; exact AL.out);clear hr ho AJ AG AN AM
    go_wp2_with fail
    go_roundw
    case rel=>exact⟨s3,R3,m',AF,AP,AQ⟩
    case measure=>exact AW.out
theorem zMx (n:Nat)(st:Nat→Pm Unit)(hst:zAC 165 n st)(hfine:zDt n st)(h1:zJA n st)(w:World)(p B g1:Nat)(s:Ps)(R:xS)(i:Nat)(h:PS w p B s R)(hG:Good s)(hi:i<s.nd.length)(hbig:s.nd.length+2*(s.ts.length-1)≤1000000)(hn:s.ts.length≤n+1)(hb1:Safe w (xG p R) g1 73 #[.pointer (some ⟨p,0,none⟩)]) :
  Calls Tryz.prog 162 #[.int .i64 (i:Int),.pointer (some ⟨g1,0,none⟩)] w (xI w p B R (xY [123] [125] (fun t=>ZJ st i (t.ts.length+1) t) s)):=by
 have HP:=yD h;have HG:=yD hG;have HI:=yD hi;have AJ:=yD hbig;have HN:=yD hn;have AH:=yD hst;have AG:=yD hfine;have AK:=yD h1;have AD:Hid (Ext w (w.alloc (.cells #[.int .i64 (i:Int)] 3))):=yD (Ext.alloc _ _);have AE:=yD (hb1.ext AD.out);have AI:=yD (h.fresh 3 #[.int .i64 (i:Int)]);have cb:=AE.out.1.cell 0;simp only[yI,yJ] at cb;obtain⟨AA,AC⟩:∃x,Hid (x=xY [123] [125] (fun t=>ZJ st i (t.ts.length+1) t) s):=⟨_,yD rfl⟩;rw[←AC.out];have hm:=hmf;clear h hG hi hbig hn hst hfine h1 hb1
 go_enter Tryz.func162,Tryz.ntmps162
 go_upto_region 1 with fail
 generalize w.alloc (.cells #[.int .i64 (i:Int)] 3)=W0 at *
 go_wp2_with fail
 have xQ:isP [123] s=true→s.deep≠64→Good { s.adv with deep:=s.deep+1 }:=fun hi hd=>⟨(HG.out.base.adv (vI hi).1).last,by show s.deep+1≤64; have:=HG.out.deep; omega,HG.out.few⟩
 have few:s.adv.ts.length≤n:=by have h2:=jX (s:=s); have:=HN.out; have:=HG.out.pos; omega
 refine(zCJ noX W0 p B s R [123] [125] 164 #[] #[.pointer (some ⟨g1,0,none⟩),.pointer (some ⟨w.heap.size,0,none⟩)] (fun t=>ZJ st i (t.ts.length+1) t) (fun _ _ _=>True) (HP.out.ext AD.out) (enters_of Tryz.func164 (by kernel_rfl) rfl) (fun _ _ _ _ _ h _=>h) (fun hi hd x s' hr=>?_) (fun hi hd wr R' hm hp=>?_)).mono ?_
 ·have hf:=zFs AG.out i ({ s.adv with deep:=s.deep+1 }:Ps).ts.length.succ _ (xQ hi hd) few;rw[show ZJ st i ({ s.adv with deep:=s.deep+1 }:Ps).ts.length.succ { s.adv with deep:=s.deep+1 } = .ok x s' from hr] at hf;exact hf.deep
 ·refine(zNQ n st AH.out AG.out AK.out wr p B _ _ _ R' i hp (xQ hi hd) HI.out ?_ few (AE.out.xJ hm) (AI.out.xJ hm)).mono fun e w2 h=>zAj.ofU h;have h1:=AJ.out;have h2:=jX (s:=s)
  show s.nd.length+2*s.adv.ts.length≤1000000
  omega
 ·intro e w1 AB;have AF:=xI.trans (xH.ext AD.out) AB.toU
  rcases AF.unit with ⟨s',hr,rfl,ho⟩ | ⟨er,a,hr,he⟩
  ·have HR:Hid (AA=.ok () s'):=yD (AC.out.trans hr);have HO:=yD ho;clear AB AF hr ho xQ few
   go_wp2_with fail
   go_end0;rw[HR.out];exact xI.ok HO.out
  ·have HE:=yD he;have HR:Hid (AA=.err er a):=yD (AC.out.trans hr);obtain⟨rfl,_⟩:=he;refine yZ (P:=Tryz.prog) (fn:=Tryz.f162) rfl ?_;rw[HR.out];exact HE.out
theorem zKO (n:Nat)(st:Nat→Pm Unit)(hst:zAC 165 n st)(hfine:zDt n st)(h1:zJA n st):zAC 135 (n+1) (XN st):=by
 intro w p B s R i h hG hi AC hn;have HP:=yD h;have HG:=yD hG;have HI:=yD hi;have AH:=yD AC;have HN:=yD hn;have AK:=yD hst;have AL:=yD hfine;have AM:=yD h1;have AE:Hid (Ext w (w.alloc (.cells #[.pointer (some ⟨p,0,none⟩)] 73))):=yD (Ext.alloc _ _);have AG:=yD (h.fresh 73 #[.pointer (some ⟨p,0,none⟩)]);have AJ:=yD (h.ext AE.out);have cb:=AG.out.1.cell 0;simp only[yI,yJ] at cb;obtain⟨AB,AF⟩:∃x,Hid (x=XN st i s):=⟨_,yD rfl⟩;rw[←AF.out];have hm:=hmf;obtain⟨gb,AI⟩:∃gb,Hid (w.heap.size=gb):=⟨_,yD rfl⟩;rw[AI.out] at AG cb;clear h hG hi AC hn hst hfine h1
 go_enter Tryz.func135,Tryz.ntmps135
 go_upto_region 1 with fail
 rw[AI.out];generalize w.alloc (.cells #[.pointer (some ⟨p,0,none⟩)] 73)=W0 at *;have HF:=yD (AJ.out.fresh 133 #[.func (.func 162) #[] #[.pointer (some ⟨gb,0,none⟩)]]);have AD:Hid (Ext W0 (W0.alloc (.cells #[.func (.func 162) #[] #[.pointer (some ⟨gb,0,none⟩)]] 133))):=yD (Ext.alloc _ _)
 go_wp2_with fail
 refine(zCz _ p B s R i 6 _ [⟨162,#[],#[.pointer (some ⟨gb,0,none⟩)],xY [123] [125] (fun t=>ZJ st s.nd.length (t.ts.length+1) t)⟩] 1 (AJ.out.ext AD.out) HI.out (by have:=AH.out; unfold Ps.phi at this; omega) (by simp) HG.out HF.out.row (fun f hf=>by
  rw[List.mem_singleton.1 hf]
  exact enters_of Tryz.func162 (by kernel_rfl) rfl) (fun k hk s' wr R' h1 h2 h3=>by
  obtain rfl:k=0:=by simp at hk; omega
  injection h1 with _ h1;subst h1
  exact zMx n st AK.out AL.out AM.out wr p B gb _ R' s.nd.length h3 (vH HG.out i 6) (by rw[jR]; omega) (by
   rw[jR,YY];have h1:=AH.out;have h2:=HG.out.pos;unfold Ps.phi at h1
   omega) (by rw[YY]; exact HN.out) ((AG.out.ext AD.out).xJ h2))).mono ?_
 intro e w1 AA;rw[zCF] at AA
 rcases AA.unit with ⟨s',hr,rfl,ho⟩ | ⟨er,a,hr,he⟩
 ·have HR:Hid (AB=.ok () s'):=yD (AF.out.trans hr);have HO:=yD (OkP.trans (xH.ext (AE.out.trans AD.out)) ho);clear AA hr ho
  go_wp2_with fail
  go_end0;rw[HR.out];exact xI.ok HO.out
 ·have HE:=yD (VK.trans (xH.ext (AE.out.trans AD.out)) he);have HR:Hid (AB=.err er a):=yD (AF.out.trans hr);obtain⟨rfl,_⟩:=he;refine yZ (P:=Tryz.prog) (fn:=Tryz.f135) rfl ?_;rw[HR.out];exact HE.out
end Go.Proofs.YtioffpjajhalaaaGreatDoor
