/- The program's key, row, cell, and the statements that hold no block. (and what follows of it). The conditions stand at each lemma. -/
import Derived.Test.YtbadjmmjbpeocaaGreatDoorKaa
import Derived.Test.YtbadjmmjbpeocaaGreatDoorKam
set_option linter.unusedVariables false
set_option linter.unusedSimpArgs false
set_option maxRecDepth 100000
set_option maxHeartbeats 16000000
namespace Go.Proofs.YtbadjmmjbpeocaaGreatDoor
open Go Go.RowKit
theorem bind_eq {α:Type}{whole:Res α}{r r':Res Unit}{f:Unit→Ps→Res α}(h:Hid (whole=r.bind f))(e:r=r'):whole=r'.bind f:=by rw[h.out,e]
theorem Safe.trans {w w1:World}{M M1:Nat→Prop}{g:Nat}{t:TypeId}{cs:Array Value}(h:Safe w M g t cs)(k:xD w M w1 M1):Safe w1 M1 g t cs:=h.xG k
theorem zQX (w:World)(p B g1 g2:Nat)(s:Ps)(R:xV)(i:Nat)(h:PS w p B s R)(hG:Good s)(hi:i<s.nd.length)(hbig:s.phi≤1000000)(h1:Safe w (xL p R) g1 70 #[.pointer (some ⟨p,0,none⟩)])(h2:Safe w (xL p R) g2 3 #[.int .i64 (i:Int)]) :
  Calls Tryz.prog 165 #[.pointer (some ⟨g1,0,none⟩),.pointer (some ⟨g2,0,none⟩)] w (xN w p B R (zAB i s)):=by
 have HS0:=yG (Ran.refl h hG);have HI:=yG hi;have HBG:=yG hbig;obtain⟨whole,HL0⟩:∃x,Hid (x=zAB i s):=⟨_,yG rfl⟩;rw[←HL0.out];have c1:=h1.1.cell 0;have c2:=h2.1.cell 0;simp only[yL,yM] at c1 c2;clear h hG hi hbig h1 h2
 go_enter Tryz.func165,Tryz.ntmps165
 have HB1:=yG (ZF HL0.out)
 go_wp2_with fail
 refine(zAK _ p B s R i HS0.out.ps HS0.out.lt.xS (HS0.out.idx HI.out) (HS0.out.phi HBG.out)).mono ?_;intro e w1 hp
 rcases Ran.go HB1 HS0 (ZV i _ HS0.out.lt.xS) hp with ⟨s1,R1,HL1,rfl,HS1⟩ | ⟨er,a,rfl,HX,HY⟩
 rotate_left
 ·refine xE (P:=Tryz.prog) (fn:=Tryz.f165) rfl ?_;rw[HX.out];exact HY.out
 clear hp
 go_wp2_with fail
 go_end0;rw[HL1.out];exact xN.ok HS1.out.okp
theorem zM3 (w:World)(p B:Nat)(s:Ps)(R:xV)(i:Nat)(h:PS w p B s R)(hG:Good s)(hi:i<s.nd.length)(hbig:s.phi≤1000000) :
  Calls Tryz.prog 161 #[.pointer (some ⟨p,0,none⟩),.int .i64 (i:Int)] w (xN w p B R (zGg i s)):=by
 have HP:=yG h;have HG:=yG hG;have HI:=yG hi;have HBG:=yG hbig;have hm:=hmf;obtain⟨W0,HW0⟩:∃W0,Hid ((w.alloc (.cells #[.pointer (some ⟨p,0,none⟩)] 70)).alloc (.cells #[.int .i64 (i:Int)] 3)=W0):=⟨_,yG rfl⟩;have HX0:Hid (Ext w W0):=yG (by rw[←HW0.out]; exact(Ext.alloc _ _).trans (Ext.alloc _ _));have HB0:Hid (Safe W0 (xL p R) w.heap.size 70 #[.pointer (some ⟨p,0,none⟩)]):=yG (by rw[←HW0.out]; exact(h.fresh 70 _).ext (Ext.alloc _ _))
 have HE0:Hid (Safe W0 (xL p R) (w.heap.size+1) 3 #[.int .i64 (i:Int)]):=yG (by
  have:=(h.ext (Ext.alloc w (.cells #[.pointer (some ⟨p,0,none⟩)] 70))).fresh 3 #[.int .i64 (i:Int)]
  rw[yT] at this;rw[←HW0.out]
  exact this)
 have cb:=HB0.out.1.cell 0;simp only[yL,yM] at cb;clear h hG hi hbig
 go_enter Tryz.func161,Tryz.ntmps161
 go_upto_region 1 with fail
 rw[HW0.out]
 go_wp2_with fail
 have xS:isP [91] s=true→Good { s.adv with deep:=s.deep+1 } ∨ s.deep=64:=fun hi=>by
  by_cases hd:s.deep=64
  ·exact .inr hd
  ·exact .inl ⟨(HG.out.base.adv (vN hi).1).last,by show s.deep+1≤64; have:=HG.out.deep; omega,HG.out.few⟩
 refine(zCH noX W0 p B s R [91] [93] 165 #[] #[.pointer (some ⟨w.heap.size,0,none⟩),.pointer (some ⟨w.heap.size+1,0,none⟩)] (zAB i) (fun _ _ _=>True) (HP.out.ext HX0.out) (enters_of Tryz.func165 (by kernel_rfl) rfl) (fun _ _ _ _ _ h _=>h) (fun hi hd x s' hr=>?_) (fun hi hd wr R' hm hp=>?_)).mono ?_
 ·have hg2:=(xS hi).resolve_right hd;have hf:=ZV i _ hg2;rw[hr] at hf;exact hf.deep
 ·have hg2:=(xS hi).resolve_right hd;refine(zQX wr p B _ _ _ R' i hp hg2 HI.out ?_ (HB0.out.xG hm) (HE0.out.xG hm)).mono fun e w2 h=>zAi.ofU h;have h1:=HBG.out;have h2:=jX (s:=s)
  show s.nd.length+2*s.adv.ts.length≤1000000
  unfold Ps.phi at h1;omega
 ·intro e w1 hpost;have hu:xN W0 p B R (zGg i s) e w1:=hpost.toU;have hu2:=xN.trans (xD.ext HX0.out) hu
  rcases hu2.unit with ⟨s',hr,rfl,ho⟩ | ⟨er,a,hr,he⟩
  ·have HR:Hid (zGg i s=.ok () s'):=yG hr;have HO:=yG ho;clear hpost hu hu2 hr ho xS
   go_wp2_with fail
   go_end0;rw[HR.out];exact xN.ok HO.out
  ·have HE:=yG he;have HR:Hid (zGg i s=.err er a):=yG hr;obtain⟨rfl,_⟩:=he;refine xE (P:=Tryz.prog) (fn:=Tryz.f161) rfl ?_;rw[HR.out];exact HE.out
theorem zCO (s:Ps)(i k:Nat):(s.xJ i k).phi=s.phi+1:=by
 unfold Ps.phi;rw[jT,YR];omega
theorem zI1 (w:World)(p B:Nat)(s:Ps)(R:xV)(i:Nat)(h:PS w p B s R)(hG:Good s)(hi:i<s.nd.length)(hbig:s.phi≤1000000) :
  Calls Tryz.prog 151 #[.pointer (some ⟨p,0,none⟩),.int .i64 (i:Int)] w (xN w p B R (zJL i s)):=by
 have HP:=yG h;have HG:=yG hG;have HF:=yG (h.fresh 90 #[.func (.func 90) #[.pointer (some ⟨p,0,none⟩)] #[],.func (.func 161) #[.pointer (some ⟨p,0,none⟩)] #[]]);have HX:Hid (Ext w (w.alloc (.cells #[.func (.func 90) #[.pointer (some ⟨p,0,none⟩)] #[],.func (.func 161) #[.pointer (some ⟨p,0,none⟩)] #[]] 90))):=yG (Ext.alloc _ _);have HI:=yG hi;have HBG:=yG hbig
 have HQ:Hid (zC2 [⟨90,#[.pointer (some ⟨p,0,none⟩)],#[],jS s.nd.length⟩,⟨161,#[.pointer (some ⟨p,0,none⟩)],#[],zGg s.nd.length⟩] (s.xJ i 20)=zJL i s):=yG (by
  show((jS s.nd.length (s.xJ i 20)).bind fun _ t=>(zGg s.nd.length t).bind fun _ u=>.ok () u)=(jS s.nd.length (s.xJ i 20)).bind fun _ t=>zGg s.nd.length t
  cases jS s.nd.length (s.xJ i 20) with
  | ok a t=>exact zJ2 _
  | err e q=>rfl)
 have hm:=hmf;clear h hG hi hbig
 go_enter Tryz.func151,Tryz.ntmps151
 go_wp2_with fail
 refine(zCw _ p B s R i 20 _ [⟨90,#[.pointer (some ⟨p,0,none⟩)],#[],jS s.nd.length⟩,⟨161,#[.pointer (some ⟨p,0,none⟩)],#[],zGg s.nd.length⟩] 2 (HP.out.ext HX.out) HI.out (by have:=HBG.out; unfold Ps.phi at this; omega) (by simp) HG.out HF.out.row (fun f hf=>by
  simp only[zU,List.not_mem_nil,or_false] at hf
  rcases hf with rfl | rfl
  ·exact enters_of Tryz.func90 (by kernel_rfl) rfl
  ·exact enters_of Tryz.func161 (by kernel_rfl) rfl) (fun k hk s' wr R' h1 h2 h3=>by
  have hk':k<2:=hk
  match k,hk' with
  | 0,_=>
   injection h1 with _ h1;subst h1;exact JV wr p B _ R' s.nd.length h3 (by rw[jT]; omega)
  | 1,_=>
   have h1':zC2 [⟨90,#[.pointer (some ⟨p,0,none⟩)],#[],jS s.nd.length⟩] (s.xJ i 20)=.ok () s':=h1;rw[zCE] at h1';have hf:=zAC s.nd.length (vM HG.out i 20);have h1'':jS s.nd.length (s.xJ i 20)=.ok () s':=h1';rw[h1''] at hf;obtain⟨f1,f2,f3,f4,f5⟩:=hf;rw[zCO] at f2;rw[jT] at f4
   exact zM3 wr p B s' R' s.nd.length h3 f1 (by omega) (by have:=HBG.out; omega))).mono ?_
 intro e w1 hpost;rw[HQ.out] at hpost
 rcases hpost.unit with ⟨s',hr,rfl,ho⟩ | ⟨er,a,hr,he⟩
 ·have HR:Hid (zJL i s=.ok () s'):=yG hr;have HO:=yG (OkP.trans (xD.ext HX.out) ho);clear hpost hr ho
  go_wp2_with fail
  go_end0;rw[HR.out];exact xN.ok HO.out
 ·have HE:=yG (VH.trans (xD.ext HX.out) he);have HR:Hid (zJL i s=.err er a):=yG hr;obtain⟨rfl,_⟩:=he;refine xE (P:=Tryz.prog) (fn:=Tryz.f151) rfl ?_;rw[HR.out];exact HE.out
theorem zKU (w:World)(p B:Nat)(s:Ps)(R:xV)(i:Nat)(h:PS w p B s R)(hG:Good s)(hi:i<s.nd.length)(hbig:s.phi≤1000000) :
  Calls Tryz.prog 160 #[.pointer (some ⟨p,0,none⟩),.int .i64 (i:Int)] w (xN w p B R (zJy i s)):=by
 have HS0:=yG (Ran.refl h hG);have HI:=yG hi;have HBG:=yG hbig;obtain⟨whole,HL0⟩:∃x,Hid (x=zJy i s):=⟨_,yG rfl⟩;rw[←HL0.out];have hm:=hmf;clear h hG hi hbig
 go_enter Tryz.func160,Tryz.ntmps160
 go_wp2_with fail
 refine(zI1 _ p B s R i HS0.out.ps HS0.out.lt.xS (HS0.out.idx HI.out) (HS0.out.phi HBG.out)).mono ?_;intro e w2 hp
 rcases Ran.go HL0 HS0 (zEy i _ HS0.out.lt.xS) hp with ⟨s2,R2,HL2,rfl,HS2⟩ | ⟨er,a,rfl,HX,HY⟩
 rotate_left
 ·refine xE (P:=Tryz.prog) (fn:=Tryz.f160) rfl ?_;rw[HX.out];exact HY.out
 clear hp
 go_wp2_with fail
 refine(jH _ p B s2 R2 [46] HS2.out.ps).mono ?_;intro e w3 hp
 rcases Ran.go HL2 HS2 (xQ _ _ HS2.out.lt.xS) hp with ⟨s3,R3,HL3,rfl,HS3⟩ | ⟨er,a,rfl,HX,HY⟩
 rotate_left
 ·refine xE (P:=Tryz.prog) (fn:=Tryz.f160) rfl ?_;rw[HX.out];exact HY.out
 clear hp;have HB4:=yG (ZF HL3.out)
 go_wp2_with fail
 refine(zCn _ p B s3 R3 i HS3.out.ps HS3.out.lt.xS (HS3.out.idx HI.out) (HS3.out.nd HBG.out)).mono ?_;intro e w4 hp
 rcases Ran.go HB4 HS3 (YB i _ HS3.out.lt.xS) hp with ⟨s4,R4,HL4,rfl,HS4⟩ | ⟨er,a,rfl,HX,HY⟩
 rotate_left
 ·refine xE (P:=Tryz.prog) (fn:=Tryz.f160) rfl ?_;rw[HX.out];exact HY.out
 clear hp
 go_wp2_with fail
 go_end0;rw[HL4.out];exact xN.ok HS4.out.okp
theorem zQl (w:World)(p B:Nat)(s:Ps)(R:xV)(i:Nat)(h:PS w p B s R)(hG:Good s)(hi:i<s.nd.length)(hbig:s.phi≤1000000) :
  Calls Tryz.prog 148 #[.pointer (some ⟨p,0,none⟩),.int .i64 (i:Int)] w (xN w p B R (zKM i s)):=by
 have HS0:=yG (Ran.refl h hG);have HI:=yG hi;have HBG:=yG hbig;obtain⟨whole,HL0⟩:∃x,Hid (x=zKM i s):=⟨_,yG rfl⟩;rw[←HL0.out];have hm:=hmf;clear h hG hi hbig
 go_enter Tryz.func148,Tryz.ntmps148
 go_wp2_with fail
 refine(JV _ p B s R i HS0.out.ps (HS0.out.idx HI.out)).mono ?_;intro e w5 hp
 rcases Ran.go HL0 HS0 (ZQ i _ HS0.out.lt.xS) hp with ⟨s5,R5,HL5,rfl,HS5⟩ | ⟨er,a,rfl,HX,HY⟩
 rotate_left
 ·refine xE (P:=Tryz.prog) (fn:=Tryz.f148) rfl ?_;rw[HX.out];exact HY.out
 clear hp
 go_wp2_with fail
 refine(jH _ p B s5 R5 [61] HS5.out.ps).mono ?_;intro e w6 hp
 rcases Ran.go HL5 HS5 (xQ _ _ HS5.out.lt.xS) hp with ⟨s6,R6,HL6,rfl,HS6⟩ | ⟨er,a,rfl,HX,HY⟩
 rotate_left
 ·refine xE (P:=Tryz.prog) (fn:=Tryz.f148) rfl ?_;rw[HX.out];exact HY.out
 clear hp
 go_wp2_with fail
 refine(zKU _ p B s6 R6 i HS6.out.ps HS6.out.lt.xS (HS6.out.idx HI.out) (HS6.out.phi HBG.out)).mono ?_;intro e w7 hp
 rcases Ran.go HL6 HS6 (zES i _ HS6.out.lt.xS) hp with ⟨s7,R7,HL7,rfl,HS7⟩ | ⟨er,a,rfl,HX,HY⟩
 rotate_left
 ·refine xE (P:=Tryz.prog) (fn:=Tryz.f148) rfl ?_;rw[HX.out];exact HY.out
 clear hp
 cases hi8:isP [102,111,114] s7 with
 | false=>
  have HI8:=yG hi8;clear hi8;have HL8:=yG (zKf (t:=[102,111,114]) (s:=s7) HL7 HI8)
  go_wp2_with fail
  refine(zAR _ p B s7 R7 [102,111,114] HI8 HS7.out.ps).mono ?_;rintro e w8 ⟨rfl,hx⟩;have HS8:=yG (HS7.out.ext hx);clear hx
  go_wp2_with fail
  go_end0;rw[HL8.out];exact xN.ok HS8.out.okp
 | true=>
  have HI8:=yG hi8;clear hi8;have HL8:=yG (zGM (t:=[102,111,114]) (s:=s7) HL7 HI8)
  go_wp2_with fail
  refine(VN _ p B s7 R7 [102,111,114] HI8 HS7.out.ps).mono ?_;rintro e w8 ⟨rfl,ho⟩;obtain⟨R8,hs⟩:=HS7.out.then ho (zBl HS7.out.lt.xS HI8);have HS8:=yG hs;clear ho hs
  go_wp2_with fail
  refine(jH _ p B s7.adv R8 [117,112,100,97,116,101] HS8.out.ps).mono ?_;intro e w9 hp
  rcases Ran.go HL8 HS8 (xQ _ _ HS8.out.lt.xS) hp with ⟨s9,R9,HL9,rfl,HS9⟩ | ⟨er,a,rfl,HX,HY⟩
  rotate_left
  ·refine xE (P:=Tryz.prog) (fn:=Tryz.f148) rfl ?_;rw[HX.out];exact HY.out
  clear hp;have HB10:=yG (ZF HL9.out)
  go_wp2_with fail
  refine(zCN _ p B s9 R9 i HS9.out.ps (HS9.out.idx HI.out)).mono ?_;intro e w10 hp
  rcases Ran.go HB10 HS9 (ZI.num HS9.out.lt.xS i 1) hp with ⟨s10,R10,HL10,rfl,HS10⟩ | ⟨er,a,rfl,HX,HY⟩
  rotate_left
  ·refine xE (P:=Tryz.prog) (fn:=Tryz.f148) rfl ?_;rw[HX.out];exact HY.out
  clear hp
  go_wp2_with fail
  go_end0;rw[HL10.out];exact xN.ok HS10.out.okp
theorem zRs (w:World)(p B:Nat)(s:Ps)(R:xV)(i:Nat)(h:PS w p B s R)(hG:Good s)(hi:i<s.nd.length)(hbig:s.phi≤1000000) :
  Calls Tryz.prog 149 #[.pointer (some ⟨p,0,none⟩),.int .i64 (i:Int)] w (xN w p B R (zQB i s)):=by
 have HS0:=yG (Ran.refl h hG);have HI:=yG hi;have HBG:=yG hbig;obtain⟨whole,HL0⟩:∃x,Hid (x=zQB i s):=⟨_,yG rfl⟩;rw[←HL0.out];have hm:=hmf;clear h hG hi hbig
 go_enter Tryz.func149,Tryz.ntmps149
 go_wp2_with fail
 refine(zKU _ p B s R i HS0.out.ps HS0.out.lt.xS (HS0.out.idx HI.out) (HS0.out.phi HBG.out)).mono ?_;intro e w11 hp
 rcases Ran.go HL0 HS0 (zES i _ HS0.out.lt.xS) hp with ⟨s11,R11,HL11,rfl,HS11⟩ | ⟨er,a,rfl,HX,HY⟩
 rotate_left
 ·refine xE (P:=Tryz.prog) (fn:=Tryz.f149) rfl ?_;rw[HX.out];exact HY.out
 clear hp
 go_wp2_with fail
 refine(jH _ p B s11 R11 [61] HS11.out.ps).mono ?_;intro e w12 hp
 rcases Ran.go HL11 HS11 (xQ _ _ HS11.out.lt.xS) hp with ⟨s12,R12,HL12,rfl,HS12⟩ | ⟨er,a,rfl,HX,HY⟩
 rotate_left
 ·refine xE (P:=Tryz.prog) (fn:=Tryz.f149) rfl ?_;rw[HX.out];exact HY.out
 clear hp;have HB13:=yG (ZF HL12.out)
 go_wp2_with fail
 refine(zAK _ p B s12 R12 i HS12.out.ps HS12.out.lt.xS (HS12.out.idx HI.out) (HS12.out.phi HBG.out)).mono ?_;intro e w13 hp
 rcases Ran.go HB13 HS12 (ZV i _ HS12.out.lt.xS) hp with ⟨s13,R13,HL13,rfl,HS13⟩ | ⟨er,a,rfl,HX,HY⟩
 rotate_left
 ·refine xE (P:=Tryz.prog) (fn:=Tryz.f149) rfl ?_;rw[HX.out];exact HY.out
 clear hp
 go_wp2_with fail
 go_end0;rw[HL13.out];exact xN.ok HS13.out.okp
theorem zMO (w:World)(p B:Nat)(s:Ps)(R:xV)(i:Nat)(h:PS w p B s R)(hG:Good s)(hi:i<s.nd.length)(hbig:s.phi≤1000000) :
  Calls Tryz.prog 150 #[.pointer (some ⟨p,0,none⟩),.int .i64 (i:Int)] w (xN w p B R (zET i s)):=by
 have HS0:=yG (Ran.refl h hG);have HI:=yG hi;have HBG:=yG hbig;obtain⟨whole,HL0⟩:∃x,Hid (x=zET i s):=⟨_,yG rfl⟩;rw[←HL0.out];have hm:=hmf;clear h hG hi hbig
 go_enter Tryz.func150,Tryz.ntmps150
 go_wp2_with fail
 refine(zI1 _ p B s R i HS0.out.ps HS0.out.lt.xS (HS0.out.idx HI.out) (HS0.out.phi HBG.out)).mono ?_;intro e w14 hp
 rcases Ran.go HL0 HS0 (zEy i _ HS0.out.lt.xS) hp with ⟨s14,R14,HL14,rfl,HS14⟩ | ⟨er,a,rfl,HX,HY⟩
 rotate_left
 ·refine xE (P:=Tryz.prog) (fn:=Tryz.f150) rfl ?_;rw[HX.out];exact HY.out
 clear hp
 go_wp2_with fail
 refine(jH _ p B s14 R14 [40] HS14.out.ps).mono ?_;intro e w15 hp
 rcases Ran.go HL14 HS14 (xQ _ _ HS14.out.lt.xS) hp with ⟨s15,R15,HL15,rfl,HS15⟩ | ⟨er,a,rfl,HX,HY⟩
 rotate_left
 ·refine xE (P:=Tryz.prog) (fn:=Tryz.f150) rfl ?_;rw[HX.out];exact HY.out
 clear hp
 go_wp2_with fail
 refine(zGI _ p B s15 R15 i ⟨158,#[.pointer (some ⟨p,0,none⟩)],#[],zAB i⟩ HS15.out.ps HS15.out.lt.xS (enters_of Tryz.func158 (by kernel_rfl) rfl) (ZV i) (fun wr s9 R9 hl9 hm9 hp9=>zAK wr p B s9 R9 i hp9 hl9.xS (yU (HS15.out.idx HI.out) hl9.nd) (Nat.le_trans hl9.phi (HS15.out.phi HBG.out)))).mono ?_;intro e w16 hp
 rcases Ran.go HL15 HS15 (zBu (ZV i) _ HS15.out.lt.xS) hp with ⟨s16,R16,HL16,rfl,HS16⟩ | ⟨er,a,rfl,HX,HY⟩
 rotate_left
 ·refine xE (P:=Tryz.prog) (fn:=Tryz.f150) rfl ?_;rw[HX.out];exact HY.out
 clear hp;have HB17:=yG (ZF HL16.out)
 go_wp2_with fail
 refine(jH _ p B s16 R16 [41] HS16.out.ps).mono ?_;intro e w17 hp
 rcases Ran.go HB17 HS16 (xQ _ _ HS16.out.lt.xS) hp with ⟨s17,R17,HL17,rfl,HS17⟩ | ⟨er,a,rfl,HX,HY⟩
 rotate_left
 ·refine xE (P:=Tryz.prog) (fn:=Tryz.f150) rfl ?_;rw[HX.out];exact HY.out
 clear hp
 go_wp2_with fail
 go_end0;rw[HL17.out];exact xN.ok HS17.out.okp
theorem zQa (w:World)(p B:Nat)(s:Ps)(R:xV)(i:Nat)(h:PS w p B s R)(hG:Good s)(hi:i<s.nd.length)(hbig:s.phi≤1000000) :
  Calls Tryz.prog 152 #[.pointer (some ⟨p,0,none⟩),.int .i64 (i:Int)] w (xN w p B R (zJZ i s)):=by
 have HS0:=yG (Ran.refl h hG);have HI:=yG hi;have HBG:=yG hbig;obtain⟨whole,HL0⟩:∃x,Hid (x=zJZ i s):=⟨_,yG rfl⟩;rw[←HL0.out];have hm:=hmf;clear h hG hi hbig
 go_enter Tryz.func152,Tryz.ntmps152
 go_wp2_with fail
 refine(JV _ p B s R i HS0.out.ps (HS0.out.idx HI.out)).mono ?_;intro e w18 hp
 rcases Ran.go HL0 HS0 (ZQ i _ HS0.out.lt.xS) hp with ⟨s18,R18,HL18,rfl,HS18⟩ | ⟨er,a,rfl,HX,HY⟩
 rotate_left
 ·refine xE (P:=Tryz.prog) (fn:=Tryz.f152) rfl ?_;rw[HX.out];exact HY.out
 clear hp
 go_wp2_with fail
 refine(jH _ p B s18 R18 [61] HS18.out.ps).mono ?_;intro e w19 hp
 rcases Ran.go HL18 HS18 (xQ _ _ HS18.out.lt.xS) hp with ⟨s19,R19,HL19,rfl,HS19⟩ | ⟨er,a,rfl,HX,HY⟩
 rotate_left
 ·refine xE (P:=Tryz.prog) (fn:=Tryz.f152) rfl ?_;rw[HX.out];exact HY.out
 clear hp
 go_wp2_with fail
 refine(zCn _ p B s19 R19 i HS19.out.ps HS19.out.lt.xS (HS19.out.idx HI.out) (HS19.out.nd HBG.out)).mono ?_;intro e w20 hp
 rcases Ran.go HL19 HS19 (YB i _ HS19.out.lt.xS) hp with ⟨s20,R20,HL20,rfl,HS20⟩ | ⟨er,a,rfl,HX,HY⟩
 rotate_left
 ·refine xE (P:=Tryz.prog) (fn:=Tryz.f152) rfl ?_;rw[HX.out];exact HY.out
 clear hp
 go_wp2_with fail
 refine(jH _ p B s20 R20 [46] HS20.out.ps).mono ?_;intro e w21 hp
 rcases Ran.go HL20 HS20 (xQ _ _ HS20.out.lt.xS) hp with ⟨s21,R21,HL21,rfl,HS21⟩ | ⟨er,a,rfl,HX,HY⟩
 rotate_left
 ·refine xE (P:=Tryz.prog) (fn:=Tryz.f152) rfl ?_;rw[HX.out];exact HY.out
 clear hp;have HB22:=yG (ZF HL21.out)
 go_wp2_with fail
 refine(zCn _ p B s21 R21 i HS21.out.ps HS21.out.lt.xS (HS21.out.idx HI.out) (HS21.out.nd HBG.out)).mono ?_;intro e w22 hp
 rcases Ran.go HB22 HS21 (YB i _ HS21.out.lt.xS) hp with ⟨s22,R22,HL22,rfl,HS22⟩ | ⟨er,a,rfl,HX,HY⟩
 rotate_left
 ·refine xE (P:=Tryz.prog) (fn:=Tryz.f152) rfl ?_;rw[HX.out];exact HY.out
 clear hp
 go_wp2_with fail
 go_end0;rw[HL22.out];exact xN.ok HS22.out.okp
theorem zP7 (w:World)(p B:Nat)(s:Ps)(R:xV)(i:Nat)(h:PS w p B s R)(hG:Good s)(hi:i<s.nd.length)(hbig:s.phi≤1000000) :
  Calls Tryz.prog 153 #[.pointer (some ⟨p,0,none⟩),.int .i64 (i:Int)] w (xN w p B R (zJ9 i s)):=by
 have HS0:=yG (Ran.refl h hG);have HI:=yG hi;have HBG:=yG hbig;obtain⟨whole,HL0⟩:∃x,Hid (x=zJ9 i s):=⟨_,yG rfl⟩;rw[←HL0.out];have hm:=hmf;clear h hG hi hbig
 go_enter Tryz.func153,Tryz.ntmps153
 go_wp2_with fail
 refine(zCn _ p B s R i HS0.out.ps HS0.out.lt.xS (HS0.out.idx HI.out) (HS0.out.nd HBG.out)).mono ?_;intro e w23 hp
 rcases Ran.go HL0 HS0 (YB i _ HS0.out.lt.xS) hp with ⟨s23,R23,HL23,rfl,HS23⟩ | ⟨er,a,rfl,HX,HY⟩
 rotate_left
 ·refine xE (P:=Tryz.prog) (fn:=Tryz.f153) rfl ?_;rw[HX.out];exact HY.out
 clear hp
 cases hi24:isP [97,108,108] s23 with
 | false=>
  have HI24:=yG hi24;clear hi24;have HL24:=yG (zKf (t:=[97,108,108]) (s:=s23) HL23 HI24)
  go_wp2_with fail
  refine(zAR _ p B s23 R23 [97,108,108] HI24 HS23.out.ps).mono ?_;rintro e w24 ⟨rfl,hx⟩;have HS24:=yG (HS23.out.ext hx);clear hx;have HB25:=yG (ZF HL24.out)
  go_wp2_with fail
  refine(jH _ p B s23 R23 [115,104,97,114,101,100] HS24.out.ps).mono ?_;intro e w25 hp
  rcases Ran.go HB25 HS24 (xQ _ _ HS24.out.lt.xS) hp with ⟨s25,R25,HL25,rfl,HS25⟩ | ⟨er,a,rfl,HX,HY⟩
  rotate_left
  ·refine xE (P:=Tryz.prog) (fn:=Tryz.f153) rfl ?_;rw[HX.out];exact HY.out
  clear hp
  go_wp2_with fail
  go_end0;rw[HL25.out];exact xN.ok HS25.out.okp
 | true=>
  have HI24:=yG hi24;clear hi24;have HL24:=yG (zGM (t:=[97,108,108]) (s:=s23) HL23 HI24)
  go_wp2_with fail
  refine(VN _ p B s23 R23 [97,108,108] HI24 HS23.out.ps).mono ?_;rintro e w24 ⟨rfl,ho⟩;obtain⟨R24,hs⟩:=HS23.out.then ho (zBl HS23.out.lt.xS HI24);have HS24:=yG hs;clear ho hs;have HB26:=yG (ZF HL24.out)
  go_wp2_with fail
  refine(zCN _ p B s23.adv R24 i HS24.out.ps (HS24.out.idx HI.out)).mono ?_;intro e w26 hp
  rcases Ran.go HB26 HS24 (ZI.num HS24.out.lt.xS i 1) hp with ⟨s26,R26,HL26,rfl,HS26⟩ | ⟨er,a,rfl,HX,HY⟩
  rotate_left
  ·refine xE (P:=Tryz.prog) (fn:=Tryz.f153) rfl ?_;rw[HX.out];exact HY.out
  clear hp
  go_wp2_with fail
  refine bodyPost_ret (v:=.tuple #[]) (by simp[results,Tryz.results153,go_sem]) rfl ?_;rw[HL26.out];exact xN.ok HS26.out.okp
theorem zSb (w:World)(p B:Nat)(s:Ps)(R:xV)(i:Nat)(h:PS w p B s R)(hG:Good s)(hi:i<s.nd.length)(hbig:s.phi≤1000000) :
  Calls Tryz.prog 157 #[.pointer (some ⟨p,0,none⟩),.int .i64 (i:Int)] w (xN w p B R (zPP i s)):=by
 have HS0:=yG (Ran.refl h hG);have HI:=yG hi;have HBG:=yG hbig;obtain⟨whole,HL0⟩:∃x,Hid (x=zPP i s):=⟨_,yG rfl⟩;rw[←HL0.out];have hm:=hmf;clear h hG hi hbig
 go_enter Tryz.func157,Tryz.ntmps157
 go_wp2_with fail
 refine(JV _ p B s R i HS0.out.ps (HS0.out.idx HI.out)).mono ?_;intro e w27 hp
 rcases Ran.go HL0 HS0 (ZQ i _ HS0.out.lt.xS) hp with ⟨s27,R27,HL27,rfl,HS27⟩ | ⟨er,a,rfl,HX,HY⟩
 rotate_left
 ·refine xE (P:=Tryz.prog) (fn:=Tryz.f157) rfl ?_;rw[HX.out];exact HY.out
 clear hp
 go_wp2_with fail
 refine(jH _ p B s27 R27 [61] HS27.out.ps).mono ?_;intro e w28 hp
 rcases Ran.go HL27 HS27 (xQ _ _ HS27.out.lt.xS) hp with ⟨s28,R28,HL28,rfl,HS28⟩ | ⟨er,a,rfl,HX,HY⟩
 rotate_left
 ·refine xE (P:=Tryz.prog) (fn:=Tryz.f157) rfl ?_;rw[HX.out];exact HY.out
 clear hp;have HB29:=yG (ZF HL28.out)
 go_wp2_with fail
 refine(zAK _ p B s28 R28 i HS28.out.ps HS28.out.lt.xS (HS28.out.idx HI.out) (HS28.out.phi HBG.out)).mono ?_;intro e w29 hp
 rcases Ran.go HB29 HS28 (ZV i _ HS28.out.lt.xS) hp with ⟨s29,R29,HL29,rfl,HS29⟩ | ⟨er,a,rfl,HX,HY⟩
 rotate_left
 ·refine xE (P:=Tryz.prog) (fn:=Tryz.f157) rfl ?_;rw[HX.out];exact HY.out
 clear hp
 go_wp2_with fail
 go_end0;rw[HL29.out];exact xN.ok HS29.out.okp
theorem zJV (w:World)(p B:Nat)(s:Ps)(R:xV)(i:Nat)(h:PS w p B s R) :
  Calls Tryz.prog 159 #[.pointer (some ⟨p,0,none⟩),.int .i64 (i:Int)] w (xN w p B R (zUo s)):=by
 have HP:=yG h;clear h
 go_enter Tryz.func159,Tryz.ntmps159
 go_wp2
 go_end0;exact xN.ok ⟨R,HP.out,xD.refl _ _⟩
theorem Ran.goE {α:Type}{w w1 w2:World}{p B:Nat}{R R1:xV}{s s1:Ps}{v:Value}{r:Res Unit}{whole:Res α}{f:Unit→Ps→Res α}{e:Ending}(HL:Hid (whole=r.bind f))(h:Hid (Ran w p B R s w1 R1 s1))(hf:jO s1 r)(hp:zDS w1 p B R1 v r e w2) :
  (∃s2 R2,Hid (r=.ok () s2)∧Hid (whole=f () s2)∧e=.returned v∧Hid (Ran w p B R s w2 R2 s2))∨(∃er a,e=jW er∧Hid (whole=.err er a)∧Hid (VH w p B R er a (jW er) w2)):=by
 cases r with
 | ok a s2=>
  obtain⟨h1,R2,h2,h3⟩:=hp;exact .inl ⟨s2,R2,yG rfl,yG HL.out,h1,yG ⟨h2,h.out.mv.trans h3,h.out.lt.trans hf⟩⟩
 | err er a=>
  obtain⟨h1,h2⟩:=hp;exact .inr ⟨er,a,h1,yG HL.out,yG (VH.trans h.out.mv ⟨rfl,h2⟩)⟩
theorem zFH {s s1:Ps}{i k:Nat}(g:Good s)(h:jS s.nd.length (s.xJ i k)=.ok () s1):s.nd.length<s1.nd.length:=by
 have hf:=zAC s.nd.length (vM g i k);rw[h] at hf
 have:=hf.2.2.2.1
 rw[jT] at this;omega
theorem zK8 (w:World)(p B:Nat)(s:Ps)(R:xV)(i:Nat)(h:PS w p B s R)(hG:Good s)(hi:i<s.nd.length)(hbig:s.phi≤1000000) :
  Calls Tryz.prog 154 #[.pointer (some ⟨p,0,none⟩),.int .i64 (i:Int)] w (xN w p B R (zDj i s)):=by
 have HP:=yG h;have HG:=yG hG;have HF:=yG (h.fresh 90 #[.func (.func 90) #[.pointer (some ⟨p,0,none⟩)] #[]]);have HX:Hid (Ext w (w.alloc (.cells #[.func (.func 90) #[.pointer (some ⟨p,0,none⟩)] #[]] 90))):=yG (Ext.alloc _ _);have HS0:=yG ((Ran.refl h hG).ext HX.out);have HI:=yG hi;have HBG:=yG hbig;obtain⟨whole,HL0⟩:∃x,Hid (x=zDj i s):=⟨_,yG rfl⟩;rw[←HL0.out];have hm:=hmf;obtain⟨n,HN⟩:∃n,Hid (s.nd.length=n):=⟨_,yG rfl⟩;clear h hG hi hbig
 go_enter Tryz.func154,Tryz.ntmps154
 go_wp2_with fail
 refine(zCw _ p B s R i 5 _ [⟨90,#[.pointer (some ⟨p,0,none⟩)],#[],jS s.nd.length⟩] 1 (HP.out.ext HX.out) HI.out (by have:=HBG.out; unfold Ps.phi at this; omega) (by simp) HG.out HF.out.row (fun f hf=>by
  rw[List.mem_singleton.1 hf]
  exact enters_of Tryz.func90 (by kernel_rfl) rfl) (fun k hk s' wr R' h1 h2 h3=>by
  obtain rfl:k=0:=by simp at hk; omega
  injection h1 with _ h1;subst h1
  exact JV wr p B _ R' s.nd.length h3 (by rw[jT]; omega))).mono ?_
 intro e w1 hp;rw[zCE] at hp
 rcases Ran.goE HL0 HS0 (JM.at (i:=i) (k:=5) (zAC _ (vM HG.out i 5))) hp with ⟨s1,R1,HE1,HL1,rfl,HS1⟩ | ⟨er,a,rfl,HX,HY⟩
 rotate_left
 ·refine xE (P:=Tryz.prog) (fn:=Tryz.f154) rfl ?_;rw[HX.out];exact HY.out
 clear hp;have HIX:Hid (n<s1.nd.length):=yG (by rw[←HN.out]; exact zFH HG.out HE1.out);rw[HN.out] at HL1 ⊢
 cases hi1:isP [91] s1 with
 | false=>
  have HI1:=yG hi1;clear hi1;have HL1:=yG (zKf (t:=[91]) (s:=s1) HL1 HI1)
  go_wp2_with fail
  refine(XO _ p B s1 R1 [91] false HI1 HS1.out.ps).mono ?_;rintro e w1 ⟨rfl,hx⟩;have HS1:=yG (HS1.out.ext hx);clear hx
  go_wp2_with fail
  go_end0;rw[HL1.out];exact xN.ok HS1.out.okp
 | true=>
  have HI1:=yG hi1;clear hi1;have HL1:=yG (zGM (t:=[91]) (s:=s1) HL1 HI1)
  go_wp2_with fail
  refine(XO _ p B s1 R1 [91] true HI1 HS1.out.ps).mono ?_;rintro e w1 ⟨rfl,hx⟩;have HS1:=yG (HS1.out.ext hx);clear hx;have HI2:Hid (n<s1.nd.length):=HIX;obtain⟨g,hi2,hA,hgl,hgp⟩:=HS1.out.ps.zIu HI2.out;have c0:∃v,w1.cell? ⟨g,n*5,none⟩=some (.int .u8 v):=⟨_,HS1.out.ps.zC8 n hi2 hA 0 (by decide)⟩;obtain⟨v,c0⟩:=c0;have z0:w1.frozen? ⟨g,n*5,none⟩=false:=HS1.out.ps.zJY (n*5) hA;have x1:=HS1.out.ps.x1' hA
  have q0:(n:Int)<(R1.nh.length:Int):=by omega
  have HF2:Hid (OkP w1 p B R1 (s1.kind n 20) (w1.setCell ⟨g,n*5,none⟩ (.int .u8 20))):=yG (HS1.out.ps.put n hi2 0 (by decide) _ (fun x=>{ x with kind:=20 }) (fun _=>rfl) rfl hA);obtain⟨R9,hs9⟩:=HS1.out.then HF2.out (ZI.kind HS1.out.lt.xS n 20);have HS9:=yG hs9;clear hs9 hA
  go_wp2_with fail
  clear c0 z0 x1;have HB2:=yG (ZF HL1.out);refine(zM3 _ p B (s1.kind n 20) R9 n HS9.out.ps HS9.out.lt.xS (yU HI2.out (by show _≤(s1.on n _).nd.length; rw[zDL]; exact zX _)) (HS9.out.phi HBG.out)).mono ?_;intro e w2 hp
  rcases Ran.go HB2 HS9 (zIE n _ HS9.out.lt.xS) hp with ⟨s2,R2,HL2,rfl,HS2⟩ | ⟨er,a,rfl,HX,HY⟩
  rotate_left
  ·refine xE (P:=Tryz.prog) (fn:=Tryz.f154) rfl ?_;rw[HX.out];exact HY.out
  clear hp
  go_wp2_with fail
  go_end0;rw[HL2.out];exact xN.ok HS2.out.okp
def zAs (F n:Nat)(m:Nat→Pm Unit):Prop:=∀(w:World) (p B:Nat) (s:Ps) (R:xV) (i:Nat),PS w p B s R→Good s→i<s.nd.length→s.phi≤1000000→s.ts.length≤n→Calls Tryz.prog F #[.pointer (some ⟨p,0,none⟩),.int .i64 (i:Int)] w (xN w p B R (m i s))
def zJf (n:Nat)(st:Nat→Pm Unit):Prop:=∀i s s',Good s→s.ts.length≤n→st i s=.ok () s'→s'.ts.length<s.ts.length
theorem zPW {st:Nat→Pm Unit}{i f:Nat}{s:Ps}(h:isP [125] s=true):XA st i (f+1) s=.ok () s:=by unfold XA; rw[if_pos h]
theorem zOo {st:Nat→Pm Unit}{i f:Nat}{s:Ps}(h:isP [125] s=false):XA st i (f+1) s=(st i s).bind fun _ s=>XA st i f s:=by rw[XA,h]; rfl
theorem zM6 (n:Nat)(st:Nat→Pm Unit)(hst:zAs 124 n st)(hfine:zDo n st)(h1:zJf n st)(w:World)(p B g1 g2:Nat)(s:Ps)(R:xV)(i:Nat)(h:PS w p B s R)(hG:Good s)(hi:i<s.nd.length)(hbig:s.phi≤1000000)(hn:s.ts.length≤n)(hb1:Safe w (xL p R) g1 70 #[.pointer (some ⟨p,0,none⟩)])(hb2:Safe w (xL p R) g2 3 #[.int .i64 (i:Int)]) :
  Calls Tryz.prog 123 #[.pointer (some ⟨g1,0,none⟩),.pointer (some ⟨g2,0,none⟩)] w (xN w p B R (XA st i (s.ts.length+1) s)):=by
 have HS0:=yG (Ran.refl h hG);have HI:=yG hi;have HBG:=yG hbig;have HN:=yG hn;have HST:=yG hst;have HFS:=yG hfine;have HT1:=yG h1;have HB1:=yG hb1;have HB2:=yG hb2;obtain⟨whole,HL0⟩:∃x,Hid (x=XA st i (s.ts.length+1) s):=⟨_,yG rfl⟩;rw[←HL0.out];clear h hG hi hbig hn hst hfine h1 hb1 hb2
 go_enter Tryz.func123,Tryz.ntmps123
 go_wp2_with fail
 go_loopw [] (fun wr=>∃(s':Ps) (R':xV) (m:Nat),Hid (Ran w p B R s wr R' s')∧Hid (s'.ts.length<m)∧Hid (whole=XA st i m s')) (fun wr=>JH p wr)
 case atStart=>exact⟨s,R,s.ts.length+1,HS0,yG (Nat.lt_succ_self _),HL0⟩
 case round=>
  obtain⟨s',R',m,HS,HM,HL⟩:=hrel;obtain⟨wa,rfl⟩:∃wa:World,wa=wr:=⟨_,rfl⟩;obtain⟨m',rfl⟩:∃m',m=m'+1:=⟨m-1,by have:=HM.out; omega⟩;have cb1:=(HB1.out.xG HS.out.mv).1.cell 0;have cb2:=(HB2.out.xG HS.out.mv).1.cell 0;simp only[yL,yM] at cb1 cb2;have hl1:=(HB1.out.xG HS.out.mv).1.lt;have hl2:=(HB2.out.xG HS.out.mv).1.lt
  cases hi:isP [125] s' with
  | true=>
   have HIS:=yG hi;have HR:Hid (whole=.ok () s'):=yG (by rw[HL.out,zPW hi]);clear hi
   go_wp2_with fail
   refine(XO wa p B s' R' [125] true HIS HS.out.ps).mono ?_;rintro e w2 ⟨rfl,hx⟩;have HS2:=yG (HS.out.ext hx);clear hx
   go_wp2_with fail
   go_end0;rw[HR.out];exact xN.ok HS2.out.okp
  | false=>
   have HIS:=yG hi;have HQ:Hid (whole=(st i s').bind fun _ s=>XA st i m' s):=yG (by rw[HL.out,zOo hi]);clear hi
   go_wp2_with fail
   refine(XO wa p B s' R' [125] false HIS HS.out.ps).mono ?_;rintro e w2 ⟨rfl,hx⟩;have HS2:=yG (HS.out.ext hx);have cc1:=((HB1.out.xG HS2.out.mv).1.cell 0);have cc2:=((HB2.out.xG HS2.out.mv).1.cell 0);simp only[yL,yM] at cc1 cc2;clear hx cb1 cb2
   go_wp2_with fail
   refine(HST.out w2 p B s' R' i HS2.out.ps HS2.out.lt.xS (HS2.out.idx HI.out) (HS2.out.phi HBG.out) (HS2.out.few HN.out)).mono ?_;intro e w3 hp;have hlt:∀s3,st i s'=.ok () s3→s3.ts.length<s'.ts.length:=fun s3 h3=>HT1.out i s' s3 HS2.out.lt.xS (HS2.out.few HN.out) h3;have hff:=HFS.out i s' HS2.out.lt.xS (HS2.out.few HN.out)
   cases hr:st i s' with
   | err er a=>
    rw[hr] at hp;obtain⟨rfl,ho⟩:=hp;have HF:Hid (xN w p B R whole (jW er) w3):=yG (by rw[HQ.out,hr]; exact VH.trans HS2.out.mv ⟨rfl,ho⟩);exact xE (P:=Tryz.prog) (fn:=Tryz.f123) rfl HF.out
   | ok a s3=>
    rw[hr] at hp hff;obtain⟨rfl,ho⟩:=hp;obtain⟨R3,hs3⟩:=HS2.out.then ho hff;have HS3:=yG hs3;have HLT:=yG (hlt s3 hr);have HQ3:Hid (whole=XA st i m' s3):=yG (by rw[HQ.out,hr]; rfl);have HM3:Hid (s3.ts.length<m'):=yG (by have:=HLT.out; have:=HM.out; omega);have HLL:Hid (JH p w3<JH p wa):=yG (by rw[HS3.out.ps.JH,HS.out.ps.JH]; exact HLT.out);clear hr ho hs3 hlt cc1 cc2
    go_wp2_with fail
    go_roundw
    case rel=>exact⟨s3,R3,m',HS3,HM3,HQ3⟩
    case measure=>exact HLL.out
theorem zLY (n:Nat)(st:Nat→Pm Unit)(hst:zAs 124 n st)(hfine:zDo n st)(h1:zJf n st)(w:World)(p B g1:Nat)(s:Ps)(R:xV)(i:Nat)(h:PS w p B s R)(hG:Good s)(hi:i<s.nd.length)(hbig:s.nd.length+2*(s.ts.length-1)≤1000000)(hn:s.ts.length≤n+1)(hb1:Safe w (xL p R) g1 70 #[.pointer (some ⟨p,0,none⟩)]) :
  Calls Tryz.prog 121 #[.int .i64 (i:Int),.pointer (some ⟨g1,0,none⟩)] w (xN w p B R (jF [123] [125] (fun t=>XA st i (t.ts.length+1) t) s)):=by
 have HP:=yG h;have HG:=yG hG;have HI:=yG hi;have HBG:=yG hbig;have HN:=yG hn;have HST:=yG hst;have HFS:=yG hfine;have HT1:=yG h1;have HX0:Hid (Ext w (w.alloc (.cells #[.int .i64 (i:Int)] 3))):=yG (Ext.alloc _ _);have HB1:=yG (hb1.ext HX0.out);have HB2:=yG (h.fresh 3 #[.int .i64 (i:Int)]);have cb:=HB1.out.1.cell 0;simp only[yL,yM] at cb;obtain⟨whole,HL0⟩:∃x,Hid (x=jF [123] [125] (fun t=>XA st i (t.ts.length+1) t) s):=⟨_,yG rfl⟩;rw[←HL0.out];have hm:=hmf;clear h hG hi hbig hn hst hfine h1 hb1
 go_enter Tryz.func121,Tryz.ntmps121
 go_upto_region 1 with fail
 generalize w.alloc (.cells #[.int .i64 (i:Int)] 3)=W0 at *
 go_wp2_with fail
 have xS:isP [123] s=true→s.deep≠64→Good { s.adv with deep:=s.deep+1 }:=fun hi hd=>⟨(HG.out.base.adv (vN hi).1).last,by show s.deep+1≤64; have:=HG.out.deep; omega,HG.out.few⟩
 have few:s.adv.ts.length≤n:=by have h2:=jX (s:=s); have:=HN.out; have:=HG.out.pos; omega
 refine(zCH noX W0 p B s R [123] [125] 123 #[] #[.pointer (some ⟨g1,0,none⟩),.pointer (some ⟨w.heap.size,0,none⟩)] (fun t=>XA st i (t.ts.length+1) t) (fun _ _ _=>True) (HP.out.ext HX0.out) (enters_of Tryz.func123 (by kernel_rfl) rfl) (fun _ _ _ _ _ h _=>h) (fun hi hd x s' hr=>?_) (fun hi hd wr R' hm hp=>?_)).mono ?_
 ·have hf:=zFq HFS.out i ({ s.adv with deep:=s.deep+1 }:Ps).ts.length.succ _ (xS hi hd) few;rw[show XA st i ({ s.adv with deep:=s.deep+1 }:Ps).ts.length.succ { s.adv with deep:=s.deep+1 } = .ok x s' from hr] at hf;exact hf.deep
 ·refine(zM6 n st HST.out HFS.out HT1.out wr p B _ _ _ R' i hp (xS hi hd) HI.out ?_ few (HB1.out.xG hm) (HB2.out.xG hm)).mono fun e w2 h=>zAi.ofU h;have h1:=HBG.out;have h2:=jX (s:=s)
  show s.nd.length+2*s.adv.ts.length≤1000000
  omega
 ·intro e w1 hpost;have hu2:=xN.trans (xD.ext HX0.out) hpost.toU
  rcases hu2.unit with ⟨s',hr,rfl,ho⟩ | ⟨er,a,hr,he⟩
  ·have HR:Hid (whole=.ok () s'):=yG (HL0.out.trans hr);have HO:=yG ho;clear hpost hu2 hr ho xS few
   go_wp2_with fail
   go_end0;rw[HR.out];exact xN.ok HO.out
  ·have HE:=yG he;have HR:Hid (whole=.err er a):=yG (HL0.out.trans hr);obtain⟨rfl,_⟩:=he;refine xE (P:=Tryz.prog) (fn:=Tryz.f121) rfl ?_;rw[HR.out];exact HE.out
theorem zKl (n:Nat)(st:Nat→Pm Unit)(hst:zAs 124 n st)(hfine:zDo n st)(h1:zJf n st):zAs 96 (n+1) (zAX st):=by
 intro w p B s R i h hG hi hbig hn;have HP:=yG h;have HG:=yG hG;have HI:=yG hi;have HBG:=yG hbig;have HN:=yG hn;have HST:=yG hst;have HFS:=yG hfine;have HT1:=yG h1;have HX1:Hid (Ext w (w.alloc (.cells #[.pointer (some ⟨p,0,none⟩)] 70))):=yG (Ext.alloc _ _);have HB0:=yG (h.fresh 70 #[.pointer (some ⟨p,0,none⟩)]);have HP1:=yG (h.ext HX1.out);have cb:=HB0.out.1.cell 0;simp only[yL,yM] at cb;obtain⟨whole,HL0⟩:∃x,Hid (x=zAX st i s):=⟨_,yG rfl⟩;rw[←HL0.out];have hm:=hmf;obtain⟨gb,HGB⟩:∃gb,Hid (w.heap.size=gb):=⟨_,yG rfl⟩;rw[HGB.out] at HB0 cb;clear h hG hi hbig hn hst hfine h1
 go_enter Tryz.func96,Tryz.ntmps96
 go_upto_region 1 with fail
 rw[HGB.out];generalize w.alloc (.cells #[.pointer (some ⟨p,0,none⟩)] 70)=W0 at *;have HF:=yG (HP1.out.fresh 90 #[.func (.func 121) #[] #[.pointer (some ⟨gb,0,none⟩)]]);have HX2:Hid (Ext W0 (W0.alloc (.cells #[.func (.func 121) #[] #[.pointer (some ⟨gb,0,none⟩)]] 90))):=yG (Ext.alloc _ _)
 go_wp2_with fail
 refine(zCw _ p B s R i 6 _ [⟨121,#[],#[.pointer (some ⟨gb,0,none⟩)],jF [123] [125] (fun t=>XA st s.nd.length (t.ts.length+1) t)⟩] 1 (HP1.out.ext HX2.out) HI.out (by have:=HBG.out; unfold Ps.phi at this; omega) (by simp) HG.out HF.out.row (fun f hf=>by
  rw[List.mem_singleton.1 hf]
  exact enters_of Tryz.func121 (by kernel_rfl) rfl) (fun k hk s' wr R' h1 h2 h3=>by
  obtain rfl:k=0:=by simp at hk; omega
  injection h1 with _ h1;subst h1
  exact zLY n st HST.out HFS.out HT1.out wr p B gb _ R' s.nd.length h3 (vM HG.out i 6) (by rw[jT]; omega) (by
   rw[jT,YR];have h1:=HBG.out;have h2:=HG.out.pos;unfold Ps.phi at h1
   omega) (by rw[YR]; exact HN.out) ((HB0.out.ext HX2.out).xG h2))).mono ?_
 intro e w1 hpost;rw[zCE] at hpost
 rcases hpost.unit with ⟨s',hr,rfl,ho⟩ | ⟨er,a,hr,he⟩
 ·have HR:Hid (whole=.ok () s'):=yG (HL0.out.trans hr);have HO:=yG (OkP.trans (xD.ext (HX1.out.trans HX2.out)) ho);clear hpost hr ho
  go_wp2_with fail
  go_end0;rw[HR.out];exact xN.ok HO.out
 ·have HE:=yG (VH.trans (xD.ext (HX1.out.trans HX2.out)) he);have HR:Hid (whole=.err er a):=yG (HL0.out.trans hr);obtain⟨rfl,_⟩:=he;refine xE (P:=Tryz.prog) (fn:=Tryz.f96) rfl ?_;rw[HR.out];exact HE.out
end Go.Proofs.YtbadjmmjbpeocaaGreatDoor
