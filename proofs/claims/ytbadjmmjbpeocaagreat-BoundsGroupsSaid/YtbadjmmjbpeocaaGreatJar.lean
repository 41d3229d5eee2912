/- The program's release, block, branch and loop. (and what follows of it). The conditions stand at each lemma. -/
import Derived.Test.YtbadjmmjbpeocaaGreatJaa
import Derived.Test.YtbadjmmjbpeocaaGreatJaq
import Derived.Test.YtbadjmmjbpeocaaGreatJab
set_option linter.unusedVariables false
set_option linter.unusedSimpArgs false
set_option maxRecDepth 100000
set_option maxHeartbeats 16000000
namespace Go.Proofs.YtbadjmmjbpeocaaGreat
open Go Go.RowKit
theorem Ran.goE {α:Type}{w w1 w2:World}{p B:Nat}{R R1:xX}{s s1:Ps}{v:Value}{r:Res Unit}{whole:Res α}{f:Unit→Ps→Res α}{e:Ending}(HL:Hid (whole=r.bind f))(h:Hid (Ran w p B R s w1 R1 s1))(hf:jO s1 r)(hp:zD3 w1 p B R1 v r e w2) :
  (∃s2 R2,Hid (r=.ok () s2)∧Hid (whole=f () s2)∧e=.returned v∧Hid (Ran w p B R s w2 R2 s2))∨(∃er a,e=jV er∧Hid (whole=.err er a)∧Hid (VF w p B R er a (jV er) w2)):=by
 cases r with
 | ok a s2=>
  obtain⟨h1,R2,h2,h3⟩:=hp;exact .inl ⟨s2,R2,yG rfl,yG HL.out,h1,yG ⟨h2,h.out.mv.trans h3,h.out.lt.trans hf⟩⟩
 | err er a=>
  obtain⟨h1,h2⟩:=hp;exact .inr ⟨er,a,h1,yG HL.out,yG (VF.trans h.out.mv ⟨rfl,h2⟩)⟩
theorem zFN {s s1:Ps}{i k:Nat}(g:Good s)(h:jS s.nd.length (s.xI i k)=.ok () s1):s.nd.length<s1.nd.length:=by
 have hf:=zAD s.nd.length (vN g i k);rw[h] at hf
 have:=hf.2.2.2.1
 rw[jT] at this;omega
theorem zLg (w:World)(p B:Nat)(s:Ps)(R:xX)(i:Nat)(h:PS w p B s R)(hG:Good s)(hi:i<s.nd.length)(hbig:s.phi≤1000000) :
  Calls Tryz.prog 165 #[.pointer (some ⟨p,0,none⟩),.int .i64 (i:Int)] w (xM w p B R (zDt i s)):=by
 have HP:=yG h;have HG:=yG hG;have HF:=yG (h.fresh 119 #[.func (.func 106) #[.pointer (some ⟨p,0,none⟩)] #[]]);have HX:Hid (Ext w (w.alloc (.cells #[.func (.func 106) #[.pointer (some ⟨p,0,none⟩)] #[]] 119))):=yG (Ext.alloc _ _);have AN:=yG ((Ran.refl h hG).ext HX.out);have HI:=yG hi;have AG:=yG hbig;obtain⟨AE,AJ⟩:∃x,Hid (x=zDt i s):=⟨_,yG rfl⟩;rw[←AJ.out];have hm:=hmf;obtain⟨n,HN⟩:∃n,Hid (s.nd.length=n):=⟨_,yG rfl⟩;clear h hG hi hbig
 go_enter Tryz.func165,Tryz.ntmps165
 go_wp2_with fail
 refine(zCd _ p B s R i 5 _ [⟨106,#[.pointer (some ⟨p,0,none⟩)],#[],jS s.nd.length⟩] 1 (HP.out.ext HX.out) HI.out (by have:=AG.out; unfold Ps.phi at this; omega) (by simp) HG.out HF.out.row (fun f hf=>by
  rw[List.mem_singleton.1 hf]
  exact enters_of Tryz.func106 (by kernel_rfl) rfl) (fun k hk s' wr R' h1 h2 h3=>by
  obtain rfl:k=0:=by simp at hk; omega
  injection h1 with _ h1;subst h1
  exact JY wr p B _ R' s.nd.length h3 (by rw[jT]; omega))).mono ?_
 intro e w1 hp;rw[zCp] at hp
 rcases Ran.goE AJ AN (JS.at (i:=i) (k:=5) (zAD _ (vN HG.out i 5))) hp with ⟨s1,R1,AP,AB,rfl,AA⟩ | ⟨er,a,rfl,HX,HY⟩
 rotate_left
 ·refine xD (P:=Tryz.prog) (fn:=Tryz.f165) rfl ?_;rw[HX.out];exact HY.out
 clear hp;have AK:Hid (n<s1.nd.length):=yG (by rw[←HN.out]; exact zFN HG.out AP.out);rw[HN.out] at AB ⊢
 cases hi1:isP [91] s1 with
 | false=>
  have AD:=yG hi1;clear hi1;have AB:=yG (zKn (t:=[91]) (s:=s1) AB AD)
  go_wp2_with fail
  refine(XP _ p B s1 R1 [91] false AD AA.out.ps).mono ?_;rintro e w1 ⟨rfl,hx⟩;have AA:=yG (AA.out.ext hx);clear hx
  go_wp2_with fail
  go_end0;rw[AB.out];exact xM.ok AA.out.okp
 | true=>
  have AD:=yG hi1;clear hi1;have AB:=yG (zGK (t:=[91]) (s:=s1) AB AD)
  go_wp2_with fail
  refine(XP _ p B s1 R1 [91] true AD AA.out.ps).mono ?_;rintro e w1 ⟨rfl,hx⟩;have AA:=yG (AA.out.ext hx);clear hx;have AH:Hid (n<s1.nd.length):=AK;obtain⟨g,AF,hA,AS,AR⟩:=AA.out.ps.zHu AH.out;have c0:∃v,w1.cell? ⟨g,n*5,none⟩=some (.int .u8 v):=⟨_,AA.out.ps.zDi n AF hA 0 (by decide)⟩;obtain⟨v,c0⟩:=c0;have z0:w1.frozen? ⟨g,n*5,none⟩=false:=AA.out.ps.zJ6 (n*5) hA;have x1:=AA.out.ps.x1' hA
  have q0:(n:Int)<(R1.nh.length:Int):=by omega
  have AL:Hid (OkP w1 p B R1 (s1.kind n 20) (w1.setCell ⟨g,n*5,none⟩ (.int .u8 20))):=yG (AA.out.ps.put n AF 0 (by decide) _ (fun x=>{ x with kind:=20 }) (fun _=>rfl) rfl hA);obtain⟨R9,AI⟩:=AA.out.then AL.out (ZI.kind AA.out.lt.xV n 20);have AC:=yG AI;clear AI hA
  go_wp2_with fail
  clear c0 z0 x1;have AQ:=yG (ZE AB.out);refine(zNa _ p B (s1.kind n 20) R9 n AC.out.ps AC.out.lt.xV (yU AH.out (by show _≤(s1.on n _).nd.length; rw[zDW]; exact zX _)) (AC.out.phi AG.out)).mono ?_;intro e w2 hp
  rcases Ran.go AQ AC (zHG n _ AC.out.lt.xV) hp with ⟨s2,R2,AM,rfl,AO⟩ | ⟨er,a,rfl,HX,HY⟩
  rotate_left
  ·refine xD (P:=Tryz.prog) (fn:=Tryz.f165) rfl ?_;rw[HX.out];exact HY.out
  clear hp
  go_wp2_with fail
  go_end0;rw[AM.out];exact xM.ok AO.out.okp
def zAu (F n:Nat)(m:Nat→Pm Unit):Prop:=∀(w:World) (p B:Nat) (s:Ps) (R:xX) (i:Nat),PS w p B s R→Good s→i<s.nd.length→s.phi≤1000000→s.ts.length≤n→Calls Tryz.prog F #[.pointer (some ⟨p,0,none⟩),.int .i64 (i:Int)] w (xM w p B R (m i s))
def zIi (n:Nat)(st:Nat→Pm Unit):Prop:=∀i s s',Good s→s.ts.length≤n→st i s=.ok () s'→s'.ts.length<s.ts.length
theorem zPP {st:Nat→Pm Unit}{i f:Nat}{s:Ps}(h:isP [125] s=true):XA st i (f+1) s=.ok () s:=by unfold XA; rw[if_pos h]
theorem zOt {st:Nat→Pm Unit}{i f:Nat}{s:Ps}(h:isP [125] s=false):XA st i (f+1) s=(st i s).bind fun _ s=>XA st i f s:=by rw[XA,h]; rfl
theorem zNd (n:Nat)(st:Nat→Pm Unit)(hst:zAu 143 n st)(hfine:zDA n st)(h1:zIi n st)(w:World)(p B g1 g2:Nat)(s:Ps)(R:xX)(i:Nat)(h:PS w p B s R)(hG:Good s)(hi:i<s.nd.length)(hbig:s.phi≤1000000)(hn:s.ts.length≤n)(hb1:Safe w (xK p R) g1 99 #[.pointer (some ⟨p,0,none⟩)])(hb2:Safe w (xK p R) g2 3 #[.int .i64 (i:Int)]) :
  Calls Tryz.prog 142 #[.pointer (some ⟨g1,0,none⟩),.pointer (some ⟨g2,0,none⟩)] w (xM w p B R (XA st i (s.ts.length+1) s)):=by
 have AU:=yG (Ran.refl h hG);have HI:=yG hi;have AT:=yG hbig;have HN:=yG hn;have AS:=yG hst;have AR:=yG hfine;have AV:=yG h1;have AD:=yG hb1;have AE:=yG hb2;obtain⟨AA,AO⟩:∃x,Hid (x=XA st i (s.ts.length+1) s):=⟨_,yG rfl⟩;rw[←AO.out];clear h hG hi hbig hn hst hfine h1 hb1 hb2
 go_enter Tryz.func142,Tryz.ntmps142
 go_wp2_with fail
 go_loopw [] (fun wr=>∃(s':Ps) (R':xX) (m:Nat),Hid (Ran w p B R s wr R' s')∧Hid (s'.ts.length<m)∧Hid (AA=XA st i m s')) (fun wr=>JN p wr)
 case atStart=>exact⟨s,R,s.ts.length+1,AU,yG (Nat.lt_succ_self _),AO⟩
 case round=>
  obtain⟨s',R',m,HS,HM,HL⟩:=hrel;obtain⟨wa,rfl⟩:∃wa:World,wa=wr:=⟨_,rfl⟩;obtain⟨m',rfl⟩:∃m',m=m'+1:=⟨m-1,by have:=HM.out; omega⟩;have AK:=(AD.out.xE HS.out.mv).1.cell 0;have AG:=(AE.out.xE HS.out.mv).1.cell 0;simp only[yL,yM] at AK AG;have AY:=(AD.out.xE HS.out.mv).1.lt;have AX:=(AE.out.xE HS.out.mv).1.lt
  cases hi:isP [125] s' with
  | true=>
   have AC:=yG hi;have HR:Hid (AA=.ok () s'):=yG (by rw[HL.out,zPP hi]);clear hi
   go_wp2_with fail
   refine(XP wa p B s' R' [125] true AC HS.out.ps).mono ?_;rintro e w2 ⟨rfl,hx⟩;have AB:=yG (HS.out.ext hx);clear hx
   go_wp2_with fail
   go_end0;rw[HR.out];exact xM.ok AB.out.okp
  | false=>
   have AC:=yG hi;have HQ:Hid (AA=(st i s').bind fun _ s=>XA st i m' s):=yG (by rw[HL.out,zOt hi]);clear hi
   go_wp2_with fail
   refine(XP wa p B s' R' [125] false AC HS.out.ps).mono ?_;rintro e w2 ⟨rfl,hx⟩;have AB:=yG (HS.out.ext hx);have AI:=((AD.out.xE AB.out.mv).1.cell 0);have AM:=((AE.out.xE AB.out.mv).1.cell 0);simp only[yL,yM] at AI AM;clear hx AK AG
   go_wp2_with fail
   refine(AS.out w2 p B s' R' i AB.out.ps AB.out.lt.xV (AB.out.idx HI.out) (AB.out.phi AT.out) (AB.out.few HN.out)).mono ?_;intro e w3 hp;have AF:∀s3,st i s'=.ok () s3→s3.ts.length<s'.ts.length:=fun s3 h3=>AV.out i s' s3 AB.out.lt.xV (AB.out.few HN.out) h3;have AH:=AR.out i s' AB.out.lt.xV (AB.out.few HN.out)
   cases hr:st i s' with
   | err er a=>
    rw[hr] at hp;obtain⟨rfl,ho⟩:=hp;have HF:Hid (xM w p B R AA (jV er) w3):=yG (by rw[HQ.out,hr]; exact VF.trans AB.out.mv ⟨rfl,ho⟩);exact xD (P:=Tryz.prog) (fn:=Tryz.f142) rfl HF.out
   | ok a s3=>
    rw[hr] at hp AH;obtain⟨rfl,ho⟩:=hp;obtain⟨R3,AL⟩:=AB.out.then ho AH;have AJ:=yG AL;have AN:=yG (AF s3 hr);have AP:Hid (AA=XA st i m' s3):=yG (by rw[HQ.out,hr]; rfl);have AQ:Hid (s3.ts.length<m'):=yG (by have:=AN.out; have:=HM.out; omega);have AW:Hid (JN p w3<JN p wa):=yG (by rw[AJ.out.ps.JN,HS.out.ps.JN]; exact AN.out);clear hr ho AL AF AI AM
    go_wp2_with fail
    go_roundw
    case rel=>exact⟨s3,R3,m',AJ,AQ,AP⟩
    case measure=>exact AW.out
theorem zL9 (n:Nat)(st:Nat→Pm Unit)(hst:zAu 143 n st)(hfine:zDA n st)(h1:zIi n st)(w:World)(p B g1:Nat)(s:Ps)(R:xX)(i:Nat)(h:PS w p B s R)(hG:Good s)(hi:i<s.nd.length)(hbig:s.nd.length+2*(s.ts.length-1)≤1000000)(hn:s.ts.length≤n+1)(hb1:Safe w (xK p R) g1 99 #[.pointer (some ⟨p,0,none⟩)]) :
  Calls Tryz.prog 140 #[.int .i64 (i:Int),.pointer (some ⟨g1,0,none⟩)] w (xM w p B R (jE [123] [125] (fun t=>XA st i (t.ts.length+1) t) s)):=by
 have HP:=yG h;have HG:=yG hG;have HI:=yG hi;have AI:=yG hbig;have HN:=yG hn;have AH:=yG hst;have AG:=yG hfine;have AK:=yG h1;have AC:Hid (Ext w (w.alloc (.cells #[.int .i64 (i:Int)] 3))):=yG (Ext.alloc _ _);have AF:=yG (hb1.ext AC.out);have AJ:=yG (h.fresh 3 #[.int .i64 (i:Int)]);have cb:=AF.out.1.cell 0;simp only[yL,yM] at cb;obtain⟨AB,AD⟩:∃x,Hid (x=jE [123] [125] (fun t=>XA st i (t.ts.length+1) t) s):=⟨_,yG rfl⟩;rw[←AD.out];have hm:=hmf;clear h hG hi hbig hn hst hfine h1 hb1
 go_enter Tryz.func140,Tryz.ntmps140
 go_upto_region 1 with fail
 generalize w.alloc (.cells #[.int .i64 (i:Int)] 3)=W0 at *
 go_wp2_with fail
 have xV:isP [123] s=true→s.deep≠64→Good { s.adv with deep:=s.deep+1 }:=fun hi hd=>⟨(HG.out.base.adv (vO hi).1).last,by show s.deep+1≤64; have:=HG.out.deep; omega,HG.out.few⟩
 have few:s.adv.ts.length≤n:=by have h2:=jW (s:=s); have:=HN.out; have:=HG.out.pos; omega
 refine(zCv noX W0 p B s R [123] [125] 142 #[] #[.pointer (some ⟨g1,0,none⟩),.pointer (some ⟨w.heap.size,0,none⟩)] (fun t=>XA st i (t.ts.length+1) t) (fun _ _ _=>True) (HP.out.ext AC.out) (enters_of Tryz.func142 (by kernel_rfl) rfl) (fun _ _ _ _ _ h _=>h) (fun hi hd x s' hr=>?_) (fun hi hd wr R' hm hp=>?_)).mono ?_
 ·have hf:=zFy AG.out i ({ s.adv with deep:=s.deep+1 }:Ps).ts.length.succ _ (xV hi hd) few;rw[show XA st i ({ s.adv with deep:=s.deep+1 }:Ps).ts.length.succ { s.adv with deep:=s.deep+1 } = .ok x s' from hr] at hf;exact hf.deep
 ·refine(zNd n st AH.out AG.out AK.out wr p B _ _ _ R' i hp (xV hi hd) HI.out ?_ few (AF.out.xE hm) (AJ.out.xE hm)).mono fun e w2 h=>zAh.ofU h;have h1:=AI.out;have h2:=jW (s:=s)
  show s.nd.length+2*s.adv.ts.length≤1000000
  omega
 ·intro e w1 AA;have AE:=xM.trans (xC.ext AC.out) AA.toU
  rcases AE.unit with ⟨s',hr,rfl,ho⟩ | ⟨er,a,hr,he⟩
  ·have HR:Hid (AB=.ok () s'):=yG (AD.out.trans hr);have HO:=yG ho;clear AA AE hr ho xV few
   go_wp2_with fail
   go_end0;rw[HR.out];exact xM.ok HO.out
  ·have HE:=yG he;have HR:Hid (AB=.err er a):=yG (AD.out.trans hr);obtain⟨rfl,_⟩:=he;refine xD (P:=Tryz.prog) (fn:=Tryz.f140) rfl ?_;rw[HR.out];exact HE.out
theorem zKt (n:Nat)(st:Nat→Pm Unit)(hst:zAu 143 n st)(hfine:zDA n st)(h1:zIi n st):zAu 112 (n+1) (zAV st):=by
 intro w p B s R i h hG hi AC hn;have HP:=yG h;have HG:=yG hG;have HI:=yG hi;have AI:=yG AC;have HN:=yG hn;have AL:=yG hst;have AK:=yG hfine;have AM:=yG h1;have AF:Hid (Ext w (w.alloc (.cells #[.pointer (some ⟨p,0,none⟩)] 99))):=yG (Ext.alloc _ _);have AE:=yG (h.fresh 99 #[.pointer (some ⟨p,0,none⟩)]);have AH:=yG (h.ext AF.out);have cb:=AE.out.1.cell 0;simp only[yL,yM] at cb;obtain⟨AB,AG⟩:∃x,Hid (x=zAV st i s):=⟨_,yG rfl⟩;rw[←AG.out];have hm:=hmf;obtain⟨gb,AJ⟩:∃gb,Hid (w.heap.size=gb):=⟨_,yG rfl⟩;rw[AJ.out] at AE cb;clear h hG hi AC hn hst hfine h1
 go_enter Tryz.func112,Tryz.ntmps112
 go_upto_region 1 with fail
 rw[AJ.out];generalize w.alloc (.cells #[.pointer (some ⟨p,0,none⟩)] 99)=W0 at *;have HF:=yG (AH.out.fresh 119 #[.func (.func 140) #[] #[.pointer (some ⟨gb,0,none⟩)]]);have AD:Hid (Ext W0 (W0.alloc (.cells #[.func (.func 140) #[] #[.pointer (some ⟨gb,0,none⟩)]] 119))):=yG (Ext.alloc _ _)
 go_wp2_with fail
 refine(zCd _ p B s R i 6 _ [⟨140,#[],#[.pointer (some ⟨gb,0,none⟩)],jE [123] [125] (fun t=>XA st s.nd.length (t.ts.length+1) t)⟩] 1 (AH.out.ext AD.out) HI.out (by have:=AI.out; unfold Ps.phi at this; omega) (by simp) HG.out HF.out.row (fun f hf=>by
  rw[List.mem_singleton.1 hf]
  exact enters_of Tryz.func140 (by kernel_rfl) rfl) (fun k hk s' wr R' h1 h2 h3=>by
  obtain rfl:k=0:=by simp at hk; omega
  injection h1 with _ h1;subst h1
  exact zL9 n st AL.out AK.out AM.out wr p B gb _ R' s.nd.length h3 (vN HG.out i 6) (by rw[jT]; omega) (by
   rw[jT,YS];have h1:=AI.out;have h2:=HG.out.pos;unfold Ps.phi at h1
   omega) (by rw[YS]; exact HN.out) ((AE.out.ext AD.out).xE h2))).mono ?_
 intro e w1 AA;rw[zCp] at AA
 rcases AA.unit with ⟨s',hr,rfl,ho⟩ | ⟨er,a,hr,he⟩
 ·have HR:Hid (AB=.ok () s'):=yG (AG.out.trans hr);have HO:=yG (OkP.trans (xC.ext (AF.out.trans AD.out)) ho);clear AA hr ho
  go_wp2_with fail
  go_end0;rw[HR.out];exact xM.ok HO.out
 ·have HE:=yG (VF.trans (xC.ext (AF.out.trans AD.out)) he);have HR:Hid (AB=.err er a):=yG (AG.out.trans hr);obtain⟨rfl,_⟩:=he;refine xD (P:=Tryz.prog) (fn:=Tryz.f112) rfl ?_;rw[HR.out];exact HE.out
section
variable {P:Program}
theorem zHj {w:World}{t kt et:TypeId}{r clock:Nat}{es:Array MapEntry}{n:ByteArray}{val:Value}(hm:P.underlying t=some (.map kt et))(hk:P.underlying kt=some .string)
  (hb:jK w r es clock) (hf:Instr.findNow .string (.string n) es.toList 0=some none) :
  (Instr.mapUpdate t (.map (some r)) (.string n) val).run P w=.ok () { w with heap:=w.heap.setIfInBounds r (.map (es.push { key:=.string n,val:=val,born:=clock }) (clock+1)) }:=by
 have hc:(Instr.checkKey false 10000 kt (.string n)).run P w=.ok () w:=MapKept.run_checkKey (k:=.string n) hk (by simp[MapKept.IsKey]) false 9999;simp[Instr.mapUpdate,run_underlying hm,MapKept.run_getObj_map hb,hc,MapKept.run_findKey hk hf,MapKept.run_setObj_map _ hb,Result.andThen]
theorem jI {ops:Array Oper}{rest:List Oper}{o:Oper}{a:Act}{w:World}{Q:Exit→Act→World→Prop}(hgd:o.guard=none)(t:TypeId)(m k x:Operand)(ho:o.op=.insert t m k x){kt et:TypeId}
  (hm:P.underlying t=some (.map kt et)) (hk:P.underlying kt=some .string) (r clock:Nat) (es:Array MapEntry) (n:ByteArray) (v:Value)
  (em:a.eval m=.map (some r)) (ek:a.eval k=.string n) (ex:a.eval x=v) (hb:jK w r es clock) (hf:Instr.findNow .string (.string n) es.toList 0=some none)
  (h:∀w',Touch r w w'→jK w' r (es.push { key:=.string n,val:=v,born:=clock }) (clock+1)→wpList P ops Q rest (a.put o.dst undef) w'):wpList P ops Q (o::rest) a w:=by
 refine wpList_plain hgd fun K hK=>?_;have AA:=zHj (val:=v) hm hk hb hf;unfold Oper.wp execOp;simp only[ho,em,ek,ex,Sem.run_bind,Sem.run_pure,AA,Result.andThen_ok];refine hK _ _ (h _ ⟨rfl,rfl,rfl,by simp,fun q hq=>?_⟩ ?_)
 ·simp[Array.getElem?_setIfInBounds,Ne.symm hq]
 ·have AB:=hb.lt;unfold jK;simp[AB]
theorem zGe {ops:Array Oper}{rest:List Oper}{o:Oper}{a:Act}{w:World}{Q:Exit→Act→World→Prop}(hgd:o.guard=none)(t:TypeId)(m k:Operand)(ho:o.op=.lookup t m k true){kt et:TypeId}
  (hm:P.underlying t=some (.map kt et)) (hk:P.underlying kt=some .string) (r clock:Nat) (es:Array MapEntry) (n:ByteArray) (res:Option (Nat × Value)) (z:Value)
  (em:a.eval m=.map (some r)) (ek:a.eval k=.string n) (hb:jK w r es clock) (hf:Instr.findNow .string (.string n) es.toList 0=some res) (hz:(zeroValue et).run P w=.ok z w) (v:Value) (ok:Bool) (hv:(res.map Prod.snd).getD z=v) (hok:res.isSome=ok)
  (h:wpList P ops Q rest (a.put o.dst (.tuple #[v,.bool ok])) w):wpList P ops Q (o::rest) a w:=by
 subst hv hok;refine wpList_plain hgd fun K hK=>?_;have hc:(Instr.checkKey es.isEmpty 10000 kt (.string n)).run P w=.ok () w:=MapKept.run_checkKey (k:=.string n) hk (by simp[MapKept.IsKey]) _ 9999
 have AA:(Instr.lookup t (.map (some r)) (.string n) true).run P w=.ok (.tuple #[(res.map Prod.snd).getD z,.bool res.isSome]) w:=by
  cases res with
  | none=>simp[Instr.lookup,run_underlying hm,MapKept.run_getObj_map hb,hc,MapKept.run_findKey hk hf,Result.andThen,hz]
  | some x=>obtain⟨i,v⟩:=x; simp[Instr.lookup,run_underlying hm,MapKept.run_getObj_map hb,hc,MapKept.run_findKey hk hf,Result.andThen]
 unfold Oper.wp execOp;simp only[ho,em,ek,Sem.run_bind,Sem.run_pure,AA,Result.andThen_ok];exact hK _ _ h
end
def zMF (k:Nat):Nat:=if k=7 then 159 else if k=8 then 160 else if k=9 then 161 else if k=10 then 162 else if k=11 then 163 else if k=12 then 164 else if k=13 then 165 else if k=14 then 166 else if k=15 then 167 else if k=16 then 168 else if k=17 then 169 else 170
def zQ7 (k:Nat):Value:=.agg #[.int .u8 (k:Int),.func (.func (zMF k)) #[] #[]]
def zNy:List (Bs × Nat)→Nat→List MapEntry
 | [],_=>[]
 | m::l,j=>{ key:=.string (xG m.1),val:=zQ7 m.2,born:=j } :: zNy l (j+1)
theorem zRv {a b:Bs}(h:xG a=xG b):a=b:=by
 have:=congrArg (fun x=>x.data.toList) h
 simpa [xG] using this
theorem zQG (x m:Bs):Instr.sameNow .string (.string (xG x)) (.string (xG m))=some (m==x):=by
 obtain⟨r,h1,h2⟩:=MapKept.sameNow_of_keys (d:=.string) (a:=.string (xG x)) (b:=.string (xG m)) trivial trivial;rw[h1]
 congr 1
 cases r with
 | true=>
  have:=h2.1 rfl
  injection this with this;rw[zRv this]
  simp
 | false=>
  cases hc:m==x with
  | false=>rfl
  | true=>
   rw[zO] at hc;subst hc;exact(h2.2 rfl)
theorem zF2 (x:Bs):∀(l:List (Bs × Nat)) (j i:Nat),∃i',Instr.findNow .string (.string (xG x)) (zNy l j) i=some (((l.find? fun m=>m.1==x).map Prod.snd).map fun k=>(i',zQ7 k))
 | [],_,_=>⟨0,rfl⟩
 | m::l,j,i=>by
  have hs:Instr.sameNow .string (.string (xG x)) (.string (xG m.1))=some (m.1==x):=zQG x m.1
  cases hc:m.1==x with
  | true=>
   refine⟨i,?_⟩;rw[hc] at hs;rw[List.find?_cons,hc];simp only[zNy,Instr.findNow,hs]
   rfl
  | false=>
   obtain⟨i',h⟩:=zF2 x l (j+1) (i+1);refine⟨i',?_⟩;rw[hc] at hs;rw[List.find?_cons,hc];simp only[zNy,Instr.findNow,hs];exact h
theorem zQg (w:World):(zeroValue 218).run Tryz.prog w=.ok (.agg #[.int .u8 0,.nilFunc]) w:=by kernel_rfl
def zIf (k:Option Nat):Int:=k.elim 0 (fun k=>(k:Int))
def zIj (k:Option Nat):Value:=k.elim .nilFunc (fun k=>.func (.func (zMF k)) #[] #[])
theorem zB7 (x:Bs)(w:World):Calls Tryz.prog 157 #[.string (xG x)] w fun e w'=>e=.returned (.tuple #[.agg #[.int .u8 (zIf (ZM x)),zIj (ZM x)],.bool (ZM x).isSome])∧Ext w w':=by
 go_enter Tryz.func157,Tryz.ntmps157
 have HZ:=yG (Blk.new w 218 #[.int .u8 0,.nilFunc]);have A9:Hid (Ext w (w.alloc (.cells #[.int .u8 0,.nilFunc] 218))):=yG (Ext.alloc _ _)
 go_wp2_with (refine zCk rfl 221 rfl ?_)
 intro w1 Ab AW BB;obtain⟨gm,AX⟩:∃gm,gm=w.heap.size+1:=⟨_,rfl⟩
 have AB:(w.alloc (.cells #[.int .u8 0,.nilFunc] 218)).heap.size=gm:=by rw[AX]; simp
 first | rw[←AX] at AW | rw[AB] at AW
 have Aw:=yG AW;have Az:=yG (A9.out.trans Ab);have AA:Hid (w.heap.size≤gm∧w.heap.size≠gm):=yG (by omega);have Ap:=yG (HZ.out.ext Ab);have BF:=yG AB;have BD:Hid (w.heap.size+1=gm):=yG AX.symm;clear Ab AW BB AX AB
 try simp only[Act.put,yD,yF,yE]
 try rw[BF.out]
 try rw[BD.out]
 go_wp2_with (refine jI rfl 221 (.tmp 7) (.const (.string ⟨#[114,101,97,100]⟩)) (.tmp 8) rfl Tryz.underlying221 Tryz.underlying9 gm 0 _ ⟨#[114,101,97,100]⟩ (.agg #[.int .u8 7,.func (.func 159) #[] #[]]) rfl rfl rfl Aw.out (by kernel_rfl) ?_)
 intro w2 ht hm;have An:=yG hm;have A7:=yG (ht.ext Az.out AA.out.1);have A1:=yG (ht.blk Ap.out AA.out.2);clear ht hm Aw Az Ap
 try simp only[Act.put,yD,yF,yE]
 go_wp2_with (refine jI rfl 221 (.tmp 7) (.const (.string ⟨#[115,101,116]⟩)) (.tmp 9) rfl Tryz.underlying221 Tryz.underlying9 gm 1 _ ⟨#[115,101,116]⟩ (.agg #[.int .u8 8,.func (.func 160) #[] #[]]) rfl rfl rfl An.out (by kernel_rfl) ?_)
 intro w3 ht hm;have Ae:=yG hm;have Ar:=yG (ht.ext A7.out AA.out.1);have At:=yG (ht.blk A1.out AA.out.2);clear ht hm An A7 A1
 try simp only[Act.put,yD,yF,yE]
 go_wp2_with (refine jI rfl 221 (.tmp 7) (.const (.string ⟨#[112,117,116]⟩)) (.tmp 10) rfl Tryz.underlying221 Tryz.underlying9 gm 2 _ ⟨#[112,117,116]⟩ (.agg #[.int .u8 9,.func (.func 161) #[] #[]]) rfl rfl rfl Ae.out (by kernel_rfl) ?_)
 intro w4 ht hm;have Aj:=yG hm;have Ah:=yG (ht.ext Ar.out AA.out.1);have A0:=yG (ht.blk At.out AA.out.2);clear ht hm Ae Ar At
 try simp only[Act.put,yD,yF,yE]
 go_wp2_with (refine jI rfl 221 (.tmp 7) (.const (.string ⟨#[100,101,108,101,116,101]⟩)) (.tmp 11) rfl Tryz.underlying221 Tryz.underlying9 gm 3 _ ⟨#[100,101,108,101,116,101]⟩ (.agg #[.int .u8 10,.func (.func 162) #[] #[]]) rfl rfl rfl Aj.out (by kernel_rfl) ?_)
 intro w5 ht hm;have A2:=yG hm;have Aq:=yG (ht.ext Ah.out AA.out.1);have Al:=yG (ht.blk A0.out AA.out.2);clear ht hm Aj Ah A0
 try simp only[Act.put,yD,yF,yE]
 go_wp2_with (refine jI rfl 221 (.tmp 7) (.const (.string ⟨#[115,99,97,110]⟩)) (.tmp 12) rfl Tryz.underlying221 Tryz.underlying9 gm 4 _ ⟨#[115,99,97,110]⟩ (.agg #[.int .u8 11,.func (.func 163) #[] #[]]) rfl rfl rfl A2.out (by kernel_rfl) ?_)
 intro w6 ht hm;have Ao:=yG hm;have A3:=yG (ht.ext Aq.out AA.out.1);have Av:=yG (ht.blk Al.out AA.out.2);clear ht hm A2 Aq Al
 try simp only[Act.put,yD,yF,yE]
 go_wp2_with (refine jI rfl 221 (.tmp 7) (.const (.string ⟨#[108,111,99,107]⟩)) (.tmp 13) rfl Tryz.underlying221 Tryz.underlying9 gm 5 _ ⟨#[108,111,99,107]⟩ (.agg #[.int .u8 12,.func (.func 164) #[] #[]]) rfl rfl rfl Ao.out (by kernel_rfl) ?_)
 intro w7 ht hm;have Ak:=yG hm;have A6:=yG (ht.ext A3.out AA.out.1);have A5:=yG (ht.blk Av.out AA.out.2);clear ht hm Ao A3 Av
 try simp only[Act.put,yD,yF,yE]
 go_wp2_with (refine jI rfl 221 (.tmp 7) (.const (.string ⟨#[114,101,108,101,97,115,101]⟩)) (.tmp 14) rfl Tryz.underlying221 Tryz.underlying9 gm 6 _ ⟨#[114,101,108,101,97,115,101]⟩ (.agg #[.int .u8 13,.func (.func 165) #[] #[]]) rfl rfl rfl Ak.out (by kernel_rfl) ?_)
 intro w8 ht hm;have As:=yG hm;have A4:=yG (ht.ext A6.out AA.out.1);have Au:=yG (ht.blk A5.out AA.out.2);clear ht hm Ak A6 A5
 try simp only[Act.put,yD,yF,yE]
 go_wp2_with (refine jI rfl 221 (.tmp 7) (.const (.string ⟨#[105,102]⟩)) (.tmp 15) rfl Tryz.underlying221 Tryz.underlying9 gm 7 _ ⟨#[105,102]⟩ (.agg #[.int .u8 14,.func (.func 166) #[] #[]]) rfl rfl rfl As.out (by kernel_rfl) ?_)
 intro w9 ht hm;have A8:=yG hm;have Am:=yG (ht.ext A4.out AA.out.1);have Ai:=yG (ht.blk Au.out AA.out.2);clear ht hm As A4 Au
 try simp only[Act.put,yD,yF,yE]
 go_wp2_with (refine jI rfl 221 (.tmp 7) (.const (.string ⟨#[102,111,114]⟩)) (.tmp 16) rfl Tryz.underlying221 Tryz.underlying9 gm 8 _ ⟨#[102,111,114]⟩ (.agg #[.int .u8 15,.func (.func 167) #[] #[]]) rfl rfl rfl A8.out (by kernel_rfl) ?_)
 intro BH ht hm;have Ag:=yG hm;have AL:=yG (ht.ext Am.out AA.out.1);have AF:=yG (ht.blk Ai.out AA.out.2);clear ht hm A8 Am Ai
 try simp only[Act.put,yD,yF,yE]
 go_wp2_with (refine jI rfl 221 (.tmp 7) (.const (.string ⟨#[108,101,116]⟩)) (.tmp 17) rfl Tryz.underlying221 Tryz.underlying9 gm 9 _ ⟨#[108,101,116]⟩ (.agg #[.int .u8 16,.func (.func 168) #[] #[]]) rfl rfl rfl Ag.out (by kernel_rfl) ?_)
 intro BK ht hm;have AH:=yG hm;have AR:=yG (ht.ext AL.out AA.out.1);have AK:=yG (ht.blk AF.out AA.out.2);clear ht hm Ag AL AF
 try simp only[Act.put,yD,yF,yE]
 go_wp2_with (refine jI rfl 221 (.tmp 7) (.const (.string ⟨#[101,109,105,116]⟩)) (.tmp 18) rfl Tryz.underlying221 Tryz.underlying9 gm 10 _ ⟨#[101,109,105,116]⟩ (.agg #[.int .u8 17,.func (.func 169) #[] #[]]) rfl rfl rfl AH.out (by kernel_rfl) ?_)
 intro BJ ht hm;have AQ:=yG hm;have AG:=yG (ht.ext AR.out AA.out.1);have AT:=yG (ht.blk AK.out AA.out.2);clear ht hm AH AR AK
 try simp only[Act.put,yD,yF,yE]
 go_wp2_with (refine jI rfl 221 (.tmp 7) (.const (.string ⟨#[114,111,108,108,98,97,99,107]⟩)) (.tmp 19) rfl Tryz.underlying221 Tryz.underlying9 gm 11 _ ⟨#[114,111,108,108,98,97,99,107]⟩ (.agg #[.int .u8 18,.func (.func 170) #[] #[]]) rfl rfl rfl AQ.out (by kernel_rfl) ?_)
 intro BG ht hm;have AJ:=yG hm;have AM:=yG (ht.ext AG.out AA.out.1);have AP:=yG (ht.blk AT.out AA.out.2);clear ht hm AQ AG AT
 try simp only[Act.put,yD,yF,yE]
 go_wp2_with (refine jI rfl 221 (.tmp 7) (.const (.string ⟨#[99,104,111,112]⟩)) (.tmp 20) rfl Tryz.underlying221 Tryz.underlying9 gm 12 _ ⟨#[99,104,111,112]⟩ (.agg #[.int .u8 19,.func (.func 170) #[] #[]]) rfl rfl rfl AJ.out (by kernel_rfl) ?_)
 intro AV ht hm;have AY:=yG hm;have AU:=yG (ht.ext AM.out AA.out.1);have AI:=yG (ht.blk AP.out AA.out.2);clear ht hm AJ AM AP
 try simp only[Act.put,yD,yF,yE]
 obtain⟨i',Ax⟩:=zF2 x zIe 0 0;have BA:Hid (Instr.findNow .string (.string (xG x)) _ 0=some ((ZM x).map fun k=>(i',zQ7 k))):=yG Ax;clear Ax
 have HV:Hid ((((ZM x).map fun k=>(i',zQ7 k)).map Prod.snd).getD (.agg #[.int .u8 0,.nilFunc])=.agg #[.int .u8 (zIf (ZM x)),zIj (ZM x)]):=yG (by cases ZM x <;> rfl)
 have BC:Hid (((ZM x).map fun k=>(i',zQ7 k)).isSome=(ZM x).isSome):=yG (by cases ZM x <;> rfl)
 generalize hok:(ZM x).isSome=ok at *;generalize hfk:zIf (ZM x)=fk at *;generalize hff:zIj (ZM x)=ff at *
 have AN:Hid (ff.oneCell'=true):=yG (by rw[←hff]; cases ZM x <;> rfl)
 have Ac:=yG (And.intro hok (And.intro hfk hff));clear hok hfk hff;have BE:=AN.out
 have AO:([.int .u8 fk,ff]:List Value).all (·.oneCell')=true:=by simp[AN.out]; rfl
 go_wp2_with (first
  | (refine zGe rfl 221 (.tmp 23) (.tmp 24) rfl Tryz.underlying221 Tryz.underlying9 gm 13 _ (xG x) ((ZM x).map fun k=>(i',zQ7 k)) (.agg #[.int .u8 0,.nilFunc]) rfl rfl AY.out BA.out (zQg _) (.agg #[.int .u8 fk,ff]) ok HV.out BC.out ?_)
  | (refine xQ rfl 218 (.tmp 5) (.tmp 26) rfl AV.heap.size #[.int .u8 fk,ff] (by rfl) (by rfl) 218 #[.int .u8 0,.nilFunc] (Blk.new _ _ _) (by kernel_rfl) rfl AO ?_; intro Ay AD AC; have Ad:=yG (AD.ext (AU.out.trans (Ext.alloc AV (.cells #[.int .u8 0,.nilFunc] 218))) AU.out.size); have Aa:=yG (AD.blk (AI.out.ext (Ext.alloc AV (.cells #[.int .u8 0,.nilFunc] 218))) (Nat.ne_of_lt AI.out.lt)); have f0:Ay.cell? ⟨AV.heap.size,0,none⟩=some (.int .u8 fk):=AC.cell 0; have f1:Ay.cell? ⟨AV.heap.size,1,none⟩=some ff:=AC.cell 1; clear AD AC)
  | (refine xQ rfl 218 (.tmp 2) (.tmp 28) rfl w.heap.size #[.int .u8 fk,ff] (by rfl) (by rfl) 218 #[.int .u8 0,.nilFunc] Aa.out (by kernel_rfl) rfl AO ?_; intro Af AS AE; have AZ:=yG (AS.ext Ad.out (zX _)); have g0:Af.cell? ⟨w.heap.size,0,none⟩=some (.int .u8 fk):=AE.cell 0; have g1:Af.cell? ⟨w.heap.size,1,none⟩=some ff:=AE.cell 1; clear AS AE))
 refine bodyPost_ret (v:=.tuple #[.agg #[.int .u8 fk,ff],.bool ok]) (by simp[results,Tryz.results157,go_sem,g0,g1]) rfl ?_;rw[Ac.out.1,Ac.out.2.1,Ac.out.2.2];exact⟨rfl,AZ.out⟩
theorem zRM {i:Nat}{s:Ps}(h:Hid (isP [61,61] s=true)):zFf i s=.ok () (s.adv.num i 1):=by unfold zFf; rw[if_pos h.out]
theorem zTc {i:Nat}{s:Ps}(h:Hid (isP [61,61] s=false)):zFf i s=vX [60] s:=by unfold zFf; rw[h.out]; rfl
theorem zOs (n:Nat)(st:Nat→Pm Unit)(hblk:zAu 112 (n+1) (zAV st))(hfine:zDA n st):zAu 166 (n+1) (zDu st):=by
 intro w p B s R i h hG hi AP hn;have AM:=yG (Ran.refl h hG);have HI:=yG hi;have AH:=yG AP;have HN:=yG hn;have AT:=yG hblk;have AU:=yG hfine;obtain⟨Ab,Aa⟩:∃x,Hid (x=zDu st i s):=⟨_,yG rfl⟩;rw[←Aa.out];have hm:=hmf;clear h hG hi AP hn hblk hfine
 go_enter Tryz.func166,Tryz.ntmps166
 go_wp2_with fail
 refine(zAJ _ p B s R i AM.out.ps AM.out.lt.xV (AM.out.idx HI.out) (AM.out.phi AH.out)).mono ?_;intro e w1 hp
 rcases Ran.go Aa AM (ZX i _ AM.out.lt.xV) hp with ⟨s1,R1,Ae,rfl,AQ⟩ | ⟨er,a,rfl,HX,HY⟩
 rotate_left
 ·refine xD (P:=Tryz.prog) (fn:=Tryz.f166) rfl ?_;rw[HX.out];exact HY.out
 clear hp
 cases hi2:isP [61,61] s1 with
 | false=>
  have AO:=yG hi2;clear hi2;have AZ:=yG (bind_eq Ae (zTc AO))
  go_wp2_with fail
  refine(zAP _ p B s1 R1 [61,61] AO AQ.out.ps).mono ?_;rintro e w2 ⟨rfl,hx⟩;have AF:=yG (AQ.out.ext hx);clear hx
  go_wp2_with fail
  refine(jG _ p B s1 R1 [60] AF.out.ps).mono ?_;intro e w3 hp
  rcases Ran.go AZ AF (xS _ _ AF.out.lt.xV) hp with ⟨s3,R3,Ag,rfl,AJ⟩ | ⟨er,a,rfl,HX,HY⟩
  rotate_left
  ·refine xD (P:=Tryz.prog) (fn:=Tryz.f166) rfl ?_;rw[HX.out];exact HY.out
  clear hp
  go_wp2_with fail
  refine(zAJ _ p B s3 R3 i AJ.out.ps AJ.out.lt.xV (AJ.out.idx HI.out) (AJ.out.phi AH.out)).mono ?_;intro e w4 hp
  rcases Ran.go Ag AJ (ZX i _ AJ.out.lt.xV) hp with ⟨s4,R4,Al,rfl,AG⟩ | ⟨er,a,rfl,HX,HY⟩
  rotate_left
  ·refine xD (P:=Tryz.prog) (fn:=Tryz.f166) rfl ?_;rw[HX.out];exact HY.out
  clear hp
  go_wp2_with fail
  refine(AT.out _ p B s4 R4 i AG.out.ps AG.out.lt.xV (AG.out.idx HI.out) (AG.out.phi AH.out) (AG.out.few HN.out)).mono ?_;intro e w5 hp
  rcases Ran.go Al AG (JX AU.out i _ AG.out.lt.xV (AG.out.few HN.out)) hp with ⟨s5,R5,Ad,rfl,AS⟩ | ⟨er,a,rfl,HX,HY⟩
  rotate_left
  ·refine xD (P:=Tryz.prog) (fn:=Tryz.f166) rfl ?_;rw[HX.out];exact HY.out
  clear hp
  cases hi6:isP [101,108,115,101] s5 with
  | false=>
   have AN:=yG hi6;clear hi6;have AX:=yG (zKn (t:=[101,108,115,101]) (s:=s5) Ad AN)
   go_wp2_with fail
   refine(zAP _ p B s5 R5 [101,108,115,101] AN AS.out.ps).mono ?_;rintro e w6 ⟨rfl,hx⟩;have AD:=yG (AS.out.ext hx);clear hx
   go_wp2_with fail
   go_end0;rw[AX.out];exact xM.ok AD.out.okp
  | true=>
   have AN:=yG hi6;clear hi6;have AX:=yG (zGK (t:=[101,108,115,101]) (s:=s5) Ad AN)
   go_wp2_with fail
   refine(VJ _ p B s5 R5 [101,108,115,101] AN AS.out.ps).mono ?_;rintro e w6 ⟨rfl,ho⟩;obtain⟨R6,hs⟩:=AS.out.then ho (zBh AS.out.lt.xV AN);have AD:=yG hs;clear ho hs;have Af:=yG (ZE AX.out)
   go_wp2_with fail
   refine(AT.out _ p B s5.adv R6 i AD.out.ps AD.out.lt.xV (AD.out.idx HI.out) (AD.out.phi AH.out) (AD.out.few HN.out)).mono ?_;intro e w7 hp
   rcases Ran.go Af AD (JX AU.out i _ AD.out.lt.xV (AD.out.few HN.out)) hp with ⟨s7,R7,An,rfl,Aj⟩ | ⟨er,a,rfl,HX,HY⟩
   rotate_left
   ·refine xD (P:=Tryz.prog) (fn:=Tryz.f166) rfl ?_;rw[HX.out];exact HY.out
   clear hp
   go_wp2_with fail
   go_end0;rw[An.out];exact xM.ok Aj.out.okp
 | true=>
  have AO:=yG hi2;clear hi2;have AZ:=yG (bind_eq Ae (zRM AO))
  go_wp2_with fail
  refine(VJ _ p B s1 R1 [61,61] AO AQ.out.ps).mono ?_;rintro e w2 ⟨rfl,ho⟩;obtain⟨R2,hs⟩:=AQ.out.then ho (zBh AQ.out.lt.xV AO);have AF:=yG hs;clear ho hs
  go_wp2_with fail
  refine(zCB _ p B s1.adv R2 i AF.out.ps (AF.out.idx HI.out)).mono ?_;intro e w8 hp
  rcases Ran.go AZ AF (ZI.num AF.out.lt.xV i 1) hp with ⟨s8,R8,Am,rfl,AL⟩ | ⟨er,a,rfl,HX,HY⟩
  rotate_left
  ·refine xD (P:=Tryz.prog) (fn:=Tryz.f166) rfl ?_;rw[HX.out];exact HY.out
  clear hp
  go_wp2_with fail
  refine(zAJ _ p B s8 R8 i AL.out.ps AL.out.lt.xV (AL.out.idx HI.out) (AL.out.phi AH.out)).mono ?_;intro e w9 hp
  rcases Ran.go Am AL (ZX i _ AL.out.lt.xV) hp with ⟨s9,R9,Ah,rfl,AE⟩ | ⟨er,a,rfl,HX,HY⟩
  rotate_left
  ·refine xD (P:=Tryz.prog) (fn:=Tryz.f166) rfl ?_;rw[HX.out];exact HY.out
  clear hp
  go_wp2_with fail
  refine(AT.out _ p B s9 R9 i AE.out.ps AE.out.lt.xV (AE.out.idx HI.out) (AE.out.phi AH.out) (AE.out.few HN.out)).mono ?_;intro e Ap hp
  rcases Ran.go Ah AE (JX AU.out i _ AE.out.lt.xV (AE.out.few HN.out)) hp with ⟨AK,Ac,AR,rfl,AC⟩ | ⟨er,a,rfl,HX,HY⟩
  rotate_left
  ·refine xD (P:=Tryz.prog) (fn:=Tryz.f166) rfl ?_;rw[HX.out];exact HY.out
  clear hp
  cases hi11:isP [101,108,115,101] AK with
  | false=>
   have AB:=yG hi11;clear hi11;have AI:=yG (zKn (t:=[101,108,115,101]) (s:=AK) AR AB)
   go_wp2_with fail
   refine(zAP _ p B AK Ac [101,108,115,101] AB AC.out.ps).mono ?_;rintro e Ak ⟨rfl,hx⟩;have AA:=yG (AC.out.ext hx);clear hx
   go_wp2_with fail
   go_end0;rw[AI.out];exact xM.ok AA.out.okp
  | true=>
   have AB:=yG hi11;clear hi11;have AI:=yG (zGK (t:=[101,108,115,101]) (s:=AK) AR AB)
   go_wp2_with fail
   refine(VJ _ p B AK Ac [101,108,115,101] AB AC.out.ps).mono ?_;rintro e Ak ⟨rfl,ho⟩;obtain⟨Ai,hs⟩:=AC.out.then ho (zBh AC.out.lt.xV AB);have AA:=yG hs;clear ho hs;have AW:=yG (ZE AI.out)
   go_wp2_with fail
   refine(AT.out _ p B AK.adv Ai i AA.out.ps AA.out.lt.xV (AA.out.idx HI.out) (AA.out.phi AH.out) (AA.out.few HN.out)).mono ?_;intro e Aq hp
   rcases Ran.go AW AA (JX AU.out i _ AA.out.lt.xV (AA.out.few HN.out)) hp with ⟨Ar,Ao,AV,rfl,AY⟩ | ⟨er,a,rfl,HX,HY⟩
   rotate_left
   ·refine xD (P:=Tryz.prog) (fn:=Tryz.f166) rfl ?_;rw[HX.out];exact HY.out
   clear hp
   go_wp2_with fail
   go_end0;rw[AV.out];exact xM.ok AY.out.okp
theorem zRu (n:Nat)(st:Nat→Pm Unit)(hblk:zAu 112 (n+1) (zAV st))(hfine:zDA n st):zAu 167 (n+1) (zGs st):=by
 intro w p B s R i h hG hi AF hn;have AG:=yG (Ran.refl h hG);have HI:=yG hi;have AO:=yG AF;have HN:=yG hn;have AU:=yG hblk;have AX:=yG hfine;obtain⟨AQ,AR⟩:∃x,Hid (x=zGs st i s):=⟨_,yG rfl⟩;rw[←AR.out];have hm:=hmf;clear h hG hi AF hn hblk hfine
 go_enter Tryz.func167,Tryz.ntmps167
 go_wp2_with fail
 refine(JY _ p B s R i AG.out.ps (AG.out.idx HI.out)).mono ?_;intro e Ag hp
 rcases Ran.go AR AG (ZT i _ AG.out.lt.xV) hp with ⟨AY,Aa,AP,rfl,AE⟩ | ⟨er,a,rfl,HX,HY⟩
 rotate_left
 ·refine xD (P:=Tryz.prog) (fn:=Tryz.f167) rfl ?_;rw[HX.out];exact HY.out
 clear hp
 go_wp2_with fail
 refine(jG _ p B AY Aa [61] AE.out.ps).mono ?_;intro e Al hp
 rcases Ran.go AP AE (xS _ _ AE.out.lt.xV) hp with ⟨AS,AV,AK,rfl,AC⟩ | ⟨er,a,rfl,HX,HY⟩
 rotate_left
 ·refine xD (P:=Tryz.prog) (fn:=Tryz.f167) rfl ?_;rw[HX.out];exact HY.out
 clear hp
 go_wp2_with fail
 refine(zGS _ p B AS AV i AC.out.ps AC.out.lt.xV (AC.out.idx HI.out) (AC.out.nd AO.out)).mono ?_;intro e Ah hp
 rcases Ran.go AK AC (zCE i _ AC.out.lt.xV) hp with ⟨Ab,AW,AI,rfl,AD⟩ | ⟨er,a,rfl,HX,HY⟩
 rotate_left
 ·refine xD (P:=Tryz.prog) (fn:=Tryz.f167) rfl ?_;rw[HX.out];exact HY.out
 clear hp
 go_wp2_with fail
 refine(jG _ p B Ab AW [116,111] AD.out.ps).mono ?_;intro e Ae hp
 rcases Ran.go AI AD (xS _ _ AD.out.lt.xV) hp with ⟨Ac,AZ,AM,rfl,AB⟩ | ⟨er,a,rfl,HX,HY⟩
 rotate_left
 ·refine xD (P:=Tryz.prog) (fn:=Tryz.f167) rfl ?_;rw[HX.out];exact HY.out
 clear hp
 go_wp2_with fail
 refine(zGS _ p B Ac AZ i AB.out.ps AB.out.lt.xV (AB.out.idx HI.out) (AB.out.nd AO.out)).mono ?_;intro e Aj hp
 rcases Ran.go AM AB (zCE i _ AB.out.lt.xV) hp with ⟨AT,Ad,AN,rfl,AA⟩ | ⟨er,a,rfl,HX,HY⟩
 rotate_left
 ·refine xD (P:=Tryz.prog) (fn:=Tryz.f167) rfl ?_;rw[HX.out];exact HY.out
 clear hp;have AH:=yG (ZE AN.out)
 go_wp2_with fail
 refine(AU.out _ p B AT Ad i AA.out.ps AA.out.lt.xV (AA.out.idx HI.out) (AA.out.phi AO.out) (AA.out.few HN.out)).mono ?_;intro e Ak hp
 rcases Ran.go AH AA (JX AX.out i _ AA.out.lt.xV (AA.out.few HN.out)) hp with ⟨Ai,Af,AJ,rfl,AL⟩ | ⟨er,a,rfl,HX,HY⟩
 rotate_left
 ·refine xD (P:=Tryz.prog) (fn:=Tryz.f167) rfl ?_;rw[HX.out];exact HY.out
 clear hp
 go_wp2_with fail
 go_end0;rw[AJ.out];exact xM.ok AL.out.okp
theorem zAe {t:Bs}{k:Nat}(h:ZM t=some k):7≤k∧k≤19:=by
 unfold ZM at h
 cases hf:zIe.find? fun m=>m.1==t with
 | none=>rw[hf] at h; cases h
 | some m=>
  rw[hf] at h;injection h with h;subst h;have hm:=List.mem_of_find?_eq_some hf
  have ha:∀m ∈ zIe,7≤m.2∧m.2≤19:=by decide
  exact ha m hm
theorem zGV {k:Nat}(h:7≤k∧k≤19):k=7∨k=8∨k=9∨k=10∨k=11∨k=12∨k=13∨k=14∨k=15∨k=16∨k=17∨k=18∨k=19:=by omega
theorem zHb {k:Nat}(h:7≤k∧k≤19):∀args w,(callFunc (zMF k) args).run Tryz.prog w=.ok (.enter (zMF k) args) w:=by
 rcases zGV h with rfl | rfl | rfl | rfl | rfl | rfl | rfl | rfl | rfl | rfl | rfl | rfl | rfl
 ·exact enters_of Tryz.func159 (by kernel_rfl) rfl
 ·exact enters_of Tryz.func160 (by kernel_rfl) rfl
 ·exact enters_of Tryz.func161 (by kernel_rfl) rfl
 ·exact enters_of Tryz.func162 (by kernel_rfl) rfl
 ·exact enters_of Tryz.func163 (by kernel_rfl) rfl
 ·exact enters_of Tryz.func164 (by kernel_rfl) rfl
 ·exact enters_of Tryz.func165 (by kernel_rfl) rfl
 ·exact enters_of Tryz.func166 (by kernel_rfl) rfl
 ·exact enters_of Tryz.func167 (by kernel_rfl) rfl
 ·exact enters_of Tryz.func168 (by kernel_rfl) rfl
 ·exact enters_of Tryz.func169 (by kernel_rfl) rfl
 ·exact enters_of Tryz.func170 (by kernel_rfl) rfl
 ·exact enters_of Tryz.func170 (by kernel_rfl) rfl
theorem zIy (n:Nat)(st:Nat→Pm Unit)(hst:zAu 143 n st)(hfine:zDA n st)(h1:zIi n st)(k:Nat)(hk:7≤k∧k≤19):zAu (zMF k) (n+1) (VK st k):=by
 have AB:=zKt n st hst hfine h1;intro w p B s R i h hG hi AA hn
 rcases zGV hk with rfl | rfl | rfl | rfl | rfl | rfl | rfl | rfl | rfl | rfl | rfl | rfl | rfl
 ·exact zQc w p B s R i h hG hi AA
 ·exact zRp w p B s R i h hG hi AA
 ·exact zMV w p B s R i h hG hi AA
 ·exact zH4 w p B s R i h hG hi AA
 ·exact zP2 w p B s R i h hG hi AA
 ·exact zPZ w p B s R i h hG hi AA
 ·exact zLg w p B s R i h hG hi AA
 ·exact zOs n st AB hfine w p B s R i h hG hi AA hn
 ·exact zRu n st AB hfine w p B s R i h hG hi AA hn
 ·exact zR4 w p B s R i h hG hi AA
 ·exact zAJ w p B s R i h hG hi AA
 ·exact zJ3 w p B s R i h
 ·exact zJ3 w p B s R i h
theorem zO1 {f i:Nat}{s:Ps}:YP (f+1) i s=match (if s.hd.kind=1 then ZM s.hd.text else none) with
  | none=>.err 50 s.hd.at_
  | some k=>(VK (YP f) k s.nd.length (s.xI i k).adv).bind fun _ s=>if k=14∨k=15 then .ok () s else vX [59] s:=rfl
theorem zHC {f i:Nat}{s:Ps}(h:ZM s.hd.text=none∨s.hd.kind≠1):YP (f+1) i s=.err 50 s.hd.at_:=by
 rw[zO1]
 rcases h with h | h
 ·rw[h]; split <;> simp_all
 ·rw[if_neg h]
theorem zHZ {f i k:Nat}{s:Ps}(h:ZM s.hd.text=some k)(h1:s.hd.kind=1):YP (f+1) i s=(VK (YP f) k s.nd.length (s.xI i k).adv).bind fun _ s=>if k=14∨k=15 then .ok () s else vX [59] s:=by
 rw[zO1,if_pos h1,h]
theorem zFx:∀f,zIi f (YP f)
 | 0=>fun i s s' g hl h=>by cases h
 | f+1=>fun i s s' g hl h=>by
  by_cases h1:s.hd.kind=1
  ·cases hf:ZM s.hd.text with
   | none=>rw[zHC (.inl hf)] at h; cases h
   | some k=>
    rw[zHZ hf h1] at h;have hp:=g.pos
    have h4:(s.xI i k).hd.kind≠4:=by show s.hd.kind≠4; omega
    have ga:=(vN g i k).adv h4;have AB:=jW (s:=s.xI i k);rw[YS] at AB;have hr:=zDG (zAE f) k s.nd.length (s.xI i k).adv ga (by omega)
    cases hq:VK (YP f) k s.nd.length (s.xI i k).adv with
    | err e p=>rw[hq] at h; cases h
    | ok a t=>
     rw[hq] at h hr;have ht:=hr.ts;have h':(if k=14∨k=15 then Res.ok () t else vX [59] t)=.ok () s':=h
     split at h'
     ·injection h' with _ e; subst e; omega
     ·have AA:=xS [59] t hr.xV;rw[h'] at AA
      have:=AA.ts
      omega
  ·rw[zHC (.inr h1)] at h; cases h
theorem zTU (f:Nat)(ih:zAu 143 f (YP f))(w:World)(p B:Nat)(s:Ps)(R:xX)(i:Nat)(h:PS w p B s R)(hG:Good s)(hi:i<s.nd.length)(hbig:s.phi≤1000000)(hn:s.ts.length≤f+1)(hfo:ZM s.hd.text=none) :
  Calls Tryz.prog 143 #[.pointer (some ⟨p,0,none⟩),.int .i64 (i:Int)] w (xM w p B R (YP (f+1) i s)):=by
 have HP:=yG h;have HG:=yG hG;have HI:=yG hi;have AO:=yG hbig;have HN:=yG hn;have AN:=yG ih;obtain⟨AA,AG⟩:∃x,Hid (x=YP (f+1) i s):=⟨_,yG rfl⟩;rw[←AG.out];have hm:=hmf;have AL:=zDh;have AM:=zAf;have HE:Hid (AA=.err 50 s.hd.at_):=yG (AG.out.trans (zHC (.inl hfo)));have AI:=yG hfo;clear hfo;clear h hG hi hbig hn ih
 go_enter Tryz.func143,Tryz.ntmps143
 go_wp2_with fail
 refine(ZC _ p s R HP.out.ts).mono ?_;rintro e w1 ⟨rfl,AB⟩;have AJ:=yG AB;have AH:=yG (HP.out.ext AB);clear AB;unfold ZY
 go_wp2_with fail
 refine(zB7 s.hd.text w1).mono ?_;rintro e w2 ⟨rfl,AC⟩;have AE:=yG (AJ.out.trans AC);have AP:=yG (AH.out.ext AC);clear AC;rw[AI.out];simp only[zIf,zIj,Option.elim,Option.isSome]
 go_wp2_with (refine xQ rfl 218 (.tmp 4) (.tmp 12) rfl w2.heap.size #[.int .u8 0,.nilFunc] (by rfl) (by rfl) 218 #[.int .u8 0,.nilFunc] (Blk.new _ _ _) (by kernel_rfl) rfl rfl ?_; intro w3 AD AF; have AK:=yG (AD.ext (AE.out.trans (Ext.alloc w2 (.cells #[.int .u8 0,.nilFunc] 218))) AE.out.size); have AQ:=yG AF; clear AD AF)
 refine(zBj _ p 50).mono ?_;rintro e w4 ⟨rfl,rfl⟩;have HF:Hid (xM w p B R AA (jV 50) w3):=yG (by rw[HE.out]; exact⟨rfl,s,rfl,HP.out.okp AK.out⟩);exact xD (P:=Tryz.prog) (fn:=Tryz.f143) rfl HF.out
theorem zTu (f:Nat)(ih:zAu 143 f (YP f))(w:World)(p B:Nat)(s:Ps)(R:xX)(i:Nat)(h:PS w p B s R)(hG:Good s)(hi:i<s.nd.length)(hbig:s.phi≤1000000)(hn:s.ts.length≤f+1)(k:Nat)(hfo:ZM s.hd.text=some k)(hk:s.hd.kind≠1) :
  Calls Tryz.prog 143 #[.pointer (some ⟨p,0,none⟩),.int .i64 (i:Int)] w (xM w p B R (YP (f+1) i s)):=by
 have HP:=yG h;have HG:=yG hG;have HI:=yG hi;have AQ:=yG hbig;have HN:=yG hn;have AR:=yG ih;obtain⟨AA,AI⟩:∃x,Hid (x=YP (f+1) i s):=⟨_,yG rfl⟩;rw[←AI.out];have hm:=hmf;have AN:=zDh;have AO:=zAf;have HE:Hid (AA=.err 50 s.hd.at_):=yG (AI.out.trans (zHC (.inr hk)));have AL:=yG hfo
 have b1:((s.hd.kind:Int) != 1)=true:=by rw[zE]; omega
 have b2:¬(s.hd.kind:Int)=1:=by omega
 clear hfo hk;clear h hG hi hbig hn ih
 go_enter Tryz.func143,Tryz.ntmps143
 go_wp2_with fail
 refine(ZC _ p s R HP.out.ts).mono ?_;rintro e w1 ⟨rfl,AC⟩;have AM:=yG AC;have AJ:=yG (HP.out.ext AC);clear AC;unfold ZY
 go_wp2_with fail
 refine(zB7 s.hd.text w1).mono ?_;rintro e w2 ⟨rfl,AB⟩;have AH:=yG (AM.out.trans AB);have AS:=yG (AJ.out.ext AB);clear AB;rw[AL.out];simp only[zIf,zIj,Option.elim,Option.isSome];generalize zMF k=K at *
 go_wp2_with (first
  | (refine xQ rfl 218 (.tmp 4) (.tmp 12) rfl w2.heap.size #[.int .u8 (k:Int),.func (.func K) #[] #[]] (by rfl) (by rfl) 218 #[.int .u8 0,.nilFunc] (Blk.new _ _ _) (by kernel_rfl) rfl rfl ?_; intro w3 AE AF; have AG:=yG (AE.ext (AH.out.trans (Ext.alloc w2 (.cells #[.int .u8 0,.nilFunc] 218))) AH.out.size); have AP:=yG AF; clear AE AF)
  | (refine(ZC _ p s R (HP.out.ext AG.out).ts).mono ?_; rintro e w4 ⟨rfl,AD⟩; have AK:=yG (AG.out.trans AD); clear AD; unfold ZY))
 refine(zBj _ p 50).mono ?_;rintro e w5 ⟨rfl,rfl⟩;have HF:Hid (xM w p B R AA (jV 50) w4):=yG (by rw[HE.out]; exact⟨rfl,s,rfl,HP.out.okp AK.out⟩);exact xD (P:=Tryz.prog) (fn:=Tryz.f143) rfl HF.out
theorem zTT (f:Nat)(ih:zAu 143 f (YP f))(w:World)(p B:Nat)(s:Ps)(R:xX)(i:Nat)(h:PS w p B s R)(hG:Good s)(hi:i<s.nd.length)(hbig:s.phi≤1000000)(hn:s.ts.length≤f+1)(k:Nat)(hfo:ZM s.hd.text=some k)(hk:s.hd.kind=1)(hk14:k=14∨k=15) :
  Calls Tryz.prog 143 #[.pointer (some ⟨p,0,none⟩),.int .i64 (i:Int)] w (xM w p B R (YP (f+1) i s)):=by
 have HP:=yG h;have HG:=yG hG;have HI:=yG hi;have Ac:=yG hbig;have HN:=yG hn;have Ax:=yG ih;obtain⟨AA,AX⟩:∃x,Hid (x=YP (f+1) i s):=⟨_,yG rfl⟩;rw[←AX.out];have hm:=hmf;have Au:=zDh;have Av:=zAf;have HL:=yG (AX.out.trans (zHZ hfo hk));have Al:=yG hfo;have HK:=yG hk;have Aw:=yG (zAe hfo);have AF:=yG hk14;have As:=hG.pos;have Ai:=yG (zIy f (YP f) ih (zAE f) (zFx f) k (zAe hfo));have Ag:=yG (zHb (zAe hfo));have AI:Hid (Good (s.xI i k).adv):=yG ((vN hG i k).adv (by show s.hd.kind≠4; omega));have Ad:Hid ((s.xI i k).adv.ts.length=s.ts.length-1):=yG (by rw[jW,YS]);have Ak:Hid ((s.xI i k).adv.nd.length=s.nd.length+1):=yG (jT s i k);have Aq:Hid (ZI s (s.xI i k).adv):=yG (JS.at (i:=i) (k:=k) (r:=.ok () (s.xI i k).adv) (zDf (vN hG i k) (by show s.hd.kind≠4; omega)));have Aj:Hid ((s.xI i k).hd.kind≠4):=yG (by show s.hd.kind≠4; omega)
 have Ao:(s.hd.kind:Int)=1:=by omega
 clear hfo hk hk14;clear h hG hi hbig hn ih
 go_enter Tryz.func143,Tryz.ntmps143
 go_wp2_with fail
 refine(ZC _ p s R HP.out.ts).mono ?_;rintro e w1 ⟨rfl,AL⟩;have Am:=yG AL;have Af:=yG (HP.out.ext AL);clear AL;unfold ZY
 go_wp2_with fail
 refine(zB7 s.hd.text w1).mono ?_;rintro e w2 ⟨rfl,AH⟩;have AP:=yG (Am.out.trans AH);have At:=yG (Af.out.ext AH);clear AH;rw[Al.out];simp only[zIf,zIj,Option.elim,Option.isSome];have he:=Ag.out;generalize zMF k=K at *
 go_wp2_with (first
  | (refine xQ rfl 218 (.tmp 4) (.tmp 12) rfl w2.heap.size #[.int .u8 (k:Int),.func (.func K) #[] #[]] (by rfl) (by rfl) 218 #[.int .u8 0,.nilFunc] (Blk.new _ _ _) (by kernel_rfl) rfl rfl ?_; intro w3 Ab AT; have AU:=yG (Ab.ext (AP.out.trans (Ext.alloc w2 (.cells #[.int .u8 0,.nilFunc] 218))) AP.out.size); have An:=yG AT; clear Ab AT)
  | (refine(ZC _ p s R (HP.out.ext AU.out).ts).mono ?_; rintro e w4 ⟨rfl,AK⟩; have AQ:=yG (AU.out.trans AK); have AR:=yG (An.out.ext AK); have f0:w4.cell? ⟨w2.heap.size,0,none⟩=some (.int .u8 (k:Int)):=AR.out.cell 0; clear AK; unfold ZY))
 have AV:Hid (Safe w4 (xK p R) w2.heap.size 218 #[.int .u8 (k:Int),.func (.func K) #[] #[]]):=yG ⟨AR.out,fun h=>by
  have h1:=HP.out.ZW h;have h2:=AP.out.size
  omega⟩
 obtain⟨gf,AY⟩:∃gf,Hid (w2.heap.size=gf):=⟨_,yG rfl⟩;rw[AY.out];rw[AY.out] at AV;clear f0 Ao;refine(zEU w4 p B s R i k (HP.out.ext AQ.out) HI.out (by have:=Ac.out; unfold Ps.phi at this; omega) HG.out).mono ?_;rintro e w5 ⟨rfl,R5,AC,AJ⟩;have Ar:=yG AC;have Ah:=yG ((xC.ext (M:=xK p R) AQ.out).trans AJ);have AM:=yG (AV.out.xE AJ);have Ae:=yG (AC.zTD Aj.out);have AS:Hid (xC w5 (xK p R5) (w5.setCell ⟨p,0,none⟩ (.slice (some ⟨R5.bt,R5.ot+5,none⟩) ((s.xI i k).ts.length-1) (R5.ct-1))) (xK p R5.adv)):=yG (xC.set (.inl rfl));have AG:Hid (Ran w p B R s (w5.setCell ⟨p,0,none⟩ (.slice (some ⟨R5.bt,R5.ot+5,none⟩) ((s.xI i k).ts.length-1) (R5.ct-1))) R5.adv (s.xI i k).adv):=yG ⟨Ae.out,Ah.out.trans AS.out,Aq.out⟩;clear Ae
 have h2:2≤(s.xI i k).ts.length:=by
  have hg:=AI.out.pos;rw[jW] at hg;omega
 have h3:=AC.zIr;have x0:=AC.x0;have z0:=AC.blk.frozen 0;clear AC AJ;generalize (s.xI i k).ts.length=nt at *;generalize R5.ct=ct at *
 go_upto_region 5 with fail
 generalize w5.setCell ⟨p,0,none⟩ (.slice (some ⟨R5.bt,R5.ot+5,none⟩) (nt-1) (ct-1))=w6 at *;have AE:=yG (AM.out.xE AS.out);have f1:w6.cell? ⟨gf,1,none⟩=some (.func (.func K) #[] #[]):=AE.out.1.cell 1;clear x0 z0 h2 h3
 go_wp2_with fail
 refine(Ai.out w6 p B _ _ s.nd.length AG.out.ps AI.out (by rw[Ak.out]; omega) (AG.out.phi Ac.out) (by rw[Ad.out]; have:=HN.out; omega)).mono ?_;intro e w7 hp;have AB:=zDG (zAE f) k s.nd.length (s.xI i k).adv AI.out (by rw[Ad.out]; have:=HN.out; omega);have AD:∀ {R' w'},OkP w6 p B R5.adv R' w'→True:=fun _=>trivial
 cases hr:VK (YP f) k s.nd.length (s.xI i k).adv with
 | err er a=>
  rw[hr] at hp;obtain⟨rfl,ho⟩:=hp;have HF:Hid (xM w p B R AA (jV er) w7):=yG (by rw[HL.out,hr]; exact VF.trans AG.out.mv ⟨rfl,ho⟩);exact xD (P:=Tryz.prog) (fn:=Tryz.f143) rfl HF.out
 | ok a s7=>
  rw[hr] at hp AB;obtain⟨rfl,R7,AW,AN⟩:=hp;have AZ:Hid (Ran w p B R s w7 R7 s7):=yG ⟨AW,AG.out.mv.trans AN,AG.out.lt.trans AB⟩;have AO:=yG (AE.out.xE AN);have f0:w7.cell? ⟨gf,0,none⟩=some (.int .u8 (k:Int)):=AO.out.1.cell 0;have Ap:Hid (AA=if k=14∨k=15 then .ok () s7 else vX [59] s7):=yG (by rw[HL.out,hr]; rfl);clear hr AW AN AB f1 AD he;have Aa:Hid (AA=.ok () s7):=yG (by rw[Ap.out,if_pos AF.out])
  rcases AF.out with hk | hk
  ·subst hk
   go_wp2_with fail
   go_end0;rw[Aa.out];exact xM.ok AZ.out.okp
  ·subst hk
   go_wp2_with fail
   go_end0;rw[Aa.out];exact xM.ok AZ.out.okp
theorem zTi (f:Nat)(ih:zAu 143 f (YP f))(w:World)(p B:Nat)(s:Ps)(R:xX)(i:Nat)(h:PS w p B s R)(hG:Good s)(hi:i<s.nd.length)(hbig:s.phi≤1000000)(hn:s.ts.length≤f+1)(k:Nat)(hfo:ZM s.hd.text=some k)(hk:s.hd.kind=1)(hk14:¬(k=14∨k=15)) :
  Calls Tryz.prog 143 #[.pointer (some ⟨p,0,none⟩),.int .i64 (i:Int)] w (xM w p B R (YP (f+1) i s)):=by
 have HP:=yG h;have HG:=yG hG;have HI:=yG hi;have Ab:=yG hbig;have HN:=yG hn;have A3:=yG ih;obtain⟨AB,AY⟩:∃x,Hid (x=YP (f+1) i s):=⟨_,yG rfl⟩;rw[←AY.out];have hm:=hmf;have Ax:=zDh;have A0:=zAf;have HL:=yG (AY.out.trans (zHZ hfo hk));have Al:=yG hfo;have HK:=yG hk;have A1:=yG (zAe hfo);have AA:=yG hk14;have Av:=hG.pos;have Ah:=yG (zIy f (YP f) ih (zAE f) (zFx f) k (zAe hfo));have Af:=yG (zHb (zAe hfo));have AI:Hid (Good (s.xI i k).adv):=yG ((vN hG i k).adv (by show s.hd.kind≠4; omega));have Ac:Hid ((s.xI i k).adv.ts.length=s.ts.length-1):=yG (by rw[jW,YS]);have Ak:Hid ((s.xI i k).adv.nd.length=s.nd.length+1):=yG (jT s i k);have As:Hid (ZI s (s.xI i k).adv):=yG (JS.at (i:=i) (k:=k) (r:=.ok () (s.xI i k).adv) (zDf (vN hG i k) (by show s.hd.kind≠4; omega)));have Ai:Hid ((s.xI i k).hd.kind≠4):=yG (by show s.hd.kind≠4; omega)
 have Aq:(s.hd.kind:Int)=1:=by omega
 clear hfo hk hk14;clear h hG hi hbig hn ih
 go_enter Tryz.func143,Tryz.ntmps143
 go_wp2_with fail
 refine(ZC _ p s R HP.out.ts).mono ?_;rintro e w1 ⟨rfl,AM⟩;have An:=yG AM;have Ae:=yG (HP.out.ext AM);clear AM;unfold ZY
 go_wp2_with fail
 refine(zB7 s.hd.text w1).mono ?_;rintro e w2 ⟨rfl,AH⟩;have AQ:=yG (An.out.trans AH);have Aw:=yG (Ae.out.ext AH);clear AH;rw[Al.out];simp only[zIf,zIj,Option.elim,Option.isSome];have he:=Af.out;generalize zMF k=K at *
 go_wp2_with (first
  | (refine xQ rfl 218 (.tmp 4) (.tmp 12) rfl w2.heap.size #[.int .u8 (k:Int),.func (.func K) #[] #[]] (by rfl) (by rfl) 218 #[.int .u8 0,.nilFunc] (Blk.new _ _ _) (by kernel_rfl) rfl rfl ?_; intro w3 Aa AU; have AV:=yG (Aa.ext (AQ.out.trans (Ext.alloc w2 (.cells #[.int .u8 0,.nilFunc] 218))) AQ.out.size); have Ap:=yG AU; clear Aa AU)
  | (refine(ZC _ p s R (HP.out.ext AV.out).ts).mono ?_; rintro e w4 ⟨rfl,AK⟩; have AR:=yG (AV.out.trans AK); have AS:=yG (Ap.out.ext AK); have f0:w4.cell? ⟨w2.heap.size,0,none⟩=some (.int .u8 (k:Int)):=AS.out.cell 0; clear AK; unfold ZY))
 have AW:Hid (Safe w4 (xK p R) w2.heap.size 218 #[.int .u8 (k:Int),.func (.func K) #[] #[]]):=yG ⟨AS.out,fun h=>by
  have h1:=HP.out.ZW h;have h2:=AQ.out.size
  omega⟩
 obtain⟨gf,AZ⟩:∃gf,Hid (w2.heap.size=gf):=⟨_,yG rfl⟩;rw[AZ.out];rw[AZ.out] at AW;clear f0 Aq;refine(zEU w4 p B s R i k (HP.out.ext AR.out) HI.out (by have:=Ab.out; unfold Ps.phi at this; omega) HG.out).mono ?_;rintro e w5 ⟨rfl,R5,AD,AJ⟩;have Au:=yG AD;have Ag:=yG ((xC.ext (M:=xK p R) AR.out).trans AJ);have AN:=yG (AW.out.xE AJ);have Ad:=yG (AD.zTD Ai.out);have AT:Hid (xC w5 (xK p R5) (w5.setCell ⟨p,0,none⟩ (.slice (some ⟨R5.bt,R5.ot+5,none⟩) ((s.xI i k).ts.length-1) (R5.ct-1))) (xK p R5.adv)):=yG (xC.set (.inl rfl));have AG:Hid (Ran w p B R s (w5.setCell ⟨p,0,none⟩ (.slice (some ⟨R5.bt,R5.ot+5,none⟩) ((s.xI i k).ts.length-1) (R5.ct-1))) R5.adv (s.xI i k).adv):=yG ⟨Ad.out,Ag.out.trans AT.out,As.out⟩;clear Ad
 have h2:2≤(s.xI i k).ts.length:=by
  have hg:=AI.out.pos;rw[jW] at hg;omega
 have h3:=AD.zIr;have x0:=AD.x0;have z0:=AD.blk.frozen 0;clear AD AJ;generalize (s.xI i k).ts.length=nt at *;generalize R5.ct=ct at *
 go_upto_region 5 with fail
 generalize w5.setCell ⟨p,0,none⟩ (.slice (some ⟨R5.bt,R5.ot+5,none⟩) (nt-1) (ct-1))=w6 at *;have AF:=yG (AN.out.xE AT.out);have f1:w6.cell? ⟨gf,1,none⟩=some (.func (.func K) #[] #[]):=AF.out.1.cell 1;clear x0 z0 h2 h3
 go_wp2_with fail
 refine(Ah.out w6 p B _ _ s.nd.length AG.out.ps AI.out (by rw[Ak.out]; omega) (AG.out.phi Ab.out) (by rw[Ac.out]; have:=HN.out; omega)).mono ?_;intro e w7 hp;have AC:=zDG (zAE f) k s.nd.length (s.xI i k).adv AI.out (by rw[Ac.out]; have:=HN.out; omega);have AE:∀ {R' w'},OkP w6 p B R5.adv R' w'→True:=fun _=>trivial
 cases hr:VK (YP f) k s.nd.length (s.xI i k).adv with
 | err er a=>
  rw[hr] at hp;obtain⟨rfl,ho⟩:=hp;have HF:Hid (xM w p B R AB (jV er) w7):=yG (by rw[HL.out,hr]; exact VF.trans AG.out.mv ⟨rfl,ho⟩);exact xD (P:=Tryz.prog) (fn:=Tryz.f143) rfl HF.out
 | ok a s7=>
  rw[hr] at hp AC;obtain⟨rfl,R7,AX,AO⟩:=hp;have AL:Hid (Ran w p B R s w7 R7 s7):=yG ⟨AX,AG.out.mv.trans AO,AG.out.lt.trans AC⟩;have AP:=yG (AF.out.xE AO);have f0:w7.cell? ⟨gf,0,none⟩=some (.int .u8 (k:Int)):=AP.out.1.cell 0;have Ar:Hid (AB=if k=14∨k=15 then .ok () s7 else vX [59] s7):=yG (by rw[HL.out,hr]; rfl);clear hr AX AO AC f1 AE he;have Ao:Hid (AB=(vX [59] s7).bind fun _ s=>.ok () s):=yG (ZE (by rw[Ar.out,if_neg AA.out]))
  have A2:((k:Int) != 14)=true:=by rw[zE]; have:=AA.out; omega
  have At:((k:Int) != 15)=true:=by rw[zE]; have:=AA.out; omega
  have Ay:¬(k:Int)=14:=by have:=AA.out; omega
  have Az:¬(k:Int)=15:=by have:=AA.out; omega
  go_wp2_with fail
  refine(jG w7 p B s7 R7 [59] AL.out.ps).mono ?_;intro e w8 hp
  rcases Ran.go Ao AL (xS _ _ AL.out.lt.xV) hp with ⟨s8,R8,Aj,rfl,Am⟩ | ⟨er,a,rfl,HX,HY⟩
  rotate_left
  ·refine xD (P:=Tryz.prog) (fn:=Tryz.f143) rfl ?_;rw[HX.out];exact HY.out
  try clear hp
  go_wp2_with fail
  go_end0;rw[Aj.out];exact xM.ok Am.out.okp
theorem zDn:∀f,zAu 143 f (YP f)
 | 0=>fun w p B s R i h hG hi AA hn=>absurd hG.pos (by omega)
 | f+1=>fun w p B s R i h hG hi AA hn=>by
  cases hfo:ZM s.hd.text with
  | none=>exact zTU f (zDn f) w p B s R i h hG hi AA hn hfo
  | some k=>
   by_cases hk:s.hd.kind=1
   ·by_cases AB:k=14∨k=15
    ·exact zTT f (zDn f) w p B s R i h hG hi AA hn k hfo hk AB
    ·exact zTi f (zDn f) w p B s R i h hG hi AA hn k hfo hk AB
   ·exact zTu f (zDn f) w p B s R i h hG hi AA hn k hfo hk
theorem zH9 (w:World)(p B:Nat)(s:Ps)(R:xX)(i:Nat)(h:PS w p B s R)(hG:Good s)(hi:i<s.nd.length)(hbig:s.phi≤1000000) :
  Calls Tryz.prog 112 #[.pointer (some ⟨p,0,none⟩),.int .i64 (i:Int)] w (xM w p B R (zEf i s)):=
 zKt s.ts.length (YP s.ts.length) (zDn _) (zAE _) (zFx _) w p B s R i h hG hi hbig (Nat.le_succ _)
end Go.Proofs.YtbadjmmjbpeocaaGreat
