/- The program's stmt: a statement read, whatever it holds. (and what follows of it). The conditions stand at each lemma. -/
import Derived.Test.YtbadjmmjbpeocaaGreatKaa
import Derived.Test.YtbadjmmjbpeocaaGreatKaw
set_option linter.unusedVariables false
set_option linter.unusedSimpArgs false
set_option maxRecDepth 100000
set_option maxHeartbeats 16000000
namespace Go.Proofs.YtbadjmmjbpeocaaGreat
open Go Go.RowKit
theorem VZ {t:Bs}{k:Nat}(h:ZN t=some k):7≤k∧k≤19:=by
 unfold ZN at h
 cases hf:zIp.find? fun m=>m.1==t with
 | none=>rw[hf] at h; cases h
 | some m=>
  rw[hf] at h;injection h with h;subst h;have hm:=List.mem_of_find?_eq_some hf
  have ha:∀m ∈ zIp,7≤m.2∧m.2≤19:=by decide
  exact ha m hm
theorem zG1 {k:Nat}(h:7≤k∧k≤19):k=7∨k=8∨k=9∨k=10∨k=11∨k=12∨k=13∨k=14∨k=15∨k=16∨k=17∨k=18∨k=19:=by omega
theorem zHk {k:Nat}(h:7≤k∧k≤19):∀args w,(callFunc (zMS k) args).run Tryz.prog w=.ok (.enter (zMS k) args) w:=by
 rcases zG1 h with rfl | rfl | rfl | rfl | rfl | rfl | rfl | rfl | rfl | rfl | rfl | rfl | rfl
 ·exact enters_of Tryz.func159 (by kernel_rfl) rfl
 ·exact enters_of Tryz.func160 (by kernel_rfl) rfl
 ·exact enters_of Tryz.func161 (by kernel_rfl) rfl
 ·exact enters_of Tryz.func162 (by kernel_rfl) rfl
 ·exact enters_of Tryz.func163 (by kernel_rfl) rfl
 ·exact enters_of Tryz.func164 (by kernel_rfl) rfl
 ·exact enters_of Tryz.func165 (by kernel_rfl) rfl
 ·exact enters_of Tryz.func166 (by kernel_rfl) rfl
 ·exact enters_of Tryz.func167 (by kernel_rfl) rfl
 ·exact enters_of Tryz.func168 (by kernel_rfl) rfl
 ·exact enters_of Tryz.func169 (by kernel_rfl) rfl
 ·exact enters_of Tryz.func170 (by kernel_rfl) rfl
 ·exact enters_of Tryz.func170 (by kernel_rfl) rfl
theorem zIM (n:Nat)(st:Nat→Pm Unit)(hst:zAr 143 n st)(hfine:zDv n st)(h1:zIt n st)(k:Nat)(hk:7≤k∧k≤19):zAr (zMS k) (n+1) (VI st k):=by
 have hblk:=zKL n st hst hfine h1;intro w p B s R i h hG hi hbig hn
 rcases zG1 hk with rfl | rfl | rfl | rfl | rfl | rfl | rfl | rfl | rfl | rfl | rfl | rfl | rfl
 ·exact zQm w p B s R i h hG hi hbig
 ·exact zRr w p B s R i h hG hi hbig
 ·exact zM7 w p B s R i h hG hi hbig
 ·exact zIg w p B s R i h hG hi hbig
 ·exact zQc w p B s R i h hG hi hbig
 ·exact zP9 w p B s R i h hG hi hbig
 ·exact zLv w p B s R i h hG hi hbig
 ·exact zOD n st hblk hfine w p B s R i h hG hi hbig hn
 ·exact zRw n st hblk hfine w p B s R i h hG hi hbig hn
 ·exact zR6 w p B s R i h hG hi hbig
 ·exact zAI w p B s R i h hG hi hbig
 ·exact zKg w p B s R i h
 ·exact zKg w p B s R i h
theorem zPc {f i:Nat}{s:Ps}:YS (f+1) i s=match (if s.hd.kind=1 then ZN s.hd.text else none) with
  | none=>.err 50 s.hd.at_
  | some k=>(VI (YS f) k s.nd.length (s.xI i k).adv).bind fun _ s=>if k=14∨k=15 then .ok () s else vX [59] s:=rfl
theorem zHO {f i:Nat}{s:Ps}(h:ZN s.hd.text=none∨s.hd.kind≠1):YS (f+1) i s=.err 50 s.hd.at_:=by
 rw[zPc]
 rcases h with h | h
 ·rw[h]; split <;> simp_all
 ·rw[if_neg h]
theorem zH9 {f i k:Nat}{s:Ps}(h:ZN s.hd.text=some k)(h1:s.hd.kind=1):YS (f+1) i s=(VI (YS f) k s.nd.length (s.xI i k).adv).bind fun _ s=>if k=14∨k=15 then .ok () s else vX [59] s:=by
 rw[zPc,if_pos h1,h]
theorem zFw:∀f,zIt f (YS f)
 | 0=>fun i s s' g hl h=>by cases h
 | f+1=>fun i s s' g hl h=>by
  by_cases h1:s.hd.kind=1
  ·cases hf:ZN s.hd.text with
   | none=>rw[zHO (.inl hf)] at h; cases h
   | some k=>
    rw[zH9 hf h1] at h;have hp:=g.pos
    have h4:(s.xI i k).hd.kind≠4:=by show s.hd.kind≠4; omega
    have ga:=(vM g i k).adv h4;have hal:=jX (s:=s.xI i k);rw[YV] at hal;have hr:=zDA (zAD f) k s.nd.length (s.xI i k).adv ga (by omega)
    cases hq:VI (YS f) k s.nd.length (s.xI i k).adv with
    | err e p=>rw[hq] at h; cases h
    | ok a t=>
     rw[hq] at h hr;have ht:=hr.ts;have h':(if k=14∨k=15 then Res.ok () t else vX [59] t)=.ok () s':=h
     split at h'
     ·injection h' with _ e; subst e; omega
     ·have hf2:=xP [59] t hr.xR;rw[h'] at hf2
      have:=hf2.ts
      omega
  ·rw[zHO (.inr h1)] at h; cases h
theorem zT0 (f:Nat)(ih:zAr 143 f (YS f))(w:World)(p B:Nat)(s:Ps)(R:xU)(i:Nat)(h:PS w p B s R)(hG:Good s)(hi:i<s.nd.length)(hbig:s.phi≤1000000)(hn:s.ts.length≤f+1)(hfo:ZN s.hd.text=none) :
  Calls Tryz.prog 143 #[.pointer (some ⟨p,0,none⟩),.int .i64 (i:Int)] w (xM w p B R (YS (f+1) i s)):=by
 have HP:=yG h;have HG:=yG hG;have HI:=yG hi;have HBG:=yG hbig;have HN:=yG hn;have HIH:=yG ih;obtain⟨whole,HL0⟩:∃x,Hid (x=YS (f+1) i s):=⟨_,yG rfl⟩;rw[←HL0.out];have hm:=hmf;have hf0:=zDd;have hf3:=zAa;have HE:Hid (whole=.err 50 s.hd.at_):=yG (HL0.out.trans (zHO (.inl hfo)));have HFO:=yG hfo;clear hfo;clear h hG hi hbig hn ih
 go_enter Tryz.func143,Tryz.ntmps143
 go_wp2_with fail
 refine(ZF _ p s R HP.out.ts).mono ?_;rintro e w1 ⟨rfl,hx1⟩;have HX1:=yG hx1;have HP1:=yG (HP.out.ext hx1);clear hx1;unfold ZZ
 go_wp2_with fail
 refine(zCa s.hd.text w1).mono ?_;rintro e w2 ⟨rfl,hx2⟩;have HX2:=yG (HX1.out.trans hx2);have HP2:=yG (HP1.out.ext hx2);clear hx2;rw[HFO.out];simp only[zIq,zIu,Option.elim,Option.isSome]
 go_wp2_with (refine vI rfl 218 (.tmp 4) (.tmp 12) rfl w2.heap.size #[.int .u8 0,.nilFunc] (by rfl) (by rfl) 218 #[.int .u8 0,.nilFunc] (Blk.new _ _ _) (by kernel_rfl) rfl rfl ?_; intro w3 ht3 hb3; have HX3:=yG (ht3.ext (HX2.out.trans (Ext.alloc w2 (.cells #[.int .u8 0,.nilFunc] 218))) HX2.out.size); have HB3:=yG hb3; clear ht3 hb3)
 refine(zBk _ p 50).mono ?_;rintro e w4 ⟨rfl,rfl⟩;have HF:Hid (xM w p B R whole (jW 50) w3):=yG (by rw[HE.out]; exact⟨rfl,s,rfl,HP.out.okp HX3.out⟩);exact xD (P:=Tryz.prog) (fn:=Tryz.f143) rfl HF.out
theorem zTy (f:Nat)(ih:zAr 143 f (YS f))(w:World)(p B:Nat)(s:Ps)(R:xU)(i:Nat)(h:PS w p B s R)(hG:Good s)(hi:i<s.nd.length)(hbig:s.phi≤1000000)(hn:s.ts.length≤f+1)(k:Nat)(hfo:ZN s.hd.text=some k)(hk:s.hd.kind≠1) :
  Calls Tryz.prog 143 #[.pointer (some ⟨p,0,none⟩),.int .i64 (i:Int)] w (xM w p B R (YS (f+1) i s)):=by
 have HP:=yG h;have HG:=yG hG;have HI:=yG hi;have HBG:=yG hbig;have HN:=yG hn;have HIH:=yG ih;obtain⟨whole,HL0⟩:∃x,Hid (x=YS (f+1) i s):=⟨_,yG rfl⟩;rw[←HL0.out];have hm:=hmf;have hf0:=zDd;have hf3:=zAa;have HE:Hid (whole=.err 50 s.hd.at_):=yG (HL0.out.trans (zHO (.inr hk)));have HFO:=yG hfo
 have b1:((s.hd.kind:Int) != 1)=true:=by rw[zE]; omega
 have b2:¬(s.hd.kind:Int)=1:=by omega
 clear hfo hk;clear h hG hi hbig hn ih
 go_enter Tryz.func143,Tryz.ntmps143
 go_wp2_with fail
 refine(ZF _ p s R HP.out.ts).mono ?_;rintro e w1 ⟨rfl,hx1⟩;have HX1:=yG hx1;have HP1:=yG (HP.out.ext hx1);clear hx1;unfold ZZ
 go_wp2_with fail
 refine(zCa s.hd.text w1).mono ?_;rintro e w2 ⟨rfl,hx2⟩;have HX2:=yG (HX1.out.trans hx2);have HP2:=yG (HP1.out.ext hx2);clear hx2;rw[HFO.out];simp only[zIq,zIu,Option.elim,Option.isSome];generalize zMS k=K at *
 go_wp2_with (first
  | (refine vI rfl 218 (.tmp 4) (.tmp 12) rfl w2.heap.size #[.int .u8 (k:Int),.func (.func K) #[] #[]] (by rfl) (by rfl) 218 #[.int .u8 0,.nilFunc] (Blk.new _ _ _) (by kernel_rfl) rfl rfl ?_; intro w3 ht3 hb3; have HX3:=yG (ht3.ext (HX2.out.trans (Ext.alloc w2 (.cells #[.int .u8 0,.nilFunc] 218))) HX2.out.size); have HB3:=yG hb3; clear ht3 hb3)
  | (refine(ZF _ p s R (HP.out.ext HX3.out).ts).mono ?_; rintro e w4 ⟨rfl,hx4⟩; have HX4:=yG (HX3.out.trans hx4); clear hx4; unfold ZZ))
 refine(zBk _ p 50).mono ?_;rintro e w5 ⟨rfl,rfl⟩;have HF:Hid (xM w p B R whole (jW 50) w4):=yG (by rw[HE.out]; exact⟨rfl,s,rfl,HP.out.okp HX4.out⟩);exact xD (P:=Tryz.prog) (fn:=Tryz.f143) rfl HF.out
theorem zTZ (f:Nat)(ih:zAr 143 f (YS f))(w:World)(p B:Nat)(s:Ps)(R:xU)(i:Nat)(h:PS w p B s R)(hG:Good s)(hi:i<s.nd.length)(hbig:s.phi≤1000000)(hn:s.ts.length≤f+1)(k:Nat)(hfo:ZN s.hd.text=some k)(hk:s.hd.kind=1)(hk14:k=14∨k=15) :
  Calls Tryz.prog 143 #[.pointer (some ⟨p,0,none⟩),.int .i64 (i:Int)] w (xM w p B R (YS (f+1) i s)):=by
 have HP:=yG h;have HG:=yG hG;have HI:=yG hi;have HBG:=yG hbig;have HN:=yG hn;have HIH:=yG ih;obtain⟨whole,HL0⟩:∃x,Hid (x=YS (f+1) i s):=⟨_,yG rfl⟩;rw[←HL0.out];have hm:=hmf;have hf0:=zDd;have hf3:=zAa;have HL:=yG (HL0.out.trans (zH9 hfo hk));have HFO:=yG hfo;have HK:=yG hk;have HKR:=yG (VZ hfo);have HK14:=yG hk14;have hps:=hG.pos;have HRD:=yG (zIM f (YS f) ih (zAD f) (zFw f) k (VZ hfo));have HFN:=yG (zHk (VZ hfo));have HGA:Hid (Good (s.xI i k).adv):=yG ((vM hG i k).adv (by show s.hd.kind≠4; omega));have HTA:Hid ((s.xI i k).adv.ts.length=s.ts.length-1):=yG (by rw[jX,YV]);have HNA:Hid ((s.xI i k).adv.nd.length=s.nd.length+1):=yG (jU s i k);have HLT:Hid (ZJ s (s.xI i k).adv):=yG (JP.at (i:=i) (k:=k) (r:=.ok () (s.xI i k).adv) (zDb (vM hG i k) (by show s.hd.kind≠4; omega)));have HK4:Hid ((s.xI i k).hd.kind≠4):=yG (by show s.hd.kind≠4; omega)
 have hd1:(s.hd.kind:Int)=1:=by omega
 clear hfo hk hk14;clear h hG hi hbig hn ih
 go_enter Tryz.func143,Tryz.ntmps143
 go_wp2_with fail
 refine(ZF _ p s R HP.out.ts).mono ?_;rintro e w1 ⟨rfl,hx1⟩;have HX1:=yG hx1;have HP1:=yG (HP.out.ext hx1);clear hx1;unfold ZZ
 go_wp2_with fail
 refine(zCa s.hd.text w1).mono ?_;rintro e w2 ⟨rfl,hx2⟩;have HX2:=yG (HX1.out.trans hx2);have HP2:=yG (HP1.out.ext hx2);clear hx2;rw[HFO.out];simp only[zIq,zIu,Option.elim,Option.isSome];have he:=HFN.out;generalize zMS k=K at *
 go_wp2_with (first
  | (refine vI rfl 218 (.tmp 4) (.tmp 12) rfl w2.heap.size #[.int .u8 (k:Int),.func (.func K) #[] #[]] (by rfl) (by rfl) 218 #[.int .u8 0,.nilFunc] (Blk.new _ _ _) (by kernel_rfl) rfl rfl ?_; intro w3 ht3 hb3; have HX3:=yG (ht3.ext (HX2.out.trans (Ext.alloc w2 (.cells #[.int .u8 0,.nilFunc] 218))) HX2.out.size); have HB3:=yG hb3; clear ht3 hb3)
  | (refine(ZF _ p s R (HP.out.ext HX3.out).ts).mono ?_; rintro e w4 ⟨rfl,hx4⟩; have HX4:=yG (HX3.out.trans hx4); have HB4:=yG (HB3.out.ext hx4); have f0:w4.cell? ⟨w2.heap.size,0,none⟩=some (.int .u8 (k:Int)):=HB4.out.cell 0; clear hx4; unfold ZZ))
 have HSF:Hid (Safe w4 (xK p R) w2.heap.size 218 #[.int .u8 (k:Int),.func (.func K) #[] #[]]):=yG ⟨HB4.out,fun h=>by
  have h1:=HP.out.ZX h;have h2:=HX2.out.size
  omega⟩
 obtain⟨gf,HGF⟩:∃gf,Hid (w2.heap.size=gf):=⟨_,yG rfl⟩;rw[HGF.out];rw[HGF.out] at HSF;clear f0 hd1;refine(zET w4 p B s R i k (HP.out.ext HX4.out) HI.out (by have:=HBG.out; unfold Ps.phi at this; omega) HG.out).mono ?_;rintro e w5 ⟨rfl,R5,hp5,hm5⟩;have HP5:=yG hp5;have HM5:=yG ((xC.ext (M:=xK p R) HX4.out).trans hm5);have HSF5:=yG (HSF.out.xE hm5);have HP6:=yG (hp5.zTG HK4.out);have HM6:Hid (xC w5 (xK p R5) (w5.setCell ⟨p,0,none⟩ (.slice (some ⟨R5.bt,R5.ot+5,none⟩) ((s.xI i k).ts.length-1) (R5.ct-1))) (xK p R5.adv)):=yG (xC.set (.inl rfl));have HS6:Hid (Ran w p B R s (w5.setCell ⟨p,0,none⟩ (.slice (some ⟨R5.bt,R5.ot+5,none⟩) ((s.xI i k).ts.length-1) (R5.ct-1))) R5.adv (s.xI i k).adv):=yG ⟨HP6.out,HM5.out.trans HM6.out,HLT.out⟩;clear HP6
 have h2:2≤(s.xI i k).ts.length:=by
  have hg:=HGA.out.pos;rw[jX] at hg;omega
 have h3:=hp5.zID;have x0:=hp5.x0;have z0:=hp5.blk.frozen 0;clear hp5 hm5;generalize (s.xI i k).ts.length=nt at *;generalize R5.ct=ct at *
 go_upto_region 5 with fail
 generalize w5.setCell ⟨p,0,none⟩ (.slice (some ⟨R5.bt,R5.ot+5,none⟩) (nt-1) (ct-1))=w6 at *;have HSF6:=yG (HSF5.out.xE HM6.out);have f1:w6.cell? ⟨gf,1,none⟩=some (.func (.func K) #[] #[]):=HSF6.out.1.cell 1;clear x0 z0 h2 h3
 go_wp2_with fail
 refine(HRD.out w6 p B _ _ s.nd.length HS6.out.ps HGA.out (by rw[HNA.out]; omega) (HS6.out.phi HBG.out) (by rw[HTA.out]; have:=HN.out; omega)).mono ?_;intro e w7 hp;have hfine:=zDA (zAD f) k s.nd.length (s.xI i k).adv HGA.out (by rw[HTA.out]; have:=HN.out; omega);have hsafe:∀ {R' w'},OkP w6 p B R5.adv R' w'→True:=fun _=>trivial
 cases hr:VI (YS f) k s.nd.length (s.xI i k).adv with
 | err er a=>
  rw[hr] at hp;obtain⟨rfl,ho⟩:=hp;have HF:Hid (xM w p B R whole (jW er) w7):=yG (by rw[HL.out,hr]; exact VD.trans HS6.out.mv ⟨rfl,ho⟩);exact xD (P:=Tryz.prog) (fn:=Tryz.f143) rfl HF.out
 | ok a s7=>
  rw[hr] at hp hfine;obtain⟨rfl,R7,hp7,hm7⟩:=hp;have HS7:Hid (Ran w p B R s w7 R7 s7):=yG ⟨hp7,HS6.out.mv.trans hm7,HS6.out.lt.trans hfine⟩;have HSF7:=yG (HSF6.out.xE hm7);have f0:w7.cell? ⟨gf,0,none⟩=some (.int .u8 (k:Int)):=HSF7.out.1.cell 0;have HL7:Hid (whole=if k=14∨k=15 then .ok () s7 else vX [59] s7):=yG (by rw[HL.out,hr]; rfl);clear hr hp7 hm7 hfine f1 hsafe he;have HL8:Hid (whole=.ok () s7):=yG (by rw[HL7.out,if_pos HK14.out])
  rcases HK14.out with hk | hk
  ·subst hk
   go_wp2_with fail
   go_end0;rw[HL8.out];exact xM.ok HS7.out.okp
  ·subst hk
   go_wp2_with fail
   go_end0;rw[HL8.out];exact xM.ok HS7.out.okp
theorem zTl (f:Nat)(ih:zAr 143 f (YS f))(w:World)(p B:Nat)(s:Ps)(R:xU)(i:Nat)(h:PS w p B s R)(hG:Good s)(hi:i<s.nd.length)(hbig:s.phi≤1000000)(hn:s.ts.length≤f+1)(k:Nat)(hfo:ZN s.hd.text=some k)(hk:s.hd.kind=1)(hk14:¬(k=14∨k=15)) :
  Calls Tryz.prog 143 #[.pointer (some ⟨p,0,none⟩),.int .i64 (i:Int)] w (xM w p B R (YS (f+1) i s)):=by
 have HP:=yG h;have HG:=yG hG;have HI:=yG hi;have HBG:=yG hbig;have HN:=yG hn;have HIH:=yG ih;obtain⟨whole,HL0⟩:∃x,Hid (x=YS (f+1) i s):=⟨_,yG rfl⟩;rw[←HL0.out];have hm:=hmf;have hf0:=zDd;have hf3:=zAa;have HL:=yG (HL0.out.trans (zH9 hfo hk));have HFO:=yG hfo;have HK:=yG hk;have HKR:=yG (VZ hfo);have HK14:=yG hk14;have hps:=hG.pos;have HRD:=yG (zIM f (YS f) ih (zAD f) (zFw f) k (VZ hfo));have HFN:=yG (zHk (VZ hfo));have HGA:Hid (Good (s.xI i k).adv):=yG ((vM hG i k).adv (by show s.hd.kind≠4; omega));have HTA:Hid ((s.xI i k).adv.ts.length=s.ts.length-1):=yG (by rw[jX,YV]);have HNA:Hid ((s.xI i k).adv.nd.length=s.nd.length+1):=yG (jU s i k);have HLT:Hid (ZJ s (s.xI i k).adv):=yG (JP.at (i:=i) (k:=k) (r:=.ok () (s.xI i k).adv) (zDb (vM hG i k) (by show s.hd.kind≠4; omega)));have HK4:Hid ((s.xI i k).hd.kind≠4):=yG (by show s.hd.kind≠4; omega)
 have hd1:(s.hd.kind:Int)=1:=by omega
 clear hfo hk hk14;clear h hG hi hbig hn ih
 go_enter Tryz.func143,Tryz.ntmps143
 go_wp2_with fail
 refine(ZF _ p s R HP.out.ts).mono ?_;rintro e w1 ⟨rfl,hx1⟩;have HX1:=yG hx1;have HP1:=yG (HP.out.ext hx1);clear hx1;unfold ZZ
 go_wp2_with fail
 refine(zCa s.hd.text w1).mono ?_;rintro e w2 ⟨rfl,hx2⟩;have HX2:=yG (HX1.out.trans hx2);have HP2:=yG (HP1.out.ext hx2);clear hx2;rw[HFO.out];simp only[zIq,zIu,Option.elim,Option.isSome];have he:=HFN.out;generalize zMS k=K at *
 go_wp2_with (first
  | (refine vI rfl 218 (.tmp 4) (.tmp 12) rfl w2.heap.size #[.int .u8 (k:Int),.func (.func K) #[] #[]] (by rfl) (by rfl) 218 #[.int .u8 0,.nilFunc] (Blk.new _ _ _) (by kernel_rfl) rfl rfl ?_; intro w3 ht3 hb3; have HX3:=yG (ht3.ext (HX2.out.trans (Ext.alloc w2 (.cells #[.int .u8 0,.nilFunc] 218))) HX2.out.size); have HB3:=yG hb3; clear ht3 hb3)
  | (refine(ZF _ p s R (HP.out.ext HX3.out).ts).mono ?_; rintro e w4 ⟨rfl,hx4⟩; have HX4:=yG (HX3.out.trans hx4); have HB4:=yG (HB3.out.ext hx4); have f0:w4.cell? ⟨w2.heap.size,0,none⟩=some (.int .u8 (k:Int)):=HB4.out.cell 0; clear hx4; unfold ZZ))
 have HSF:Hid (Safe w4 (xK p R) w2.heap.size 218 #[.int .u8 (k:Int),.func (.func K) #[] #[]]):=yG ⟨HB4.out,fun h=>by
  have h1:=HP.out.ZX h;have h2:=HX2.out.size
  omega⟩
 obtain⟨gf,HGF⟩:∃gf,Hid (w2.heap.size=gf):=⟨_,yG rfl⟩;rw[HGF.out];rw[HGF.out] at HSF;clear f0 hd1;refine(zET w4 p B s R i k (HP.out.ext HX4.out) HI.out (by have:=HBG.out; unfold Ps.phi at this; omega) HG.out).mono ?_;rintro e w5 ⟨rfl,R5,hp5,hm5⟩;have HP5:=yG hp5;have HM5:=yG ((xC.ext (M:=xK p R) HX4.out).trans hm5);have HSF5:=yG (HSF.out.xE hm5);have HP6:=yG (hp5.zTG HK4.out);have HM6:Hid (xC w5 (xK p R5) (w5.setCell ⟨p,0,none⟩ (.slice (some ⟨R5.bt,R5.ot+5,none⟩) ((s.xI i k).ts.length-1) (R5.ct-1))) (xK p R5.adv)):=yG (xC.set (.inl rfl));have HS6:Hid (Ran w p B R s (w5.setCell ⟨p,0,none⟩ (.slice (some ⟨R5.bt,R5.ot+5,none⟩) ((s.xI i k).ts.length-1) (R5.ct-1))) R5.adv (s.xI i k).adv):=yG ⟨HP6.out,HM5.out.trans HM6.out,HLT.out⟩;clear HP6
 have h2:2≤(s.xI i k).ts.length:=by
  have hg:=HGA.out.pos;rw[jX] at hg;omega
 have h3:=hp5.zID;have x0:=hp5.x0;have z0:=hp5.blk.frozen 0;clear hp5 hm5;generalize (s.xI i k).ts.length=nt at *;generalize R5.ct=ct at *
 go_upto_region 5 with fail
 generalize w5.setCell ⟨p,0,none⟩ (.slice (some ⟨R5.bt,R5.ot+5,none⟩) (nt-1) (ct-1))=w6 at *;have HSF6:=yG (HSF5.out.xE HM6.out);have f1:w6.cell? ⟨gf,1,none⟩=some (.func (.func K) #[] #[]):=HSF6.out.1.cell 1;clear x0 z0 h2 h3
 go_wp2_with fail
 refine(HRD.out w6 p B _ _ s.nd.length HS6.out.ps HGA.out (by rw[HNA.out]; omega) (HS6.out.phi HBG.out) (by rw[HTA.out]; have:=HN.out; omega)).mono ?_;intro e w7 hp;have hfine:=zDA (zAD f) k s.nd.length (s.xI i k).adv HGA.out (by rw[HTA.out]; have:=HN.out; omega);have hsafe:∀ {R' w'},OkP w6 p B R5.adv R' w'→True:=fun _=>trivial
 cases hr:VI (YS f) k s.nd.length (s.xI i k).adv with
 | err er a=>
  rw[hr] at hp;obtain⟨rfl,ho⟩:=hp;have HF:Hid (xM w p B R whole (jW er) w7):=yG (by rw[HL.out,hr]; exact VD.trans HS6.out.mv ⟨rfl,ho⟩);exact xD (P:=Tryz.prog) (fn:=Tryz.f143) rfl HF.out
 | ok a s7=>
  rw[hr] at hp hfine;obtain⟨rfl,R7,hp7,hm7⟩:=hp;have HS7:Hid (Ran w p B R s w7 R7 s7):=yG ⟨hp7,HS6.out.mv.trans hm7,HS6.out.lt.trans hfine⟩;have HSF7:=yG (HSF6.out.xE hm7);have f0:w7.cell? ⟨gf,0,none⟩=some (.int .u8 (k:Int)):=HSF7.out.1.cell 0;have HL7:Hid (whole=if k=14∨k=15 then .ok () s7 else vX [59] s7):=yG (by rw[HL.out,hr]; rfl);clear hr hp7 hm7 hfine f1 hsafe he;have HL8:Hid (whole=(vX [59] s7).bind fun _ s=>.ok () s):=yG (ZG (by rw[HL7.out,if_neg HK14.out]))
  have n14:((k:Int) != 14)=true:=by rw[zE]; have:=HK14.out; omega
  have n15:((k:Int) != 15)=true:=by rw[zE]; have:=HK14.out; omega
  have m14:¬(k:Int)=14:=by have:=HK14.out; omega
  have m15:¬(k:Int)=15:=by have:=HK14.out; omega
  go_wp2_with fail
  refine(jG w7 p B s7 R7 [59] HS7.out.ps).mono ?_;intro e w8 hp
  rcases Ran.go HL8 HS7 (xP _ _ HS7.out.lt.xR) hp with ⟨s8,R8,HL9,rfl,HS8⟩ | ⟨er,a,rfl,HX,HY⟩
  rotate_left
  ·refine xD (P:=Tryz.prog) (fn:=Tryz.f143) rfl ?_;rw[HX.out];exact HY.out
  try clear hp
  go_wp2_with fail
  go_end0;rw[HL9.out];exact xM.ok HS8.out.okp
theorem zDj:∀f,zAr 143 f (YS f)
 | 0=>fun w p B s R i h hG hi hbig hn=>absurd hG.pos (by omega)
 | f+1=>fun w p B s R i h hG hi hbig hn=>by
  cases hfo:ZN s.hd.text with
  | none=>exact zT0 f (zDj f) w p B s R i h hG hi hbig hn hfo
  | some k=>
   by_cases hk:s.hd.kind=1
   ·by_cases h14:k=14∨k=15
    ·exact zTZ f (zDj f) w p B s R i h hG hi hbig hn k hfo hk h14
    ·exact zTl f (zDj f) w p B s R i h hG hi hbig hn k hfo hk h14
   ·exact zTy f (zDj f) w p B s R i h hG hi hbig hn k hfo hk
theorem zIl (w:World)(p B:Nat)(s:Ps)(R:xU)(i:Nat)(h:PS w p B s R)(hG:Good s)(hi:i<s.nd.length)(hbig:s.phi≤1000000) :
  Calls Tryz.prog 112 #[.pointer (some ⟨p,0,none⟩),.int .i64 (i:Int)] w (xM w p B R (zEa i s)):=
 zKL s.ts.length (YS s.ts.length) (zDj _) (zAD _) (zFw _) w p B s R i h hG hi hbig (Nat.le_succ _)
theorem Ran.goF {α:Type}{w w1 w2:World}{p B:Nat}{R R1:xU}{s s1:Ps}{r:Res Unit}{whole:Res α}{f:Unit→Ps→Res α}{e:Ending}(HL:Hid (whole=r.bind f))(h:Hid (Ran w p B R s w1 R1 s1))(hf:jO s1 r)(hp:xM w1 p B R1 r e w2) :
  (∃s2 R2,Hid (r=.ok () s2)∧Hid (whole=f () s2)∧e=.returned (.tuple #[])∧Hid (Ran w p B R s w2 R2 s2))∨(∃er a,e=jW er∧Hid (whole=.err er a)∧Hid (VD w p B R er a (jW er) w2)):=by
 cases r with
 | ok a s2=>
  obtain⟨h1,R2,h2,h3⟩:=hp;exact .inl ⟨s2,R2,yG rfl,yG HL.out,h1,yG ⟨h2,h.out.mv.trans h3,h.out.lt.trans hf⟩⟩
 | err er a=>
  obtain⟨h1,h2⟩:=hp;exact .inr ⟨er,a,h1,yG HL.out,yG (VD.trans h.out.mv ⟨rfl,h2⟩)⟩
theorem zDM {s s1:Ps}{i k:Nat}{t:Bs}(g:Good s)(h:vX t (s.xI i k)=.ok () s1):s.nd.length<s1.nd.length∧s1.phi+1≤s.phi∧s1.ts.length+1≤s.ts.length:=by
 have hf:=zFG t (vM g i k);rw[h] at hf;obtain⟨_,h2,h3,h4,_⟩:=hf;rw[jU] at h4;rw[zCE] at h2;rw[YV] at h3;omega
theorem zAP {s:Ps}{i k:Nat}(t:Bs)(g:Good s):jO s (vX t (s.xI i k)):=JP.at (zFG t (vM g i k))
theorem zM8 {i:Nat}{s s':Ps}(g:Good s)(h:zCW i s=.ok () s'):s'.ts.length<s.ts.length:=by
 unfold zCW at h
 cases hr:vX [116,97,98,108,101] (s.xI i 2) with
 | err e q=>rw[hr] at h; cases h
 | ok a s1=>
  rw[hr] at h;have h1:=zDM g hr;have gf:=zAP (i:=i) (k:=2) [116,97,98,108,101] g;rw[hr] at gf;have h2:=(ZT s.nd.length s1 gf.xR).bind fun _ t _ gt=>(xP [40] t gt).bind fun _ t _ gt=>(zBq (YF s.nd.length) t gt).bind fun _ t _ gt=>(xP [41] t gt).bind fun _ t _ gt=>xP [59] t gt;rw[VL] at h;rw[h] at h2
  have:=h2.ts
  omega
theorem zOn (w:World)(p B:Nat)(s:Ps)(R:xU)(i:Nat)(h:PS w p B s R)(hG:Good s)(hi:i<s.nd.length)(hbig:s.phi≤1000000) :
  Calls Tryz.prog 74 #[.pointer (some ⟨p,0,none⟩),.int .i64 (i:Int)] w (xM w p B R (zCW i s)):=by
 have HP:=yG h;have HG:=yG hG;have HS0:=yG (Ran.refl h hG);have HI:=yG hi;have HBG:=yG hbig;obtain⟨whole,HL0⟩:∃x,Hid (x=zCW i s):=⟨_,yG rfl⟩;rw[←HL0.out];have hm:=hmf;clear h hG hi hbig
 go_enter Tryz.func74,Tryz.ntmps74
 go_wp2_with fail
 refine(zET w p B s R i 2 HP.out HI.out (by have:=HBG.out; unfold Ps.phi at this; omega) HG.out).mono ?_;rintro e w1 ⟨rfl,R1,hp1,hm1⟩;have HP1:=yG hp1;have HM1:=yG (hm1);clear hp1 hm1
 go_wp2_with fail
 refine(jG _ p B _ R1 [116,97,98,108,101] HP1.out).mono ?_;intro e w2 hp
 rcases Ran.goF HL0 HS0 (zAP [116,97,98,108,101] HG.out) (xM.trans HM1.out hp) with ⟨s2,R2,HE2,HL2,rfl,HS2⟩ | ⟨er,a,rfl,HX,HY⟩
 rotate_left
 ·refine xD (P:=Tryz.prog) (fn:=Tryz.f74) rfl ?_;rw[HX.out];exact HY.out
 clear hp;have HI2:Hid (s.nd.length<s2.nd.length):=yG (zDM HG.out HE2.out).1;have HBG2:Hid (s2.phi≤1000000):=yG (HS2.out.phi HBG.out);have HBH2:Hid (s2.phi+1≤s.phi):=yG (zDM HG.out HE2.out).2.1;have HMB:=yG (HS2.out.mv);have HSB:=yG (Ran.refl HS2.out.ps HS2.out.lt.xR)
 go_wp2_with fail
 refine(JW _ p B s2 R2 s.nd.length HSB.out.ps (HSB.out.idx HI2.out)).mono ?_;intro e w1 hp
 rcases Ran.go HL2 HSB (ZT s.nd.length _ HSB.out.lt.xR) hp with ⟨s1,R1,HL1,rfl,HS1⟩ | ⟨er,a,rfl,HX,HY⟩
 rotate_left
 ·refine xD (P:=Tryz.prog) (fn:=Tryz.f74) rfl ?_;refine xM.trans HMB.out ?_;rw[HX.out];exact HY.out
 clear hp
 go_wp2_with fail
 refine(jG _ p B s1 R1 [40] HS1.out.ps).mono ?_;intro e w2 hp
 rcases Ran.go HL1 HS1 (xP _ _ HS1.out.lt.xR) hp with ⟨s2,R2,HL2,rfl,HS2⟩ | ⟨er,a,rfl,HX,HY⟩
 rotate_left
 ·refine xD (P:=Tryz.prog) (fn:=Tryz.f74) rfl ?_;refine xM.trans HMB.out ?_;rw[HX.out];exact HY.out
 clear hp
 go_wp2_with fail
 refine(zGN _ p B s2 R2 s.nd.length ⟨108,#[.pointer (some ⟨p,0,none⟩)],#[],zAH s.nd.length⟩ HS2.out.ps HS2.out.lt.xR (enters_of Tryz.func108 (by kernel_rfl) rfl) (YF s.nd.length) (fun wr s9 R9 hl9 hm9 hp9=>zB9 wr p B s9 R9 s.nd.length hp9 hl9.xR (yU (HS2.out.idx HI2.out) hl9.nd) (by have h1:=hl9.phi; have h2:=HS2.out.phi HBG2.out; unfold Ps.phi at h1 h2; omega))).mono ?_;intro e w3 hp
 rcases Ran.go HL2 HS2 (zBq (YF s.nd.length) _ HS2.out.lt.xR) hp with ⟨s3,R3,HL3,rfl,HS3⟩ | ⟨er,a,rfl,HX,HY⟩
 rotate_left
 ·refine xD (P:=Tryz.prog) (fn:=Tryz.f74) rfl ?_;refine xM.trans HMB.out ?_;rw[HX.out];exact HY.out
 clear hp
 go_wp2_with fail
 refine(jG _ p B s3 R3 [41] HS3.out.ps).mono ?_;intro e w4 hp
 rcases Ran.go HL3 HS3 (xP _ _ HS3.out.lt.xR) hp with ⟨s4,R4,HL4,rfl,HS4⟩ | ⟨er,a,rfl,HX,HY⟩
 rotate_left
 ·refine xD (P:=Tryz.prog) (fn:=Tryz.f74) rfl ?_;refine xM.trans HMB.out ?_;rw[HX.out];exact HY.out
 clear hp;have HB5:=yG (ZG HL4.out)
 go_wp2_with fail
 refine(jG _ p B s4 R4 [59] HS4.out.ps).mono ?_;intro e w5 hp
 rcases Ran.go HB5 HS4 (xP _ _ HS4.out.lt.xR) hp with ⟨s5,R5,HL5,rfl,HS5⟩ | ⟨er,a,rfl,HX,HY⟩
 rotate_left
 ·refine xD (P:=Tryz.prog) (fn:=Tryz.f74) rfl ?_;refine xM.trans HMB.out ?_;rw[HX.out];exact HY.out
 clear hp
 go_wp2_with fail
 go_end0;refine xM.trans HMB.out ?_;rw[HL5.out];exact xM.ok HS5.out.okp
theorem zN6 {α:Type}{whole:Res α}{r:Res Unit}{f:Unit→Ps→Res α}{t:Ps}(h:Hid (whole=r.bind f))(e:r=.ok () t):whole=f () t:=by rw[h.out,e]; rfl
theorem zOK {i:Nat}{s:Ps}(h:Hid (isP [115,105,110,103,108,101] s=true)):VY i s=.ok () (s.adv.num i 1):=by unfold VY; rw[if_pos h.out]
theorem zQX {i:Nat}{s:Ps}(h:Hid (isP [115,105,110,103,108,101] s=false)):VY i s=.ok () s:=by unfold VY; rw[h.out]; rfl
theorem zEE (n:Nat)(s:Ps)(g:Good s):match zBT n s with
  | .ok _ t=>Good t∧t.phi≤s.phi+1∧s.nd.length+1≤t.nd.length∧t.ts.length≤s.ts.length∧t.deep=s.deep
  | .err _ _=>True:=by
 have hk:=zCE s n 4;have hl:=jU s n 4;have e:zBT n s=if isP [41] (s.xI n 4)=true then .ok () (s.xI n 4) else zAc (zAH s.nd.length) (s.xI n 4):=rfl;rw[e]
 cases hi:isP [41] (s.xI n 4) with
 | true=>
  simp only[if_true];exact⟨vM g n 4,by omega,by omega,zX _,rfl⟩
 | false=>
  simp only[Bool.false_eq_true,if_false];have h:=zBq (YF s.nd.length) _ (vM g n 4)
  cases hr:zAc (zAH s.nd.length) (s.xI n 4) with
  | err e q=>trivial
  | ok a t=>
   rw[hr] at h;have h1:=h.phi;have h2:=h.nd;exact⟨h.xR,by omega,by omega,h.ts,h.deep⟩
theorem zKf (i:Nat):zA5 (zEt i):=fun s g=>by
 unfold zEt
 cases hr:vX [112,114,111,99] (s.xI i 3) with
 | err e q=>trivial
 | ok a s2=>
  have h1:=zDM g hr;have gf:=zAP (i:=i) (k:=3) [112,114,111,99] g;rw[hr] at gf;have g2:=gf.xR;have hl2:=((ZT s.nd.length s2 g2).bind fun _ t _ gt=>xP [40] t gt:jO s2 _);rw[VL]
  cases hr3:(jT s.nd.length s2).bind fun _ t=>vX [40] t with
  | err e q=>
   have:∀ {f:Ps→Res Unit},((jT s.nd.length s2).bind fun _ t=>(vX [40] t).bind fun _ t=>f t)=.err e q:=by
    intro f
    cases hn:jT s.nd.length s2 with
    | err e2 q2=>rw[hn] at hr3; exact hr3
    | ok b t=>rw[hn] at hr3; rw[VL] at hr3 ⊢; rw[hr3]; rfl
   rw[this (f:=fun t=>(zBT s.nd.length t).bind fun _ t=>(vX [41] t).bind fun _ t=>(VY s.nd.length t).bind fun _ t=>zEa s.nd.length t)]
   trivial
  | ok b s4=>
   rw[hr3] at hl2
   have:∀ {f:Ps→Res Unit},((jT s.nd.length s2).bind fun _ t=>(vX [40] t).bind fun _ t=>f t)=f s4:=by
    intro f
    cases hn:jT s.nd.length s2 with
    | err e2 q2=>rw[hn] at hr3; cases hr3
    | ok b t=>rw[hn] at hr3; rw[VL] at hr3 ⊢; rw[hr3]; rfl
   rw[this (f:=fun t=>(zBT s.nd.length t).bind fun _ t=>(vX [41] t).bind fun _ t=>(VY s.nd.length t).bind fun _ t=>zEa s.nd.length t)];have hn:=zEE s.nd.length s4 hl2.xR
   cases hr5:zBT s.nd.length s4 with
   | err e q=>trivial
   | ok c s5=>
    rw[hr5] at hn;obtain⟨n1,n2,n3,n4,n5⟩:=hn;have m1:=hl2.phi;have m2:=hl2.nd;have m3:=hl2.ts;have m4:=hl2.deep;have l5:ZJ s s5:=⟨n1,by omega,by omega,by omega,by rw[n5,m4,gf.deep]⟩;rw[VL];exact jO.trans l5 ((xP [41] s5 n1).bind fun _ t _ gt=>(zGX s.nd.length t gt).bind fun _ t _ gt=>zCK s.nd.length t gt)
theorem zOa {i:Nat}{s s':Ps}(g:Good s)(h:zEt i s=.ok () s'):s'.ts.length<s.ts.length:=by
 unfold zEt at h
 cases hr:vX [112,114,111,99] (s.xI i 3) with
 | err e q=>rw[hr] at h; cases h
 | ok a s1=>
  have h1:=zDM g hr;have gf:=zAP (i:=i) (k:=3) [112,114,111,99] g;rw[hr] at gf h;rw[VL] at h
  have h2:∀ {t:Ps},Good t→t.ts.length≤s1.ts.length→∀ {r:Res Unit},jO t r→r=.ok () s'→s'.ts.length≤s1.ts.length:=fun gt hl _ hf e=>by rw[e] at hf; have:=hf.ts; omega
  cases hn:jT s.nd.length s1 with
  | err e q=>rw[hn] at h; cases h
  | ok b t=>
   have f1:=ZT s.nd.length s1 gf.xR;rw[hn] at f1 h;rw[VL] at h
   cases hk:vX [40] t with
   | err e q=>rw[hk] at h; cases h
   | ok c t2=>
    have f2:=xP [40] t f1.xR;rw[hk] at f2 h;rw[VL] at h
    cases hm:zBT s.nd.length t2 with
    | err e q=>rw[hm] at h; cases h
    | ok d t3=>
     have f3:=zEE s.nd.length t2 f2.xR;rw[hm] at f3 h;rw[VL] at h;have f4:=(xP [41] t3 f3.1).bind fun _ t _ gt=>(zGX s.nd.length t gt).bind fun _ t _ gt=>zCK s.nd.length t gt;rw[h] at f4;have a1:=f1.ts;have a2:=f2.ts;have a3:=f3.2.2.2.1;have a4:=f4.ts;omega
theorem zOG (w:World)(p B gp:Nat)(s:Ps)(R:xU)(i:Nat)(h:PS w p B s R)(hG:Good s)(hi:i<s.nd.length)(hbig:s.phi≤1000000)(hb:Safe w (xK p R) gp 99 #[.pointer (some ⟨p,0,none⟩)]) :
  Calls Tryz.prog 109 #[.int .i64 (i:Int),.pointer (some ⟨gp,0,none⟩)] w (xM w p B R (if isP [41] s=true then .ok () s else zAc (zAH i) s)):=by
 have HS0:=yG (Ran.refl h hG);have HI:=yG hi;have HBG:=yG hbig;have HBX:=yG hb;obtain⟨whole,HL0⟩:∃x,Hid (x=if isP [41] s=true then .ok () s else zAc (zAH i) s):=⟨_,yG rfl⟩;rw[←HL0.out];have hm:=hmf;clear h hG hi hbig hb
 go_enter Tryz.func109,Tryz.ntmps109
 cases hi6:isP [41] s with
 | false=>
  have HI6:=yG hi6;clear hi6;have HL6:=yG (zKC (t:=[41]) (s:=s) HL0 HI6);have cb:=(HBX.out.xE HS0.out.mv).1.cell 0;simp only[yL,yM] at cb
  go_wp2_with fail
  try clear cb
  refine(XR _ p B s R [41] false HI6 HS0.out.ps).mono ?_;rintro e w6 ⟨rfl,hx⟩;have HS6:=yG (HS0.out.ext hx);clear hx;have HB7:=yG (ZG HL6.out);have cb:=(HBX.out.xE HS6.out.mv).1.cell 0;simp only[yL,yM] at cb
  go_wp2_with fail
  try clear cb
  refine(zGN _ p B s R i ⟨108,#[.pointer (some ⟨p,0,none⟩)],#[],zAH i⟩ HS6.out.ps HS6.out.lt.xR (enters_of Tryz.func108 (by kernel_rfl) rfl) (YF i) (fun wr s9 R9 hl9 hm9 hp9=>zB9 wr p B s9 R9 i hp9 hl9.xR (yU (HS6.out.idx HI.out) hl9.nd) (by have h1:=hl9.phi; have h2:=HS6.out.phi HBG.out; unfold Ps.phi at h1 h2; omega))).mono ?_;intro e w7 hp
  rcases Ran.go HB7 HS6 (zBq (YF i) _ HS6.out.lt.xR) hp with ⟨s7,R7,HL7,rfl,HS7⟩ | ⟨er,a,rfl,HX,HY⟩
  rotate_left
  ·refine xD (P:=Tryz.prog) (fn:=Tryz.f109) rfl ?_;rw[HX.out];exact HY.out
  clear hp;have cb:=(HBX.out.xE HS7.out.mv).1.cell 0;simp only[yL,yM] at cb
  go_wp2_with fail
  try clear cb
  go_end0;rw[HL7.out];exact xM.ok HS7.out.okp
 | true=>
  have HI6:=yG hi6;clear hi6;have HL6:=yG (zGR (t:=[41]) (s:=s) HL0 HI6);have cb:=(HBX.out.xE HS0.out.mv).1.cell 0;simp only[yL,yM] at cb
  go_wp2_with fail
  try clear cb
  refine(XR _ p B s R [41] true HI6 HS0.out.ps).mono ?_;rintro e w6 ⟨rfl,hx⟩;have HS6:=yG (HS0.out.ext hx);clear hx;have cb:=(HBX.out.xE HS6.out.mv).1.cell 0;simp only[yL,yM] at cb
  go_wp2_with fail
  try clear cb
  go_end0;rw[HL6.out];exact xM.ok HS6.out.okp
theorem zQb (w:World)(p B:Nat)(s:Ps)(R:xU)(i:Nat)(h:PS w p B s R)(hG:Good s)(hi:i<s.nd.length)(hbig:s.phi≤1000000) :
  Calls Tryz.prog 75 #[.pointer (some ⟨p,0,none⟩),.int .i64 (i:Int)] w (xM w p B R (zEt i s)):=by
 have HP:=yG h;have HG:=yG hG;have HS0:=yG (Ran.refl h hG);have HI:=yG hi;have HBG:=yG hbig;obtain⟨whole,HL0⟩:∃x,Hid (x=zEt i s):=⟨_,yG rfl⟩;rw[←HL0.out];have hm:=hmf;have HX1:Hid (Ext w (w.alloc (.cells #[.pointer (some ⟨p,0,none⟩)] 99))):=yG (Ext.alloc _ _);have HBX:=yG (h.fresh 99 #[.pointer (some ⟨p,0,none⟩)]);have HPX:=yG (h.ext HX1.out);clear HS0;have HS0:=yG (Ran.refl HPX.out hG);obtain⟨gp,HGP⟩:∃gp,Hid (w.heap.size=gp):=⟨_,yG rfl⟩;rw[HGP.out] at HBX;have cb:=HBX.out.1.cell 0;simp only[yL,yM] at cb;clear h hG hi hbig
 go_enter Tryz.func75,Tryz.ntmps75
 go_upto_region 1 with fail
 rw[HGP.out];generalize w.alloc (.cells #[.pointer (some ⟨p,0,none⟩)] 99)=W0 at *
 go_wp2_with fail
 refine(zET W0 p B s R i 3 HPX.out HI.out (by have:=HBG.out; unfold Ps.phi at this; omega) HG.out).mono ?_;rintro e w1 ⟨rfl,R1,hp1,hm1⟩;have HP1:=yG hp1;have HM1:=yG (hm1);clear hp1 hm1;have cb:=(HBX.out.xE HM1.out).1.cell 0;simp only[yL,yM] at cb
 go_wp2_with fail
 refine(jG _ p B _ R1 [112,114,111,99] HP1.out).mono ?_;intro e w2 hp
 rcases Ran.goF HL0 HS0 (zAP [112,114,111,99] HG.out) (xM.trans HM1.out hp) with ⟨s2,R2,HE2,HL2,rfl,HS2⟩ | ⟨er,a,rfl,HX,HY⟩
 rotate_left
 ·refine xD (P:=Tryz.prog) (fn:=Tryz.f75) rfl ?_;refine xM.trans (xC.ext HX1.out) ?_;rw[HX.out];exact HY.out
 clear hp;have HI2:Hid (s.nd.length<s2.nd.length):=yG (zDM HG.out HE2.out).1;have HBG2:Hid (s2.phi≤1000000):=yG (HS2.out.phi HBG.out);have HBH2:Hid (s2.phi+1≤s.phi):=yG (zDM HG.out HE2.out).2.1;have HMB:=yG (((xC.ext (M:=xK p R) HX1.out).trans HS2.out.mv));have HBY:=yG (HBX.out.xE HS2.out.mv);have HSB:=yG (Ran.refl HS2.out.ps HS2.out.lt.xR);have cb:=(HBY.out.xE HSB.out.mv).1.cell 0;simp only[yL,yM] at cb
 go_wp2_with fail
 try clear cb
 refine(JW _ p B s2 R2 s.nd.length HSB.out.ps (HSB.out.idx HI2.out)).mono ?_;intro e w8 hp
 rcases Ran.go HL2 HSB (ZT s.nd.length _ HSB.out.lt.xR) hp with ⟨s8,R8,HL8,rfl,HS8⟩ | ⟨er,a,rfl,HX,HY⟩
 rotate_left
 ·refine xD (P:=Tryz.prog) (fn:=Tryz.f75) rfl ?_;refine xM.trans HMB.out ?_;rw[HX.out];exact HY.out
 clear hp;have cb:=(HBY.out.xE HS8.out.mv).1.cell 0;simp only[yL,yM] at cb
 go_wp2_with fail
 try clear cb
 refine(jG _ p B s8 R8 [40] HS8.out.ps).mono ?_;intro e w9 hp
 rcases Ran.go HL8 HS8 (xP _ _ HS8.out.lt.xR) hp with ⟨s9,R9,HL9,rfl,HS9⟩ | ⟨er,a,rfl,HX,HY⟩
 rotate_left
 ·refine xD (P:=Tryz.prog) (fn:=Tryz.f75) rfl ?_;refine xM.trans HMB.out ?_;rw[HX.out];exact HY.out
 clear hp;have HF:=yG (HS9.out.ps.fresh 119 #[.func (.func 109) #[] #[.pointer (some ⟨gp,0,none⟩)]]);have HXF:Hid (Ext w9 (w9.alloc (.cells #[.func (.func 109) #[] #[.pointer (some ⟨gp,0,none⟩)]] 119))):=yG (Ext.alloc _ _);have HBF:=yG ((HBY.out.xE HS9.out.mv).ext HXF.out);have cb:=(HBY.out.xE HS9.out.mv).1.cell 0;simp only[yL,yM] at cb
 go_wp2_with fail
 try clear cb
 refine(zCi _ p B s9 R9 s.nd.length 4 _ [⟨109,#[],#[.pointer (some ⟨gp,0,none⟩)],fun t=>if isP [41] t=true then .ok () t else zAc (zAH s9.nd.length) t⟩] 1 (HS9.out.ps.ext HXF.out) (HS9.out.idx HI2.out) (HS9.out.nd HBG2.out) (by simp) HS9.out.lt.xR HF.out.row (fun f hf=>by
  rw[List.mem_singleton.1 hf]
  exact enters_of Tryz.func109 (by kernel_rfl) rfl) (fun k hk s' wr R' h1 h2 h3=>by
  obtain rfl:k=0:=by simp at hk; omega
  injection h1 with _ h1;subst h1
  exact zOG wr p B gp _ R' s9.nd.length h3 (vM HS9.out.lt.xR s.nd.length 4) (by rw[jU]; omega) (by
   rw[zCE];have h1:=HS9.out.lt.phi;have h2:=HBH2.out;have h3:=HBG.out
   omega) (HBF.out.xE h2))).mono ?_
 intro e w50 hp;rw[zCs] at hp;have hp':zDX _ p B R9 (.int .i64 (s9.nd.length:Int)) (zBT s.nd.length s9) e w50:=hp;have hnl:=zEE s.nd.length s9 HS9.out.lt.xR
 cases hq:zBT s.nd.length s9 with
 | err er a=>
  rw[hq] at hp';obtain⟨rfl,ho⟩:=hp'
  have HF9:Hid (xM w p B R whole (jW er) w50):=yG (by
   refine xM.trans HMB.out ?_;rw[HL9.out,hq]
   exact VD.trans (HS9.out.mv.trans (xC.ext HXF.out)) ⟨rfl,ho⟩)
  exact xD (P:=Tryz.prog) (fn:=Tryz.f75) rfl HF9.out
 | ok a s50=>
  rw[hq] at hp' hnl;obtain⟨rfl,R50,hp50,hm50⟩:=hp';obtain⟨n1,n2,n3,n4,n5⟩:=hnl;have HMC:=yG (HMB.out.trans ((HS9.out.mv.trans (xC.ext HXF.out)).trans hm50));have HBZ:=yG (HBF.out.xE hm50);have HI5:Hid (s.nd.length<s50.nd.length):=yG (by have h1:=HS9.out.lt.nd; have h2:=HI2.out; omega);have HBG5:Hid (s50.phi≤1000000):=yG (by have h1:=HS9.out.lt.phi; have h2:=HBH2.out; have h3:=HBG.out; omega);have HSC:=yG (Ran.refl hp50 n1);have HL50:Hid (whole=(vX [41] s50).bind fun _ t=>(VY s.nd.length t).bind fun _ t=>zEa s.nd.length t):=yG (by rw[HL9.out,hq]; rfl);clear hp hq hp50 hm50 n1 n2 n3 n4 n5;have cb:=(HBZ.out.xE HSC.out.mv).1.cell 0;simp only[yL,yM] at cb
  go_wp2_with fail
  try clear cb
  refine(jG _ p B s50 R50 [41] HSC.out.ps).mono ?_;intro e w10 hp
  rcases Ran.go HL50 HSC (xP _ _ HSC.out.lt.xR) hp with ⟨s10,R10,HL10,rfl,HS10⟩ | ⟨er,a,rfl,HX,HY⟩
  rotate_left
  ·refine xD (P:=Tryz.prog) (fn:=Tryz.f75) rfl ?_;refine xM.trans HMC.out ?_;rw[HX.out];exact HY.out
  clear hp
  cases hi11:isP [115,105,110,103,108,101] s10 with
  | false=>
   have HI11:=yG hi11;clear hi11;have HL11:=yG (zN6 HL10 (zQX HI11));have cb:=(HBZ.out.xE HS10.out.mv).1.cell 0;simp only[yL,yM] at cb
   go_wp2_with fail
   try clear cb
   refine(zAO _ p B s10 R10 [115,105,110,103,108,101] HI11 HS10.out.ps).mono ?_;rintro e w11 ⟨rfl,hx⟩;have HS11:=yG (HS10.out.ext hx);clear hx;have HB12:=yG (ZG HL11.out);have cb:=(HBZ.out.xE HS11.out.mv).1.cell 0;simp only[yL,yM] at cb
   go_wp2_with fail
   try clear cb
   refine(zIl _ p B s10 R10 s.nd.length HS11.out.ps HS11.out.lt.xR (HS11.out.idx HI5.out) (HS11.out.phi HBG5.out)).mono ?_;intro e w12 hp
   rcases Ran.go HB12 HS11 (zCK s.nd.length _ HS11.out.lt.xR) hp with ⟨s12,R12,HL12,rfl,HS12⟩ | ⟨er,a,rfl,HX,HY⟩
   rotate_left
   ·refine xD (P:=Tryz.prog) (fn:=Tryz.f75) rfl ?_;refine xM.trans HMC.out ?_;rw[HX.out];exact HY.out
   clear hp;have cb:=(HBZ.out.xE HS12.out.mv).1.cell 0;simp only[yL,yM] at cb
   go_wp2_with fail
   try clear cb
   go_end0;refine xM.trans HMC.out ?_;rw[HL12.out];exact xM.ok HS12.out.okp
  | true=>
   have HI11:=yG hi11;clear hi11;have HL11:=yG (bind_eq HL10 (zOK HI11));have cb:=(HBZ.out.xE HS10.out.mv).1.cell 0;simp only[yL,yM] at cb
   go_wp2_with fail
   try clear cb
   refine(VH _ p B s10 R10 [115,105,110,103,108,101] HI11 HS10.out.ps).mono ?_;rintro e w11 ⟨rfl,ho⟩;obtain⟨R11,hs⟩:=HS10.out.then ho (zBg HS10.out.lt.xR HI11);have HS11:=yG hs;clear ho hs;have cb:=(HBZ.out.xE HS11.out.mv).1.cell 0;simp only[yL,yM] at cb
   go_wp2_with fail
   try clear cb
   refine(zCD _ p B s10.adv R11 s.nd.length HS11.out.ps (HS11.out.idx HI5.out)).mono ?_;intro e w13 hp
   rcases Ran.go HL11 HS11 (ZJ.num HS11.out.lt.xR s.nd.length 1) hp with ⟨s13,R13,HL13,rfl,HS13⟩ | ⟨er,a,rfl,HX,HY⟩
   rotate_left
   ·refine xD (P:=Tryz.prog) (fn:=Tryz.f75) rfl ?_;refine xM.trans HMC.out ?_;rw[HX.out];exact HY.out
   clear hp;have HB14:=yG (ZG HL13.out);have cb:=(HBZ.out.xE HS13.out.mv).1.cell 0;simp only[yL,yM] at cb
   go_wp2_with fail
   try clear cb
   refine(zIl _ p B s13 R13 s.nd.length HS13.out.ps HS13.out.lt.xR (HS13.out.idx HI5.out) (HS13.out.phi HBG5.out)).mono ?_;intro e w14 hp
   rcases Ran.go HB14 HS13 (zCK s.nd.length _ HS13.out.lt.xR) hp with ⟨s14,R14,HL14,rfl,HS14⟩ | ⟨er,a,rfl,HX,HY⟩
   rotate_left
   ·refine xD (P:=Tryz.prog) (fn:=Tryz.f75) rfl ?_;refine xM.trans HMC.out ?_;rw[HX.out];exact HY.out
   clear hp;have cb:=(HBZ.out.xE HS14.out.mv).1.cell 0;simp only[yL,yM] at cb
   go_wp2_with fail
   try clear cb
   go_end0;refine xM.trans HMC.out ?_;rw[HL14.out];exact xM.ok HS14.out.okp
end Go.Proofs.YtbadjmmjbpeocaaGreat
