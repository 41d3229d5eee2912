/- (form).fits, walked. (and what follows of it). The conditions stand at each lemma. -/
import Derived.Test.YtbadjmmjbpeocaaGreatKaa
import Derived.Test.YtbadjmmjbpeocaaGreatKba
import Derived.Laws.EntriesVeiled
import Derived.WalkLawsBesides
import Derived.Lib.Bytealg
import Derived.Deep.LoopGhost
import Derived.RegionTactic
import Derived.Laws.Externs
import Derived.Laws.IdiomStrings
set_option linter.unusedVariables false
set_option linter.unusedSimpArgs false
set_option maxRecDepth 100000
set_option maxHeartbeats 16000000
namespace Go.Proofs.YtbadjmmjbpeocaaGreat.TT
open Go Go.RowKit
theorem zHh (w:World):(binOp .eql 193 .nilFunc .nilFunc).run Tryz.prog w=.ok (.bool true) w:=by kernel_rfl
theorem zMi (w:World)(f:Fn)(b lb:Array Value):(binOp .eql 193 (.func f b lb) .nilFunc).run Tryz.prog w=.ok (.bool false) w:=by kernel_rfl
def vC (l:List Int):List Value:=l.map (Value.int .u8)
theorem ZB (l:List Int):(vC l).length=l.length:=by simp[vC]
theorem zAz (l:List Int)(k:Nat)(h:k<l.length):(vC l)[k]?=some (.int .u8 l[k]):=by simp[vC,h]
theorem zIE {w:World}{A:Option Addr}{l:List Int}(h:Cells w A (vC l))(k:Nat)(hk:k<l.length):∃b off,A=some ⟨b,off,none⟩∧b<w.heap.size∧w.cell? ⟨b,off+k,none⟩=some (.int .u8 l[k]):=by
 obtain⟨b,off,hA,hb,hcc⟩:=h.at_ (by rw[ZB]; omega);exact⟨b,off,hA,hb,(hcc k (by rw[ZB]; exact hk)).trans (zAz l k hk)⟩
theorem zCz.open_ {w:World}{ps:List vQ}{v:Value}(h:zCz w ps v):∃A c,v=.slice A ps.length c∧∀i (hi:i<ps.length),∃g u,A=some ⟨g,0,none⟩∧w.cell? ⟨g,i,none⟩=some u∧zBf w ps[i] u:=by
 rcases h with ⟨h1,h2⟩ | ⟨g,vs,h1,h2,h3⟩
 ·subst h1; exact⟨none,0,h2,fun i hi=>by simp at hi⟩
 ·refine⟨_,_,h1,fun i hi=>?_⟩;obtain⟨u,hu,hk⟩:=h3.get i hi;exact⟨g,u,rfl,by rw[h2.cell]; simpa using hu,hk⟩
theorem hu' {w wa:World}{g i:Nat}{u:Value}(h:w.cell? ⟨g,i,none⟩=some u)(hx:Ext w wa):wa.cell? ⟨g,i,none⟩=some u:=(hx.cell (World.block_lt_of_cell? w _ h)).trans h
theorem zSf {f:vP}{ls:List Int}(h1:¬ls.length<f.kids.length)(h2:¬(f.kids.length<ls.length∧f.more.isNone=true))(h:∀j,j<ls.length→vJ (f.want j) (ls.getD j 0)=true):f.fits ls=true:=by
 unfold vP.fits;rw[if_neg (fun hh=>hh.elim h1 h2),zH];intro j hj;exact h j (by simpa using hj)
theorem JF {f:vP}{ls:List Int}(j:Nat)(hj:j<ls.length)(h:vJ (f.want j) (ls.getD j 0)=false):f.fits ls=false:=by
 unfold vP.fits
 split
 ·rfl
 ·rw[Bool.eq_false_iff];intro hh;rw[zH] at hh
  have:=hh j (by simpa using hj)
  rw[h] at this
  cases this
theorem zO6 {f:vP}{ls:List Int}(h:ls.length<f.kids.length):f.fits ls=false:=by unfold vP.fits; rw[if_pos (.inl h)]
theorem zQk {f:vP}{ls:List Int}(h:f.kids.length<ls.length)(hn:f.more=none):f.fits ls=false:=by unfold vP.fits; rw[if_pos (.inr ⟨h,by rw[hn]; rfl⟩)]
theorem zQa (f:vP)(cs:List Value)(L:Option Addr)(ls:List Int)(n lc:Nat)(w:World)(hn:n=ls.length)(hf:zC9 w f cs)(hl:Cells w L (vC ls))(hlen:ls.length≤9000) :
  Calls Tryz.prog 117 #[.agg (Array.mk cs),.slice L n lc] w fun e w'=>e=.returned (.bool (f.fits ls))∧Ext w w':=by
 subst hn;obtain⟨ks,mv,rfl,hks,hmv⟩:=hf;obtain⟨KA,kc,rfl,hkid⟩:=hks.open_;have HKID:=yG hkid;have HL:=yG hl;have HMV:=yG hmv;clear hkid hl hks hmv;obtain⟨kn,HKN⟩:∃kn,Hid (f.kids.length=kn):=⟨_,yG rfl⟩;rw[HKN.out]
 by_cases h1:ls.length<kn
 ·have HR:Hid (f.fits ls=false):=yG (zO6 (by rw[HKN.out]; exact h1));have d1:decide ((ls.length:Int)<(kn:Int))=true:=yS (by omega)
  go_enter Tryz.func117,Tryz.ntmps117
  go_wp2_with fail
  go_ret;exact⟨jM HR.out.symm,(by show Below w.heap.size w _; go_grown)⟩
 ·have d1:decide ((ls.length:Int)<(kn:Int))=false:=yR (by omega)
  by_cases hlong:kn<ls.length∧f.more=none
  ·have HR:Hid (f.fits ls=false):=yG (zQk (by rw[HKN.out]; exact hlong.1) hlong.2);have hm:=HMV.out;rw[hlong.2] at hm;have hm':mv=.nilFunc:=hm;subst hm';have hkl:kn<ls.length:=hlong.1;have hkg:ls.length > kn:=hlong.1;have d2:decide ((kn:Int)<(ls.length:Int))=true:=yS (by omega);clear hm hlong;have q1:=zHh
   go_enter Tryz.func117,Tryz.ntmps117
   go_wp2_with fail
   go_ret;exact⟨jM HR.out.symm,(by show Below w.heap.size w _; go_grown)⟩
  ·have hshort:¬ls.length<f.kids.length:=by rw[HKN.out]; exact h1
   have hnl:¬(f.kids.length<ls.length∧f.more.isNone=true):=by
    rintro ⟨ha,hb⟩;rw[HKN.out] at ha;exact hlong ⟨ha,by simpa using hb⟩
   have HYES:Hid ((∀j,j<ls.length→vJ (f.want j) (ls.getD j 0)=true)→f.fits ls=true):=yG (zSf hshort hnl)
   have HB:Hid (∀i,kn≤i→i<ls.length→∃p,f.more=some p):=yG (by
    intro i h2 h3
    cases hm:f.more with
    | none=>exact absurd ⟨by omega,hm⟩ hlong
    | some p=>exact⟨p,rfl⟩)
   have HW:Hid (∀i,f.want i=if i<kn then f.kids[i]? else f.more):=yG (by intro i; unfold vP.want; rw[HKN.out]);have q1:=zHh;have q2:=zMi
   have hmf:(mv=.nilFunc∧(kn<ls.length→False))∨∃fm lm,mv=.func (.func fm) #[] lm:=by
    have hm:=HMV.out
    cases hmm:f.more with
    | none=>rw[hmm] at hm; exact .inl ⟨hm,fun h=>hlong ⟨h,hmm⟩⟩
    | some p=>rw[hmm] at hm; obtain⟨fm,lm,h3,_⟩:=zBf.form hm; exact .inr ⟨fm,lm,h3⟩
   clear hshort hnl hlong
   have hcase:(kn<ls.length∧∃fm lm,mv=.func (.func fm) #[] lm)∨(ls.length=kn∧(mv=.nilFunc∨∃fm lm,mv=.func (.func fm) #[] lm)):=by
    rcases hmf with ⟨h2,h3⟩ | h2
    ·exact .inr ⟨by rcases Nat.lt_or_ge kn ls.length with h | h; exact(h3 h).elim; omega,.inl h2⟩
    ·rcases Nat.lt_or_ge kn ls.length with h | h
     ·exact .inl ⟨h,h2⟩
     ·exact .inr ⟨by omega,.inr h2⟩
   clear hmf h1
   rcases hcase with ⟨hkl,fm,lm,rfl⟩ | ⟨hkl,rfl | ⟨fm,lm,rfl⟩⟩
   ·have hkge:¬ls.length<kn:=by omega
    have d2:decide ((kn:Int)<(ls.length:Int))=true:=yS (by omega)
    go_enter Tryz.func117,Tryz.ntmps117
    go_wp2_with fail
    have hbx:=Blk.new w 195 #[.slice KA kn kc,.func (.func fm) #[] lm,.bool f.named,.int .i64 f.most];have hxa:=Ext.alloc w (.cells #[.slice KA kn kc,.func (.func fm) #[] lm,.bool f.named,.int .i64 f.most] 195);generalize w.alloc (.cells #[.slice KA kn kc,.func (.func fm) #[] lm,.bool f.named,.int .i64 f.most] 195)=wa at *;generalize w.heap.size=ga at *;have x0:=hbx.cell 0;have x1:=hbx.cell 1;have HX:=yG hxa;have HMVA:Hid (zFg wa f.more (.func (.func fm) #[] lm)):=yG (HMV.out.kept (Kept.ZW hxa));have HLA:=yG (HL.out.ext hxa);clear hbx hxa HL HMV
    go_loop [29] (fun i=>∃k:Nat,k≤ls.length∧i=.int .i64 k∧Hid (∀j,j<k→vJ (f.want j) (ls.getD j 0)=true)) (fun i=>ls.length-(intOf i).toNat)
    case atStart=>exact⟨0,zW _,rfl,yG fun j hj=>by omega⟩
    case round=>
     obtain⟨k,hk,rfl,HR⟩:=hrel
     by_cases hlt:k<ls.length
     ·have d0:decide ((k:Int)<(ls.length:Int))=true:=yS (by omega);obtain⟨b,off,rfl,hb,hcl⟩:=zIE HLA.out k hlt;have HG:Hid (ls.getD k 0=ls[k]):=yG (by rw[yH,yJ hlt]; rfl);generalize ls[k]=c at *
      by_cases hkk:k<kn
      ·have d3:decide ((k:Int)<(kn:Int))=true:=yS (by omega);obtain⟨g,u,rfl,hu,hkv⟩:=HKID.out k (by rw[HKN.out]; exact hkk);have hu':wa.cell? ⟨g,k,none⟩=some u:=hu' hu HX.out;have HKV:=yG (hkv.ext HX.out);have HWK:Hid (vJ (f.want k) (ls.getD k 0)=(f.kids[k]'(by rw[HKN.out]; exact hkk)).holds c):=yG (by rw[HW.out,if_pos hkk,yJ (by rw[HKN.out]; exact hkk),HG.out]; rfl);clear hu hkv;generalize (f.kids[k]'(by rw[HKN.out]; exact hkk))=p at *
       cases p with
       | ZM j=>
        obtain⟨gj,rfl,hgj⟩:=HKV.out;have HGJ:=yG hgj;clear hgj
        cases hh:(vQ.ZM j).holds c with
        | true=>
         have HH:=yG hh;clear hh
         go_wp2_with (refine(zAG c j gj _ HGJ.out).mono ?_; rintro e w' ⟨rfl,rfl⟩; simp only[show(c==j)=true from HH.out])
         go_round
         case rel=>exact⟨k+1,by omega,by go_num,yG fun j hj=>by
          by_cases hjk:j=k
          ·subst hjk; rw[HWK.out]; exact HH.out
          ·exact HR.out j (by omega)⟩
         case measure=>simp[intOf]; omega
        | false=>
         have HH:=yG hh;have HNO:Hid (f.fits ls=false):=yG (JF k hlt (by rw[HWK.out]; exact hh));clear hh
         go_wp2_with (refine(zAG c j gj _ HGJ.out).mono ?_; rintro e w' ⟨rfl,rfl⟩; simp only[show(c==j)=false from HH.out])
         go_ret;exact⟨jM HNO.out.symm,HX.out⟩
       | expr=>
        have he:=HKV.out
        cases he
        cases hh:(vQ.expr).holds c with
        | true=>
         have HH:=yG hh;clear hh
         go_wp2_with (refine(zBD c _).mono ?_; rintro e w' ⟨rfl,rfl⟩; simp only[show VP c=true from HH.out])
         go_round
         case rel=>exact⟨k+1,by omega,by go_num,yG fun j hj=>by
          by_cases hjk:j=k
          ·subst hjk; rw[HWK.out]; exact HH.out
          ·exact HR.out j (by omega)⟩
         case measure=>simp[intOf]; omega
        | false=>
         have HH:=yG hh;have HNO:Hid (f.fits ls=false):=yG (JF k hlt (by rw[HWK.out]; exact hh));clear hh
         go_wp2_with (refine(zBD c _).mono ?_; rintro e w' ⟨rfl,rfl⟩; simp only[show VP c=false from HH.out])
         go_ret;exact⟨jM HNO.out.symm,HX.out⟩
       | stmt=>
        have he:=HKV.out
        cases he
        cases hh:(vQ.stmt).holds c with
        | true=>
         have HH:=yG hh;clear hh
         go_wp2_with (refine(zBG c _).mono ?_; rintro e w' ⟨rfl,rfl⟩; simp only[show zAV c=true from HH.out])
         go_round
         case rel=>exact⟨k+1,by omega,by go_num,yG fun j hj=>by
          by_cases hjk:j=k
          ·subst hjk; rw[HWK.out]; exact HH.out
          ·exact HR.out j (by omega)⟩
         case measure=>simp[intOf]; omega
        | false=>
         have HH:=yG hh;have HNO:Hid (f.fits ls=false):=yG (JF k hlt (by rw[HWK.out]; exact hh));clear hh
         go_wp2_with (refine(zBG c _).mono ?_; rintro e w' ⟨rfl,rfl⟩; simp only[show zAV c=false from HH.out])
         go_ret;exact⟨jM HNO.out.symm,HX.out⟩
       | part=>
        have he:=HKV.out
        cases he
        cases hh:(vQ.part).holds c with
        | true=>
         have HH:=yG hh;clear hh
         go_wp2_with (refine(zBE c _).mono ?_; rintro e w' ⟨rfl,rfl⟩; simp only[show zBK c=true from HH.out])
         go_round
         case rel=>exact⟨k+1,by omega,by go_num,yG fun j hj=>by
          by_cases hjk:j=k
          ·subst hjk; rw[HWK.out]; exact HH.out
          ·exact HR.out j (by omega)⟩
         case measure=>simp[intOf]; omega
        | false=>
         have HH:=yG hh;have HNO:Hid (f.fits ls=false):=yG (JF k hlt (by rw[HWK.out]; exact hh));clear hh
         go_wp2_with (refine(zBE c _).mono ?_; rintro e w' ⟨rfl,rfl⟩; simp only[show zBK c=false from HH.out])
         go_ret;exact⟨jM HNO.out.symm,HX.out⟩
      ·have d3:decide ((k:Int)<(kn:Int))=false:=yR (by omega);obtain⟨p,hp⟩:=HB.out k (by omega) hlt;have HMP:Hid (zBf wa p (.func (.func fm) #[] lm)):=yG (by have h:=HMVA.out; rw[hp] at h; exact h);have HWK:Hid (vJ (f.want k) (ls.getD k 0)=p.holds c):=yG (by rw[HW.out,if_neg hkk,hp,HG.out]; rfl);clear hp
       cases p with
       | ZM j=>
        obtain⟨gj,hfm,hgj⟩:=HMP.out;injection hfm with hfm _ hlm;injection hfm with hfm;subst hfm hlm;have HGJ:=yG hgj;clear hgj
        cases hh:(vQ.ZM j).holds c with
        | true=>
         have HH:=yG hh;clear hh
         go_wp2_with (refine(zAG c j gj _ HGJ.out).mono ?_; rintro e w' ⟨rfl,rfl⟩; simp only[show(c==j)=true from HH.out])
         go_round
         case rel=>exact⟨k+1,by omega,by go_num,yG fun j hj=>by
          by_cases hjk:j=k
          ·subst hjk; rw[HWK.out]; exact HH.out
          ·exact HR.out j (by omega)⟩
         case measure=>simp[intOf]; omega
        | false=>
         have HH:=yG hh;have HNO:Hid (f.fits ls=false):=yG (JF k hlt (by rw[HWK.out]; exact hh));clear hh
         go_wp2_with (refine(zAG c j gj _ HGJ.out).mono ?_; rintro e w' ⟨rfl,rfl⟩; simp only[show(c==j)=false from HH.out])
         go_ret;exact⟨jM HNO.out.symm,HX.out⟩
       | expr=>
        have hfm:=HMP.out;injection hfm with hfm _ hlm;injection hfm with hfm;subst hfm hlm
        cases hh:(vQ.expr).holds c with
        | true=>
         have HH:=yG hh;clear hh
         go_wp2_with (refine(zBD c _).mono ?_; rintro e w' ⟨rfl,rfl⟩; simp only[show VP c=true from HH.out])
         go_round
         case rel=>exact⟨k+1,by omega,by go_num,yG fun j hj=>by
          by_cases hjk:j=k
          ·subst hjk; rw[HWK.out]; exact HH.out
          ·exact HR.out j (by omega)⟩
         case measure=>simp[intOf]; omega
        | false=>
         have HH:=yG hh;have HNO:Hid (f.fits ls=false):=yG (JF k hlt (by rw[HWK.out]; exact hh));clear hh
         go_wp2_with (refine(zBD c _).mono ?_; rintro e w' ⟨rfl,rfl⟩; simp only[show VP c=false from HH.out])
         go_ret;exact⟨jM HNO.out.symm,HX.out⟩
       | stmt=>
        have hfm:=HMP.out;injection hfm with hfm _ hlm;injection hfm with hfm;subst hfm hlm
        cases hh:(vQ.stmt).holds c with
        | true=>
         have HH:=yG hh;clear hh
         go_wp2_with (refine(zBG c _).mono ?_; rintro e w' ⟨rfl,rfl⟩; simp only[show zAV c=true from HH.out])
         go_round
         case rel=>exact⟨k+1,by omega,by go_num,yG fun j hj=>by
          by_cases hjk:j=k
          ·subst hjk; rw[HWK.out]; exact HH.out
          ·exact HR.out j (by omega)⟩
         case measure=>simp[intOf]; omega
        | false=>
         have HH:=yG hh;have HNO:Hid (f.fits ls=false):=yG (JF k hlt (by rw[HWK.out]; exact hh));clear hh
         go_wp2_with (refine(zBG c _).mono ?_; rintro e w' ⟨rfl,rfl⟩; simp only[show zAV c=false from HH.out])
         go_ret;exact⟨jM HNO.out.symm,HX.out⟩
       | part=>
        have hfm:=HMP.out;injection hfm with hfm _ hlm;injection hfm with hfm;subst hfm hlm
        cases hh:(vQ.part).holds c with
        | true=>
         have HH:=yG hh;clear hh
         go_wp2_with (refine(zBE c _).mono ?_; rintro e w' ⟨rfl,rfl⟩; simp only[show zBK c=true from HH.out])
         go_round
         case rel=>exact⟨k+1,by omega,by go_num,yG fun j hj=>by
          by_cases hjk:j=k
          ·subst hjk; rw[HWK.out]; exact HH.out
          ·exact HR.out j (by omega)⟩
         case measure=>simp[intOf]; omega
        | false=>
         have HH:=yG hh;have HNO:Hid (f.fits ls=false):=yG (JF k hlt (by rw[HWK.out]; exact hh));clear hh
         go_wp2_with (refine(zBE c _).mono ?_; rintro e w' ⟨rfl,rfl⟩; simp only[show zBK c=false from HH.out])
         go_ret;exact⟨jM HNO.out.symm,HX.out⟩
     ·obtain rfl:k=ls.length:=by omega
      have d0:decide ((ls.length:Int)<(ls.length:Int))=false:=by simp
      go_wp2_with fail
      go_ret;exact⟨jM (HYES.out HR.out).symm,HX.out⟩
   ·have hkge:¬ls.length<kn:=by omega
    have hkge2:¬kn<ls.length:=by omega
    have d2:decide ((kn:Int)<(ls.length:Int))=false:=yR (by omega)
    go_enter Tryz.func117,Tryz.ntmps117
    go_wp2_with fail
    have hbx:=Blk.new w 195 #[.slice KA kn kc,.nilFunc,.bool f.named,.int .i64 f.most];have hxa:=Ext.alloc w (.cells #[.slice KA kn kc,.nilFunc,.bool f.named,.int .i64 f.most] 195);generalize w.alloc (.cells #[.slice KA kn kc,.nilFunc,.bool f.named,.int .i64 f.most] 195)=wa at *;generalize w.heap.size=ga at *;have x0:=hbx.cell 0;have x1:=hbx.cell 1;have HX:=yG hxa;have HMVA:Hid (zFg wa f.more (.nilFunc)):=yG (HMV.out.kept (Kept.ZW hxa));have HLA:=yG (HL.out.ext hxa);clear hbx hxa HL HMV
    go_loop [29] (fun i=>∃k:Nat,k≤ls.length∧i=.int .i64 k∧Hid (∀j,j<k→vJ (f.want j) (ls.getD j 0)=true)) (fun i=>ls.length-(intOf i).toNat)
    case atStart=>exact⟨0,zW _,rfl,yG fun j hj=>by omega⟩
    case round=>
     obtain⟨k,hk,rfl,HR⟩:=hrel
     by_cases hlt:k<ls.length
     ·have d0:decide ((k:Int)<(ls.length:Int))=true:=yS (by omega);obtain⟨b,off,rfl,hb,hcl⟩:=zIE HLA.out k hlt;have HG:Hid (ls.getD k 0=ls[k]):=yG (by rw[yH,yJ hlt]; rfl);generalize ls[k]=c at *
      by_cases hkk:k<kn
      ·have d3:decide ((k:Int)<(kn:Int))=true:=yS (by omega);obtain⟨g,u,rfl,hu,hkv⟩:=HKID.out k (by rw[HKN.out]; exact hkk);have hu':wa.cell? ⟨g,k,none⟩=some u:=hu' hu HX.out;have HKV:=yG (hkv.ext HX.out);have HWK:Hid (vJ (f.want k) (ls.getD k 0)=(f.kids[k]'(by rw[HKN.out]; exact hkk)).holds c):=yG (by rw[HW.out,if_pos hkk,yJ (by rw[HKN.out]; exact hkk),HG.out]; rfl);clear hu hkv;generalize (f.kids[k]'(by rw[HKN.out]; exact hkk))=p at *
       cases p with
       | ZM j=>
        obtain⟨gj,rfl,hgj⟩:=HKV.out;have HGJ:=yG hgj;clear hgj
        cases hh:(vQ.ZM j).holds c with
        | true=>
         have HH:=yG hh;clear hh
         go_wp2_with (refine(zAG c j gj _ HGJ.out).mono ?_; rintro e w' ⟨rfl,rfl⟩; simp only[show(c==j)=true from HH.out])
         go_round
         case rel=>exact⟨k+1,by omega,by go_num,yG fun j hj=>by
          by_cases hjk:j=k
          ·subst hjk; rw[HWK.out]; exact HH.out
          ·exact HR.out j (by omega)⟩
         case measure=>simp[intOf]; omega
        | false=>
         have HH:=yG hh;have HNO:Hid (f.fits ls=false):=yG (JF k hlt (by rw[HWK.out]; exact hh));clear hh
         go_wp2_with (refine(zAG c j gj _ HGJ.out).mono ?_; rintro e w' ⟨rfl,rfl⟩; simp only[show(c==j)=false from HH.out])
         go_ret;exact⟨jM HNO.out.symm,HX.out⟩
       | expr=>
        have he:=HKV.out
        cases he
        cases hh:(vQ.expr).holds c with
        | true=>
         have HH:=yG hh;clear hh
         go_wp2_with (refine(zBD c _).mono ?_; rintro e w' ⟨rfl,rfl⟩; simp only[show VP c=true from HH.out])
         go_round
         case rel=>exact⟨k+1,by omega,by go_num,yG fun j hj=>by
          by_cases hjk:j=k
          ·subst hjk; rw[HWK.out]; exact HH.out
          ·exact HR.out j (by omega)⟩
         case measure=>simp[intOf]; omega
        | false=>
         have HH:=yG hh;have HNO:Hid (f.fits ls=false):=yG (JF k hlt (by rw[HWK.out]; exact hh));clear hh
         go_wp2_with (refine(zBD c _).mono ?_; rintro e w' ⟨rfl,rfl⟩; simp only[show VP c=false from HH.out])
         go_ret;exact⟨jM HNO.out.symm,HX.out⟩
       | stmt=>
        have he:=HKV.out
        cases he
        cases hh:(vQ.stmt).holds c with
        | true=>
         have HH:=yG hh;clear hh
         go_wp2_with (refine(zBG c _).mono ?_; rintro e w' ⟨rfl,rfl⟩; simp only[show zAV c=true from HH.out])
         go_round
         case rel=>exact⟨k+1,by omega,by go_num,yG fun j hj=>by
          by_cases hjk:j=k
          ·subst hjk; rw[HWK.out]; exact HH.out
          ·exact HR.out j (by omega)⟩
         case measure=>simp[intOf]; omega
        | false=>
         have HH:=yG hh;have HNO:Hid (f.fits ls=false):=yG (JF k hlt (by rw[HWK.out]; exact hh));clear hh
         go_wp2_with (refine(zBG c _).mono ?_; rintro e w' ⟨rfl,rfl⟩; simp only[show zAV c=false from HH.out])
         go_ret;exact⟨jM HNO.out.symm,HX.out⟩
       | part=>
        have he:=HKV.out
        cases he
        cases hh:(vQ.part).holds c with
        | true=>
         have HH:=yG hh;clear hh
         go_wp2_with (refine(zBE c _).mono ?_; rintro e w' ⟨rfl,rfl⟩; simp only[show zBK c=true from HH.out])
         go_round
         case rel=>exact⟨k+1,by omega,by go_num,yG fun j hj=>by
          by_cases hjk:j=k
          ·subst hjk; rw[HWK.out]; exact HH.out
          ·exact HR.out j (by omega)⟩
         case measure=>simp[intOf]; omega
        | false=>
         have HH:=yG hh;have HNO:Hid (f.fits ls=false):=yG (JF k hlt (by rw[HWK.out]; exact hh));clear hh
         go_wp2_with (refine(zBE c _).mono ?_; rintro e w' ⟨rfl,rfl⟩; simp only[show zBK c=false from HH.out])
         go_ret;exact⟨jM HNO.out.symm,HX.out⟩
      ·omega
     ·obtain rfl:k=ls.length:=by omega
      have d0:decide ((ls.length:Int)<(ls.length:Int))=false:=by simp
      go_wp2_with fail
      go_ret;exact⟨jM (HYES.out HR.out).symm,HX.out⟩
   ·have hkge:¬ls.length<kn:=by omega
    have hkge2:¬kn<ls.length:=by omega
    have d2:decide ((kn:Int)<(ls.length:Int))=false:=yR (by omega)
    go_enter Tryz.func117,Tryz.ntmps117
    go_wp2_with fail
    have hbx:=Blk.new w 195 #[.slice KA kn kc,.func (.func fm) #[] lm,.bool f.named,.int .i64 f.most];have hxa:=Ext.alloc w (.cells #[.slice KA kn kc,.func (.func fm) #[] lm,.bool f.named,.int .i64 f.most] 195);generalize w.alloc (.cells #[.slice KA kn kc,.func (.func fm) #[] lm,.bool f.named,.int .i64 f.most] 195)=wa at *;generalize w.heap.size=ga at *;have x0:=hbx.cell 0;have x1:=hbx.cell 1;have HX:=yG hxa;have HMVA:Hid (zFg wa f.more (.func (.func fm) #[] lm)):=yG (HMV.out.kept (Kept.ZW hxa));have HLA:=yG (HL.out.ext hxa);clear hbx hxa HL HMV
    go_loop [29] (fun i=>∃k:Nat,k≤ls.length∧i=.int .i64 k∧Hid (∀j,j<k→vJ (f.want j) (ls.getD j 0)=true)) (fun i=>ls.length-(intOf i).toNat)
    case atStart=>exact⟨0,zW _,rfl,yG fun j hj=>by omega⟩
    case round=>
     obtain⟨k,hk,rfl,HR⟩:=hrel
     by_cases hlt:k<ls.length
     ·have d0:decide ((k:Int)<(ls.length:Int))=true:=yS (by omega);obtain⟨b,off,rfl,hb,hcl⟩:=zIE HLA.out k hlt;have HG:Hid (ls.getD k 0=ls[k]):=yG (by rw[yH,yJ hlt]; rfl);generalize ls[k]=c at *
      by_cases hkk:k<kn
      ·have d3:decide ((k:Int)<(kn:Int))=true:=yS (by omega);obtain⟨g,u,rfl,hu,hkv⟩:=HKID.out k (by rw[HKN.out]; exact hkk);have hu':wa.cell? ⟨g,k,none⟩=some u:=hu' hu HX.out;have HKV:=yG (hkv.ext HX.out);have HWK:Hid (vJ (f.want k) (ls.getD k 0)=(f.kids[k]'(by rw[HKN.out]; exact hkk)).holds c):=yG (by rw[HW.out,if_pos hkk,yJ (by rw[HKN.out]; exact hkk),HG.out]; rfl);clear hu hkv;generalize (f.kids[k]'(by rw[HKN.out]; exact hkk))=p at *
       cases p with
       | ZM j=>
        obtain⟨gj,rfl,hgj⟩:=HKV.out;have HGJ:=yG hgj;clear hgj
        cases hh:(vQ.ZM j).holds c with
        | true=>
         have HH:=yG hh;clear hh
         go_wp2_with (refine(zAG c j gj _ HGJ.out).mono ?_; rintro e w' ⟨rfl,rfl⟩; simp only[show(c==j)=true from HH.out])
         go_round
         case rel=>exact⟨k+1,by omega,by go_num,yG fun j hj=>by
          by_cases hjk:j=k
          ·subst hjk; rw[HWK.out]; exact HH.out
          ·exact HR.out j (by omega)⟩
         case measure=>simp[intOf]; omega
        | false=>
         have HH:=yG hh;have HNO:Hid (f.fits ls=false):=yG (JF k hlt (by rw[HWK.out]; exact hh));clear hh
         go_wp2_with (refine(zAG c j gj _ HGJ.out).mono ?_; rintro e w' ⟨rfl,rfl⟩; simp only[show(c==j)=false from HH.out])
         go_ret;exact⟨jM HNO.out.symm,HX.out⟩
       | expr=>
        have he:=HKV.out
        cases he
        cases hh:(vQ.expr).holds c with
        | true=>
         have HH:=yG hh;clear hh
         go_wp2_with (refine(zBD c _).mono ?_; rintro e w' ⟨rfl,rfl⟩; simp only[show VP c=true from HH.out])
         go_round
         case rel=>exact⟨k+1,by omega,by go_num,yG fun j hj=>by
          by_cases hjk:j=k
          ·subst hjk; rw[HWK.out]; exact HH.out
          ·exact HR.out j (by omega)⟩
         case measure=>simp[intOf]; omega
        | false=>
         have HH:=yG hh;have HNO:Hid (f.fits ls=false):=yG (JF k hlt (by rw[HWK.out]; exact hh));clear hh
         go_wp2_with (refine(zBD c _).mono ?_; rintro e w' ⟨rfl,rfl⟩; simp only[show VP c=false from HH.out])
         go_ret;exact⟨jM HNO.out.symm,HX.out⟩
       | stmt=>
        have he:=HKV.out
        cases he
        cases hh:(vQ.stmt).holds c with
        | true=>
         have HH:=yG hh;clear hh
         go_wp2_with (refine(zBG c _).mono ?_; rintro e w' ⟨rfl,rfl⟩; simp only[show zAV c=true from HH.out])
         go_round
         case rel=>exact⟨k+1,by omega,by go_num,yG fun j hj=>by
          by_cases hjk:j=k
          ·subst hjk; rw[HWK.out]; exact HH.out
          ·exact HR.out j (by omega)⟩
         case measure=>simp[intOf]; omega
        | false=>
         have HH:=yG hh;have HNO:Hid (f.fits ls=false):=yG (JF k hlt (by rw[HWK.out]; exact hh));clear hh
         go_wp2_with (refine(zBG c _).mono ?_; rintro e w' ⟨rfl,rfl⟩; simp only[show zAV c=false from HH.out])
         go_ret;exact⟨jM HNO.out.symm,HX.out⟩
       | part=>
        have he:=HKV.out
        cases he
        cases hh:(vQ.part).holds c with
        | true=>
         have HH:=yG hh;clear hh
         go_wp2_with (refine(zBE c _).mono ?_; rintro e w' ⟨rfl,rfl⟩; simp only[show zBK c=true from HH.out])
         go_round
         case rel=>exact⟨k+1,by omega,by go_num,yG fun j hj=>by
          by_cases hjk:j=k
          ·subst hjk; rw[HWK.out]; exact HH.out
          ·exact HR.out j (by omega)⟩
         case measure=>simp[intOf]; omega
        | false=>
         have HH:=yG hh;have HNO:Hid (f.fits ls=false):=yG (JF k hlt (by rw[HWK.out]; exact hh));clear hh
         go_wp2_with (refine(zBE c _).mono ?_; rintro e w' ⟨rfl,rfl⟩; simp only[show zBK c=false from HH.out])
         go_ret;exact⟨jM HNO.out.symm,HX.out⟩
      ·omega
     ·obtain rfl:k=ls.length:=by omega
      have d0:decide ((ls.length:Int)<(ls.length:Int))=false:=by simp
      go_wp2_with fail
      go_ret;exact⟨jM (HYES.out HR.out).symm,HX.out⟩
def zMe (s:ByteArray)(c:Int):Int:=Lib.indexByte s.data.toList c.toNat.toUInt8
theorem zSZ (s:ByteArray)(c:Int)(w:World):(callFunc 155 #[.string s,.int .u8 c]).run Tryz.prog w=.ok (.value (.int .i64 (zMe s c))) w:=by
 rw[run_callFunc_extern Tryz.func155 (by kernel_rfl) (by kernel_rfl) (by kernel_rfl) (e:=Extern.BytealgIndexByte.indexByte) (by kernel_rfl),Lib.run_indexByteString]
 rfl
theorem zIv (s:ByteArray)(c:Int)(w:World):Calls Tryz.prog 133 #[.string s,.int .u8 c] w fun e w'=>e=.returned (.int .i64 (zMe s c))∧w'=w:=by
 have he:=zSZ
 go_enter Tryz.func133,Tryz.ntmps133
 go_wp2
 go_ret;exact⟨rfl,rfl⟩
theorem zJc (s:ByteArray)(c:Int)(w:World):Calls Tryz.prog 97 #[.string s,.int .u8 c] w fun e w'=>e=.returned (.int .i64 (zMe s c))∧w'=w:=by
 go_enter Tryz.func97,Tryz.ntmps97
 go_wp2_with (refine(zIv _ _ _).mono ?_; rintro e w' ⟨rfl,rfl⟩)
 go_ret;exact⟨rfl,rfl⟩
theorem zEc (s:ByteArray)(c v:Int)(h:Hid (zMe s c=v))(w:World):Calls Tryz.prog 97 #[.string s,.int .u8 c] w fun e w'=>e=.returned (.int .i64 v)∧w'=w:=by
 rw[←h.out];exact zJc s c w
def zDB (l:List UInt8):List Value:=l.map fun b=>Value.int .u8 (b.toNat:Int)
theorem zCf (l:List UInt8):(zDB l).length=l.length:=by simp[zDB]
theorem zGp (l:List UInt8)(k:Nat)(h:k<l.length):(zDB l)[k]?=some (.int .u8 (l[k].toNat:Int)):=by simp[zDB,h]
def scan (p:UInt8→Bool)(l:List UInt8):Nat:=(l.takeWhile p).length
theorem zRE {p:UInt8→Bool}{l:List UInt8}{k:Nat}(hk:k<l.length)(h:p l[k]=true):scan p (l.drop k)=scan p (l.drop (k+1))+1:=by
 unfold scan;rw[List.drop_eq_getElem_cons hk,List.takeWhile_cons,if_pos h]
 rfl
theorem zTm {p:UInt8→Bool}{l:List UInt8}{k:Nat}(hk:k<l.length)(h:p l[k]=false):scan p (l.drop k)=0:=by
 unfold scan;rw[List.drop_eq_getElem_cons hk,List.takeWhile_cons,if_neg (by rw[h]; exact Bool.false_ne_true)]
 rfl
theorem zNC (p:UInt8→Bool)(l:List UInt8):scan p (l.drop l.length)=0:=by simp[scan]
theorem zTB {w:World}{g b off n c at_:Nat}{A:Option Addr}{l:List UInt8}(hg:Blk w g 146 #[.slice A n c,.int .i64 at_])(k:Nat)(hk:k<l.length)(hs:Cells w (some ⟨b,off,none⟩) (zDB l)):b≠g:=by
 rintro rfl;obtain⟨b',off',hA,_,hc⟩:=hs.at_ (by rw[zCf]; omega);injection hA with hA;injection hA with h1 h2;subst h1 h2;have h0:=(hc k (by rw[zCf]; exact hk)).trans (zGp l k hk);rw[hg.cell] at h0
 match h:off+k with
 | 0=>rw[h] at h0; simp at h0
 | 1=>rw[h] at h0; simp at h0
 | n+2=>rw[h] at h0; simp at h0
theorem YP {g:Nat}{a b c:World}(h:Touch g a b)(k:Touch g b c):Touch g a c:=
 ⟨k.os.trans h.os,k.tape.trans h.tape,k.output.trans h.output,k.size.trans h.size,fun i hi=>(k.other i hi).trans (h.other i hi)⟩
theorem zHV (g:Nat)(a:World):Touch g a a:=⟨rfl,rfl,rfl,rfl,fun _ _=>rfl⟩
theorem JR (g:Nat)(a:World)(n:Nat):Touch g a (a.drewN n):=by
 induction n with
 | zero=>exact zHV g a
 | succ n ih=>exact YP ih ⟨rfl,rfl,rfl,rfl,fun _ _=>rfl⟩
theorem zPT {g i:Nat}(a:World)(u:Value):Touch g a (a.setCell ⟨g,i,none⟩ u):=⟨rfl,rfl,rfl,by simp[World.setCell],fun k hk=>zS a _ u k hk⟩
theorem zCg {w:World}{g:Nat}{t:TypeId}{cs:Array Value}(h:Blk w g t cs)(n:Nat):Blk (w.drewN n) g t cs:=by
 induction n with
 | zero=>exact h
 | succ n ih=>exact ih
def zAj (set:ByteArray)(p:UInt8→Bool):Prop:=∀c:UInt8,((0≤zMe set (c.toNat:Int))↔p c=true)
theorem zIn {w w':World}{g b off n c at_:Nat}{A:Option Addr}{l:List UInt8}(hg:Blk w g 146 #[.slice A n c,.int .i64 at_])(hs:Cells w (some ⟨b,off,none⟩) (zDB l))(ht:Touch g w w')(k:Nat)(hk:k<l.length) :
  w'.cell? ⟨b,off+k,none⟩=some (.int .u8 (l[k].toNat:Int)):=by
 have hbg:b≠g:=zTB hg k hk hs;obtain⟨b',off',hA,_,hcc⟩:=(ht.cells hs (by rintro _ _ ⟨⟩; exact hbg)).at_ (by rw[zCf]; omega);injection hA with hA;injection hA with h1 h2;subst h1 h2;exact(hcc k (by rw[zCf]; exact hk)).trans (zGp l k hk)
theorem zMC {w w':World}{g b off n c at_:Nat}{A:Option Addr}{l:List UInt8}(hg:Blk w g 146 #[.slice A n c,.int .i64 at_])(hs:Cells w (some ⟨b,off,none⟩) (zDB l))(ht:Touch g w w')(i k cap:Nat)(hik:i≤k)(hk:k≤l.length) :
  (convert 22 9 (.slice (some ⟨b,off+i,none⟩) (k-i) cap)).run Tryz.prog w'=.ok (.string ⟨((l.drop i).take (k-i)).toArray⟩) w':=by
 have h:=run_convert_bytes_back (P:=Tryz.prog) w' 22 9 5 ⟨b,off+i,none⟩ cap ((l.drop i).take (k-i)) Tryz.underlying22 Tryz.underlying5 Tryz.underlying9 (fun j hj=>by
  have hj':j<k-i:=by simp at hj; omega
  have:=zIn hg hs ht (i+j) (by omega)
  unfold Addr.add
  by_cases h0:j=0
  ·subst h0; simpa using this
  ·simp only[h0,if_false]; rw[Nat.add_assoc,this]; simp)
 have hl:((l.drop i).take (k-i)).length=k-i:=by simp; omega
 rw[hl] at h;exact h
theorem zEZ (set:ByteArray)(p:UInt8→Bool)(hp:zAj set p)(g b off n c at_:Nat)(l:List UInt8)(w:World)(hn:n=l.length)(hc:n≤c)(hlen:l.length≤4611686018427387904)(hat:at_≤l.length)
  (hg:Blk w g 146 #[.slice (some ⟨b,off,none⟩) n c,.int .i64 at_]) (hs:Cells w (some ⟨b,off,none⟩) (zDB l)) :
  Calls Tryz.prog 94 #[.pointer (some ⟨g,0,none⟩),.string set] w fun e w'=>e=.returned (.string ⟨((l.drop at_).take (scan p (l.drop at_))).toArray⟩)∧Touch g w w'∧Blk w' g 146 #[.slice (some ⟨b,off,none⟩) n c,.int .i64 ((at_+scan p (l.drop at_):Nat):Int)]:=by
 subst hn;have HP:=yG hp;have HS:=yG hs;have HG:=yG hg;have x0:=hg.cell 0;have x1:=hg.cell 1;clear hp hs hg
 go_enter Tryz.func94,Tryz.ntmps94
 go_wp2_with fail
 clear x0 x1
 go_loopg [] (l.length-at_) (fun m wr=>∃k:Nat,at_≤k∧k≤l.length∧m=l.length-k∧Hid (k+scan p (l.drop k)=at_+scan p (l.drop at_))∧Hid (Touch g w wr)∧Hid (Blk wr g 146 #[.slice (some ⟨b,off,none⟩) l.length c,.int .i64 k]))
 case atStart=>exact⟨at_,zX _,hat,rfl,yG rfl,yG (zHV _ _),HG⟩
 case round=>
  obtain⟨k,hk0,hk,hm,HK,HT,HB⟩:=hrel;have HM:=yG hm;clear hm;have x0:=HB.out.cell 0;have x1:=HB.out.cell 1;have y0:=HB.out.frozen 1
  by_cases hlt:k<l.length
  ·have d0:decide ((k:Int)<(l.length:Int))=true:=yS (by omega);have hcell:wr.cell? ⟨b,off+k,none⟩=some (.int .u8 (l[k].toNat:Int)):=zIn HG.out HS.out HT.out k hlt;obtain⟨v,HV⟩:∃v,Hid (zMe set (l[k].toNat:Int)=v):=⟨_,yG rfl⟩
   have q0:(k:Int)<(l.length:Int):=by omega
   by_cases hpk:p l[k]=true
   ·have hv0:0≤v:=by rw[←HV.out]; exact(HP.out _).2 hpk
    have d1:decide (0≤v)=true:=yS hv0;have HK1:Hid (k+1+scan p (l.drop (k+1))=at_+scan p (l.drop at_)):=yG (by rw[←HK.out,zRE hlt hpk]; omega);have HQ:=yG hpk;clear hpk
    go_wp2_with fail
    go_quiet ((go_at_call 97; exact Calls.quiet_of_same (zEc set _ v HV _)))
    rename_i nq;have HT1:Hid (Touch g w (wr.drewN nq)):=yG (YP HT.out (JR g wr nq));have HB1:=yG (zCg HB.out nq);clear HT HB x0 x1 y0 hcell;generalize wr.drewN nq=wd at *;have x0:=HB1.out.cell 0;have x1:=HB1.out.cell 1;have y0:=HB1.out.frozen 1
    go_wp2_with fail
    go_roundg (l.length-(k+1))
    case measure=>have:=HM.out; omega
    case rel=>
     exact⟨k+1,by omega,by omega,rfl,HK1,yG (YP HT1.out (zPT _ _)),yG (HB1.out.put 1 _)⟩
   ·have hv0:v<0:=by
     have:=(HP.out l[k])
     rw[HV.out] at this
     by_cases h:0≤v
     ·exact absurd (this.1 h) hpk
     ·omega
    have d1:decide (0≤v)=false:=yR (by omega);have HE:Hid (k=at_+scan p (l.drop at_)):=yG (by rw[←HK.out]; rw[zTm hlt (by simpa using hpk)]; rfl);have HR:Hid (((l.drop at_).take (k-at_)).toArray=((l.drop at_).take (scan p (l.drop at_))).toArray):=yG (by rw[show k-at_=scan p (l.drop at_) from by have:=HE.out; omega])
    have hw:IntKind.i64.wrap ((k:Int)-(at_:Int))=(k:Int)-(at_:Int):=by rw[IntKind.wrap_i64]; omega
    clear hpk hv0
    go_wp2_with fail
    go_quiet ((go_at_call 97; exact Calls.quiet_of_same (zEc set _ v HV _)))
    rename_i nq;have HT1:Hid (Touch g w (wr.drewN nq)):=yG (YP HT.out (JR g wr nq));have HB1:=yG (zCg HB.out nq);clear HT HB x0 x1 y0;generalize wr.drewN nq=wd at *;have x0:=HB1.out.cell 0;have x1:=HB1.out.cell 1;have hconv:∀q,(convert 22 9 (.slice (some ⟨b,off+at_,none⟩) (k-at_) (c-at_))).run Tryz.prog (wd.drewN q)=.ok (.string ⟨((l.drop at_).take (k-at_)).toArray⟩) (wd.drewN q):=fun q=>zMC HG.out HS.out (YP HT1.out (JR g wd q)) at_ k (c-at_) hk0 hk
    go_wp2_with fail
    go_quiet (fail)
    go_wp2_with fail
    go_ret;have HEo:=HE.out;refine⟨by rw[←HR.out]; rfl,YP HT1.out (JR g wd _),?_⟩;rw[←HEo];exact zCg HB1.out _
  ·obtain rfl:k=l.length:=by omega
   have d0:decide ((l.length:Int)<(l.length:Int))=false:=by simp
   by_cases hac:at_<c
   ·have HE:Hid (l.length=at_+scan p (l.drop at_)):=yG (by rw[←HK.out,zNC]; rfl);have HR:Hid (((l.drop at_).take (l.length-at_)).toArray=((l.drop at_).take (scan p (l.drop at_))).toArray):=yG (by rw[show l.length-at_=scan p (l.drop at_) from by have:=HE.out; omega])
    have hw:IntKind.i64.wrap ((l.length:Int)-(at_:Int))=(l.length:Int)-(at_:Int):=by rw[IntKind.wrap_i64]; omega
    go_wp2_with fail
    go_quiet (fail)
    rename_i nq;have HT1:Hid (Touch g w (wr.drewN nq)):=yG (YP HT.out (JR g wr nq));have HB1:=yG (zCg HB.out nq);clear HT HB x0 x1 y0;generalize wr.drewN nq=wd at *;have x0:=HB1.out.cell 0;have x1:=HB1.out.cell 1;have hconv:∀q,(convert 22 9 (.slice (some ⟨b,off+at_,none⟩) (l.length-at_) (c-at_))).run Tryz.prog (wd.drewN q)=.ok (.string ⟨((l.drop at_).take (l.length-at_)).toArray⟩) (wd.drewN q):=fun q=>zMC HG.out HS.out (YP HT1.out (JR g wd q)) at_ l.length (c-at_) hk0 hk
    go_wp2_with fail
    go_quiet (fail)
    go_wp2_with fail
    go_ret;have HEo:=HE.out;refine⟨by rw[←HR.out]; rfl,YP HT1.out (JR g wd _),?_⟩;rw[←HEo];exact zCg HB1.out _
   ·obtain rfl:at_=l.length:=by omega
    obtain rfl:c=l.length:=by omega
    have HZ:Hid (scan p (l.drop l.length)=0):=yG (zNC p l)
    have hw:IntKind.i64.wrap ((l.length:Int)-(l.length:Int))=(l.length:Int)-(l.length:Int):=by rw[IntKind.wrap_i64]; omega
    have hconv:∀W,(convert 22 9 (.slice (some ⟨b,off,none⟩) 0 0)).run Tryz.prog W=.ok (.string ⟨#[]⟩) W:=fun W=>run_convert_bytes_back (P:=Tryz.prog) W 22 9 5 ⟨b,off,none⟩ 0 [] Tryz.underlying22 Tryz.underlying5 Tryz.underlying9 (fun j hj=>by simp at hj)
    go_wp2_with fail
    go_quiet (fail)
    rename_i nq;have HT1:Hid (Touch g w (wr.drewN nq)):=yG (YP HT.out (JR g wr nq));have HB1:=yG (zCg HB.out nq);clear HT HB x0 x1 y0;generalize wr.drewN nq=wd at *;have x0:=HB1.out.cell 0;have x1:=HB1.out.cell 1
    go_wp2_with fail
    go_quiet (fail)
    go_wp2_with fail
    go_ret;refine⟨by rw[HZ.out]; rfl,YP HT1.out (JR g wd _),?_⟩;rw[HZ.out];exact zCg HB1.out _
end Go.Proofs.YtbadjmmjbpeocaaGreat.TT
