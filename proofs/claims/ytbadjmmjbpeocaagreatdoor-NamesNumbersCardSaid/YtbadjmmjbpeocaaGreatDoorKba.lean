/- (form).fits, walked. (and what follows of it). The conditions stand at each lemma. -/
import Derived.Test.YtbadjmmjbpeocaaGreatDoorKaa
import Derived.Test.YtbadjmmjbpeocaaGreatDoorKaz
import Derived.Laws.EntriesVeiled
import Derived.WalkLawsBesides
import Derived.Lib.Bytealg
import Derived.Deep.LoopGhost
import Derived.RegionTactic
import Derived.Laws.Externs
import Derived.Laws.IdiomStrings
set_option linter.unusedVariables false
set_option linter.unusedSimpArgs false
set_option maxRecDepth 100000
set_option maxHeartbeats 16000000
namespace Go.Proofs.YtbadjmmjbpeocaaGreatDoor.TT
open Go Go.RowKit
theorem zHb (w:World):(binOp .eql 179 .nilFunc .nilFunc).run Tryz.prog w=.ok (.bool true) w:=by kernel_rfl
theorem zLW (w:World)(f:Fn)(b lb:Array Value):(binOp .eql 179 (.func f b lb) .nilFunc).run Tryz.prog w=.ok (.bool false) w:=by kernel_rfl
def vB (l:List Int):List Value:=l.map (Value.int .u8)
theorem jV (l:List Int):(vB l).length=l.length:=by simp[vB]
theorem zAa (l:List Int)(k:Nat)(h:k<l.length):(vB l)[k]?=some (.int .u8 l[k]):=by simp[vB,h]
theorem zJp {w:World}{A:Option Addr}{l:List Int}(h:Cells w A (vB l))(k:Nat)(hk:k<l.length):∃b off,A=some ⟨b,off,none⟩∧b<w.heap.size∧w.cell? ⟨b,off+k,none⟩=some (.int .u8 l[k]):=by
 obtain⟨b,off,hA,hb,hcc⟩:=h.at_ (by rw[jV]; omega);exact⟨b,off,hA,hb,(hcc k (by rw[jV]; exact hk)).trans (zAa l k hk)⟩
theorem zCI.open_ {w:World}{ps:List vR}{v:Value}(h:zCI w ps v):∃A c,v=.slice A ps.length c∧∀i (hi:i<ps.length),∃g u,A=some ⟨g,0,none⟩∧w.cell? ⟨g,i,none⟩=some u∧zBk w ps[i] u:=by
 rcases h with ⟨h1,h2⟩ | ⟨g,vs,h1,h2,h3⟩
 ·subst h1; exact⟨none,0,h2,fun i hi=>by simp at hi⟩
 ·refine⟨_,_,h1,fun i hi=>?_⟩;obtain⟨u,hu,hk⟩:=h3.get i hi;exact⟨g,u,rfl,by rw[h2.cell]; simpa using hu,hk⟩
theorem hu' {w wa:World}{g i:Nat}{u:Value}(h:w.cell? ⟨g,i,none⟩=some u)(hx:Ext w wa):wa.cell? ⟨g,i,none⟩=some u:=(hx.cell (World.block_lt_of_cell? w _ h)).trans h
theorem zSl {f:vQ}{ls:List Int}(h1:¬ls.length<f.kids.length)(h2:¬(f.kids.length<ls.length∧f.more.isNone=true))(h:∀j,j<ls.length→vI (f.want j) (ls.getD j 0)=true):f.fits ls=true:=by
 unfold vQ.fits;rw[if_neg (fun hh=>hh.elim h1 h2),zH];intro j hj;exact h j (by simpa using hj)
theorem JB {f:vQ}{ls:List Int}(j:Nat)(hj:j<ls.length)(h:vI (f.want j) (ls.getD j 0)=false):f.fits ls=false:=by
 unfold vQ.fits
 split
 ·rfl
 ·rw[Bool.eq_false_iff];intro hh;rw[zH] at hh
  have:=hh j (by simpa using hj)
  rw[h] at this
  cases this
theorem zOU {f:vQ}{ls:List Int}(h:ls.length<f.kids.length):f.fits ls=false:=by unfold vQ.fits; rw[if_pos (.inl h)]
theorem zQj {f:vQ}{ls:List Int}(h:f.kids.length<ls.length)(hn:f.more=none):f.fits ls=false:=by unfold vQ.fits; rw[if_pos (.inr ⟨h,by rw[hn]; rfl⟩)]
theorem zP8 (f:vQ)(cs:List Value)(L:Option Addr)(ls:List Int)(n lc:Nat)(w:World)(hn:n=ls.length)(hf:zC3 w f cs)(hl:Cells w L (vB ls))(hlen:ls.length≤9000) :
  Calls Tryz.prog 101 #[.agg (Array.mk cs),.slice L n lc] w fun e w'=>e=.returned (.bool (f.fits ls))∧Ext w w':=by
 subst hn;obtain⟨ks,mv,rfl,hks,hmv⟩:=hf;obtain⟨KA,kc,rfl,hkid⟩:=hks.open_;have HKID:=yG hkid;have HL:=yG hl;have HMV:=yG hmv;clear hkid hl hks hmv;obtain⟨kn,HKN⟩:∃kn,Hid (f.kids.length=kn):=⟨_,yG rfl⟩;rw[HKN.out]
 by_cases h1:ls.length<kn
 ·have HR:Hid (f.fits ls=false):=yG (zOU (by rw[HKN.out]; exact h1));have d1:decide ((ls.length:Int)<(kn:Int))=true:=yS (by omega)
  go_enter Tryz.func101,Tryz.ntmps101
  go_wp2_with fail
  go_ret;exact⟨jM HR.out.symm,(by show Below w.heap.size w _; go_grown)⟩
 ·have d1:decide ((ls.length:Int)<(kn:Int))=false:=yR (by omega)
  by_cases hlong:kn<ls.length∧f.more=none
  ·have HR:Hid (f.fits ls=false):=yG (zQj (by rw[HKN.out]; exact hlong.1) hlong.2);have hm:=HMV.out;rw[hlong.2] at hm;have hm':mv=.nilFunc:=hm;subst hm';have hkl:kn<ls.length:=hlong.1;have hkg:ls.length > kn:=hlong.1;have d2:decide ((kn:Int)<(ls.length:Int))=true:=yS (by omega);clear hm hlong;have q1:=zHb
   go_enter Tryz.func101,Tryz.ntmps101
   go_wp2_with fail
   go_ret;exact⟨jM HR.out.symm,(by show Below w.heap.size w _; go_grown)⟩
  ·have hshort:¬ls.length<f.kids.length:=by rw[HKN.out]; exact h1
   have hnl:¬(f.kids.length<ls.length∧f.more.isNone=true):=by
    rintro ⟨ha,hb⟩;rw[HKN.out] at ha;exact hlong ⟨ha,by simpa using hb⟩
   have HYES:Hid ((∀j,j<ls.length→vI (f.want j) (ls.getD j 0)=true)→f.fits ls=true):=yG (zSl hshort hnl)
   have HB:Hid (∀i,kn≤i→i<ls.length→∃p,f.more=some p):=yG (by
    intro i h2 h3
    cases hm:f.more with
    | none=>exact absurd ⟨by omega,hm⟩ hlong
    | some p=>exact⟨p,rfl⟩)
   have HW:Hid (∀i,f.want i=if i<kn then f.kids[i]? else f.more):=yG (by intro i; unfold vQ.want; rw[HKN.out]);have q1:=zHb;have q2:=zLW
   have hmf:(mv=.nilFunc∧(kn<ls.length→False))∨∃fm lm,mv=.func (.func fm) #[] lm:=by
    have hm:=HMV.out
    cases hmm:f.more with
    | none=>rw[hmm] at hm; exact .inl ⟨hm,fun h=>hlong ⟨h,hmm⟩⟩
    | some p=>rw[hmm] at hm; obtain⟨fm,lm,h3,_⟩:=zBk.form hm; exact .inr ⟨fm,lm,h3⟩
   clear hshort hnl hlong
   have hcase:(kn<ls.length∧∃fm lm,mv=.func (.func fm) #[] lm)∨(ls.length=kn∧(mv=.nilFunc∨∃fm lm,mv=.func (.func fm) #[] lm)):=by
    rcases hmf with ⟨h2,h3⟩ | h2
    ·exact .inr ⟨by rcases Nat.lt_or_ge kn ls.length with h | h; exact(h3 h).elim; omega,.inl h2⟩
    ·rcases Nat.lt_or_ge kn ls.length with h | h
     ·exact .inl ⟨h,h2⟩
     ·exact .inr ⟨by omega,.inr h2⟩
   clear hmf h1
   rcases hcase with ⟨hkl,fm,lm,rfl⟩ | ⟨hkl,rfl | ⟨fm,lm,rfl⟩⟩
   ·have hkge:¬ls.length<kn:=by omega
    have d2:decide ((kn:Int)<(ls.length:Int))=true:=yS (by omega)
    go_enter Tryz.func101,Tryz.ntmps101
    go_wp2_with fail
    have hbx:=Blk.new w 181 #[.slice KA kn kc,.func (.func fm) #[] lm,.bool f.named,.int .i64 f.most];have hxa:=Ext.alloc w (.cells #[.slice KA kn kc,.func (.func fm) #[] lm,.bool f.named,.int .i64 f.most] 181);generalize w.alloc (.cells #[.slice KA kn kc,.func (.func fm) #[] lm,.bool f.named,.int .i64 f.most] 181)=wa at *;generalize w.heap.size=ga at *;have x0:=hbx.cell 0;have x1:=hbx.cell 1;have HX:=yG hxa;have HMVA:Hid (zE7 wa f.more (.func (.func fm) #[] lm)):=yG (HMV.out.kept (Kept.ZJ hxa));have HLA:=yG (HL.out.ext hxa);clear hbx hxa HL HMV
    go_loop [29] (fun i=>∃k:Nat,k≤ls.length∧i=.int .i64 k∧Hid (∀j,j<k→vI (f.want j) (ls.getD j 0)=true)) (fun i=>ls.length-(intOf i).toNat)
    case atStart=>exact⟨0,zW _,rfl,yG fun j hj=>by omega⟩
    case round=>
     obtain⟨k,hk,rfl,HR⟩:=hrel
     by_cases hlt:k<ls.length
     ·have d0:decide ((k:Int)<(ls.length:Int))=true:=yS (by omega);obtain⟨b,off,rfl,hb,hcl⟩:=zJp HLA.out k hlt;have HG:Hid (ls.getD k 0=ls[k]):=yG (by rw[yH,yJ hlt]; rfl);generalize ls[k]=c at *
      by_cases hkk:k<kn
      ·have d3:decide ((k:Int)<(kn:Int))=true:=yS (by omega);obtain⟨g,u,rfl,hu,hkv⟩:=HKID.out k (by rw[HKN.out]; exact hkk);have hu':wa.cell? ⟨g,k,none⟩=some u:=hu' hu HX.out;have HKV:=yG (hkv.ext HX.out);have HWK:Hid (vI (f.want k) (ls.getD k 0)=(f.kids[k]'(by rw[HKN.out]; exact hkk)).holds c):=yG (by rw[HW.out,if_pos hkk,yJ (by rw[HKN.out]; exact hkk),HG.out]; rfl);clear hu hkv;generalize (f.kids[k]'(by rw[HKN.out]; exact hkk))=p at *
       cases p with
       | ZL j=>
        obtain⟨gj,rfl,hgj⟩:=HKV.out;have HGJ:=yG hgj;clear hgj
        cases hh:(vR.ZL j).holds c with
        | true=>
         have HH:=yG hh;clear hh
         go_wp2_with (refine(zAH c j gj _ HGJ.out).mono ?_; rintro e w' ⟨rfl,rfl⟩; simp only[show(c==j)=true from HH.out])
         go_round
         case rel=>exact⟨k+1,by omega,by go_num,yG fun j hj=>by
          by_cases hjk:j=k
          ·subst hjk; rw[HWK.out]; exact HH.out
          ·exact HR.out j (by omega)⟩
         case measure=>simp[intOf]; omega
        | false=>
         have HH:=yG hh;have HNO:Hid (f.fits ls=false):=yG (JB k hlt (by rw[HWK.out]; exact hh));clear hh
         go_wp2_with (refine(zAH c j gj _ HGJ.out).mono ?_; rintro e w' ⟨rfl,rfl⟩; simp only[show(c==j)=false from HH.out])
         go_ret;exact⟨jM HNO.out.symm,HX.out⟩
       | expr=>
        have he:=HKV.out
        cases he
        cases hh:(vR.expr).holds c with
        | true=>
         have HH:=yG hh;clear hh
         go_wp2_with (refine(zBG c _).mono ?_; rintro e w' ⟨rfl,rfl⟩; simp only[show VD c=true from HH.out])
         go_round
         case rel=>exact⟨k+1,by omega,by go_num,yG fun j hj=>by
          by_cases hjk:j=k
          ·subst hjk; rw[HWK.out]; exact HH.out
          ·exact HR.out j (by omega)⟩
         case measure=>simp[intOf]; omega
        | false=>
         have HH:=yG hh;have HNO:Hid (f.fits ls=false):=yG (JB k hlt (by rw[HWK.out]; exact hh));clear hh
         go_wp2_with (refine(zBG c _).mono ?_; rintro e w' ⟨rfl,rfl⟩; simp only[show VD c=false from HH.out])
         go_ret;exact⟨jM HNO.out.symm,HX.out⟩
       | stmt=>
        have he:=HKV.out
        cases he
        cases hh:(vR.stmt).holds c with
        | true=>
         have HH:=yG hh;clear hh
         go_wp2_with (refine(zBJ c _).mono ?_; rintro e w' ⟨rfl,rfl⟩; simp only[show zAL c=true from HH.out])
         go_round
         case rel=>exact⟨k+1,by omega,by go_num,yG fun j hj=>by
          by_cases hjk:j=k
          ·subst hjk; rw[HWK.out]; exact HH.out
          ·exact HR.out j (by omega)⟩
         case measure=>simp[intOf]; omega
        | false=>
         have HH:=yG hh;have HNO:Hid (f.fits ls=false):=yG (JB k hlt (by rw[HWK.out]; exact hh));clear hh
         go_wp2_with (refine(zBJ c _).mono ?_; rintro e w' ⟨rfl,rfl⟩; simp only[show zAL c=false from HH.out])
         go_ret;exact⟨jM HNO.out.symm,HX.out⟩
       | part=>
        have he:=HKV.out
        cases he
        cases hh:(vR.part).holds c with
        | true=>
         have HH:=yG hh;clear hh
         go_wp2_with (refine(zBH c _).mono ?_; rintro e w' ⟨rfl,rfl⟩; simp only[show zBM c=true from HH.out])
         go_round
         case rel=>exact⟨k+1,by omega,by go_num,yG fun j hj=>by
          by_cases hjk:j=k
          ·subst hjk; rw[HWK.out]; exact HH.out
          ·exact HR.out j (by omega)⟩
         case measure=>simp[intOf]; omega
        | false=>
         have HH:=yG hh;have HNO:Hid (f.fits ls=false):=yG (JB k hlt (by rw[HWK.out]; exact hh));clear hh
         go_wp2_with (refine(zBH c _).mono ?_; rintro e w' ⟨rfl,rfl⟩; simp only[show zBM c=false from HH.out])
         go_ret;exact⟨jM HNO.out.symm,HX.out⟩
      ·have d3:decide ((k:Int)<(kn:Int))=false:=yR (by omega);obtain⟨p,hp⟩:=HB.out k (by omega) hlt;have HMP:Hid (zBk wa p (.func (.func fm) #[] lm)):=yG (by have h:=HMVA.out; rw[hp] at h; exact h);have HWK:Hid (vI (f.want k) (ls.getD k 0)=p.holds c):=yG (by rw[HW.out,if_neg hkk,hp,HG.out]; rfl);clear hp
       cases p with
       | ZL j=>
        obtain⟨gj,hfm,hgj⟩:=HMP.out;injection hfm with hfm _ hlm;injection hfm with hfm;subst hfm hlm;have HGJ:=yG hgj;clear hgj
        cases hh:(vR.ZL j).holds c with
        | true=>
         have HH:=yG hh;clear hh
         go_wp2_with (refine(zAH c j gj _ HGJ.out).mono ?_; rintro e w' ⟨rfl,rfl⟩; simp only[show(c==j)=true from HH.out])
         go_round
         case rel=>exact⟨k+1,by omega,by go_num,yG fun j hj=>by
          by_cases hjk:j=k
          ·subst hjk; rw[HWK.out]; exact HH.out
          ·exact HR.out j (by omega)⟩
         case measure=>simp[intOf]; omega
        | false=>
         have HH:=yG hh;have HNO:Hid (f.fits ls=false):=yG (JB k hlt (by rw[HWK.out]; exact hh));clear hh
         go_wp2_with (refine(zAH c j gj _ HGJ.out).mono ?_; rintro e w' ⟨rfl,rfl⟩; simp only[show(c==j)=false from HH.out])
         go_ret;exact⟨jM HNO.out.symm,HX.out⟩
       | expr=>
        have hfm:=HMP.out;injection hfm with hfm _ hlm;injection hfm with hfm;subst hfm hlm
        cases hh:(vR.expr).holds c with
        | true=>
         have HH:=yG hh;clear hh
         go_wp2_with (refine(zBG c _).mono ?_; rintro e w' ⟨rfl,rfl⟩; simp only[show VD c=true from HH.out])
         go_round
         case rel=>exact⟨k+1,by omega,by go_num,yG fun j hj=>by
          by_cases hjk:j=k
          ·subst hjk; rw[HWK.out]; exact HH.out
          ·exact HR.out j (by omega)⟩
         case measure=>simp[intOf]; omega
        | false=>
         have HH:=yG hh;have HNO:Hid (f.fits ls=false):=yG (JB k hlt (by rw[HWK.out]; exact hh));clear hh
         go_wp2_with (refine(zBG c _).mono ?_; rintro e w' ⟨rfl,rfl⟩; simp only[show VD c=false from HH.out])
         go_ret;exact⟨jM HNO.out.symm,HX.out⟩
       | stmt=>
        have hfm:=HMP.out;injection hfm with hfm _ hlm;injection hfm with hfm;subst hfm hlm
        cases hh:(vR.stmt).holds c with
        | true=>
         have HH:=yG hh;clear hh
         go_wp2_with (refine(zBJ c _).mono ?_; rintro e w' ⟨rfl,rfl⟩; simp only[show zAL c=true from HH.out])
         go_round
         case rel=>exact⟨k+1,by omega,by go_num,yG fun j hj=>by
          by_cases hjk:j=k
          ·subst hjk; rw[HWK.out]; exact HH.out
          ·exact HR.out j (by omega)⟩
         case measure=>simp[intOf]; omega
        | false=>
         have HH:=yG hh;have HNO:Hid (f.fits ls=false):=yG (JB k hlt (by rw[HWK.out]; exact hh));clear hh
         go_wp2_with (refine(zBJ c _).mono ?_; rintro e w' ⟨rfl,rfl⟩; simp only[show zAL c=false from HH.out])
         go_ret;exact⟨jM HNO.out.symm,HX.out⟩
       | part=>
        have hfm:=HMP.out;injection hfm with hfm _ hlm;injection hfm with hfm;subst hfm hlm
        cases hh:(vR.part).holds c with
        | true=>
         have HH:=yG hh;clear hh
         go_wp2_with (refine(zBH c _).mono ?_; rintro e w' ⟨rfl,rfl⟩; simp only[show zBM c=true from HH.out])
         go_round
         case rel=>exact⟨k+1,by omega,by go_num,yG fun j hj=>by
          by_cases hjk:j=k
          ·subst hjk; rw[HWK.out]; exact HH.out
          ·exact HR.out j (by omega)⟩
         case measure=>simp[intOf]; omega
        | false=>
         have HH:=yG hh;have HNO:Hid (f.fits ls=false):=yG (JB k hlt (by rw[HWK.out]; exact hh));clear hh
         go_wp2_with (refine(zBH c _).mono ?_; rintro e w' ⟨rfl,rfl⟩; simp only[show zBM c=false from HH.out])
         go_ret;exact⟨jM HNO.out.symm,HX.out⟩
     ·obtain rfl:k=ls.length:=by omega
      have d0:decide ((ls.length:Int)<(ls.length:Int))=false:=by simp
      go_wp2_with fail
      go_ret;exact⟨jM (HYES.out HR.out).symm,HX.out⟩
   ·have hkge:¬ls.length<kn:=by omega
    have hkge2:¬kn<ls.length:=by omega
    have d2:decide ((kn:Int)<(ls.length:Int))=false:=yR (by omega)
    go_enter Tryz.func101,Tryz.ntmps101
    go_wp2_with fail
    have hbx:=Blk.new w 181 #[.slice KA kn kc,.nilFunc,.bool f.named,.int .i64 f.most];have hxa:=Ext.alloc w (.cells #[.slice KA kn kc,.nilFunc,.bool f.named,.int .i64 f.most] 181);generalize w.alloc (.cells #[.slice KA kn kc,.nilFunc,.bool f.named,.int .i64 f.most] 181)=wa at *;generalize w.heap.size=ga at *;have x0:=hbx.cell 0;have x1:=hbx.cell 1;have HX:=yG hxa;have HMVA:Hid (zE7 wa f.more (.nilFunc)):=yG (HMV.out.kept (Kept.ZJ hxa));have HLA:=yG (HL.out.ext hxa);clear hbx hxa HL HMV
    go_loop [29] (fun i=>∃k:Nat,k≤ls.length∧i=.int .i64 k∧Hid (∀j,j<k→vI (f.want j) (ls.getD j 0)=true)) (fun i=>ls.length-(intOf i).toNat)
    case atStart=>exact⟨0,zW _,rfl,yG fun j hj=>by omega⟩
    case round=>
     obtain⟨k,hk,rfl,HR⟩:=hrel
     by_cases hlt:k<ls.length
     ·have d0:decide ((k:Int)<(ls.length:Int))=true:=yS (by omega);obtain⟨b,off,rfl,hb,hcl⟩:=zJp HLA.out k hlt;have HG:Hid (ls.getD k 0=ls[k]):=yG (by rw[yH,yJ hlt]; rfl);generalize ls[k]=c at *
      by_cases hkk:k<kn
      ·have d3:decide ((k:Int)<(kn:Int))=true:=yS (by omega);obtain⟨g,u,rfl,hu,hkv⟩:=HKID.out k (by rw[HKN.out]; exact hkk);have hu':wa.cell? ⟨g,k,none⟩=some u:=hu' hu HX.out;have HKV:=yG (hkv.ext HX.out);have HWK:Hid (vI (f.want k) (ls.getD k 0)=(f.kids[k]'(by rw[HKN.out]; exact hkk)).holds c):=yG (by rw[HW.out,if_pos hkk,yJ (by rw[HKN.out]; exact hkk),HG.out]; rfl);clear hu hkv;generalize (f.kids[k]'(by rw[HKN.out]; exact hkk))=p at *
       cases p with
       | ZL j=>
        obtain⟨gj,rfl,hgj⟩:=HKV.out;have HGJ:=yG hgj;clear hgj
        cases hh:(vR.ZL j).holds c with
        | true=>
         have HH:=yG hh;clear hh
         go_wp2_with (refine(zAH c j gj _ HGJ.out).mono ?_; rintro e w' ⟨rfl,rfl⟩; simp only[show(c==j)=true from HH.out])
         go_round
         case rel=>exact⟨k+1,by omega,by go_num,yG fun j hj=>by
          by_cases hjk:j=k
          ·subst hjk; rw[HWK.out]; exact HH.out
          ·exact HR.out j (by omega)⟩
         case measure=>simp[intOf]; omega
        | false=>
         have HH:=yG hh;have HNO:Hid (f.fits ls=false):=yG (JB k hlt (by rw[HWK.out]; exact hh));clear hh
         go_wp2_with (refine(zAH c j gj _ HGJ.out).mono ?_; rintro e w' ⟨rfl,rfl⟩; simp only[show(c==j)=false from HH.out])
         go_ret;exact⟨jM HNO.out.symm,HX.out⟩
       | expr=>
        have he:=HKV.out
        cases he
        cases hh:(vR.expr).holds c with
        | true=>
         have HH:=yG hh;clear hh
         go_wp2_with (refine(zBG c _).mono ?_; rintro e w' ⟨rfl,rfl⟩; simp only[show VD c=true from HH.out])
         go_round
         case rel=>exact⟨k+1,by omega,by go_num,yG fun j hj=>by
          by_cases hjk:j=k
          ·subst hjk; rw[HWK.out]; exact HH.out
          ·exact HR.out j (by omega)⟩
         case measure=>simp[intOf]; omega
        | false=>
         have HH:=yG hh;have HNO:Hid (f.fits ls=false):=yG (JB k hlt (by rw[HWK.out]; exact hh));clear hh
         go_wp2_with (refine(zBG c _).mono ?_; rintro e w' ⟨rfl,rfl⟩; simp only[show VD c=false from HH.out])
         go_ret;exact⟨jM HNO.out.symm,HX.out⟩
       | stmt=>
        have he:=HKV.out
        cases he
        cases hh:(vR.stmt).holds c with
        | true=>
         have HH:=yG hh;clear hh
         go_wp2_with (refine(zBJ c _).mono ?_; rintro e w' ⟨rfl,rfl⟩; simp only[show zAL c=true from HH.out])
         go_round
         case rel=>exact⟨k+1,by omega,by go_num,yG fun j hj=>by
          by_cases hjk:j=k
          ·subst hjk; rw[HWK.out]; exact HH.out
          ·exact HR.out j (by omega)⟩
         case measure=>simp[intOf]; omega
        | false=>
         have HH:=yG hh;have HNO:Hid (f.fits ls=false):=yG (JB k hlt (by rw[HWK.out]; exact hh));clear hh
         go_wp2_with (refine(zBJ c _).mono ?_; rintro e w' ⟨rfl,rfl⟩; simp only[show zAL c=false from HH.out])
         go_ret;exact⟨jM HNO.out.symm,HX.out⟩
       | part=>
        have he:=HKV.out
        cases he
        cases hh:(vR.part).holds c with
        | true=>
         have HH:=yG hh;clear hh
         go_wp2_with (refine(zBH c _).mono ?_; rintro e w' ⟨rfl,rfl⟩; simp only[show zBM c=true from HH.out])
         go_round
         case rel=>exact⟨k+1,by omega,by go_num,yG fun j hj=>by
          by_cases hjk:j=k
          ·subst hjk; rw[HWK.out]; exact HH.out
          ·exact HR.out j (by omega)⟩
         case measure=>simp[intOf]; omega
        | false=>
         have HH:=yG hh;have HNO:Hid (f.fits ls=false):=yG (JB k hlt (by rw[HWK.out]; exact hh));clear hh
         go_wp2_with (refine(zBH c _).mono ?_; rintro e w' ⟨rfl,rfl⟩; simp only[show zBM c=false from HH.out])
         go_ret;exact⟨jM HNO.out.symm,HX.out⟩
      ·omega
     ·obtain rfl:k=ls.length:=by omega
      have d0:decide ((ls.length:Int)<(ls.length:Int))=false:=by simp
      go_wp2_with fail
      go_ret;exact⟨jM (HYES.out HR.out).symm,HX.out⟩
   ·have hkge:¬ls.length<kn:=by omega
    have hkge2:¬kn<ls.length:=by omega
    have d2:decide ((kn:Int)<(ls.length:Int))=false:=yR (by omega)
    go_enter Tryz.func101,Tryz.ntmps101
    go_wp2_with fail
    have hbx:=Blk.new w 181 #[.slice KA kn kc,.func (.func fm) #[] lm,.bool f.named,.int .i64 f.most];have hxa:=Ext.alloc w (.cells #[.slice KA kn kc,.func (.func fm) #[] lm,.bool f.named,.int .i64 f.most] 181);generalize w.alloc (.cells #[.slice KA kn kc,.func (.func fm) #[] lm,.bool f.named,.int .i64 f.most] 181)=wa at *;generalize w.heap.size=ga at *;have x0:=hbx.cell 0;have x1:=hbx.cell 1;have HX:=yG hxa;have HMVA:Hid (zE7 wa f.more (.func (.func fm) #[] lm)):=yG (HMV.out.kept (Kept.ZJ hxa));have HLA:=yG (HL.out.ext hxa);clear hbx hxa HL HMV
    go_loop [29] (fun i=>∃k:Nat,k≤ls.length∧i=.int .i64 k∧Hid (∀j,j<k→vI (f.want j) (ls.getD j 0)=true)) (fun i=>ls.length-(intOf i).toNat)
    case atStart=>exact⟨0,zW _,rfl,yG fun j hj=>by omega⟩
    case round=>
     obtain⟨k,hk,rfl,HR⟩:=hrel
     by_cases hlt:k<ls.length
     ·have d0:decide ((k:Int)<(ls.length:Int))=true:=yS (by omega);obtain⟨b,off,rfl,hb,hcl⟩:=zJp HLA.out k hlt;have HG:Hid (ls.getD k 0=ls[k]):=yG (by rw[yH,yJ hlt]; rfl);generalize ls[k]=c at *
      by_cases hkk:k<kn
      ·have d3:decide ((k:Int)<(kn:Int))=true:=yS (by omega);obtain⟨g,u,rfl,hu,hkv⟩:=HKID.out k (by rw[HKN.out]; exact hkk);have hu':wa.cell? ⟨g,k,none⟩=some u:=hu' hu HX.out;have HKV:=yG (hkv.ext HX.out);have HWK:Hid (vI (f.want k) (ls.getD k 0)=(f.kids[k]'(by rw[HKN.out]; exact hkk)).holds c):=yG (by rw[HW.out,if_pos hkk,yJ (by rw[HKN.out]; exact hkk),HG.out]; rfl);clear hu hkv;generalize (f.kids[k]'(by rw[HKN.out]; exact hkk))=p at *
       cases p with
       | ZL j=>
        obtain⟨gj,rfl,hgj⟩:=HKV.out;have HGJ:=yG hgj;clear hgj
        cases hh:(vR.ZL j).holds c with
        | true=>
         have HH:=yG hh;clear hh
         go_wp2_with (refine(zAH c j gj _ HGJ.out).mono ?_; rintro e w' ⟨rfl,rfl⟩; simp only[show(c==j)=true from HH.out])
         go_round
         case rel=>exact⟨k+1,by omega,by go_num,yG fun j hj=>by
          by_cases hjk:j=k
          ·subst hjk; rw[HWK.out]; exact HH.out
          ·exact HR.out j (by omega)⟩
         case measure=>simp[intOf]; omega
        | false=>
         have HH:=yG hh;have HNO:Hid (f.fits ls=false):=yG (JB k hlt (by rw[HWK.out]; exact hh));clear hh
         go_wp2_with (refine(zAH c j gj _ HGJ.out).mono ?_; rintro e w' ⟨rfl,rfl⟩; simp only[show(c==j)=false from HH.out])
         go_ret;exact⟨jM HNO.out.symm,HX.out⟩
       | expr=>
        have he:=HKV.out
        cases he
        cases hh:(vR.expr).holds c with
        | true=>
         have HH:=yG hh;clear hh
         go_wp2_with (refine(zBG c _).mono ?_; rintro e w' ⟨rfl,rfl⟩; simp only[show VD c=true from HH.out])
         go_round
         case rel=>exact⟨k+1,by omega,by go_num,yG fun j hj=>by
          by_cases hjk:j=k
          ·subst hjk; rw[HWK.out]; exact HH.out
          ·exact HR.out j (by omega)⟩
         case measure=>simp[intOf]; omega
        | false=>
         have HH:=yG hh;have HNO:Hid (f.fits ls=false):=yG (JB k hlt (by rw[HWK.out]; exact hh));clear hh
         go_wp2_with (refine(zBG c _).mono ?_; rintro e w' ⟨rfl,rfl⟩; simp only[show VD c=false from HH.out])
         go_ret;exact⟨jM HNO.out.symm,HX.out⟩
       | stmt=>
        have he:=HKV.out
        cases he
        cases hh:(vR.stmt).holds c with
        | true=>
         have HH:=yG hh;clear hh
         go_wp2_with (refine(zBJ c _).mono ?_; rintro e w' ⟨rfl,rfl⟩; simp only[show zAL c=true from HH.out])
         go_round
         case rel=>exact⟨k+1,by omega,by go_num,yG fun j hj=>by
          by_cases hjk:j=k
          ·subst hjk; rw[HWK.out]; exact HH.out
          ·exact HR.out j (by omega)⟩
         case measure=>simp[intOf]; omega
        | false=>
         have HH:=yG hh;have HNO:Hid (f.fits ls=false):=yG (JB k hlt (by rw[HWK.out]; exact hh));clear hh
         go_wp2_with (refine(zBJ c _).mono ?_; rintro e w' ⟨rfl,rfl⟩; simp only[show zAL c=false from HH.out])
         go_ret;exact⟨jM HNO.out.symm,HX.out⟩
       | part=>
        have he:=HKV.out
        cases he
        cases hh:(vR.part).holds c with
        | true=>
         have HH:=yG hh;clear hh
         go_wp2_with (refine(zBH c _).mono ?_; rintro e w' ⟨rfl,rfl⟩; simp only[show zBM c=true from HH.out])
         go_round
         case rel=>exact⟨k+1,by omega,by go_num,yG fun j hj=>by
          by_cases hjk:j=k
          ·subst hjk; rw[HWK.out]; exact HH.out
          ·exact HR.out j (by omega)⟩
         case measure=>simp[intOf]; omega
        | false=>
         have HH:=yG hh;have HNO:Hid (f.fits ls=false):=yG (JB k hlt (by rw[HWK.out]; exact hh));clear hh
         go_wp2_with (refine(zBH c _).mono ?_; rintro e w' ⟨rfl,rfl⟩; simp only[show zBM c=false from HH.out])
         go_ret;exact⟨jM HNO.out.symm,HX.out⟩
      ·omega
     ·obtain rfl:k=ls.length:=by omega
      have d0:decide ((ls.length:Int)<(ls.length:Int))=false:=by simp
      go_wp2_with fail
      go_ret;exact⟨jM (HYES.out HR.out).symm,HX.out⟩
def zLR (s:ByteArray)(c:Int):Int:=Lib.indexByte s.data.toList c.toNat.toUInt8
theorem zS5 (s:ByteArray)(c:Int)(w:World):(callFunc 144 #[.string s,.int .u8 c]).run Tryz.prog w=.ok (.value (.int .i64 (zLR s c))) w:=by
 rw[run_callFunc_extern Tryz.func144 (by kernel_rfl) (by kernel_rfl) (by kernel_rfl) (e:=Extern.BytealgIndexByte.indexByte) (by kernel_rfl),Lib.run_indexByteString]
 rfl
theorem zJh (s:ByteArray)(c:Int)(w:World):Calls Tryz.prog 114 #[.string s,.int .u8 c] w fun e w'=>e=.returned (.int .i64 (zLR s c))∧w'=w:=by
 have he:=zS5
 go_enter Tryz.func114,Tryz.ntmps114
 go_wp2
 go_ret;exact⟨rfl,rfl⟩
theorem zJI (s:ByteArray)(c:Int)(w:World):Calls Tryz.prog 81 #[.string s,.int .u8 c] w fun e w'=>e=.returned (.int .i64 (zLR s c))∧w'=w:=by
 go_enter Tryz.func81,Tryz.ntmps81
 go_wp2_with (refine(zJh _ _ _).mono ?_; rintro e w' ⟨rfl,rfl⟩)
 go_ret;exact⟨rfl,rfl⟩
theorem zD5 (s:ByteArray)(c v:Int)(h:Hid (zLR s c=v))(w:World):Calls Tryz.prog 81 #[.string s,.int .u8 c] w fun e w'=>e=.returned (.int .i64 v)∧w'=w:=by
 rw[←h.out];exact zJI s c w
def zDu (l:List UInt8):List Value:=l.map fun b=>Value.int .u8 (b.toNat:Int)
theorem zCs (l:List UInt8):(zDu l).length=l.length:=by simp[zDu]
theorem zGh (l:List UInt8)(k:Nat)(h:k<l.length):(zDu l)[k]?=some (.int .u8 (l[k].toNat:Int)):=by simp[zDu,h]
def scan (p:UInt8→Bool)(l:List UInt8):Nat:=(l.takeWhile p).length
theorem zRH {p:UInt8→Bool}{l:List UInt8}{k:Nat}(hk:k<l.length)(h:p l[k]=true):scan p (l.drop k)=scan p (l.drop (k+1))+1:=by
 unfold scan;rw[List.drop_eq_getElem_cons hk,List.takeWhile_cons,if_pos h]
 rfl
theorem zTA {p:UInt8→Bool}{l:List UInt8}{k:Nat}(hk:k<l.length)(h:p l[k]=false):scan p (l.drop k)=0:=by
 unfold scan;rw[List.drop_eq_getElem_cons hk,List.takeWhile_cons,if_neg (by rw[h]; exact Bool.false_ne_true)]
 rfl
theorem zNh (p:UInt8→Bool)(l:List UInt8):scan p (l.drop l.length)=0:=by simp[scan]
theorem zTR {w:World}{g b off n c at_:Nat}{A:Option Addr}{l:List UInt8}(hg:Blk w g 112 #[.slice A n c,.int .i64 at_])(k:Nat)(hk:k<l.length)(hs:Cells w (some ⟨b,off,none⟩) (zDu l)):b≠g:=by
 rintro rfl;obtain⟨b',off',hA,_,hc⟩:=hs.at_ (by rw[zCs]; omega);injection hA with hA;injection hA with h1 h2;subst h1 h2;have h0:=(hc k (by rw[zCs]; exact hk)).trans (zGh l k hk);rw[hg.cell] at h0
 match h:off+k with
 | 0=>rw[h] at h0; simp at h0
 | 1=>rw[h] at h0; simp at h0
 | n+2=>rw[h] at h0; simp at h0
theorem YM {g:Nat}{a b c:World}(h:Touch g a b)(k:Touch g b c):Touch g a c:=
 ⟨k.os.trans h.os,k.tape.trans h.tape,k.output.trans h.output,k.size.trans h.size,fun i hi=>(k.other i hi).trans (h.other i hi)⟩
theorem zIG (g:Nat)(a:World):Touch g a a:=⟨rfl,rfl,rfl,rfl,fun _ _=>rfl⟩
theorem JO (g:Nat)(a:World)(n:Nat):Touch g a (a.drewN n):=by
 induction n with
 | zero=>exact zIG g a
 | succ n ih=>exact YM ih ⟨rfl,rfl,rfl,rfl,fun _ _=>rfl⟩
theorem zPL {g i:Nat}(a:World)(u:Value):Touch g a (a.setCell ⟨g,i,none⟩ u):=⟨rfl,rfl,rfl,by simp[World.setCell],fun k hk=>zS a _ u k hk⟩
theorem zCt {w:World}{g:Nat}{t:TypeId}{cs:Array Value}(h:Blk w g t cs)(n:Nat):Blk (w.drewN n) g t cs:=by
 induction n with
 | zero=>exact h
 | succ n ih=>exact ih
def zAl (set:ByteArray)(p:UInt8→Bool):Prop:=∀c:UInt8,((0≤zLR set (c.toNat:Int))↔p c=true)
theorem zI9 {w w':World}{g b off n c at_:Nat}{A:Option Addr}{l:List UInt8}(hg:Blk w g 112 #[.slice A n c,.int .i64 at_])(hs:Cells w (some ⟨b,off,none⟩) (zDu l))(ht:Touch g w w')(k:Nat)(hk:k<l.length) :
  w'.cell? ⟨b,off+k,none⟩=some (.int .u8 (l[k].toNat:Int)):=by
 have hbg:b≠g:=zTR hg k hk hs;obtain⟨b',off',hA,_,hcc⟩:=(ht.cells hs (by rintro _ _ ⟨⟩; exact hbg)).at_ (by rw[zCs]; omega);injection hA with hA;injection hA with h1 h2;subst h1 h2;exact(hcc k (by rw[zCs]; exact hk)).trans (zGh l k hk)
theorem zMe {w w':World}{g b off n c at_:Nat}{A:Option Addr}{l:List UInt8}(hg:Blk w g 112 #[.slice A n c,.int .i64 at_])(hs:Cells w (some ⟨b,off,none⟩) (zDu l))(ht:Touch g w w')(i k cap:Nat)(hik:i≤k)(hk:k≤l.length) :
  (convert 22 9 (.slice (some ⟨b,off+i,none⟩) (k-i) cap)).run Tryz.prog w'=.ok (.string ⟨((l.drop i).take (k-i)).toArray⟩) w':=by
 have h:=run_convert_bytes_back (P:=Tryz.prog) w' 22 9 5 ⟨b,off+i,none⟩ cap ((l.drop i).take (k-i)) Tryz.underlying22 Tryz.underlying5 Tryz.underlying9 (fun j hj=>by
  have hj':j<k-i:=by simp at hj; omega
  have:=zI9 hg hs ht (i+j) (by omega)
  unfold Addr.add
  by_cases h0:j=0
  ·subst h0; simpa using this
  ·simp only[h0,if_false]; rw[Nat.add_assoc,this]; simp)
 have hl:((l.drop i).take (k-i)).length=k-i:=by simp; omega
 rw[hl] at h;exact h
theorem zEP (set:ByteArray)(p:UInt8→Bool)(hp:zAl set p)(g b off n c at_:Nat)(l:List UInt8)(w:World)(hn:n=l.length)(hc:n≤c)(hlen:l.length≤4611686018427387904)(hat:at_≤l.length)
  (hg:Blk w g 112 #[.slice (some ⟨b,off,none⟩) n c,.int .i64 at_]) (hs:Cells w (some ⟨b,off,none⟩) (zDu l)) :
  Calls Tryz.prog 78 #[.pointer (some ⟨g,0,none⟩),.string set] w fun e w'=>e=.returned (.string ⟨((l.drop at_).take (scan p (l.drop at_))).toArray⟩)∧Touch g w w'∧Blk w' g 112 #[.slice (some ⟨b,off,none⟩) n c,.int .i64 ((at_+scan p (l.drop at_):Nat):Int)]:=by
 subst hn;have HP:=yG hp;have HS:=yG hs;have HG:=yG hg;have x0:=hg.cell 0;have x1:=hg.cell 1;clear hp hs hg
 go_enter Tryz.func78,Tryz.ntmps78
 go_wp2_with fail
 clear x0 x1
 go_loopg [] (l.length-at_) (fun m wr=>∃k:Nat,at_≤k∧k≤l.length∧m=l.length-k∧Hid (k+scan p (l.drop k)=at_+scan p (l.drop at_))∧Hid (Touch g w wr)∧Hid (Blk wr g 112 #[.slice (some ⟨b,off,none⟩) l.length c,.int .i64 k]))
 case atStart=>exact⟨at_,zX _,hat,rfl,yG rfl,yG (zIG _ _),HG⟩
 case round=>
  obtain⟨k,hk0,hk,hm,HK,HT,HB⟩:=hrel;have HM:=yG hm;clear hm;have x0:=HB.out.cell 0;have x1:=HB.out.cell 1;have y0:=HB.out.frozen 1
  by_cases hlt:k<l.length
  ·have d0:decide ((k:Int)<(l.length:Int))=true:=yS (by omega);have hcell:wr.cell? ⟨b,off+k,none⟩=some (.int .u8 (l[k].toNat:Int)):=zI9 HG.out HS.out HT.out k hlt;obtain⟨v,HV⟩:∃v,Hid (zLR set (l[k].toNat:Int)=v):=⟨_,yG rfl⟩
   have q0:(k:Int)<(l.length:Int):=by omega
   by_cases hpk:p l[k]=true
   ·have hv0:0≤v:=by rw[←HV.out]; exact(HP.out _).2 hpk
    have d1:decide (0≤v)=true:=yS hv0;have HK1:Hid (k+1+scan p (l.drop (k+1))=at_+scan p (l.drop at_)):=yG (by rw[←HK.out,zRH hlt hpk]; omega);have HQ:=yG hpk;clear hpk
    go_wp2_with fail
    go_quiet ((go_at_call 81; exact Calls.quiet_of_same (zD5 set _ v HV _)))
    rename_i nq;have HT1:Hid (Touch g w (wr.drewN nq)):=yG (YM HT.out (JO g wr nq));have HB1:=yG (zCt HB.out nq);clear HT HB x0 x1 y0 hcell;generalize wr.drewN nq=wd at *;have x0:=HB1.out.cell 0;have x1:=HB1.out.cell 1;have y0:=HB1.out.frozen 1
    go_wp2_with fail
    go_roundg (l.length-(k+1))
    case measure=>have:=HM.out; omega
    case rel=>
     exact⟨k+1,by omega,by omega,rfl,HK1,yG (YM HT1.out (zPL _ _)),yG (HB1.out.put 1 _)⟩
   ·have hv0:v<0:=by
     have:=(HP.out l[k])
     rw[HV.out] at this
     by_cases h:0≤v
     ·exact absurd (this.1 h) hpk
     ·omega
    have d1:decide (0≤v)=false:=yR (by omega);have HE:Hid (k=at_+scan p (l.drop at_)):=yG (by rw[←HK.out]; rw[zTA hlt (by simpa using hpk)]; rfl);have HR:Hid (((l.drop at_).take (k-at_)).toArray=((l.drop at_).take (scan p (l.drop at_))).toArray):=yG (by rw[show k-at_=scan p (l.drop at_) from by have:=HE.out; omega])
    have hw:IntKind.i64.wrap ((k:Int)-(at_:Int))=(k:Int)-(at_:Int):=by rw[IntKind.wrap_i64]; omega
    clear hpk hv0
    go_wp2_with fail
    go_quiet ((go_at_call 81; exact Calls.quiet_of_same (zD5 set _ v HV _)))
    rename_i nq;have HT1:Hid (Touch g w (wr.drewN nq)):=yG (YM HT.out (JO g wr nq));have HB1:=yG (zCt HB.out nq);clear HT HB x0 x1 y0;generalize wr.drewN nq=wd at *;have x0:=HB1.out.cell 0;have x1:=HB1.out.cell 1;have hconv:∀q,(convert 22 9 (.slice (some ⟨b,off+at_,none⟩) (k-at_) (c-at_))).run Tryz.prog (wd.drewN q)=.ok (.string ⟨((l.drop at_).take (k-at_)).toArray⟩) (wd.drewN q):=fun q=>zMe HG.out HS.out (YM HT1.out (JO g wd q)) at_ k (c-at_) hk0 hk
    go_wp2_with fail
    go_quiet (fail)
    go_wp2_with fail
    go_ret;have HEo:=HE.out;refine⟨by rw[←HR.out]; rfl,YM HT1.out (JO g wd _),?_⟩;rw[←HEo];exact zCt HB1.out _
  ·obtain rfl:k=l.length:=by omega
   have d0:decide ((l.length:Int)<(l.length:Int))=false:=by simp
   by_cases hac:at_<c
   ·have HE:Hid (l.length=at_+scan p (l.drop at_)):=yG (by rw[←HK.out,zNh]; rfl);have HR:Hid (((l.drop at_).take (l.length-at_)).toArray=((l.drop at_).take (scan p (l.drop at_))).toArray):=yG (by rw[show l.length-at_=scan p (l.drop at_) from by have:=HE.out; omega])
    have hw:IntKind.i64.wrap ((l.length:Int)-(at_:Int))=(l.length:Int)-(at_:Int):=by rw[IntKind.wrap_i64]; omega
    go_wp2_with fail
    go_quiet (fail)
    rename_i nq;have HT1:Hid (Touch g w (wr.drewN nq)):=yG (YM HT.out (JO g wr nq));have HB1:=yG (zCt HB.out nq);clear HT HB x0 x1 y0;generalize wr.drewN nq=wd at *;have x0:=HB1.out.cell 0;have x1:=HB1.out.cell 1;have hconv:∀q,(convert 22 9 (.slice (some ⟨b,off+at_,none⟩) (l.length-at_) (c-at_))).run Tryz.prog (wd.drewN q)=.ok (.string ⟨((l.drop at_).take (l.length-at_)).toArray⟩) (wd.drewN q):=fun q=>zMe HG.out HS.out (YM HT1.out (JO g wd q)) at_ l.length (c-at_) hk0 hk
    go_wp2_with fail
    go_quiet (fail)
    go_wp2_with fail
    go_ret;have HEo:=HE.out;refine⟨by rw[←HR.out]; rfl,YM HT1.out (JO g wd _),?_⟩;rw[←HEo];exact zCt HB1.out _
   ·obtain rfl:at_=l.length:=by omega
    obtain rfl:c=l.length:=by omega
    have HZ:Hid (scan p (l.drop l.length)=0):=yG (zNh p l)
    have hw:IntKind.i64.wrap ((l.length:Int)-(l.length:Int))=(l.length:Int)-(l.length:Int):=by rw[IntKind.wrap_i64]; omega
    have hconv:∀W,(convert 22 9 (.slice (some ⟨b,off,none⟩) 0 0)).run Tryz.prog W=.ok (.string ⟨#[]⟩) W:=fun W=>run_convert_bytes_back (P:=Tryz.prog) W 22 9 5 ⟨b,off,none⟩ 0 [] Tryz.underlying22 Tryz.underlying5 Tryz.underlying9 (fun j hj=>by simp at hj)
    go_wp2_with fail
    go_quiet (fail)
    rename_i nq;have HT1:Hid (Touch g w (wr.drewN nq)):=yG (YM HT.out (JO g wr nq));have HB1:=yG (zCt HB.out nq);clear HT HB x0 x1 y0;generalize wr.drewN nq=wd at *;have x0:=HB1.out.cell 0;have x1:=HB1.out.cell 1
    go_wp2_with fail
    go_quiet (fail)
    go_wp2_with fail
    go_ret;refine⟨by rw[HZ.out]; rfl,YM HT1.out (JO g wd _),?_⟩;rw[HZ.out];exact zCt HB1.out _
def zSg:ByteArray:=⟨#[97,98,99,100,101,102,103,104,105,106,107,108,109,110,111,112,113,114,115,116,117,118,119,120,121,122]⟩
def zUp:ByteArray:=⟨#[97,98,99,100,101,102,103,104,105,106,107,108,109,110,111,112,113,114,115,116,117,118,119,120,121,122,48,49,50,51,52,53,54,55,56,57,95]⟩
theorem zNc (set:ByteArray)(p:UInt8→Bool)(h:((List.range 256).all fun n=>decide (0≤zLR set (n:Int))==p (UInt8.ofNat n))=true):zAl set p:=by
 intro c;have h1:=List.all_eq_true.1 h c.toNat (List.mem_range.2 c.toNat_lt);rw[UInt8.ofNat_toNat] at h1;rw[zO] at h1;rw[←h1]
 simp
def zU2 (c:UInt8):Bool:=JA (c.toNat:Int)
def zG7 (c:UInt8):Bool:=zDT (c.toNat:Int)
theorem zKw:zAl zSg zU2:=zNc _ _ (by decide +kernel)
theorem zOD:zAl zUp zG7:=zNc _ _ (by decide +kernel)
theorem zSo (s:ByteArray)(w:World):∃c w',(convert 9 22 (.string s)).run Tryz.prog w=.ok (.slice (some ⟨w.heap.size,0,none⟩) s.size c) w'∧Ext w w'∧Cells w' (some ⟨w.heap.size,0,none⟩) (zDu s.data.toList)∧s.size≤c∧w'.heap.size=w.heap.size+1:=by
 refine⟨_,_,run_bytes_of_string w 9 22 5 s Tryz.underlying9 Tryz.underlying22 Tryz.underlying5,Ext.trans (Below.drew (Below.refl _ _)) (Ext.alloc _ _),?_,grownCap_ge w s.size 0 5,by simp⟩
 by_cases h0:s.data.toList=[]
 ·left; rw[h0]; rfl
 ·right
  refine⟨_,0,rfl,by simp,fun k hk=>?_⟩;rw[zCs] at hk
  have hk':k<s.data.size:=by simpa using hk
  rw[Nat.zero_add];refine(cell_of_row (w.drew.alloc (.cells (bytesRow s (grownCap w s.size 0 5)) 5 ((bytesRow s (grownCap w s.size 0 5)).size,(bytesRow s (grownCap w s.size 0 5)).size+1))) w.drew.heap.size k _ _ _ (zQ w.drew _)).trans ?_;rw[bytesRow_at s _ k hk',zGh _ k hk]
  simp
theorem zHa (s:ByteArray)(c v:Int)(h:Hid (zLR s c=v))(w:World):Calls Tryz.prog 81 #[.string s,.int .u8 c] w fun e w'=>e=.returned (.int .i64 v)∧w=w':=
 (zD5 s c v h w).mono fun e w' h=>⟨h.1,h.2.symm⟩
theorem zR8 (p:UInt8→Bool)(l:List UInt8)(h:l.all p=true):scan p l=l.length:=by
 induction l with
 | nil=>rfl
 | cons a l ih=>
  unfold scan at *;rw[List.all_cons,zG] at h;rw[List.takeWhile_cons,if_pos h.1,zK,zK,ih h.2]
theorem zSx (p:UInt8→Bool)(l:List UInt8)(h:l.all p=false):scan p l<l.length:=by
 induction l with
 | nil=>cases h
 | cons a l ih=>
  unfold scan at *;rw[List.takeWhile_cons];rw[List.all_cons] at h
  cases hp:p a with
  | true=>rw[hp,Bool.true_and] at h; rw[if_pos rfl,zK,zK]; have:=ih h; omega
  | false=>rw[if_neg (by decide)]; simp
theorem zOk (s:ByteArray)(w:World)(hs:s.size≤9000):Calls Tryz.prog 102 #[.string s] w fun e w'=>e=.returned (.bool (VQ s.data.toList))∧Ext w w':=by
 have hlit:zSg=⟨#[97,98,99,100,101,102,103,104,105,106,107,108,109,110,111,112,113,114,115,116,117,118,119,120,121,122]⟩:=rfl
 by_cases h0:s.data.toList=[]
 ·have HR:Hid (VQ s.data.toList=false):=yG (by rw[h0]; rfl)
  have e1:s.toList=[]:=by rw[ByteArray.toList_eq]; exact h0
  go_enter Tryz.func102,Tryz.ntmps102
  go_wp2_with fail
  go_ret;exact⟨jM HR.out.symm,Ext.refl _⟩
 ·have hp:0<s.size:=by
   rw[Lib.size_eq];exact List.length_pos_iff.2 h0
  have e1:¬s.toList=[]:=by rw[ByteArray.toList_eq]; exact h0
  have e2:s.toList.isEmpty=false:=by simpa using e1
  have H0:=yG h0;clear h0;clear hlit
  have hz:s.data.toList=s[0]::s.data.toList.tail:=by
   have h1:s.data.toList.head?=some s[0]:=by
    rw[List.head?_eq_getElem?];simp[ByteArray.getElem_eq_getElem_data]
   cases hl:s.data.toList with
   | nil=>exact absurd hl H0.out
   | cons a r=>rw[hl] at h1; simp at h1; rw[h1]; rfl
  have HIS:Hid (VQ s.data.toList=(JA (s[0].toNat:Int)&&s.data.toList.tail.all zG7)):=yG (by rw[hz]; rfl);obtain⟨v,HV⟩:∃v,Hid (zLR zSg (s[0].toNat:Int)=v):=⟨_,yG rfl⟩
  cases hl:JA (s[0].toNat:Int) with
  | false=>
   have hv0:v<0:=by
    have:=zKw s[0]
    rw[HV.out] at this;unfold zU2 at this;rw[hl] at this
    by_cases h:0≤v
    ·exact absurd (this.1 h) (by decide)
    ·omega
   have d1:decide (v<0)=true:=yS hv0;have HR:Hid (VQ s.data.toList=false):=yG (by rw[HIS.out,hl]; rfl);clear hl hz
   go_enter Tryz.func102,Tryz.ntmps102
   go_wp2_with (refine(zHa zSg _ v HV w).mono ?_; rintro e w' ⟨rfl,rfl⟩)
   go_ret;exact⟨jM HR.out.symm,Ext.refl _⟩
  | true=>
   have hv0:0≤v:=by rw[←HV.out]; exact(zKw s[0]).2 hl
   have d1:decide (v<0)=false:=yR (by omega);obtain⟨c,w1,hconv,hx1,hcs,hcc,hsz⟩:=zSo s w;have HX1:=yG hx1;have HCS:=yG hcs;have HSZ:=yG hsz;have HL:=yG hl;have HZ:=yG hz;have hbx:=Blk.new w1 112 #[.slice (some ⟨w.heap.size,0,none⟩) s.size c,.int .i64 0];have hxb:=Ext.alloc w1 (.cells #[.slice (some ⟨w.heap.size,0,none⟩) s.size c,.int .i64 0] 112);have HBX:=yG hbx;have HXB:=yG hxb;clear hx1 hcs hsz hl hbx hxb hz
   go_enter Tryz.func102,Tryz.ntmps102
   go_wp2_with (refine(zHa zSg _ v HV w).mono ?_; rintro e w' ⟨rfl,rfl⟩)
   refine(zEP zUp zG7 zOD w1.heap.size w.heap.size 0 s.size c 0 s.data.toList _ (by rw[Lib.size_eq]) hcc (by rw[←Lib.size_eq]; omega) (zW _) HBX.out (HCS.out.ext HXB.out)).mono ?_;rintro e w2 ⟨rfl,ht,-⟩;have HX2:Hid (Ext w w2):=yG (ht.ext (HX1.out.trans HXB.out) (by have:=HSZ.out; omega));clear ht;obtain⟨xs,HXS⟩:∃xs:ByteArray,Hid ((⟨((s.data.toList.drop 0).take (scan zG7 (s.data.toList.drop 0))).toArray⟩:ByteArray)=xs):=⟨_,yG rfl⟩;rw[HXS.out]
   cases hal:s.data.toList.tail.all zG7 with
   | true=>
    have HR:Hid (VQ s.data.toList=true):=yG (by rw[HIS.out,HL.out,hal]; rfl)
    have hxs:xs=s:=by
     rw[←HXS.out,List.drop_zero,zR8 zG7 _ (by rw[HZ.out,List.all_cons,hal,Bool.and_true]; unfold zG7 zDT; rw[HL.out]; rfl),List.take_length]
    subst hxs
    go_wp2_with fail
    go_ret;exact⟨jM HR.out.symm,HX2.out⟩
   | false=>
    have HR:Hid (VQ s.data.toList=false):=yG (by rw[HIS.out,HL.out,hal]; rfl)
    have hne:(xs.toList==s.toList)=false:=by
     rw[yI];intro h;have h2:=congrArg List.length h;rw[←HXS.out,ByteArray.toList_eq,ByteArray.toList_eq] at h2;have h3:=zSx zG7 s.data.toList (by rw[HZ.out,List.all_cons,hal,Bool.and_false])
     simp at h2 h3
     omega
    go_wp2_with fail
    go_ret;exact⟨jM HR.out.symm,HX2.out⟩
end Go.Proofs.YtbadjmmjbpeocaaGreatDoor.TT
