/- (form).fits, walked. (and what follows of it). The conditions stand at each lemma. -/
import Derived.Test.YtioffpjajhalaaaGreatDoorLaa
import Derived.Test.YtioffpjajhalaaaGreatDoorLah
import Derived.Laws.EntriesVeiled
import Derived.WalkLawsBesides
import Derived.Lib.Bytealg
import Derived.Deep.LoopGhost
import Derived.RegionTactic
import Derived.Laws.Externs
import Derived.Laws.IdiomStrings
set_option linter.unusedVariables false
set_option linter.unusedSimpArgs false
set_option maxRecDepth 100000
set_option maxHeartbeats 16000000
namespace Go.Proofs.YtioffpjajhalaaaGreatDoor.TT
open Go Go.RowKit
theorem zFp (w:World):(binOp .eql 145 .nilFunc .nilFunc).run Tryz.prog w=.ok (.bool true) w:=by kernel_rfl
theorem zJA (w:World)(f:Fn)(b lb:Array Value):(binOp .eql 145 (.func f b lb) .nilFunc).run Tryz.prog w=.ok (.bool false) w:=by kernel_rfl
def xL (l:List Int):List Value:=l.map (Value.int .u8)
theorem jJ (l:List Int):(xL l).length=l.length:=by simp[xL]
theorem JU (l:List Int)(k:Nat)(h:k<l.length):(xL l)[k]?=some (.int .u8 l[k]):=by simp[xL,h]
theorem zAW {w:World}{A:Option Addr}{l:List Int}(h:Cells w A (xL l))(k:Nat)(hk:k<l.length):∃b AA,A=some ⟨b,AA,none⟩∧b<w.heap.size∧w.cell? ⟨b,AA+k,none⟩=some (.int .u8 l[k]):=by
 obtain⟨b,AA,hA,hb,AB⟩:=h.at_ (by rw[jJ]; omega);exact⟨b,AA,hA,hb,(AB k (by rw[jJ]; exact hk)).trans (JU l k hk)⟩
theorem zBH.open_ {w:World}{ps:List jG}{v:Value}(h:zBH w ps v):∃A c,v=.slice A ps.length c∧∀i (hi:i<ps.length),∃g u,A=some ⟨g,0,none⟩∧w.cell? ⟨g,i,none⟩=some u∧zAC w ps[i] u:=by
 rcases h with ⟨h1,h2⟩ | ⟨g,vs,h1,h2,h3⟩
 ·subst h1; exact⟨none,0,h2,fun i hi=>by simp at hi⟩
 ·refine⟨_,_,h1,fun i hi=>?_⟩;obtain⟨u,hu,hk⟩:=h3.get i hi;exact⟨g,u,rfl,by rw[h2.cell]; simpa using hu,hk⟩
theorem hu' {w wa:World}{g i:Nat}{u:Value}(h:w.cell? ⟨g,i,none⟩=some u)(hx:Ext w wa):wa.cell? ⟨g,i,none⟩=some u:=(hx.cell (World.block_lt_of_cell? w _ h)).trans h
theorem zQt {f:jK}{ls:List Int}(h1:¬ls.length<f.kids.length)(h2:¬(f.kids.length<ls.length∧f.more.isNone=true))(h:∀j,j<ls.length→jR (f.want j) (ls.getD j 0)=true):f.fits ls=true:=by
 unfold jK.fits;rw[if_neg (fun hh=>hh.elim h1 h2),zG];intro j hj;exact h j (by simpa using hj)
theorem XF {f:jK}{ls:List Int}(j:Nat)(hj:j<ls.length)(h:jR (f.want j) (ls.getD j 0)=false):f.fits ls=false:=by
 unfold jK.fits
 split
 ·rfl
 ·rw[Bool.eq_false_iff];intro hh;rw[zG] at hh
  have:=hh j (by simpa using hj)
  rw[h] at this
  cases this
theorem zMU {f:jK}{ls:List Int}(h:ls.length<f.kids.length):f.fits ls=false:=by unfold jK.fits; rw[if_pos (.inl h)]
theorem zOo {f:jK}{ls:List Int}(h:f.kids.length<ls.length)(hn:f.more=none):f.fits ls=false:=by unfold jK.fits; rw[if_pos (.inr ⟨h,by rw[hn]; rfl⟩)]
theorem zN6 (f:jK)(cs:List Value)(L:Option Addr)(ls:List Int)(n lc:Nat)(w:World)(hn:n=ls.length)(hf:zBW w f cs)(hl:Cells w L (xL ls))(hlen:ls.length≤9000) :
  Calls Tryz.prog 94 #[.agg (Array.mk cs),.slice L n lc] w fun e w'=>e=.returned (.bool (f.fits ls))∧Ext w w':=by
 subst hn;obtain⟨ks,mv,rfl,AZ,Ab⟩:=hf;obtain⟨KA,kc,rfl,AV⟩:=AZ.open_;have AQ:=yD AV;have HL:=yD hl;have AO:=yD Ab;clear AV hl AZ Ab;obtain⟨kn,AG⟩:∃kn,Hid (f.kids.length=kn):=⟨_,yD rfl⟩;rw[AG.out]
 by_cases h1:ls.length<kn
 ·have HR:Hid (f.fits ls=false):=yD (zMU (by rw[AG.out]; exact h1));have d1:decide ((ls.length:Int)<(kn:Int))=true:=yP (by omega)
  go_enter Tryz.func94,Tryz.ntmps94
  go_wp2_with fail
  go_ret;exact⟨xE HR.out.symm,(by show Below w.heap.size w _; go_grown)⟩
 ·have d1:decide ((ls.length:Int)<(kn:Int))=false:=yO (by omega)
  by_cases AB:kn<ls.length∧f.more=none
  ·have HR:Hid (f.fits ls=false):=yD (zOo (by rw[AG.out]; exact AB.1) AB.2);have hm:=AO.out;rw[AB.2] at hm;have Af:mv=.nilFunc:=hm;subst Af;have Ad:kn<ls.length:=AB.1;have Ag:ls.length > kn:=AB.1;have d2:decide ((kn:Int)<(ls.length:Int))=true:=yP (by omega);clear hm AB;have q1:=zFp
   go_enter Tryz.func94,Tryz.ntmps94
   go_wp2_with fail
   go_ret;exact⟨xE HR.out.symm,(by show Below w.heap.size w _; go_grown)⟩
  ·have AL:¬ls.length<f.kids.length:=by rw[AG.out]; exact h1
   have Ae:¬(f.kids.length<ls.length∧f.more.isNone=true):=by
    rintro ⟨ha,hb⟩;rw[AG.out] at ha;exact AB ⟨ha,by simpa using hb⟩
   have AS:Hid ((∀j,j<ls.length→jR (f.want j) (ls.getD j 0)=true)→f.fits ls=true):=yD (zQt AL Ae)
   have HB:Hid (∀i,kn≤i→i<ls.length→∃p,f.more=some p):=yD (by
    intro i h2 h3
    cases hm:f.more with
    | none=>exact absurd ⟨by omega,hm⟩ AB
    | some p=>exact⟨p,rfl⟩)
   have HW:Hid (∀i,f.want i=if i<kn then f.kids[i]? else f.more):=yD (by intro i; unfold jK.want; rw[AG.out]);have q1:=zFp;have q2:=zJA
   have hmf:(mv=.nilFunc∧(kn<ls.length→False))∨∃fm lm,mv=.func (.func fm) #[] lm:=by
    have hm:=AO.out
    cases hmm:f.more with
    | none=>rw[hmm] at hm; exact .inl ⟨hm,fun h=>AB ⟨h,hmm⟩⟩
    | some p=>rw[hmm] at hm; obtain⟨fm,lm,h3,_⟩:=zAC.form hm; exact .inr ⟨fm,lm,h3⟩
   clear AL Ae AB
   have AW:(kn<ls.length∧∃fm lm,mv=.func (.func fm) #[] lm)∨(ls.length=kn∧(mv=.nilFunc∨∃fm lm,mv=.func (.func fm) #[] lm)):=by
    rcases hmf with ⟨h2,h3⟩ | h2
    ·exact .inr ⟨by rcases Nat.lt_or_ge kn ls.length with h | h; exact(h3 h).elim; omega,.inl h2⟩
    ·rcases Nat.lt_or_ge kn ls.length with h | h
     ·exact .inl ⟨h,h2⟩
     ·exact .inr ⟨by omega,.inr h2⟩
   clear hmf h1
   rcases AW with ⟨Ad,fm,lm,rfl⟩ | ⟨Ad,rfl | ⟨fm,lm,rfl⟩⟩
   ·have AT:¬ls.length<kn:=by omega
    have d2:decide ((kn:Int)<(ls.length:Int))=true:=yP (by omega)
    go_enter Tryz.func94,Tryz.ntmps94
    go_wp2_with fail
    have AM:=Blk.new w 147 #[.slice KA kn kc,.func (.func fm) #[] lm,.bool f.named,.int .i64 f.most];have AI:=Ext.alloc w (.cells #[.slice KA kn kc,.func (.func fm) #[] lm,.bool f.named,.int .i64 f.most] 147);generalize w.alloc (.cells #[.slice KA kn kc,.func (.func fm) #[] lm,.bool f.named,.int .i64 f.most] 147)=wa at *;generalize w.heap.size=ga at *;have x0:=AM.cell 0;have x1:=AM.cell 1;have HX:=yD AI;have AR:Hid (zDw wa f.more (.func (.func fm) #[] lm)):=yD (AO.out.kept (Kept.jY AI));have AX:=yD (HL.out.ext AI);clear AM AI HL AO
    go_loop [29] (fun i=>∃k:Nat,k≤ls.length∧i=.int .i64 k∧Hid (∀j,j<k→jR (f.want j) (ls.getD j 0)=true)) (fun i=>ls.length-(intOf i).toNat)
    case atStart=>exact⟨0,zT _,rfl,yD fun j hj=>by omega⟩
    case round=>
     obtain⟨k,hk,rfl,HR⟩:=hrel
     by_cases AE:k<ls.length
     ·have d0:decide ((k:Int)<(ls.length:Int))=true:=yP (by omega);obtain⟨b,Aa,rfl,hb,Ac⟩:=zAW AX.out k AE;have HG:Hid (ls.getD k 0=ls[k]):=yD (by rw[yE,yG AE]; rfl);generalize ls[k]=c at *
      by_cases AH:k<kn
      ·have d3:decide ((k:Int)<(kn:Int))=true:=yP (by omega);obtain⟨g,u,rfl,hu,AP⟩:=AQ.out k (by rw[AG.out]; exact AH);have hu':wa.cell? ⟨g,k,none⟩=some u:=hu' hu HX.out;have AJ:=yD (AP.ext HX.out);have AA:Hid (jR (f.want k) (ls.getD k 0)=(f.kids[k]'(by rw[AG.out]; exact AH)).holds c):=yD (by rw[HW.out,if_pos AH,yG (by rw[AG.out]; exact AH),HG.out]; rfl);clear hu AP;generalize (f.kids[k]'(by rw[AG.out]; exact AH))=p at *
       cases p with
       | JL j=>
        obtain⟨gj,rfl,AN⟩:=AJ.out;have AK:=yD AN;clear AN
        cases hh:(jG.JL j).holds c with
        | true=>
         have HH:=yD hh;clear hh
         go_wp2_with (refine(zAc c j gj _ AK.out).mono ?_; rintro e w' ⟨rfl,rfl⟩; simp only[show(c==j)=true from HH.out])
         go_round
         case rel=>exact⟨k+1,by omega,by go_num,yD fun j hj=>by
          by_cases AC:j=k
          ·subst AC; rw[AA.out]; exact HH.out
          ·exact HR.out j (by omega)⟩
         case measure=>simp[intOf]; omega
        | false=>
         have HH:=yD hh;have AD:Hid (f.fits ls=false):=yD (XF k AE (by rw[AA.out]; exact hh));clear hh
         go_wp2_with (refine(zAc c j gj _ AK.out).mono ?_; rintro e w' ⟨rfl,rfl⟩; simp only[show(c==j)=false from HH.out])
         go_ret;exact⟨xE AD.out.symm,HX.out⟩
       | expr=>
        have he:=AJ.out
        cases he
        cases hh:(jG.expr).holds c with
        | true=>
         have HH:=yD hh;clear hh
         go_wp2_with (refine(zAS c _).mono ?_; rintro e w' ⟨rfl,rfl⟩; simp only[show XH c=true from HH.out])
         go_round
         case rel=>exact⟨k+1,by omega,by go_num,yD fun j hj=>by
          by_cases AC:j=k
          ·subst AC; rw[AA.out]; exact HH.out
          ·exact HR.out j (by omega)⟩
         case measure=>simp[intOf]; omega
        | false=>
         have HH:=yD hh;have AD:Hid (f.fits ls=false):=yD (XF k AE (by rw[AA.out]; exact hh));clear hh
         go_wp2_with (refine(zAS c _).mono ?_; rintro e w' ⟨rfl,rfl⟩; simp only[show XH c=false from HH.out])
         go_ret;exact⟨xE AD.out.symm,HX.out⟩
       | stmt=>
        have he:=AJ.out
        cases he
        cases hh:(jG.stmt).holds c with
        | true=>
         have HH:=yD hh;clear hh
         go_wp2_with (refine(zAU c _).mono ?_; rintro e w' ⟨rfl,rfl⟩; simp only[show JP c=true from HH.out])
         go_round
         case rel=>exact⟨k+1,by omega,by go_num,yD fun j hj=>by
          by_cases AC:j=k
          ·subst AC; rw[AA.out]; exact HH.out
          ·exact HR.out j (by omega)⟩
         case measure=>simp[intOf]; omega
        | false=>
         have HH:=yD hh;have AD:Hid (f.fits ls=false):=yD (XF k AE (by rw[AA.out]; exact hh));clear hh
         go_wp2_with (refine(zAU c _).mono ?_; rintro e w' ⟨rfl,rfl⟩; simp only[show JP c=false from HH.out])
         go_ret;exact⟨xE AD.out.symm,HX.out⟩
       | part=>
        have he:=AJ.out
        cases he
        cases hh:(jG.part).holds c with
        | true=>
         have HH:=yD hh;clear hh
         go_wp2_with (refine(YC c _).mono ?_; rintro e w' ⟨rfl,rfl⟩; simp only[show VJ c=true from HH.out])
         go_round
         case rel=>exact⟨k+1,by omega,by go_num,yD fun j hj=>by
          by_cases AC:j=k
          ·subst AC; rw[AA.out]; exact HH.out
          ·exact HR.out j (by omega)⟩
         case measure=>simp[intOf]; omega
        | false=>
         have HH:=yD hh;have AD:Hid (f.fits ls=false):=yD (XF k AE (by rw[AA.out]; exact hh));clear hh
         go_wp2_with (refine(YC c _).mono ?_; rintro e w' ⟨rfl,rfl⟩; simp only[show VJ c=false from HH.out])
         go_ret;exact⟨xE AD.out.symm,HX.out⟩
      ·have d3:decide ((k:Int)<(kn:Int))=false:=yO (by omega);obtain⟨p,hp⟩:=HB.out k (by omega) AE;have AY:Hid (zAC wa p (.func (.func fm) #[] lm)):=yD (by have h:=AR.out; rw[hp] at h; exact h);have AA:Hid (jR (f.want k) (ls.getD k 0)=p.holds c):=yD (by rw[HW.out,if_neg AH,hp,HG.out]; rfl);clear hp
       cases p with
       | JL j=>
        obtain⟨gj,AF,AN⟩:=AY.out;injection AF with AF _ hlm;injection AF with AF;subst AF hlm;have AK:=yD AN;clear AN
        cases hh:(jG.JL j).holds c with
        | true=>
         have HH:=yD hh;clear hh
         go_wp2_with (refine(zAc c j gj _ AK.out).mono ?_; rintro e w' ⟨rfl,rfl⟩; simp only[show(c==j)=true from HH.out])
         go_round
         case rel=>exact⟨k+1,by omega,by go_num,yD fun j hj=>by
          by_cases AC:j=k
          ·subst AC; rw[AA.out]; exact HH.out
          ·exact HR.out j (by omega)⟩
         case measure=>simp[intOf]; omega
        | false=>
         have HH:=yD hh;have AD:Hid (f.fits ls=false):=yD (XF k AE (by rw[AA.out]; exact hh));clear hh
         go_wp2_with (refine(zAc c j gj _ AK.out).mono ?_; rintro e w' ⟨rfl,rfl⟩; simp only[show(c==j)=false from HH.out])
         go_ret;exact⟨xE AD.out.symm,HX.out⟩
       | expr=>
        have AF:=AY.out;injection AF with AF _ hlm;injection AF with AF;subst AF hlm
        cases hh:(jG.expr).holds c with
        | true=>
         have HH:=yD hh;clear hh
         go_wp2_with (refine(zAS c _).mono ?_; rintro e w' ⟨rfl,rfl⟩; simp only[show XH c=true from HH.out])
         go_round
         case rel=>exact⟨k+1,by omega,by go_num,yD fun j hj=>by
          by_cases AC:j=k
          ·subst AC; rw[AA.out]; exact HH.out
          ·exact HR.out j (by omega)⟩
         case measure=>simp[intOf]; omega
        | false=>
         have HH:=yD hh;have AD:Hid (f.fits ls=false):=yD (XF k AE (by rw[AA.out]; exact hh));clear hh
         go_wp2_with (refine(zAS c _).mono ?_; rintro e w' ⟨rfl,rfl⟩; simp only[show XH c=false from HH.out])
         go_ret;exact⟨xE AD.out.symm,HX.out⟩
       | stmt=>
        have AF:=AY.out;injection AF with AF _ hlm;injection AF with AF;subst AF hlm
        cases hh:(jG.stmt).holds c with
        | true=>
         have HH:=yD hh;clear hh
         go_wp2_with (refine(zAU c _).mono ?_; rintro e w' ⟨rfl,rfl⟩; simp only[show JP c=true from HH.out])
         go_round
         case rel=>exact⟨k+1,by omega,by go_num,yD fun j hj=>by
          by_cases AC:j=k
          ·subst AC; rw[AA.out]; exact HH.out
          ·exact HR.out j (by omega)⟩
         case measure=>simp[intOf]; omega
        | false=>
         have HH:=yD hh;have AD:Hid (f.fits ls=false):=yD (XF k AE (by rw[AA.out]; exact hh));clear hh
         go_wp2_with (refine(zAU c _).mono ?_; rintro e w' ⟨rfl,rfl⟩; simp only[show JP c=false from HH.out])
         go_ret;exact⟨xE AD.out.symm,HX.out⟩
       | part=>
        have AF:=AY.out;injection AF with AF _ hlm;injection AF with AF;subst AF hlm
        cases hh:(jG.part).holds c with
        | true=>
         have HH:=yD hh;clear hh
         go_wp2_with (refine(YC c _).mono ?_; rintro e w' ⟨rfl,rfl⟩; simp only[show VJ c=true from HH.out])
         go_round
         case rel=>exact⟨k+1,by omega,by go_num,yD fun j hj=>by
          by_cases AC:j=k
          ·subst AC; rw[AA.out]; exact HH.out
          ·exact HR.out j (by omega)⟩
         case measure=>simp[intOf]; omega
        | false=>
         have HH:=yD hh;have AD:Hid (f.fits ls=false):=yD (XF k AE (by rw[AA.out]; exact hh));clear hh
         go_wp2_with (refine(YC c _).mono ?_; rintro e w' ⟨rfl,rfl⟩; simp only[show VJ c=false from HH.out])
         go_ret;exact⟨xE AD.out.symm,HX.out⟩
     ·obtain rfl:k=ls.length:=by omega
      have d0:decide ((ls.length:Int)<(ls.length:Int))=false:=by simp
      go_wp2_with fail
      go_ret;exact⟨xE (AS.out HR.out).symm,HX.out⟩
   ·have AT:¬ls.length<kn:=by omega
    have AU:¬kn<ls.length:=by omega
    have d2:decide ((kn:Int)<(ls.length:Int))=false:=yO (by omega)
    go_enter Tryz.func94,Tryz.ntmps94
    go_wp2_with fail
    have AM:=Blk.new w 147 #[.slice KA kn kc,.nilFunc,.bool f.named,.int .i64 f.most];have AI:=Ext.alloc w (.cells #[.slice KA kn kc,.nilFunc,.bool f.named,.int .i64 f.most] 147);generalize w.alloc (.cells #[.slice KA kn kc,.nilFunc,.bool f.named,.int .i64 f.most] 147)=wa at *;generalize w.heap.size=ga at *;have x0:=AM.cell 0;have x1:=AM.cell 1;have HX:=yD AI;have AR:Hid (zDw wa f.more (.nilFunc)):=yD (AO.out.kept (Kept.jY AI));have AX:=yD (HL.out.ext AI);clear AM AI HL AO
    go_loop [29] (fun i=>∃k:Nat,k≤ls.length∧i=.int .i64 k∧Hid (∀j,j<k→jR (f.want j) (ls.getD j 0)=true)) (fun i=>ls.length-(intOf i).toNat)
    case atStart=>exact⟨0,zT _,rfl,yD fun j hj=>by omega⟩
    case round=>
     obtain⟨k,hk,rfl,HR⟩:=hrel
     by_cases AE:k<ls.length
     ·have d0:decide ((k:Int)<(ls.length:Int))=true:=yP (by omega);obtain⟨b,Aa,rfl,hb,Ac⟩:=zAW AX.out k AE;have HG:Hid (ls.getD k 0=ls[k]):=yD (by rw[yE,yG AE]; rfl);generalize ls[k]=c at *
      by_cases AH:k<kn
      ·have d3:decide ((k:Int)<(kn:Int))=true:=yP (by omega);obtain⟨g,u,rfl,hu,AP⟩:=AQ.out k (by rw[AG.out]; exact AH);have hu':wa.cell? ⟨g,k,none⟩=some u:=hu' hu HX.out;have AJ:=yD (AP.ext HX.out);have AA:Hid (jR (f.want k) (ls.getD k 0)=(f.kids[k]'(by rw[AG.out]; exact AH)).holds c):=yD (by rw[HW.out,if_pos AH,yG (by rw[AG.out]; exact AH),HG.out]; rfl);clear hu AP;generalize (f.kids[k]'(by rw[AG.out]; exact AH))=p at *
       cases p with
       | JL j=>
        obtain⟨gj,rfl,AN⟩:=AJ.out;have AK:=yD AN;clear AN
        cases hh:(jG.JL j).holds c with
        | true=>
         have HH:=yD hh;clear hh
         go_wp2_with (refine(zAc c j gj _ AK.out).mono ?_; rintro e w' ⟨rfl,rfl⟩; simp only[show(c==j)=true from HH.out])
         go_round
         case rel=>exact⟨k+1,by omega,by go_num,yD fun j hj=>by
          by_cases AC:j=k
          ·subst AC; rw[AA.out]; exact HH.out
          ·exact HR.out j (by omega)⟩
         case measure=>simp[intOf]; omega
        | false=>
         have HH:=yD hh;have AD:Hid (f.fits ls=false):=yD (XF k AE (by rw[AA.out]; exact hh));clear hh
         go_wp2_with (refine(zAc c j gj _ AK.out).mono ?_; rintro e w' ⟨rfl,rfl⟩; simp only[show(c==j)=false from HH.out])
         go_ret;exact⟨xE AD.out.symm,HX.out⟩
       | expr=>
        have he:=AJ.out
        cases he
        cases hh:(jG.expr).holds c with
        | true=>
         have HH:=yD hh;clear hh
         go_wp2_with (refine(zAS c _).mono ?_; rintro e w' ⟨rfl,rfl⟩; simp only[show XH c=true from HH.out])
         go_round
         case rel=>exact⟨k+1,by omega,by go_num,yD fun j hj=>by
          by_cases AC:j=k
          ·subst AC; rw[AA.out]; exact HH.out
          ·exact HR.out j (by omega)⟩
         case measure=>simp[intOf]; omega
        | false=>
         have HH:=yD hh;have AD:Hid (f.fits ls=false):=yD (XF k AE (by rw[AA.out]; exact hh));clear hh
         go_wp2_with (refine(zAS c _).mono ?_; rintro e w' ⟨rfl,rfl⟩; simp only[show XH c=false from HH.out])
         go_ret;exact⟨xE AD.out.symm,HX.out⟩
       | stmt=>
        have he:=AJ.out
        cases he
        cases hh:(jG.stmt).holds c with
        | true=>
         have HH:=yD hh;clear hh
         go_wp2_with (refine(zAU c _).mono ?_; rintro e w' ⟨rfl,rfl⟩; simp only[show JP c=true from HH.out])
         go_round
         case rel=>exact⟨k+1,by omega,by go_num,yD fun j hj=>by
          by_cases AC:j=k
          ·subst AC; rw[AA.out]; exact HH.out
          ·exact HR.out j (by omega)⟩
         case measure=>simp[intOf]; omega
        | false=>
         have HH:=yD hh;have AD:Hid (f.fits ls=false):=yD (XF k AE (by rw[AA.out]; exact hh));clear hh
         go_wp2_with (refine(zAU c _).mono ?_; rintro e w' ⟨rfl,rfl⟩; simp only[show JP c=false from HH.out])
         go_ret;exact⟨xE AD.out.symm,HX.out⟩
       | part=>
        have he:=AJ.out
        cases he
        cases hh:(jG.part).holds c with
        | true=>
         have HH:=yD hh;clear hh
         go_wp2_with (refine(YC c _).mono ?_; rintro e w' ⟨rfl,rfl⟩; simp only[show VJ c=true from HH.out])
         go_round
         case rel=>exact⟨k+1,by omega,by go_num,yD fun j hj=>by
          by_cases AC:j=k
          ·subst AC; rw[AA.out]; exact HH.out
          ·exact HR.out j (by omega)⟩
         case measure=>simp[intOf]; omega
        | false=>
         have HH:=yD hh;have AD:Hid (f.fits ls=false):=yD (XF k AE (by rw[AA.out]; exact hh));clear hh
         go_wp2_with (refine(YC c _).mono ?_; rintro e w' ⟨rfl,rfl⟩; simp only[show VJ c=false from HH.out])
         go_ret;exact⟨xE AD.out.symm,HX.out⟩
      ·omega
     ·obtain rfl:k=ls.length:=by omega
      have d0:decide ((ls.length:Int)<(ls.length:Int))=false:=by simp
      go_wp2_with fail
      go_ret;exact⟨xE (AS.out HR.out).symm,HX.out⟩
   ·have AT:¬ls.length<kn:=by omega
    have AU:¬kn<ls.length:=by omega
    have d2:decide ((kn:Int)<(ls.length:Int))=false:=yO (by omega)
    go_enter Tryz.func94,Tryz.ntmps94
    go_wp2_with fail
    have AM:=Blk.new w 147 #[.slice KA kn kc,.func (.func fm) #[] lm,.bool f.named,.int .i64 f.most];have AI:=Ext.alloc w (.cells #[.slice KA kn kc,.func (.func fm) #[] lm,.bool f.named,.int .i64 f.most] 147);generalize w.alloc (.cells #[.slice KA kn kc,.func (.func fm) #[] lm,.bool f.named,.int .i64 f.most] 147)=wa at *;generalize w.heap.size=ga at *;have x0:=AM.cell 0;have x1:=AM.cell 1;have HX:=yD AI;have AR:Hid (zDw wa f.more (.func (.func fm) #[] lm)):=yD (AO.out.kept (Kept.jY AI));have AX:=yD (HL.out.ext AI);clear AM AI HL AO
    go_loop [29] (fun i=>∃k:Nat,k≤ls.length∧i=.int .i64 k∧Hid (∀j,j<k→jR (f.want j) (ls.getD j 0)=true)) (fun i=>ls.length-(intOf i).toNat)
    case atStart=>exact⟨0,zT _,rfl,yD fun j hj=>by omega⟩
    case round=>
     obtain⟨k,hk,rfl,HR⟩:=hrel
     by_cases AE:k<ls.length
     ·have d0:decide ((k:Int)<(ls.length:Int))=true:=yP (by omega);obtain⟨b,Aa,rfl,hb,Ac⟩:=zAW AX.out k AE;have HG:Hid (ls.getD k 0=ls[k]):=yD (by rw[yE,yG AE]; rfl);generalize ls[k]=c at *
      by_cases AH:k<kn
      ·have d3:decide ((k:Int)<(kn:Int))=true:=yP (by omega);obtain⟨g,u,rfl,hu,AP⟩:=AQ.out k (by rw[AG.out]; exact AH);have hu':wa.cell? ⟨g,k,none⟩=some u:=hu' hu HX.out;have AJ:=yD (AP.ext HX.out);have AA:Hid (jR (f.want k) (ls.getD k 0)=(f.kids[k]'(by rw[AG.out]; exact AH)).holds c):=yD (by rw[HW.out,if_pos AH,yG (by rw[AG.out]; exact AH),HG.out]; rfl);clear hu AP;generalize (f.kids[k]'(by rw[AG.out]; exact AH))=p at *
       cases p with
       | JL j=>
        obtain⟨gj,rfl,AN⟩:=AJ.out;have AK:=yD AN;clear AN
        cases hh:(jG.JL j).holds c with
        | true=>
         have HH:=yD hh;clear hh
         go_wp2_with (refine(zAc c j gj _ AK.out).mono ?_; rintro e w' ⟨rfl,rfl⟩; simp only[show(c==j)=true from HH.out])
         go_round
         case rel=>exact⟨k+1,by omega,by go_num,yD fun j hj=>by
          by_cases AC:j=k
          ·subst AC; rw[AA.out]; exact HH.out
          ·exact HR.out j (by omega)⟩
         case measure=>simp[intOf]; omega
        | false=>
         have HH:=yD hh;have AD:Hid (f.fits ls=false):=yD (XF k AE (by rw[AA.out]; exact hh));clear hh
         go_wp2_with (refine(zAc c j gj _ AK.out).mono ?_; rintro e w' ⟨rfl,rfl⟩; simp only[show(c==j)=false from HH.out])
         go_ret;exact⟨xE AD.out.symm,HX.out⟩
       | expr=>
        have he:=AJ.out
        cases he
        cases hh:(jG.expr).holds c with
        | true=>
         have HH:=yD hh;clear hh
         go_wp2_with (refine(zAS c _).mono ?_; rintro e w' ⟨rfl,rfl⟩; simp only[show XH c=true from HH.out])
         go_round
         case rel=>exact⟨k+1,by omega,by go_num,yD fun j hj=>by
          by_cases AC:j=k
          ·subst AC; rw[AA.out]; exact HH.out
          ·exact HR.out j (by omega)⟩
         case measure=>simp[intOf]; omega
        | false=>
         have HH:=yD hh;have AD:Hid (f.fits ls=false):=yD (XF k AE (by rw[AA.out]; exact hh));clear hh
         go_wp2_with (refine(zAS c _).mono ?_; rintro e w' ⟨rfl,rfl⟩; simp only[show XH c=false from HH.out])
         go_ret;exact⟨xE AD.out.symm,HX.out⟩
       | stmt=>
        have he:=AJ.out
        cases he
        cases hh:(jG.stmt).holds c with
        | true=>
         have HH:=yD hh;clear hh
         go_wp2_with (refine(zAU c _).mono ?_; rintro e w' ⟨rfl,rfl⟩; simp only[show JP c=true from HH.out])
         go_round
         case rel=>exact⟨k+1,by omega,by go_num,yD fun j hj=>by
          by_cases AC:j=k
          ·subst AC; rw[AA.out]; exact HH.out
          ·exact HR.out j (by omega)⟩
         case measure=>simp[intOf]; omega
        | false=>
         have HH:=yD hh;have AD:Hid (f.fits ls=false):=yD (XF k AE (by rw[AA.out]; exact hh));clear hh
         go_wp2_with (refine(zAU c _).mono ?_; rintro e w' ⟨rfl,rfl⟩; simp only[show JP c=false from HH.out])
         go_ret;exact⟨xE AD.out.symm,HX.out⟩
       | part=>
        have he:=AJ.out
        cases he
        cases hh:(jG.part).holds c with
        | true=>
         have HH:=yD hh;clear hh
         go_wp2_with (refine(YC c _).mono ?_; rintro e w' ⟨rfl,rfl⟩; simp only[show VJ c=true from HH.out])
         go_round
         case rel=>exact⟨k+1,by omega,by go_num,yD fun j hj=>by
          by_cases AC:j=k
          ·subst AC; rw[AA.out]; exact HH.out
          ·exact HR.out j (by omega)⟩
         case measure=>simp[intOf]; omega
        | false=>
         have HH:=yD hh;have AD:Hid (f.fits ls=false):=yD (XF k AE (by rw[AA.out]; exact hh));clear hh
         go_wp2_with (refine(YC c _).mono ?_; rintro e w' ⟨rfl,rfl⟩; simp only[show VJ c=false from HH.out])
         go_ret;exact⟨xE AD.out.symm,HX.out⟩
      ·omega
     ·obtain rfl:k=ls.length:=by omega
      have d0:decide ((ls.length:Int)<(ls.length:Int))=false:=by simp
      go_wp2_with fail
      go_ret;exact⟨xE (AS.out HR.out).symm,HX.out⟩
def zJt (s:ByteArray)(c:Int):Int:=Lib.indexByte s.data.toList c.toNat.toUInt8
theorem zRb (s:ByteArray)(c:Int)(w:World):(callFunc 158 #[.string s,.int .u8 c]).run Tryz.prog w=.ok (.value (.int .i64 (zJt s c))) w:=by
 rw[run_callFunc_extern Tryz.func158 (by kernel_rfl) (by kernel_rfl) (by kernel_rfl) (e:=Extern.BytealgIndexByte.indexByte) (by kernel_rfl),Lib.run_indexByteString]
 rfl
theorem zHw (s:ByteArray)(c:Int)(w:World):Calls Tryz.prog 114 #[.string s,.int .u8 c] w fun e w'=>e=.returned (.int .i64 (zJt s c))∧w'=w:=by
 have he:=zRb
 go_enter Tryz.func114,Tryz.ntmps114
 go_wp2
 go_ret;exact⟨rfl,rfl⟩
theorem zHV (s:ByteArray)(c:Int)(w:World):Calls Tryz.prog 70 #[.string s,.int .u8 c] w fun e w'=>e=.returned (.int .i64 (zJt s c))∧w'=w:=by
 go_enter Tryz.func70,Tryz.ntmps70
 go_wp2_with (refine(zHw _ _ _).mono ?_; rintro e w' ⟨rfl,rfl⟩)
 go_ret;exact⟨rfl,rfl⟩
theorem zCJ (s:ByteArray)(c v:Int)(h:Hid (zJt s c=v))(w:World):Calls Tryz.prog 70 #[.string s,.int .u8 c] w fun e w'=>e=.returned (.int .i64 v)∧w'=w:=by
 rw[←h.out];exact zHV s c w
def YE (l:List UInt8):List Value:=l.map fun b=>Value.int .u8 (b.toNat:Int)
theorem zBm (l:List UInt8):(YE l).length=l.length:=by simp[YE]
theorem zEB (l:List UInt8)(k:Nat)(h:k<l.length):(YE l)[k]?=some (.int .u8 (l[k].toNat:Int)):=by simp[YE,h]
def scan (p:UInt8→Bool)(l:List UInt8):Nat:=(l.takeWhile p).length
theorem zPU {p:UInt8→Bool}{l:List UInt8}{k:Nat}(hk:k<l.length)(h:p l[k]=true):scan p (l.drop k)=scan p (l.drop (k+1))+1:=by
 unfold scan;rw[List.drop_eq_getElem_cons hk,List.takeWhile_cons,if_pos h]
 rfl
theorem zRy {p:UInt8→Bool}{l:List UInt8}{k:Nat}(hk:k<l.length)(h:p l[k]=false):scan p (l.drop k)=0:=by
 unfold scan;rw[List.drop_eq_getElem_cons hk,List.takeWhile_cons,if_neg (by rw[h]; exact Bool.false_ne_true)]
 rfl
theorem zK4 (p:UInt8→Bool)(l:List UInt8):scan p (l.drop l.length)=0:=by simp[scan]
theorem zRK {w:World}{g b off n c at_:Nat}{A:Option Addr}{l:List UInt8}(hg:Blk w g 65 #[.slice A n c,.int .i64 at_])(k:Nat)(hk:k<l.length)(hs:Cells w (some ⟨b,off,none⟩) (YE l)):b≠g:=by
 rintro rfl;obtain⟨b',AA,hA,_,hc⟩:=hs.at_ (by rw[zBm]; omega);injection hA with hA;injection hA with h1 h2;subst h1 h2;have h0:=(hc k (by rw[zBm]; exact hk)).trans (zEB l k hk);rw[hg.cell] at h0
 match h:off+k with
 | 0=>rw[h] at h0; simp at h0
 | 1=>rw[h] at h0; simp at h0
 | n+2=>rw[h] at h0; simp at h0
theorem ZZ {g:Nat}{a b c:World}(h:Touch g a b)(k:Touch g b c):Touch g a c:=
 ⟨k.os.trans h.os,k.tape.trans h.tape,k.output.trans h.output,k.size.trans h.size,fun i hi=>(k.other i hi).trans (h.other i hi)⟩
theorem zGR (g:Nat)(a:World):Touch g a a:=⟨rfl,rfl,rfl,rfl,fun _ _=>rfl⟩
theorem XT (g:Nat)(a:World)(n:Nat):Touch g a (a.drewN n):=by
 induction n with
 | zero=>exact zGR g a
 | succ n ih=>exact ZZ ih ⟨rfl,rfl,rfl,rfl,fun _ _=>rfl⟩
theorem zNK {g i:Nat}(a:World)(u:Value):Touch g a (a.setCell ⟨g,i,none⟩ u):=⟨rfl,rfl,rfl,by simp[World.setCell],fun k hk=>zQ a _ u k hk⟩
theorem zBn {w:World}{g:Nat}{t:TypeId}{cs:Array Value}(h:Blk w g t cs)(n:Nat):Blk (w.drewN n) g t cs:=by
 induction n with
 | zero=>exact h
 | succ n ih=>exact ih
def VG (set:ByteArray)(p:UInt8→Bool):Prop:=∀c:UInt8,((0≤zJt set (c.toNat:Int))↔p c=true)
theorem zHm {w w':World}{g b off n c at_:Nat}{A:Option Addr}{l:List UInt8}(hg:Blk w g 65 #[.slice A n c,.int .i64 at_])(hs:Cells w (some ⟨b,off,none⟩) (YE l))(ht:Touch g w w')(k:Nat)(hk:k<l.length) :
  w'.cell? ⟨b,off+k,none⟩=some (.int .u8 (l[k].toNat:Int)):=by
 have AC:b≠g:=zRK hg k hk hs;obtain⟨b',AB,hA,_,AA⟩:=(ht.cells hs (by rintro _ _ ⟨⟩; exact AC)).at_ (by rw[zBm]; omega);injection hA with hA;injection hA with h1 h2;subst h1 h2;exact(AA k (by rw[zBm]; exact hk)).trans (zEB l k hk)
theorem zJW {w w':World}{g b off n c at_:Nat}{A:Option Addr}{l:List UInt8}(hg:Blk w g 65 #[.slice A n c,.int .i64 at_])(hs:Cells w (some ⟨b,off,none⟩) (YE l))(ht:Touch g w w')(i k cap:Nat)(hik:i≤k)(hk:k≤l.length) :
  (convert 22 9 (.slice (some ⟨b,off+i,none⟩) (k-i) cap)).run Tryz.prog w'=.ok (.string ⟨((l.drop i).take (k-i)).toArray⟩) w':=by
 have h:=run_convert_bytes_back (P:=Tryz.prog) w' 22 9 5 ⟨b,off+i,none⟩ cap ((l.drop i).take (k-i)) Tryz.underlying22 Tryz.underlying5 Tryz.underlying9 (fun j hj=>by
  have AA:j<k-i:=by simp at hj; omega
  have:=zHm hg hs ht (i+j) (by omega)
  unfold Addr.add
  by_cases h0:j=0
  ·subst h0; simpa using this
  ·simp only[h0,if_false]; rw[Nat.add_assoc,this]; simp)
 have hl:((l.drop i).take (k-i)).length=k-i:=by simp; omega
 rw[hl] at h;exact h
theorem zDk (set:ByteArray)(p:UInt8→Bool)(hp:VG set p)(g b off n c at_:Nat)(l:List UInt8)(w:World)(hn:n=l.length)(hc:n≤c)(hlen:l.length≤4611686018427387904)(hat:at_≤l.length)
  (hg:Blk w g 65 #[.slice (some ⟨b,off,none⟩) n c,.int .i64 at_]) (hs:Cells w (some ⟨b,off,none⟩) (YE l)) :
  Calls Tryz.prog 67 #[.pointer (some ⟨g,0,none⟩),.string set] w fun e w'=>e=.returned (.string ⟨((l.drop at_).take (scan p (l.drop at_))).toArray⟩)∧Touch g w w'∧Blk w' g 65 #[.slice (some ⟨b,off,none⟩) n c,.int .i64 ((at_+scan p (l.drop at_):Nat):Int)]:=by
 subst hn;have HP:=yD hp;have HS:=yD hs;have HG:=yD hg;have x0:=hg.cell 0;have x1:=hg.cell 1;clear hp hs hg
 go_enter Tryz.func67,Tryz.ntmps67
 go_wp2_with fail
 clear x0 x1
 go_loopg [] (l.length-at_) (fun m wr=>∃k:Nat,at_≤k∧k≤l.length∧m=l.length-k∧Hid (k+scan p (l.drop k)=at_+scan p (l.drop at_))∧Hid (Touch g w wr)∧Hid (Blk wr g 65 #[.slice (some ⟨b,off,none⟩) l.length c,.int .i64 k]))
 case atStart=>exact⟨at_,zU _,hat,rfl,yD rfl,yD (zGR _ _),HG⟩
 case round=>
  obtain⟨k,AI,hk,hm,HK,HT,HB⟩:=hrel;have HM:=yD hm;clear hm;have x0:=HB.out.cell 0;have x1:=HB.out.cell 1;have y0:=HB.out.frozen 1
  by_cases AH:k<l.length
  ·have d0:decide ((k:Int)<(l.length:Int))=true:=yP (by omega);have AE:wr.cell? ⟨b,off+k,none⟩=some (.int .u8 (l[k].toNat:Int)):=zHm HG.out HS.out HT.out k AH;obtain⟨v,HV⟩:∃v,Hid (zJt set (l[k].toNat:Int)=v):=⟨_,yD rfl⟩
   have q0:(k:Int)<(l.length:Int):=by omega
   by_cases AD:p l[k]=true
   ·have AG:0≤v:=by rw[←HV.out]; exact(HP.out _).2 AD
    have d1:decide (0≤v)=true:=yP AG;have AJ:Hid (k+1+scan p (l.drop (k+1))=at_+scan p (l.drop at_)):=yD (by rw[←HK.out,zPU AH AD]; omega);have HQ:=yD AD;clear AD
    go_wp2_with fail
    go_quiet ((go_at_call 70; exact Calls.quiet_of_same (zCJ set _ v HV _)))
    rename_i nq;have AB:Hid (Touch g w (wr.drewN nq)):=yD (ZZ HT.out (XT g wr nq));have AA:=yD (zBn HB.out nq);clear HT HB x0 x1 y0 AE;generalize wr.drewN nq=wd at *;have x0:=AA.out.cell 0;have x1:=AA.out.cell 1;have y0:=AA.out.frozen 1
    go_wp2_with fail
    go_roundg (l.length-(k+1))
    case measure=>have:=HM.out; omega
    case rel=>
     exact⟨k+1,by omega,by omega,rfl,AJ,yD (ZZ AB.out (zNK _ _)),yD (AA.out.put 1 _)⟩
   ·have AG:v<0:=by
     have:=(HP.out l[k])
     rw[HV.out] at this
     by_cases h:0≤v
     ·exact absurd (this.1 h) AD
     ·omega
    have d1:decide (0≤v)=false:=yO (by omega);have HE:Hid (k=at_+scan p (l.drop at_)):=yD (by rw[←HK.out]; rw[zRy AH (by simpa using AD)]; rfl);have HR:Hid (((l.drop at_).take (k-at_)).toArray=((l.drop at_).take (scan p (l.drop at_))).toArray):=yD (by rw[show k-at_=scan p (l.drop at_) from by have:=HE.out; omega])
    have hw:IntKind.i64.wrap ((k:Int)-(at_:Int))=(k:Int)-(at_:Int):=by rw[IntKind.wrap_i64]; omega
    clear AD AG
    go_wp2_with fail
    go_quiet ((go_at_call 70; exact Calls.quiet_of_same (zCJ set _ v HV _)))
    rename_i nq;have AB:Hid (Touch g w (wr.drewN nq)):=yD (ZZ HT.out (XT g wr nq));have AA:=yD (zBn HB.out nq);clear HT HB x0 x1 y0;generalize wr.drewN nq=wd at *;have x0:=AA.out.cell 0;have x1:=AA.out.cell 1;have AC:∀q,(convert 22 9 (.slice (some ⟨b,off+at_,none⟩) (k-at_) (c-at_))).run Tryz.prog (wd.drewN q)=.ok (.string ⟨((l.drop at_).take (k-at_)).toArray⟩) (wd.drewN q):=fun q=>zJW HG.out HS.out (ZZ AB.out (XT g wd q)) at_ k (c-at_) AI hk
    go_wp2_with fail
    go_quiet (fail)
    go_wp2_with fail
    go_ret;have AF:=HE.out;refine⟨by rw[←HR.out]; rfl,ZZ AB.out (XT g wd _),?_⟩;rw[←AF];exact zBn AA.out _
  ·obtain rfl:k=l.length:=by omega
   have d0:decide ((l.length:Int)<(l.length:Int))=false:=by simp
   by_cases AK:at_<c
   ·have HE:Hid (l.length=at_+scan p (l.drop at_)):=yD (by rw[←HK.out,zK4]; rfl);have HR:Hid (((l.drop at_).take (l.length-at_)).toArray=((l.drop at_).take (scan p (l.drop at_))).toArray):=yD (by rw[show l.length-at_=scan p (l.drop at_) from by have:=HE.out; omega])
    have hw:IntKind.i64.wrap ((l.length:Int)-(at_:Int))=(l.length:Int)-(at_:Int):=by rw[IntKind.wrap_i64]; omega
    go_wp2_with fail
    go_quiet (fail)
    rename_i nq;have AB:Hid (Touch g w (wr.drewN nq)):=yD (ZZ HT.out (XT g wr nq));have AA:=yD (zBn HB.out nq);clear HT HB x0 x1 y0;generalize wr.drewN nq=wd at *;have x0:=AA.out.cell 0;have x1:=AA.out.cell 1;have AC:∀q,(convert 22 9 (.slice (some ⟨b,off+at_,none⟩) (l.length-at_) (c-at_))).run Tryz.prog (wd.drewN q)=.ok (.string ⟨((l.drop at_).take (l.length-at_)).toArray⟩) (wd.drewN q):=fun q=>zJW HG.out HS.out (ZZ AB.out (XT g wd q)) at_ l.length (c-at_) AI hk
    go_wp2_with fail
    go_quiet (fail)
    go_wp2_with fail
    go_ret;have AF:=HE.out;refine⟨by rw[←HR.out]; rfl,ZZ AB.out (XT g wd _),?_⟩;rw[←AF];exact zBn AA.out _
   ·obtain rfl:at_=l.length:=by omega
    obtain rfl:c=l.length:=by omega
    have HZ:Hid (scan p (l.drop l.length)=0):=yD (zK4 p l)
    have hw:IntKind.i64.wrap ((l.length:Int)-(l.length:Int))=(l.length:Int)-(l.length:Int):=by rw[IntKind.wrap_i64]; omega
    have AC:∀W,(convert 22 9 (.slice (some ⟨b,off,none⟩) 0 0)).run Tryz.prog W=.ok (.string ⟨#[]⟩) W:=fun W=>run_convert_bytes_back (P:=Tryz.prog) W 22 9 5 ⟨b,off,none⟩ 0 [] Tryz.underlying22 Tryz.underlying5 Tryz.underlying9 (fun j hj=>by simp at hj)
    go_wp2_with fail
    go_quiet (fail)
    rename_i nq;have AB:Hid (Touch g w (wr.drewN nq)):=yD (ZZ HT.out (XT g wr nq));have AA:=yD (zBn HB.out nq);clear HT HB x0 x1 y0;generalize wr.drewN nq=wd at *;have x0:=AA.out.cell 0;have x1:=AA.out.cell 1
    go_wp2_with fail
    go_quiet (fail)
    go_wp2_with fail
    go_ret;refine⟨by rw[HZ.out]; rfl,ZZ AB.out (XT g wd _),?_⟩;rw[HZ.out];exact zBn AA.out _
end Go.Proofs.YtioffpjajhalaaaGreatDoor.TT
