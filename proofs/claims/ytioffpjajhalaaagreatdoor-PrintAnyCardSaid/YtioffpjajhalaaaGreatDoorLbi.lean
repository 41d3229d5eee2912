/- The document's Right, walked. -/
import Derived.Test.YtioffpjajhalaaaGreatDoorLaa
import Derived.Test.YtioffpjajhalaaaGreatDoorLbg
import Derived.Test.YtioffpjajhalaaaGreatDoorLbh
import Derived.Test.YtioffpjajhalaaaGreatDoorLal
set_option linter.unusedVariables false
set_option linter.unusedSimpArgs false
set_option maxRecDepth 100000
set_option maxHeartbeats 16000000
namespace Go.Proofs.YtioffpjajhalaaaGreatDoor.TT
open Go Go.RowKit
section
variable {P:Program} {ops:Array Oper} {R:World→World→Prop} {w0:World} {Q:Act→World→Prop}
theorem zEe {o:Oper}{l:List Oper}{ks:List Take}{a:Act}{H:List (Option Tmp × (World→Prop))}{d:Option Tmp}{L:List Tmp}(F:Value→World→Prop)(hs:∀v w w',F v w→R w w'→F v w')(hw:Region.wanted o (yielded ops a.tmps)=true)(hd:o.dst=d)(hL:JW o=L)
  (h:∀w,R w0 w→(∀p ∈ H,(∃t,p.1=some t∧t ∈ L)→p.2 w)→yY P a.eval o w (fun v w'=>F v w'∧R w w')) (hk:∀v,ZB P ops R w0 Q l ks (a.put d v) ((d,F v)::H)):ZB P ops R w0 Q (o::l) (.fact F::ks) a H:=by
 subst hd hL;refine zHb F hs (fun w AA hH=>?_) hk;rw[if_pos hw];exact h w AA fun p hp ⟨t,ht,hm⟩=>hH p hp ⟨t,ht,List.mem_append_left _ hm⟩
end
theorem zMn {l:List xB}(h:l.length=0):JN l=false:=by unfold JN; rw[h]; rfl
theorem zJC {l:List xB}(h:(JH l 0==1)=false):JN l=false:=by unfold JN; rw[h]; simp
theorem zJo {l:List xB}(h:zBU l=false):JN l=false:=by unfold JN; rw[h]; simp
theorem zL7 {l:List xB}(h:XD (XE l) 0≠some l.length):JN l=false:=by unfold JN; rw[yO h]; simp
theorem zMJ {l:List xB}(h0:0<l.length)(h1:(JH l 0==1)=true)(h2:zBU l=true)(h3:XD (XE l) 0=some l.length):JN l=l.all (zDu l):=by
 unfold JN; rw[yP h0,h1,h2,yP h3]; rfl
theorem zNZ {l:List xB}(i:Nat)(hi:i<l.length)(k:Int)(hk:k ∈ l[i].kids)(h:¬((i:Int)<k∧k<(l.length:Int))):zBU l=false:=by
 rw[Bool.eq_false_iff];intro hh;exact h ((zBA l).1 hh i hi k (by rw[zAA l i hi]; exact hk))
theorem zNk (o:Option Nat)(n:Nat):(zDJ o==(n:Int))=decide (o=some n):=by
 cases o with
 | none=>show((-1:Int)==(n:Int))=_; rw[beq_eq_false_iff_ne.2 (by omega)]; simp
 | some a=>show((a:Int)==(n:Int))=_; rw[Bool.eq_iff_iff]; simp; omega
theorem zG3 (l:List xB)(A:Option Addr)(n c:Nat)(w:World)(hn:n=l.length)(ht:vV w A l)(hlen:l.length≤9000)(hsm:∀x ∈ l,zBz x)(b:Bool)(hb:Hid (JN l=b)) :
  Calls Tryz.prog 57 #[.slice A n c] w fun e w'=>e=.returned (.bool b)∧Ext w w':=by
 subst hn;have HT:=yD ht;have AR:=yD hsm;clear ht hsm
 by_cases h0:l.length=0
 ·have e0:((l.length:Int)==0)=true:=by rw[h0]; rfl
  have HB:Hid (b=false):=yD (by rw[←hb.out]; exact zMn h0);clear h0
  go_enter Tryz.func57,Tryz.ntmps57
  go_wp2_with fail
  go_ret;exact⟨xE HB.out.symm,Ext.refl _⟩
 ·have hp:0<l.length:=by omega
  have e0:((l.length:Int)==0)=false:=by rw[yF]; omega
  have q0:(0:Int)<(l.length:Int):=by omega
  obtain⟨bb,AC,rfl,As,AD⟩:=HT.out.at_ 0 hp;rw[Nat.zero_mul,Nat.add_zero] at AD;have k0:w.cell? ⟨bb,AC,none⟩=some (.int .u8 l[0].kind):=AD 0 (by omega);have Ad:Hid (JH l 0=l[0].kind):=yD (zDl (a:=0) hp);clear AD h0;generalize l[0].kind=kz at *
  cases hz:(kz==1) with
  | false=>
   have At:(kz != 1)=true:=by rw[bne,hz]; rfl
   have HB:Hid (b=false):=yD (by rw[←hb.out]; exact zJC (by rw[Ad.out]; exact hz))
   go_enter Tryz.func57,Tryz.ntmps57
   go_wp2_with fail
   go_ret;exact⟨xE HB.out.symm,Ext.refl _⟩
  | true=>
   obtain rfl:kz=1:=by simpa using hz
   clear hz
   go_enter Tryz.func57,Tryz.ntmps57
   go_wp2_with fail
   clear k0
   go_loop [3] (fun i=>∃k:Nat,k≤l.length∧i=.int .i64 k∧Hid (∀i (hi:i<l.length),i<k→∀y ∈ l[i].kids,(i:Int)<y∧y<(l.length:Int))) (fun i=>l.length-(intOf i).toNat)
   case atStart=>exact⟨0,zT _,rfl,yD fun i hi h=>by omega⟩
   case round=>
    obtain⟨k,hk,rfl,HR⟩:=hrel
    by_cases AG:k<l.length
    ·have d0:decide ((k:Int)<(l.length:Int))=true:=yP (by omega)
     have q1:(k:Int)<(l.length:Int):=by omega
     obtain⟨b1,AW,hA,AE,AD⟩:=HT.out.at_ k AG;injection hA with hA;injection hA with hA1 hA2;subst hA1 hA2;have AT:Hid (VQ w l[k]):=yD (HT.out.ok _ (yL AG));have Ao:l[k].kids.length≤9000:=(AR.out _ (yL AG)).kids;have AM:Hid (∀y ∈ l[k].kids,¬((k:Int)<y∧y<(l.length:Int))→b=false):=yD (fun y hy h=>by rw[←hb.out]; exact zJo (zNZ k AG y hy h))
     have Ac:Hid ((∀y ∈ l[k].kids,(k:Int)<y∧y<(l.length:Int))→∀i (hi:i<l.length),i<k+1→∀y ∈ l[i].kids,(i:Int)<y∧y<(l.length:Int)):=yD (by
      intro h i hi h2
      by_cases AZ:i=k
      ·subst AZ; exact h
      ·exact HR.out i hi (by omega))
     generalize l[k]=x at *;obtain⟨kind,pos,text,num,kA,kc,AB⟩:=x;have c4:w.cell? ⟨bb,AC+k*5+4,none⟩=some (.slice kA AB.length kc):=AD 4 (by omega);clear AD
     simp only at Ao AM Ac
     go_wp2_with fail
     go_loop [4] (fun i=>∃j:Nat,j≤AB.length∧i=.int .i64 j∧Hid (∀i (hi:i<AB.length),i<j→(k:Int)<AB[i]∧AB[i]<(l.length:Int))) (fun i=>AB.length-(intOf i).toNat)
     case atStart=>exact⟨0,zT _,rfl,yD fun i hi h=>by omega⟩
     case round=>
      obtain⟨j,hj,rfl,HJ⟩:=hrel
      by_cases Ah:j<AB.length
      ·have d1:decide ((j:Int)<(AB.length:Int))=true:=yP (by omega)
       have q2:(j:Int)<(AB.length:Int):=by omega
       obtain⟨b2,Ap,rfl,Ar,AU⟩:=zCC AT.out.kids j Ah;have Ag:Hid (¬((k:Int)<AB[j]∧AB[j]<(l.length:Int))→b=false):=yD (AM.out _ (yL Ah))
       have An:Hid (((k:Int)<AB[j]∧AB[j]<(l.length:Int))→∀i (hi:i<AB.length),i<j+1→(k:Int)<AB[i]∧AB[i]<(l.length:Int)):=yD (by
        intro h i hi h2
        by_cases Am:i=j
        ·subst Am; exact h
        ·exact HJ.out i hi (by omega))
       simp only at AU
       generalize AB[j]=y at *
       by_cases AO:(k:Int)<y
       ·have f1:decide (y≤(k:Int))=false:=yO (by omega)
        by_cases AQ:y<(l.length:Int)
        ·have f2:decide (y ≥ (l.length:Int))=false:=yO (by omega);have f3:decide ((l.length:Int)≤y)=false:=yO (by omega);have AX:=yD (An.out ⟨AO,AQ⟩);clear AO AQ
         go_wp2_with fail
         go_round
         case rel=>exact⟨j+1,by omega,by go_num,AX⟩
         case measure=>simp[intOf]; omega
        ·have f2:decide (y ≥ (l.length:Int))=true:=yP (by omega);have f3:decide ((l.length:Int)≤y)=true:=yP (by omega);have HB:=yD (Ag.out (fun h=>AQ h.2));clear AO AQ
         go_wp2_with fail
         go_ret;exact⟨xE HB.out.symm,Ext.refl _⟩
       ·have f1:decide (y≤(k:Int))=true:=yP (by omega);have HB:=yD (Ag.out (fun h=>AO h.1));clear AO
        go_wp2_with fail
        go_ret;exact⟨xE HB.out.symm,Ext.refl _⟩
      ·obtain rfl:j=AB.length:=by omega
       have d1:decide ((AB.length:Int)<(AB.length:Int))=false:=by simp
       have AX:=yD (Ac.out (fun y hy=>by obtain⟨i,hi,rfl⟩:=List.getElem_of_mem hy; exact HJ.out i hi hi))
       go_wp2_with fail
       go_round
       case rel=>exact⟨k+1,by omega,by go_num,AX⟩
       case measure=>simp[intOf]; omega
    ·obtain rfl:k=l.length:=by omega
     have d0:decide ((l.length:Int)<(l.length:Int))=false:=by simp
     have Ae:Hid (zBU l=true):=yD ((zBA l).2 (fun i hi y hy=>HR.out i hi hi y (by rw[←zAA l i hi]; exact hy)));have HE:Hid (zNL l 0=zDJ (XD (XE l) 0)):=yD rfl;obtain⟨eo,AY⟩:∃eo,XD (XE l) 0=eo:=⟨_,rfl⟩;rw[AY] at HE;have Al:=yD AY;clear AY HR
     cases he:(zDJ eo==(l.length:Int)) with
     | false=>
      have Aj:(zDJ eo != (l.length:Int))=true:=by rw[bne,he]; rfl
      have HB:Hid (b=false):=yD (by
       rw[←hb.out];refine zL7 ?_;rw[Al.out];intro h;rw[zNk,yP h] at he
       cases he)
      go_wp2_with (refine(zM5 l _ l.length c w rfl HT.out hlen (fun x hx=>(AR.out x hx).kids) l.length 0 (zDJ eo) 0 (by omega) rfl (by omega) HE).mono ?_; rintro e w2 ⟨rfl,rfl⟩)
      go_ret;exact⟨xE HB.out.symm,Ext.refl _⟩
     | true=>
      have Aj:(zDJ eo != (l.length:Int))=false:=by rw[bne,he]; rfl
      have AN:Hid (l.all (zDu l)=b):=yD (by
       rw[←hb.out]
       symm
       refine zMJ hp (by rw[Ad.out]; rfl) Ae.out ?_;rw[Al.out];rw[zNk] at he
       exact of_decide_eq_true he)
      have Aq:Hid (∀x ∈ l,zDd l x.kids):=yD (by
       intro x hx y hy;obtain⟨i,hi,rfl⟩:=List.getElem_of_mem hx;have h1:=(zBA l).1 Ae.out i hi y (by rw[zAA l i hi]; exact hy)
       exact⟨y.toNat,by omega,by omega⟩)
      go_wp2_with (refine(zM5 l _ l.length c w rfl HT.out hlen (fun x hx=>(AR.out x hx).kids) l.length 0 (zDJ eo) 0 (by omega) rfl (by omega) HE).mono ?_; rintro e w2 ⟨rfl,rfl⟩)
      clear he Aj
      go_loopw [5] (fun i wr=>∃k:Nat,k≤l.length∧i=.int .i64 k∧Hid (Ext w wr)∧Hid (∀i (hi:i<l.length),i<k→zDu l l[i]=true)) (fun i _=>l.length-(intOf i).toNat)
      case atStart=>exact⟨0,zT _,rfl,yD (Ext.refl _),yD fun i hi h=>by omega⟩
      case round=>
       obtain⟨k,hk,rfl,HX,HR⟩:=hrel;obtain⟨wa,rfl⟩:∃wa:World,wa=wr:=⟨_,rfl⟩
       by_cases AG:k<l.length
       ·have d0:decide ((k:Int)<(l.length:Int))=true:=yP (by omega)
        have q1:(k:Int)<(l.length:Int):=by omega
        have AS:=yD (HT.out.ext HX.out);obtain⟨b1,AW,hA,AE,AD⟩:=AS.out.at_ k AG;injection hA with hA;injection hA with hA1 hA2;subst hA1 hA2;have AT:Hid (VQ wa l[k]):=yD (AS.out.ok _ (yL AG));have Ai:Hid (zDd l l[k].kids):=yD (Aq.out _ (yL AG));have AJ:Hid (zBz l[k]):=yD (AR.out _ (yL AG));obtain⟨t,ht⟩:∃t,zDu l l[k]=t:=⟨_,rfl⟩
        have Ab:Hid (t=true→∀i (hi:i<l.length),i<k+1→zDu l l[i]=true):=yD (by
         intro h i hi h2
         by_cases AZ:i=k
         ·subst AZ; rw[ht]; exact h
         ·exact HR.out i hi (by omega))
        have AH:Hid (t=false→b=false):=yD (by
         intro h;rw[←AN.out,Bool.eq_false_iff];intro hh
         have:=List.all_eq_true.1 hh l[k] (yL AG)
         rw[ht,h] at this
         cases this)
        generalize l[k]=x at *;obtain⟨kind,pos,text,num,kA,kc,AB⟩:=x;have c0:wa.cell? ⟨bb,AC+k*5,none⟩=some (.int .u8 kind):=AD 0 (by omega);have c1:wa.cell? ⟨bb,AC+k*5+1,none⟩=some (.int .i64 pos):=AD 1 (by omega);have c2:wa.cell? ⟨bb,AC+k*5+2,none⟩=some (.string text):=AD 2 (by omega);have c3:wa.cell? ⟨bb,AC+k*5+3,none⟩=some (.int .i64 num):=AD 3 (by omega);have c4:wa.cell? ⟨bb,AC+k*5+4,none⟩=some (.slice kA AB.length kc):=AD 4 (by omega);clear AD;have AV:Hid (t=(decide (1≤kind)&&(decide (kind≤26)&&(vL kind num text.data.toList&&vY kind (vG l AB))))):=yD ht.symm;clear ht
        go_upto_region 16 with fail
        by_cases Ak:1≤kind
        ·have f1:decide (kind<1)=false:=yO (by omega)
         have AK:¬kind<1:=by omega
         by_cases AU:kind≤26
         ·have f2:decide (kind > 26)=false:=yO (by omega)
          have AL:¬26<kind:=by omega
          have Aa:Hid (t=(vL kind num text.data.toList&&vY kind (vG l AB))):=yD (by rw[AV.out,yP Ak,yP AU]; rfl);obtain⟨tw,HW⟩:∃x,Hid (vL kind num text.data.toList=x):=⟨_,yD rfl⟩;rw[HW.out] at Aa
          cases tw with
          | false=>
           have HB:Hid (b=false):=yD (AH.out (by rw[Aa.out]; rfl));apply xY (by kernel_rfl) (by kernel_rfl) (by kernel_rfl);apply sP q1 (.slice (some ⟨bb,AC,none⟩) l.length c);apply sP q1 (.int .i64 (k:Int));apply sP q1 (.pointer (some ⟨bb,AC+k*5,none⟩));apply sP q1 (.pointer (some ⟨bb,AC+k*5,none⟩));apply sR c0 AE q1 (.int .u8 kind);apply yZ (.bool false) rfl rfl rfl
           ·intro w' AA hH;clear hH;simp[yY,go_sem,AK];exact Ext.refl _
           apply sP q1 (.bool false);apply xR (.slice (some ⟨bb,AC,none⟩) l.length c) (by kernel_rfl) rfl rfl
           ·intro w' AA hH;clear hH;simp[yY,go_sem,q1];exact Ext.refl _
           apply xR (.int .i64 (k:Int)) (by kernel_rfl) rfl rfl
           ·intro w' AA hH;clear hH;simp[yY,go_sem,q1];exact Ext.refl _
           apply xR (.pointer (some ⟨bb,AC+k*5,none⟩)) (by kernel_rfl) rfl rfl
           ·intro w' AA hH;clear hH;simp[yY,go_sem,q1];exact Ext.refl _
           apply xR (.pointer (some ⟨bb,AC+k*5,none⟩)) (by kernel_rfl) rfl rfl
           ·intro w' AA hH;clear hH;simp[yY,go_sem,q1];exact Ext.refl _
           apply xR (.int .u8 kind) (by kernel_rfl) rfl rfl
           ·intro w' AA hH;clear hH;have z0:=(AA.cell (p:=⟨bb,AC+k*5,none⟩) AE).trans c0;simp[yY,go_sem,z0,q1];exact Ext.refl _
           apply xR (.bool false) (by kernel_rfl) rfl rfl
           ·intro w' AA hH;clear hH;simp[yY,go_sem,AL];exact Ext.refl _
           apply sP q1 (.bool false);apply sP q1 (.bool false);apply xR (.slice (some ⟨bb,AC,none⟩) l.length c) (by kernel_rfl) rfl rfl
           ·intro w' AA hH;clear hH;simp[yY,go_sem,q1];exact Ext.refl _
           apply xR (.int .i64 (k:Int)) (by kernel_rfl) rfl rfl
           ·intro w' AA hH;clear hH;simp[yY,go_sem,q1];exact Ext.refl _
           apply xR (.pointer (some ⟨bb,AC+k*5,none⟩)) (by kernel_rfl) rfl rfl
           ·intro w' AA hH;clear hH;simp[yY,go_sem,q1];exact Ext.refl _
           apply xR (.agg #[.int .u8 kind,.int .i64 pos,.string text,.int .i64 num,.slice kA AB.length kc]) (by kernel_rfl) rfl rfl
           ·intro w' AA hH;clear hH;have z0:=(AA.cell (p:=⟨bb,AC+k*5,none⟩) AE).trans c0;have z1:=(AA.cell (p:=⟨bb,AC+k*5+1,none⟩) AE).trans c1;have z2:=(AA.cell (p:=⟨bb,AC+k*5+2,none⟩) AE).trans c2;have z3:=(AA.cell (p:=⟨bb,AC+k*5+3,none⟩) AE).trans c3;have z4:=(AA.cell (p:=⟨bb,AC+k*5+4,none⟩) AE).trans c4;simp[yY,go_sem,z0,z1,z2,z3,z4,q1];exact Ext.refl _
           apply xR (.bool false) (by kernel_rfl) rfl rfl
           ·intro w' AA hH;clear hH;simp[yY,go_sem];refine(zEz ⟨kind,pos,text,num,kA,kc,AB⟩ w' ⟨by omega,by omega⟩ AJ.out.text false HW.out).mono ?_;rintro e w2 ⟨rfl,hx⟩;exact⟨_,rfl,rfl,hx⟩
           apply xR (.bool true) (by kernel_rfl) rfl rfl
           ·intro w' AA hH;clear hH;simp[yY,go_sem,q1];exact Ext.refl _
           apply sP q1 (.bool true);apply sP q1 (.bool true);apply xQ (by kernel_rfl) rfl;apply xQ (by kernel_rfl) rfl;apply xQ (by kernel_rfl) rfl;apply xQ (by kernel_rfl) rfl;apply xQ (by kernel_rfl) rfl;apply xQ (by kernel_rfl) rfl;apply xQ (by kernel_rfl) rfl;apply xQ (by kernel_rfl) rfl;apply xQ (by kernel_rfl) rfl;apply xQ (by kernel_rfl) rfl;apply xQ (by kernel_rfl) rfl;apply xQ (by kernel_rfl) rfl;apply xQ (by kernel_rfl) rfl;apply sP q1 (.bool true);apply xN;intro w2 AF hH;clear hH;have AI:Hid (Ext w w2):=yD (HX.out.trans AF);clear AF
           try simp only[Act.put,yA,yC,yB]
           go_wp2_with fail
           go_ret;exact⟨xE HB.out.symm,AI.out⟩
          | true=>
           obtain⟨tk,HK⟩:∃x,Hid (vY kind (vG l AB)=x):=⟨_,yD rfl⟩;have AP:Hid ((vG l AB).length=AB.length):=yD (by simp[vG]);have Af:Hid (t=tk):=yD (by rw[Aa.out,HK.out]; simp)
           cases tk with
           | false=>
            have HB:Hid (b=false):=yD (AH.out Af.out);apply xY (by kernel_rfl) (by kernel_rfl) (by kernel_rfl);apply sP q1 (.slice (some ⟨bb,AC,none⟩) l.length c);apply sP q1 (.int .i64 (k:Int));apply sP q1 (.pointer (some ⟨bb,AC+k*5,none⟩));apply sP q1 (.pointer (some ⟨bb,AC+k*5,none⟩));apply sR c0 AE q1 (.int .u8 kind);apply yZ (.bool false) rfl rfl rfl
            ·intro w' AA hH;clear hH;simp[yY,go_sem,AK];exact Ext.refl _
            apply sP q1 (.bool false);apply xR (.slice (some ⟨bb,AC,none⟩) l.length c) (by kernel_rfl) rfl rfl
            ·intro w' AA hH;clear hH;simp[yY,go_sem,q1];exact Ext.refl _
            apply xR (.int .i64 (k:Int)) (by kernel_rfl) rfl rfl
            ·intro w' AA hH;clear hH;simp[yY,go_sem,q1];exact Ext.refl _
            apply xR (.pointer (some ⟨bb,AC+k*5,none⟩)) (by kernel_rfl) rfl rfl
            ·intro w' AA hH;clear hH;simp[yY,go_sem,q1];exact Ext.refl _
            apply xR (.pointer (some ⟨bb,AC+k*5,none⟩)) (by kernel_rfl) rfl rfl
            ·intro w' AA hH;clear hH;simp[yY,go_sem,q1];exact Ext.refl _
            apply xR (.int .u8 kind) (by kernel_rfl) rfl rfl
            ·intro w' AA hH;clear hH;have z0:=(AA.cell (p:=⟨bb,AC+k*5,none⟩) AE).trans c0;simp[yY,go_sem,z0,q1];exact Ext.refl _
            apply xR (.bool false) (by kernel_rfl) rfl rfl
            ·intro w' AA hH;clear hH;simp[yY,go_sem,AL];exact Ext.refl _
            apply sP q1 (.bool false);apply sP q1 (.bool false);apply xR (.slice (some ⟨bb,AC,none⟩) l.length c) (by kernel_rfl) rfl rfl
            ·intro w' AA hH;clear hH;simp[yY,go_sem,q1];exact Ext.refl _
            apply xR (.int .i64 (k:Int)) (by kernel_rfl) rfl rfl
            ·intro w' AA hH;clear hH;simp[yY,go_sem,q1];exact Ext.refl _
            apply xR (.pointer (some ⟨bb,AC+k*5,none⟩)) (by kernel_rfl) rfl rfl
            ·intro w' AA hH;clear hH;simp[yY,go_sem,q1];exact Ext.refl _
            apply xR (.agg #[.int .u8 kind,.int .i64 pos,.string text,.int .i64 num,.slice kA AB.length kc]) (by kernel_rfl) rfl rfl
            ·intro w' AA hH;clear hH;have z0:=(AA.cell (p:=⟨bb,AC+k*5,none⟩) AE).trans c0;have z1:=(AA.cell (p:=⟨bb,AC+k*5+1,none⟩) AE).trans c1;have z2:=(AA.cell (p:=⟨bb,AC+k*5+2,none⟩) AE).trans c2;have z3:=(AA.cell (p:=⟨bb,AC+k*5+3,none⟩) AE).trans c3;have z4:=(AA.cell (p:=⟨bb,AC+k*5+4,none⟩) AE).trans c4;simp[yY,go_sem,z0,z1,z2,z3,z4,q1];exact Ext.refl _
            apply xR (.bool true) (by kernel_rfl) rfl rfl
            ·intro w' AA hH;clear hH;simp[yY,go_sem];refine(zEz ⟨kind,pos,text,num,kA,kc,AB⟩ w' ⟨by omega,by omega⟩ AJ.out.text true HW.out).mono ?_;rintro e w2 ⟨rfl,hx⟩;exact⟨_,rfl,rfl,hx⟩
            apply xR (.bool false) (by kernel_rfl) rfl rfl
            ·intro w' AA hH;clear hH;simp[yY,go_sem,q1];exact Ext.refl _
            apply sP q1 (.bool false);apply sP q1 (.bool false);apply xR (.slice (some ⟨bb,AC,none⟩) l.length c) (by kernel_rfl) rfl rfl
            ·intro w' AA hH;clear hH;simp[yY,go_sem,q1];exact Ext.refl _
            apply xR (.int .i64 (k:Int)) (by kernel_rfl) rfl rfl
            ·intro w' AA hH;clear hH;simp[yY,go_sem,q1];exact Ext.refl _
            apply xR (.pointer (some ⟨bb,AC+k*5,none⟩)) (by kernel_rfl) rfl rfl
            ·intro w' AA hH;clear hH;simp[yY,go_sem,q1];exact Ext.refl _
            apply xR (.pointer (some ⟨bb,AC+k*5,none⟩)) (by kernel_rfl) rfl rfl
            ·intro w' AA hH;clear hH;simp[yY,go_sem,q1];exact Ext.refl _
            apply xR (.int .u8 kind) (by kernel_rfl) rfl rfl
            ·intro w' AA hH;clear hH;have z0:=(AA.cell (p:=⟨bb,AC+k*5,none⟩) AE).trans c0;simp[yY,go_sem,z0,q1];exact Ext.refl _
            apply xR (.slice (some ⟨bb,AC,none⟩) l.length c) (by kernel_rfl) rfl rfl
            ·intro w' AA hH;clear hH;simp[yY,go_sem,q1];exact Ext.refl _
            apply xR (.slice (some ⟨bb,AC,none⟩) l.length c) (by kernel_rfl) rfl rfl
            ·intro w' AA hH;clear hH;simp[yY,go_sem,q1];exact Ext.refl _
            apply xR (.int .i64 (k:Int)) (by kernel_rfl) rfl rfl
            ·intro w' AA hH;clear hH;simp[yY,go_sem,q1];exact Ext.refl _
            apply xR (.pointer (some ⟨bb,AC+k*5,none⟩)) (by kernel_rfl) rfl rfl
            ·intro w' AA hH;clear hH;simp[yY,go_sem,q1];exact Ext.refl _
            apply xR (.agg #[.int .u8 kind,.int .i64 pos,.string text,.int .i64 num,.slice kA AB.length kc]) (by kernel_rfl) rfl rfl
            ·intro w' AA hH;clear hH;have z0:=(AA.cell (p:=⟨bb,AC+k*5,none⟩) AE).trans c0;have z1:=(AA.cell (p:=⟨bb,AC+k*5+1,none⟩) AE).trans c1;have z2:=(AA.cell (p:=⟨bb,AC+k*5+2,none⟩) AE).trans c2;have z3:=(AA.cell (p:=⟨bb,AC+k*5+3,none⟩) AE).trans c3;have z4:=(AA.cell (p:=⟨bb,AC+k*5+4,none⟩) AE).trans c4;simp[yY,go_sem,z0,z1,z2,z3,z4,q1];exact Ext.refl _
            apply zEe (fun v w'=>∃A' c',v=.slice A' AB.length c'∧Cells w' A' (xL (vG l AB))) (by rintro v w w' ⟨A',c',h1,h2⟩ hx; exact⟨A',c',h1,h2.ext hx⟩) (by kernel_rfl) rfl rfl
            ·intro w' AA hH;clear hH;simp[yY,go_sem];refine(zIN l _ l.length c ⟨kind,pos,text,num,kA,kc,AB⟩ w' rfl (AS.out.ext AA) hlen AJ.out.kids (AT.out.ext AA) Ai.out).mono ?_;rintro e w2 ⟨A',c',rfl,h1,h2⟩;exact⟨_,rfl,⟨A',⟨c',rfl⟩,h1⟩,h2⟩
            intro vk;apply xR (.bool false) (by kernel_rfl) rfl rfl
            ·intro w' AA hH;obtain⟨A',c',h1,h2⟩:=hH _ (List.mem_cons_self ..) ⟨99,rfl,by decide⟩;subst h1;clear hH;simp[yY,go_sem];refine(zK8 kind ⟨by omega,by omega⟩ A' (vG l AB) _ c' w' AP.out.symm h2 (by have:=AP.out; have:=AJ.out.kids; simp only at this; omega) false HK.out).mono ?_;rintro e w2 ⟨rfl,hx⟩;exact⟨_,rfl,rfl,hx⟩
            apply xR (.bool true) (by kernel_rfl) rfl rfl
            ·intro w' AA hH;clear hH;simp[yY,go_sem,q1];exact Ext.refl _
            apply sP q1 (.bool true);apply xN;intro w2 AF hH;clear hH;have AI:Hid (Ext w w2):=yD (HX.out.trans AF);clear AF
            try simp only[Act.put,yA,yC,yB]
            go_wp2_with fail
            go_ret;exact⟨xE HB.out.symm,AI.out⟩
           | true=>
            have HY:=yD (Ab.out Af.out);apply xY (by kernel_rfl) (by kernel_rfl) (by kernel_rfl);apply sP q1 (.slice (some ⟨bb,AC,none⟩) l.length c);apply sP q1 (.int .i64 (k:Int));apply sP q1 (.pointer (some ⟨bb,AC+k*5,none⟩));apply sP q1 (.pointer (some ⟨bb,AC+k*5,none⟩));apply sR c0 AE q1 (.int .u8 kind);apply yZ (.bool false) rfl rfl rfl
            ·intro w' AA hH;clear hH;simp[yY,go_sem,AK];exact Ext.refl _
            apply sP q1 (.bool false);apply xR (.slice (some ⟨bb,AC,none⟩) l.length c) (by kernel_rfl) rfl rfl
            ·intro w' AA hH;clear hH;simp[yY,go_sem,q1];exact Ext.refl _
            apply xR (.int .i64 (k:Int)) (by kernel_rfl) rfl rfl
            ·intro w' AA hH;clear hH;simp[yY,go_sem,q1];exact Ext.refl _
            apply xR (.pointer (some ⟨bb,AC+k*5,none⟩)) (by kernel_rfl) rfl rfl
            ·intro w' AA hH;clear hH;simp[yY,go_sem,q1];exact Ext.refl _
            apply xR (.pointer (some ⟨bb,AC+k*5,none⟩)) (by kernel_rfl) rfl rfl
            ·intro w' AA hH;clear hH;simp[yY,go_sem,q1];exact Ext.refl _
            apply xR (.int .u8 kind) (by kernel_rfl) rfl rfl
            ·intro w' AA hH;clear hH;have z0:=(AA.cell (p:=⟨bb,AC+k*5,none⟩) AE).trans c0;simp[yY,go_sem,z0,q1];exact Ext.refl _
            apply xR (.bool false) (by kernel_rfl) rfl rfl
            ·intro w' AA hH;clear hH;simp[yY,go_sem,AL];exact Ext.refl _
            apply sP q1 (.bool false);apply sP q1 (.bool false);apply xR (.slice (some ⟨bb,AC,none⟩) l.length c) (by kernel_rfl) rfl rfl
            ·intro w' AA hH;clear hH;simp[yY,go_sem,q1];exact Ext.refl _
            apply xR (.int .i64 (k:Int)) (by kernel_rfl) rfl rfl
            ·intro w' AA hH;clear hH;simp[yY,go_sem,q1];exact Ext.refl _
            apply xR (.pointer (some ⟨bb,AC+k*5,none⟩)) (by kernel_rfl) rfl rfl
            ·intro w' AA hH;clear hH;simp[yY,go_sem,q1];exact Ext.refl _
            apply xR (.agg #[.int .u8 kind,.int .i64 pos,.string text,.int .i64 num,.slice kA AB.length kc]) (by kernel_rfl) rfl rfl
            ·intro w' AA hH;clear hH;have z0:=(AA.cell (p:=⟨bb,AC+k*5,none⟩) AE).trans c0;have z1:=(AA.cell (p:=⟨bb,AC+k*5+1,none⟩) AE).trans c1;have z2:=(AA.cell (p:=⟨bb,AC+k*5+2,none⟩) AE).trans c2;have z3:=(AA.cell (p:=⟨bb,AC+k*5+3,none⟩) AE).trans c3;have z4:=(AA.cell (p:=⟨bb,AC+k*5+4,none⟩) AE).trans c4;simp[yY,go_sem,z0,z1,z2,z3,z4,q1];exact Ext.refl _
            apply xR (.bool true) (by kernel_rfl) rfl rfl
            ·intro w' AA hH;clear hH;simp[yY,go_sem];refine(zEz ⟨kind,pos,text,num,kA,kc,AB⟩ w' ⟨by omega,by omega⟩ AJ.out.text true HW.out).mono ?_;rintro e w2 ⟨rfl,hx⟩;exact⟨_,rfl,rfl,hx⟩
            apply xR (.bool false) (by kernel_rfl) rfl rfl
            ·intro w' AA hH;clear hH;simp[yY,go_sem,q1];exact Ext.refl _
            apply sP q1 (.bool false);apply sP q1 (.bool false);apply xR (.slice (some ⟨bb,AC,none⟩) l.length c) (by kernel_rfl) rfl rfl
            ·intro w' AA hH;clear hH;simp[yY,go_sem,q1];exact Ext.refl _
            apply xR (.int .i64 (k:Int)) (by kernel_rfl) rfl rfl
            ·intro w' AA hH;clear hH;simp[yY,go_sem,q1];exact Ext.refl _
            apply xR (.pointer (some ⟨bb,AC+k*5,none⟩)) (by kernel_rfl) rfl rfl
            ·intro w' AA hH;clear hH;simp[yY,go_sem,q1];exact Ext.refl _
            apply xR (.pointer (some ⟨bb,AC+k*5,none⟩)) (by kernel_rfl) rfl rfl
            ·intro w' AA hH;clear hH;simp[yY,go_sem,q1];exact Ext.refl _
            apply xR (.int .u8 kind) (by kernel_rfl) rfl rfl
            ·intro w' AA hH;clear hH;have z0:=(AA.cell (p:=⟨bb,AC+k*5,none⟩) AE).trans c0;simp[yY,go_sem,z0,q1];exact Ext.refl _
            apply xR (.slice (some ⟨bb,AC,none⟩) l.length c) (by kernel_rfl) rfl rfl
            ·intro w' AA hH;clear hH;simp[yY,go_sem,q1];exact Ext.refl _
            apply xR (.slice (some ⟨bb,AC,none⟩) l.length c) (by kernel_rfl) rfl rfl
            ·intro w' AA hH;clear hH;simp[yY,go_sem,q1];exact Ext.refl _
            apply xR (.int .i64 (k:Int)) (by kernel_rfl) rfl rfl
            ·intro w' AA hH;clear hH;simp[yY,go_sem,q1];exact Ext.refl _
            apply xR (.pointer (some ⟨bb,AC+k*5,none⟩)) (by kernel_rfl) rfl rfl
            ·intro w' AA hH;clear hH;simp[yY,go_sem,q1];exact Ext.refl _
            apply xR (.agg #[.int .u8 kind,.int .i64 pos,.string text,.int .i64 num,.slice kA AB.length kc]) (by kernel_rfl) rfl rfl
            ·intro w' AA hH;clear hH;have z0:=(AA.cell (p:=⟨bb,AC+k*5,none⟩) AE).trans c0;have z1:=(AA.cell (p:=⟨bb,AC+k*5+1,none⟩) AE).trans c1;have z2:=(AA.cell (p:=⟨bb,AC+k*5+2,none⟩) AE).trans c2;have z3:=(AA.cell (p:=⟨bb,AC+k*5+3,none⟩) AE).trans c3;have z4:=(AA.cell (p:=⟨bb,AC+k*5+4,none⟩) AE).trans c4;simp[yY,go_sem,z0,z1,z2,z3,z4,q1];exact Ext.refl _
            apply zEe (fun v w'=>∃A' c',v=.slice A' AB.length c'∧Cells w' A' (xL (vG l AB))) (by rintro v w w' ⟨A',c',h1,h2⟩ hx; exact⟨A',c',h1,h2.ext hx⟩) (by kernel_rfl) rfl rfl
            ·intro w' AA hH;clear hH;simp[yY,go_sem];refine(zIN l _ l.length c ⟨kind,pos,text,num,kA,kc,AB⟩ w' rfl (AS.out.ext AA) hlen AJ.out.kids (AT.out.ext AA) Ai.out).mono ?_;rintro e w2 ⟨A',c',rfl,h1,h2⟩;exact⟨_,rfl,⟨A',⟨c',rfl⟩,h1⟩,h2⟩
            intro vk;apply xR (.bool true) (by kernel_rfl) rfl rfl
            ·intro w' AA hH;obtain⟨A',c',h1,h2⟩:=hH _ (List.mem_cons_self ..) ⟨99,rfl,by decide⟩;subst h1;clear hH;simp[yY,go_sem];refine(zK8 kind ⟨by omega,by omega⟩ A' (vG l AB) _ c' w' AP.out.symm h2 (by have:=AP.out; have:=AJ.out.kids; simp only at this; omega) true HK.out).mono ?_;rintro e w2 ⟨rfl,hx⟩;exact⟨_,rfl,rfl,hx⟩
            apply xR (.bool false) (by kernel_rfl) rfl rfl
            ·intro w' AA hH;clear hH;simp[yY,go_sem,q1];exact Ext.refl _
            apply sP q1 (.bool false);apply xN;intro w2 AF hH;clear hH;have AI:Hid (Ext w w2):=yD (HX.out.trans AF);clear AF
            try simp only[Act.put,yA,yC,yB]
            go_wp2_with fail
            go_roundw
            case rel=>exact⟨k+1,by omega,by go_num,AI,HY⟩
            case measure=>simp[intOf]; omega
         ·have AL:26<kind:=by omega
          have HB:Hid (b=false):=yD (AH.out (by rw[AV.out,yO AU]; simp));apply xY (by kernel_rfl) (by kernel_rfl) (by kernel_rfl);apply sP q1 (.slice (some ⟨bb,AC,none⟩) l.length c);apply sP q1 (.int .i64 (k:Int));apply sP q1 (.pointer (some ⟨bb,AC+k*5,none⟩));apply sP q1 (.pointer (some ⟨bb,AC+k*5,none⟩));apply sR c0 AE q1 (.int .u8 kind);apply yZ (.bool false) rfl rfl rfl
          ·intro w' AA hH;clear hH;simp[yY,go_sem,AK];exact Ext.refl _
          apply sP q1 (.bool false);apply xR (.slice (some ⟨bb,AC,none⟩) l.length c) (by kernel_rfl) rfl rfl
          ·intro w' AA hH;clear hH;simp[yY,go_sem,q1];exact Ext.refl _
          apply xR (.int .i64 (k:Int)) (by kernel_rfl) rfl rfl
          ·intro w' AA hH;clear hH;simp[yY,go_sem,q1];exact Ext.refl _
          apply xR (.pointer (some ⟨bb,AC+k*5,none⟩)) (by kernel_rfl) rfl rfl
          ·intro w' AA hH;clear hH;simp[yY,go_sem,q1];exact Ext.refl _
          apply xR (.pointer (some ⟨bb,AC+k*5,none⟩)) (by kernel_rfl) rfl rfl
          ·intro w' AA hH;clear hH;simp[yY,go_sem,q1];exact Ext.refl _
          apply xR (.int .u8 kind) (by kernel_rfl) rfl rfl
          ·intro w' AA hH;clear hH;have z0:=(AA.cell (p:=⟨bb,AC+k*5,none⟩) AE).trans c0;simp[yY,go_sem,z0,q1];exact Ext.refl _
          apply xR (.bool true) (by kernel_rfl) rfl rfl
          ·intro w' AA hH;clear hH;simp[yY,go_sem,AL];exact Ext.refl _
          apply sP q1 (.bool true);apply sP q1 (.bool true);apply xQ (by kernel_rfl) rfl;apply xQ (by kernel_rfl) rfl;apply xQ (by kernel_rfl) rfl;apply xQ (by kernel_rfl) rfl;apply xQ (by kernel_rfl) rfl;apply xQ (by kernel_rfl) rfl;apply sP q1 (.bool true);apply sP q1 (.bool true);apply xQ (by kernel_rfl) rfl;apply xQ (by kernel_rfl) rfl;apply xQ (by kernel_rfl) rfl;apply xQ (by kernel_rfl) rfl;apply xQ (by kernel_rfl) rfl;apply xQ (by kernel_rfl) rfl;apply xQ (by kernel_rfl) rfl;apply xQ (by kernel_rfl) rfl;apply xQ (by kernel_rfl) rfl;apply xQ (by kernel_rfl) rfl;apply xQ (by kernel_rfl) rfl;apply xQ (by kernel_rfl) rfl;apply xQ (by kernel_rfl) rfl;apply sP q1 (.bool true);apply xN;intro w2 AF hH;clear hH;have AI:Hid (Ext w w2):=yD (HX.out.trans AF);clear AF
          try simp only[Act.put,yA,yC,yB]
          go_wp2_with fail
          go_ret;exact⟨xE HB.out.symm,AI.out⟩
        ·have AK:kind<1:=by omega
         have HB:Hid (b=false):=yD (AH.out (by rw[AV.out,yO Ak]; simp));apply xY (by kernel_rfl) (by kernel_rfl) (by kernel_rfl);apply sP q1 (.slice (some ⟨bb,AC,none⟩) l.length c);apply sP q1 (.int .i64 (k:Int));apply sP q1 (.pointer (some ⟨bb,AC+k*5,none⟩));apply sP q1 (.pointer (some ⟨bb,AC+k*5,none⟩));apply sR c0 AE q1 (.int .u8 kind);apply yZ (.bool true) rfl rfl rfl
         ·intro w' AA hH;clear hH;simp[yY,go_sem,AK];exact Ext.refl _
         apply sP q1 (.bool true);apply xQ (by kernel_rfl) rfl;apply xQ (by kernel_rfl) rfl;apply xQ (by kernel_rfl) rfl;apply xQ (by kernel_rfl) rfl;apply xQ (by kernel_rfl) rfl;apply xQ (by kernel_rfl) rfl;apply sP q1 (.bool true);apply sP q1 (.bool true);apply xQ (by kernel_rfl) rfl;apply xQ (by kernel_rfl) rfl;apply xQ (by kernel_rfl) rfl;apply xQ (by kernel_rfl) rfl;apply xQ (by kernel_rfl) rfl;apply xQ (by kernel_rfl) rfl;apply sP q1 (.bool true);apply sP q1 (.bool true);apply xQ (by kernel_rfl) rfl;apply xQ (by kernel_rfl) rfl;apply xQ (by kernel_rfl) rfl;apply xQ (by kernel_rfl) rfl;apply xQ (by kernel_rfl) rfl;apply xQ (by kernel_rfl) rfl;apply xQ (by kernel_rfl) rfl;apply xQ (by kernel_rfl) rfl;apply xQ (by kernel_rfl) rfl;apply xQ (by kernel_rfl) rfl;apply xQ (by kernel_rfl) rfl;apply xQ (by kernel_rfl) rfl;apply xQ (by kernel_rfl) rfl;apply sP q1 (.bool true);apply xN;intro w2 AF hH;clear hH;have AI:Hid (Ext w w2):=yD (HX.out.trans AF);clear AF
         try simp only[Act.put,yA,yC,yB]
         go_wp2_with fail
         go_ret;exact⟨xE HB.out.symm,AI.out⟩
       ·obtain rfl:k=l.length:=by omega
        have d0:decide ((l.length:Int)<(l.length:Int))=false:=by simp
        have HB:Hid (b=true):=yD (by
         rw[←AN.out,zG];intro x hx;obtain⟨i,hi,rfl⟩:=List.getElem_of_mem hx
         exact HR.out i hi hi)
        go_wp2_with fail
        go_ret;exact⟨xE HB.out.symm,HX.out⟩
end Go.Proofs.YtioffpjajhalaaaGreatDoor.TT
