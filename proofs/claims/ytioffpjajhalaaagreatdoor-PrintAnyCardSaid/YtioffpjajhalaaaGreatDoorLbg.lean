/- The document's end and Find, walked. (and what follows of it). The conditions stand at each lemma. -/
import Derived.Test.YtioffpjajhalaaaGreatDoorLaa
import Derived.Test.YtioffpjajhalaaaGreatDoorLbf
set_option linter.unusedVariables false
set_option linter.unusedSimpArgs false
set_option maxRecDepth 100000
set_option maxHeartbeats 16000000
namespace Go.Proofs.YtioffpjajhalaaaGreatDoor.TT
open Go Go.RowKit
def zDJ:Option Nat→Int
 | none=>-1
 | some a=>(a:Int)
def zNL (l:List xB)(i:Nat):Int:=zDJ (XD (XE l) i)
theorem zM5 (l:List xB)(A:Option Addr)(n c:Nat)(w:World)(hn:n=l.length)(ht:vV w A l)(hlen:l.length≤9000)(hkl:∀x ∈ l,x.kids.length≤9000):∀(f i:Nat) (v:Int) (x:Int),l.length-i≤f→x=(i:Int)→i≤9000→Hid (zNL l i=v) →
  Calls Tryz.prog 98 #[.slice A n c,.int .i64 x] w fun e w'=>e=.returned (.int .i64 v)∧w=w':=by
 subst hn;have HT:=yD ht;have AH:=yD hkl;clear ht hkl;intro f
 induction f with
 | zero=>
  intro i v x hf hx hi hv;subst hx;have HV:Hid (v=-1):=yD (by rw[←hv.out]; unfold zNL; rw[zBE,ZH,if_neg (by omega)]; rfl);have d1:decide ((i:Int) ≥ (l.length:Int))=true:=yP (by omega);have d2:decide (l.length≤i)=true:=yP (by omega)
  go_enter Tryz.func98,Tryz.ntmps98
  go_wp2_with fail
  go_ret;exact⟨by rw[HV.out]; rfl,rfl⟩
 | succ f ih=>
  intro i v x hf hx hi hv;subst hx
  by_cases AC:i<l.length
  ·have d1:decide ((i:Int) ≥ (l.length:Int))=false:=yO (by omega);have d2:decide (l.length≤i)=false:=yO (by omega)
   have q0:(i:Int)<(l.length:Int):=by omega
   have IH:=yD ih;clear ih;obtain⟨b,AN,rfl,hb,AB⟩:=HT.out.at_ i AC;have AK:Hid (VQ w l[i]):=yD (HT.out.ok _ (yL AC));have AO:l[i].kids.length≤9000:=AH.out _ (yL AC)
   have HV:Hid (v=zDJ (zAt (XD (XE l)) l.length l[i].kids (some (i+1)))):=yD (by
    rw[←hv.out];unfold zNL
    rw[zBE,ZH,if_pos AC,zAA l i AC])
   generalize l[i]=x at *;obtain⟨kind,pos,text,num,kA,kc,AA⟩:=x;have c4:w.cell? ⟨b,AN+i*5+4,none⟩=some (.slice kA AA.length kc):=AB 4 (by omega)
   simp only at AO HV
   clear AB
   go_enter Tryz.func98,Tryz.ntmps98
   go_wp2_with fail
   go_loop [5,6] (fun at_ kk=>∃(k:Nat) (o:Option Nat),k≤AA.length∧kk=.int .i64 k∧at_=.int .i64 (zDJ o)∧Hid (∀a,o=some a→i<a∧a≤l.length)∧Hid (zAt (XD (XE l)) l.length AA (some (i+1))=zAt (XD (XE l)) l.length (AA.drop k) o)) (fun _ kk=>AA.length-(intOf kk).toNat)
   case atStart=>exact⟨0,some (i+1),zT _,rfl,by show _=Value.int .i64 (((i+1:Nat)):Int); go_num,yD (fun a h=>by injection h with h; omega),yD rfl⟩
   case round=>
    obtain⟨k,o,hk,rfl,rfl,HO,HK⟩:=hrel
    by_cases AG:k<AA.length
    ·have d3:decide ((k:Int)<(AA.length:Int))=true:=yP (by omega);obtain⟨b2,AJ,rfl,AP,AM⟩:=zCC AK.out.kids k AG;have AF:=List.drop_eq_getElem_cons AG
     simp only at AM
     generalize AA[k]=kv at *;rw[AF] at HK;clear AF
     cases o with
     | none=>
      have HZ:Hid (v=-1):=yD (by rw[HV.out,HK.out]; rfl)
      show Code.wp _ _ _ _ _
      have e1:zDJ none=-1:=rfl;rw[e1]
      go_wp2_with fail
      go_ret;exact⟨by rw[HZ.out]; rfl,rfl⟩
     | some a=>
      have e1:zDJ (some a)=(a:Int):=rfl;rw[e1];have AQ:=HO.out a rfl;have d4:decide ((a:Int)<0)=false:=yO (by omega);rw[YW] at HK
      by_cases AE:a<l.length
      ·have d5:decide ((a:Int) ≥ (l.length:Int))=false:=yO (by omega);have d6:decide (l.length≤a)=false:=yO (by omega)
       by_cases AD:kv=(a:Int)
       ·subst AD;have AI:Hid (zAt (XD (XE l)) l.length AA (some (i+1))=zAt (XD (XE l)) l.length (AA.drop (k+1)) (XD (XE l) a)):=yD (by rw[HK.out,if_pos ⟨AE,rfl⟩]);have HE:Hid (zNL l a=zDJ (XD (XE l) a)):=yD rfl
        have AL:Hid (∀a1,XD (XE l) a=some a1→i<a1∧a1≤l.length):=yD (by
         intro a1 h;have h1:=JJ h
         have:=ZH l
         omega)
        generalize XD (XE l) a=o2 at *
        go_wp2_with (refine(IH.out a (zDJ o2) (a:Int) (by omega) rfl (by omega) HE).mono ?_; rintro e w' ⟨rfl,rfl⟩)
        go_round
        case rel=>exact⟨k+1,o2,by omega,by go_num,rfl,AL,AI⟩
        case measure=>simp[intOf]; omega
       ·have e2:(kv==(a:Int))=false:=beq_eq_false_iff_ne.2 AD;have HZ:Hid (v=-1):=yD (by rw[HV.out,HK.out,if_neg (fun h=>AD h.2)]; rfl)
        go_wp2_with fail
        go_ret;exact⟨by rw[HZ.out]; rfl,rfl⟩
      ·have d5:decide ((a:Int) ≥ (l.length:Int))=true:=yP (by omega);have d6:decide (l.length≤a)=true:=yP (by omega);have HZ:Hid (v=-1):=yD (by rw[HV.out,HK.out,if_neg (fun h=>AE h.1)]; rfl)
       go_wp2_with fail
       go_ret;exact⟨by rw[HZ.out]; rfl,rfl⟩
    ·obtain rfl:k=AA.length:=by omega
     have d3:decide ((AA.length:Int)<(AA.length:Int))=false:=by simp
     have HZ:Hid (v=zDJ o):=yD (by
      have h1:=HK.out;rw[List.drop_length] at h1;rw[HV.out,h1]
      rfl)
     go_wp2_with fail
     go_ret;exact⟨by rw[HZ.out]; rfl,rfl⟩
  ·have HV:Hid (v=-1):=yD (by rw[←hv.out]; unfold zNL; rw[zBE,ZH,if_neg AC]; rfl);have d1:decide ((i:Int) ≥ (l.length:Int))=true:=yP (by omega);have d2:decide (l.length≤i)=true:=yP (by omega)
   go_enter Tryz.func98,Tryz.ntmps98
   go_wp2_with fail
   go_ret;exact⟨by rw[HV.out]; rfl,rfl⟩
theorem vW (w:World)(ls:List Int):Cells (w.alloc (.cells (xL ls).toArray 5)) (some ⟨w.heap.size,0,none⟩) (xL ls):=by
 have:=Cells.new w 5 (xL ls).toArray
 simpa using this
theorem zOK (L:Option Addr)(ls:List Int)(n c:Nat)(w:World)(hn:n=ls.length)(hl:Cells w L (xL ls))(hlen:ls.length≤9000)(b:Bool)(hb:Hid (vY 1 ls=b)) :
  Calls Tryz.prog 100 #[.int .u8 1,.slice L n c] w fun e w'=>e=.returned (.bool b)∧w=w':=by
 subst hn;have HL:=yD hl;clear hl;have HB:Hid (ls.all VJ=b):=yD (by rw[←hb.out]; rfl)
 go_enter Tryz.func100,Tryz.ntmps100
 go_wp2_with fail
 go_loop [5] (fun i=>∃k:Nat,k≤ls.length∧i=.int .i64 k∧Hid (∀j (hj:j<ls.length),j<k→VJ ls[j]=true)) (fun i=>ls.length-(intOf i).toNat)
 case atStart=>exact⟨0,zT _,rfl,yD fun j h1 h2=>by omega⟩
 case round=>
  obtain⟨k,hk,rfl,HR⟩:=hrel
  by_cases AB:k<ls.length
  ·have d0:decide ((k:Int)<(ls.length:Int))=true:=yP (by omega);obtain⟨bb,AF,rfl,AE,AC⟩:=zAW HL.out k AB;obtain⟨t,ht⟩:∃t,VJ ls[k]=t:=⟨_,rfl⟩
   have AA:Hid (t=true→∀j (hj:j<ls.length),j<k+1→VJ ls[j]=true):=yD (by
    intro h j h1 h2
    by_cases hj:j=k
    ·subst hj; rw[ht]; exact h
    ·exact HR.out j h1 (by omega))
   have AD:Hid (t=false→b=false):=yD (by
    intro h;rw[←HB.out,Bool.eq_false_iff];intro hh
    have:=List.all_eq_true.1 hh ls[k] (yL AB)
    rw[ht,h] at this
    cases this)
   generalize ls[k]=x at *;unfold VJ at ht
   by_cases h2:x=2
   ·subst h2;have HT:Hid (t=true):=yD (by rw[←ht]; rfl);clear ht
    go_wp2_with fail
    go_round
    case rel=>exact⟨k+1,by omega,by go_num,yD (AA.out HT.out)⟩
    case measure=>simp[intOf]; omega
   ·have e2:(x==2)=false:=beq_eq_false_iff_ne.2 h2
    have AH:(x != 2)=true:=by rw[bne,e2]; rfl
    by_cases h3:x=3
    ·subst h3;have HT:Hid (t=true):=yD (by rw[←ht]; rfl);clear ht
     go_wp2_with fail
     go_round
     case rel=>exact⟨k+1,by omega,by go_num,yD (AA.out HT.out)⟩
     case measure=>simp[intOf]; omega
    ·have e3:(x==3)=false:=beq_eq_false_iff_ne.2 h3
     have AG:(x != 3)=true:=by rw[bne,e3]; rfl
     have HT:Hid (t=false):=yD (by rw[←ht,e2,e3]; rfl);clear ht
     go_wp2_with fail
     go_ret;exact⟨xE (AD.out HT.out).symm,rfl⟩
  ·obtain rfl:k=ls.length:=by omega
   have d0:decide ((ls.length:Int)<(ls.length:Int))=false:=by simp
   go_wp2_with fail
   go_ret;exact⟨xE (by rw[←HB.out]; symm; rw[zG]; intro x hx; obtain⟨i,hi,rfl⟩:=List.getElem_of_mem hx; exact HR.out i hi hi),rfl⟩
theorem zOs (L:Option Addr)(ls:List Int)(n c:Nat)(w:World)(hn:n=ls.length)(hl:Cells w L (xL ls))(hlen:ls.length≤9000)(b:Bool)(hb:Hid (vY 2 ls=b)) :
  Calls Tryz.prog 100 #[.int .u8 2,.slice L n c] w fun e w'=>e=.returned (.bool b)∧Ext w w':=by
 subst hn;have HL:=yD hl;clear hl
 by_cases h0:0<ls.length
 ·have d0:decide ((ls.length:Int) > 0)=true:=yP (by omega);have d1:decide (0<ls.length)=true:=yP h0;have HB:Hid (zAP ls 0 5=b):=yD (by rw[←hb.out]; show _=(decide (0<ls.length)&&zAP ls 0 5); rw[d1,Bool.true_and])
  go_enter Tryz.func100,Tryz.ntmps100
  go_wp2_with (go_at_call 144; refine(zGG L ls _ c 0 0 5 _ rfl rfl HL.out hlen (zT _) (by simp) b HB).mono ?_; rintro e w2 ⟨rfl,rfl⟩)
  go_ret;exact⟨rfl,Ext.refl _⟩
 ·have d0:decide ((ls.length:Int) > 0)=false:=yO (by omega);have d1:decide (0<ls.length)=false:=yO h0;have HB:Hid (b=false):=yD (by rw[←hb.out]; show(decide (0<ls.length)&&zAP ls 0 5)=_; rw[d1,Bool.false_and])
  go_enter Tryz.func100,Tryz.ntmps100
  go_wp2_with fail
  go_ret;exact⟨xE HB.out.symm,Ext.refl _⟩
theorem zPb (L:Option Addr)(ls:List Int)(n c:Nat)(w:World)(hn:n=ls.length)(hl:Cells w L (xL ls))(hlen:ls.length≤9000)(b:Bool)(hb:Hid (vY 3 ls=b)) :
  Calls Tryz.prog 100 #[.int .u8 3,.slice L n c] w fun e w'=>e=.returned (.bool b)∧Ext w w':=by
 subst hn;have HL:=yD hl;clear hl;have HB:Hid (isR ls [4,6]=b):=yD (by rw[←hb.out]; rfl)
 go_enter Tryz.func100,Tryz.ntmps100
 go_wp2_with (go_at_call 145; refine(XN L _ ls [4,6] _ c _ _ _ rfl rfl (HL.out.ext (Ext.alloc _ _)) (by exact vW _ [4,6]) hlen (by decide) (by decide) b HB).mono ?_; rintro e w2 ⟨rfl,AA⟩; have AB:=yD ((Ext.alloc _ _).trans AA); clear AA)
 go_ret;exact⟨rfl,AB.out⟩
theorem zOu (L:Option Addr)(ls:List Int)(n c:Nat)(w:World)(hn:n=ls.length)(hl:Cells w L (xL ls))(hlen:ls.length≤9000)(b:Bool)(hb:Hid (vY 4 ls=b)) :
  Calls Tryz.prog 100 #[.int .u8 4,.slice L n c] w fun e w'=>e=.returned (.bool b)∧Ext w w':=by
 subst hn;have HL:=yD hl;clear hl;have HB:Hid (zAP ls 0 5=b):=yD (by rw[←hb.out]; rfl)
 go_enter Tryz.func100,Tryz.ntmps100
 go_wp2_with (go_at_call 144; refine(zGG L ls _ c 0 0 5 _ rfl rfl HL.out hlen (zT _) (by simp) b HB).mono ?_; rintro e w2 ⟨rfl,rfl⟩)
 go_ret;exact⟨rfl,Ext.refl _⟩
theorem zO3 (L:Option Addr)(ls:List Int)(n c:Nat)(w:World)(hn:n=ls.length)(hl:Cells w L (xL ls))(hlen:ls.length≤9000)(b:Bool)(hb:Hid (vY 5 ls=b)) :
  Calls Tryz.prog 100 #[.int .u8 5,.slice L n c] w fun e w'=>e=.returned (.bool b)∧Ext w w':=by
 subst hn;have HL:=yD hl;clear hl;have HB:Hid ((ls.length==0)=b):=yD (by rw[←hb.out]; rfl);have AA:Hid (((ls.length:Int)==0)=b):=yD (by rw[←HB.out,Bool.eq_iff_iff]; simp only[zN]; omega)
 go_enter Tryz.func100,Tryz.ntmps100
 go_wp2_with fail
 go_ret
 exact⟨xE (by first | exact AA.out | exact HB.out | (rw[←HB.out]; cases ls <;> simp)),Ext.refl _⟩
theorem zOR (L:Option Addr)(ls:List Int)(n c:Nat)(w:World)(hn:n=ls.length)(hl:Cells w L (xL ls))(hlen:ls.length≤9000)(b:Bool)(hb:Hid (vY 6 ls=b)) :
  Calls Tryz.prog 100 #[.int .u8 6,.slice L n c] w fun e w'=>e=.returned (.bool b)∧Ext w w':=by
 subst hn;have HL:=yD hl;clear hl;have HB:Hid (zAP ls 0 1=b):=yD (by rw[←hb.out]; rfl)
 go_enter Tryz.func100,Tryz.ntmps100
 go_wp2_with (go_at_call 144; refine(zGG L ls _ c 0 0 1 _ rfl rfl HL.out hlen (zT _) (by simp) b HB).mono ?_; rintro e w2 ⟨rfl,rfl⟩)
 go_ret;exact⟨rfl,Ext.refl _⟩
theorem zN9 (L:Option Addr)(ls:List Int)(n c:Nat)(w:World)(hn:n=ls.length)(hl:Cells w L (xL ls))(hlen:ls.length≤9000)(b:Bool)(hb:Hid (vY 7 ls=b)) :
  Calls Tryz.prog 100 #[.int .u8 7,.slice L n c] w fun e w'=>e=.returned (.bool b)∧Ext w w':=by
 subst hn;have HL:=yD hl;clear hl;have HB:Hid (isR ls [20,5]=b):=yD (by rw[←hb.out]; rfl)
 go_enter Tryz.func100,Tryz.ntmps100
 go_wp2_with (go_at_call 145; refine(XN L _ ls [20,5] _ c _ _ _ rfl rfl (HL.out.ext (Ext.alloc _ _)) (by exact vW _ [20,5]) hlen (by decide) (by decide) b HB).mono ?_; rintro e w2 ⟨rfl,AA⟩; have AB:=yD ((Ext.alloc _ _).trans AA); clear AA)
 go_ret;exact⟨rfl,AB.out⟩
theorem zPn (L:Option Addr)(ls:List Int)(n c:Nat)(w:World)(hn:n=ls.length)(hl:Cells w L (xL ls))(hlen:ls.length≤9000)(b:Bool)(hb:Hid (vY 8 ls=b)) :
  Calls Tryz.prog 100 #[.int .u8 8,.slice L n c] w fun e w'=>e=.returned (.bool b)∧Ext w w':=by
 subst hn;have HL:=yD hl;clear hl;have HB:Hid (isR ls [20,5,0]=b):=yD (by rw[←hb.out]; rfl)
 go_enter Tryz.func100,Tryz.ntmps100
 go_wp2_with (go_at_call 145; refine(XN L _ ls [20,5,0] _ c _ _ _ rfl rfl (HL.out.ext (Ext.alloc _ _)) (by exact vW _ [20,5,0]) hlen (by decide) (by decide) b HB).mono ?_; rintro e w2 ⟨rfl,AA⟩; have AB:=yD ((Ext.alloc _ _).trans AA); clear AA)
 go_ret;exact⟨rfl,AB.out⟩
theorem zOJ (L:Option Addr)(ls:List Int)(n c:Nat)(w:World)(hn:n=ls.length)(hl:Cells w L (xL ls))(hlen:ls.length≤9000)(b:Bool)(hb:Hid (vY 9 ls=b)) :
  Calls Tryz.prog 100 #[.int .u8 9,.slice L n c] w fun e w'=>e=.returned (.bool b)∧Ext w w':=by
 subst hn;have HL:=yD hl;clear hl
 by_cases h0:1<ls.length
 ·have d0:decide ((ls.length:Int) > 1)=true:=yP (by omega);have d1:decide (1<ls.length)=true:=yP h0;have d2:decide ((1:Int)<(ls.length:Int))=true:=yP (by omega);obtain⟨bb,AE,rfl,AD,AA⟩:=zAW HL.out 0 (by omega)
  have AC:ls.getD 0 0=ls[0]:=by simp[yE,show 0<ls.length from by omega]
  have q0:(0:Int)<(ls.length:Int):=by omega
  have HB:Hid ((ls[0]==20&&zAP ls 1 0)=b):=yD (by rw[←hb.out]; show _=(decide (1<ls.length)&&(ls.getD 0 0==20&&zAP ls 1 0)); rw[d1,Bool.true_and,AC]);clear AC;rw[Nat.add_zero] at AA;generalize ls[0]=x at *
  by_cases hx:x=20
  ·subst hx;have AB:Hid (zAP ls 1 0=b):=yD (by rw[←HB.out]; rfl)
   go_enter Tryz.func100,Tryz.ntmps100
   go_wp2_with (go_at_call 144; refine(zGG _ ls _ c 1 1 0 _ rfl rfl HL.out hlen (by omega) (by simp) b AB).mono ?_; rintro e w2 ⟨rfl,rfl⟩)
   go_ret;exact⟨rfl,Ext.refl _⟩
  ·have e1:(x==20)=false:=beq_eq_false_iff_ne.2 hx;have AB:Hid (b=false):=yD (by rw[←HB.out,e1,Bool.false_and])
   go_enter Tryz.func100,Tryz.ntmps100
   go_wp2_with fail
   go_ret;exact⟨xE AB.out.symm,Ext.refl _⟩
 ·have d0:decide ((ls.length:Int) > 1)=false:=yO (by omega);have d1:decide (1<ls.length)=false:=yO h0;have d2:decide ((1:Int)<(ls.length:Int))=false:=yO (by omega);have HB:Hid (b=false):=yD (by rw[←hb.out]; show(decide (1<ls.length)&&_)=_; rw[d1,Bool.false_and])
  go_enter Tryz.func100,Tryz.ntmps100
  go_wp2_with fail
  go_ret;exact⟨xE HB.out.symm,Ext.refl _⟩
theorem zMg (L:Option Addr)(ls:List Int)(n c:Nat)(w:World)(hn:n=ls.length)(hl:Cells w L (xL ls))(hlen:ls.length≤9000)(b:Bool)(hb:Hid (vY 10 ls=b)) :
  Calls Tryz.prog 100 #[.int .u8 10,.slice L n c] w fun e w'=>e=.returned (.bool b)∧Ext w w':=by
 subst hn;have HL:=yD hl;clear hl;have HB:Hid (isR ls [20]=b):=yD (by rw[←hb.out]; rfl)
 go_enter Tryz.func100,Tryz.ntmps100
 go_wp2_with (go_at_call 145; refine(XN L _ ls [20] _ c _ _ _ rfl rfl (HL.out.ext (Ext.alloc _ _)) (by exact vW _ [20]) hlen (by decide) (by decide) b HB).mono ?_; rintro e w2 ⟨rfl,AA⟩; have AB:=yD ((Ext.alloc _ _).trans AA); clear AA)
 go_ret;exact⟨rfl,AB.out⟩
theorem zME (L:Option Addr)(ls:List Int)(n c:Nat)(w:World)(hn:n=ls.length)(hl:Cells w L (xL ls))(hlen:ls.length≤9000)(b:Bool)(hb:Hid (vY 11 ls=b)) :
  Calls Tryz.prog 100 #[.int .u8 11,.slice L n c] w fun e w'=>e=.returned (.bool b)∧Ext w w':=by
 subst hn;have HL:=yD hl;clear hl;have HB:Hid (isR ls [5,5]=b):=yD (by rw[←hb.out]; rfl)
 go_enter Tryz.func100,Tryz.ntmps100
 go_wp2_with (go_at_call 145; refine(XN L _ ls [5,5] _ c _ _ _ rfl rfl (HL.out.ext (Ext.alloc _ _)) (by exact vW _ [5,5]) hlen (by decide) (by decide) b HB).mono ?_; rintro e w2 ⟨rfl,AA⟩; have AB:=yD ((Ext.alloc _ _).trans AA); clear AA)
 go_ret;exact⟨rfl,AB.out⟩
theorem zL2 (L:Option Addr)(ls:List Int)(n c:Nat)(w:World)(hn:n=ls.length)(hl:Cells w L (xL ls))(hlen:ls.length≤9000)(b:Bool)(hb:Hid (vY 12 ls=b)) :
  Calls Tryz.prog 100 #[.int .u8 12,.slice L n c] w fun e w'=>e=.returned (.bool b)∧Ext w w':=by
 subst hn;have HL:=yD hl;clear hl;have HB:Hid (isR ls [5]=b):=yD (by rw[←hb.out]; rfl)
 go_enter Tryz.func100,Tryz.ntmps100
 go_wp2_with (go_at_call 145; refine(XN L _ ls [5] _ c _ _ _ rfl rfl (HL.out.ext (Ext.alloc _ _)) (by exact vW _ [5]) hlen (by decide) (by decide) b HB).mono ?_; rintro e w2 ⟨rfl,AA⟩; have AB:=yD ((Ext.alloc _ _).trans AA); clear AA)
 go_ret;exact⟨rfl,AB.out⟩
theorem zLD (L:Option Addr)(ls:List Int)(n c:Nat)(w:World)(hn:n=ls.length)(hl:Cells w L (xL ls))(hlen:ls.length≤9000)(b:Bool)(hb:Hid (vY 13 ls=b)) :
  Calls Tryz.prog 100 #[.int .u8 13,.slice L n c] w fun e w'=>e=.returned (.bool b)∧Ext w w':=by
 subst hn;have HL:=yD hl;clear hl;obtain⟨b1,AC⟩:∃x,Hid (isR ls [5]=x):=⟨_,yD rfl⟩;obtain⟨b2,AD⟩:∃x,Hid (isR ls [20]=x):=⟨_,yD rfl⟩;have HB:Hid ((b1||b2)=b):=yD (by rw[←hb.out,←AC.out,←AD.out]; rfl)
 cases b1 with
 | true=>
  go_enter Tryz.func100,Tryz.ntmps100
  go_wp2_with (go_at_call 145; refine(XN L _ ls [5] _ c _ _ _ rfl rfl (HL.out.ext (Ext.alloc _ _)) (by exact vW _ [5]) hlen (by decide) (by decide) true AC).mono ?_; rintro e w2 ⟨rfl,AA⟩; have AB:=yD ((Ext.alloc _ _).trans AA); clear AA)
  go_ret;exact⟨xE (by rw[←HB.out]; rfl),AB.out⟩
 | false=>
  go_enter Tryz.func100,Tryz.ntmps100
  go_wp2_with fail
  refine(XN L _ ls [5] _ c _ _ _ rfl rfl (HL.out.ext (Ext.alloc _ _)) (by exact vW _ [5]) hlen (by decide) (by decide) false AC).mono ?_;rintro e w2 ⟨rfl,AA⟩;have AB:=yD ((Ext.alloc _ _).trans AA);clear AA
  go_wp2_with fail
  refine(XN L _ ls [20] _ c _ _ _ rfl rfl (HL.out.ext (AB.out.trans (Ext.alloc _ _))) (by exact vW _ [20]) hlen (by decide) (by decide) b2 AD).mono ?_;rintro e w3 ⟨rfl,AE⟩;have AF:=yD ((AB.out.trans (Ext.alloc _ _)).trans AE);clear AE
  go_wp2_with fail
  go_ret;exact⟨xE (by rw[←HB.out]; simp),AF.out⟩
theorem zM1 (L:Option Addr)(ls:List Int)(n c:Nat)(w:World)(hn:n=ls.length)(hl:Cells w L (xL ls))(hlen:ls.length≤9000)(b:Bool)(hb:Hid (vY 14 ls=b)) :
  Calls Tryz.prog 100 #[.int .u8 14,.slice L n c] w fun e w'=>e=.returned (.bool b)∧Ext w w':=by
 subst hn;have HL:=yD hl;clear hl;obtain⟨b1,AC⟩:∃x,Hid (isR ls [0,0,6]=x):=⟨_,yD rfl⟩;obtain⟨b2,AD⟩:∃x,Hid (isR ls [0,0,6,6]=x):=⟨_,yD rfl⟩;have HB:Hid ((b1||b2)=b):=yD (by rw[←hb.out,←AC.out,←AD.out]; rfl)
 cases b1 with
 | true=>
  go_enter Tryz.func100,Tryz.ntmps100
  go_wp2_with (go_at_call 145; refine(XN L _ ls [0,0,6] _ c _ _ _ rfl rfl (HL.out.ext (Ext.alloc _ _)) (by exact vW _ [0,0,6]) hlen (by decide) (by decide) true AC).mono ?_; rintro e w2 ⟨rfl,AA⟩; have AB:=yD ((Ext.alloc _ _).trans AA); clear AA)
  go_ret;exact⟨xE (by rw[←HB.out]; rfl),AB.out⟩
 | false=>
  go_enter Tryz.func100,Tryz.ntmps100
  go_wp2_with fail
  refine(XN L _ ls [0,0,6] _ c _ _ _ rfl rfl (HL.out.ext (Ext.alloc _ _)) (by exact vW _ [0,0,6]) hlen (by decide) (by decide) false AC).mono ?_;rintro e w2 ⟨rfl,AA⟩;have AB:=yD ((Ext.alloc _ _).trans AA);clear AA
  go_wp2_with fail
  refine(XN L _ ls [0,0,6,6] _ c _ _ _ rfl rfl (HL.out.ext (AB.out.trans (Ext.alloc _ _))) (by exact vW _ [0,0,6,6]) hlen (by decide) (by decide) b2 AD).mono ?_;rintro e w3 ⟨rfl,AE⟩;have AF:=yD ((AB.out.trans (Ext.alloc _ _)).trans AE);clear AE
  go_wp2_with fail
  go_ret;exact⟨xE (by rw[←HB.out]; simp),AF.out⟩
theorem zMG (L:Option Addr)(ls:List Int)(n c:Nat)(w:World)(hn:n=ls.length)(hl:Cells w L (xL ls))(hlen:ls.length≤9000)(b:Bool)(hb:Hid (vY 15 ls=b)) :
  Calls Tryz.prog 100 #[.int .u8 15,.slice L n c] w fun e w'=>e=.returned (.bool b)∧Ext w w':=by
 subst hn;have HL:=yD hl;clear hl;have HB:Hid (isR ls [21,21,6]=b):=yD (by rw[←hb.out]; rfl)
 go_enter Tryz.func100,Tryz.ntmps100
 go_wp2_with (go_at_call 145; refine(XN L _ ls [21,21,6] _ c _ _ _ rfl rfl (HL.out.ext (Ext.alloc _ _)) (by exact vW _ [21,21,6]) hlen (by decide) (by decide) b HB).mono ?_; rintro e w2 ⟨rfl,AA⟩; have AB:=yD ((Ext.alloc _ _).trans AA); clear AA)
 go_ret;exact⟨rfl,AB.out⟩
theorem zLN (L:Option Addr)(ls:List Int)(n c:Nat)(w:World)(hn:n=ls.length)(hl:Cells w L (xL ls))(hlen:ls.length≤9000)(b:Bool)(hb:Hid (vY 16 ls=b)) :
  Calls Tryz.prog 100 #[.int .u8 16,.slice L n c] w fun e w'=>e=.returned (.bool b)∧Ext w w':=by
 subst hn;have HL:=yD hl;clear hl;have HB:Hid (isR ls [0]=b):=yD (by rw[←hb.out]; rfl)
 go_enter Tryz.func100,Tryz.ntmps100
 go_wp2_with (go_at_call 145; refine(XN L _ ls [0] _ c _ _ _ rfl rfl (HL.out.ext (Ext.alloc _ _)) (by exact vW _ [0]) hlen (by decide) (by decide) b HB).mono ?_; rintro e w2 ⟨rfl,AA⟩; have AB:=yD ((Ext.alloc _ _).trans AA); clear AA)
 go_ret;exact⟨rfl,AB.out⟩
theorem zML (L:Option Addr)(ls:List Int)(n c:Nat)(w:World)(hn:n=ls.length)(hl:Cells w L (xL ls))(hlen:ls.length≤9000)(b:Bool)(hb:Hid (vY 17 ls=b)) :
  Calls Tryz.prog 100 #[.int .u8 17,.slice L n c] w fun e w'=>e=.returned (.bool b)∧Ext w w':=by
 subst hn;have HL:=yD hl;clear hl;have HB:Hid (isR ls [0]=b):=yD (by rw[←hb.out]; rfl)
 go_enter Tryz.func100,Tryz.ntmps100
 go_wp2_with (go_at_call 145; refine(XN L _ ls [0] _ c _ _ _ rfl rfl (HL.out.ext (Ext.alloc _ _)) (by exact vW _ [0]) hlen (by decide) (by decide) b HB).mono ?_; rintro e w2 ⟨rfl,AA⟩; have AB:=yD ((Ext.alloc _ _).trans AA); clear AA)
 go_ret;exact⟨rfl,AB.out⟩
theorem zLR (L:Option Addr)(ls:List Int)(n c:Nat)(w:World)(hn:n=ls.length)(hl:Cells w L (xL ls))(hlen:ls.length≤9000)(b:Bool)(hb:Hid (vY 18 ls=b)) :
  Calls Tryz.prog 100 #[.int .u8 18,.slice L n c] w fun e w'=>e=.returned (.bool b)∧Ext w w':=by
 subst hn;have HL:=yD hl;clear hl;have HB:Hid ((ls.length==0)=b):=yD (by rw[←hb.out]; rfl);have AA:Hid (((ls.length:Int)==0)=b):=yD (by rw[←HB.out,Bool.eq_iff_iff]; simp only[zN]; omega)
 go_enter Tryz.func100,Tryz.ntmps100
 go_wp2_with fail
 go_ret
 exact⟨xE (by first | exact AA.out | exact HB.out | (rw[←HB.out]; cases ls <;> simp)),Ext.refl _⟩
theorem zMm (L:Option Addr)(ls:List Int)(n c:Nat)(w:World)(hn:n=ls.length)(hl:Cells w L (xL ls))(hlen:ls.length≤9000)(b:Bool)(hb:Hid (vY 19 ls=b)) :
  Calls Tryz.prog 100 #[.int .u8 19,.slice L n c] w fun e w'=>e=.returned (.bool b)∧Ext w w':=by
 subst hn;have HL:=yD hl;clear hl;have HB:Hid ((ls.length==0)=b):=yD (by rw[←hb.out]; rfl);have AA:Hid (((ls.length:Int)==0)=b):=yD (by rw[←HB.out,Bool.eq_iff_iff]; simp only[zN]; omega)
 go_enter Tryz.func100,Tryz.ntmps100
 go_wp2_with fail
 go_ret
 exact⟨xE (by first | exact AA.out | exact HB.out | (rw[←HB.out]; cases ls <;> simp)),Ext.refl _⟩
theorem zM0 (L:Option Addr)(ls:List Int)(n c:Nat)(w:World)(hn:n=ls.length)(hl:Cells w L (xL ls))(hlen:ls.length≤9000)(b:Bool)(hb:Hid (vY 20 ls=b)) :
  Calls Tryz.prog 100 #[.int .u8 20,.slice L n c] w fun e w'=>e=.returned (.bool b)∧Ext w w':=by
 subst hn;have HL:=yD hl;clear hl;have HB:Hid (isR ls [0]=b):=yD (by rw[←hb.out]; rfl)
 go_enter Tryz.func100,Tryz.ntmps100
 go_wp2_with (go_at_call 145; refine(XN L _ ls [0] _ c _ _ _ rfl rfl (HL.out.ext (Ext.alloc _ _)) (by exact vW _ [0]) hlen (by decide) (by decide) b HB).mono ?_; rintro e w2 ⟨rfl,AA⟩; have AB:=yD ((Ext.alloc _ _).trans AA); clear AA)
 go_ret;exact⟨rfl,AB.out⟩
theorem zMp (L:Option Addr)(ls:List Int)(n c:Nat)(w:World)(hn:n=ls.length)(hl:Cells w L (xL ls))(hlen:ls.length≤9000)(b:Bool)(hb:Hid (vY 21 ls=b)) :
  Calls Tryz.prog 100 #[.int .u8 21,.slice L n c] w fun e w'=>e=.returned (.bool b)∧Ext w w':=by
 subst hn;have HL:=yD hl;clear hl;have HB:Hid ((ls.length==0)=b):=yD (by rw[←hb.out]; rfl);have AA:Hid (((ls.length:Int)==0)=b):=yD (by rw[←HB.out,Bool.eq_iff_iff]; simp only[zN]; omega)
 go_enter Tryz.func100,Tryz.ntmps100
 go_wp2_with fail
 go_ret
 exact⟨xE (by first | exact AA.out | exact HB.out | (rw[←HB.out]; cases ls <;> simp)),Ext.refl _⟩
theorem zLJ (L:Option Addr)(ls:List Int)(n c:Nat)(w:World)(hn:n=ls.length)(hl:Cells w L (xL ls))(hlen:ls.length≤9000)(b:Bool)(hb:Hid (vY 22 ls=b)) :
  Calls Tryz.prog 100 #[.int .u8 22,.slice L n c] w fun e w'=>e=.returned (.bool b)∧Ext w w':=by
 subst hn;have HL:=yD hl;clear hl;have HB:Hid ((ls.length==0)=b):=yD (by rw[←hb.out]; rfl);have AA:Hid (((ls.length:Int)==0)=b):=yD (by rw[←HB.out,Bool.eq_iff_iff]; simp only[zN]; omega)
 go_enter Tryz.func100,Tryz.ntmps100
 go_wp2_with fail
 go_ret
 exact⟨xE (by first | exact AA.out | exact HB.out | (rw[←HB.out]; cases ls <;> simp)),Ext.refl _⟩
theorem zLK (L:Option Addr)(ls:List Int)(n c:Nat)(w:World)(hn:n=ls.length)(hl:Cells w L (xL ls))(hlen:ls.length≤9000)(b:Bool)(hb:Hid (vY 23 ls=b)) :
  Calls Tryz.prog 100 #[.int .u8 23,.slice L n c] w fun e w'=>e=.returned (.bool b)∧Ext w w':=by
 subst hn;have HL:=yD hl;clear hl;have HB:Hid (isR ls [0,0]=b):=yD (by rw[←hb.out]; rfl)
 go_enter Tryz.func100,Tryz.ntmps100
 go_wp2_with (go_at_call 145; refine(XN L _ ls [0,0] _ c _ _ _ rfl rfl (HL.out.ext (Ext.alloc _ _)) (by exact vW _ [0,0]) hlen (by decide) (by decide) b HB).mono ?_; rintro e w2 ⟨rfl,AA⟩; have AB:=yD ((Ext.alloc _ _).trans AA); clear AA)
 go_ret;exact⟨rfl,AB.out⟩
theorem zMi (L:Option Addr)(ls:List Int)(n c:Nat)(w:World)(hn:n=ls.length)(hl:Cells w L (xL ls))(hlen:ls.length≤9000)(b:Bool)(hb:Hid (vY 24 ls=b)) :
  Calls Tryz.prog 100 #[.int .u8 24,.slice L n c] w fun e w'=>e=.returned (.bool b)∧Ext w w':=by
 subst hn;have HL:=yD hl;clear hl;have HB:Hid (isR ls [0,0]=b):=yD (by rw[←hb.out]; rfl)
 go_enter Tryz.func100,Tryz.ntmps100
 go_wp2_with (go_at_call 145; refine(XN L _ ls [0,0] _ c _ _ _ rfl rfl (HL.out.ext (Ext.alloc _ _)) (by exact vW _ [0,0]) hlen (by decide) (by decide) b HB).mono ?_; rintro e w2 ⟨rfl,AA⟩; have AB:=yD ((Ext.alloc _ _).trans AA); clear AA)
 go_ret;exact⟨rfl,AB.out⟩
theorem zL8 (L:Option Addr)(ls:List Int)(n c:Nat)(w:World)(hn:n=ls.length)(hl:Cells w L (xL ls))(hlen:ls.length≤9000)(b:Bool)(hb:Hid (vY 25 ls=b)) :
  Calls Tryz.prog 100 #[.int .u8 25,.slice L n c] w fun e w'=>e=.returned (.bool b)∧Ext w w':=by
 subst hn;have HL:=yD hl;clear hl;have HB:Hid (isR ls [0,0]=b):=yD (by rw[←hb.out]; rfl)
 go_enter Tryz.func100,Tryz.ntmps100
 go_wp2_with (go_at_call 145; refine(XN L _ ls [0,0] _ c _ _ _ rfl rfl (HL.out.ext (Ext.alloc _ _)) (by exact vW _ [0,0]) hlen (by decide) (by decide) b HB).mono ?_; rintro e w2 ⟨rfl,AA⟩; have AB:=yD ((Ext.alloc _ _).trans AA); clear AA)
 go_ret;exact⟨rfl,AB.out⟩
theorem zLM (L:Option Addr)(ls:List Int)(n c:Nat)(w:World)(hn:n=ls.length)(hl:Cells w L (xL ls))(hlen:ls.length≤9000)(b:Bool)(hb:Hid (vY 26 ls=b)) :
  Calls Tryz.prog 100 #[.int .u8 26,.slice L n c] w fun e w'=>e=.returned (.bool b)∧Ext w w':=by
 subst hn;have HL:=yD hl;clear hl;have HB:Hid (isR ls [0]=b):=yD (by rw[←hb.out]; rfl)
 go_enter Tryz.func100,Tryz.ntmps100
 go_wp2_with (go_at_call 145; refine(XN L _ ls [0] _ c _ _ _ rfl rfl (HL.out.ext (Ext.alloc _ _)) (by exact vW _ [0]) hlen (by decide) (by decide) b HB).mono ?_; rintro e w2 ⟨rfl,AA⟩; have AB:=yD ((Ext.alloc _ _).trans AA); clear AA)
 go_ret;exact⟨rfl,AB.out⟩
theorem zK8 (kind:Int)(hk:1≤kind∧kind≤26)(L:Option Addr)(ls:List Int)(n c:Nat)(w:World)(hn:n=ls.length)(hl:Cells w L (xL ls))(hlen:ls.length≤9000)(b:Bool)(hb:Hid (vY kind ls=b)) :
  Calls Tryz.prog 100 #[.int .u8 kind,.slice L n c] w fun e w'=>e=.returned (.bool b)∧Ext w w':=by
 have hc:kind=1∨kind=2∨kind=3∨kind=4∨kind=5∨kind=6∨kind=7∨kind=8∨kind=9∨kind=10∨kind=11∨kind=12∨kind=13∨kind=14∨kind=15∨kind=16∨kind=17∨kind=18∨kind=19∨kind=20∨kind=21∨kind=22∨kind=23∨kind=24∨kind=25∨kind=26:=by omega
 rcases hc with rfl | rfl | rfl | rfl | rfl | rfl | rfl | rfl | rfl | rfl | rfl | rfl | rfl | rfl | rfl | rfl | rfl | rfl | rfl | rfl | rfl | rfl | rfl | rfl | rfl | rfl
 ·exact(zOK L ls n c w hn hl hlen b hb).mono fun e w' h=>⟨h.1,by rw[h.2]; exact Ext.refl _⟩
 ·exact zOs L ls n c w hn hl hlen b hb
 ·exact zPb L ls n c w hn hl hlen b hb
 ·exact zOu L ls n c w hn hl hlen b hb
 ·exact zO3 L ls n c w hn hl hlen b hb
 ·exact zOR L ls n c w hn hl hlen b hb
 ·exact zN9 L ls n c w hn hl hlen b hb
 ·exact zPn L ls n c w hn hl hlen b hb
 ·exact zOJ L ls n c w hn hl hlen b hb
 ·exact zMg L ls n c w hn hl hlen b hb
 ·exact zME L ls n c w hn hl hlen b hb
 ·exact zL2 L ls n c w hn hl hlen b hb
 ·exact zLD L ls n c w hn hl hlen b hb
 ·exact zM1 L ls n c w hn hl hlen b hb
 ·exact zMG L ls n c w hn hl hlen b hb
 ·exact zLN L ls n c w hn hl hlen b hb
 ·exact zML L ls n c w hn hl hlen b hb
 ·exact zLR L ls n c w hn hl hlen b hb
 ·exact zMm L ls n c w hn hl hlen b hb
 ·exact zM0 L ls n c w hn hl hlen b hb
 ·exact zMp L ls n c w hn hl hlen b hb
 ·exact zLJ L ls n c w hn hl hlen b hb
 ·exact zLK L ls n c w hn hl hlen b hb
 ·exact zMi L ls n c w hn hl hlen b hb
 ·exact zL8 L ls n c w hn hl hlen b hb
 ·exact zLM L ls n c w hn hl hlen b hb
end Go.Proofs.YtioffpjajhalaaaGreatDoor.TT
