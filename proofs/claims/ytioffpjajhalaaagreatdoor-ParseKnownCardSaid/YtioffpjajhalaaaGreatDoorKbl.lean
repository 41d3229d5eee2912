/- interlockref03.Lex, walked. Condition: the source's cells are known. -/
import Derived.Test.YtioffpjajhalaaaGreatDoorKaa
import Derived.Test.YtioffpjajhalaaaGreatDoorKbk
import Derived.Test.YtioffpjajhalaaaGreatDoorKae
set_option linter.unusedVariables false
set_option linter.unusedSimpArgs false
set_option maxRecDepth 100000
set_option maxHeartbeats 16000000
namespace Go.Proofs.YtioffpjajhalaaaGreatDoor
open Go Go.RowKit
def zJU (l:Bs)(w:World)(r:zCr)(e:Ending)(w':World):Prop:=Ext w w'∧match r with
 | .ok ts=>∃A' c',e=.returned (.tuple #[.slice A' ts.length c',.int .i64 0,.int .i64 0])∧(A'=none→c'=0)∧w'.ownsRow w.heap.size 129 5 (.slice A' ts.length c') ts.length (vB ts)
 | .err a er=>e=.returned (.tuple #[.slice none 0 0,.int .i64 (a:Int),.int .i64 er])
theorem zSs:(Tryz.prog.info? 129).map (fun i=>(i.zero,i.size,i.bytes))=some (some (.agg #[.int .u8 0,.int .i64 0,.int .i64 0,.string ⟨#[]⟩,.int .i64 0]),5,48):=by kernel_rfl
theorem zO4 {p:UInt8→Bool}{l:Bs}{k:Nat}(h:k<l.length)(hp:p l[k]=false):(l.drop k).takeWhile p=[]:=by rw[zLS h,hp]; rfl
theorem zL5 {p:UInt8→Bool}{l:Bs}{k:Nat}(h:k<l.length)(hp:p l[k]=true):((l.drop k).takeWhile p).length=1+((l.drop (k+1)).takeWhile p).length:=by rw[zLS h,hp]; simp[Nat.add_comm]
theorem zMp {p:UInt8→Bool}{l:Bs}{k:Nat}(h:l.length≤k):(l.drop k).takeWhile p=[]:=by rw[List.drop_eq_nil_of_le h]; rfl
theorem zOL {x:UInt8}{r:Bs}(h:ZV x=true):jS x r=.skip 1:=by unfold jS; rw[if_pos h]
theorem zNg {x:UInt8}{r:Bs}(hb:ZV x=false)(hh:(x==35)=false)(h:ZO x=true):jS x r=.tok 1 (1+(r.takeWhile JR).length) 0:=by
 unfold jS; rw[hb,hh,h]; rfl
theorem zOj {x:UInt8}{r:Bs}(hb:ZV x=false)(hh:(x==35)=false)(hl:ZO x=false)(h:vN x=true):jS x r=zDb r x:=by
 unfold jS; rw[hb,hh,hl,h]; rfl
theorem zQX {x:UInt8}{r:Bs}(hb:ZV x=false)(hh:(x==35)=false)(hl:ZO x=false)(h:vN x=false):jS x r=if x==61&&r.head?==some 61 then .tok 3 2 0 else if zFw x then .tok 3 1 0 else .bad 30:=by
 unfold jS; rw[hb,hh,hl,h]; rfl
def zPz (j:Nat):Option Int→Step
 | none=>.bad 31
 | some m=>.tok 2 j m
theorem head_drop {l:Bs}{k:Nat}(h:k<l.length):(l.drop k).head?=some l[k]:=by rw[List.drop_eq_getElem_cons h]; rfl
theorem zOp (A:Option Addr)(l:Bs)(n c:Nat)(w:World)(hn:n=l.length)(hbig:l.length≤140737488355328)(hlim:65536<l.length) :
  Calls Tryz.prog 73 #[.slice A n c] w (zJU l w (XS l)):=by
 subst hn;have HS:Hid (XS l=.err 0 3):=yE (by unfold XS; rw[if_pos hlim])
 go_enter Tryz.func73,Tryz.ntmps73
 go_wp2_with fail
 refine bodyPost_ret (v:=.tuple #[.slice none 0 0,.int .i64 0,.int .i64 3]) (by simp[results,Tryz.results73,go_sem]) rfl ?_;rw[HS.out];exact⟨Ext.refl _,rfl⟩
theorem zTm (A:Option Addr)(l:Bs)(n c:Nat)(w:World)(hn:n=l.length)(hcap:l.length≤c)(h:Cells w A (xL l))(hlim:l.length≤65536) :
  Calls Tryz.prog 73 #[.slice A n c] w (zJU l w (XS l)):=by
 subst hn;obtain⟨i0,hi,AZ,AX,AW⟩:=info_parts zSs;have HC:=yE h;have HS:Hid (XS l=YJ 0 l):=yE (by unfold XS; rw[if_neg (by omega)]);clear h
 go_enter Tryz.func73,Tryz.ntmps73
 go_wp2_with fail
 go_loopg [5,6] (l.length) (fun gk out i wr=>∃(k:Nat) (lo:List Tok) (A':Option Addr) (c':Nat),k≤l.length∧gk=l.length-k∧lo.length≤k∧i=.int .i64 (k:Int)∧out=.slice A' lo.length c'∧Hid ((A'=none→c'=0)∧wr.ownsRow w.heap.size 129 5 (.slice A' lo.length c') lo.length (vB lo)∧Ext w wr∧YJ 0 l=(YJ k (l.drop k)).pre lo))
 case atStart=>exact⟨0,[],none,0,zT _,rfl,zT _,rfl,rfl,yE ⟨fun _=>rfl,zP _ _ _ _,Ext.refl _,by rw[zPs]; rfl⟩⟩
 case round=>
  obtain⟨k,lo,A',c',hk,rfl,BR,rfl,rfl,HW⟩:=hrel;obtain⟨wa,rfl⟩:∃wa:World,wa=wr:=⟨_,rfl⟩
  by_cases BA:k<l.length
  ·have d0:decide ((k:Int)<(l.length:Int))=true:=yQ (by omega);have A1:=HC.out.ext HW.out.2.2.1;obtain⟨b,AI,hA,BS,BD⟩:=A1.at_ (by rw[xW]; omega)
   have A3:∀i (hi:i<l.length),wa.cell? ⟨b,AI+i,none⟩=some (.int .u8 (l[i].toNat:Int)):=fun i hi=>by rw[BD i (by rw[xW]; exact hi),VC l i hi]
   subst hA
   have HB:=yE A3
   have Aw:=yE A1;have e0:=A3 k BA
   have q0:(k:Int)<(l.length:Int):=by omega
   have A6:=yE (List.drop_eq_getElem_cons BA);have AL:Hid (step (l.drop k)=jS l[k] (l.drop (k+1))):=yE (by rw[List.drop_eq_getElem_cons BA]; rfl)
   have BC:∀(en:Nat),k≤en→en≤l.length→∀W,(Instr.slice 22 (.slice (some ⟨b,AI,none⟩) l.length c) (some (.int .i64 (k:Int))) (some (.int .i64 (en:Int))) none).run Tryz.prog W=.ok (.slice (some ⟨b,AI+k,none⟩) (en-k) (c-k)) W:=fun en h1 h2 W=>by
    have h:=zLW W _ _ Tryz.underlying22 zCt (some ⟨b,AI,none⟩) l.length c k en h1 (by omega);rw[zCx (by omega)] at h;exact h
   have BJ:∀(en:Nat) (tx:Bs),k≤en→en≤l.length→(l.drop k).take (en-k)=tx→(convert 22 9 (.slice (some ⟨b,AI+k,none⟩) (en-k) (c-k))).run Tryz.prog wa=.ok (.string (xE tx)) wa:=fun en tx h1 h2 h3=>by
    subst h3;have h:=zAu Aw.out hcap k (en-k);rw[zCx (by omega)] at h;exact jZ Tryz.underlying22 Tryz.underlying5 Tryz.underlying9 (by simp; omega) h
   have Ae:=yE BC;have Ax:=yE BJ;clear BC BJ A3 BD A1;generalize l[k]=x at *
   cases hbl:ZV x with
   | true=>
    have AV:=yE hbl;have HL:=yE (zAY (p:=k) (AL.out.trans (zOL hbl)));clear hbl
    go_wp2_with (go_at_call 116; refine(zEa x true AV _).mono ?_; rintro e w' ⟨rfl,rfl⟩)
    go_roundg (l.length-(k+1))
    case measure=>omega
    case rel=>
     refine⟨k+1,lo,A',c',by omega,rfl,by omega,by go_num,rfl,yE ⟨HW.out.1,HW.out.2.1,HW.out.2.2.1,?_⟩⟩;rw[HW.out.2.2.2,HL.out,List.drop_drop]
   | false=>
    have AV:=yE hbl;clear hbl
    by_cases Ay:x=35
    ·subst Ay;have BN:wa.cell? ⟨b,AI+k,none⟩=some (.int .u8 35):=e0;clear e0;have Av:∀W,Calls Tryz.prog 116 #[.int .u8 35] W fun e w'=>e=.returned (.bool false)∧W=w':=fun W=>zEa 35 false (yE (by decide)) W;have Aq:=yE Av;clear Av;obtain⟨en,AH⟩:∃en,Hid (k+1+((l.drop (k+1)).takeWhile fun x=>x != 10).length=en):=⟨_,yE rfl⟩
     have At:k+1≤en:=by have:=AH.out; omega
     have Ap:en≤l.length:=by
      have:=zHP (fun x:UInt8=>x != 10) (l.drop (k+1))
      rw[List.length_drop] at this
      have:=AH.out
      omega
     have HL:=yE (zAY (p:=k) (AL.out.trans (show jS 35 (l.drop (k+1))=.skip (1+((l.drop (k+1)).takeWhile fun x=>x != 10).length) from rfl)))
     go_wp2_with (go_at_call 116; refine(Aq.out _).mono ?_; rintro e w' ⟨rfl,rfl⟩)
     go_loop [8] (fun kk=>∃k2:Nat,k+1≤k2∧k2≤l.length∧kk=.int .i64 (k2:Int)∧Hid (k2+((l.drop k2).takeWhile fun x=>x != 10).length=en)) (fun kk=>l.length-(intOf kk).toNat)
     case atStart=>exact⟨k+1,zU _,by omega,by go_num,AH⟩
     case round=>
      obtain⟨k2,BF,BG,rfl,HK⟩:=hrel
      by_cases AG:k2<l.length
      ·have f0:=HB.out k2 AG
       have q2:(k2:Int)<(l.length:Int):=by omega
       have d2:decide ((k2:Int)<(l.length:Int))=true:=yQ (by omega)
       by_cases hy:l[k2]=10
       ·have HE:Hid (k2=en):=yE (by have h:=HK.out; rw[zO4 AG (by rw[hy]; rfl)] at h; simpa using h);rw[hy] at f0;have BL:wa.cell? ⟨b,AI+k2,none⟩=some (.int .u8 10):=f0;clear f0 hy
        go_wp2_with fail
        go_roundg (l.length-k2)
        case measure=>omega
        case rel=>
         refine⟨k2,lo,A',c',by omega,rfl,by omega,rfl,rfl,yE ⟨HW.out.1,HW.out.2.1,HW.out.2.2.1,?_⟩⟩;rw[HW.out.2.2.2,HL.out,List.drop_drop,show k+(1+((l.drop (k+1)).takeWhile fun x=>x != 10).length)=k2 from by have:=AH.out; have:=HE.out; omega]
       ·have HE:Hid (k2+1+((l.drop (k2+1)).takeWhile fun x=>x != 10).length=en):=yE (by have h:=HK.out; rw[zL5 AG (by simpa using hy)] at h; omega);have d3:=toNat_ne hy
        have d4:((l[k2].toNat:Int) != 10)=true:=by rw[bne]; exact congrArg not d3
        generalize l[k2]=y at *;clear d3 hy
        go_wp2_with fail
        go_round
        case rel=>exact⟨k2+1,by omega,by omega,by go_num,HE⟩
        case measure=>simp[intOf]; omega
      ·have HE:Hid (k2=en):=yE (by have h:=HK.out; rw[zMp (by omega)] at h; simpa using h);have d2:decide ((k2:Int)<(l.length:Int))=false:=yP (by omega)
       go_wp2_with fail
       go_roundg (l.length-k2)
       case measure=>omega
       case rel=>
        refine⟨k2,lo,A',c',by omega,rfl,by omega,rfl,rfl,yE ⟨HW.out.1,HW.out.2.1,HW.out.2.2.1,?_⟩⟩;rw[HW.out.2.2.2,HL.out,List.drop_drop,show k+(1+((l.drop (k+1)).takeWhile fun x=>x != 10).length)=k2 from by have:=AH.out; have:=HE.out; omega]
    ·have HH:Hid ((x==35)=false):=yE (by simpa using Ay);have BP:((x.toNat:Int)==35)=false:=toNat_ne Ay;clear Ay
     cases hle:ZO x with
     | true=>
      have Ah:=yE hle;have AT:=yE (AL.out.trans (zNg AV.out HH.out hle));clear hle;obtain⟨en,AH⟩:∃en,Hid (k+1+((l.drop (k+1)).takeWhile JR).length=en):=⟨_,yE rfl⟩
      have At:k+1≤en:=by have:=AH.out; omega
      have Ap:en≤l.length:=by
       have:=zHP JR (l.drop (k+1))
       rw[List.length_drop] at this
       have:=AH.out
       omega
      obtain⟨tx,AC⟩:∃tx,Hid ((l.drop k).take (en-k)=tx):=⟨_,yE rfl⟩
      go_wp2_with (first
       | (go_at_call 116; refine(zEa x false AV _).mono ?_; rintro e w' ⟨rfl,rfl⟩)
       | (go_at_call 117; refine(zBg x _ Ah _).mono ?_; rintro e w' ⟨rfl,rfl⟩))
      go_loop [8] (fun kk=>∃k2:Nat,k+1≤k2∧k2≤l.length∧kk=.int .i64 (k2:Int)∧Hid (k2+((l.drop k2).takeWhile JR).length=en)) (fun kk=>l.length-(intOf kk).toNat)
      case atStart=>exact⟨k+1,zU _,by omega,by go_num,AH⟩
      case round=>
       obtain⟨k2,BF,BG,rfl,HK⟩:=hrel
       by_cases AG:k2<l.length
       ·have f0:=HB.out k2 AG
        have q2:(k2:Int)<(l.length:Int):=by omega
        have d2:decide ((k2:Int)<(l.length:Int))=true:=yQ (by omega);have AM:Hid (JR l[k2]=true→k2+1+((l.drop (k2+1)).takeWhile JR).length=en):=yE (fun hp=>by have h:=HK.out; rw[zL5 AG hp] at h; omega);have Ac:Hid (JR l[k2]=false→k2=en):=yE (fun hp=>by have h:=HK.out; rw[zO4 AG hp] at h; simpa using h);generalize l[k2]=y at *
        cases hly:ZO y with
        | true=>
         have Ai:=yE hly;have HE:=yE (AM.out (by unfold JR; rw[hly]; rfl));clear hly
         go_wp2_with (go_at_call 117; refine(zBg y _ Ai _).mono ?_; rintro e w' ⟨rfl,rfl⟩)
         go_round
         case rel=>exact⟨k2+1,by omega,by omega,by go_num,HE⟩
         case measure=>simp[intOf]; omega
        | false=>
         have Ai:=yE hly
         cases hdy:vN y with
         | true=>
          have AY:=yE hdy;have HE:=yE (AM.out (by unfold JR; rw[hdy]; simp));clear hly hdy
          go_wp2_with (first | (go_at_call 117; refine(zBg y _ Ai _).mono ?_; rintro e w' ⟨rfl,rfl⟩) | (go_at_call 118; refine(zBK y _ AY _).mono ?_; rintro e w' ⟨rfl,rfl⟩))
          go_round
          case rel=>exact⟨k2+1,by omega,by omega,by go_num,HE⟩
          case measure=>simp[intOf]; omega
         | false=>
          have AY:=yE hdy
          by_cases hy:y=95
          ·subst hy;have HE:=yE (AM.out (by decide));have BL:wa.cell? ⟨b,AI+k2,none⟩=some (.int .u8 95):=f0;have Am:∀W,Calls Tryz.prog 117 #[.int .u8 95] W fun e w'=>e=.returned (.bool false)∧W=w':=fun W=>zBg 95 false Ai W;have Ar:∀W,Calls Tryz.prog 118 #[.int .u8 95] W fun e w'=>e=.returned (.bool false)∧W=w':=fun W=>zBK 95 false AY W;have Au:=yE Am;have Aj:=yE Ar;clear hly hdy f0 Am Ar
           go_wp2_with (first | (go_at_call 117; refine(Au.out _).mono ?_; rintro e w' ⟨rfl,rfl⟩) | (go_at_call 118; refine(Aj.out _).mono ?_; rintro e w' ⟨rfl,rfl⟩))
           go_round
           case rel=>exact⟨k2+1,by omega,by omega,by go_num,HE⟩
           case measure=>simp[intOf]; omega
          ·have HE:=yE (Ac.out (by unfold JR; rw[hly,hdy]; simpa using hy));have d4:((y.toNat:Int)==95)=false:=toNat_ne hy;clear hly hdy hy;have Ab:k2=en:=HE.out;subst Ab;have AP:=yE (Ae.out k2 (by omega) (by omega));have AE:=AP.out;have AD:=Ax.out k2 tx (by omega) (by omega) AC.out
           go_wp2_with (first
            | (go_at_call 117; refine(zBg y _ Ai _).mono ?_; rintro e w' ⟨rfl,rfl⟩)
            | (go_at_call 118; refine(zBK y _ AY _).mono ?_; rintro e w' ⟨rfl,rfl⟩)
            | (at_builtin; refine YT rfl (.tmp 77) (.tmp 86) 122 rfl w.heap.size 129 i0 _ 5 48 Tryz.underlying122 hi AZ AX AW rfl (by decide) _ _ _ rfl (HW.out.2.1.alloc _) _ 1 1 (xS ⟨1,k,k2,tx,0⟩) rfl (by simp) rfl (by exact(Cells.newAt rfl (by first | rfl | (simp[xS,xE]; done) | (simp[xS,xE]; omega)))) zEE (by unfold maxLen; omega) (by omega) (by have:=HW.out.2.2.1.size; simp; omega) ?_; intro A4 c4 w4 z4 AB AF))
           have AJ:Hid (w4.ownsRow w.heap.size 129 5 (.slice A4 (lo++[(⟨1,k,k2,tx,0⟩:Tok)]).length c4) (lo++[(⟨1,k,k2,tx,0⟩:Tok)]).length (vB (lo++[(⟨1,k,k2,tx,0⟩:Tok)]))):=yE (by rw[XH,yN]; exact AB);have AK:Hid (Ext w w4):=yE (Below.grown (HW.out.2.2.1.trans (Ext.alloc _ _)) AF (by have:=HW.out.2.2.1.size; simp; omega) (fun q hq=>(HW.out.2.1.lt q hq).1));clear AB AF;clear AE AD
           go_wp2_with fail
           go_roundg (l.length-(k2))
           case measure=>omega
           case rel=>
            refine⟨k2,lo++[⟨1,k,k2,tx,0⟩],A4,c4,by omega,rfl,by simp; omega,by first | rfl | go_num,by simp,yE ⟨z4,AJ.out,AK.out,?_⟩⟩;rw[HW.out.2.2.2,zAp AT.out,zBj,List.drop_drop]
            have e1:1+((l.drop (k+1)).takeWhile JR).length=k2-k:=by have:=AH.out; omega
            rw[e1,show k+(k2-k)=k2 from by omega,AC.out]
       ·have HE:Hid (k2=en):=yE (by have h:=HK.out; rw[zMp (by omega)] at h; simpa using h);have d2:decide ((k2:Int)<(l.length:Int))=false:=yP (by omega);have Ab:k2=en:=HE.out;subst Ab;have AP:=yE (Ae.out k2 (by omega) (by omega));have AE:=AP.out;have AD:=Ax.out k2 tx (by omega) (by omega) AC.out
        go_wp2_with (first
         | (at_builtin; refine YT rfl (.tmp 77) (.tmp 86) 122 rfl w.heap.size 129 i0 _ 5 48 Tryz.underlying122 hi AZ AX AW rfl (by decide) _ _ _ rfl (HW.out.2.1.alloc _) _ 1 1 (xS ⟨1,k,k2,tx,0⟩) rfl (by simp) rfl (by exact(Cells.newAt rfl (by first | rfl | (simp[xS,xE]; done) | (simp[xS,xE]; omega)))) zEE (by unfold maxLen; omega) (by omega) (by have:=HW.out.2.2.1.size; simp; omega) ?_; intro A4 c4 w4 z4 AB AF))
        have AJ:Hid (w4.ownsRow w.heap.size 129 5 (.slice A4 (lo++[(⟨1,k,k2,tx,0⟩:Tok)]).length c4) (lo++[(⟨1,k,k2,tx,0⟩:Tok)]).length (vB (lo++[(⟨1,k,k2,tx,0⟩:Tok)]))):=yE (by rw[XH,yN]; exact AB);have AK:Hid (Ext w w4):=yE (Below.grown (HW.out.2.2.1.trans (Ext.alloc _ _)) AF (by have:=HW.out.2.2.1.size; simp; omega) (fun q hq=>(HW.out.2.1.lt q hq).1));clear AB AF;clear AE AD
        go_wp2_with fail
        go_roundg (l.length-(k2))
        case measure=>omega
        case rel=>
         refine⟨k2,lo++[⟨1,k,k2,tx,0⟩],A4,c4,by omega,rfl,by simp; omega,by first | rfl | go_num,by simp,yE ⟨z4,AJ.out,AK.out,?_⟩⟩;rw[HW.out.2.2.2,zAp AT.out,zBj,List.drop_drop]
         have e1:1+((l.drop (k+1)).takeWhile JR).length=k2-k:=by have:=AH.out; omega
         rw[e1,show k+(k2-k)=k2 from by omega,AC.out]
     | false=>
      have Ah:=yE hle
      cases hdi:vN x with
      | true=>
       have Ag:=yE hdi;have AT:=yE (AL.out.trans (zOj AV.out HH.out hle hdi));clear hle hdi;obtain⟨en,AH⟩:∃en,Hid (k+1+((l.drop (k+1)).takeWhile vN).length=en):=⟨_,yE rfl⟩
       have At:k+1≤en:=by have:=AH.out; omega
       have Ap:en≤l.length:=by
        have:=zHP vN (l.drop (k+1))
        rw[List.length_drop] at this
        have:=AH.out
        omega
       obtain⟨tx,AC⟩:∃tx,Hid ((l.drop k).take (en-k)=tx):=⟨_,yE rfl⟩
       go_wp2_with (first
        | (go_at_call 116; refine(zEa x false AV _).mono ?_; rintro e w' ⟨rfl,rfl⟩)
        | (go_at_call 117; refine(zBg x _ Ah _).mono ?_; rintro e w' ⟨rfl,rfl⟩)
        | (go_at_call 118; refine(zBK x _ Ag _).mono ?_; rintro e w' ⟨rfl,rfl⟩))
       go_loop [8] (fun kk=>∃k2:Nat,k+1≤k2∧k2≤l.length∧kk=.int .i64 (k2:Int)∧Hid (k2+((l.drop k2).takeWhile vN).length=en)) (fun kk=>l.length-(intOf kk).toNat)
       case atStart=>exact⟨k+1,zU _,by omega,by go_num,AH⟩
       case round=>
        obtain⟨k2,BF,BG,rfl,HK⟩:=hrel
        by_cases AG:k2<l.length
        ·have f0:=HB.out k2 AG
         have q2:(k2:Int)<(l.length:Int):=by omega
         have d2:decide ((k2:Int)<(l.length:Int))=true:=yQ (by omega);have AM:Hid (vN l[k2]=true→k2+1+((l.drop (k2+1)).takeWhile vN).length=en):=yE (fun hp=>by have h:=HK.out; rw[zL5 AG hp] at h; omega);have Ac:Hid (vN l[k2]=false→k2=en):=yE (fun hp=>by have h:=HK.out; rw[zO4 AG hp] at h; simpa using h);generalize l[k2]=y at *
         cases hdy:vN y with
         | true=>
          have AY:=yE hdy;have HE:=yE (AM.out hdy);clear hdy
          go_wp2_with (go_at_call 118; refine(zBK y _ AY _).mono ?_; rintro e w' ⟨rfl,rfl⟩)
          go_round
          case rel=>exact⟨k2+1,by omega,by omega,by go_num,HE⟩
          case measure=>simp[intOf]; omega
         | false=>
          have AY:=yE hdy;have HE:=yE (Ac.out hdy);clear hdy;have Ab:k2=en:=HE.out;subst Ab
          have An:Hid (tx=x::(l.drop (k+1)).takeWhile vN):=yE (by
           rw[←AC.out,A6.out,show k2-k=((l.drop (k+1)).takeWhile vN).length+1 from by have:=AH.out; omega,List.take_succ_cons,zBI])
          obtain⟨r,Ak⟩:∃r,Hid (zBQ 0 tx=r):=⟨_,yE rfl⟩
          have A8:Hid (∀q ∈ tx,vN q=true):=yE (by
           rw[An.out];intro q hq
           rcases List.mem_cons.1 hq with rfl | hq
           ·exact Ag.out
           ·exact zL0 (p:=vN) ((l.drop (k+1)).takeWhile vN) (by have h:=zDg (p:=vN) (l.drop (k+1)) _ (zU _); rw[zBI] at h; exact h) q hq)
          have A7:tx.length≤140737488355328:=by
           have h:tx.length≤l.length:=by rw[←AC.out,List.length_take,List.length_drop]; omega
           omega
          have AP:=yE (Ae.out k2 (by omega) (by omega));have AE:=AP.out;have AD:=Ax.out k2 tx (by omega) (by omega) AC.out;have As:=yE (zHU tx A8.out A7 wa r Ak)
          have Ao:Hid (step (l.drop k)=zPz (k2-k) r):=yE (by
           rw[AT.out];unfold zDb;rw[←An.out,Ak.out,show 1+((l.drop (k+1)).takeWhile vN).length=k2-k from by have:=AH.out; omega]
           cases r <;> rfl)
          cases r with
          | none=>
           have AR:=yE (zGa (p:=k) Ao.out);have AQ:Hid (Calls Tryz.prog 119 #[.string (xE tx)] wa fun e w'=>e=.returned (.tuple #[.int .i64 0,.bool false])∧wa=w'):=As
           go_wp2_with (first
            | (go_at_call 118; refine(zBK y _ AY _).mono ?_; rintro e w' ⟨rfl,rfl⟩)
            | (go_at_call 119; refine(AQ.out).mono ?_; rintro e w' ⟨rfl,rfl⟩))
           refine bodyPost_ret (v:=.tuple #[.slice none 0 0,.int .i64 (k:Int),.int .i64 31]) (by simp[results,Tryz.results73,go_sem]) rfl ?_;rw[HS.out,HW.out.2.2.2,AR.out];exact⟨HW.out.2.2.1,rfl⟩
          | some m=>
           have Af:=yE (zAp (p:=k) Ao.out);have AQ:Hid (Calls Tryz.prog 119 #[.string (xE tx)] wa fun e w'=>e=.returned (.tuple #[.int .i64 m,.bool true])∧wa=w'):=As
           go_wp2_with (first
            | (go_at_call 118; refine(zBK y _ AY _).mono ?_; rintro e w' ⟨rfl,rfl⟩)
            | (go_at_call 119; refine(AQ.out).mono ?_; rintro e w' ⟨rfl,rfl⟩)
            | (at_builtin; refine YT rfl (.tmp 116) (.tmp 126) 122 rfl w.heap.size 129 i0 _ 5 48 Tryz.underlying122 hi AZ AX AW rfl (by decide) _ _ _ rfl (HW.out.2.1.alloc _) _ 1 1 (xS ⟨2,k,k2,tx,m⟩) rfl (by simp) rfl (by exact(Cells.newAt rfl (by first | rfl | (simp[xS,xE]; done) | (simp[xS,xE]; omega)))) zEE (by unfold maxLen; omega) (by omega) (by have:=HW.out.2.2.1.size; simp; omega) ?_; intro A4 c4 w4 z4 AB AF))
           have AJ:Hid (w4.ownsRow w.heap.size 129 5 (.slice A4 (lo++[(⟨2,k,k2,tx,m⟩:Tok)]).length c4) (lo++[(⟨2,k,k2,tx,m⟩:Tok)]).length (vB (lo++[(⟨2,k,k2,tx,m⟩:Tok)]))):=yE (by rw[XH,yN]; exact AB);have AK:Hid (Ext w w4):=yE (Below.grown (HW.out.2.2.1.trans (Ext.alloc _ _)) AF (by have:=HW.out.2.2.1.size; simp; omega) (fun q hq=>(HW.out.2.1.lt q hq).1));clear AB AF AE AD
           go_wp2_with fail
           go_roundg (l.length-(k2))
           case measure=>omega
           case rel=>
            refine⟨k2,lo++[⟨2,k,k2,tx,m⟩],A4,c4,by omega,rfl,by simp; omega,by first | rfl | go_num,by simp,yE ⟨z4,AJ.out,AK.out,?_⟩⟩;rw[HW.out.2.2.2,Af.out,zBj,List.drop_drop,show k+(k2-k)=k2 from by omega,AC.out]
        ·have HE:Hid (k2=en):=yE (by have h:=HK.out; rw[zMp (by omega)] at h; simpa using h);have d2:decide ((k2:Int)<(l.length:Int))=false:=yP (by omega);have Ab:k2=en:=HE.out;subst Ab
         have An:Hid (tx=x::(l.drop (k+1)).takeWhile vN):=yE (by
          rw[←AC.out,A6.out,show k2-k=((l.drop (k+1)).takeWhile vN).length+1 from by have:=AH.out; omega,List.take_succ_cons,zBI])
         obtain⟨r,Ak⟩:∃r,Hid (zBQ 0 tx=r):=⟨_,yE rfl⟩
         have A8:Hid (∀q ∈ tx,vN q=true):=yE (by
          rw[An.out];intro q hq
          rcases List.mem_cons.1 hq with rfl | hq
          ·exact Ag.out
          ·exact zL0 (p:=vN) ((l.drop (k+1)).takeWhile vN) (by have h:=zDg (p:=vN) (l.drop (k+1)) _ (zU _); rw[zBI] at h; exact h) q hq)
         have A7:tx.length≤140737488355328:=by
          have h:tx.length≤l.length:=by rw[←AC.out,List.length_take,List.length_drop]; omega
          omega
         have AP:=yE (Ae.out k2 (by omega) (by omega));have AE:=AP.out;have AD:=Ax.out k2 tx (by omega) (by omega) AC.out;have As:=yE (zHU tx A8.out A7 wa r Ak)
         have Ao:Hid (step (l.drop k)=zPz (k2-k) r):=yE (by
          rw[AT.out];unfold zDb;rw[←An.out,Ak.out,show 1+((l.drop (k+1)).takeWhile vN).length=k2-k from by have:=AH.out; omega]
          cases r <;> rfl)
         cases r with
         | none=>
          have AR:=yE (zGa (p:=k) Ao.out);have AQ:Hid (Calls Tryz.prog 119 #[.string (xE tx)] wa fun e w'=>e=.returned (.tuple #[.int .i64 0,.bool false])∧wa=w'):=As
          go_wp2_with (first
           | (go_at_call 119; refine(AQ.out).mono ?_; rintro e w' ⟨rfl,rfl⟩))
          refine bodyPost_ret (v:=.tuple #[.slice none 0 0,.int .i64 (k:Int),.int .i64 31]) (by simp[results,Tryz.results73,go_sem]) rfl ?_;rw[HS.out,HW.out.2.2.2,AR.out];exact⟨HW.out.2.2.1,rfl⟩
         | some m=>
          have Af:=yE (zAp (p:=k) Ao.out);have AQ:Hid (Calls Tryz.prog 119 #[.string (xE tx)] wa fun e w'=>e=.returned (.tuple #[.int .i64 m,.bool true])∧wa=w'):=As
          go_wp2_with (first
           | (go_at_call 119; refine(AQ.out).mono ?_; rintro e w' ⟨rfl,rfl⟩)
           | (at_builtin; refine YT rfl (.tmp 116) (.tmp 126) 122 rfl w.heap.size 129 i0 _ 5 48 Tryz.underlying122 hi AZ AX AW rfl (by decide) _ _ _ rfl (HW.out.2.1.alloc _) _ 1 1 (xS ⟨2,k,k2,tx,m⟩) rfl (by simp) rfl (by exact(Cells.newAt rfl (by first | rfl | (simp[xS,xE]; done) | (simp[xS,xE]; omega)))) zEE (by unfold maxLen; omega) (by omega) (by have:=HW.out.2.2.1.size; simp; omega) ?_; intro A4 c4 w4 z4 AB AF))
          have AJ:Hid (w4.ownsRow w.heap.size 129 5 (.slice A4 (lo++[(⟨2,k,k2,tx,m⟩:Tok)]).length c4) (lo++[(⟨2,k,k2,tx,m⟩:Tok)]).length (vB (lo++[(⟨2,k,k2,tx,m⟩:Tok)]))):=yE (by rw[XH,yN]; exact AB);have AK:Hid (Ext w w4):=yE (Below.grown (HW.out.2.2.1.trans (Ext.alloc _ _)) AF (by have:=HW.out.2.2.1.size; simp; omega) (fun q hq=>(HW.out.2.1.lt q hq).1));clear AB AF AE AD
          go_wp2_with fail
          go_roundg (l.length-(k2))
          case measure=>omega
          case rel=>
           refine⟨k2,lo++[⟨2,k,k2,tx,m⟩],A4,c4,by omega,rfl,by simp; omega,by first | rfl | go_num,by simp,yE ⟨z4,AJ.out,AK.out,?_⟩⟩;rw[HW.out.2.2.2,Af.out,zBj,List.drop_drop,show k+(k2-k)=k2 from by omega,AC.out]
      | false=>
       have Ag:=yE hdi;have AT:=yE (AL.out.trans (zQX AV.out HH.out hle hdi));clear hle hdi
       by_cases A0:x=61
       ·subst A0;have BN:wa.cell? ⟨b,AI+k,none⟩=some (.int .u8 61):=e0;have Av:∀W,Calls Tryz.prog 116 #[.int .u8 61] W fun e w'=>e=.returned (.bool false)∧W=w':=fun W=>zEa 61 false AV W;have Am:∀W,Calls Tryz.prog 117 #[.int .u8 61] W fun e w'=>e=.returned (.bool false)∧W=w':=fun W=>zBg 61 false Ah W;have Ar:∀W,Calls Tryz.prog 118 #[.int .u8 61] W fun e w'=>e=.returned (.bool false)∧W=w':=fun W=>zBK 61 false Ag W;have BB:∀W,Calls Tryz.prog 120 #[.int .u8 61] W fun e w'=>e=.returned (.bool true)∧Ext W w':=fun W=>zSN 61 true (yE (by decide)) W;have Aq:=yE Av;have Au:=yE Am;have Aj:=yE Ar;have BM:=yE BB;clear e0 Av Am Ar BB BP;obtain⟨tx,AC⟩:∃tx,Hid ((l.drop k).take (k+1-k)=tx):=⟨_,yE rfl⟩
        by_cases BK:k+1<l.length
        ·have f0:=HB.out (k+1) BK
         have q2:(k:Int)+1<(l.length:Int):=by omega
         have d2:decide ((k:Int)+1<(l.length:Int))=true:=yQ (by omega);have A9:=yE (head_drop BK);generalize l[k+1]=y at *
         by_cases hy:y=61
         ·subst hy;have BL:wa.cell? ⟨b,AI+(k+1),none⟩=some (.int .u8 61):=f0;have AO:Hid (step (l.drop k)=.tok 3 2 0):=yE (by rw[AT.out,A9.out]; rfl)
          have BO:Hid ((l.drop k).take 2=[61,61]):=yE (by
           rw[A6.out];have h:=A9.out
           cases hd:l.drop (k+1) with
           | nil=>rw[hd] at h; cases h
           | cons z r'=>rw[hd] at h; injection h with h; subst h; rfl)
          clear f0
          go_wp2_with (first
           | (go_at_call 116; refine(Aq.out _).mono ?_; rintro e w' ⟨rfl,rfl⟩)
           | (go_at_call 117; refine(Au.out _).mono ?_; rintro e w' ⟨rfl,rfl⟩)
           | (go_at_call 118; refine(Aj.out _).mono ?_; rintro e w' ⟨rfl,rfl⟩)
           | (at_builtin; refine YT rfl (.tmp 146) (.tmp 150) 122 rfl w.heap.size 129 i0 _ 5 48 Tryz.underlying122 hi AZ AX AW rfl (by decide) _ _ _ rfl (HW.out.2.1.alloc _) _ 1 1 (xS ⟨3,k,k+2,[61,61],0⟩) rfl (by simp) rfl (by exact(Cells.newAt rfl (by first | rfl | (simp[xS,xE]; done) | (simp[xS,xE]; omega)))) zEE (by unfold maxLen; omega) (by omega) (by have:=HW.out.2.2.1.size; simp; omega) ?_; intro A4 c4 w4 z4 AB AF))
          have AJ:Hid (w4.ownsRow w.heap.size 129 5 (.slice A4 (lo++[(⟨3,k,k+2,[61,61],0⟩:Tok)]).length c4) (lo++[(⟨3,k,k+2,[61,61],0⟩:Tok)]).length (vB (lo++[(⟨3,k,k+2,[61,61],0⟩:Tok)]))):=yE (by rw[XH,yN]; exact AB);have AK:Hid (Ext w w4):=yE (Below.grown (HW.out.2.2.1.trans (Ext.alloc _ _)) AF (by have:=HW.out.2.2.1.size; simp; omega) (fun q hq=>(HW.out.2.1.lt q hq).1));clear AB AF
          go_wp2_with fail
          go_roundg (l.length-(k+2))
          case measure=>omega
          case rel=>
           refine⟨k+2,lo++[⟨3,k,k+2,[61,61],0⟩],A4,c4,by omega,rfl,by simp; omega,by first | rfl | go_num,by simp,yE ⟨z4,AJ.out,AK.out,?_⟩⟩;rw[HW.out.2.2.2,zAp AO.out,zBj,List.drop_drop,BO.out]
         ·have A5:Hid (((l.drop (k+1)).head?==some 61)=false):=yE (by rw[A9.out]; simpa using hy);have d4:((y.toNat:Int)==61)=false:=toNat_ne hy;clear hy;have AO:Hid (step (l.drop k)=.tok 3 1 0):=yE (by rw[AT.out,A5.out]; rfl)
          go_wp2_with (first
           | (go_at_call 116; refine(Aq.out _).mono ?_; rintro e w' ⟨rfl,rfl⟩)
           | (go_at_call 117; refine(Au.out _).mono ?_; rintro e w' ⟨rfl,rfl⟩)
           | (go_at_call 118; refine(Aj.out _).mono ?_; rintro e w' ⟨rfl,rfl⟩))
          refine(BM.out _).mono ?_;rintro e w9 ⟨rfl,AN⟩;have Aa:=yE (zFi HW.out.2.1 AN);have AU:=yE (HW.out.2.2.1.trans AN);have Al:=yE (Aw.out.ext AN);have Ad:=yE HW.out.2.2.2;have BE:=yE HW.out.1;clear AN
          have AE:∀W,(Instr.slice 22 (.slice (some ⟨b,AI,none⟩) l.length c) (some (.int .i64 (k:Int))) (some (.int .i64 ((k:Int)+1))) none).run Tryz.prog W=.ok (.slice (some ⟨b,AI+k,none⟩) 1 (c-k)) W:=fun W=>by
           have h:=Ae.out (k+1) (by omega) (by omega) W;rw[show k+1-k=1 from by omega] at h;exact h
          have AD:(convert 22 9 (.slice (some ⟨b,AI+k,none⟩) 1 (c-k))).run Tryz.prog w9=.ok (.string (xE tx)) w9:=by
           have h:=zAu Al.out hcap k (k+1-k);rw[zCx (by omega),AC.out] at h;exact jZ Tryz.underlying22 Tryz.underlying5 Tryz.underlying9 (by rw[←AC.out,List.length_take,List.length_drop]; omega) h
          go_wp2_with (first
           | (at_builtin; refine YT rfl (.tmp 155) (.tmp 164) 122 rfl w.heap.size 129 i0 _ 5 48 Tryz.underlying122 hi AZ AX AW rfl (by decide) _ _ _ rfl (Aa.out.alloc _) _ 1 1 (xS ⟨3,k,k+1,tx,0⟩) rfl (by simp) rfl (by exact(Cells.newAt rfl (by first | rfl | (simp[xS,xE]; done) | (simp[xS,xE]; omega)))) zEE (by unfold maxLen; omega) (by omega) (by have:=AU.out.size; simp; omega) ?_; intro A4 c4 w4 z4 AB AF))
          have AJ:Hid (w4.ownsRow w.heap.size 129 5 (.slice A4 (lo++[(⟨3,k,k+1,tx,0⟩:Tok)]).length c4) (lo++[(⟨3,k,k+1,tx,0⟩:Tok)]).length (vB (lo++[(⟨3,k,k+1,tx,0⟩:Tok)]))):=yE (by rw[XH,yN]; exact AB);have AK:Hid (Ext w w4):=yE (Below.grown (AU.out.trans (Ext.alloc _ _)) AF (by have:=AU.out.size; simp; omega) (fun q hq=>(Aa.out.lt q hq).1));clear AB AF AE AD
          go_wp2_with fail
          go_roundg (l.length-(k+1))
          case measure=>omega
          case rel=>
           refine⟨k+1,lo++[⟨3,k,k+1,tx,0⟩],A4,c4,by omega,rfl,by simp; omega,by first | rfl | go_num,by simp,yE ⟨z4,AJ.out,AK.out,?_⟩⟩;rw[Ad.out,zAp AO.out,zBj,List.drop_drop];rw[show k+1-k=1 from by omega] at AC;rw[AC.out]
        ·have A5:Hid (((l.drop (k+1)).head?==some 61)=false):=yE (by rw[List.drop_eq_nil_of_le (by omega)]; rfl);have d2:decide ((k:Int)+1<(l.length:Int))=false:=yP (by omega);have AO:Hid (step (l.drop k)=.tok 3 1 0):=yE (by rw[AT.out,A5.out]; rfl)
         go_wp2_with (first
          | (go_at_call 116; refine(Aq.out _).mono ?_; rintro e w' ⟨rfl,rfl⟩)
          | (go_at_call 117; refine(Au.out _).mono ?_; rintro e w' ⟨rfl,rfl⟩)
          | (go_at_call 118; refine(Aj.out _).mono ?_; rintro e w' ⟨rfl,rfl⟩))
         refine(BM.out _).mono ?_;rintro e w9 ⟨rfl,AN⟩;have Aa:=yE (zFi HW.out.2.1 AN);have AU:=yE (HW.out.2.2.1.trans AN);have Al:=yE (Aw.out.ext AN);have Ad:=yE HW.out.2.2.2;have BE:=yE HW.out.1;clear AN
         have AE:∀W,(Instr.slice 22 (.slice (some ⟨b,AI,none⟩) l.length c) (some (.int .i64 (k:Int))) (some (.int .i64 ((k:Int)+1))) none).run Tryz.prog W=.ok (.slice (some ⟨b,AI+k,none⟩) 1 (c-k)) W:=fun W=>by
          have h:=Ae.out (k+1) (by omega) (by omega) W;rw[show k+1-k=1 from by omega] at h;exact h
         have AD:(convert 22 9 (.slice (some ⟨b,AI+k,none⟩) 1 (c-k))).run Tryz.prog w9=.ok (.string (xE tx)) w9:=by
          have h:=zAu Al.out hcap k (k+1-k);rw[zCx (by omega),AC.out] at h;exact jZ Tryz.underlying22 Tryz.underlying5 Tryz.underlying9 (by rw[←AC.out,List.length_take,List.length_drop]; omega) h
         go_wp2_with (first
          | (at_builtin; refine YT rfl (.tmp 155) (.tmp 164) 122 rfl w.heap.size 129 i0 _ 5 48 Tryz.underlying122 hi AZ AX AW rfl (by decide) _ _ _ rfl (Aa.out.alloc _) _ 1 1 (xS ⟨3,k,k+1,tx,0⟩) rfl (by simp) rfl (by exact(Cells.newAt rfl (by first | rfl | (simp[xS,xE]; done) | (simp[xS,xE]; omega)))) zEE (by unfold maxLen; omega) (by omega) (by have:=AU.out.size; simp; omega) ?_; intro A4 c4 w4 z4 AB AF))
         have AJ:Hid (w4.ownsRow w.heap.size 129 5 (.slice A4 (lo++[(⟨3,k,k+1,tx,0⟩:Tok)]).length c4) (lo++[(⟨3,k,k+1,tx,0⟩:Tok)]).length (vB (lo++[(⟨3,k,k+1,tx,0⟩:Tok)]))):=yE (by rw[XH,yN]; exact AB);have AK:Hid (Ext w w4):=yE (Below.grown (AU.out.trans (Ext.alloc _ _)) AF (by have:=AU.out.size; simp; omega) (fun q hq=>(Aa.out.lt q hq).1));clear AB AF AE AD
         go_wp2_with fail
         go_roundg (l.length-(k+1))
         case measure=>omega
         case rel=>
          refine⟨k+1,lo++[⟨3,k,k+1,tx,0⟩],A4,c4,by omega,rfl,by simp; omega,by first | rfl | go_num,by simp,yE ⟨z4,AJ.out,AK.out,?_⟩⟩;rw[Ad.out,zAp AO.out,zBj,List.drop_drop];rw[show k+1-k=1 from by omega] at AC;rw[AC.out]
       ·have BQ:((x.toNat:Int)==61)=false:=toNat_ne A0;have BH:Hid ((x==61)=false):=yE (by simpa using A0);clear A0;obtain⟨tx,AC⟩:∃tx,Hid ((l.drop k).take (k+1-k)=tx):=⟨_,yE rfl⟩
        cases hmk:zFw x with
        | true=>
         have Az:=yE hmk;clear hmk;have AO:Hid (step (l.drop k)=.tok 3 1 0):=yE (by rw[AT.out,BH.out,Az.out]; rfl)
         go_wp2_with (first
          | (go_at_call 116; refine(zEa x false AV _).mono ?_; rintro e w' ⟨rfl,rfl⟩)
          | (go_at_call 117; refine(zBg x _ Ah _).mono ?_; rintro e w' ⟨rfl,rfl⟩)
          | (go_at_call 118; refine(zBK x _ Ag _).mono ?_; rintro e w' ⟨rfl,rfl⟩))
         refine(zSN x true Az _).mono ?_;rintro e w9 ⟨rfl,AN⟩;have Aa:=yE (zFi HW.out.2.1 AN);have AU:=yE (HW.out.2.2.1.trans AN);have Al:=yE (Aw.out.ext AN);have Ad:=yE HW.out.2.2.2;have BE:=yE HW.out.1;clear AN
         have AE:∀W,(Instr.slice 22 (.slice (some ⟨b,AI,none⟩) l.length c) (some (.int .i64 (k:Int))) (some (.int .i64 ((k:Int)+1))) none).run Tryz.prog W=.ok (.slice (some ⟨b,AI+k,none⟩) 1 (c-k)) W:=fun W=>by
          have h:=Ae.out (k+1) (by omega) (by omega) W;rw[show k+1-k=1 from by omega] at h;exact h
         have AD:(convert 22 9 (.slice (some ⟨b,AI+k,none⟩) 1 (c-k))).run Tryz.prog w9=.ok (.string (xE tx)) w9:=by
          have h:=zAu Al.out hcap k (k+1-k);rw[zCx (by omega),AC.out] at h;exact jZ Tryz.underlying22 Tryz.underlying5 Tryz.underlying9 (by rw[←AC.out,List.length_take,List.length_drop]; omega) h
         go_wp2_with (first
          | (at_builtin; refine YT rfl (.tmp 155) (.tmp 164) 122 rfl w.heap.size 129 i0 _ 5 48 Tryz.underlying122 hi AZ AX AW rfl (by decide) _ _ _ rfl (Aa.out.alloc _) _ 1 1 (xS ⟨3,k,k+1,tx,0⟩) rfl (by simp) rfl (by exact(Cells.newAt rfl (by first | rfl | (simp[xS,xE]; done) | (simp[xS,xE]; omega)))) zEE (by unfold maxLen; omega) (by omega) (by have:=AU.out.size; simp; omega) ?_; intro A4 c4 w4 z4 AB AF))
         have AJ:Hid (w4.ownsRow w.heap.size 129 5 (.slice A4 (lo++[(⟨3,k,k+1,tx,0⟩:Tok)]).length c4) (lo++[(⟨3,k,k+1,tx,0⟩:Tok)]).length (vB (lo++[(⟨3,k,k+1,tx,0⟩:Tok)]))):=yE (by rw[XH,yN]; exact AB);have AK:Hid (Ext w w4):=yE (Below.grown (AU.out.trans (Ext.alloc _ _)) AF (by have:=AU.out.size; simp; omega) (fun q hq=>(Aa.out.lt q hq).1));clear AB AF AE AD
         go_wp2_with fail
         go_roundg (l.length-(k+1))
         case measure=>omega
         case rel=>
          refine⟨k+1,lo++[⟨3,k,k+1,tx,0⟩],A4,c4,by omega,rfl,by simp; omega,by first | rfl | go_num,by simp,yE ⟨z4,AJ.out,AK.out,?_⟩⟩;rw[Ad.out,zAp AO.out,zBj,List.drop_drop];rw[show k+1-k=1 from by omega] at AC;rw[AC.out]
        | false=>
         have Az:=yE hmk;have AR:=yE (zGa (p:=k) (AT.out.trans (by rw[BH.out,hmk]; rfl)));clear hmk
         go_wp2_with (first
          | (go_at_call 116; refine(zEa x false AV _).mono ?_; rintro e w' ⟨rfl,rfl⟩)
          | (go_at_call 117; refine(zBg x _ Ah _).mono ?_; rintro e w' ⟨rfl,rfl⟩)
          | (go_at_call 118; refine(zBK x _ Ag _).mono ?_; rintro e w' ⟨rfl,rfl⟩)
          | (go_at_call 120; refine(zSN x false Az _).mono ?_; rintro e w9 ⟨rfl,AN⟩))
         refine bodyPost_ret (v:=.tuple #[.slice none 0 0,.int .i64 (k:Int),.int .i64 30]) (by simp[results,Tryz.results73,go_sem]) rfl ?_;rw[HS.out,HW.out.2.2.2,AR.out];exact⟨HW.out.2.2.1.trans AN,rfl⟩
  ·obtain rfl:k=l.length:=by omega
   have d0:decide ((l.length:Int)<(l.length:Int))=false:=by simp
   have BI:=yE HW.out.2.1;have A2:=yE HW.out.2.2.1;have Ad:=yE HW.out.2.2.2;clear HW
   go_wp2_with (at_builtin; refine YT rfl (.tmp 167) (.tmp 173) 122 rfl w.heap.size 129 i0 _ 5 48 Tryz.underlying122 hi AZ AX AW rfl (by decide) _ _ _ rfl (BI.out.alloc _) _ 1 1 (xS ⟨4,l.length,l.length,[],0⟩) rfl (by simp) rfl (by exact(Cells.newAt rfl)) zEE (by unfold maxLen; omega) (by omega) (by have:=A2.out.size; simp; omega) ?_; intro A4 c4 w4 z4 AB AF)
   have AS:w4.ownsRow w.heap.size 129 5 (.slice A4 (lo++[(⟨4,l.length,l.length,[],0⟩:Tok)]).length c4) (lo++[(⟨4,l.length,l.length,[],0⟩:Tok)]).length (vB (lo++[(⟨4,l.length,l.length,[],0⟩:Tok)])):=by rw[XH,yN]; exact AB
   have AK:Hid (Ext w w4):=yE (Below.grown (A2.out.trans (Ext.alloc _ _)) AF (by have:=A2.out.size; simp; omega) (fun q hq=>(BI.out.lt q hq).1));have AJ:=yE AS;clear AB AS AF
   go_wp2_with fail
   refine bodyPost_ret (v:=.tuple #[.slice A4 (lo.length+1) c4,.int .i64 0,.int .i64 0]) (by simp[results,Tryz.results73,go_sem]) rfl ?_;rw[HS.out,Ad.out,List.drop_eq_nil_of_le (zU _),zEU];exact⟨AK.out,A4,c4,by simp,z4,AJ.out⟩
theorem zNn (A:Option Addr)(l:Bs)(n c:Nat)(w:World)(hn:n=l.length)(hbig:l.length≤140737488355328)(hcap:l.length≤c)(h:Cells w A (xL l)) :
  Calls Tryz.prog 73 #[.slice A n c] w (zJU l w (XS l)):=by
 by_cases AA:65536<l.length
 ·exact zOp A l n c w hn hbig AA
 ·exact zTm A l n c w hn hcap h (by omega)
end Go.Proofs.YtioffpjajhalaaaGreatDoor
