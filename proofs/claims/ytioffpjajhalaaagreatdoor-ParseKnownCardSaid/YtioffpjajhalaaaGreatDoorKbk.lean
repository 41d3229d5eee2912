/- The document's tests of bytes, and its numbers, walked. Condition: number's text is of digits. -/
import Derived.Test.YtioffpjajhalaaaGreatDoorKaa
import Derived.Test.YtioffpjajhalaaaGreatDoorKad
set_option linter.unusedVariables false
set_option linter.unusedSimpArgs false
set_option maxRecDepth 100000
set_option maxHeartbeats 16000000
namespace Go.Proofs.YtioffpjajhalaaaGreatDoor
open Go Go.RowKit
theorem toNat_ne {x y:UInt8}(h:x≠y):((x.toNat:Int)==(y.toNat:Int))=false:=by
 rw[yG];intro e;exact h (UInt8.toNat_inj.1 (by omega))
theorem zBg (x:UInt8)(b:Bool)(hb:Hid (ZO x=b))(w:World):Calls Tryz.prog 117 #[.int .u8 (x.toNat:Int)] w fun e w'=>e=.returned (.bool b)∧w=w':=by
 have HB:=hb
 go_enter Tryz.func117,Tryz.ntmps117
 by_cases h1:97≤x.toNat
 ·have d1:decide ((97:Int)≤(x.toNat:Int))=true:=yQ (by omega)
  by_cases h2:x.toNat≤122
  ·have d2:decide ((x.toNat:Int)≤122)=true:=yQ (by omega);have HR:Hid (b=true):=yE (by rw[←HB.out]; unfold ZO; rw[yQ h1,yQ h2]; rfl)
   go_wp2_with fail
   go_ret;exact⟨YA HR.out.symm,rfl⟩
  ·have d2:decide ((x.toNat:Int)≤122)=false:=yP (by omega);have HR:Hid (b=false):=yE (by rw[←HB.out]; unfold ZO; rw[yP h2,Bool.and_false])
   go_wp2_with fail
   go_ret;exact⟨YA HR.out.symm,rfl⟩
 ·have d1:decide ((97:Int)≤(x.toNat:Int))=false:=yP (by omega);have HR:Hid (b=false):=yE (by rw[←HB.out]; unfold ZO; rw[yP h1,Bool.false_and])
  go_wp2_with fail
  go_ret;exact⟨YA HR.out.symm,rfl⟩
theorem zBK (x:UInt8)(b:Bool)(hb:Hid (vN x=b))(w:World):Calls Tryz.prog 118 #[.int .u8 (x.toNat:Int)] w fun e w'=>e=.returned (.bool b)∧w=w':=by
 have HB:=hb
 go_enter Tryz.func118,Tryz.ntmps118
 by_cases h1:48≤x.toNat
 ·have d1:decide ((48:Int)≤(x.toNat:Int))=true:=yQ (by omega)
  by_cases h2:x.toNat≤57
  ·have d2:decide ((x.toNat:Int)≤57)=true:=yQ (by omega);have HR:Hid (b=true):=yE (by rw[←HB.out]; unfold vN; rw[yQ h1,yQ h2]; rfl)
   go_wp2_with fail
   go_ret;exact⟨YA HR.out.symm,rfl⟩
  ·have d2:decide ((x.toNat:Int)≤57)=false:=yP (by omega);have HR:Hid (b=false):=yE (by rw[←HB.out]; unfold vN; rw[yP h2,Bool.and_false])
   go_wp2_with fail
   go_ret;exact⟨YA HR.out.symm,rfl⟩
 ·have d1:decide ((48:Int)≤(x.toNat:Int))=false:=yP (by omega);have HR:Hid (b=false):=yE (by rw[←HB.out]; unfold vN; rw[yP h1,Bool.false_and])
  go_wp2_with fail
  go_ret;exact⟨YA HR.out.symm,rfl⟩
theorem zEa (x:UInt8)(b:Bool)(hb:Hid (ZV x=b))(w:World):Calls Tryz.prog 116 #[.int .u8 (x.toNat:Int)] w fun e w'=>e=.returned (.bool b)∧w=w':=by
 have AA:ZV x=(((x.toNat:Int)==32)||(((x.toNat:Int)==9)||(((x.toNat:Int)==10)||((x.toNat:Int)==13)))):=by
  have h:∀(y:UInt8) (n:Int),(y.toNat:Int)=n→((x.toNat:Int)==n)=(x==y):=by
   intro y n hn;subst hn;rw[Bool.eq_iff_iff,zN,zN,←UInt8.toNat_inj];omega
  rw[h 32 32 rfl,h 9 9 rfl,h 10 10 rfl,h 13 13 rfl];unfold ZV;simp only[Bool.or_assoc]
 rw[AA] at hb;clear AA;have HB:=hb;clear hb
 go_enter Tryz.func116,Tryz.ntmps116
 cases h1:((x.toNat:Int)==32) with
 | true=>
  rw[h1] at HB;have HR:Hid (b=true):=yE (by rw[←HB.out]; rfl)
  go_wp2_with fail
  go_ret;exact⟨YA HR.out.symm,rfl⟩
 | false=>
  rw[h1] at HB
  cases h2:((x.toNat:Int)==9) with
  | true=>
   rw[h2] at HB;have HR:Hid (b=true):=yE (by rw[←HB.out]; rfl)
   go_wp2_with fail
   go_ret;exact⟨YA HR.out.symm,rfl⟩
  | false=>
   rw[h2] at HB
   cases h3:((x.toNat:Int)==10) with
   | true=>
    rw[h3] at HB;have HR:Hid (b=true):=yE (by rw[←HB.out]; rfl)
    go_wp2_with fail
    go_ret;exact⟨YA HR.out.symm,rfl⟩
   | false=>
    rw[h3] at HB;have HR:Hid (((x.toNat:Int)==13)=b):=HB
    go_wp2_with fail
    go_ret;exact⟨YA HR.out,rfl⟩
theorem zSN (x:UInt8)(b:Bool)(hb:Hid (zFw x=b))(w:World):Calls Tryz.prog 120 #[.int .u8 (x.toNat:Int)] w fun e w'=>e=.returned (.bool b)∧Ext w w':=by
 have HB:=hb;clear hb;have AH:=zBA (P:=Tryz.prog) (w.alloc (.cells #[.int .u8 123,.int .u8 125,.int .u8 40,.int .u8 41,.int .u8 91,.int .u8 93,.int .u8 59,.int .u8 44,.int .u8 46,.int .u8 43,.int .u8 45,.int .u8 42,.int .u8 60,.int .u8 61] 5)) 22 5 Tryz.underlying22 Tryz.underlying5 w.heap.size 14 14 (zO _ _);obtain⟨fr,AD⟩:=zAq (w.alloc (.cells #[.int .u8 123,.int .u8 125,.int .u8 40,.int .u8 41,.int .u8 91,.int .u8 93,.int .u8 59,.int .u8 44,.int .u8 46,.int .u8 43,.int .u8 45,.int .u8 42,.int .u8 60,.int .u8 61] 5)) w.heap.size 14 (zO _ _)
 have hx:Ext w ((w.alloc (.cells #[.int .u8 123,.int .u8 125,.int .u8 40,.int .u8 41,.int .u8 91,.int .u8 93,.int .u8 59,.int .u8 44,.int .u8 46,.int .u8 43,.int .u8 45,.int .u8 42,.int .u8 60,.int .u8 61] 5)).freeze ⟨w.heap.size,14,none⟩ 1):=
  ⟨rfl,rfl,rfl,by simp[World.freeze],fun k hk=>(zDh _ _ _ _ (by omega)).trans ((Ext.alloc w _).block k hk)⟩
 rw[show(#[.int .u8 123,.int .u8 125,.int .u8 40,.int .u8 41,.int .u8 91,.int .u8 93,.int .u8 59,.int .u8 44,.int .u8 46,.int .u8 43,.int .u8 45,.int .u8 42,.int .u8 60,.int .u8 61]:Array Value).size=14 from rfl] at AH;generalize ((w.alloc (.cells #[.int .u8 123,.int .u8 125,.int .u8 40,.int .u8 41,.int .u8 91,.int .u8 93,.int .u8 59,.int .u8 44,.int .u8 46,.int .u8 43,.int .u8 45,.int .u8 42,.int .u8 60,.int .u8 61] 5)).freeze ⟨w.heap.size,14,none⟩ 1)=w2 at *
 have AA:∀k (h:k<zJQ.length),w2.cell? ⟨w.heap.size,k,none⟩=some (.int .u8 (zJQ[k].toNat:Int)):=fun k h=>by
  rw[cell_of_row w2 w.heap.size k _ _ fr AD];have hk:k<14:=h
  have:k=0∨k=1∨k=2∨k=3∨k=4∨k=5∨k=6∨k=7∨k=8∨k=9∨k=10∨k=11∨k=12∨k=13:=by omega
  rcases this with rfl | rfl | rfl | rfl | rfl | rfl | rfl | rfl | rfl | rfl | rfl | rfl | rfl | rfl <;> rfl
 have HX:=yE hx;have HC:=yE AA;clear hx AA AD
 go_enter Tryz.func120,Tryz.ntmps120
 go_wp2_with fail
 go_loop [8] (fun i=>∃k:Nat,k≤14∧i=.int .i64 k∧Hid ((zJQ.drop k).contains x=b)) (fun i=>14-(intOf i).toNat)
 case atStart=>exact⟨0,zT _,rfl,HB⟩
 case round=>
  obtain⟨k,hk,rfl,HK⟩:=hrel
  by_cases AG:k<14
  ·have AF:k<zJQ.length:=AG;have e0:=HC.out k AF;have AB:=HK.out;rw[List.drop_eq_getElem_cons AF,List.contains_cons] at AB;have AE:=yE AB;clear AB HK
   have q0:(k:Int)<14:=by omega
   generalize zJQ[k]=y at *
   by_cases AC:y=x
   ·subst AC;have HR:Hid (b=true):=yE (by rw[←AE.out]; simp)
    have d1:((y.toNat:Int)==(y.toNat:Int))=true:=by simp
    go_wp2_with fail
    go_ret;exact⟨YA HR.out.symm,HX.out⟩
   ·have d1:=toNat_ne AC;have HR:Hid ((zJQ.drop (k+1)).contains x=b):=yE (by rw[←AE.out]; simp[Ne.symm AC])
    go_wp2_with fail
    go_round
    case rel=>exact⟨k+1,by omega,by go_num,HR⟩
    case measure=>simp[intOf]; omega
  ·obtain rfl:k=14:=by omega
   have HR:Hid (b=false):=yE (by rw[←HK.out]; rfl);rw[show((14:Nat):Int)=14 from rfl]
   go_wp2_with fail
   go_ret;exact⟨YA HR.out.symm,HX.out⟩
def zLZ:Option Int→Value
 | some n=>.tuple #[.int .i64 n,.bool true]
 | none=>.tuple #[.int .i64 0,.bool false]
theorem zMD {r r':Option Int}{v:Value}(h:r=r')(hv:zLZ r'=v):Ending.returned v=.returned (zLZ r):=by rw[h,hv]
theorem zHU (l:Bs)(hd:∀c ∈ l,vN c=true)(hl:l.length≤140737488355328)(w:World)(r:Option Int)(hr:Hid (zBQ 0 l=r)) :
  Calls Tryz.prog 119 #[.string (xE l)] w fun e w'=>e=.returned (zLZ r)∧w=w':=by
 have AH:(xE l).size=l.length:=by simp[xE,ByteArray.size]
 have AF:∀k (h:k<l.length),(xE l)[k]'(by rw[AH]; exact h)=l[k]:=fun k h=>by
  show(l.toArray)[k]=l[k]
  simp
 have HD:=yE hd;have AG:=yE AF;clear hd AF
 go_enter Tryz.func119,Tryz.ntmps119
 go_wp2_with fail
 go_loop [4,5] (fun n i=>∃(k:Nat) (m:Int),k≤l.length∧i=.int .i64 k∧n=.int .i64 m∧0≤m∧m≤2147483647∧Hid (zBQ m (l.drop k)=r)) (fun _ i=>l.length-(intOf i).toNat)
 case atStart=>exact⟨0,0,zT _,rfl,rfl,by omega,by omega,hr⟩
 case round=>
  obtain⟨k,m,hk,rfl,rfl,AI,AL,HN⟩:=hrel
  by_cases AB:k<l.length
  ·have e0:=AG.out k AB;have AE:=HD.out _ (yM AB);have AC:=HN.out;rw[List.drop_eq_getElem_cons AB] at AC;have AD:=yE AC;clear AC;generalize l[k]=c at *
   have hc:48≤c.toNat∧c.toNat≤57:=by simpa [vN] using AE
   obtain⟨AK,AJ⟩:=hc;clear AE
   have q0:(k:Int)<(l.length:Int):=by omega
   by_cases AA:2147483647<m*10+((c.toNat:Int)-48)
   ·have HR:Hid (r=none):=yE (by rw[←AD.out]; unfold zBQ; rw[if_pos AA])
    go_wp2_with fail
    go_ret2;exact⟨zMD HR.out rfl,rfl⟩
   ·have HR:Hid (zBQ (m*10+((c.toNat:Int)-48)) (l.drop (k+1))=r):=yE (by rw[←AD.out]; conv=>rhs; unfold zBQ; rw[if_neg AA])
    go_wp2_with fail
    go_round
    case rel=>exact⟨k+1,m*10+((c.toNat:Int)-48),by omega,by go_num,by go_num,by omega,by omega,HR⟩
    case measure=>simp[intOf]; omega
  ·obtain rfl:k=l.length:=by omega
   have HR:Hid (r=some m):=yE (by rw[←HN.out,List.drop_eq_nil_of_le (zU _)]; rfl)
   go_wp2_with fail
   go_ret2;exact⟨zMD HR.out rfl,rfl⟩
end Go.Proofs.YtioffpjajhalaaaGreatDoor
