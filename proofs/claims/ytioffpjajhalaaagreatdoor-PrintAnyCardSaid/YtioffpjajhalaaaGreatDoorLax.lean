/- What the listed variables of law 06's rows give: internal/strconv.uint64pow10's table; worlds that meet the rows' conditions (three variables, or errors.errorType besides). (and what follows of it). The conditions stand at each lemma. -/
import Derived.Test.YtioffpjajhalaaaGreatDoorLaa
import Derived.Test.YtioffpjajhalaaaGreatDoorRows
import Derived.Test.YtioffpjajhalaaaGreatDoorLaw
import Derived.ChangeSame
import Derived.ChangeVars
import Derived.JoinedOf
import Derived.RowKit
import Derived.RowKitTokens
import Derived.LaidLaws
import Derived.LaidHandle
import Derived.Lib.LaidTab
import Derived.Stop.LaidErr
import Derived.Deep.DeepLaidRun
import Derived.Test.YtioffpjajhalaaaGreatDoorLaf
import Derived.Shelf.Strings.OnBuilder
import Derived.Test.YtioffpjajhalaaaGreatDoorChecked
set_option linter.unusedVariables false
set_option linter.unusedSimpArgs false
set_option maxRecDepth 100000
set_option maxHeartbeats 16000000
namespace Go.Proofs.YtioffpjajhalaaaGreatDoor
open Go.ChangeShapes Go.WideShapes Go.RowKit
def zMK:List (String × DataW Unit):=[("math/bits.deBruijn32tab", Rows.laid_math_bits_deBruijn32tab), ("math/bits.deBruijn64tab", Rows.laid_math_bits_deBruijn64tab), ("internal/strconv.uint64pow10", Rows.laid_internal_strconv_uint64pow10)]
def zEL:List (String × DataW Unit):=[("math/bits.deBruijn32tab", Rows.laid_math_bits_deBruijn32tab), ("math/bits.deBruijn64tab", Rows.laid_math_bits_deBruijn64tab), ("internal/strconv.uint64pow10", Rows.laid_internal_strconv_uint64pow10), ("errors.errorType", Rows.laid_errors_errorType)]
theorem zMs:(Rows.laid_internal_strconv_uint64pow10:DataW Unit)=Lib.tabData .u64 Lib.pow10Tab:=by kernel_rfl
theorem zRO {W:World}(h:laidMet Tryz.prog zMK W):PW W:=by
 have h1:=h.tail.tail;rw[zMs] at h1;exact Lib.tabIs_of_head (g:=2) (t:=206) (e:=194) (n:=20) (by kernel_rfl) (by kernel_rfl) (by kernel_rfl) (by kernel_rfl) (by kernel_rfl) (by kernel_rfl) h1
theorem zQ4 {W:World}(h:laidMetH Tryz.prog zEL W):PW W:=zRO (show laidMet Tryz.prog zMK W∧handlesMet Tryz.prog [("errors.errorType", Rows.laid_errors_errorType)] W from h).1
def zHP:DataW Unit→Array Value
 | .agg l=>(l.map fun d=>match d with | .lit (.int k z)=>Value.int k z | _=>.nilIface).toArray
 | _=>#[]
def zDe (cs':Array Value):Obj→Obj
 | .cells _ t fr=>.cells cs' t fr
 | o=>o
noncomputable def zFg (os:Os):World:=
 let w0:=World.holding Tryz.prog os ⟨#[],#[],[]⟩
 let g:=fun s=>(Tryz.prog.globalNamed s).getD 0
 { w0 with heap:=((w0.heap.modify (g "math/bits.deBruijn32tab") (zDe (zHP Rows.laid_math_bits_deBruijn32tab))).modify (g "math/bits.deBruijn64tab") (zDe (zHP Rows.laid_math_bits_deBruijn64tab))).modify (g "internal/strconv.uint64pow10") (zDe (zHP Rows.laid_internal_strconv_uint64pow10)) }
noncomputable def zFj (os:Os):World:=
 { zFg os with heap:=(zFg os).heap.modify 0 (zDe #[.iface 180 (.agg #[.pointer (some ⟨5,25,none⟩)])]) }
theorem zGB (os:Os)(args:Array Value):laidMetH Tryz.prog zEL ((zFj os).forCall (fun _ _=>0) ⟨#[],args,[]⟩).memory:=
 laidMetH_of_parts (laidMet_of_run3 100 (by kernel_rfl) (by kernel_rfl) (by kernel_rfl)) (by kernel_rfl)
theorem zQg {W:World}(h:laidMetH Tryz.prog zEL W):GT W:=
 zL6 (show laidMet Tryz.prog [] W∧handlesMet Tryz.prog zMl W from⟨laidMet_nil _ _,(show laidMet Tryz.prog zMK W∧handlesMet Tryz.prog [("errors.errorType", Rows.laid_errors_errorType)] W from h).2⟩)
end Go.Proofs.YtioffpjajhalaaaGreatDoor
namespace Go.Proofs.YtioffpjajhalaaaGreatDoor
open Go Go.RowKit
theorem XG (l:Bs):(yX l).size=l.length:=by simp[yX,ByteArray.size]
theorem zLq (k:Nat):zDj (k:Int)=(YO k:Int):=by
 unfold zDj YO
 by_cases h:k=23∨k=24
 ·rw[if_pos (by omega),if_pos h]; rfl
 ·rw[if_neg (by omega),if_neg h]
  by_cases h2:k=25
  ·rw[if_pos (by omega),if_pos h2]; rfl
  ·rw[if_neg (by omega),if_neg h2]; rfl
theorem VR (least k:Nat)(s:Bs):zCE (least:Int) (k:Int) (yX s)=yX (jE least k s):=by
 unfold zCE jE;rw[zLq]
 by_cases h:YO k<least
 ·rw[if_pos (by omega),if_pos h,←YR,←YR]; rfl
 ·rw[if_neg (by omega),if_neg h]
theorem ZF {l want:List Int}(h:TT.isR l want=true):l.length=want.length:=by
 unfold TT.isR at h;rw[zF,zN] at h;exact h.1
theorem zOm {k:Nat}{t:Bs}{x:Int}{kk:List Nat}(h:ZY k t x kk):0≤x∧x≤2147483647:=by
 have:=h.2.2.1
 unfold TT.vL at this;simp only[zF,zE] at this
 have hm:TT.zBB (k:Int)≤2147483647:=by
  unfold TT.zBB
  split
  ·decide
  ·split <;> decide
 have:=this.2.2
 omega
theorem zIC {k:Nat}{t:Bs}{x:Int}{kk:List Nat}(h:ZY k t x kk)(hk:k=20∨k=26):kk.length=1:=by
 have:=h.2.2.2
 have:=ZF (want:=[0]) (l:=kk.map fun (j:Nat)=>(j:Int)) (by rcases hk with rfl | rfl <;> exact this)
 simpa using this
theorem zEX {k:Nat}{t:Bs}{x:Int}{kk:List Nat}(h:ZY k t x kk)(hk:k=23∨k=24∨k=25):kk.length=2:=by
 have:=h.2.2.2
 have:=ZF (want:=[0,0]) (l:=kk.map fun (j:Nat)=>(j:Int)) (by rcases hk with rfl | rfl | rfl <;> exact this)
 simpa using this
def zCf (w:World)(g:Nat)(L:List TT.xB)(i kk:Nat)(s:Bs):Prop:=∃y,L[i]?=some y∧y.kind=(kk:Int)∧∀w',Ext w w'→Calls Tryz.prog 56 #[.pointer (some ⟨g,0,none⟩),vZ y] w' fun e AA=>e=.returned (.string (yX s))∧Ext w' AA
theorem zOW (w:World)(g n c:Nat)(A:Option Addr)(L:List TT.xB)(hP:PrT w g n c A L)(x:TT.xB)(hx:Cells w x.kA (TT.xD x.kids))(k:Nat)(t:Bs)(num:Int)(ks kk:List Nat)(ls:List Bs)(hk:x.kind=(k:Int))(ht:x.text=yX t)(hnum:x.num=num)(hks:x.kids=xG ks)(hnk:ZY k t num kk)(hl1:kk.length=ks.length)(hl2:ls.length=ks.length)
  (HK:∀j (hj:j<ks.length),zCf w g L ks[j] (kk.getD j 0) (ls.getD j [])) (Ae:t.length+vR ls≤1152921504606846976) :
  Calls Tryz.prog 56 #[.pointer (some ⟨g,0,none⟩),vZ x] w fun e w'=>e=.returned (.string (yX (YH k t num ls kk)))∧Ext w w':=by
 obtain⟨Ad,AK⟩:∃r,Hid (yX (YH k t num ls kk)=r):=⟨_,yD rfl⟩;rw[AK.out];have A2:=zOm hnk;have HN:=yD A2;have Ao:=yD hnk;have A1:=yD hx;have Aa:=yD hks;have HP:=yD hP;have Ap:=yD hl1;have BB:=yD hl2;have A0:=yD HK;have A7:=yD Ae;have AU:=zJL ls;have Aj:=yD AU;have AM:Hid (x.kids.length=ks.length):=yD (by rw[hks]; simp[xG]);unfold vZ;rw[hk,ht,hnum];clear A2 hnk hx hks hP hl1 hl2 HK Ae AU;have AW:Hid (Ext w ((w.alloc (.cells #[.pointer (some ⟨g,0,none⟩)] 77)).alloc (.cells #[.int .u8 (k:Int),.int .i64 x.pos,.string (yX t),.int .i64 num,.slice x.kA x.kids.length x.kc] 48))):=yD ((Ext.alloc _ _).trans (Ext.alloc _ _));have AX:Hid (Blk ((w.alloc (.cells #[.pointer (some ⟨g,0,none⟩)] 77)).alloc (.cells #[.int .u8 (k:Int),.int .i64 x.pos,.string (yX t),.int .i64 num,.slice x.kA x.kids.length x.kc] 48)) w.heap.size 77 #[.pointer (some ⟨g,0,none⟩)]):=yD ((Blk.new _ _ _).alloc _);have AZ:Hid (Blk ((w.alloc (.cells #[.pointer (some ⟨g,0,none⟩)] 77)).alloc (.cells #[.int .u8 (k:Int),.int .i64 x.pos,.string (yX t),.int .i64 num,.slice x.kA x.kids.length x.kc] 48)) (w.heap.size+1) 48 #[.int .u8 (k:Int),.int .i64 x.pos,.string (yX t),.int .i64 num,.slice x.kA x.kids.length x.kc]):=yD (Blk.VV (by simp));have HE:Hid (∀args w,(callFunc 96 args).run Tryz.prog w=.ok (.enter 96 args) w):=yD (enters_of Tryz.func96 (by kernel_rfl) rfl)
 go_enter Tryz.func56,Tryz.ntmps56
 go_upto_region 1 with fail
 try simp only[size_alloc]
 generalize w.heap.size+1=gn at AZ ⊢;generalize w.heap.size=gp at AX ⊢;generalize ((w.alloc (.cells #[.pointer (some ⟨g,0,none⟩)] 77)).alloc (.cells #[.int .u8 (k:Int),.int .i64 x.pos,.string (yX t),.int .i64 num,.slice x.kA x.kids.length x.kc] 48))=w1 at *;have AY:=yD (HP.out.ext AW.out);have AL:=yD (A1.out.ext AW.out);have AP:Hid (Blk w1 gn 48 #[.int .u8 x.kind,.int .i64 x.pos,.string x.text,.int .i64 x.num,.slice x.kA x.kids.length x.kc]):=yD (by rw[hk,ht,hnum]; exact AZ.out)
 have Ac:Hid (∀j (hj:j<ks.length),zCf w1 g L ks[j] (kk.getD j 0) (ls.getD j [])):=yD fun j hj=>by
  obtain⟨y,h1,h2,h3⟩:=A0.out j hj;exact⟨y,h1,h2,fun w' hx=>h3 w' (AW.out.trans hx)⟩
 clear A1 A0 HP;have p0:w1.cell? ⟨gp,0,none⟩=some (.pointer (some ⟨g,0,none⟩)):=AX.out.cell 0;have n0:w1.cell? ⟨gn,0,none⟩=some (.int .u8 (k:Int)):=AZ.out.cell 0;have n1:w1.cell? ⟨gn,1,none⟩=some (.int .i64 x.pos):=AZ.out.cell 1;have n2:w1.cell? ⟨gn,2,none⟩=some (.string (yX t)):=AZ.out.cell 2;have n3:w1.cell? ⟨gn,3,none⟩=some (.int .i64 num):=AZ.out.cell 3;have n4:w1.cell? ⟨gn,4,none⟩=some (.slice x.kA x.kids.length x.kc):=AZ.out.cell 4;have A4:=yD AX.out.lt;have Ai:=yD AZ.out.lt;have he:=HE.out;have Ae:=A7.out;have As:=XG t
 by_cases Ax:k=20
 ·subst Ax;have AA:Hid (ks.length=1):=yD (by rw[←Ap.out]; exact zIC Ao.out (.inl rfl));obtain⟨y0,AV,AC,AD⟩:=Ac.out 0 (by have:=AA.out; omega);have AI:=yD AC;have AG:=yD AD;have AF:Hid (x.kids[0]'(by rw[AM.out]; have:=AA.out; omega)=(ks[0]'(by have:=AA.out; omega):Nat)):=yD (by simp only[Aa.out,xG,zA]);clear AC AD;have BC:=XG (ls.getD 0 []);have AU:=Aj.out
  have HV:Hid (yX t++⟨#[91]⟩++yX (ls.getD 0 [])++⟨#[93]⟩=Ad):=yD (by
   rw[←AK.out];unfold YH;rw[if_pos rfl,←YR,←YR,←YR]
   rfl)
  generalize ls.getD 0 []=l0 at *
  have z1:¬(9223372036854775807<(yX t).size+1):=by omega
  have z2:¬(9223372036854775807<(yX t).size+1+(yX l0).size):=by omega
  have z3:¬(9223372036854775807<(yX t).size+1+(yX l0).size+1):=by omega
  have A6:Hid (∀w',Ext w1 w'→Calls Tryz.prog 40 #[.pointer (some ⟨g,0,none⟩),.agg #[.int .u8 20,.int .i64 x.pos,.string (yX t),.int .i64 num,.slice x.kA x.kids.length x.kc],.int .i64 0] w' fun e A5=>e=.returned (vZ y0)∧Ext w' A5):=yD fun w' hx=>by
   have hp:=AY.out.ext hx
   have:=zAl w' g n c A L hp.tree hp.len hp.at0 hp.lt x (AL.out.ext hx) 0 (ks[0]'(by have:=AA.out; omega)) (by rw[AM.out]; have:=AA.out; omega) AF.out (List.getElem?_eq_some_iff.1 AV).1 y0 AV
   unfold vZ at this ⊢;rw[hk,ht,hnum] at this;exact this
  go_upto_region 4 with fail
  apply xY (by kernel_rfl) (by kernel_rfl) (by kernel_rfl);apply sQ (.pointer (some ⟨gn,2,none⟩));apply yZ (.string (yX t)) rfl rfl rfl
  ·intro w' AN hH;clear hH;have y2:=(AN.cell (p:=⟨gn,2,none⟩) Ai.out).trans n2;simp[yY,go_sem,y2];exact Ext.refl _
  apply sP z1 (.string (yX t++⟨#[91]⟩));apply yZ (.pointer (some ⟨g,0,none⟩)) rfl rfl rfl
  ·intro w' AN hH;clear hH;have yp:=(AN.cell (p:=⟨gp,0,none⟩) A4.out).trans p0;simp[yY,go_sem,yp];exact Ext.refl _
  apply yZ (.pointer (some ⟨g,0,none⟩)) rfl rfl rfl
  ·intro w' AN hH;clear hH;have yp:=(AN.cell (p:=⟨gp,0,none⟩) A4.out).trans p0;simp[yY,go_sem,yp];exact Ext.refl _
  apply yZ (.agg #[.int .u8 20,.int .i64 x.pos,.string (yX t),.int .i64 num,.slice x.kA x.kids.length x.kc]) rfl rfl rfl
  ·intro w' AN hH;clear hH;have y0:=(AN.cell (p:=⟨gn,0,none⟩) Ai.out).trans n0;have y1:=(AN.cell (p:=⟨gn,1,none⟩) Ai.out).trans n1;have y2:=(AN.cell (p:=⟨gn,2,none⟩) Ai.out).trans n2;have y3:=(AN.cell (p:=⟨gn,3,none⟩) Ai.out).trans n3;have y4:=(AN.cell (p:=⟨gn,4,none⟩) Ai.out).trans n4;simp[yY,go_sem,y0,y1,y2,y3,y4];exact Ext.refl _
  apply yZ (vZ y0) rfl rfl rfl
  ·intro w' AN hH;clear hH;simp[yY,go_sem];refine(A6.out w' AN).mono ?_;rintro e w2 ⟨rfl,AE⟩;exact⟨_,rfl,rfl,AE⟩
  apply yZ (.string (yX l0)) rfl rfl rfl
  ·intro w' AN hH;clear hH;simp[yY,go_sem];refine(AG.out w' AN).mono ?_;rintro e w2 ⟨rfl,AE⟩;exact⟨_,rfl,rfl,AE⟩
  apply sP z2 (.string (yX t++⟨#[91]⟩++yX l0));apply sP z3 (.string (yX t++⟨#[91]⟩++yX l0++⟨#[93]⟩));apply sQ (.string (yX t++⟨#[91]⟩++yX l0++⟨#[93]⟩));apply xN;intro w2 AE hH;clear hH
  try simp only[Act.put,yA,yC,yB]
  have An:=yD (AW.out.trans AE);rw[HV.out];clear AE p0 n0 n1 n2 n3 n4 z1 z2 z3
  go_wp2_with fail
  go_ret;exact⟨rfl,An.out⟩
 have BA:((k:Int)==20)=false:=beq_eq_false_iff_ne.2 (by omega)
 by_cases Aw:k=21
 ·subst Aw;have HV:Hid (yX (Lib.itoa num)=Ad):=yD (by rw[←AK.out]; unfold YH; rw[if_neg (by decide),if_pos rfl])
  go_wp2_with fail
  refine(zNt num (by have:=HN.out; omega) (by have:=HN.out; omega) w1 AY.out.tab).mono ?_;rintro e w2 ⟨rfl,AE⟩;have An:=yD (AW.out.trans AE);clear AE p0 n0 n1 n2 n3 n4
  go_wp2_with fail
  go_ret;rw[HV.out];exact⟨rfl,An.out⟩
 have BF:((k:Int)==21)=false:=beq_eq_false_iff_ne.2 (by omega)
 by_cases At:k=23
 ·subst At;have AA:Hid (ks.length=2):=yD (by rw[←Ap.out]; exact zEX Ao.out (by decide));obtain⟨y0,AV,AC,AD⟩:=Ac.out 0 (by have:=AA.out; omega);have AI:=yD AC;have AG:=yD AD;have AF:Hid (x.kids[0]'(by rw[AM.out]; have:=AA.out; omega)=(ks[0]'(by have:=AA.out; omega):Nat)):=yD (by simp only[Aa.out,xG,zA]);clear AC AD;obtain⟨y1,Ar,AJ,AH⟩:=Ac.out 1 (by have:=AA.out; omega);have AT:=yD AJ;have AQ:=yD AH;have AS:Hid (x.kids[1]'(by rw[AM.out]; have:=AA.out; omega)=(ks[1]'(by have:=AA.out; omega):Nat)):=yD (by simp only[Aa.out,xG,zA]);clear AJ AH;have AU:=Aj.out;have AO:=XG (ls.getD 0 []);have AR:=XG (ls.getD 1 []);have Af:=YQ 1 (kk.getD 0 0) (ls.getD 0 []);have Am:=YQ 2 (kk.getD 1 0) (ls.getD 1 [])
  have HV:Hid (yX (jE 1 (kk.getD 0 0) (ls.getD 0 []))++⟨#[32,43,32]⟩++yX (jE 2 (kk.getD 1 0) (ls.getD 1 []))=Ad):=yD (by
   rw[←AK.out];unfold YH;simp only[Nat.reduceEqDiff,if_false,if_true];rw[←YR,←YR]
   rfl)
  have Ag:Hid (zCE 1 y0.kind (yX (ls.getD 0 []))=yX (jE 1 (kk.getD 0 0) (ls.getD 0 []))):=yD (by rw[AI.out]; exact VR 1 _ _);have Al:Hid (zCE 2 y1.kind (yX (ls.getD 1 []))=yX (jE 2 (kk.getD 1 0) (ls.getD 1 []))):=yD (by rw[AT.out]; exact VR 2 _ _);have Ah:=XG (jE 1 (kk.getD 0 0) (ls.getD 0 []));have Aq:=XG (jE 2 (kk.getD 1 0) (ls.getD 1 []));generalize yX (jE 1 (kk.getD 0 0) (ls.getD 0 []))=q0 at *;generalize yX (jE 2 (kk.getD 1 0) (ls.getD 1 []))=q1 at *;generalize ls.getD 0 []=l0 at *;generalize ls.getD 1 []=l1 at *
  have z1:¬(9223372036854775807<q0.size+3):=by omega
  have z2:¬(9223372036854775807<q0.size+3+q1.size):=by omega
  have Av:(yX l0).size≤4611686018427387904:=by omega
  have A3:(yX l1).size≤4611686018427387904:=by omega
  clear AU AO AR Af Am Ah Aq As Ae
  go_wp2_with fail
  refine(YC w1 g n c gp gn A L (AY.out.ext (Ext.refl _)) x (AX.out.ext (Ext.refl _)) (AP.out.ext (Ext.refl _)) (AL.out.ext (Ext.refl _)) 0 (ks[0]'(by have:=AA.out; omega)) (by rw[AM.out]; have:=AA.out; omega) AF.out y0 AV (yX l0) (by omega) 1 (fun w' hx=>AG.out w' (hx))).mono ?_;rintro e w2 ⟨rfl,AE⟩;rw[Ag.out];have AB:=yD AE;clear AE p0 n0 n1 n2 n3 n4
  go_wp2_with fail
  refine(YC w2 g n c gp gn A L (AY.out.ext AB.out) x (AX.out.ext AB.out) (AP.out.ext AB.out) (AL.out.ext AB.out) 1 (ks[1]'(by have:=AA.out; omega)) (by rw[AM.out]; have:=AA.out; omega) AS.out y1 Ar (yX l1) (by omega) 2 (fun w' hx=>AQ.out w' (AB.out.trans hx))).mono ?_;rintro e w3 ⟨rfl,Ab⟩;rw[Al.out];have Ak:=yD (AW.out.trans (AB.out.trans Ab));clear Ab
  go_wp2_with fail
  go_ret;rw[HV.out];exact⟨rfl,Ak.out⟩
 have BE:((k:Int)==23)=false:=beq_eq_false_iff_ne.2 (by omega)
 by_cases Az:k=24
 ·subst Az;have AA:Hid (ks.length=2):=yD (by rw[←Ap.out]; exact zEX Ao.out (by decide));obtain⟨y0,AV,AC,AD⟩:=Ac.out 0 (by have:=AA.out; omega);have AI:=yD AC;have AG:=yD AD;have AF:Hid (x.kids[0]'(by rw[AM.out]; have:=AA.out; omega)=(ks[0]'(by have:=AA.out; omega):Nat)):=yD (by simp only[Aa.out,xG,zA]);clear AC AD;obtain⟨y1,Ar,AJ,AH⟩:=Ac.out 1 (by have:=AA.out; omega);have AT:=yD AJ;have AQ:=yD AH;have AS:Hid (x.kids[1]'(by rw[AM.out]; have:=AA.out; omega)=(ks[1]'(by have:=AA.out; omega):Nat)):=yD (by simp only[Aa.out,xG,zA]);clear AJ AH;have AU:=Aj.out;have AO:=XG (ls.getD 0 []);have AR:=XG (ls.getD 1 []);have Af:=YQ 1 (kk.getD 0 0) (ls.getD 0 []);have Am:=YQ 2 (kk.getD 1 0) (ls.getD 1 [])
  have HV:Hid (yX (jE 1 (kk.getD 0 0) (ls.getD 0 []))++⟨#[32,45,32]⟩++yX (jE 2 (kk.getD 1 0) (ls.getD 1 []))=Ad):=yD (by
   rw[←AK.out];unfold YH;simp only[Nat.reduceEqDiff,if_false,if_true];rw[←YR,←YR]
   rfl)
  have Ag:Hid (zCE 1 y0.kind (yX (ls.getD 0 []))=yX (jE 1 (kk.getD 0 0) (ls.getD 0 []))):=yD (by rw[AI.out]; exact VR 1 _ _);have Al:Hid (zCE 2 y1.kind (yX (ls.getD 1 []))=yX (jE 2 (kk.getD 1 0) (ls.getD 1 []))):=yD (by rw[AT.out]; exact VR 2 _ _);have Ah:=XG (jE 1 (kk.getD 0 0) (ls.getD 0 []));have Aq:=XG (jE 2 (kk.getD 1 0) (ls.getD 1 []));generalize yX (jE 1 (kk.getD 0 0) (ls.getD 0 []))=q0 at *;generalize yX (jE 2 (kk.getD 1 0) (ls.getD 1 []))=q1 at *;generalize ls.getD 0 []=l0 at *;generalize ls.getD 1 []=l1 at *
  have z1:¬(9223372036854775807<q0.size+3):=by omega
  have z2:¬(9223372036854775807<q0.size+3+q1.size):=by omega
  have Av:(yX l0).size≤4611686018427387904:=by omega
  have A3:(yX l1).size≤4611686018427387904:=by omega
  clear AU AO AR Af Am Ah Aq As Ae
  go_wp2_with fail
  refine(YC w1 g n c gp gn A L (AY.out.ext (Ext.refl _)) x (AX.out.ext (Ext.refl _)) (AP.out.ext (Ext.refl _)) (AL.out.ext (Ext.refl _)) 0 (ks[0]'(by have:=AA.out; omega)) (by rw[AM.out]; have:=AA.out; omega) AF.out y0 AV (yX l0) (by omega) 1 (fun w' hx=>AG.out w' (hx))).mono ?_;rintro e w2 ⟨rfl,AE⟩;rw[Ag.out];have AB:=yD AE;clear AE p0 n0 n1 n2 n3 n4
  go_wp2_with fail
  refine(YC w2 g n c gp gn A L (AY.out.ext AB.out) x (AX.out.ext AB.out) (AP.out.ext AB.out) (AL.out.ext AB.out) 1 (ks[1]'(by have:=AA.out; omega)) (by rw[AM.out]; have:=AA.out; omega) AS.out y1 Ar (yX l1) (by omega) 2 (fun w' hx=>AQ.out w' (AB.out.trans hx))).mono ?_;rintro e w3 ⟨rfl,Ab⟩;rw[Al.out];have Ak:=yD (AW.out.trans (AB.out.trans Ab));clear Ab
  go_wp2_with fail
  go_ret;rw[HV.out];exact⟨rfl,Ak.out⟩
 have A9:((k:Int)==24)=false:=beq_eq_false_iff_ne.2 (by omega)
 by_cases Au:k=25
 ·subst Au;have AA:Hid (ks.length=2):=yD (by rw[←Ap.out]; exact zEX Ao.out (by decide));obtain⟨y0,AV,AC,AD⟩:=Ac.out 0 (by have:=AA.out; omega);have AI:=yD AC;have AG:=yD AD;have AF:Hid (x.kids[0]'(by rw[AM.out]; have:=AA.out; omega)=(ks[0]'(by have:=AA.out; omega):Nat)):=yD (by simp only[Aa.out,xG,zA]);clear AC AD;obtain⟨y1,Ar,AJ,AH⟩:=Ac.out 1 (by have:=AA.out; omega);have AT:=yD AJ;have AQ:=yD AH;have AS:Hid (x.kids[1]'(by rw[AM.out]; have:=AA.out; omega)=(ks[1]'(by have:=AA.out; omega):Nat)):=yD (by simp only[Aa.out,xG,zA]);clear AJ AH;have AU:=Aj.out;have AO:=XG (ls.getD 0 []);have AR:=XG (ls.getD 1 []);have Af:=YQ 2 (kk.getD 0 0) (ls.getD 0 []);have Am:=YQ 3 (kk.getD 1 0) (ls.getD 1 [])
  have HV:Hid (yX (jE 2 (kk.getD 0 0) (ls.getD 0 []))++⟨#[32,42,32]⟩++yX (jE 3 (kk.getD 1 0) (ls.getD 1 []))=Ad):=yD (by
   rw[←AK.out];unfold YH;simp only[Nat.reduceEqDiff,if_false,if_true];rw[←YR,←YR]
   rfl)
  have Ag:Hid (zCE 2 y0.kind (yX (ls.getD 0 []))=yX (jE 2 (kk.getD 0 0) (ls.getD 0 []))):=yD (by rw[AI.out]; exact VR 2 _ _);have Al:Hid (zCE 3 y1.kind (yX (ls.getD 1 []))=yX (jE 3 (kk.getD 1 0) (ls.getD 1 []))):=yD (by rw[AT.out]; exact VR 3 _ _);have Ah:=XG (jE 2 (kk.getD 0 0) (ls.getD 0 []));have Aq:=XG (jE 3 (kk.getD 1 0) (ls.getD 1 []));generalize yX (jE 2 (kk.getD 0 0) (ls.getD 0 []))=q0 at *;generalize yX (jE 3 (kk.getD 1 0) (ls.getD 1 []))=q1 at *;generalize ls.getD 0 []=l0 at *;generalize ls.getD 1 []=l1 at *
  have z1:¬(9223372036854775807<q0.size+3):=by omega
  have z2:¬(9223372036854775807<q0.size+3+q1.size):=by omega
  have Av:(yX l0).size≤4611686018427387904:=by omega
  have A3:(yX l1).size≤4611686018427387904:=by omega
  clear AU AO AR Af Am Ah Aq As Ae
  go_wp2_with fail
  refine(YC w1 g n c gp gn A L (AY.out.ext (Ext.refl _)) x (AX.out.ext (Ext.refl _)) (AP.out.ext (Ext.refl _)) (AL.out.ext (Ext.refl _)) 0 (ks[0]'(by have:=AA.out; omega)) (by rw[AM.out]; have:=AA.out; omega) AF.out y0 AV (yX l0) (by omega) 2 (fun w' hx=>AG.out w' (hx))).mono ?_;rintro e w2 ⟨rfl,AE⟩;rw[Ag.out];have AB:=yD AE;clear AE p0 n0 n1 n2 n3 n4
  go_wp2_with fail
  refine(YC w2 g n c gp gn A L (AY.out.ext AB.out) x (AX.out.ext AB.out) (AP.out.ext AB.out) (AL.out.ext AB.out) 1 (ks[1]'(by have:=AA.out; omega)) (by rw[AM.out]; have:=AA.out; omega) AS.out y1 Ar (yX l1) (by omega) 3 (fun w' hx=>AQ.out w' (AB.out.trans hx))).mono ?_;rintro e w3 ⟨rfl,Ab⟩;rw[Al.out];have Ak:=yD (AW.out.trans (AB.out.trans Ab));clear Ab
  go_wp2_with fail
  go_ret;rw[HV.out];exact⟨rfl,Ak.out⟩
 have BD:((k:Int)==25)=false:=beq_eq_false_iff_ne.2 (by omega)
 by_cases Ay:k=26
 ·subst Ay;have AA:Hid (ks.length=1):=yD (by rw[←Ap.out]; exact zIC Ao.out (.inr rfl));obtain⟨y0,AV,AC,AD⟩:=Ac.out 0 (by have:=AA.out; omega);have AI:=yD AC;have AG:=yD AD;have AF:Hid (x.kids[0]'(by rw[AM.out]; have:=AA.out; omega)=(ks[0]'(by have:=AA.out; omega):Nat)):=yD (by simp only[Aa.out,xG,zA]);clear AC AD;have AU:=Aj.out;have AO:=XG (ls.getD 0 []);have Af:=YQ 3 (kk.getD 0 0) (ls.getD 0 [])
  have HV:Hid (⟨#[45]⟩++yX (jE 3 (kk.getD 0 0) (ls.getD 0 []))=Ad):=yD (by
   rw[←AK.out];unfold YH;simp only[Nat.reduceEqDiff,if_false,if_true];rw[←YR]
   rfl)
  have Ag:Hid (zCE 3 y0.kind (yX (ls.getD 0 []))=yX (jE 3 (kk.getD 0 0) (ls.getD 0 []))):=yD (by rw[AI.out]; exact VR 3 _ _);have Ah:=XG (jE 3 (kk.getD 0 0) (ls.getD 0 []));generalize yX (jE 3 (kk.getD 0 0) (ls.getD 0 []))=q0 at *;generalize ls.getD 0 []=l0 at *
  have z1:¬(9223372036854775807<1+q0.size):=by omega
  have Av:(yX l0).size≤4611686018427387904:=by omega
  clear AU AO Af Ah As Ae
  go_wp2_with fail
  refine(YC w1 g n c gp gn A L (AY.out.ext (Ext.refl _)) x (AX.out.ext (Ext.refl _)) (AP.out.ext (Ext.refl _)) (AL.out.ext (Ext.refl _)) 0 (ks[0]'(by have:=AA.out; omega)) (by rw[AM.out]; have:=AA.out; omega) AF.out y0 AV (yX l0) (by omega) 3 (fun w' hx=>AG.out w' (hx))).mono ?_;rintro e w2 ⟨rfl,AE⟩;rw[Ag.out];have An:=yD (AW.out.trans AE);clear AE p0 n0 n1 n2 n3 n4
  go_wp2_with fail
  go_ret;rw[HV.out];exact⟨rfl,An.out⟩
 have A8:((k:Int)==26)=false:=beq_eq_false_iff_ne.2 (by omega);have HV:Hid (yX t=Ad):=yD (by rw[←AK.out]; unfold YH; rw[if_neg Ax,if_neg Aw,if_neg At,if_neg Az,if_neg Au,if_neg Ay]);clear Ax Aw At Az Au Ay
 go_wp2_with fail
 go_ret;rw[HV.out];exact⟨rfl,AW.out⟩
theorem zCk {s:ByteArray}{t:Bs}(h:s.data.toList=t):s=yX t:=by
 subst h;apply ByteArray.ext;simp[yX]
theorem zCj (w:World)(g n c:Nat)(A:Option Addr)(L:List TT.xB)(hP:PrT w g n c A L):∀(f:Fo) (a:Nat),VE L a f→f.ok 0→f.wt≤1099511627776→∀j (hj:j<(f.roots a).length),zCf w g L (f.roots a)[j] (f.kinds.getD j 0) (f.txt.getD j [])
 | .nil,a,_,_,_=>fun j hj=>by cases hj
 | .cons k p t x c' r,a,hL,hok,hwt=>fun j hj=>by
  have hw:t.length+30+c'.wt+r.wt≤1099511627776:=hwt;obtain⟨⟨m,hm,hk,hx,ht,AD⟩,hc,hr⟩:=hL
  cases j with
  | zero=>
   refine⟨m,hm,hk,fun w' AC=>?_⟩;have AB:=hP.ext AC;have AA:m ∈ L:=zY hm;have hs:=XU c' hok.2.1
   exact zOW w' g n c A L AB m (AB.tree.ok m AA).kids k t x (c'.roots (a+1)) c'.kinds c'.txt hk (zCk ht) hx AD hok.1.1 (ZR c' _) (YU c' _) (fun i hi=>by
    obtain⟨y,h1,h2,h3⟩:=zCj w g n c A L hP c' (a+1) hc hok.2.1 (by omega) i hi
    exact⟨y,h1,h2,fun w2 AE=>h3 w2 (AC.trans AE)⟩) (by omega)
  | succ j=>
   exact zCj w g n c A L hP r (a+1+c'.size) hr hok.2.2 (by omega) j (Nat.lt_of_succ_lt_succ hj)
end Go.Proofs.YtioffpjajhalaaaGreatDoor
namespace Go.Proofs.YtioffpjajhalaaaGreatDoor
open Go Go.Shelf
def zFf:Ren:=
 {
  f:=fun x=>
   match x with
   | 156=>88
   | 165=>137
   | 166=>87
   | 169=>47
   | 240=>136
   | 241=>167
   | 276=>166
   | 277=>184
   | n=>n,
  t:=fun x=>
   match x with
   | 31=>33
   | 9=>9
   | 3=>3
   | 4=>4
   | 0=>0
   | 20=>20
   | 72=>80
   | 76=>135
   | 70=>78
   | 37=>22
   | 75=>25
   | 127=>140
   | 164=>155
   | 5=>5
   | 80=>90
   | n=>n,
  g:=fun x=>
   have n:=x;
   n }
theorem zJJ:Lays.n156 Tryz.prog zFf where
 mixed:=by kernel_rfl
 f156:=by kernel_rfl
 f165:=by kernel_rfl
 f166:=by kernel_rfl
 f169:=by kernel_rfl
 f240:=by kernel_rfl
 f241:=by kernel_rfl
 f276:=by kernel_rfl
 f277:=by kernel_rfl
 t0:=Tryz.underlying0
 a0:=Tryz.isAgg0
 z0:=Tryz.sizeOf0
 v0:=Tryz.zeroValue0
 t3:=Tryz.underlying3
 a3:=Tryz.isAgg3
 z3:=Tryz.sizeOf3
 v3:=Tryz.zeroValue3
 t4:=Tryz.underlying4
 a4:=Tryz.isAgg4
 z4:=Tryz.sizeOf4
 v4:=Tryz.zeroValue4
 t9:=Tryz.underlying9
 a9:=Tryz.isAgg9
 z9:=Tryz.sizeOf9
 v9:=Tryz.zeroValue9
 t20:=Tryz.underlying20
 a20:=Tryz.isAgg20
 z20:=Tryz.sizeOf20
 v20:=Tryz.zeroValue20
 t31:=Tryz.underlying33
 a31:=Tryz.isAgg33
 z31:=Tryz.sizeOf33
 v31:=Tryz.zeroValue33
 t37:=Tryz.underlying22
 a37:=Tryz.isAgg22
 z37:=Tryz.sizeOf22
 v37:=Tryz.zeroValue22
 t70:=Tryz.underlying78
 a70:=Tryz.isAgg78
 z70:=Tryz.sizeOf78
 v70:=Tryz.zeroValue78
 t72:=Tryz.underlying80
 a72:=Tryz.isAgg80
 z72:=Tryz.sizeOf80
 v72:=Tryz.zeroValue80
 t75:=Tryz.underlying25
 a75:=Tryz.isAgg25
 z75:=Tryz.sizeOf25
 v75:=Tryz.zeroValue25
 t76:=Tryz.underlying135
 a76:=Tryz.isAgg135
 z76:=Tryz.sizeOf135
 v76:=Tryz.zeroValue135
 t127:=Tryz.underlying140
 a127:=Tryz.isAgg140
 z127:=Tryz.sizeOf140
 v127:=Tryz.zeroValue140
 t164:=Tryz.underlying155
 a164:=Tryz.isAgg155
 z164:=Tryz.sizeOf155
 v164:=Tryz.zeroValue155
theorem zIy:Builder.Extra Tryz.prog zFf where
 sizeBuilder:=by kernel_rfl
 liesBuilder:=by kernel_rfl
 t5:=Tryz.underlying5
 a5:=Tryz.isAgg5
 z5:=Tryz.sizeOf5
 v5:=Tryz.zeroValue5
 infoByte:=by kernel_rfl
 cellsByte:=by kernel_rfl
 sizeByte:=by kernel_rfl
 neB5:=by decide
theorem join_none (a:Option Addr)(c:Nat)(sep:ByteArray)(w:World) :
  Calls Tryz.prog 88 #[.slice a 0 c,.string sep] w fun e w'=>e=.returned (.string ⟨#[]⟩)∧w'=w:=Any.strings_Join_none zJJ zIy a c sep w
theorem zPT (bk o c:Nat)(xs:List ByteArray)(sep:ByteArray)(w:World)(hcells:∀(j:Nat) x,xs[j]?=some x→w.cell? ⟨bk,o+j,none⟩=some (.string x))(hbk:bk<w.heap.size)(hN:xs.length≤140737488355328)(hcap:xs.length≤c)(hlen:(Lib.join (xs.map (·.data.toList)) sep.data.toList).length≤140737488355328) :
  Calls Tryz.prog 88 #[.slice (some ⟨bk,o,none⟩) xs.length c,.string sep] w fun e w'=>e=.returned (.string ⟨(Lib.join (xs.map (·.data.toList)) sep.data.toList).toArray⟩)∧RowKit.Below w.heap.size w w':=Any.strings_Join zJJ zIy bk o c xs sep w hcells hbk hN hcap hlen
end Go.Proofs.YtioffpjajhalaaaGreatDoor
namespace Go.Proofs.YtioffpjajhalaaaGreatDoor
open Go Go.RowKit
def vB (ls:List Bs):Bs:=Lib.join ls [44,32]
theorem zRL:(Tryz.prog.info? 9).map (fun i=>(i.zero,i.size,i.bytes))=some (some (.string ⟨#[]⟩),1,16):=by kernel_rfl
def YE (ls:List Bs):List Value:=ls.map fun s=>Value.string (yX s)
theorem YS:∀ls:List Bs,(vB ls).length≤vR ls+2*ls.length
 | []=>by simp[vB,Lib.join_nil]
 | x::r=>by
  unfold vB;rw[Lib.join_cons,yM]
  have:∀r:List Bs,(Lib.joinTail [44,32] r).length=vR r+2*r.length:=fun r=>by
   induction r with
   | nil=>rfl
   | cons y r ih=>
    have e:Lib.joinTail [44,32] (y::r)=([44,32]++y)++Lib.joinTail [44,32] r:=by simp[Lib.joinTail]
    rw[e,yM,ih];simp[vR];omega
  rw[this r];simp[vR];omega
theorem zHG (w:World)(g n c:Nat)(A:Option Addr)(L:List TT.xB)(hP:PrT w g n c A L)(x:TT.xB)(hx:Cells w x.kA (TT.xD x.kids))(ks kk:List Nat)(ls:List Bs)(hks:x.kids=xG ks)(hl2:ls.length=ks.length)(AH:ks.length≤100000)
  (HK:∀j (hj:j<ks.length),zCf w g L ks[j] (kk.getD j 0) (ls.getD j [])) (hsz:vR ls≤1099511627776) (m:Nat) (hm:m≤ks.length) :
  Calls Tryz.prog 42 #[.pointer (some ⟨g,0,none⟩),vZ x,.int .i64 (m:Int)] w fun e w'=>e=.returned (.string (yX (vB (ls.drop m))))∧Ext w w':=by
 obtain⟨i0,hi,Ak,Ad,Ai⟩:=info_parts zRL;have HP:=yD hP;have Ac:=yD hx;have Aj:=yD hks;have AE:=yD hl2;have Aa:=yD HK;have Ae:=yD hsz;have HM:=yD hm;have AI:=yD AH;have AG:Hid (x.kids.length=ks.length):=yD (by rw[hks]; simp[xG]);clear hP hx hks hl2 HK hsz hm AH;have AU:Hid (Ext w (w.alloc (.cells #[.int .u8 x.kind,.int .i64 x.pos,.string x.text,.int .i64 x.num,.slice x.kA x.kids.length x.kc] 48))):=yD (Ext.alloc _ _);have Al:Hid (Blk (w.alloc (.cells #[.int .u8 x.kind,.int .i64 x.pos,.string x.text,.int .i64 x.num,.slice x.kA x.kids.length x.kc] 48)) w.heap.size 48 #[.int .u8 x.kind,.int .i64 x.pos,.string x.text,.int .i64 x.num,.slice x.kA x.kids.length x.kc]):=yD (Blk.new _ _ _);unfold vZ
 go_enter Tryz.func42,Tryz.ntmps42
 go_upto_region 1 with fail
 generalize w.heap.size=gn at *;generalize w.alloc (.cells #[.int .u8 x.kind,.int .i64 x.pos,.string x.text,.int .i64 x.num,.slice x.kA x.kids.length x.kc] 48)=w1 at *
 go_wp2_with fail
 go_loopw [7,8] (fun l i wr=>∃(k:Nat) (A':Option Addr) (c':Nat),m≤k∧k≤ks.length∧i=.int .i64 k∧l=.slice A' (k-m) c'∧Hid (Ext w1 wr)∧Hid (wr.ownsRow w1.heap.size 9 1 (.slice A' (k-m) c') (k-m) (YE ((ls.drop m).take (k-m))))∧Hid (A'=none→c'=0)) (fun _ i _=>ks.length-(intOf i).toNat)
 case atStart=>exact⟨m,none,0,zU _,HM.out,rfl,by rw[Nat.sub_self],yD (Ext.refl _),yD (by rw[Nat.sub_self]; exact zP _ _ _ _),yD fun _=>rfl⟩
 case round=>
  obtain⟨k,A',c',As,hk,rfl,rfl,HX,HO,HZ⟩:=hrel;obtain⟨wa,rfl⟩:∃wa:World,wa=wr:=⟨_,rfl⟩;have AH:=AI.out;have HB:=yD (Al.out.ext HX.out);have n4:wa.cell? ⟨gn,4,none⟩=some (.slice x.kA x.kids.length x.kc):=HB.out.cell 4;rw[AG.out] at n4
  by_cases AB:k<ks.length
  ·have d0:decide ((k:Int)<(ks.length:Int))=true:=yP (by omega);have d1:decide (k<ks.length)=true:=yP AB;have n0:wa.cell? ⟨gn,0,none⟩=some (.int .u8 x.kind):=HB.out.cell 0;have n1:wa.cell? ⟨gn,1,none⟩=some (.int .i64 x.pos):=HB.out.cell 1;have n2:wa.cell? ⟨gn,2,none⟩=some (.string x.text):=HB.out.cell 2;have n3:wa.cell? ⟨gn,3,none⟩=some (.int .i64 x.num):=HB.out.cell 3;obtain⟨y,hy,Am,AX⟩:=Aa.out k AB;have AM:=yD (AU.out.trans HX.out);have hp:=HP.out.ext AM.out;have AA:=zAl wa g n c A L hp.tree hp.len hp.at0 hp.lt x (Ac.out.ext AM.out) k (ks[k]'AB) (by rw[AG.out]; exact AB) (by simp only[Aj.out,xG,zA]) (List.getElem?_eq_some_iff.1 hy).1 y hy;unfold vZ at AA;rw[AG.out] at AA;have AD:=yD AA;have An:=yD AX
   have Ab:Hid ((ls.drop m).take (k+1-m)=(ls.drop m).take (k-m)++[ls.getD k []]):=yD (by
    have AY:k<ls.length:=by rw[AE.out]; exact AB
    rw[show k+1-m=(k-m)+1 by omega,List.take_add_one,List.getElem?_drop,show m+(k-m)=k by omega,yG AY,yE,yG AY]
    rfl)
   generalize ls.getD k []=lk at *;have AW:=yD AB;clear hy Am AX hp AA AB
   go_wp2_with fail
   refine AD.out.mono ?_;rintro e w2 ⟨rfl,AT⟩;have AF:=yD AT;clear AT n0 n1 n2 n3 n4 AD
   go_wp2_with fail
   refine(An.out w2 (AM.out.trans AF.out)).mono ?_;rintro e w3 ⟨rfl,AK⟩;have AJ:=yD (HX.out.trans (AF.out.trans AK));have AZ:=yD (zCs HO.out (AF.out.trans AK));clear AK HO AF
   go_wp2_with (at_builtin; refine XP rfl _ _ 33 rfl w1.heap.size 9 i0 (.string ⟨#[]⟩) 1 16 Tryz.underlying33 hi Ak Ad Ai rfl (by decide) (.slice A' (k-m) c') (k-m) (YE ((ls.drop m).take (k-m))) rfl (AZ.out.alloc _) (some ⟨w3.heap.size,0,none⟩) 1 1 [.string (yX lk)] rfl (fun h=>by cases h) rfl ?c1 ?c2 ?c3 ?c4 ?c5 ?_)
   case c1=>exact Cells.new w3 9 #[.string (yX lk)]
   case c2=>intro u hu; simp at hu; subst hu; rfl
   case c3=>have:=AI.out; unfold maxLen; omega
   case c4=>have:=AI.out; omega
   case c5=>have:=AJ.out.size; simp; omega
   intro A2 c2 w4 AQ AS AN
   have Aq:Hid (w4.ownsRow w1.heap.size 9 1 (.slice A2 (k+1-m) c2) (k+1-m) (YE ((ls.drop m).take (k+1-m)))):=yD (by
    rw[Ab.out,show k+1-m=k-m+1 by omega]
    simpa [YE] using AS)
   have Ag:Hid (Ext w1 w4):=yD (Below.grown (AJ.out.trans (Ext.alloc _ _)) AN (by have:=AJ.out.size; simp; omega) (fun q hq=>(AZ.out.lt q hq).1));have Ao:=yD AQ
   have AP:k-m+1=k+1-m:=by omega
   rw[AP];clear AQ AS AN AP
   go_wp2_with fail
   go_roundw
   case rel=>exact⟨k+1,A2,c2,by omega,by have:=AW.out; omega,by go_num,rfl,Ag,Aq,Ao⟩
   case measure=>simp[intOf]; have:=AW.out; omega
  ·obtain rfl:k=ks.length:=by omega
   have d0:decide ((ks.length:Int)<(ks.length:Int))=false:=by simp
   have d1:decide (ks.length<ks.length)=false:=by simp
   have Ap:Hid ((ls.drop m).take (ks.length-m)=ls.drop m):=yD (List.take_of_length_le (by rw[List.length_drop,AE.out]; omega));have AV:Hid (wa.ownsRow w1.heap.size 9 1 (.slice A' (ks.length-m) c') (ks.length-m) (YE (ls.drop m))):=yD (by rw[←Ap.out]; exact HO.out);have AC:Hid ((ls.drop m).length=ks.length-m):=yD (by rw[List.length_drop,AE.out])
   have AO:∀l:List Bs,(l.map yX).map (fun x=>x.data.toList)=l:=fun l=>by
    rw[List.map_map]
    conv=>rhs; rw[←List.map_id l]
    apply List.map_congr_left;intro s _;simp[yX]
   have AL:Hid (Calls Tryz.prog 88 #[.slice A' (ks.length-m) c',.string ⟨#[44,32]⟩] wa fun e w'=>e=.returned (.string (yX (vB (ls.drop m))))∧Ext wa w'):=yD (by
    by_cases h0:ks.length-m=0
    ·rw[h0];refine(join_none A' c' ⟨#[44,32]⟩ wa).mono ?_;rintro e w' ⟨rfl,rfl⟩
     have:ls.drop m=[]:=List.eq_nil_of_length_eq_zero (by rw[AC.out]; exact h0)
     rw[this];exact⟨rfl,Ext.refl _⟩
    ·rcases AV.out.2 with ⟨_,h1⟩ | ⟨gb,Av,Au,hv,hb,hh,At,Aw⟩
     ·omega
     ·injection hv with e1 e2 e3;subst e1 e3;have Af:gb<wa.heap.size:=(Array.getElem?_eq_some_iff.1 hh).1
      have:=zPT gb 0 c' ((ls.drop m).map yX) ⟨#[44,32]⟩ wa (fun j s hs=>by
       rw[zM] at hs
       cases hj:(ls.drop m)[j]? with
       | none=>rw[hj] at hs; cases hs
       | some q=>
        rw[hj] at hs;injection hs with hs;have Ar:j<(ls.drop m).length:=(List.getElem?_eq_some_iff.1 hj).1
        have:=AV.out.cellAt j (by have h9:=AC.out; have h8:=Ar; rw[h9] at h8; simpa [YE,AE.out] using h8)
        rw[Nat.zero_add,←hs];refine Eq.trans (by exact this) ?_;unfold YE;rw[zM,hj]
        rfl) Af (by rw[yN,AC.out]; omega) (by rw[yN,AC.out]; omega) (by
        rw[AO];have h1:=YS (ls.drop m)
        have h2:vR (ls.drop m)≤vR ls:=by
         unfold vR
         conv=>rhs; rw[←List.take_append_drop m ls]
         rw[List.map_append,List.sum_append];omega
        have h3:=Ae.out
        show(vB (ls.drop m)).length≤_
        rw[AC.out] at h1
        omega)
      rw[yN,AC.out] at this;refine this.mono ?_;rintro e w' ⟨rfl,hx⟩;rw[AO]
      exact⟨rfl,hx⟩)
   clear AB hk
   go_wp2_with fail
   refine AL.out.mono ?_;rintro e w5 ⟨rfl,AR⟩;have Ah:=yD (AU.out.trans (HX.out.trans AR));clear AR n4
   go_wp2_with fail
   go_ret;exact⟨rfl,Ah.out⟩
end Go.Proofs.YtioffpjajhalaaaGreatDoor
