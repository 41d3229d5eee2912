/- internal/strconv.FormatInt, laid at this program: the plain text that the shelf's one command hands to Lean. (and what follows of it). The conditions stand at each lemma. -/
import Derived.Test.YtioffpjajhalaaaGreatDoorJaa
import Derived.Shelf.Strconv.Itoa3
import Derived.Test.YtioffpjajhalaaaGreatDoorChecked
import Derived.Test.YtioffpjajhalaaaGreatDoorJaf
import Derived.Test.YtioffpjajhalaaaGreatDoorJav
import Derived.Test.YtioffpjajhalaaaGreatDoorRows
import Derived.ChangeSame
import Derived.ChangeVars
import Derived.JoinedOf
import Derived.RowKit
import Derived.RowKitTokens
import Derived.LaidLaws
import Derived.LaidHandle
import Derived.Lib.LaidTab
import Derived.Stop.LaidErr
import Derived.Deep.DeepLaidRun
import Derived.Shelf.Strings.OnBuilder
set_option linter.unusedVariables false
set_option linter.unusedSimpArgs false
set_option maxRecDepth 100000
set_option maxHeartbeats 16000000
namespace Go.Proofs.YtioffpjajhalaaaGreatDoor
open Go Go.Shelf
def zPk:Ren:=
 {
  f:=fun x=>
   match x with
   | 246=>108
   | 283=>150
   | 284=>151
   | 285=>152
   | 286=>153
   | 129=>172
   | 317=>171
   | 318=>173
   | 319=>174
   | 320=>175
   | 337=>185
   | 338=>186
   | n=>n,
  t:=fun x=>
   match x with
   | 2=>2
   | 3=>3
   | 9=>9
   | 4=>4
   | 171=>193
   | 0=>0
   | 53=>194
   | 37=>22
   | 5=>5
   | 173=>197
   | 212=>206
   | 51=>207
   | 20=>20
   | 213=>208
   | 46=>201
   | 232=>227
   | 233=>228
   | n=>n,
  g:=fun x=>
   match x with
   | 17=>2
   | 18=>3
   | 19=>4
   | n=>n }
theorem zUx:LaysM.n246 Tryz.prog zPk where
 mixed:=by kernel_rfl
 f129:=by kernel_rfl
 f246:=by kernel_rfl
 f283:=by kernel_rfl
 f284:=by kernel_rfl
 f285:=by kernel_rfl
 f286:=by kernel_rfl
 f317:=by kernel_rfl
 f318:=by kernel_rfl
 f319:=by kernel_rfl
 f320:=by kernel_rfl
 f337:=by kernel_rfl
 f338:=by kernel_rfl
 t0:=Tryz.underlying0
 a0:=Tryz.isAgg0
 z0:=Tryz.sizeOf0
 v0:=Tryz.zeroValue0
 t2:=Tryz.underlying2
 a2:=Tryz.isAgg2
 z2:=Tryz.sizeOf2
 v2:=Tryz.zeroValue2
 t3:=Tryz.underlying3
 a3:=Tryz.isAgg3
 z3:=Tryz.sizeOf3
 v3:=Tryz.zeroValue3
 t4:=Tryz.underlying4
 a4:=Tryz.isAgg4
 z4:=Tryz.sizeOf4
 v4:=Tryz.zeroValue4
 t5:=Tryz.underlying5
 a5:=Tryz.isAgg5
 z5:=Tryz.sizeOf5
 v5:=Tryz.zeroValue5
 t9:=Tryz.underlying9
 a9:=Tryz.isAgg9
 z9:=Tryz.sizeOf9
 v9:=Tryz.zeroValue9
 t20:=Tryz.underlying20
 a20:=Tryz.isAgg20
 z20:=Tryz.sizeOf20
 v20:=Tryz.zeroValue20
 t37:=Tryz.underlying22
 a37:=Tryz.isAgg22
 z37:=Tryz.sizeOf22
 v37:=Tryz.zeroValue22
 t46:=Tryz.underlying201
 a46:=Tryz.isAgg201
 z46:=Tryz.sizeOf201
 v46:=Tryz.zeroValue201
 t51:=Tryz.underlying207
 a51:=Tryz.isAgg207
 z51:=Tryz.sizeOf207
 v51:=Tryz.zeroValue207
 t53:=Tryz.underlying194
 a53:=Tryz.isAgg194
 z53:=Tryz.sizeOf194
 v53:=Tryz.zeroValue194
 t171:=Tryz.underlying193
 a171:=Tryz.isAgg193
 z171:=Tryz.sizeOf193
 v171:=Tryz.zeroValue193
 t173:=Tryz.underlying197
 a173:=Tryz.isAgg197
 z173:=Tryz.sizeOf197
 v173:=Tryz.zeroValue197
 t212:=Tryz.underlying206
 a212:=Tryz.isAgg206
 z212:=Tryz.sizeOf206
 v212:=Tryz.zeroValue206
 t213:=Tryz.underlying208
 a213:=Tryz.isAgg208
 z213:=Tryz.sizeOf208
 t232:=Tryz.underlying227
 a232:=Tryz.isAgg227
 z232:=Tryz.sizeOf227
 v232:=Tryz.zeroValue227
 t233:=Tryz.underlying228
 a233:=Tryz.isAgg228
 z233:=Tryz.sizeOf228
 v233:=Tryz.zeroValue228
 g17:=by kernel_rfl
 g18:=by kernel_rfl
 g19:=by kernel_rfl
 i0:=by kernel_rfl
 i2:=by kernel_rfl
 i3:=by kernel_rfl
 i4:=by kernel_rfl
 i5:=by kernel_rfl
 i9:=by kernel_rfl
 i20:=by kernel_rfl
 i37:=by kernel_rfl
 i46:=by kernel_rfl
 i51:=by kernel_rfl
 i53:=by kernel_rfl
 i171:=by kernel_rfl
 i173:=by kernel_rfl
 i212:=by kernel_rfl
 i232:=by kernel_rfl
 i233:=by kernel_rfl
 m17:=by kernel_rfl
 m18:=by kernel_rfl
 m19:=by kernel_rfl
theorem zTw (n:Int)(h0:-9223372036854775808≤n)(h1:n≤9223372036854775807)(w:World)(htab:Lib.TabIs Tryz.prog w "internal/strconv.uint64pow10" .u64 Lib.pow10Tab) :
  Calls Tryz.prog 108 #[.int .i64 n,.int .i64 10] w fun e w'=>e=.returned (.string ⟨(Lib.itoa n).toArray⟩)∧∃k os,w'=Sort.grow (w.drewN k) os:=Any.internal_strconv_FormatInt_10 zUx n h0 h1 w htab
end Go.Proofs.YtioffpjajhalaaaGreatDoor
namespace Go.Proofs.YtioffpjajhalaaaGreatDoor
open Go Go.RowKit
def PW (w:World):Prop:=Lib.TabIs Tryz.prog w "internal/strconv.uint64pow10" .u64 Lib.pow10Tab
theorem PW.ext {w w':World}(h:PW w)(hx:Ext w w'):PW w':=by
 have AA:Tryz.prog.globalNamed "internal/strconv.uint64pow10" = some 2:=by kernel_rfl
 unfold PW Lib.TabIs World.var? at h ⊢;rw[AA] at h ⊢;simp only[Option.bind_some] at h ⊢
 have AB:2<w.heap.size:=by
  rcases Nat.lt_or_ge 2 w.heap.size with h' | h'
  ·exact h'
  ·rw[Array.getElem?_eq_none h'] at h; cases h
 rw[hx.block 2 AB];exact h
theorem zRn (w:World)(k:Nat)(os:Array Obj):Ext w (Sort.grow (w.drewN k) os):=⟨rfl,rfl,rfl,by rw[Sort.size_grow]; exact Nat.le_add_right _ _,fun b hb=>Sort.heap_grow_old _ _ hb⟩
theorem zU0 (n:Int)(h0:-9223372036854775808≤n)(h1:n≤9223372036854775807)(w:World)(h:PW w):Calls Tryz.prog 63 #[.int .i64 n,.int .i64 10] w fun e w'=>e=.returned (.string (yX (Lib.itoa n)))∧Ext w w':=by
 go_enter Tryz.func63,Tryz.ntmps63
 go_wp2_with fail
 refine(zTw n h0 h1 w h).mono ?_;rintro e w' ⟨rfl,k,os,rfl⟩;have HX:=yD (zRn w k os);generalize Sort.grow (w.drewN k) os=w2 at *
 go_wp2_with fail
 go_ret;exact⟨rfl,HX.out⟩
theorem XQ (a b:Bs):yX a++yX b=yX (a++b):=by
 apply ByteArray.ext;simp[yX,ByteArray.data_append]
structure PrT (w:World)(g n c:Nat)(A:Option Addr)(L:List TT.xC):Prop where
 tree:TT.XU w A L
 len:n=L.length
 at0:w.cell? ⟨g,0,none⟩=some (.slice A n c)
 lt:g<w.heap.size
 tab:PW w
theorem PrT.ext {w w':World}{g n c:Nat}{A:Option Addr}{L:List TT.xC}(h:PrT w g n c A L)(hx:Ext w w'):PrT w' g n c A L:=
 ⟨h.tree.ext hx,h.len,(hx.cell (p:=⟨g,0,none⟩) h.lt).trans h.at0,yR h.lt hx.size,h.tab.ext hx⟩
def zDX (least:Int)(k:Int)(s:ByteArray):ByteArray:=if zET k<least then ⟨#[40]⟩++s++⟨#[41]⟩ else s
theorem YZ (w:World)(g n c bp bn:Nat)(A:Option Addr)(L:List TT.xC)(hP:PrT w g n c A L)(x:TT.xC)(hbp:Blk w bp 77 #[.pointer (some ⟨g,0,none⟩)])(hbn:Blk w bn 48 #[.int .u8 x.kind,.int .i64 x.pos,.string x.text,.int .i64 x.num,.slice x.kA x.kids.length x.kc])(hx:Cells w x.kA (TT.xL x.kids))(i k:Nat)(hi:i<x.kids.length)(hk:x.kids[i]=(k:Int))(y:TT.xC)(hy:L[k]?=some y)(s:ByteArray)(hs:s.size≤4611686018427387904)(least:Int)
  (HT:∀w',Ext w w'→Calls Tryz.prog 56 #[.pointer (some ⟨g,0,none⟩),jF y] w' fun e AN=>e=.returned (.string s)∧Ext w' AN) :
  Calls Tryz.prog 96 #[.int .i64 (i:Int),.int .i64 least,.pointer (some ⟨bp,0,none⟩),.pointer (some ⟨bn,0,none⟩)] w fun e w'=>e=.returned (.string (zDX least y.kind s))∧Ext w w':=by
 have AF:k<L.length:=(List.getElem?_eq_some_iff.1 hy).1;have HK:=yD (zA0 w g n c A L hP.tree hP.len hP.at0 hP.lt x hx i k hi hk AF y hy);have AJ:=yD HT;have AM:=yD hbp;have x0:w.cell? ⟨bp,0,none⟩=some (.pointer (some ⟨g,0,none⟩)):=hbp.cell 0;have AP:=yD hbn;have n0:w.cell? ⟨bn,0,none⟩=some (.int .u8 x.kind):=hbn.cell 0;have n1:w.cell? ⟨bn,1,none⟩=some (.int .i64 x.pos):=hbn.cell 1;have n2:w.cell? ⟨bn,2,none⟩=some (.string x.text):=hbn.cell 2;have n3:w.cell? ⟨bn,3,none⟩=some (.int .i64 x.num):=hbn.cell 3;have n4:w.cell? ⟨bn,4,none⟩=some (.slice x.kA x.kids.length x.kc):=hbn.cell 4;have HS:Hid (¬(9223372036854775807<1+s.size)∧¬(9223372036854775807<1+s.size+1)):=yD ⟨by omega,by omega⟩;obtain⟨AS,AA⟩:∃r,Hid (zDX least y.kind s=r):=⟨_,yD rfl⟩;rw[AA.out];unfold zDX at AA;unfold jF at HK AJ;clear hP hbp hbn hx hi hk hy hs HT AF
 go_enter Tryz.func96,Tryz.ntmps96
 go_wp2_with fail
 refine HK.out.mono ?_;rintro e w1 ⟨rfl,AH⟩;have AE:=yD AH;clear AH x0 n0 n1 n2 n3 n4 HK
 go_wp2_with (refine vJ rfl 48 _ _ rfl w1.heap.size #[.int .u8 y.kind,.int .i64 y.pos,.string y.text,.int .i64 y.num,.slice y.kA y.kids.length y.kc] (by kernel_rfl) (by kernel_rfl) 48 _ (Blk.new _ _ _) (by kernel_rfl) rfl rfl ?_)
 intro w2 AK AI;have AC:Hid (Ext w w2):=yD (AE.out.trans (AK.ext (Ext.alloc w1 _) (zU _)));have AB:=yD AI;clear AK AI;generalize w1.heap.size=gk at *;have x0:w2.cell? ⟨bp,0,none⟩=some (.pointer (some ⟨g,0,none⟩)):=(AM.out.ext AC.out).cell 0;have n0:w2.cell? ⟨gk,0,none⟩=some (.int .u8 y.kind):=AB.out.cell 0;have n1:w2.cell? ⟨gk,1,none⟩=some (.int .i64 y.pos):=AB.out.cell 1;have n2:w2.cell? ⟨gk,2,none⟩=some (.string y.text):=AB.out.cell 2;have n3:w2.cell? ⟨gk,3,none⟩=some (.int .i64 y.num):=AB.out.cell 3;have n4:w2.cell? ⟨gk,4,none⟩=some (.slice y.kA y.kids.length y.kc):=AB.out.cell 4
 go_wp2_with fail
 refine(AJ.out w2 AC.out).mono ?_;rintro e w3 ⟨rfl,AD⟩;have AG:=yD (AC.out.trans AD);have AO:=yD (AB.out.ext AD);clear AD x0 n0 n1 n2 n3 n4 AE AC AB;have n0:w3.cell? ⟨gk,0,none⟩=some (.int .u8 y.kind):=AO.out.cell 0
 go_wp2_with fail
 refine(zPu y.kind w3).mono ?_;rintro e _ ⟨rfl,rfl⟩;obtain⟨sk,AL⟩:∃sk,Hid (zET y.kind=sk):=⟨_,yD rfl⟩;rw[AL.out] at AA ⊢;obtain⟨AR,AQ⟩:=HS.out
 by_cases hl:sk<least
 ·have d0:decide (sk<least)=true:=yP hl;have HR:=yD ((if_pos hl).symm.trans AA.out);clear hl AA
  go_wp2_with fail
  go_ret;rw[←HR.out];exact⟨rfl,AG.out⟩
 ·have d0:decide (sk<least)=false:=yO hl;have HR:=yD ((if_neg hl).symm.trans AA.out);clear hl AA
  go_wp2_with fail
  go_ret;rw[←HR.out];exact⟨rfl,AG.out⟩
end Go.Proofs.YtioffpjajhalaaaGreatDoor
namespace Go.Proofs.YtioffpjajhalaaaGreatDoor
open Go.ChangeShapes Go.WideShapes Go.RowKit
def zCI:List (String × DataW Unit):=[("math/bits.deBruijn32tab", Rows.laid_math_bits_deBruijn32tab), ("math/bits.deBruijn64tab", Rows.laid_math_bits_deBruijn64tab), ("internal/strconv.uint64pow10", Rows.laid_internal_strconv_uint64pow10)]
def zJj:List (String × DataW Unit):=[("math/bits.deBruijn32tab", Rows.laid_math_bits_deBruijn32tab), ("math/bits.deBruijn64tab", Rows.laid_math_bits_deBruijn64tab), ("internal/strconv.uint64pow10", Rows.laid_internal_strconv_uint64pow10), ("errors.errorType", Rows.laid_errors_errorType)]
theorem zPc:(Rows.laid_internal_strconv_uint64pow10:DataW Unit)=Lib.tabData .u64 Lib.pow10Tab:=by kernel_rfl
theorem zQa {W:World}(h:laidMet Tryz.prog zCI W):PW W:=by
 have h1:=h.tail.tail;rw[zPc] at h1;exact Lib.tabIs_of_head (g:=2) (t:=206) (e:=194) (n:=20) (by kernel_rfl) (by kernel_rfl) (by kernel_rfl) (by kernel_rfl) (by kernel_rfl) (by kernel_rfl) h1
theorem zN4 {W:World}(h:laidMetH Tryz.prog zCI W):PW W:=zQa (show laidMet Tryz.prog zCI W from h)
theorem zTL {W:World}(h:laidMetH Tryz.prog zJj W):PW W:=zQa (show laidMet Tryz.prog zCI W∧handlesMet Tryz.prog [("errors.errorType", Rows.laid_errors_errorType)] W from h).1
def zJ7:DataW Unit→Array Value
 | .agg l=>(l.map fun d=>match d with | .lit (.int k z)=>Value.int k z | _=>.nilIface).toArray
 | _=>#[]
def zEM (cs':Array Value):Obj→Obj
 | .cells _ t fr=>.cells cs' t fr
 | o=>o
noncomputable def zBM (os:Os):World:=
 let w0:=World.holding Tryz.prog os ⟨#[],#[],[]⟩
 let g:=fun s=>(Tryz.prog.globalNamed s).getD 0
 { w0 with heap:=((w0.heap.modify (g "math/bits.deBruijn32tab") (zEM (zJ7 Rows.laid_math_bits_deBruijn32tab))).modify (g "math/bits.deBruijn64tab") (zEM (zJ7 Rows.laid_math_bits_deBruijn64tab))).modify (g "internal/strconv.uint64pow10") (zEM (zJ7 Rows.laid_internal_strconv_uint64pow10)) }
noncomputable def zHq (os:Os):World:=
 { zBM os with heap:=(zBM os).heap.modify 0 (zEM #[.iface 180 (.agg #[.pointer (some ⟨5,25,none⟩)])]) }
theorem zD0 (os:Os)(args:Array Value):laidMetH Tryz.prog zCI ((zBM os).forCall (fun _ _=>0) ⟨#[],args,[]⟩).memory:=
 laidMetH_of_parts (laidMet_of_run3 100 (by kernel_rfl) (by kernel_rfl) (by kernel_rfl)) (by kernel_rfl)
theorem zID (os:Os)(args:Array Value):laidMetH Tryz.prog zJj ((zHq os).forCall (fun _ _=>0) ⟨#[],args,[]⟩).memory:=
 laidMetH_of_parts (laidMet_of_run3 100 (by kernel_rfl) (by kernel_rfl) (by kernel_rfl)) (by kernel_rfl)
end Go.Proofs.YtioffpjajhalaaaGreatDoor
namespace Go.Proofs.YtioffpjajhalaaaGreatDoor
open Go Go.RowKit
theorem JH (l:Bs):(yX l).size=l.length:=by simp[yX,ByteArray.size]
theorem zOq (k:Nat):zET (k:Int)=(vB k:Int):=by
 unfold zET vB
 by_cases h:k=23∨k=24
 ·rw[if_pos (by omega),if_pos h]; rfl
 ·rw[if_neg (by omega),if_neg h]
  by_cases h2:k=25
  ·rw[if_pos (by omega),if_pos h2]; rfl
  ·rw[if_neg (by omega),if_neg h2]; rfl
theorem zAF (least k:Nat)(s:Bs):zDX (least:Int) (k:Int) (yX s)=yX (jL least k s):=by
 unfold zDX jL;rw[zOq]
 by_cases h:vB k<least
 ·rw[if_pos (by omega),if_pos h,←XQ,←XQ]; rfl
 ·rw[if_neg (by omega),if_neg h]
theorem ZP {l want:List Int}(h:TT.isR l want=true):l.length=want.length:=by
 unfold TT.isR at h;rw[zF,zN] at h;exact h.1
theorem zQ2 {k:Nat}{t:Bs}{x:Int}{kk:List Nat}(h:xU k t x kk):0≤x∧x≤2147483647:=by
 have:=h.2.2.1
 unfold TT.JR at this;simp only[zF,zE] at this
 have hm:TT.XP (k:Int)≤2147483647:=by
  unfold TT.XP
  split
  ·decide
  ·split <;> decide
 have:=this.2.2
 omega
theorem zLb {k:Nat}{t:Bs}{x:Int}{kk:List Nat}(h:xU k t x kk)(hk:k=20∨k=26):kk.length=1:=by
 have:=h.2.2.2
 have:=ZP (want:=[0]) (l:=kk.map fun (j:Nat)=>(j:Int)) (by rcases hk with rfl | rfl <;> exact this)
 simpa using this
theorem zGY {k:Nat}{t:Bs}{x:Int}{kk:List Nat}(h:xU k t x kk)(hk:k=23∨k=24∨k=25):kk.length=2:=by
 have:=h.2.2.2
 have:=ZP (want:=[0,0]) (l:=kk.map fun (j:Nat)=>(j:Int)) (by rcases hk with rfl | rfl | rfl <;> exact this)
 simpa using this
def zDr (w:World)(g:Nat)(L:List TT.xC)(i kk:Nat)(s:Bs):Prop:=∃y,L[i]?=some y∧y.kind=(kk:Int)∧∀w',Ext w w'→Calls Tryz.prog 56 #[.pointer (some ⟨g,0,none⟩),jF y] w' fun e AA=>e=.returned (.string (yX s))∧Ext w' AA
theorem zRv (w:World)(g n c:Nat)(A:Option Addr)(L:List TT.xC)(hP:PrT w g n c A L)(x:TT.xC)(hx:Cells w x.kA (TT.xL x.kids))(k:Nat)(t:Bs)(num:Int)(ks kk:List Nat)(ls:List Bs)(hk:x.kind=(k:Int))(ht:x.text=yX t)(hnum:x.num=num)(hks:x.kids=xK ks)(hnk:xU k t num kk)(hl1:kk.length=ks.length)(hl2:ls.length=ks.length)
  (HK:∀j (hj:j<ks.length),zDr w g L ks[j] (kk.getD j 0) (ls.getD j [])) (Ad:t.length+zAD ls≤1152921504606846976) :
  Calls Tryz.prog 56 #[.pointer (some ⟨g,0,none⟩),jF x] w fun e w'=>e=.returned (.string (yX (zAt k t num ls kk)))∧Ext w w':=by
 obtain⟨Af,AH⟩:∃r,Hid (yX (zAt k t num ls kk)=r):=⟨_,yD rfl⟩;rw[AH.out];have A3:=zQ2 hnk;have HN:=yD A3;have Ao:=yD hnk;have A2:=yD hx;have Ab:=yD hks;have HP:=yD hP;have Aq:=yD hl1;have BC:=yD hl2;have A4:=yD HK;have A6:=yD Ad;have AU:=zMM ls;have Al:=yD AU;have AM:Hid (x.kids.length=ks.length):=yD (by rw[hks]; simp[xK]);unfold jF;rw[hk,ht,hnum];clear A3 hnk hx hks hP hl1 hl2 HK Ad AU;have AW:Hid (Ext w ((w.alloc (.cells #[.pointer (some ⟨g,0,none⟩)] 77)).alloc (.cells #[.int .u8 (k:Int),.int .i64 x.pos,.string (yX t),.int .i64 num,.slice x.kA x.kids.length x.kc] 48))):=yD ((Ext.alloc _ _).trans (Ext.alloc _ _));have AX:Hid (Blk ((w.alloc (.cells #[.pointer (some ⟨g,0,none⟩)] 77)).alloc (.cells #[.int .u8 (k:Int),.int .i64 x.pos,.string (yX t),.int .i64 num,.slice x.kA x.kids.length x.kc] 48)) w.heap.size 77 #[.pointer (some ⟨g,0,none⟩)]):=yD ((Blk.new _ _ _).alloc _);have Aa:Hid (Blk ((w.alloc (.cells #[.pointer (some ⟨g,0,none⟩)] 77)).alloc (.cells #[.int .u8 (k:Int),.int .i64 x.pos,.string (yX t),.int .i64 num,.slice x.kA x.kids.length x.kc] 48)) (w.heap.size+1) 48 #[.int .u8 (k:Int),.int .i64 x.pos,.string (yX t),.int .i64 num,.slice x.kA x.kids.length x.kc]):=yD (Blk.zAa (by simp));have HE:Hid (∀args w,(callFunc 96 args).run Tryz.prog w=.ok (.enter 96 args) w):=yD (enters_of Tryz.func96 (by kernel_rfl) rfl)
 go_enter Tryz.func56,Tryz.ntmps56
 go_upto_region 1 with fail
 try simp only[size_alloc]
 generalize w.heap.size+1=gn at Aa ⊢;generalize w.heap.size=gp at AX ⊢;generalize ((w.alloc (.cells #[.pointer (some ⟨g,0,none⟩)] 77)).alloc (.cells #[.int .u8 (k:Int),.int .i64 x.pos,.string (yX t),.int .i64 num,.slice x.kA x.kids.length x.kc] 48))=w1 at *;have AY:=yD (HP.out.ext AW.out);have AL:=yD (A2.out.ext AW.out);have AO:Hid (Blk w1 gn 48 #[.int .u8 x.kind,.int .i64 x.pos,.string x.text,.int .i64 x.num,.slice x.kA x.kids.length x.kc]):=yD (by rw[hk,ht,hnum]; exact Aa.out)
 have Ac:Hid (∀j (hj:j<ks.length),zDr w1 g L ks[j] (kk.getD j 0) (ls.getD j [])):=yD fun j hj=>by
  obtain⟨y,h1,h2,h3⟩:=A4.out j hj;exact⟨y,h1,h2,fun w' hx=>h3 w' (AW.out.trans hx)⟩
 clear A2 A4 HP;have p0:w1.cell? ⟨gp,0,none⟩=some (.pointer (some ⟨g,0,none⟩)):=AX.out.cell 0;have n0:w1.cell? ⟨gn,0,none⟩=some (.int .u8 (k:Int)):=Aa.out.cell 0;have n1:w1.cell? ⟨gn,1,none⟩=some (.int .i64 x.pos):=Aa.out.cell 1;have n2:w1.cell? ⟨gn,2,none⟩=some (.string (yX t)):=Aa.out.cell 2;have n3:w1.cell? ⟨gn,3,none⟩=some (.int .i64 num):=Aa.out.cell 3;have n4:w1.cell? ⟨gn,4,none⟩=some (.slice x.kA x.kids.length x.kc):=Aa.out.cell 4;have A1:=yD AX.out.lt;have Ai:=yD Aa.out.lt;have he:=HE.out;have Ad:=A6.out;have As:=JH t
 by_cases Av:k=20
 ·subst Av;have AA:Hid (ks.length=1):=yD (by rw[←Aq.out]; exact zLb Ao.out (.inl rfl));obtain⟨y0,AV,AD,AC⟩:=Ac.out 0 (by have:=AA.out; omega);have AJ:=yD AD;have AF:=yD AC;have AG:Hid (x.kids[0]'(by rw[AM.out]; have:=AA.out; omega)=(ks[0]'(by have:=AA.out; omega):Nat)):=yD (by simp only[Ab.out,xK,zA]);clear AD AC;have BA:=JH (ls.getD 0 []);have AU:=Al.out
  have HV:Hid (yX t++⟨#[91]⟩++yX (ls.getD 0 [])++⟨#[93]⟩=Af):=yD (by
   rw[←AH.out];unfold zAt;rw[if_pos rfl,←XQ,←XQ,←XQ]
   rfl)
  generalize ls.getD 0 []=l0 at *
  have z1:¬(9223372036854775807<(yX t).size+1):=by omega
  have z2:¬(9223372036854775807<(yX t).size+1+(yX l0).size):=by omega
  have z3:¬(9223372036854775807<(yX t).size+1+(yX l0).size+1):=by omega
  have A7:Hid (∀w',Ext w1 w'→Calls Tryz.prog 40 #[.pointer (some ⟨g,0,none⟩),.agg #[.int .u8 20,.int .i64 x.pos,.string (yX t),.int .i64 num,.slice x.kA x.kids.length x.kc],.int .i64 0] w' fun e A5=>e=.returned (jF y0)∧Ext w' A5):=yD fun w' hx=>by
   have hp:=AY.out.ext hx
   have:=zA0 w' g n c A L hp.tree hp.len hp.at0 hp.lt x (AL.out.ext hx) 0 (ks[0]'(by have:=AA.out; omega)) (by rw[AM.out]; have:=AA.out; omega) AG.out (List.getElem?_eq_some_iff.1 AV).1 y0 AV
   unfold jF at this ⊢;rw[hk,ht,hnum] at this;exact this
  go_upto_region 4 with fail
  apply zFd (by kernel_rfl) (by kernel_rfl) (by kernel_rfl);apply sQ (.pointer (some ⟨gn,2,none⟩));apply xA (.string (yX t)) rfl rfl rfl
  ·intro w' AP hH;clear hH;have y2:=(AP.cell (p:=⟨gn,2,none⟩) Ai.out).trans n2;simp[yY,go_sem,y2];exact Ext.refl _
  apply sP z1 (.string (yX t++⟨#[91]⟩));apply xA (.pointer (some ⟨g,0,none⟩)) rfl rfl rfl
  ·intro w' AP hH;clear hH;have yp:=(AP.cell (p:=⟨gp,0,none⟩) A1.out).trans p0;simp[yY,go_sem,yp];exact Ext.refl _
  apply xA (.pointer (some ⟨g,0,none⟩)) rfl rfl rfl
  ·intro w' AP hH;clear hH;have yp:=(AP.cell (p:=⟨gp,0,none⟩) A1.out).trans p0;simp[yY,go_sem,yp];exact Ext.refl _
  apply xA (.agg #[.int .u8 20,.int .i64 x.pos,.string (yX t),.int .i64 num,.slice x.kA x.kids.length x.kc]) rfl rfl rfl
  ·intro w' AP hH;clear hH;have y0:=(AP.cell (p:=⟨gn,0,none⟩) Ai.out).trans n0;have y1:=(AP.cell (p:=⟨gn,1,none⟩) Ai.out).trans n1;have y2:=(AP.cell (p:=⟨gn,2,none⟩) Ai.out).trans n2;have y3:=(AP.cell (p:=⟨gn,3,none⟩) Ai.out).trans n3;have y4:=(AP.cell (p:=⟨gn,4,none⟩) Ai.out).trans n4;simp[yY,go_sem,y0,y1,y2,y3,y4];exact Ext.refl _
  apply xA (jF y0) rfl rfl rfl
  ·intro w' AP hH;clear hH;simp[yY,go_sem];refine(A7.out w' AP).mono ?_;rintro e w2 ⟨rfl,AE⟩;exact⟨_,rfl,rfl,AE⟩
  apply xA (.string (yX l0)) rfl rfl rfl
  ·intro w' AP hH;clear hH;simp[yY,go_sem];refine(AF.out w' AP).mono ?_;rintro e w2 ⟨rfl,AE⟩;exact⟨_,rfl,rfl,AE⟩
  apply sP z2 (.string (yX t++⟨#[91]⟩++yX l0));apply sP z3 (.string (yX t++⟨#[91]⟩++yX l0++⟨#[93]⟩));apply sQ (.string (yX t++⟨#[91]⟩++yX l0++⟨#[93]⟩));apply vA;intro w2 AE hH;clear hH
  try simp only[Act.put,yA,yC,yB]
  have Am:=yD (AW.out.trans AE);rw[HV.out];clear AE p0 n0 n1 n2 n3 n4 z1 z2 z3
  go_wp2_with fail
  go_ret;exact⟨rfl,Am.out⟩
 have BE:((k:Int)==20)=false:=beq_eq_false_iff_ne.2 (by omega)
 by_cases At:k=21
 ·subst At;have HV:Hid (yX (Lib.itoa num)=Af):=yD (by rw[←AH.out]; unfold zAt; rw[if_neg (by decide),if_pos rfl])
  go_wp2_with fail
  refine(zU0 num (by have:=HN.out; omega) (by have:=HN.out; omega) w1 AY.out.tab).mono ?_;rintro e w2 ⟨rfl,AE⟩;have Am:=yD (AW.out.trans AE);clear AE p0 n0 n1 n2 n3 n4
  go_wp2_with fail
  go_ret;rw[HV.out];exact⟨rfl,Am.out⟩
 have BG:((k:Int)==21)=false:=beq_eq_false_iff_ne.2 (by omega)
 by_cases Ay:k=23
 ·subst Ay;have AA:Hid (ks.length=2):=yD (by rw[←Aq.out]; exact zGY Ao.out (by decide));obtain⟨y0,AV,AD,AC⟩:=Ac.out 0 (by have:=AA.out; omega);have AJ:=yD AD;have AF:=yD AC;have AG:Hid (x.kids[0]'(by rw[AM.out]; have:=AA.out; omega)=(ks[0]'(by have:=AA.out; omega):Nat)):=yD (by simp only[Ab.out,xK,zA]);clear AD AC;obtain⟨y1,Ap,AK,AI⟩:=Ac.out 1 (by have:=AA.out; omega);have AS:=yD AK;have AR:=yD AI;have AQ:Hid (x.kids[1]'(by rw[AM.out]; have:=AA.out; omega)=(ks[1]'(by have:=AA.out; omega):Nat)):=yD (by simp only[Ab.out,xK,zA]);clear AK AI;have AU:=Al.out;have AN:=JH (ls.getD 0 []);have AT:=JH (ls.getD 1 []);have Ag:=YL 1 (kk.getD 0 0) (ls.getD 0 []);have An:=YL 2 (kk.getD 1 0) (ls.getD 1 [])
  have HV:Hid (yX (jL 1 (kk.getD 0 0) (ls.getD 0 []))++⟨#[32,43,32]⟩++yX (jL 2 (kk.getD 1 0) (ls.getD 1 []))=Af):=yD (by
   rw[←AH.out];unfold zAt;simp only[Nat.reduceEqDiff,if_false,if_true];rw[←XQ,←XQ]
   rfl)
  have Ae:Hid (zDX 1 y0.kind (yX (ls.getD 0 []))=yX (jL 1 (kk.getD 0 0) (ls.getD 0 []))):=yD (by rw[AJ.out]; exact zAF 1 _ _);have Ar:Hid (zDX 2 y1.kind (yX (ls.getD 1 []))=yX (jL 2 (kk.getD 1 0) (ls.getD 1 []))):=yD (by rw[AS.out]; exact zAF 2 _ _);have Ah:=JH (jL 1 (kk.getD 0 0) (ls.getD 0 []));have Ak:=JH (jL 2 (kk.getD 1 0) (ls.getD 1 []));generalize yX (jL 1 (kk.getD 0 0) (ls.getD 0 []))=q0 at *;generalize yX (jL 2 (kk.getD 1 0) (ls.getD 1 []))=q1 at *;generalize ls.getD 0 []=l0 at *;generalize ls.getD 1 []=l1 at *
  have z1:¬(9223372036854775807<q0.size+3):=by omega
  have z2:¬(9223372036854775807<q0.size+3+q1.size):=by omega
  have Az:(yX l0).size≤4611686018427387904:=by omega
  have A0:(yX l1).size≤4611686018427387904:=by omega
  clear AU AN AT Ag An Ah Ak As Ad
  go_wp2_with fail
  refine(YZ w1 g n c gp gn A L (AY.out.ext (Ext.refl _)) x (AX.out.ext (Ext.refl _)) (AO.out.ext (Ext.refl _)) (AL.out.ext (Ext.refl _)) 0 (ks[0]'(by have:=AA.out; omega)) (by rw[AM.out]; have:=AA.out; omega) AG.out y0 AV (yX l0) (by omega) 1 (fun w' hx=>AF.out w' (hx))).mono ?_;rintro e w2 ⟨rfl,AE⟩;rw[Ae.out];have AB:=yD AE;clear AE p0 n0 n1 n2 n3 n4
  go_wp2_with fail
  refine(YZ w2 g n c gp gn A L (AY.out.ext AB.out) x (AX.out.ext AB.out) (AO.out.ext AB.out) (AL.out.ext AB.out) 1 (ks[1]'(by have:=AA.out; omega)) (by rw[AM.out]; have:=AA.out; omega) AQ.out y1 Ap (yX l1) (by omega) 2 (fun w' hx=>AR.out w' (AB.out.trans hx))).mono ?_;rintro e w3 ⟨rfl,AZ⟩;rw[Ar.out];have Aj:=yD (AW.out.trans (AB.out.trans AZ));clear AZ
  go_wp2_with fail
  go_ret;rw[HV.out];exact⟨rfl,Aj.out⟩
 have A8:((k:Int)==23)=false:=beq_eq_false_iff_ne.2 (by omega)
 by_cases Aw:k=24
 ·subst Aw;have AA:Hid (ks.length=2):=yD (by rw[←Aq.out]; exact zGY Ao.out (by decide));obtain⟨y0,AV,AD,AC⟩:=Ac.out 0 (by have:=AA.out; omega);have AJ:=yD AD;have AF:=yD AC;have AG:Hid (x.kids[0]'(by rw[AM.out]; have:=AA.out; omega)=(ks[0]'(by have:=AA.out; omega):Nat)):=yD (by simp only[Ab.out,xK,zA]);clear AD AC;obtain⟨y1,Ap,AK,AI⟩:=Ac.out 1 (by have:=AA.out; omega);have AS:=yD AK;have AR:=yD AI;have AQ:Hid (x.kids[1]'(by rw[AM.out]; have:=AA.out; omega)=(ks[1]'(by have:=AA.out; omega):Nat)):=yD (by simp only[Ab.out,xK,zA]);clear AK AI;have AU:=Al.out;have AN:=JH (ls.getD 0 []);have AT:=JH (ls.getD 1 []);have Ag:=YL 1 (kk.getD 0 0) (ls.getD 0 []);have An:=YL 2 (kk.getD 1 0) (ls.getD 1 [])
  have HV:Hid (yX (jL 1 (kk.getD 0 0) (ls.getD 0 []))++⟨#[32,45,32]⟩++yX (jL 2 (kk.getD 1 0) (ls.getD 1 []))=Af):=yD (by
   rw[←AH.out];unfold zAt;simp only[Nat.reduceEqDiff,if_false,if_true];rw[←XQ,←XQ]
   rfl)
  have Ae:Hid (zDX 1 y0.kind (yX (ls.getD 0 []))=yX (jL 1 (kk.getD 0 0) (ls.getD 0 []))):=yD (by rw[AJ.out]; exact zAF 1 _ _);have Ar:Hid (zDX 2 y1.kind (yX (ls.getD 1 []))=yX (jL 2 (kk.getD 1 0) (ls.getD 1 []))):=yD (by rw[AS.out]; exact zAF 2 _ _);have Ah:=JH (jL 1 (kk.getD 0 0) (ls.getD 0 []));have Ak:=JH (jL 2 (kk.getD 1 0) (ls.getD 1 []));generalize yX (jL 1 (kk.getD 0 0) (ls.getD 0 []))=q0 at *;generalize yX (jL 2 (kk.getD 1 0) (ls.getD 1 []))=q1 at *;generalize ls.getD 0 []=l0 at *;generalize ls.getD 1 []=l1 at *
  have z1:¬(9223372036854775807<q0.size+3):=by omega
  have z2:¬(9223372036854775807<q0.size+3+q1.size):=by omega
  have Az:(yX l0).size≤4611686018427387904:=by omega
  have A0:(yX l1).size≤4611686018427387904:=by omega
  clear AU AN AT Ag An Ah Ak As Ad
  go_wp2_with fail
  refine(YZ w1 g n c gp gn A L (AY.out.ext (Ext.refl _)) x (AX.out.ext (Ext.refl _)) (AO.out.ext (Ext.refl _)) (AL.out.ext (Ext.refl _)) 0 (ks[0]'(by have:=AA.out; omega)) (by rw[AM.out]; have:=AA.out; omega) AG.out y0 AV (yX l0) (by omega) 1 (fun w' hx=>AF.out w' (hx))).mono ?_;rintro e w2 ⟨rfl,AE⟩;rw[Ae.out];have AB:=yD AE;clear AE p0 n0 n1 n2 n3 n4
  go_wp2_with fail
  refine(YZ w2 g n c gp gn A L (AY.out.ext AB.out) x (AX.out.ext AB.out) (AO.out.ext AB.out) (AL.out.ext AB.out) 1 (ks[1]'(by have:=AA.out; omega)) (by rw[AM.out]; have:=AA.out; omega) AQ.out y1 Ap (yX l1) (by omega) 2 (fun w' hx=>AR.out w' (AB.out.trans hx))).mono ?_;rintro e w3 ⟨rfl,AZ⟩;rw[Ar.out];have Aj:=yD (AW.out.trans (AB.out.trans AZ));clear AZ
  go_wp2_with fail
  go_ret;rw[HV.out];exact⟨rfl,Aj.out⟩
 have BF:((k:Int)==24)=false:=beq_eq_false_iff_ne.2 (by omega)
 by_cases Au:k=25
 ·subst Au;have AA:Hid (ks.length=2):=yD (by rw[←Aq.out]; exact zGY Ao.out (by decide));obtain⟨y0,AV,AD,AC⟩:=Ac.out 0 (by have:=AA.out; omega);have AJ:=yD AD;have AF:=yD AC;have AG:Hid (x.kids[0]'(by rw[AM.out]; have:=AA.out; omega)=(ks[0]'(by have:=AA.out; omega):Nat)):=yD (by simp only[Ab.out,xK,zA]);clear AD AC;obtain⟨y1,Ap,AK,AI⟩:=Ac.out 1 (by have:=AA.out; omega);have AS:=yD AK;have AR:=yD AI;have AQ:Hid (x.kids[1]'(by rw[AM.out]; have:=AA.out; omega)=(ks[1]'(by have:=AA.out; omega):Nat)):=yD (by simp only[Ab.out,xK,zA]);clear AK AI;have AU:=Al.out;have AN:=JH (ls.getD 0 []);have AT:=JH (ls.getD 1 []);have Ag:=YL 2 (kk.getD 0 0) (ls.getD 0 []);have An:=YL 3 (kk.getD 1 0) (ls.getD 1 [])
  have HV:Hid (yX (jL 2 (kk.getD 0 0) (ls.getD 0 []))++⟨#[32,42,32]⟩++yX (jL 3 (kk.getD 1 0) (ls.getD 1 []))=Af):=yD (by
   rw[←AH.out];unfold zAt;simp only[Nat.reduceEqDiff,if_false,if_true];rw[←XQ,←XQ]
   rfl)
  have Ae:Hid (zDX 2 y0.kind (yX (ls.getD 0 []))=yX (jL 2 (kk.getD 0 0) (ls.getD 0 []))):=yD (by rw[AJ.out]; exact zAF 2 _ _);have Ar:Hid (zDX 3 y1.kind (yX (ls.getD 1 []))=yX (jL 3 (kk.getD 1 0) (ls.getD 1 []))):=yD (by rw[AS.out]; exact zAF 3 _ _);have Ah:=JH (jL 2 (kk.getD 0 0) (ls.getD 0 []));have Ak:=JH (jL 3 (kk.getD 1 0) (ls.getD 1 []));generalize yX (jL 2 (kk.getD 0 0) (ls.getD 0 []))=q0 at *;generalize yX (jL 3 (kk.getD 1 0) (ls.getD 1 []))=q1 at *;generalize ls.getD 0 []=l0 at *;generalize ls.getD 1 []=l1 at *
  have z1:¬(9223372036854775807<q0.size+3):=by omega
  have z2:¬(9223372036854775807<q0.size+3+q1.size):=by omega
  have Az:(yX l0).size≤4611686018427387904:=by omega
  have A0:(yX l1).size≤4611686018427387904:=by omega
  clear AU AN AT Ag An Ah Ak As Ad
  go_wp2_with fail
  refine(YZ w1 g n c gp gn A L (AY.out.ext (Ext.refl _)) x (AX.out.ext (Ext.refl _)) (AO.out.ext (Ext.refl _)) (AL.out.ext (Ext.refl _)) 0 (ks[0]'(by have:=AA.out; omega)) (by rw[AM.out]; have:=AA.out; omega) AG.out y0 AV (yX l0) (by omega) 2 (fun w' hx=>AF.out w' (hx))).mono ?_;rintro e w2 ⟨rfl,AE⟩;rw[Ae.out];have AB:=yD AE;clear AE p0 n0 n1 n2 n3 n4
  go_wp2_with fail
  refine(YZ w2 g n c gp gn A L (AY.out.ext AB.out) x (AX.out.ext AB.out) (AO.out.ext AB.out) (AL.out.ext AB.out) 1 (ks[1]'(by have:=AA.out; omega)) (by rw[AM.out]; have:=AA.out; omega) AQ.out y1 Ap (yX l1) (by omega) 3 (fun w' hx=>AR.out w' (AB.out.trans hx))).mono ?_;rintro e w3 ⟨rfl,AZ⟩;rw[Ar.out];have Aj:=yD (AW.out.trans (AB.out.trans AZ));clear AZ
  go_wp2_with fail
  go_ret;rw[HV.out];exact⟨rfl,Aj.out⟩
 have BB:((k:Int)==25)=false:=beq_eq_false_iff_ne.2 (by omega)
 by_cases Ax:k=26
 ·subst Ax;have AA:Hid (ks.length=1):=yD (by rw[←Aq.out]; exact zLb Ao.out (.inr rfl));obtain⟨y0,AV,AD,AC⟩:=Ac.out 0 (by have:=AA.out; omega);have AJ:=yD AD;have AF:=yD AC;have AG:Hid (x.kids[0]'(by rw[AM.out]; have:=AA.out; omega)=(ks[0]'(by have:=AA.out; omega):Nat)):=yD (by simp only[Ab.out,xK,zA]);clear AD AC;have AU:=Al.out;have AN:=JH (ls.getD 0 []);have Ag:=YL 3 (kk.getD 0 0) (ls.getD 0 [])
  have HV:Hid (⟨#[45]⟩++yX (jL 3 (kk.getD 0 0) (ls.getD 0 []))=Af):=yD (by
   rw[←AH.out];unfold zAt;simp only[Nat.reduceEqDiff,if_false,if_true];rw[←XQ]
   rfl)
  have Ae:Hid (zDX 3 y0.kind (yX (ls.getD 0 []))=yX (jL 3 (kk.getD 0 0) (ls.getD 0 []))):=yD (by rw[AJ.out]; exact zAF 3 _ _);have Ah:=JH (jL 3 (kk.getD 0 0) (ls.getD 0 []));generalize yX (jL 3 (kk.getD 0 0) (ls.getD 0 []))=q0 at *;generalize ls.getD 0 []=l0 at *
  have z1:¬(9223372036854775807<1+q0.size):=by omega
  have Az:(yX l0).size≤4611686018427387904:=by omega
  clear AU AN Ag Ah As Ad
  go_wp2_with fail
  refine(YZ w1 g n c gp gn A L (AY.out.ext (Ext.refl _)) x (AX.out.ext (Ext.refl _)) (AO.out.ext (Ext.refl _)) (AL.out.ext (Ext.refl _)) 0 (ks[0]'(by have:=AA.out; omega)) (by rw[AM.out]; have:=AA.out; omega) AG.out y0 AV (yX l0) (by omega) 3 (fun w' hx=>AF.out w' (hx))).mono ?_;rintro e w2 ⟨rfl,AE⟩;rw[Ae.out];have Am:=yD (AW.out.trans AE);clear AE p0 n0 n1 n2 n3 n4
  go_wp2_with fail
  go_ret;rw[HV.out];exact⟨rfl,Am.out⟩
 have A9:((k:Int)==26)=false:=beq_eq_false_iff_ne.2 (by omega);have HV:Hid (yX t=Af):=yD (by rw[←AH.out]; unfold zAt; rw[if_neg Av,if_neg At,if_neg Ay,if_neg Aw,if_neg Au,if_neg Ax]);clear Av At Ay Aw Au Ax
 go_wp2_with fail
 go_ret;rw[HV.out];exact⟨rfl,AW.out⟩
theorem zDw {s:ByteArray}{t:Bs}(h:s.data.toList=t):s=yX t:=by
 subst h;apply ByteArray.ext;simp[yX]
theorem zDu (w:World)(g n c:Nat)(A:Option Addr)(L:List TT.xC)(hP:PrT w g n c A L):∀(f:Fo) (a:Nat),VP L a f→f.ok 0→f.wt≤1099511627776→∀j (hj:j<(f.roots a).length),zDr w g L (f.roots a)[j] (f.kinds.getD j 0) (f.txt.getD j [])
 | .nil,a,_,_,_=>fun j hj=>by cases hj
 | .cons k p t x c' r,a,hL,hok,hwt=>fun j hj=>by
  have hw:t.length+30+c'.wt+r.wt≤1099511627776:=hwt;obtain⟨⟨m,hm,hk,hx,ht,AD⟩,hc,hr⟩:=hL
  cases j with
  | zero=>
   refine⟨m,hm,hk,fun w' AC=>?_⟩;have AB:=hP.ext AC;have AA:m ∈ L:=zY hm;have hs:=zGH c' hok.2.1
   exact zRv w' g n c A L AB m (AB.tree.ok m AA).kids k t x (c'.roots (a+1)) c'.kinds c'.txt hk (zDw ht) hx AD hok.1.1 (zBi c' _) (zEZ c' _) (fun i hi=>by
    obtain⟨y,h1,h2,h3⟩:=zDu w g n c A L hP c' (a+1) hc hok.2.1 (by omega) i hi
    exact⟨y,h1,h2,fun w2 AE=>h3 w2 (AC.trans AE)⟩) (by omega)
  | succ j=>
   exact zDu w g n c A L hP r (a+1+c'.size) hr hok.2.2 (by omega) j (Nat.lt_of_succ_lt_succ hj)
end Go.Proofs.YtioffpjajhalaaaGreatDoor
namespace Go.Proofs.YtioffpjajhalaaaGreatDoor
open Go Go.Shelf
def zHm:Ren:=
 {
  f:=fun x=>
   match x with
   | 156=>88
   | 165=>137
   | 166=>87
   | 169=>47
   | 240=>136
   | 241=>167
   | 276=>166
   | 277=>184
   | n=>n,
  t:=fun x=>
   match x with
   | 31=>33
   | 9=>9
   | 3=>3
   | 4=>4
   | 0=>0
   | 20=>20
   | 72=>80
   | 76=>135
   | 70=>78
   | 37=>22
   | 75=>25
   | 127=>140
   | 164=>155
   | 5=>5
   | 80=>90
   | n=>n,
  g:=fun x=>
   have n:=x;
   n }
theorem zMH:Lays.n156 Tryz.prog zHm where
 mixed:=by kernel_rfl
 f156:=by kernel_rfl
 f165:=by kernel_rfl
 f166:=by kernel_rfl
 f169:=by kernel_rfl
 f240:=by kernel_rfl
 f241:=by kernel_rfl
 f276:=by kernel_rfl
 f277:=by kernel_rfl
 t0:=Tryz.underlying0
 a0:=Tryz.isAgg0
 z0:=Tryz.sizeOf0
 v0:=Tryz.zeroValue0
 t3:=Tryz.underlying3
 a3:=Tryz.isAgg3
 z3:=Tryz.sizeOf3
 v3:=Tryz.zeroValue3
 t4:=Tryz.underlying4
 a4:=Tryz.isAgg4
 z4:=Tryz.sizeOf4
 v4:=Tryz.zeroValue4
 t9:=Tryz.underlying9
 a9:=Tryz.isAgg9
 z9:=Tryz.sizeOf9
 v9:=Tryz.zeroValue9
 t20:=Tryz.underlying20
 a20:=Tryz.isAgg20
 z20:=Tryz.sizeOf20
 v20:=Tryz.zeroValue20
 t31:=Tryz.underlying33
 a31:=Tryz.isAgg33
 z31:=Tryz.sizeOf33
 v31:=Tryz.zeroValue33
 t37:=Tryz.underlying22
 a37:=Tryz.isAgg22
 z37:=Tryz.sizeOf22
 v37:=Tryz.zeroValue22
 t70:=Tryz.underlying78
 a70:=Tryz.isAgg78
 z70:=Tryz.sizeOf78
 v70:=Tryz.zeroValue78
 t72:=Tryz.underlying80
 a72:=Tryz.isAgg80
 z72:=Tryz.sizeOf80
 v72:=Tryz.zeroValue80
 t75:=Tryz.underlying25
 a75:=Tryz.isAgg25
 z75:=Tryz.sizeOf25
 v75:=Tryz.zeroValue25
 t76:=Tryz.underlying135
 a76:=Tryz.isAgg135
 z76:=Tryz.sizeOf135
 v76:=Tryz.zeroValue135
 t127:=Tryz.underlying140
 a127:=Tryz.isAgg140
 z127:=Tryz.sizeOf140
 v127:=Tryz.zeroValue140
 t164:=Tryz.underlying155
 a164:=Tryz.isAgg155
 z164:=Tryz.sizeOf155
 v164:=Tryz.zeroValue155
theorem zK7:Builder.Extra Tryz.prog zHm where
 sizeBuilder:=by kernel_rfl
 liesBuilder:=by kernel_rfl
 t5:=Tryz.underlying5
 a5:=Tryz.isAgg5
 z5:=Tryz.sizeOf5
 v5:=Tryz.zeroValue5
 infoByte:=by kernel_rfl
 cellsByte:=by kernel_rfl
 sizeByte:=by kernel_rfl
 neB5:=by decide
theorem join_none (a:Option Addr)(c:Nat)(sep:ByteArray)(w:World) :
  Calls Tryz.prog 88 #[.slice a 0 c,.string sep] w fun e w'=>e=.returned (.string ⟨#[]⟩)∧w'=w:=Any.strings_Join_none zMH zK7 a c sep w
theorem zSn (bk o c:Nat)(xs:List ByteArray)(sep:ByteArray)(w:World)(hcells:∀(j:Nat) x,xs[j]?=some x→w.cell? ⟨bk,o+j,none⟩=some (.string x))(hbk:bk<w.heap.size)(hN:xs.length≤140737488355328)(hcap:xs.length≤c)(hlen:(Lib.join (xs.map (·.data.toList)) sep.data.toList).length≤140737488355328) :
  Calls Tryz.prog 88 #[.slice (some ⟨bk,o,none⟩) xs.length c,.string sep] w fun e w'=>e=.returned (.string ⟨(Lib.join (xs.map (·.data.toList)) sep.data.toList).toArray⟩)∧RowKit.Below w.heap.size w w':=Any.strings_Join zMH zK7 bk o c xs sep w hcells hbk hN hcap hlen
end Go.Proofs.YtioffpjajhalaaaGreatDoor
