/- The document's words and kinds, walked. -/
import Derived.Test.YtioffpjajhalaaaGreatDoorLaa
import Derived.Test.YtioffpjajhalaaaGreatDoorLbf
import Derived.Test.YtioffpjajhalaaaGreatDoorLak
set_option linter.unusedVariables false
set_option linter.unusedSimpArgs false
set_option maxRecDepth 100000
set_option maxHeartbeats 16000000
namespace Go.Proofs.YtioffpjajhalaaaGreatDoor.TT
open Go Go.RowKit
theorem vN {kind num:Int}{text:List UInt8}{named:Bool}{most:Int}(hn:zC8 kind=named)(hm:zBB kind=most):vL kind num text=((named==xX text)&&((named||text.isEmpty)&&(decide (0≤num)&&decide (num≤most)))):=by
 subst hn hm; rfl
theorem xC (s:ByteArray)(w:World)(hs:s.size≤9000)(b:Bool)(hb:xX s.data.toList=b):Calls Tryz.prog 143 #[.string s] w fun e w'=>e=.returned (.bool b)∧w=w':=by
 subst hb;exact zKo s w hs
theorem zLx (pos num:Int)(text:ByteArray)(kA:Option Addr)(kl kc:Nat)(w:World)(hx:text.size≤9000)(b:Bool)(hb:Hid (vL 1 num text.data.toList=b)) :
  Calls Tryz.prog 99 #[.agg #[.int .u8 1,.int .i64 pos,.string text,.int .i64 num,.slice kA kl kc]] w fun e w'=>e=.returned (.bool b)∧Ext w w':=by
 have HW:=yD (vN (kind:=1) (num:=num) (text:=text.data.toList) (named:=false) (most:=0) rfl rfl);have HX:Hid (Ext w (w.alloc (.cells #[.int .u8 1,.int .i64 pos,.string text,.int .i64 num,.slice kA kl kc] 100))):=yD (Ext.alloc _ _);have HT:Hid (text.toList=text.data.toList):=yD (ByteArray.toList_eq _);obtain⟨t1,HN⟩:∃t,Hid (xX text.data.toList=t):=⟨_,yD rfl⟩;rw[HN.out] at HW
 go_enter Tryz.func99,Tryz.ntmps99
 go_upto_region 11 with fail
 cases t1 with
 | true=>
  have HB:Hid (b=false):=yD (by rw[←hb.out,HW.out]; rfl)
  go_wp2_with (go_at_call 143; refine(xC text _ hx _ HN.out).mono ?_; rintro e w2 ⟨rfl,rfl⟩)
  go_ret;exact⟨xE HB.out.symm,HX.out⟩
 | false=>
  by_cases he:text.data.toList=[]
  ·have e1:text.toList=[]:=by rw[HT.out]; exact he
   have e2:text.toList.isEmpty=true:=by rw[e1]; rfl
   have HE:Hid (text.data.toList.isEmpty=true):=yD (by rw[he]; rfl)
   have e3:(text.toList==[])=true:=by rw[e1]; rfl
   clear he
   by_cases h0:0≤num
   ·have d0:decide (num ≥ 0)=true:=yP h0;have d1:decide (0≤num)=true:=yP h0;have HB:Hid (b=decide (num≤0)):=yD (by rw[←hb.out,HW.out]; rw[d1]; simp[HE.out])
    go_wp2_with (go_at_call 143; refine(xC text _ hx _ HN.out).mono ?_; rintro e w2 ⟨rfl,rfl⟩)
    go_ret;exact⟨xE HB.out.symm,HX.out⟩
   ·have d0:decide (num ≥ 0)=false:=yO h0;have d1:decide (0≤num)=false:=yO h0;have HB:Hid (b=false):=yD (by rw[←hb.out,HW.out]; rw[d1]; simp[HE.out])
    go_wp2_with (go_at_call 143; refine(xC text _ hx _ HN.out).mono ?_; rintro e w2 ⟨rfl,rfl⟩)
    go_ret;exact⟨xE HB.out.symm,HX.out⟩
  ·have e1:¬text.toList=[]:=by rw[HT.out]; exact he
   have e2:text.toList.isEmpty=false:=by simpa using e1
   have HE:Hid (text.data.toList.isEmpty=false):=yD (by simpa using he)
   have e3:(text.toList==[])=false:=by simpa using e1
   clear he;have HB:Hid (b=false):=yD (by rw[←hb.out,HW.out]; simp[HE.out])
   go_wp2_with (go_at_call 143; refine(xC text _ hx _ HN.out).mono ?_; rintro e w2 ⟨rfl,rfl⟩)
   go_ret;exact⟨xE HB.out.symm,HX.out⟩
theorem zLB (pos num:Int)(text:ByteArray)(kA:Option Addr)(kl kc:Nat)(w:World)(hx:text.size≤9000)(b:Bool)(hb:Hid (vL 2 num text.data.toList=b)) :
  Calls Tryz.prog 99 #[.agg #[.int .u8 2,.int .i64 pos,.string text,.int .i64 num,.slice kA kl kc]] w fun e w'=>e=.returned (.bool b)∧Ext w w':=by
 have HW:=yD (vN (kind:=2) (num:=num) (text:=text.data.toList) (named:=true) (most:=0) rfl rfl);have HX:Hid (Ext w (w.alloc (.cells #[.int .u8 2,.int .i64 pos,.string text,.int .i64 num,.slice kA kl kc] 100))):=yD (Ext.alloc _ _);have HT:Hid (text.toList=text.data.toList):=yD (ByteArray.toList_eq _);obtain⟨t1,HN⟩:∃t,Hid (xX text.data.toList=t):=⟨_,yD rfl⟩;rw[HN.out] at HW
 go_enter Tryz.func99,Tryz.ntmps99
 go_upto_region 11 with fail
 cases t1 with
 | false=>
  have HB:Hid (b=false):=yD (by rw[←hb.out,HW.out]; rfl)
  go_wp2_with (go_at_call 143; refine(xC text _ hx _ HN.out).mono ?_; rintro e w2 ⟨rfl,rfl⟩)
  go_ret;exact⟨xE HB.out.symm,HX.out⟩
 | true=>
  by_cases h0:0≤num
  ·have d0:decide (num ≥ 0)=true:=yP h0;have d1:decide (0≤num)=true:=yP h0;have HB:Hid (b=decide (num≤0)):=yD (by rw[←hb.out,HW.out]; rw[d1]; simp)
   go_wp2_with (go_at_call 143; refine(xC text _ hx _ HN.out).mono ?_; rintro e w2 ⟨rfl,rfl⟩)
   go_ret;exact⟨xE HB.out.symm,HX.out⟩
  ·have d0:decide (num ≥ 0)=false:=yO h0;have d1:decide (0≤num)=false:=yO h0;have HB:Hid (b=false):=yD (by rw[←hb.out,HW.out]; rw[d1]; simp)
   go_wp2_with (go_at_call 143; refine(xC text _ hx _ HN.out).mono ?_; rintro e w2 ⟨rfl,rfl⟩)
   go_ret;exact⟨xE HB.out.symm,HX.out⟩
theorem zMY (pos num:Int)(text:ByteArray)(kA:Option Addr)(kl kc:Nat)(w:World)(hx:text.size≤9000)(b:Bool)(hb:Hid (vL 3 num text.data.toList=b)) :
  Calls Tryz.prog 99 #[.agg #[.int .u8 3,.int .i64 pos,.string text,.int .i64 num,.slice kA kl kc]] w fun e w'=>e=.returned (.bool b)∧Ext w w':=by
 have HW:=yD (vN (kind:=3) (num:=num) (text:=text.data.toList) (named:=true) (most:=1) rfl rfl);have HX:Hid (Ext w (w.alloc (.cells #[.int .u8 3,.int .i64 pos,.string text,.int .i64 num,.slice kA kl kc] 100))):=yD (Ext.alloc _ _);have HT:Hid (text.toList=text.data.toList):=yD (ByteArray.toList_eq _);obtain⟨t1,HN⟩:∃t,Hid (xX text.data.toList=t):=⟨_,yD rfl⟩;rw[HN.out] at HW
 go_enter Tryz.func99,Tryz.ntmps99
 go_upto_region 11 with fail
 cases t1 with
 | false=>
  have HB:Hid (b=false):=yD (by rw[←hb.out,HW.out]; rfl)
  go_wp2_with (go_at_call 143; refine(xC text _ hx _ HN.out).mono ?_; rintro e w2 ⟨rfl,rfl⟩)
  go_ret;exact⟨xE HB.out.symm,HX.out⟩
 | true=>
  by_cases h0:0≤num
  ·have d0:decide (num ≥ 0)=true:=yP h0;have d1:decide (0≤num)=true:=yP h0;have HB:Hid (b=decide (num≤1)):=yD (by rw[←hb.out,HW.out]; rw[d1]; simp)
   go_wp2_with (go_at_call 143; refine(xC text _ hx _ HN.out).mono ?_; rintro e w2 ⟨rfl,rfl⟩)
   go_ret;exact⟨xE HB.out.symm,HX.out⟩
  ·have d0:decide (num ≥ 0)=false:=yO h0;have d1:decide (0≤num)=false:=yO h0;have HB:Hid (b=false):=yD (by rw[←hb.out,HW.out]; rw[d1]; simp)
   go_wp2_with (go_at_call 143; refine(xC text _ hx _ HN.out).mono ?_; rintro e w2 ⟨rfl,rfl⟩)
   go_ret;exact⟨xE HB.out.symm,HX.out⟩
theorem zMQ (pos num:Int)(text:ByteArray)(kA:Option Addr)(kl kc:Nat)(w:World)(hx:text.size≤9000)(b:Bool)(hb:Hid (vL 4 num text.data.toList=b)) :
  Calls Tryz.prog 99 #[.agg #[.int .u8 4,.int .i64 pos,.string text,.int .i64 num,.slice kA kl kc]] w fun e w'=>e=.returned (.bool b)∧Ext w w':=by
 have HW:=yD (vN (kind:=4) (num:=num) (text:=text.data.toList) (named:=false) (most:=0) rfl rfl);have HX:Hid (Ext w (w.alloc (.cells #[.int .u8 4,.int .i64 pos,.string text,.int .i64 num,.slice kA kl kc] 100))):=yD (Ext.alloc _ _);have HT:Hid (text.toList=text.data.toList):=yD (ByteArray.toList_eq _);obtain⟨t1,HN⟩:∃t,Hid (xX text.data.toList=t):=⟨_,yD rfl⟩;rw[HN.out] at HW
 go_enter Tryz.func99,Tryz.ntmps99
 go_upto_region 11 with fail
 cases t1 with
 | true=>
  have HB:Hid (b=false):=yD (by rw[←hb.out,HW.out]; rfl)
  go_wp2_with (go_at_call 143; refine(xC text _ hx _ HN.out).mono ?_; rintro e w2 ⟨rfl,rfl⟩)
  go_ret;exact⟨xE HB.out.symm,HX.out⟩
 | false=>
  by_cases he:text.data.toList=[]
  ·have e1:text.toList=[]:=by rw[HT.out]; exact he
   have e2:text.toList.isEmpty=true:=by rw[e1]; rfl
   have HE:Hid (text.data.toList.isEmpty=true):=yD (by rw[he]; rfl)
   have e3:(text.toList==[])=true:=by rw[e1]; rfl
   clear he
   by_cases h0:0≤num
   ·have d0:decide (num ≥ 0)=true:=yP h0;have d1:decide (0≤num)=true:=yP h0;have HB:Hid (b=decide (num≤0)):=yD (by rw[←hb.out,HW.out]; rw[d1]; simp[HE.out])
    go_wp2_with (go_at_call 143; refine(xC text _ hx _ HN.out).mono ?_; rintro e w2 ⟨rfl,rfl⟩)
    go_ret;exact⟨xE HB.out.symm,HX.out⟩
   ·have d0:decide (num ≥ 0)=false:=yO h0;have d1:decide (0≤num)=false:=yO h0;have HB:Hid (b=false):=yD (by rw[←hb.out,HW.out]; rw[d1]; simp[HE.out])
    go_wp2_with (go_at_call 143; refine(xC text _ hx _ HN.out).mono ?_; rintro e w2 ⟨rfl,rfl⟩)
    go_ret;exact⟨xE HB.out.symm,HX.out⟩
  ·have e1:¬text.toList=[]:=by rw[HT.out]; exact he
   have e2:text.toList.isEmpty=false:=by simpa using e1
   have HE:Hid (text.data.toList.isEmpty=false):=yD (by simpa using he)
   have e3:(text.toList==[])=false:=by simpa using e1
   clear he;have HB:Hid (b=false):=yD (by rw[←hb.out,HW.out]; simp[HE.out])
   go_wp2_with (go_at_call 143; refine(xC text _ hx _ HN.out).mono ?_; rintro e w2 ⟨rfl,rfl⟩)
   go_ret;exact⟨xE HB.out.symm,HX.out⟩
theorem zLu (pos num:Int)(text:ByteArray)(kA:Option Addr)(kl kc:Nat)(w:World)(hx:text.size≤9000)(b:Bool)(hb:Hid (vL 5 num text.data.toList=b)) :
  Calls Tryz.prog 99 #[.agg #[.int .u8 5,.int .i64 pos,.string text,.int .i64 num,.slice kA kl kc]] w fun e w'=>e=.returned (.bool b)∧Ext w w':=by
 have HW:=yD (vN (kind:=5) (num:=num) (text:=text.data.toList) (named:=true) (most:=0) rfl rfl);have HX:Hid (Ext w (w.alloc (.cells #[.int .u8 5,.int .i64 pos,.string text,.int .i64 num,.slice kA kl kc] 100))):=yD (Ext.alloc _ _);have HT:Hid (text.toList=text.data.toList):=yD (ByteArray.toList_eq _);obtain⟨t1,HN⟩:∃t,Hid (xX text.data.toList=t):=⟨_,yD rfl⟩;rw[HN.out] at HW
 go_enter Tryz.func99,Tryz.ntmps99
 go_upto_region 11 with fail
 cases t1 with
 | false=>
  have HB:Hid (b=false):=yD (by rw[←hb.out,HW.out]; rfl)
  go_wp2_with (go_at_call 143; refine(xC text _ hx _ HN.out).mono ?_; rintro e w2 ⟨rfl,rfl⟩)
  go_ret;exact⟨xE HB.out.symm,HX.out⟩
 | true=>
  by_cases h0:0≤num
  ·have d0:decide (num ≥ 0)=true:=yP h0;have d1:decide (0≤num)=true:=yP h0;have HB:Hid (b=decide (num≤0)):=yD (by rw[←hb.out,HW.out]; rw[d1]; simp)
   go_wp2_with (go_at_call 143; refine(xC text _ hx _ HN.out).mono ?_; rintro e w2 ⟨rfl,rfl⟩)
   go_ret;exact⟨xE HB.out.symm,HX.out⟩
  ·have d0:decide (num ≥ 0)=false:=yO h0;have d1:decide (0≤num)=false:=yO h0;have HB:Hid (b=false):=yD (by rw[←hb.out,HW.out]; rw[d1]; simp)
   go_wp2_with (go_at_call 143; refine(xC text _ hx _ HN.out).mono ?_; rintro e w2 ⟨rfl,rfl⟩)
   go_ret;exact⟨xE HB.out.symm,HX.out⟩
theorem zMv (pos num:Int)(text:ByteArray)(kA:Option Addr)(kl kc:Nat)(w:World)(hx:text.size≤9000)(b:Bool)(hb:Hid (vL 6 num text.data.toList=b)) :
  Calls Tryz.prog 99 #[.agg #[.int .u8 6,.int .i64 pos,.string text,.int .i64 num,.slice kA kl kc]] w fun e w'=>e=.returned (.bool b)∧Ext w w':=by
 have HW:=yD (vN (kind:=6) (num:=num) (text:=text.data.toList) (named:=false) (most:=0) rfl rfl);have HX:Hid (Ext w (w.alloc (.cells #[.int .u8 6,.int .i64 pos,.string text,.int .i64 num,.slice kA kl kc] 100))):=yD (Ext.alloc _ _);have HT:Hid (text.toList=text.data.toList):=yD (ByteArray.toList_eq _);obtain⟨t1,HN⟩:∃t,Hid (xX text.data.toList=t):=⟨_,yD rfl⟩;rw[HN.out] at HW
 go_enter Tryz.func99,Tryz.ntmps99
 go_upto_region 11 with fail
 cases t1 with
 | true=>
  have HB:Hid (b=false):=yD (by rw[←hb.out,HW.out]; rfl)
  go_wp2_with (go_at_call 143; refine(xC text _ hx _ HN.out).mono ?_; rintro e w2 ⟨rfl,rfl⟩)
  go_ret;exact⟨xE HB.out.symm,HX.out⟩
 | false=>
  by_cases he:text.data.toList=[]
  ·have e1:text.toList=[]:=by rw[HT.out]; exact he
   have e2:text.toList.isEmpty=true:=by rw[e1]; rfl
   have HE:Hid (text.data.toList.isEmpty=true):=yD (by rw[he]; rfl)
   have e3:(text.toList==[])=true:=by rw[e1]; rfl
   clear he
   by_cases h0:0≤num
   ·have d0:decide (num ≥ 0)=true:=yP h0;have d1:decide (0≤num)=true:=yP h0;have HB:Hid (b=decide (num≤0)):=yD (by rw[←hb.out,HW.out]; rw[d1]; simp[HE.out])
    go_wp2_with (go_at_call 143; refine(xC text _ hx _ HN.out).mono ?_; rintro e w2 ⟨rfl,rfl⟩)
    go_ret;exact⟨xE HB.out.symm,HX.out⟩
   ·have d0:decide (num ≥ 0)=false:=yO h0;have d1:decide (0≤num)=false:=yO h0;have HB:Hid (b=false):=yD (by rw[←hb.out,HW.out]; rw[d1]; simp[HE.out])
    go_wp2_with (go_at_call 143; refine(xC text _ hx _ HN.out).mono ?_; rintro e w2 ⟨rfl,rfl⟩)
    go_ret;exact⟨xE HB.out.symm,HX.out⟩
  ·have e1:¬text.toList=[]:=by rw[HT.out]; exact he
   have e2:text.toList.isEmpty=false:=by simpa using e1
   have HE:Hid (text.data.toList.isEmpty=false):=yD (by simpa using he)
   have e3:(text.toList==[])=false:=by simpa using e1
   clear he;have HB:Hid (b=false):=yD (by rw[←hb.out,HW.out]; simp[HE.out])
   go_wp2_with (go_at_call 143; refine(xC text _ hx _ HN.out).mono ?_; rintro e w2 ⟨rfl,rfl⟩)
   go_ret;exact⟨xE HB.out.symm,HX.out⟩
theorem zMF (pos num:Int)(text:ByteArray)(kA:Option Addr)(kl kc:Nat)(w:World)(hx:text.size≤9000)(b:Bool)(hb:Hid (vL 7 num text.data.toList=b)) :
  Calls Tryz.prog 99 #[.agg #[.int .u8 7,.int .i64 pos,.string text,.int .i64 num,.slice kA kl kc]] w fun e w'=>e=.returned (.bool b)∧Ext w w':=by
 have HW:=yD (vN (kind:=7) (num:=num) (text:=text.data.toList) (named:=true) (most:=1) rfl rfl);have HX:Hid (Ext w (w.alloc (.cells #[.int .u8 7,.int .i64 pos,.string text,.int .i64 num,.slice kA kl kc] 100))):=yD (Ext.alloc _ _);have HT:Hid (text.toList=text.data.toList):=yD (ByteArray.toList_eq _);obtain⟨t1,HN⟩:∃t,Hid (xX text.data.toList=t):=⟨_,yD rfl⟩;rw[HN.out] at HW
 go_enter Tryz.func99,Tryz.ntmps99
 go_upto_region 11 with fail
 cases t1 with
 | false=>
  have HB:Hid (b=false):=yD (by rw[←hb.out,HW.out]; rfl)
  go_wp2_with (go_at_call 143; refine(xC text _ hx _ HN.out).mono ?_; rintro e w2 ⟨rfl,rfl⟩)
  go_ret;exact⟨xE HB.out.symm,HX.out⟩
 | true=>
  by_cases h0:0≤num
  ·have d0:decide (num ≥ 0)=true:=yP h0;have d1:decide (0≤num)=true:=yP h0;have HB:Hid (b=decide (num≤1)):=yD (by rw[←hb.out,HW.out]; rw[d1]; simp)
   go_wp2_with (go_at_call 143; refine(xC text _ hx _ HN.out).mono ?_; rintro e w2 ⟨rfl,rfl⟩)
   go_ret;exact⟨xE HB.out.symm,HX.out⟩
  ·have d0:decide (num ≥ 0)=false:=yO h0;have d1:decide (0≤num)=false:=yO h0;have HB:Hid (b=false):=yD (by rw[←hb.out,HW.out]; rw[d1]; simp)
   go_wp2_with (go_at_call 143; refine(xC text _ hx _ HN.out).mono ?_; rintro e w2 ⟨rfl,rfl⟩)
   go_ret;exact⟨xE HB.out.symm,HX.out⟩
theorem zMB (pos num:Int)(text:ByteArray)(kA:Option Addr)(kl kc:Nat)(w:World)(hx:text.size≤9000)(b:Bool)(hb:Hid (vL 8 num text.data.toList=b)) :
  Calls Tryz.prog 99 #[.agg #[.int .u8 8,.int .i64 pos,.string text,.int .i64 num,.slice kA kl kc]] w fun e w'=>e=.returned (.bool b)∧Ext w w':=by
 have HW:=yD (vN (kind:=8) (num:=num) (text:=text.data.toList) (named:=false) (most:=0) rfl rfl);have HX:Hid (Ext w (w.alloc (.cells #[.int .u8 8,.int .i64 pos,.string text,.int .i64 num,.slice kA kl kc] 100))):=yD (Ext.alloc _ _);have HT:Hid (text.toList=text.data.toList):=yD (ByteArray.toList_eq _);obtain⟨t1,HN⟩:∃t,Hid (xX text.data.toList=t):=⟨_,yD rfl⟩;rw[HN.out] at HW
 go_enter Tryz.func99,Tryz.ntmps99
 go_upto_region 11 with fail
 cases t1 with
 | true=>
  have HB:Hid (b=false):=yD (by rw[←hb.out,HW.out]; rfl)
  go_wp2_with (go_at_call 143; refine(xC text _ hx _ HN.out).mono ?_; rintro e w2 ⟨rfl,rfl⟩)
  go_ret;exact⟨xE HB.out.symm,HX.out⟩
 | false=>
  by_cases he:text.data.toList=[]
  ·have e1:text.toList=[]:=by rw[HT.out]; exact he
   have e2:text.toList.isEmpty=true:=by rw[e1]; rfl
   have HE:Hid (text.data.toList.isEmpty=true):=yD (by rw[he]; rfl)
   have e3:(text.toList==[])=true:=by rw[e1]; rfl
   clear he
   by_cases h0:0≤num
   ·have d0:decide (num ≥ 0)=true:=yP h0;have d1:decide (0≤num)=true:=yP h0;have HB:Hid (b=decide (num≤0)):=yD (by rw[←hb.out,HW.out]; rw[d1]; simp[HE.out])
    go_wp2_with (go_at_call 143; refine(xC text _ hx _ HN.out).mono ?_; rintro e w2 ⟨rfl,rfl⟩)
    go_ret;exact⟨xE HB.out.symm,HX.out⟩
   ·have d0:decide (num ≥ 0)=false:=yO h0;have d1:decide (0≤num)=false:=yO h0;have HB:Hid (b=false):=yD (by rw[←hb.out,HW.out]; rw[d1]; simp[HE.out])
    go_wp2_with (go_at_call 143; refine(xC text _ hx _ HN.out).mono ?_; rintro e w2 ⟨rfl,rfl⟩)
    go_ret;exact⟨xE HB.out.symm,HX.out⟩
  ·have e1:¬text.toList=[]:=by rw[HT.out]; exact he
   have e2:text.toList.isEmpty=false:=by simpa using e1
   have HE:Hid (text.data.toList.isEmpty=false):=yD (by simpa using he)
   have e3:(text.toList==[])=false:=by simpa using e1
   clear he;have HB:Hid (b=false):=yD (by rw[←hb.out,HW.out]; simp[HE.out])
   go_wp2_with (go_at_call 143; refine(xC text _ hx _ HN.out).mono ?_; rintro e w2 ⟨rfl,rfl⟩)
   go_ret;exact⟨xE HB.out.symm,HX.out⟩
theorem zLS (pos num:Int)(text:ByteArray)(kA:Option Addr)(kl kc:Nat)(w:World)(hx:text.size≤9000)(b:Bool)(hb:Hid (vL 9 num text.data.toList=b)) :
  Calls Tryz.prog 99 #[.agg #[.int .u8 9,.int .i64 pos,.string text,.int .i64 num,.slice kA kl kc]] w fun e w'=>e=.returned (.bool b)∧Ext w w':=by
 have HW:=yD (vN (kind:=9) (num:=num) (text:=text.data.toList) (named:=false) (most:=0) rfl rfl);have HX:Hid (Ext w (w.alloc (.cells #[.int .u8 9,.int .i64 pos,.string text,.int .i64 num,.slice kA kl kc] 100))):=yD (Ext.alloc _ _);have HT:Hid (text.toList=text.data.toList):=yD (ByteArray.toList_eq _);obtain⟨t1,HN⟩:∃t,Hid (xX text.data.toList=t):=⟨_,yD rfl⟩;rw[HN.out] at HW
 go_enter Tryz.func99,Tryz.ntmps99
 go_upto_region 11 with fail
 cases t1 with
 | true=>
  have HB:Hid (b=false):=yD (by rw[←hb.out,HW.out]; rfl)
  go_wp2_with (go_at_call 143; refine(xC text _ hx _ HN.out).mono ?_; rintro e w2 ⟨rfl,rfl⟩)
  go_ret;exact⟨xE HB.out.symm,HX.out⟩
 | false=>
  by_cases he:text.data.toList=[]
  ·have e1:text.toList=[]:=by rw[HT.out]; exact he
   have e2:text.toList.isEmpty=true:=by rw[e1]; rfl
   have HE:Hid (text.data.toList.isEmpty=true):=yD (by rw[he]; rfl)
   have e3:(text.toList==[])=true:=by rw[e1]; rfl
   clear he
   by_cases h0:0≤num
   ·have d0:decide (num ≥ 0)=true:=yP h0;have d1:decide (0≤num)=true:=yP h0;have HB:Hid (b=decide (num≤0)):=yD (by rw[←hb.out,HW.out]; rw[d1]; simp[HE.out])
    go_wp2_with (go_at_call 143; refine(xC text _ hx _ HN.out).mono ?_; rintro e w2 ⟨rfl,rfl⟩)
    go_ret;exact⟨xE HB.out.symm,HX.out⟩
   ·have d0:decide (num ≥ 0)=false:=yO h0;have d1:decide (0≤num)=false:=yO h0;have HB:Hid (b=false):=yD (by rw[←hb.out,HW.out]; rw[d1]; simp[HE.out])
    go_wp2_with (go_at_call 143; refine(xC text _ hx _ HN.out).mono ?_; rintro e w2 ⟨rfl,rfl⟩)
    go_ret;exact⟨xE HB.out.symm,HX.out⟩
  ·have e1:¬text.toList=[]:=by rw[HT.out]; exact he
   have e2:text.toList.isEmpty=false:=by simpa using e1
   have HE:Hid (text.data.toList.isEmpty=false):=yD (by simpa using he)
   have e3:(text.toList==[])=false:=by simpa using e1
   clear he;have HB:Hid (b=false):=yD (by rw[←hb.out,HW.out]; simp[HE.out])
   go_wp2_with (go_at_call 143; refine(xC text _ hx _ HN.out).mono ?_; rintro e w2 ⟨rfl,rfl⟩)
   go_ret;exact⟨xE HB.out.symm,HX.out⟩
theorem zKF (pos num:Int)(text:ByteArray)(kA:Option Addr)(kl kc:Nat)(w:World)(hx:text.size≤9000)(b:Bool)(hb:Hid (vL 10 num text.data.toList=b)) :
  Calls Tryz.prog 99 #[.agg #[.int .u8 10,.int .i64 pos,.string text,.int .i64 num,.slice kA kl kc]] w fun e w'=>e=.returned (.bool b)∧Ext w w':=by
 have HW:=yD (vN (kind:=10) (num:=num) (text:=text.data.toList) (named:=false) (most:=0) rfl rfl);have HX:Hid (Ext w (w.alloc (.cells #[.int .u8 10,.int .i64 pos,.string text,.int .i64 num,.slice kA kl kc] 100))):=yD (Ext.alloc _ _);have HT:Hid (text.toList=text.data.toList):=yD (ByteArray.toList_eq _);obtain⟨t1,HN⟩:∃t,Hid (xX text.data.toList=t):=⟨_,yD rfl⟩;rw[HN.out] at HW
 go_enter Tryz.func99,Tryz.ntmps99
 go_upto_region 11 with fail
 cases t1 with
 | true=>
  have HB:Hid (b=false):=yD (by rw[←hb.out,HW.out]; rfl)
  go_wp2_with (go_at_call 143; refine(xC text _ hx _ HN.out).mono ?_; rintro e w2 ⟨rfl,rfl⟩)
  go_ret;exact⟨xE HB.out.symm,HX.out⟩
 | false=>
  by_cases he:text.data.toList=[]
  ·have e1:text.toList=[]:=by rw[HT.out]; exact he
   have e2:text.toList.isEmpty=true:=by rw[e1]; rfl
   have HE:Hid (text.data.toList.isEmpty=true):=yD (by rw[he]; rfl)
   have e3:(text.toList==[])=true:=by rw[e1]; rfl
   clear he
   by_cases h0:0≤num
   ·have d0:decide (num ≥ 0)=true:=yP h0;have d1:decide (0≤num)=true:=yP h0;have HB:Hid (b=decide (num≤0)):=yD (by rw[←hb.out,HW.out]; rw[d1]; simp[HE.out])
    go_wp2_with (go_at_call 143; refine(xC text _ hx _ HN.out).mono ?_; rintro e w2 ⟨rfl,rfl⟩)
    go_ret;exact⟨xE HB.out.symm,HX.out⟩
   ·have d0:decide (num ≥ 0)=false:=yO h0;have d1:decide (0≤num)=false:=yO h0;have HB:Hid (b=false):=yD (by rw[←hb.out,HW.out]; rw[d1]; simp[HE.out])
    go_wp2_with (go_at_call 143; refine(xC text _ hx _ HN.out).mono ?_; rintro e w2 ⟨rfl,rfl⟩)
    go_ret;exact⟨xE HB.out.symm,HX.out⟩
  ·have e1:¬text.toList=[]:=by rw[HT.out]; exact he
   have e2:text.toList.isEmpty=false:=by simpa using e1
   have HE:Hid (text.data.toList.isEmpty=false):=yD (by simpa using he)
   have e3:(text.toList==[])=false:=by simpa using e1
   clear he;have HB:Hid (b=false):=yD (by rw[←hb.out,HW.out]; simp[HE.out])
   go_wp2_with (go_at_call 143; refine(xC text _ hx _ HN.out).mono ?_; rintro e w2 ⟨rfl,rfl⟩)
   go_ret;exact⟨xE HB.out.symm,HX.out⟩
theorem zJ1 (pos num:Int)(text:ByteArray)(kA:Option Addr)(kl kc:Nat)(w:World)(hx:text.size≤9000)(b:Bool)(hb:Hid (vL 11 num text.data.toList=b)) :
  Calls Tryz.prog 99 #[.agg #[.int .u8 11,.int .i64 pos,.string text,.int .i64 num,.slice kA kl kc]] w fun e w'=>e=.returned (.bool b)∧Ext w w':=by
 have HW:=yD (vN (kind:=11) (num:=num) (text:=text.data.toList) (named:=true) (most:=0) rfl rfl);have HX:Hid (Ext w (w.alloc (.cells #[.int .u8 11,.int .i64 pos,.string text,.int .i64 num,.slice kA kl kc] 100))):=yD (Ext.alloc _ _);have HT:Hid (text.toList=text.data.toList):=yD (ByteArray.toList_eq _);obtain⟨t1,HN⟩:∃t,Hid (xX text.data.toList=t):=⟨_,yD rfl⟩;rw[HN.out] at HW
 go_enter Tryz.func99,Tryz.ntmps99
 go_upto_region 11 with fail
 cases t1 with
 | false=>
  have HB:Hid (b=false):=yD (by rw[←hb.out,HW.out]; rfl)
  go_wp2_with (go_at_call 143; refine(xC text _ hx _ HN.out).mono ?_; rintro e w2 ⟨rfl,rfl⟩)
  go_ret;exact⟨xE HB.out.symm,HX.out⟩
 | true=>
  by_cases h0:0≤num
  ·have d0:decide (num ≥ 0)=true:=yP h0;have d1:decide (0≤num)=true:=yP h0;have HB:Hid (b=decide (num≤0)):=yD (by rw[←hb.out,HW.out]; rw[d1]; simp)
   go_wp2_with (go_at_call 143; refine(xC text _ hx _ HN.out).mono ?_; rintro e w2 ⟨rfl,rfl⟩)
   go_ret;exact⟨xE HB.out.symm,HX.out⟩
  ·have d0:decide (num ≥ 0)=false:=yO h0;have d1:decide (0≤num)=false:=yO h0;have HB:Hid (b=false):=yD (by rw[←hb.out,HW.out]; rw[d1]; simp)
   go_wp2_with (go_at_call 143; refine(xC text _ hx _ HN.out).mono ?_; rintro e w2 ⟨rfl,rfl⟩)
   go_ret;exact⟨xE HB.out.symm,HX.out⟩
theorem zKe (pos num:Int)(text:ByteArray)(kA:Option Addr)(kl kc:Nat)(w:World)(hx:text.size≤9000)(b:Bool)(hb:Hid (vL 12 num text.data.toList=b)) :
  Calls Tryz.prog 99 #[.agg #[.int .u8 12,.int .i64 pos,.string text,.int .i64 num,.slice kA kl kc]] w fun e w'=>e=.returned (.bool b)∧Ext w w':=by
 have HW:=yD (vN (kind:=12) (num:=num) (text:=text.data.toList) (named:=false) (most:=1) rfl rfl);have HX:Hid (Ext w (w.alloc (.cells #[.int .u8 12,.int .i64 pos,.string text,.int .i64 num,.slice kA kl kc] 100))):=yD (Ext.alloc _ _);have HT:Hid (text.toList=text.data.toList):=yD (ByteArray.toList_eq _);obtain⟨t1,HN⟩:∃t,Hid (xX text.data.toList=t):=⟨_,yD rfl⟩;rw[HN.out] at HW
 go_enter Tryz.func99,Tryz.ntmps99
 go_upto_region 11 with fail
 cases t1 with
 | true=>
  have HB:Hid (b=false):=yD (by rw[←hb.out,HW.out]; rfl)
  go_wp2_with (go_at_call 143; refine(xC text _ hx _ HN.out).mono ?_; rintro e w2 ⟨rfl,rfl⟩)
  go_ret;exact⟨xE HB.out.symm,HX.out⟩
 | false=>
  by_cases he:text.data.toList=[]
  ·have e1:text.toList=[]:=by rw[HT.out]; exact he
   have e2:text.toList.isEmpty=true:=by rw[e1]; rfl
   have HE:Hid (text.data.toList.isEmpty=true):=yD (by rw[he]; rfl)
   have e3:(text.toList==[])=true:=by rw[e1]; rfl
   clear he
   by_cases h0:0≤num
   ·have d0:decide (num ≥ 0)=true:=yP h0;have d1:decide (0≤num)=true:=yP h0;have HB:Hid (b=decide (num≤1)):=yD (by rw[←hb.out,HW.out]; rw[d1]; simp[HE.out])
    go_wp2_with (go_at_call 143; refine(xC text _ hx _ HN.out).mono ?_; rintro e w2 ⟨rfl,rfl⟩)
    go_ret;exact⟨xE HB.out.symm,HX.out⟩
   ·have d0:decide (num ≥ 0)=false:=yO h0;have d1:decide (0≤num)=false:=yO h0;have HB:Hid (b=false):=yD (by rw[←hb.out,HW.out]; rw[d1]; simp[HE.out])
    go_wp2_with (go_at_call 143; refine(xC text _ hx _ HN.out).mono ?_; rintro e w2 ⟨rfl,rfl⟩)
    go_ret;exact⟨xE HB.out.symm,HX.out⟩
  ·have e1:¬text.toList=[]:=by rw[HT.out]; exact he
   have e2:text.toList.isEmpty=false:=by simpa using e1
   have HE:Hid (text.data.toList.isEmpty=false):=yD (by simpa using he)
   have e3:(text.toList==[])=false:=by simpa using e1
   clear he;have HB:Hid (b=false):=yD (by rw[←hb.out,HW.out]; simp[HE.out])
   go_wp2_with (go_at_call 143; refine(xC text _ hx _ HN.out).mono ?_; rintro e w2 ⟨rfl,rfl⟩)
   go_ret;exact⟨xE HB.out.symm,HX.out⟩
theorem zKg (pos num:Int)(text:ByteArray)(kA:Option Addr)(kl kc:Nat)(w:World)(hx:text.size≤9000)(b:Bool)(hb:Hid (vL 13 num text.data.toList=b)) :
  Calls Tryz.prog 99 #[.agg #[.int .u8 13,.int .i64 pos,.string text,.int .i64 num,.slice kA kl kc]] w fun e w'=>e=.returned (.bool b)∧Ext w w':=by
 have HW:=yD (vN (kind:=13) (num:=num) (text:=text.data.toList) (named:=false) (most:=0) rfl rfl);have HX:Hid (Ext w (w.alloc (.cells #[.int .u8 13,.int .i64 pos,.string text,.int .i64 num,.slice kA kl kc] 100))):=yD (Ext.alloc _ _);have HT:Hid (text.toList=text.data.toList):=yD (ByteArray.toList_eq _);obtain⟨t1,HN⟩:∃t,Hid (xX text.data.toList=t):=⟨_,yD rfl⟩;rw[HN.out] at HW
 go_enter Tryz.func99,Tryz.ntmps99
 go_upto_region 11 with fail
 cases t1 with
 | true=>
  have HB:Hid (b=false):=yD (by rw[←hb.out,HW.out]; rfl)
  go_wp2_with (go_at_call 143; refine(xC text _ hx _ HN.out).mono ?_; rintro e w2 ⟨rfl,rfl⟩)
  go_ret;exact⟨xE HB.out.symm,HX.out⟩
 | false=>
  by_cases he:text.data.toList=[]
  ·have e1:text.toList=[]:=by rw[HT.out]; exact he
   have e2:text.toList.isEmpty=true:=by rw[e1]; rfl
   have HE:Hid (text.data.toList.isEmpty=true):=yD (by rw[he]; rfl)
   have e3:(text.toList==[])=true:=by rw[e1]; rfl
   clear he
   by_cases h0:0≤num
   ·have d0:decide (num ≥ 0)=true:=yP h0;have d1:decide (0≤num)=true:=yP h0;have HB:Hid (b=decide (num≤0)):=yD (by rw[←hb.out,HW.out]; rw[d1]; simp[HE.out])
    go_wp2_with (go_at_call 143; refine(xC text _ hx _ HN.out).mono ?_; rintro e w2 ⟨rfl,rfl⟩)
    go_ret;exact⟨xE HB.out.symm,HX.out⟩
   ·have d0:decide (num ≥ 0)=false:=yO h0;have d1:decide (0≤num)=false:=yO h0;have HB:Hid (b=false):=yD (by rw[←hb.out,HW.out]; rw[d1]; simp[HE.out])
    go_wp2_with (go_at_call 143; refine(xC text _ hx _ HN.out).mono ?_; rintro e w2 ⟨rfl,rfl⟩)
    go_ret;exact⟨xE HB.out.symm,HX.out⟩
  ·have e1:¬text.toList=[]:=by rw[HT.out]; exact he
   have e2:text.toList.isEmpty=false:=by simpa using e1
   have HE:Hid (text.data.toList.isEmpty=false):=yD (by simpa using he)
   have e3:(text.toList==[])=false:=by simpa using e1
   clear he;have HB:Hid (b=false):=yD (by rw[←hb.out,HW.out]; simp[HE.out])
   go_wp2_with (go_at_call 143; refine(xC text _ hx _ HN.out).mono ?_; rintro e w2 ⟨rfl,rfl⟩)
   go_ret;exact⟨xE HB.out.symm,HX.out⟩
theorem zKB (pos num:Int)(text:ByteArray)(kA:Option Addr)(kl kc:Nat)(w:World)(hx:text.size≤9000)(b:Bool)(hb:Hid (vL 14 num text.data.toList=b)) :
  Calls Tryz.prog 99 #[.agg #[.int .u8 14,.int .i64 pos,.string text,.int .i64 num,.slice kA kl kc]] w fun e w'=>e=.returned (.bool b)∧Ext w w':=by
 have HW:=yD (vN (kind:=14) (num:=num) (text:=text.data.toList) (named:=false) (most:=1) rfl rfl);have HX:Hid (Ext w (w.alloc (.cells #[.int .u8 14,.int .i64 pos,.string text,.int .i64 num,.slice kA kl kc] 100))):=yD (Ext.alloc _ _);have HT:Hid (text.toList=text.data.toList):=yD (ByteArray.toList_eq _);obtain⟨t1,HN⟩:∃t,Hid (xX text.data.toList=t):=⟨_,yD rfl⟩;rw[HN.out] at HW
 go_enter Tryz.func99,Tryz.ntmps99
 go_upto_region 11 with fail
 cases t1 with
 | true=>
  have HB:Hid (b=false):=yD (by rw[←hb.out,HW.out]; rfl)
  go_wp2_with (go_at_call 143; refine(xC text _ hx _ HN.out).mono ?_; rintro e w2 ⟨rfl,rfl⟩)
  go_ret;exact⟨xE HB.out.symm,HX.out⟩
 | false=>
  by_cases he:text.data.toList=[]
  ·have e1:text.toList=[]:=by rw[HT.out]; exact he
   have e2:text.toList.isEmpty=true:=by rw[e1]; rfl
   have HE:Hid (text.data.toList.isEmpty=true):=yD (by rw[he]; rfl)
   have e3:(text.toList==[])=true:=by rw[e1]; rfl
   clear he
   by_cases h0:0≤num
   ·have d0:decide (num ≥ 0)=true:=yP h0;have d1:decide (0≤num)=true:=yP h0;have HB:Hid (b=decide (num≤1)):=yD (by rw[←hb.out,HW.out]; rw[d1]; simp[HE.out])
    go_wp2_with (go_at_call 143; refine(xC text _ hx _ HN.out).mono ?_; rintro e w2 ⟨rfl,rfl⟩)
    go_ret;exact⟨xE HB.out.symm,HX.out⟩
   ·have d0:decide (num ≥ 0)=false:=yO h0;have d1:decide (0≤num)=false:=yO h0;have HB:Hid (b=false):=yD (by rw[←hb.out,HW.out]; rw[d1]; simp[HE.out])
    go_wp2_with (go_at_call 143; refine(xC text _ hx _ HN.out).mono ?_; rintro e w2 ⟨rfl,rfl⟩)
    go_ret;exact⟨xE HB.out.symm,HX.out⟩
  ·have e1:¬text.toList=[]:=by rw[HT.out]; exact he
   have e2:text.toList.isEmpty=false:=by simpa using e1
   have HE:Hid (text.data.toList.isEmpty=false):=yD (by simpa using he)
   have e3:(text.toList==[])=false:=by simpa using e1
   clear he;have HB:Hid (b=false):=yD (by rw[←hb.out,HW.out]; simp[HE.out])
   go_wp2_with (go_at_call 143; refine(xC text _ hx _ HN.out).mono ?_; rintro e w2 ⟨rfl,rfl⟩)
   go_ret;exact⟨xE HB.out.symm,HX.out⟩
theorem zKq (pos num:Int)(text:ByteArray)(kA:Option Addr)(kl kc:Nat)(w:World)(hx:text.size≤9000)(b:Bool)(hb:Hid (vL 15 num text.data.toList=b)) :
  Calls Tryz.prog 99 #[.agg #[.int .u8 15,.int .i64 pos,.string text,.int .i64 num,.slice kA kl kc]] w fun e w'=>e=.returned (.bool b)∧Ext w w':=by
 have HW:=yD (vN (kind:=15) (num:=num) (text:=text.data.toList) (named:=true) (most:=0) rfl rfl);have HX:Hid (Ext w (w.alloc (.cells #[.int .u8 15,.int .i64 pos,.string text,.int .i64 num,.slice kA kl kc] 100))):=yD (Ext.alloc _ _);have HT:Hid (text.toList=text.data.toList):=yD (ByteArray.toList_eq _);obtain⟨t1,HN⟩:∃t,Hid (xX text.data.toList=t):=⟨_,yD rfl⟩;rw[HN.out] at HW
 go_enter Tryz.func99,Tryz.ntmps99
 go_upto_region 11 with fail
 cases t1 with
 | false=>
  have HB:Hid (b=false):=yD (by rw[←hb.out,HW.out]; rfl)
  go_wp2_with (go_at_call 143; refine(xC text _ hx _ HN.out).mono ?_; rintro e w2 ⟨rfl,rfl⟩)
  go_ret;exact⟨xE HB.out.symm,HX.out⟩
 | true=>
  by_cases h0:0≤num
  ·have d0:decide (num ≥ 0)=true:=yP h0;have d1:decide (0≤num)=true:=yP h0;have HB:Hid (b=decide (num≤0)):=yD (by rw[←hb.out,HW.out]; rw[d1]; simp)
   go_wp2_with (go_at_call 143; refine(xC text _ hx _ HN.out).mono ?_; rintro e w2 ⟨rfl,rfl⟩)
   go_ret;exact⟨xE HB.out.symm,HX.out⟩
  ·have d0:decide (num ≥ 0)=false:=yO h0;have d1:decide (0≤num)=false:=yO h0;have HB:Hid (b=false):=yD (by rw[←hb.out,HW.out]; rw[d1]; simp)
   go_wp2_with (go_at_call 143; refine(xC text _ hx _ HN.out).mono ?_; rintro e w2 ⟨rfl,rfl⟩)
   go_ret;exact⟨xE HB.out.symm,HX.out⟩
theorem zJU (pos num:Int)(text:ByteArray)(kA:Option Addr)(kl kc:Nat)(w:World)(hx:text.size≤9000)(b:Bool)(hb:Hid (vL 16 num text.data.toList=b)) :
  Calls Tryz.prog 99 #[.agg #[.int .u8 16,.int .i64 pos,.string text,.int .i64 num,.slice kA kl kc]] w fun e w'=>e=.returned (.bool b)∧Ext w w':=by
 have HW:=yD (vN (kind:=16) (num:=num) (text:=text.data.toList) (named:=true) (most:=0) rfl rfl);have HX:Hid (Ext w (w.alloc (.cells #[.int .u8 16,.int .i64 pos,.string text,.int .i64 num,.slice kA kl kc] 100))):=yD (Ext.alloc _ _);have HT:Hid (text.toList=text.data.toList):=yD (ByteArray.toList_eq _);obtain⟨t1,HN⟩:∃t,Hid (xX text.data.toList=t):=⟨_,yD rfl⟩;rw[HN.out] at HW
 go_enter Tryz.func99,Tryz.ntmps99
 go_upto_region 11 with fail
 cases t1 with
 | false=>
  have HB:Hid (b=false):=yD (by rw[←hb.out,HW.out]; rfl)
  go_wp2_with (go_at_call 143; refine(xC text _ hx _ HN.out).mono ?_; rintro e w2 ⟨rfl,rfl⟩)
  go_ret;exact⟨xE HB.out.symm,HX.out⟩
 | true=>
  by_cases h0:0≤num
  ·have d0:decide (num ≥ 0)=true:=yP h0;have d1:decide (0≤num)=true:=yP h0;have HB:Hid (b=decide (num≤0)):=yD (by rw[←hb.out,HW.out]; rw[d1]; simp)
   go_wp2_with (go_at_call 143; refine(xC text _ hx _ HN.out).mono ?_; rintro e w2 ⟨rfl,rfl⟩)
   go_ret;exact⟨xE HB.out.symm,HX.out⟩
  ·have d0:decide (num ≥ 0)=false:=yO h0;have d1:decide (0≤num)=false:=yO h0;have HB:Hid (b=false):=yD (by rw[←hb.out,HW.out]; rw[d1]; simp)
   go_wp2_with (go_at_call 143; refine(xC text _ hx _ HN.out).mono ?_; rintro e w2 ⟨rfl,rfl⟩)
   go_ret;exact⟨xE HB.out.symm,HX.out⟩
theorem zJX (pos num:Int)(text:ByteArray)(kA:Option Addr)(kl kc:Nat)(w:World)(hx:text.size≤9000)(b:Bool)(hb:Hid (vL 17 num text.data.toList=b)) :
  Calls Tryz.prog 99 #[.agg #[.int .u8 17,.int .i64 pos,.string text,.int .i64 num,.slice kA kl kc]] w fun e w'=>e=.returned (.bool b)∧Ext w w':=by
 have HW:=yD (vN (kind:=17) (num:=num) (text:=text.data.toList) (named:=false) (most:=0) rfl rfl);have HX:Hid (Ext w (w.alloc (.cells #[.int .u8 17,.int .i64 pos,.string text,.int .i64 num,.slice kA kl kc] 100))):=yD (Ext.alloc _ _);have HT:Hid (text.toList=text.data.toList):=yD (ByteArray.toList_eq _);obtain⟨t1,HN⟩:∃t,Hid (xX text.data.toList=t):=⟨_,yD rfl⟩;rw[HN.out] at HW
 go_enter Tryz.func99,Tryz.ntmps99
 go_upto_region 11 with fail
 cases t1 with
 | true=>
  have HB:Hid (b=false):=yD (by rw[←hb.out,HW.out]; rfl)
  go_wp2_with (go_at_call 143; refine(xC text _ hx _ HN.out).mono ?_; rintro e w2 ⟨rfl,rfl⟩)
  go_ret;exact⟨xE HB.out.symm,HX.out⟩
 | false=>
  by_cases he:text.data.toList=[]
  ·have e1:text.toList=[]:=by rw[HT.out]; exact he
   have e2:text.toList.isEmpty=true:=by rw[e1]; rfl
   have HE:Hid (text.data.toList.isEmpty=true):=yD (by rw[he]; rfl)
   have e3:(text.toList==[])=true:=by rw[e1]; rfl
   clear he
   by_cases h0:0≤num
   ·have d0:decide (num ≥ 0)=true:=yP h0;have d1:decide (0≤num)=true:=yP h0;have HB:Hid (b=decide (num≤0)):=yD (by rw[←hb.out,HW.out]; rw[d1]; simp[HE.out])
    go_wp2_with (go_at_call 143; refine(xC text _ hx _ HN.out).mono ?_; rintro e w2 ⟨rfl,rfl⟩)
    go_ret;exact⟨xE HB.out.symm,HX.out⟩
   ·have d0:decide (num ≥ 0)=false:=yO h0;have d1:decide (0≤num)=false:=yO h0;have HB:Hid (b=false):=yD (by rw[←hb.out,HW.out]; rw[d1]; simp[HE.out])
    go_wp2_with (go_at_call 143; refine(xC text _ hx _ HN.out).mono ?_; rintro e w2 ⟨rfl,rfl⟩)
    go_ret;exact⟨xE HB.out.symm,HX.out⟩
  ·have e1:¬text.toList=[]:=by rw[HT.out]; exact he
   have e2:text.toList.isEmpty=false:=by simpa using e1
   have HE:Hid (text.data.toList.isEmpty=false):=yD (by simpa using he)
   have e3:(text.toList==[])=false:=by simpa using e1
   clear he;have HB:Hid (b=false):=yD (by rw[←hb.out,HW.out]; simp[HE.out])
   go_wp2_with (go_at_call 143; refine(xC text _ hx _ HN.out).mono ?_; rintro e w2 ⟨rfl,rfl⟩)
   go_ret;exact⟨xE HB.out.symm,HX.out⟩
theorem zKy (pos num:Int)(text:ByteArray)(kA:Option Addr)(kl kc:Nat)(w:World)(hx:text.size≤9000)(b:Bool)(hb:Hid (vL 18 num text.data.toList=b)) :
  Calls Tryz.prog 99 #[.agg #[.int .u8 18,.int .i64 pos,.string text,.int .i64 num,.slice kA kl kc]] w fun e w'=>e=.returned (.bool b)∧Ext w w':=by
 have HW:=yD (vN (kind:=18) (num:=num) (text:=text.data.toList) (named:=false) (most:=0) rfl rfl);have HX:Hid (Ext w (w.alloc (.cells #[.int .u8 18,.int .i64 pos,.string text,.int .i64 num,.slice kA kl kc] 100))):=yD (Ext.alloc _ _);have HT:Hid (text.toList=text.data.toList):=yD (ByteArray.toList_eq _);obtain⟨t1,HN⟩:∃t,Hid (xX text.data.toList=t):=⟨_,yD rfl⟩;rw[HN.out] at HW
 go_enter Tryz.func99,Tryz.ntmps99
 go_upto_region 11 with fail
 cases t1 with
 | true=>
  have HB:Hid (b=false):=yD (by rw[←hb.out,HW.out]; rfl)
  go_wp2_with (go_at_call 143; refine(xC text _ hx _ HN.out).mono ?_; rintro e w2 ⟨rfl,rfl⟩)
  go_ret;exact⟨xE HB.out.symm,HX.out⟩
 | false=>
  by_cases he:text.data.toList=[]
  ·have e1:text.toList=[]:=by rw[HT.out]; exact he
   have e2:text.toList.isEmpty=true:=by rw[e1]; rfl
   have HE:Hid (text.data.toList.isEmpty=true):=yD (by rw[he]; rfl)
   have e3:(text.toList==[])=true:=by rw[e1]; rfl
   clear he
   by_cases h0:0≤num
   ·have d0:decide (num ≥ 0)=true:=yP h0;have d1:decide (0≤num)=true:=yP h0;have HB:Hid (b=decide (num≤0)):=yD (by rw[←hb.out,HW.out]; rw[d1]; simp[HE.out])
    go_wp2_with (go_at_call 143; refine(xC text _ hx _ HN.out).mono ?_; rintro e w2 ⟨rfl,rfl⟩)
    go_ret;exact⟨xE HB.out.symm,HX.out⟩
   ·have d0:decide (num ≥ 0)=false:=yO h0;have d1:decide (0≤num)=false:=yO h0;have HB:Hid (b=false):=yD (by rw[←hb.out,HW.out]; rw[d1]; simp[HE.out])
    go_wp2_with (go_at_call 143; refine(xC text _ hx _ HN.out).mono ?_; rintro e w2 ⟨rfl,rfl⟩)
    go_ret;exact⟨xE HB.out.symm,HX.out⟩
  ·have e1:¬text.toList=[]:=by rw[HT.out]; exact he
   have e2:text.toList.isEmpty=false:=by simpa using e1
   have HE:Hid (text.data.toList.isEmpty=false):=yD (by simpa using he)
   have e3:(text.toList==[])=false:=by simpa using e1
   clear he;have HB:Hid (b=false):=yD (by rw[←hb.out,HW.out]; simp[HE.out])
   go_wp2_with (go_at_call 143; refine(xC text _ hx _ HN.out).mono ?_; rintro e w2 ⟨rfl,rfl⟩)
   go_ret;exact⟨xE HB.out.symm,HX.out⟩
theorem zKM (pos num:Int)(text:ByteArray)(kA:Option Addr)(kl kc:Nat)(w:World)(hx:text.size≤9000)(b:Bool)(hb:Hid (vL 19 num text.data.toList=b)) :
  Calls Tryz.prog 99 #[.agg #[.int .u8 19,.int .i64 pos,.string text,.int .i64 num,.slice kA kl kc]] w fun e w'=>e=.returned (.bool b)∧Ext w w':=by
 have HW:=yD (vN (kind:=19) (num:=num) (text:=text.data.toList) (named:=false) (most:=0) rfl rfl);have HX:Hid (Ext w (w.alloc (.cells #[.int .u8 19,.int .i64 pos,.string text,.int .i64 num,.slice kA kl kc] 100))):=yD (Ext.alloc _ _);have HT:Hid (text.toList=text.data.toList):=yD (ByteArray.toList_eq _);obtain⟨t1,HN⟩:∃t,Hid (xX text.data.toList=t):=⟨_,yD rfl⟩;rw[HN.out] at HW
 go_enter Tryz.func99,Tryz.ntmps99
 go_upto_region 11 with fail
 cases t1 with
 | true=>
  have HB:Hid (b=false):=yD (by rw[←hb.out,HW.out]; rfl)
  go_wp2_with (go_at_call 143; refine(xC text _ hx _ HN.out).mono ?_; rintro e w2 ⟨rfl,rfl⟩)
  go_ret;exact⟨xE HB.out.symm,HX.out⟩
 | false=>
  by_cases he:text.data.toList=[]
  ·have e1:text.toList=[]:=by rw[HT.out]; exact he
   have e2:text.toList.isEmpty=true:=by rw[e1]; rfl
   have HE:Hid (text.data.toList.isEmpty=true):=yD (by rw[he]; rfl)
   have e3:(text.toList==[])=true:=by rw[e1]; rfl
   clear he
   by_cases h0:0≤num
   ·have d0:decide (num ≥ 0)=true:=yP h0;have d1:decide (0≤num)=true:=yP h0;have HB:Hid (b=decide (num≤0)):=yD (by rw[←hb.out,HW.out]; rw[d1]; simp[HE.out])
    go_wp2_with (go_at_call 143; refine(xC text _ hx _ HN.out).mono ?_; rintro e w2 ⟨rfl,rfl⟩)
    go_ret;exact⟨xE HB.out.symm,HX.out⟩
   ·have d0:decide (num ≥ 0)=false:=yO h0;have d1:decide (0≤num)=false:=yO h0;have HB:Hid (b=false):=yD (by rw[←hb.out,HW.out]; rw[d1]; simp[HE.out])
    go_wp2_with (go_at_call 143; refine(xC text _ hx _ HN.out).mono ?_; rintro e w2 ⟨rfl,rfl⟩)
    go_ret;exact⟨xE HB.out.symm,HX.out⟩
  ·have e1:¬text.toList=[]:=by rw[HT.out]; exact he
   have e2:text.toList.isEmpty=false:=by simpa using e1
   have HE:Hid (text.data.toList.isEmpty=false):=yD (by simpa using he)
   have e3:(text.toList==[])=false:=by simpa using e1
   clear he;have HB:Hid (b=false):=yD (by rw[←hb.out,HW.out]; simp[HE.out])
   go_wp2_with (go_at_call 143; refine(xC text _ hx _ HN.out).mono ?_; rintro e w2 ⟨rfl,rfl⟩)
   go_ret;exact⟨xE HB.out.symm,HX.out⟩
theorem zKu (pos num:Int)(text:ByteArray)(kA:Option Addr)(kl kc:Nat)(w:World)(hx:text.size≤9000)(b:Bool)(hb:Hid (vL 20 num text.data.toList=b)) :
  Calls Tryz.prog 99 #[.agg #[.int .u8 20,.int .i64 pos,.string text,.int .i64 num,.slice kA kl kc]] w fun e w'=>e=.returned (.bool b)∧Ext w w':=by
 have HW:=yD (vN (kind:=20) (num:=num) (text:=text.data.toList) (named:=true) (most:=0) rfl rfl);have HX:Hid (Ext w (w.alloc (.cells #[.int .u8 20,.int .i64 pos,.string text,.int .i64 num,.slice kA kl kc] 100))):=yD (Ext.alloc _ _);have HT:Hid (text.toList=text.data.toList):=yD (ByteArray.toList_eq _);obtain⟨t1,HN⟩:∃t,Hid (xX text.data.toList=t):=⟨_,yD rfl⟩;rw[HN.out] at HW
 go_enter Tryz.func99,Tryz.ntmps99
 go_upto_region 11 with fail
 cases t1 with
 | false=>
  have HB:Hid (b=false):=yD (by rw[←hb.out,HW.out]; rfl)
  go_wp2_with (go_at_call 143; refine(xC text _ hx _ HN.out).mono ?_; rintro e w2 ⟨rfl,rfl⟩)
  go_ret;exact⟨xE HB.out.symm,HX.out⟩
 | true=>
  by_cases h0:0≤num
  ·have d0:decide (num ≥ 0)=true:=yP h0;have d1:decide (0≤num)=true:=yP h0;have HB:Hid (b=decide (num≤0)):=yD (by rw[←hb.out,HW.out]; rw[d1]; simp)
   go_wp2_with (go_at_call 143; refine(xC text _ hx _ HN.out).mono ?_; rintro e w2 ⟨rfl,rfl⟩)
   go_ret;exact⟨xE HB.out.symm,HX.out⟩
  ·have d0:decide (num ≥ 0)=false:=yO h0;have d1:decide (0≤num)=false:=yO h0;have HB:Hid (b=false):=yD (by rw[←hb.out,HW.out]; rw[d1]; simp)
   go_wp2_with (go_at_call 143; refine(xC text _ hx _ HN.out).mono ?_; rintro e w2 ⟨rfl,rfl⟩)
   go_ret;exact⟨xE HB.out.symm,HX.out⟩
theorem zKE (pos num:Int)(text:ByteArray)(kA:Option Addr)(kl kc:Nat)(w:World)(hx:text.size≤9000)(b:Bool)(hb:Hid (vL 21 num text.data.toList=b)) :
  Calls Tryz.prog 99 #[.agg #[.int .u8 21,.int .i64 pos,.string text,.int .i64 num,.slice kA kl kc]] w fun e w'=>e=.returned (.bool b)∧Ext w w':=by
 have HW:=yD (vN (kind:=21) (num:=num) (text:=text.data.toList) (named:=false) (most:=2147483647) rfl rfl);have HX:Hid (Ext w (w.alloc (.cells #[.int .u8 21,.int .i64 pos,.string text,.int .i64 num,.slice kA kl kc] 100))):=yD (Ext.alloc _ _);have HT:Hid (text.toList=text.data.toList):=yD (ByteArray.toList_eq _);obtain⟨t1,HN⟩:∃t,Hid (xX text.data.toList=t):=⟨_,yD rfl⟩;rw[HN.out] at HW
 go_enter Tryz.func99,Tryz.ntmps99
 go_upto_region 11 with fail
 cases t1 with
 | true=>
  have HB:Hid (b=false):=yD (by rw[←hb.out,HW.out]; rfl)
  go_wp2_with (go_at_call 143; refine(xC text _ hx _ HN.out).mono ?_; rintro e w2 ⟨rfl,rfl⟩)
  go_ret;exact⟨xE HB.out.symm,HX.out⟩
 | false=>
  by_cases he:text.data.toList=[]
  ·have e1:text.toList=[]:=by rw[HT.out]; exact he
   have e2:text.toList.isEmpty=true:=by rw[e1]; rfl
   have HE:Hid (text.data.toList.isEmpty=true):=yD (by rw[he]; rfl)
   have e3:(text.toList==[])=true:=by rw[e1]; rfl
   clear he
   by_cases h0:0≤num
   ·have d0:decide (num ≥ 0)=true:=yP h0;have d1:decide (0≤num)=true:=yP h0;have HB:Hid (b=decide (num≤2147483647)):=yD (by rw[←hb.out,HW.out]; rw[d1]; simp[HE.out])
    go_wp2_with (go_at_call 143; refine(xC text _ hx _ HN.out).mono ?_; rintro e w2 ⟨rfl,rfl⟩)
    go_ret;exact⟨xE HB.out.symm,HX.out⟩
   ·have d0:decide (num ≥ 0)=false:=yO h0;have d1:decide (0≤num)=false:=yO h0;have HB:Hid (b=false):=yD (by rw[←hb.out,HW.out]; rw[d1]; simp[HE.out])
    go_wp2_with (go_at_call 143; refine(xC text _ hx _ HN.out).mono ?_; rintro e w2 ⟨rfl,rfl⟩)
    go_ret;exact⟨xE HB.out.symm,HX.out⟩
  ·have e1:¬text.toList=[]:=by rw[HT.out]; exact he
   have e2:text.toList.isEmpty=false:=by simpa using e1
   have HE:Hid (text.data.toList.isEmpty=false):=yD (by simpa using he)
   have e3:(text.toList==[])=false:=by simpa using e1
   clear he;have HB:Hid (b=false):=yD (by rw[←hb.out,HW.out]; simp[HE.out])
   go_wp2_with (go_at_call 143; refine(xC text _ hx _ HN.out).mono ?_; rintro e w2 ⟨rfl,rfl⟩)
   go_ret;exact⟨xE HB.out.symm,HX.out⟩
theorem zK1 (pos num:Int)(text:ByteArray)(kA:Option Addr)(kl kc:Nat)(w:World)(hx:text.size≤9000)(b:Bool)(hb:Hid (vL 22 num text.data.toList=b)) :
  Calls Tryz.prog 99 #[.agg #[.int .u8 22,.int .i64 pos,.string text,.int .i64 num,.slice kA kl kc]] w fun e w'=>e=.returned (.bool b)∧Ext w w':=by
 have HW:=yD (vN (kind:=22) (num:=num) (text:=text.data.toList) (named:=true) (most:=0) rfl rfl);have HX:Hid (Ext w (w.alloc (.cells #[.int .u8 22,.int .i64 pos,.string text,.int .i64 num,.slice kA kl kc] 100))):=yD (Ext.alloc _ _);have HT:Hid (text.toList=text.data.toList):=yD (ByteArray.toList_eq _);obtain⟨t1,HN⟩:∃t,Hid (xX text.data.toList=t):=⟨_,yD rfl⟩;rw[HN.out] at HW
 go_enter Tryz.func99,Tryz.ntmps99
 go_upto_region 11 with fail
 cases t1 with
 | false=>
  have HB:Hid (b=false):=yD (by rw[←hb.out,HW.out]; rfl)
  go_wp2_with (go_at_call 143; refine(xC text _ hx _ HN.out).mono ?_; rintro e w2 ⟨rfl,rfl⟩)
  go_ret;exact⟨xE HB.out.symm,HX.out⟩
 | true=>
  by_cases h0:0≤num
  ·have d0:decide (num ≥ 0)=true:=yP h0;have d1:decide (0≤num)=true:=yP h0;have HB:Hid (b=decide (num≤0)):=yD (by rw[←hb.out,HW.out]; rw[d1]; simp)
   go_wp2_with (go_at_call 143; refine(xC text _ hx _ HN.out).mono ?_; rintro e w2 ⟨rfl,rfl⟩)
   go_ret;exact⟨xE HB.out.symm,HX.out⟩
  ·have d0:decide (num ≥ 0)=false:=yO h0;have d1:decide (0≤num)=false:=yO h0;have HB:Hid (b=false):=yD (by rw[←hb.out,HW.out]; rw[d1]; simp)
   go_wp2_with (go_at_call 143; refine(xC text _ hx _ HN.out).mono ?_; rintro e w2 ⟨rfl,rfl⟩)
   go_ret;exact⟨xE HB.out.symm,HX.out⟩
theorem zJ8 (pos num:Int)(text:ByteArray)(kA:Option Addr)(kl kc:Nat)(w:World)(hx:text.size≤9000)(b:Bool)(hb:Hid (vL 23 num text.data.toList=b)) :
  Calls Tryz.prog 99 #[.agg #[.int .u8 23,.int .i64 pos,.string text,.int .i64 num,.slice kA kl kc]] w fun e w'=>e=.returned (.bool b)∧Ext w w':=by
 have HW:=yD (vN (kind:=23) (num:=num) (text:=text.data.toList) (named:=false) (most:=0) rfl rfl);have HX:Hid (Ext w (w.alloc (.cells #[.int .u8 23,.int .i64 pos,.string text,.int .i64 num,.slice kA kl kc] 100))):=yD (Ext.alloc _ _);have HT:Hid (text.toList=text.data.toList):=yD (ByteArray.toList_eq _);obtain⟨t1,HN⟩:∃t,Hid (xX text.data.toList=t):=⟨_,yD rfl⟩;rw[HN.out] at HW
 go_enter Tryz.func99,Tryz.ntmps99
 go_upto_region 11 with fail
 cases t1 with
 | true=>
  have HB:Hid (b=false):=yD (by rw[←hb.out,HW.out]; rfl)
  go_wp2_with (go_at_call 143; refine(xC text _ hx _ HN.out).mono ?_; rintro e w2 ⟨rfl,rfl⟩)
  go_ret;exact⟨xE HB.out.symm,HX.out⟩
 | false=>
  by_cases he:text.data.toList=[]
  ·have e1:text.toList=[]:=by rw[HT.out]; exact he
   have e2:text.toList.isEmpty=true:=by rw[e1]; rfl
   have HE:Hid (text.data.toList.isEmpty=true):=yD (by rw[he]; rfl)
   have e3:(text.toList==[])=true:=by rw[e1]; rfl
   clear he
   by_cases h0:0≤num
   ·have d0:decide (num ≥ 0)=true:=yP h0;have d1:decide (0≤num)=true:=yP h0;have HB:Hid (b=decide (num≤0)):=yD (by rw[←hb.out,HW.out]; rw[d1]; simp[HE.out])
    go_wp2_with (go_at_call 143; refine(xC text _ hx _ HN.out).mono ?_; rintro e w2 ⟨rfl,rfl⟩)
    go_ret;exact⟨xE HB.out.symm,HX.out⟩
   ·have d0:decide (num ≥ 0)=false:=yO h0;have d1:decide (0≤num)=false:=yO h0;have HB:Hid (b=false):=yD (by rw[←hb.out,HW.out]; rw[d1]; simp[HE.out])
    go_wp2_with (go_at_call 143; refine(xC text _ hx _ HN.out).mono ?_; rintro e w2 ⟨rfl,rfl⟩)
    go_ret;exact⟨xE HB.out.symm,HX.out⟩
  ·have e1:¬text.toList=[]:=by rw[HT.out]; exact he
   have e2:text.toList.isEmpty=false:=by simpa using e1
   have HE:Hid (text.data.toList.isEmpty=false):=yD (by simpa using he)
   have e3:(text.toList==[])=false:=by simpa using e1
   clear he;have HB:Hid (b=false):=yD (by rw[←hb.out,HW.out]; simp[HE.out])
   go_wp2_with (go_at_call 143; refine(xC text _ hx _ HN.out).mono ?_; rintro e w2 ⟨rfl,rfl⟩)
   go_ret;exact⟨xE HB.out.symm,HX.out⟩
theorem zK2 (pos num:Int)(text:ByteArray)(kA:Option Addr)(kl kc:Nat)(w:World)(hx:text.size≤9000)(b:Bool)(hb:Hid (vL 24 num text.data.toList=b)) :
  Calls Tryz.prog 99 #[.agg #[.int .u8 24,.int .i64 pos,.string text,.int .i64 num,.slice kA kl kc]] w fun e w'=>e=.returned (.bool b)∧Ext w w':=by
 have HW:=yD (vN (kind:=24) (num:=num) (text:=text.data.toList) (named:=false) (most:=0) rfl rfl);have HX:Hid (Ext w (w.alloc (.cells #[.int .u8 24,.int .i64 pos,.string text,.int .i64 num,.slice kA kl kc] 100))):=yD (Ext.alloc _ _);have HT:Hid (text.toList=text.data.toList):=yD (ByteArray.toList_eq _);obtain⟨t1,HN⟩:∃t,Hid (xX text.data.toList=t):=⟨_,yD rfl⟩;rw[HN.out] at HW
 go_enter Tryz.func99,Tryz.ntmps99
 go_upto_region 11 with fail
 cases t1 with
 | true=>
  have HB:Hid (b=false):=yD (by rw[←hb.out,HW.out]; rfl)
  go_wp2_with (go_at_call 143; refine(xC text _ hx _ HN.out).mono ?_; rintro e w2 ⟨rfl,rfl⟩)
  go_ret;exact⟨xE HB.out.symm,HX.out⟩
 | false=>
  by_cases he:text.data.toList=[]
  ·have e1:text.toList=[]:=by rw[HT.out]; exact he
   have e2:text.toList.isEmpty=true:=by rw[e1]; rfl
   have HE:Hid (text.data.toList.isEmpty=true):=yD (by rw[he]; rfl)
   have e3:(text.toList==[])=true:=by rw[e1]; rfl
   clear he
   by_cases h0:0≤num
   ·have d0:decide (num ≥ 0)=true:=yP h0;have d1:decide (0≤num)=true:=yP h0;have HB:Hid (b=decide (num≤0)):=yD (by rw[←hb.out,HW.out]; rw[d1]; simp[HE.out])
    go_wp2_with (go_at_call 143; refine(xC text _ hx _ HN.out).mono ?_; rintro e w2 ⟨rfl,rfl⟩)
    go_ret;exact⟨xE HB.out.symm,HX.out⟩
   ·have d0:decide (num ≥ 0)=false:=yO h0;have d1:decide (0≤num)=false:=yO h0;have HB:Hid (b=false):=yD (by rw[←hb.out,HW.out]; rw[d1]; simp[HE.out])
    go_wp2_with (go_at_call 143; refine(xC text _ hx _ HN.out).mono ?_; rintro e w2 ⟨rfl,rfl⟩)
    go_ret;exact⟨xE HB.out.symm,HX.out⟩
  ·have e1:¬text.toList=[]:=by rw[HT.out]; exact he
   have e2:text.toList.isEmpty=false:=by simpa using e1
   have HE:Hid (text.data.toList.isEmpty=false):=yD (by simpa using he)
   have e3:(text.toList==[])=false:=by simpa using e1
   clear he;have HB:Hid (b=false):=yD (by rw[←hb.out,HW.out]; simp[HE.out])
   go_wp2_with (go_at_call 143; refine(xC text _ hx _ HN.out).mono ?_; rintro e w2 ⟨rfl,rfl⟩)
   go_ret;exact⟨xE HB.out.symm,HX.out⟩
theorem zKH (pos num:Int)(text:ByteArray)(kA:Option Addr)(kl kc:Nat)(w:World)(hx:text.size≤9000)(b:Bool)(hb:Hid (vL 25 num text.data.toList=b)) :
  Calls Tryz.prog 99 #[.agg #[.int .u8 25,.int .i64 pos,.string text,.int .i64 num,.slice kA kl kc]] w fun e w'=>e=.returned (.bool b)∧Ext w w':=by
 have HW:=yD (vN (kind:=25) (num:=num) (text:=text.data.toList) (named:=false) (most:=0) rfl rfl);have HX:Hid (Ext w (w.alloc (.cells #[.int .u8 25,.int .i64 pos,.string text,.int .i64 num,.slice kA kl kc] 100))):=yD (Ext.alloc _ _);have HT:Hid (text.toList=text.data.toList):=yD (ByteArray.toList_eq _);obtain⟨t1,HN⟩:∃t,Hid (xX text.data.toList=t):=⟨_,yD rfl⟩;rw[HN.out] at HW
 go_enter Tryz.func99,Tryz.ntmps99
 go_upto_region 11 with fail
 cases t1 with
 | true=>
  have HB:Hid (b=false):=yD (by rw[←hb.out,HW.out]; rfl)
  go_wp2_with (go_at_call 143; refine(xC text _ hx _ HN.out).mono ?_; rintro e w2 ⟨rfl,rfl⟩)
  go_ret;exact⟨xE HB.out.symm,HX.out⟩
 | false=>
  by_cases he:text.data.toList=[]
  ·have e1:text.toList=[]:=by rw[HT.out]; exact he
   have e2:text.toList.isEmpty=true:=by rw[e1]; rfl
   have HE:Hid (text.data.toList.isEmpty=true):=yD (by rw[he]; rfl)
   have e3:(text.toList==[])=true:=by rw[e1]; rfl
   clear he
   by_cases h0:0≤num
   ·have d0:decide (num ≥ 0)=true:=yP h0;have d1:decide (0≤num)=true:=yP h0;have HB:Hid (b=decide (num≤0)):=yD (by rw[←hb.out,HW.out]; rw[d1]; simp[HE.out])
    go_wp2_with (go_at_call 143; refine(xC text _ hx _ HN.out).mono ?_; rintro e w2 ⟨rfl,rfl⟩)
    go_ret;exact⟨xE HB.out.symm,HX.out⟩
   ·have d0:decide (num ≥ 0)=false:=yO h0;have d1:decide (0≤num)=false:=yO h0;have HB:Hid (b=false):=yD (by rw[←hb.out,HW.out]; rw[d1]; simp[HE.out])
    go_wp2_with (go_at_call 143; refine(xC text _ hx _ HN.out).mono ?_; rintro e w2 ⟨rfl,rfl⟩)
    go_ret;exact⟨xE HB.out.symm,HX.out⟩
  ·have e1:¬text.toList=[]:=by rw[HT.out]; exact he
   have e2:text.toList.isEmpty=false:=by simpa using e1
   have HE:Hid (text.data.toList.isEmpty=false):=yD (by simpa using he)
   have e3:(text.toList==[])=false:=by simpa using e1
   clear he;have HB:Hid (b=false):=yD (by rw[←hb.out,HW.out]; simp[HE.out])
   go_wp2_with (go_at_call 143; refine(xC text _ hx _ HN.out).mono ?_; rintro e w2 ⟨rfl,rfl⟩)
   go_ret;exact⟨xE HB.out.symm,HX.out⟩
theorem zJR (pos num:Int)(text:ByteArray)(kA:Option Addr)(kl kc:Nat)(w:World)(hx:text.size≤9000)(b:Bool)(hb:Hid (vL 26 num text.data.toList=b)) :
  Calls Tryz.prog 99 #[.agg #[.int .u8 26,.int .i64 pos,.string text,.int .i64 num,.slice kA kl kc]] w fun e w'=>e=.returned (.bool b)∧Ext w w':=by
 have HW:=yD (vN (kind:=26) (num:=num) (text:=text.data.toList) (named:=false) (most:=0) rfl rfl);have HX:Hid (Ext w (w.alloc (.cells #[.int .u8 26,.int .i64 pos,.string text,.int .i64 num,.slice kA kl kc] 100))):=yD (Ext.alloc _ _);have HT:Hid (text.toList=text.data.toList):=yD (ByteArray.toList_eq _);obtain⟨t1,HN⟩:∃t,Hid (xX text.data.toList=t):=⟨_,yD rfl⟩;rw[HN.out] at HW
 go_enter Tryz.func99,Tryz.ntmps99
 go_upto_region 11 with fail
 cases t1 with
 | true=>
  have HB:Hid (b=false):=yD (by rw[←hb.out,HW.out]; rfl)
  go_wp2_with (go_at_call 143; refine(xC text _ hx _ HN.out).mono ?_; rintro e w2 ⟨rfl,rfl⟩)
  go_ret;exact⟨xE HB.out.symm,HX.out⟩
 | false=>
  by_cases he:text.data.toList=[]
  ·have e1:text.toList=[]:=by rw[HT.out]; exact he
   have e2:text.toList.isEmpty=true:=by rw[e1]; rfl
   have HE:Hid (text.data.toList.isEmpty=true):=yD (by rw[he]; rfl)
   have e3:(text.toList==[])=true:=by rw[e1]; rfl
   clear he
   by_cases h0:0≤num
   ·have d0:decide (num ≥ 0)=true:=yP h0;have d1:decide (0≤num)=true:=yP h0;have HB:Hid (b=decide (num≤0)):=yD (by rw[←hb.out,HW.out]; rw[d1]; simp[HE.out])
    go_wp2_with (go_at_call 143; refine(xC text _ hx _ HN.out).mono ?_; rintro e w2 ⟨rfl,rfl⟩)
    go_ret;exact⟨xE HB.out.symm,HX.out⟩
   ·have d0:decide (num ≥ 0)=false:=yO h0;have d1:decide (0≤num)=false:=yO h0;have HB:Hid (b=false):=yD (by rw[←hb.out,HW.out]; rw[d1]; simp[HE.out])
    go_wp2_with (go_at_call 143; refine(xC text _ hx _ HN.out).mono ?_; rintro e w2 ⟨rfl,rfl⟩)
    go_ret;exact⟨xE HB.out.symm,HX.out⟩
  ·have e1:¬text.toList=[]:=by rw[HT.out]; exact he
   have e2:text.toList.isEmpty=false:=by simpa using e1
   have HE:Hid (text.data.toList.isEmpty=false):=yD (by simpa using he)
   have e3:(text.toList==[])=false:=by simpa using e1
   clear he;have HB:Hid (b=false):=yD (by rw[←hb.out,HW.out]; simp[HE.out])
   go_wp2_with (go_at_call 143; refine(xC text _ hx _ HN.out).mono ?_; rintro e w2 ⟨rfl,rfl⟩)
   go_ret;exact⟨xE HB.out.symm,HX.out⟩
theorem zEz (x:xB)(w:World)(hk:1≤x.kind∧x.kind≤26)(hx:x.text.size≤9000)(b:Bool)(hb:Hid (vL x.kind x.num x.text.data.toList=b)) :
  Calls Tryz.prog 99 #[.agg (Array.mk x.cells)] w fun e w'=>e=.returned (.bool b)∧Ext w w':=by
 obtain⟨kind,pos,text,num,kA,kc,AA⟩:=x
 simp only at hk hx hb
 have hc:kind=1∨kind=2∨kind=3∨kind=4∨kind=5∨kind=6∨kind=7∨kind=8∨kind=9∨kind=10∨kind=11∨kind=12∨kind=13∨kind=14∨kind=15∨kind=16∨kind=17∨kind=18∨kind=19∨kind=20∨kind=21∨kind=22∨kind=23∨kind=24∨kind=25∨kind=26:=by omega
 rcases hc with rfl | rfl | rfl | rfl | rfl | rfl | rfl | rfl | rfl | rfl | rfl | rfl | rfl | rfl | rfl | rfl | rfl | rfl | rfl | rfl | rfl | rfl | rfl | rfl | rfl | rfl
 ·exact zLx pos num text kA AA.length kc w hx b hb
 ·exact zLB pos num text kA AA.length kc w hx b hb
 ·exact zMY pos num text kA AA.length kc w hx b hb
 ·exact zMQ pos num text kA AA.length kc w hx b hb
 ·exact zLu pos num text kA AA.length kc w hx b hb
 ·exact zMv pos num text kA AA.length kc w hx b hb
 ·exact zMF pos num text kA AA.length kc w hx b hb
 ·exact zMB pos num text kA AA.length kc w hx b hb
 ·exact zLS pos num text kA AA.length kc w hx b hb
 ·exact zKF pos num text kA AA.length kc w hx b hb
 ·exact zJ1 pos num text kA AA.length kc w hx b hb
 ·exact zKe pos num text kA AA.length kc w hx b hb
 ·exact zKg pos num text kA AA.length kc w hx b hb
 ·exact zKB pos num text kA AA.length kc w hx b hb
 ·exact zKq pos num text kA AA.length kc w hx b hb
 ·exact zJU pos num text kA AA.length kc w hx b hb
 ·exact zJX pos num text kA AA.length kc w hx b hb
 ·exact zKy pos num text kA AA.length kc w hx b hb
 ·exact zKM pos num text kA AA.length kc w hx b hb
 ·exact zKu pos num text kA AA.length kc w hx b hb
 ·exact zKE pos num text kA AA.length kc w hx b hb
 ·exact zK1 pos num text kA AA.length kc w hx b hb
 ·exact zJ8 pos num text kA AA.length kc w hx b hb
 ·exact zK2 pos num text kA AA.length kc w hx b hb
 ·exact zKH pos num text kA AA.length kc w hx b hb
 ·exact zJR pos num text kA AA.length kc w hx b hb
theorem zIN (l:List xB)(A:Option Addr)(n c:Nat)(x:xB)(w:World)(hn:n=l.length)(ht:vV w A l)(hlen:l.length≤9000)(hkl:x.kids.length≤9000)(hxo:VQ w x)(hin:zDd l x.kids) :
  Calls Tryz.prog 101 #[.slice A n c,.agg (Array.mk x.cells)] w fun e w'=>∃A' c',e=.returned (.slice A' x.kids.length c')∧Cells w' A' (xL (vG l x.kids))∧Ext w w':=by
 subst hn;obtain⟨i0,hi,AP,AT,AN⟩:=info_parts zQe;have HT:=yD ht;have AQ:=yD hxo;have AX:=yD hin;clear ht hxo hin;obtain⟨kind,pos,text,num,kA,kc,AA⟩:=x
 simp only at hkl
 show Calls Tryz.prog 101 #[.slice A l.length c,.agg #[.int .u8 kind,.int .i64 pos,.string text,.int .i64 num,.slice kA AA.length kc]] w fun e w'=>∃A' c',e=.returned (.slice A' AA.length c')∧Cells w' A' (xL (vG l AA))∧Ext w w'
 have AM:Hid (Blk (w.alloc (.cells #[.int .u8 kind,.int .i64 pos,.string text,.int .i64 num,.slice kA AA.length kc] 100)) w.heap.size 100 #[.int .u8 kind,.int .i64 pos,.string text,.int .i64 num,.slice kA AA.length kc]):=yD (Blk.new _ _ _);have AK:Hid (Ext w (w.alloc (.cells #[.int .u8 kind,.int .i64 pos,.string text,.int .i64 num,.slice kA AA.length kc] 100))):=yD (Ext.alloc _ _);have AU:Hid (w.heap.size<(w.alloc (.cells #[.int .u8 kind,.int .i64 pos,.string text,.int .i64 num,.slice kA AA.length kc] 100)).heap.size):=yD (by simp)
 go_enter Tryz.func101,Tryz.ntmps101
 go_wp2_with fail
 generalize w.alloc (.cells #[.int .u8 kind,.int .i64 pos,.string text,.int .i64 num,.slice kA AA.length kc] 100)=w1 at *;obtain⟨gn,AF⟩:∃gn,gn=w.heap.size:=⟨_,rfl⟩;rw[←AF] at AM AU ⊢;clear AF
 go_loopw [5,6] (fun out i wr=>∃(k:Nat) (A':Option Addr) (c':Nat),k≤AA.length∧i=.int .i64 k∧out=.slice A' k c'∧Hid (wr.ownsRow w1.heap.size 5 1 (.slice A' k c') k (xL (vG l (AA.take k))))∧Hid (Ext w1 wr)) (fun _ i _=>AA.length-(intOf i).toNat)
 case atStart=>exact⟨0,none,0,zT _,rfl,rfl,yD (zP _ _ _ _),yD (Ext.refl _)⟩
 case round=>
  obtain⟨k,A',c',hk,rfl,rfl,HO,HX⟩:=hrel;obtain⟨wa,rfl⟩:∃wa:World,wa=wr:=⟨_,rfl⟩;have y4:=(AM.out.ext HX.out).cell 4
  by_cases AD:k<AA.length
  ·have d0:decide ((k:Int)<(AA.length:Int))=true:=yP (by omega);have AL:Hid (Ext w wa):=yD (AK.out.trans HX.out);obtain⟨b,Ab,rfl,hb,AR⟩:=zCC (AQ.out.kids.ext AL.out) k AD;obtain⟨a,ha,AE⟩:=AX.out AA[k] (yL AD)
   have AO:Hid (vG l (AA.take (k+1))=vG l (AA.take k)++[l[a].kind]):=yD (by
    unfold vG;rw[zW AD,List.map_append,ha];simp only[List.map_cons,List.map_nil]
    rw[zDl AE])
   rw[ha] at AR;clear ha;obtain⟨b2,AB,rfl,Aa,AI⟩:=(HT.out.ext AL.out).at_ a AE;have AZ:wa.cell? ⟨b2,AB+a*5,none⟩=some (.int .u8 l[a].kind):=AI 0 (by omega);clear AI;generalize vG l (AA.take k)=ls at *;generalize l[a].kind=ka at *
   have q1:(a:Int)<(l.length:Int):=by omega
   have AJ:=yD (HO.out.alloc (.cells #[.int .u8 ka] 5));have AC:Hid (Ext w1 (wa.alloc (.cells #[.int .u8 ka] 5))):=yD (HX.out.trans (Ext.alloc _ _));have AY:Hid (Cells (wa.alloc (.cells #[.int .u8 ka] 5)) (some ⟨wa.heap.size,0,none⟩) [.int .u8 ka]):=yD (Cells.new _ 5 #[.int .u8 ka])
   go_wp2_with (at_builtin; refine XP rfl _ _ 22 rfl w1.heap.size 5 i0 (.int .u8 0) 1 1 Tryz.underlying22 hi AP AT AN rfl (by decide) _ _ _ rfl AJ.out _ 1 1 [.int .u8 ka] rfl (fun h=>by cases h) rfl AY.out ?c2 ?c3 ?c4 AC.out.size ?_)
   case c2=>first | (intro u hu; simp at hu; subst hu; rfl) | rfl
   case c3=>unfold maxLen; omega
   case c4=>omega
   intro A3 c3 w3 AS AH AG;have AV:Hid (w3.ownsRow w1.heap.size 5 1 (.slice A3 (k+1) c3) (k+1) (xL (ls++[ka]))):=yD (by rw[zFu]; exact AH);have AW:Hid (Ext w1 w3):=yD (Below.grown AC.out AG AC.out.size (zKl AJ.out));clear AH AG AS
   go_wp2_with fail
   go_roundw
   case rel=>exact⟨k+1,A3,c3,by omega,by go_num,rfl,yD (by rw[AO.out]; exact AV.out),AW⟩
   case measure=>simp[intOf]; omega
  ·obtain rfl:k=AA.length:=by omega
   have d0:decide ((AA.length:Int)<(AA.length:Int))=false:=by simp
   go_wp2_with fail
   go_ret;have h1:=HO.out;rw[List.take_length] at h1;exact⟨A',c',rfl,Cells.own h1,AK.out.trans HX.out⟩
end Go.Proofs.YtioffpjajhalaaaGreatDoor.TT
