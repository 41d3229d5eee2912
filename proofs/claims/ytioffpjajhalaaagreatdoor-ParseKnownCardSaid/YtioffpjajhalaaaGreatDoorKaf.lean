/- errors.As at the two targets that diag uses, walked, of any error that diag makes. (and what follows of it). The conditions stand at each lemma. -/
import Derived.Test.YtioffpjajhalaaaGreatDoorKaa
import Derived.Test.YtioffpjajhalaaaGreatDoorKae
import Derived.Test.YtioffpjajhalaaaGreatDoorRows
import Derived.ChangeSame
import Derived.ChangeVars
import Derived.JoinedOf
import Derived.RowKit
import Derived.RowKitTokens
import Derived.LaidLaws
import Derived.LaidHandle
import Derived.Stop.Joined
import Derived.Test.YtioffpjajhalaaaGreatDoorKab
set_option linter.unusedVariables false
set_option linter.unusedSimpArgs false
set_option maxRecDepth 100000
set_option maxHeartbeats 16000000
namespace Go.Proofs.YtioffpjajhalaaaGreatDoor
open Go Go.RowKit Go.Extern.Stop Go.Stop Go.Extern
inductive ZW where
 | num (n:Int)
 | at_ (g:Nat) (a l c e:Int)
 | inn (x:ZW) (s:ByteArray)
def ZW.ty:ZW→Nat
 | .num _=>54
 | .at_ ..=>107
 | .inn ..=>139
def ZW.dat:ZW→Value
 | .num n=>.int .i64 n
 | .at_ g ..=>.pointer (some ⟨g,0,none⟩)
 | .inn x s=>.agg #[.iface x.ty x.dat,.string s]
theorem ZW.zUF (n:Int):(ZW.num n).ty=54:=rfl
theorem ZW.zUb (g:Nat)(a l c e:Int):(ZW.at_ g a l c e).ty=107:=rfl
theorem ZW.zSS (x:ZW)(s:ByteArray):(ZW.inn x s).ty=139:=rfl
theorem ZW.zTk (n:Int):(ZW.num n).dat=.int .i64 n:=rfl
theorem ZW.zSH (g:Nat)(a l c e:Int):(ZW.at_ g a l c e).dat=.pointer (some ⟨g,0,none⟩):=rfl
theorem ZW.zPl (x:ZW)(s:ByteArray):(ZW.inn x s).dat=.agg #[.iface x.ty x.dat,.string s]:=rfl
def ZW.val (x:ZW):Value:=.iface x.ty x.dat
def ZW.ok (w:World):ZW→Prop
 | .num _=>True
 | .at_ g a l c e=>Blk w g 110 #[.int .i64 a,.int .i64 l,.int .i64 c,.int .i64 e]
 | .inn x _=>x.ok w
def ZW.code:ZW→Int
 | .num n=>n
 | .at_ _ _ _ _ e=>e
 | .inn x _=>x.code
def ZW.spot:ZW→Option Nat
 | .num _=>none
 | .at_ g ..=>some g
 | .inn x _=>x.spot
def ZW.deep:ZW→Nat
 | .num _=>0
 | .at_ ..=>1
 | .inn x _=>x.deep+1
theorem ZW.zUi {g:Nat}{t:TypeId}{cs:Array Value}{w w':World}(hg:Blk w g t cs)(ht:t≠110)(h:Mod g w w'):∀ {x:ZW},x.ok w→x.ok w'
 | .num _,_=>trivial
 | .at_ g' ..,hx=>h.blk hx (fun e=>by
   subst e;unfold ZW.ok Blk at hx;unfold Blk at hg;rw[hg] at hx;injection hx with hx;injection hx with _ hx
   exact ht hx)
 | .inn x _,hx=>ZW.zUi (x:=x) hg ht h hx
theorem ZW.zEf {w w':World}(h:Ext w w'):∀ {x:ZW},x.ok w→x.ok w'
 | .num _,_=>trivial
 | .at_ ..,hx=>Blk.ext hx h
 | .inn x _,hx=>ZW.zEf (x:=x) h hx
def GT (w:World):Prop:=w.cell? ⟨0,0,none⟩=some (.iface 180 (.agg #[.pointer (some ⟨5,25,none⟩)]))
theorem GT.lt {w:World}(h:GT w):0<w.heap.size:=by
 rcases Nat.eq_zero_or_pos w.heap.size with h0 | h1
 ·unfold GT at h; simp[World.cell?,h0] at h
 ·exact h1
theorem GT.ext {w w':World}(h:GT w)(hx:Ext w w'):GT w':=(hx.cell (p:=⟨0,0,none⟩) h.lt).trans h
theorem zNb (g:Nat)(a l c e:Int)(w:World)(h:Blk w g 110 #[.int .i64 a,.int .i64 l,.int .i64 c,.int .i64 e]) :
  Calls Tryz.prog 236 #[.pointer (some ⟨g,0,none⟩)] w fun ev w'=>ev=.returned (.iface 54 (.int .i64 e))∧w=w':=by
 have c3:=h.cell 3;clear h
 go_enter Tryz.func236,Tryz.ntmps236
 go_wp2_with fail
 go_ret;exact⟨rfl,rfl⟩
theorem zHD (v:Value)(s:ByteArray)(w:World) :
  Calls Tryz.prog 238 #[.agg #[v,.string s]] w fun ev w'=>ev=.returned v∧Ext w w':=by
 go_enter Tryz.func238,Tryz.ntmps238
 go_wp2_with fail
 go_ret;exact⟨rfl,Ext.alloc _ _⟩
theorem zTM (v:ZW)(w:World)(hv:v.ok w)(t a:Nat)(old:Int)(ha:a<w.heap.size)(hta:t≠a)(hac:w.cell? ⟨a,0,none⟩=some (.pointer (some ⟨t,0,none⟩)))(ht:Blk w t 54 #[.int .i64 old]) :
  Calls Tryz.prog 107 #[.iface v.ty v.dat,.iface 106 (.pointer (some ⟨t,0,none⟩)),.agg #[.pointer (some ⟨5,106,none⟩),.pointer (some ⟨a,0,none⟩),.int .u64 150],.iface 180 (.agg #[.pointer (some ⟨5,54,none⟩)])] w
   fun e w'=>e=.returned (.bool true)∧Mod t w w'∧Blk w' t 54 #[.int .i64 v.code]:=by
 have AR:=@run_callFunc_extern Tryz.prog 104 _ (fun AE=>ReflectliteValue.unpack (AE.getD 0 (.tuple #[]))) Tryz.func104 (by kernel_rfl) (by kernel_rfl) (by kernel_rfl) (by kernel_rfl);have AP:=@run_callFunc_extern Tryz.prog 147 _ ReflectliteType.typeOf Tryz.func147 (by kernel_rfl) (by kernel_rfl) (by kernel_rfl) (by kernel_rfl);have AM:=@run_callFunc_extern Tryz.prog 243 _ (ReflectliteType.relation "AssignableTo" ReflectliteType.assignableTo) Tryz.func243 (by kernel_rfl) (by kernel_rfl) (by kernel_rfl) (by kernel_rfl);have AS:=@run_callFunc_extern Tryz.prog 148 _ (ReflectliteValue.method (ReflectliteValue.valueError "reflectlite.Value.Elem" 0) ReflectliteValue.elem) Tryz.func148 (by kernel_rfl) (by kernel_rfl) (by kernel_rfl) (by kernel_rfl);have AQ:=@run_callFunc_extern Tryz.prog 149 _ ReflectliteValue.set Tryz.func149 (by kernel_rfl) (by kernel_rfl) (by kernel_rfl) (by kernel_rfl);have mA:=zJm;have HV:=yE hv;have HT:=yE ht;have AK:=yE hac;have AO:=ht.lt;have AA:Hid (Ext w (w.alloc (.cells #[.pointer (some ⟨5,106,none⟩),.pointer (some ⟨a,0,none⟩),.int .u64 150] 158))):=yE (Ext.alloc _ _);have AH:Hid (Blk (w.alloc (.cells #[.pointer (some ⟨5,106,none⟩),.pointer (some ⟨a,0,none⟩),.int .u64 150] 158)) w.heap.size 158 #[.pointer (some ⟨5,106,none⟩),.pointer (some ⟨a,0,none⟩),.int .u64 150]):=yE (Blk.new _ _ _);clear hv ht hac
 go_enter Tryz.func107,Tryz.ntmps107
 go_wp2_with fail
 generalize (w.alloc (.cells #[.pointer (some ⟨5,106,none⟩),.pointer (some ⟨a,0,none⟩),.int .u64 150] 158))=w0 at *;generalize hq:w.heap.size=q at *;have HQ:=yE hq;clear hq
 go_loopg [0] (v.deep) (fun gk u wr=>∃x:ZW,x.deep=gk∧u=.iface x.ty x.dat∧Hid (x.ok wr∧x.code=v.code∧Ext w0 wr))
 case atStart=>exact⟨v,rfl,rfl,yE ⟨ZW.zEf AA.out HV.out,rfl,Ext.refl _⟩⟩
 case round=>
  obtain⟨x,rfl,rfl,HW⟩:=hrel;obtain⟨wa,rfl⟩:∃wa:World,wa=wr:=⟨_,rfl⟩;have HB:=yE (AH.out.ext HW.out.2.2);have AB:=yE ((HT.out.ext AA.out).ext HW.out.2.2);have AD:wa.cell? ⟨a,0,none⟩=some (.pointer (some ⟨t,0,none⟩)):=((AA.out.trans HW.out.2.2).cell (p:=⟨a,0,none⟩) (by rw[HQ.out]; exact ha)).trans AK.out;have AN:w.heap.size≤wa.heap.size:=(AA.out.trans HW.out.2.2).size;have b0:=HB.out.cell 0;have b1:=HB.out.cell 1;have b2:=HB.out.cell 2;have t0:=AB.out.cell 0;have f0:=AB.out.frozen 0
  cases x with
  | num n=>
   rw[ZW.zUF,ZW.zTk];have tO:=zO5;have aN:=zTR;have vO:=zMO;have el:=zOn ⟨a,0,none⟩ ⟨t,0,none⟩ wa AD;have st:=zTz ⟨t,0,none⟩ ⟨wa.heap.size,0,none⟩ n (.int .i64 old) (wa.alloc (.cells #[.int .i64 n] 54)) (by simp) (((AB.out.alloc _).cell 0)) ((AB.out.alloc _).frozen 0);have HC:Hid (n=v.code):=yE HW.out.2.1;have HM:Hid (Mod t w ((wa.alloc (.cells #[.int .i64 n] 54)).setCell ⟨t,0,none⟩ (.int .i64 n))):=yE ((((Mod.ZN (AA.out.trans HW.out.2.2) t)).alloc _).setCell 0 _);have AL:Hid (Blk ((wa.alloc (.cells #[.int .i64 n] 54)).setCell ⟨t,0,none⟩ (.int .i64 n)) t 54 #[.int .i64 n]):=yE ((AB.out.alloc _).put 0 _)
   go_wp2
   go_ret;rw[←HC.out];exact⟨rfl,HM.out,AL.out⟩
  | at_ g pa pl pc pe=>
   rw[ZW.zUb,ZW.zSH];have tO:=zJW;have aN:=zTS;have nA:=zS4;have uE:=zT6;have mU:=zSp;have HE:=yE (zNb g pa pl pc pe wa HW.out.1)
   go_wp2_with (go_at_call 236; refine HE.out.mono ?_; rintro e' w' ⟨rfl,rfl⟩)
   go_roundg 0
   case measure=>exact Nat.zero_lt_one
   case rel=>exact⟨.num pe,rfl,rfl,yE ⟨trivial,HW.out.2.1,HW.out.2.2⟩⟩
  | inn y s=>
   rw[ZW.zSS,ZW.zPl];have tO:=zJN;have aN:=zTV;have nA:=zNy;have uE:=zPB;have mU:=zMT;obtain⟨yt,AF⟩:∃yt,y.ty=yt:=⟨_,rfl⟩;obtain⟨yd,AC⟩:∃yd,y.dat=yd:=⟨_,rfl⟩;rw[AF,AC];have AI:=yE AF;have AJ:=yE AC;clear AF AC;have HE:=yE (fun W=>zHD (.iface yt yd) s W)
   go_wp2_with (go_at_call 238; refine(HE.out _).mono ?_; rintro e' w' ⟨rfl,AG⟩)
   go_roundg (y.deep)
   case measure=>exact Nat.lt_succ_self _
   case rel=>exact⟨y,rfl,by rw[AI.out,AJ.out],yE ⟨ZW.zEf AG (x:=y) HW.out.1,HW.out.2.1,HW.out.2.2.trans AG⟩⟩
theorem zT7 (v:ZW)(w:World)(hv:v.ok w)(g:Nat)(hsp:v.spot=some g)(t a:Nat)(ha:a<w.heap.size)(hta:t≠a)(hac:w.cell? ⟨a,0,none⟩=some (.pointer (some ⟨t,0,none⟩)))(ht:Blk w t 107 #[.pointer none]) :
  Calls Tryz.prog 107 #[.iface v.ty v.dat,.iface 108 (.pointer (some ⟨t,0,none⟩)),.agg #[.pointer (some ⟨5,108,none⟩),.pointer (some ⟨a,0,none⟩),.int .u64 150],.iface 180 (.agg #[.pointer (some ⟨5,107,none⟩)])] w
   fun e w'=>e=.returned (.bool true)∧Mod t w w'∧Blk w' t 107 #[.pointer (some ⟨g,0,none⟩)]:=by
 have AT:=@run_callFunc_extern Tryz.prog 104 _ (fun AE=>ReflectliteValue.unpack (AE.getD 0 (.tuple #[]))) Tryz.func104 (by kernel_rfl) (by kernel_rfl) (by kernel_rfl) (by kernel_rfl);have AR:=@run_callFunc_extern Tryz.prog 147 _ ReflectliteType.typeOf Tryz.func147 (by kernel_rfl) (by kernel_rfl) (by kernel_rfl) (by kernel_rfl);have AO:=@run_callFunc_extern Tryz.prog 243 _ (ReflectliteType.relation "AssignableTo" ReflectliteType.assignableTo) Tryz.func243 (by kernel_rfl) (by kernel_rfl) (by kernel_rfl) (by kernel_rfl);have AU:=@run_callFunc_extern Tryz.prog 148 _ (ReflectliteValue.method (ReflectliteValue.valueError "reflectlite.Value.Elem" 0) ReflectliteValue.elem) Tryz.func148 (by kernel_rfl) (by kernel_rfl) (by kernel_rfl) (by kernel_rfl);have AS:=@run_callFunc_extern Tryz.prog 149 _ ReflectliteValue.set Tryz.func149 (by kernel_rfl) (by kernel_rfl) (by kernel_rfl) (by kernel_rfl);have mA:=zJm;have HV:=yE hv;have HT:=yE ht;have AL:=yE hac;have AH:=yE hsp;have AQ:=ht.lt;have AA:Hid (Ext w (w.alloc (.cells #[.pointer (some ⟨5,108,none⟩),.pointer (some ⟨a,0,none⟩),.int .u64 150] 158))):=yE (Ext.alloc _ _);have AI:Hid (Blk (w.alloc (.cells #[.pointer (some ⟨5,108,none⟩),.pointer (some ⟨a,0,none⟩),.int .u64 150] 158)) w.heap.size 158 #[.pointer (some ⟨5,108,none⟩),.pointer (some ⟨a,0,none⟩),.int .u64 150]):=yE (Blk.new _ _ _);clear hv ht hac hsp
 go_enter Tryz.func107,Tryz.ntmps107
 go_wp2_with fail
 generalize (w.alloc (.cells #[.pointer (some ⟨5,108,none⟩),.pointer (some ⟨a,0,none⟩),.int .u64 150] 158))=w0 at *;generalize hq:w.heap.size=q at *;have HQ:=yE hq;clear hq
 go_loopg [0] (v.deep) (fun gk u wr=>∃x:ZW,x.deep=gk∧u=.iface x.ty x.dat∧Hid (x.ok wr∧x.spot=v.spot∧Ext w0 wr))
 case atStart=>exact⟨v,rfl,rfl,yE ⟨ZW.zEf AA.out HV.out,rfl,Ext.refl _⟩⟩
 case round=>
  obtain⟨x,rfl,rfl,HW⟩:=hrel;obtain⟨wa,rfl⟩:∃wa:World,wa=wr:=⟨_,rfl⟩;have HB:=yE (AI.out.ext HW.out.2.2);have AB:=yE ((HT.out.ext AA.out).ext HW.out.2.2);have AD:wa.cell? ⟨a,0,none⟩=some (.pointer (some ⟨t,0,none⟩)):=((AA.out.trans HW.out.2.2).cell (p:=⟨a,0,none⟩) (by rw[HQ.out]; exact ha)).trans AL.out;have AP:w.heap.size≤wa.heap.size:=(AA.out.trans HW.out.2.2).size;have b0:=HB.out.cell 0;have b1:=HB.out.cell 1;have b2:=HB.out.cell 2;have t0:=AB.out.cell 0;have f0:=AB.out.frozen 0
  cases x with
  | num n=>exact absurd (HW.out.2.1.trans AH.out) (by simp[ZW.spot])
  | at_ g' pa pl pc pe=>
   have AM:g'=g:=by have h:=HW.out.2.1.trans AH.out; unfold ZW.spot at h; injection h
   subst AM;rw[ZW.zUb,ZW.zSH];have tO:=zJW;have aN:=zTq;have vO:=zMB;have el:=zN2 ⟨a,0,none⟩ ⟨t,0,none⟩ wa AD;have st:=zTW ⟨t,0,none⟩ ⟨wa.heap.size,0,none⟩ ⟨g',0,none⟩ (.pointer none) (wa.alloc (.cells #[.pointer (some ⟨g',0,none⟩)] 107)) (by simp) (((AB.out.alloc _).cell 0)) ((AB.out.alloc _).frozen 0);have HM:Hid (Mod t w ((wa.alloc (.cells #[.pointer (some ⟨g',0,none⟩)] 107)).setCell ⟨t,0,none⟩ (.pointer (some ⟨g',0,none⟩)))):=yE ((((Mod.ZN (AA.out.trans HW.out.2.2) t)).alloc _).setCell 0 _);have AN:Hid (Blk ((wa.alloc (.cells #[.pointer (some ⟨g',0,none⟩)] 107)).setCell ⟨t,0,none⟩ (.pointer (some ⟨g',0,none⟩))) t 107 #[.pointer (some ⟨g',0,none⟩)]):=yE ((AB.out.alloc _).put 0 _)
   go_wp2
   go_ret;exact⟨rfl,HM.out,AN.out⟩
  | inn y s=>
   rw[ZW.zSS,ZW.zPl];have tO:=zJN;have aN:=zS9;have nA:=zNy;have uE:=zPB;have mU:=zMT;obtain⟨yt,AF⟩:∃yt,y.ty=yt:=⟨_,rfl⟩;obtain⟨yd,AC⟩:∃yd,y.dat=yd:=⟨_,rfl⟩;rw[AF,AC];have AJ:=yE AF;have AK:=yE AC;clear AF AC;have HE:=yE (fun W=>zHD (.iface yt yd) s W)
   go_wp2_with (go_at_call 238; refine(HE.out _).mono ?_; rintro e' w' ⟨rfl,AG⟩)
   go_roundg (y.deep)
   case measure=>exact Nat.lt_succ_self _
   case rel=>exact⟨y,rfl,by rw[AJ.out,AK.out],yE ⟨ZW.zEf AG (x:=y) HW.out.1,HW.out.2.1,HW.out.2.2.trans AG⟩⟩
theorem zTa (v:ZW)(w:World)(hG:GT w)(hv:v.ok w)(old:Int)(t:Nat)(ht:Blk w t 54 #[.int .i64 old]) :
  Calls Tryz.prog 61 #[.iface v.ty v.dat,.iface 106 (.pointer (some ⟨t,0,none⟩))] w fun e w'=>e=.returned (.bool true)∧Mod t w w'∧Blk w' t 54 #[.int .i64 v.code]:=by
 have AR:=@run_callFunc_extern Tryz.prog 104 _ (fun AC=>ReflectliteValue.unpack (AC.getD 0 (.tuple #[]))) Tryz.func104 (by kernel_rfl) (by kernel_rfl) (by kernel_rfl) (by kernel_rfl);have AO:=@run_callFunc_extern Tryz.prog 105 _ (ReflectliteValue.methodAny (ReflectliteValue.valueError "reflectlite.Value.Type" 0) (fun t _ _ _=>ReflectliteType.toType t)) Tryz.func105 (by kernel_rfl) (by kernel_rfl) (by kernel_rfl) (by kernel_rfl);have AJ:=@run_callFunc_extern Tryz.prog 106 _ (ReflectliteValue.method (ReflectliteValue.valueError "reflectlite.Value.IsNil" 0) ReflectliteValue.isNil) Tryz.func106 (by kernel_rfl) (by kernel_rfl) (by kernel_rfl) (by kernel_rfl);have AP:=@run_callFunc_extern Tryz.prog 230 _ (ReflectliteType.abiMethod fun t=>do pure (.int .u8 (←Rtype.kind t))) Tryz.func230 (by kernel_rfl) (by kernel_rfl) (by kernel_rfl) (by kernel_rfl);have AI:=@run_callFunc_extern Tryz.prog 245 _ (ReflectliteType.method ReflectliteType.elem) Tryz.func245 (by kernel_rfl) (by kernel_rfl) (by kernel_rfl) (by kernel_rfl);have AH:=@run_callFunc_extern Tryz.prog 246 _ (ReflectliteType.relation "Implements" ReflectliteType.implements_) Tryz.func246 (by kernel_rfl) (by kernel_rfl) (by kernel_rfl) (by kernel_rfl);have mK:=zMZ;have mE:=zNR;have mI:=zM1;have f6:=zMb;have f7:=zRo;have AN:=zPK;have AQ:=zR8;have AS:=zQr;have AM:=zRz;have AL:=ht.lt
 have AB:Ext w ((w.alloc (.cells #[.pointer (some ⟨t,0,none⟩)] 106)).alloc (.cells #[.pointer (some ⟨5,106,none⟩),.pointer (some ⟨w.heap.size,0,none⟩),.int .u64 150] 158)):=(Ext.alloc _ _).trans (Ext.alloc _ _)
 have AA:((w.alloc (.cells #[.pointer (some ⟨t,0,none⟩)] 106)).alloc (.cells #[.pointer (some ⟨5,106,none⟩),.pointer (some ⟨w.heap.size,0,none⟩),.int .u64 150] 158)).cell? ⟨w.heap.size,0,none⟩=some (.pointer (some ⟨t,0,none⟩)):=by
  have h:=((Blk.new w 106 #[.pointer (some ⟨t,0,none⟩)]).alloc (.cells #[.pointer (some ⟨5,106,none⟩),.pointer (some ⟨w.heap.size,0,none⟩),.int .u64 150] 158)).cell 0;exact h
 have AG:=yE AB;have HC:=yE (zTM v ((w.alloc (.cells #[.pointer (some ⟨t,0,none⟩)] 106)).alloc (.cells #[.pointer (some ⟨5,106,none⟩),.pointer (some ⟨w.heap.size,0,none⟩),.int .u64 150] 158)) (ZW.zEf AB hv) t w.heap.size old (by simp; omega) (by omega) AA (ht.ext AB));have AK:((w.alloc (.cells #[.pointer (some ⟨t,0,none⟩)] 106)).alloc (.cells #[.pointer (some ⟨5,106,none⟩),.pointer (some ⟨w.heap.size,0,none⟩),.int .u64 150] 158)).cell? ⟨0,0,none⟩=some (.iface 180 (.agg #[.pointer (some ⟨5,25,none⟩)])):=hG.ext AB;have n8:=zO8 ⟨w.heap.size,0,none⟩ ⟨t,0,none⟩ ((w.alloc (.cells #[.pointer (some ⟨t,0,none⟩)] 106)).alloc (.cells #[.pointer (some ⟨5,106,none⟩),.pointer (some ⟨w.heap.size,0,none⟩),.int .u64 150] 158)) AA;have AF:=hG;unfold GT at AF;obtain⟨vt,AD⟩:∃vt,v.ty=vt:=⟨_,rfl⟩;obtain⟨vd,AE⟩:∃vd,v.dat=vd:=⟨_,rfl⟩;rw[AD,AE] at HC ⊢;clear AD AE AB AA hG hv ht
 go_enter Tryz.func61,Tryz.ntmps61
 go_wp2_with (go_at_call 107; refine HC.out.mono ?_; rintro e w' ⟨rfl,hm,hb⟩)
 go_ret;exact⟨rfl,(Mod.ZN AG.out t).trans hm,hb⟩
theorem zTu (v:ZW)(w:World)(hG:GT w)(hv:v.ok w)(g:Nat)(hsp:v.spot=some g)(t:Nat)(ht:Blk w t 107 #[.pointer none]) :
  Calls Tryz.prog 61 #[.iface v.ty v.dat,.iface 108 (.pointer (some ⟨t,0,none⟩))] w fun e w'=>e=.returned (.bool true)∧Mod t w w'∧Blk w' t 107 #[.pointer (some ⟨g,0,none⟩)]:=by
 have AR:=@run_callFunc_extern Tryz.prog 104 _ (fun AC=>ReflectliteValue.unpack (AC.getD 0 (.tuple #[]))) Tryz.func104 (by kernel_rfl) (by kernel_rfl) (by kernel_rfl) (by kernel_rfl);have AO:=@run_callFunc_extern Tryz.prog 105 _ (ReflectliteValue.methodAny (ReflectliteValue.valueError "reflectlite.Value.Type" 0) (fun t _ _ _=>ReflectliteType.toType t)) Tryz.func105 (by kernel_rfl) (by kernel_rfl) (by kernel_rfl) (by kernel_rfl);have AJ:=@run_callFunc_extern Tryz.prog 106 _ (ReflectliteValue.method (ReflectliteValue.valueError "reflectlite.Value.IsNil" 0) ReflectliteValue.isNil) Tryz.func106 (by kernel_rfl) (by kernel_rfl) (by kernel_rfl) (by kernel_rfl);have AP:=@run_callFunc_extern Tryz.prog 230 _ (ReflectliteType.abiMethod fun t=>do pure (.int .u8 (←Rtype.kind t))) Tryz.func230 (by kernel_rfl) (by kernel_rfl) (by kernel_rfl) (by kernel_rfl);have AI:=@run_callFunc_extern Tryz.prog 245 _ (ReflectliteType.method ReflectliteType.elem) Tryz.func245 (by kernel_rfl) (by kernel_rfl) (by kernel_rfl) (by kernel_rfl);have AH:=@run_callFunc_extern Tryz.prog 246 _ (ReflectliteType.relation "Implements" ReflectliteType.implements_) Tryz.func246 (by kernel_rfl) (by kernel_rfl) (by kernel_rfl) (by kernel_rfl);have mK:=zMZ;have mE:=zNR;have mI:=zM1;have f6:=zMf;have f7:=zPX;have AN:=zQg;have AQ:=zSA;have AS:=zP6;have AM:=zRT;have AL:=ht.lt
 have AB:Ext w ((w.alloc (.cells #[.pointer (some ⟨t,0,none⟩)] 108)).alloc (.cells #[.pointer (some ⟨5,108,none⟩),.pointer (some ⟨w.heap.size,0,none⟩),.int .u64 150] 158)):=(Ext.alloc _ _).trans (Ext.alloc _ _)
 have AA:((w.alloc (.cells #[.pointer (some ⟨t,0,none⟩)] 108)).alloc (.cells #[.pointer (some ⟨5,108,none⟩),.pointer (some ⟨w.heap.size,0,none⟩),.int .u64 150] 158)).cell? ⟨w.heap.size,0,none⟩=some (.pointer (some ⟨t,0,none⟩)):=by
  have h:=((Blk.new w 108 #[.pointer (some ⟨t,0,none⟩)]).alloc (.cells #[.pointer (some ⟨5,108,none⟩),.pointer (some ⟨w.heap.size,0,none⟩),.int .u64 150] 158)).cell 0;exact h
 have AG:=yE AB;have HC:=yE (zT7 v ((w.alloc (.cells #[.pointer (some ⟨t,0,none⟩)] 108)).alloc (.cells #[.pointer (some ⟨5,108,none⟩),.pointer (some ⟨w.heap.size,0,none⟩),.int .u64 150] 158)) (ZW.zEf AB hv) g hsp t w.heap.size (by simp; omega) (by omega) AA (ht.ext AB));have AK:((w.alloc (.cells #[.pointer (some ⟨t,0,none⟩)] 108)).alloc (.cells #[.pointer (some ⟨5,108,none⟩),.pointer (some ⟨w.heap.size,0,none⟩),.int .u64 150] 158)).cell? ⟨0,0,none⟩=some (.iface 180 (.agg #[.pointer (some ⟨5,25,none⟩)])):=hG.ext AB;have n8:=zOU ⟨w.heap.size,0,none⟩ ⟨t,0,none⟩ ((w.alloc (.cells #[.pointer (some ⟨t,0,none⟩)] 108)).alloc (.cells #[.pointer (some ⟨5,108,none⟩),.pointer (some ⟨w.heap.size,0,none⟩),.int .u64 150] 158)) AA;have AF:=hG;unfold GT at AF;obtain⟨vt,AD⟩:∃vt,v.ty=vt:=⟨_,rfl⟩;obtain⟨vd,AE⟩:∃vd,v.dat=vd:=⟨_,rfl⟩;rw[AD,AE] at HC ⊢;clear AD AE AB AA hG hv ht
 go_enter Tryz.func61,Tryz.ntmps61
 go_wp2_with (go_at_call 107; refine HC.out.mono ?_; rintro e w' ⟨rfl,hm,hb⟩)
 go_ret;exact⟨rfl,(Mod.ZN AG.out t).trans hm,hb⟩
end Go.Proofs.YtioffpjajhalaaaGreatDoor
namespace Go.Proofs.YtioffpjajhalaaaGreatDoor
open Go.ChangeShapes Go.WideShapes Go.RowKit
def zHe:List (String × DataW Unit):=[("errors.errorType", Rows.laid_errors_errorType)]
theorem zTC:Tryz.prog.globalNamed "errors.errorType" = some 0:=by kernel_rfl
theorem zTh:(Tryz.prog.cutTypes.find? (·.1 == "internal/reflectlite.rtype")).map (·.2) = some 180 := by kernel_rfl
theorem zMP:((List.range 261).filter fun t=>Tryz.prog.rowNamed t [101,114,114,111,114])=[25]:=by kernel_rfl
theorem zPY:Tryz.prog.types.size=261:=by kernel_rfl
theorem zOH {W:World}(h:laidMetH Tryz.prog zHe W):GT W:=by
 have h':laidMet Tryz.prog [] W∧handlesMet Tryz.prog zHe W:=h;obtain⟨AA,u,ty,e1,e2,e3,e4,e5⟩:=h'.2 _ (List.mem_singleton.2 rfl);have en:AA=[101,114,114,111,114]:=(Option.some.inj e1).symm;subst en;obtain rfl:=Option.some.inj (zTh.symm.trans e2);have hm:ty ∈ (List.range 261).filter fun t=>Tryz.prog.rowNamed t [101,114,114,111,114]:=List.mem_filter.2 ⟨List.mem_range.2 (by rw[←zPY]; exact e3),e4⟩;rw[zMP] at hm;obtain rfl:=List.mem_singleton.1 hm
 have hh:typeHandle Tryz.prog 25=.pointer (some ⟨5,25,none⟩):=by kernel_rfl
 rw[hh] at e5;unfold GT
 simpa using World.var?_cell zTC e5 0
noncomputable def zLi (os:Os):World:=
 let w0:=World.holding Tryz.prog os ⟨#[],#[],[]⟩
 { w0 with heap:=w0.heap.modify 0 fun
   | .cells _ t frozen=>.cells #[.iface 180 (.agg #[.pointer (some ⟨5,25,none⟩)])] t frozen
   | o=>o }
theorem zKp (os:Os)(args:Array Value):laidMetH Tryz.prog zHe ((zLi os).forCall (fun _ _=>0) ⟨#[],args,[]⟩).memory:=
 laidMetH_of_parts (laidMet_nil _ _) (by kernel_rfl)
end Go.Proofs.YtioffpjajhalaaaGreatDoor
namespace Go.Proofs.YtioffpjajhalaaaGreatDoor
structure Nd where
 kind:Nat
 pos:Nat
 text:Bs
 num:Int
 kids:List Nat
 deriving DecidableEq
structure Ps where
 ts:List Tok
 nd:List Nd
 deep:Nat
 deriving DecidableEq
inductive Res (α:Type) where
 | ok (a:α) (s:Ps)
 | err (e:Int) (at_:Nat)
 deriving DecidableEq
def Res.bind {α β:Type}:Res α→(α→Ps→Res β)→Res β
 | .ok a s,f=>f a s
 | .err e p,_=>.err e p
theorem JJ {α β:Type}(a:α)(s:Ps)(f:α→Ps→Res β):(Res.ok a s).bind f=f a s:=rfl
abbrev Pm (α:Type):=Ps→Res α
def zSW:Tok:=⟨4,0,0,[],0⟩
def Ps.hd (s:Ps):Tok:=s.ts.headD zSW
def Ps.adv (s:Ps):Ps:={ s with ts:=s.ts.tail }
def isP (t:Bs)(s:Ps):Bool:=(s.hd.kind != 4&&s.hd.kind != 2)&&s.hd.text==t
def xY (t:Bs):Pm Unit:=fun s=>if isP t s=true then .ok () s.adv else .err 50 s.hd.at_
def ofP (k:Nat):Pm Tok:=fun s=>if s.hd.kind=k then .ok s.hd s.adv else .err 50 s.hd.at_
def Ps.add (s:Ps)(n:Nd):Ps:={ s with nd:=s.nd++[n] }
def Ps.on (s:Ps)(i:Nat)(f:Nd→Nd):Ps:={ s with nd:=s.nd.modify i f }
def Ps.kid (s:Ps)(i:Nat):Ps:=s.on i fun n=>{ n with kids:=n.kids++[s.nd.length] }
def Ps.node (s:Ps)(k:Nat):Ps:=s.add ⟨k,s.hd.at_,[],0,[]⟩
def Ps.text (s:Ps)(i:Nat)(t:Bs):Ps:=s.on i fun n=>{ n with text:=t }
def Ps.num (s:Ps)(i:Nat)(x:Int):Ps:=s.on i fun n=>{ n with num:=x }
def Ps.kind (s:Ps)(i:Nat)(k:Nat):Ps:=s.on i fun n=>{ n with kind:=k }
def Ps.yX (s:Ps)(i k:Nat):Ps:=(s.kid i).node k
def jC (i:Nat):Pm Unit:=fun s=>(ofP 1 s).bind fun t s=>.ok () (s.text i t.text)
def JA (i:Nat):Pm Unit:=fun s=>jC s.nd.length (s.yX i 5)
def zCe (i:Nat):Pm Unit:=fun s=>(ofP 2 s).bind fun t s=>.ok () (s.num i t.n)
def YL (i:Nat):Pm Unit:=fun s=>zCe s.nd.length (s.yX i 21)
def vR {α:Type}(a z:Bs)(body:Pm α):Pm α:=fun s=>
 if isP a s=true then
  if s.deep=64 then .err 51 s.hd.at_
  else (body { s.adv with deep:=s.deep+1 }).bind fun x s=>
   if z=[] then .ok x { s with deep:=s.deep-1 }
   else (xY z s).bind fun _ s=>.ok x { s with deep:=s.deep-1 }
 else .err 50 s.hd.at_
inductive Ex where
 | leaf (kind pos:Nat) (text:Bs) (num:Int)
 | neg (pos:Nat) (a:Ex)
 | bin (kind pos:Nat) (a b:Ex)
 deriving DecidableEq
def Ex.pos:Ex→Nat
 | .leaf _ p _ _=>p
 | .neg p _=>p
 | .bin _ p _ _=>p
def YI:List (Bs × Nat):=[([42],25)]
def ZL:List (Bs × Nat):=[([43],23),([45],24)]
def zCn (ms:List (Bs × Nat))(s:Ps):Option Nat:=(ms.find? fun m=>isP m.1 s).map Prod.snd
def YW (ms:List (Bs × Nat))(part:Pm Ex):Nat→Ex→Pm Ex
 | 0,_,_=>.err 0 0
 | f+1,e,s=>match zCn ms s with
  | none=>.ok e s
  | some k=>(part s.adv).bind fun r s=>YW ms part f (.bin k e.pos e r) s
def XD (ms:List (Bs × Nat))(part:Pm Ex):Pm Ex:=fun s=>(part s).bind fun e s=>YW ms part (s.ts.length+1) e s
def zSi (part:Pm Ex):Pm Ex:=XD YI part
def zEn (part:Pm Ex):Pm Ex:=XD ZL (zSi part)
def vM:Nat→Pm Ex
 | 0,_=>.err 0 0
 | f+1,s=>
  if s.hd.kind=1 then .ok (.leaf 22 s.hd.at_ s.hd.text 0) s.adv
  else if s.hd.kind=2 then .ok (.leaf 21 s.hd.at_ [] s.hd.n) s.adv
  else if isP [45] s=true then (vR [45] [] (vM f) s).bind fun a t=>.ok (.neg s.hd.at_ a) t
  else vR [40] [41] (zEn (vM f)) s
def zKr:Pm Ex:=fun s=>zEn (vM s.ts.length) s
def JW (i:Nat):Ex→Ps→Ps
 | .leaf k p t n,s=>(s.kid i).add ⟨k,p,t,n,[]⟩
 | .neg p a,s=>JW s.nd.length a ((s.kid i).add ⟨26,p,[],0,[]⟩)
 | .bin k p a b,s=>JW s.nd.length b (JW s.nd.length a ((s.kid i).add ⟨k,p,[],0,[]⟩))
def JS (i:Nat):Pm Unit:=fun s=>(zKr s).bind fun e s=>.ok () (JW i e s)
def zAG (one:Pm Unit):Nat→Pm Unit
 | 0,_=>.err 0 0
 | f+1,s=>if isP [44] s=true then (one s.adv).bind fun _ s=>zAG one f s else .ok () s
def XV (one:Pm Unit):Pm Unit:=fun s=>(one s).bind fun _ s=>zAG one (s.ts.length+1) s
def zCI (i:Nat):Pm Unit:=vR [91] [93] (JS i)
def zG9 (i:Nat):Pm Unit:=fun s=>(jC s.nd.length (s.yX i 20)).bind fun _ t=>zCI s.nd.length t
def zGF (i:Nat):Pm Unit:=fun s=>(zG9 i s).bind fun _ s=>(xY [46] s).bind fun _ s=>JA i s
def YF (st:Nat→Pm Unit)(i:Nat):Nat→Pm Unit
 | 0,_=>.err 0 0
 | f+1,s=>if isP [125] s=true then .ok () s else (st i s).bind fun _ s=>YF st i f s
def ZC (st:Nat→Pm Unit)(i:Nat):Pm Unit:=fun s=>vR [123] [125] (fun t=>YF st s.nd.length (t.ts.length+1) t) (s.yX i 6)
def zGC (i:Nat):Pm Unit:=fun s=>(jC i s).bind fun _ s=>(xY [61] s).bind fun _ s=>(zGF i s).bind fun _ s=>
 if isP [102,111,114] s=true then (xY [117,112,100,97,116,101] s.adv).bind fun _ s=>.ok () (s.num i 1) else .ok () s
def zL2 (i:Nat):Pm Unit:=fun s=>(zGF i s).bind fun _ s=>(xY [61] s).bind fun _ s=>JS i s
def zCu (i:Nat):Pm Unit:=fun s=>(zG9 i s).bind fun _ s=>(xY [40] s).bind fun _ s=>(XV (JS i) s).bind fun _ s=>xY [41] s
def zF5 (i:Nat):Pm Unit:=fun s=>(jC i s).bind fun _ s=>(xY [61] s).bind fun _ s=>(JA i s).bind fun _ s=>(xY [46] s).bind fun _ s=>JA i s
def zGg (i:Nat):Pm Unit:=fun s=>(JA i s).bind fun _ s=>if isP [97,108,108] s=true then .ok () (s.adv.num i 1) else xY [115,104,97,114,101,100] s
def zBh (i:Nat):Pm Unit:=fun s=>(jC s.nd.length (s.yX i 5)).bind fun _ t=>if isP [91] t=true then zCI s.nd.length (t.kind s.nd.length 20) else .ok () t
def zCR (i:Nat):Pm Unit:=fun s=>if isP [61,61] s=true then .ok () (s.adv.num i 1) else xY [60] s
def zAR (st:Nat→Pm Unit)(i:Nat):Pm Unit:=fun s=>if isP [101,108,115,101] s=true then ZC st i s.adv else .ok () s
def zBi (st:Nat→Pm Unit)(i:Nat):Pm Unit:=fun s=>(JS i s).bind fun _ s=>(zCR i s).bind fun _ s=>(JS i s).bind fun _ s=>(ZC st i s).bind fun _ s=>zAR st i s
def zD7 (st:Nat→Pm Unit)(i:Nat):Pm Unit:=fun s=>(jC i s).bind fun _ s=>(xY [61] s).bind fun _ s=>(YL i s).bind fun _ s=>(xY [116,111] s).bind fun _ s=>(YL i s).bind fun _ s=>ZC st i s
def zLF (i:Nat):Pm Unit:=fun s=>(jC i s).bind fun _ s=>(xY [61] s).bind fun _ s=>JS i s
def zSR:Pm Unit:=fun s=>.ok () s
def YV:List (Bs × Nat):=[([114,101,97,100],7),([115,101,116],8),([112,117,116],9),([100,101,108,101,116,101],10),([115,99,97,110],11),([108,111,99,107],12),([114,101,108,101,97,115,101],13),([105,102],14),([102,111,114],15),([108,101,116],16),([101,109,105,116],17),([114,111,108,108,98,97,99,107],18),([99,104,111,112],19)]
def vP (t:Bs):Option Nat:=(YV.find? fun m=>m.1==t).map Prod.snd
def JB (st:Nat→Pm Unit)(k i:Nat):Pm Unit:=
 if k=7 then zGC i else if k=8 then zL2 i else if k=9 then zCu i else if k=10 then zG9 i else if k=11 then zF5 i
 else if k=12 then zGg i else if k=13 then zBh i else if k=14 then zBi st i else if k=15 then zD7 st i else if k=16 then zLF i
 else if k=17 then JS i else zSR
def YK:Nat→Nat→Pm Unit
 | 0,_,_=>.err 0 0
 | f+1,i,s=>match (if s.hd.kind=1 then vP s.hd.text else none) with
  | none=>.err 50 s.hd.at_
  | some k=>(JB (YK f) k s.nd.length (s.yX i k).adv).bind fun _ s=>if k=14∨k=15 then .ok () s else xY [59] s
def VN (i:Nat):Pm Unit:=fun s=>ZC (YK s.ts.length) i s
def zBb (i:Nat):Pm Unit:=fun s=>(xY [116,97,98,108,101] (s.yX i 2)).bind fun _ t=>(jC s.nd.length t).bind fun _ t=>(xY [40] t).bind fun _ t=>(XV (JA s.nd.length) t).bind fun _ t=>(xY [41] t).bind fun _ t=>xY [59] t
def VG (i:Nat):Pm Unit:=fun s=>let n:=s.nd.length; let t:=s.yX i 4; if isP [41] t=true then .ok () t else XV (JA n) t
def YE (i:Nat):Pm Unit:=fun s=>if isP [115,105,110,103,108,101] s=true then .ok () (s.adv.num i 1) else .ok () s
def zCS (i:Nat):Pm Unit:=fun s=>(xY [112,114,111,99] (s.yX i 3)).bind fun _ t=>(jC s.nd.length t).bind fun _ t=>(xY [40] t).bind fun _ t=>(VG s.nd.length t).bind fun _ t=>(xY [41] t).bind fun _ t=>
 (YE s.nd.length t).bind fun _ t=>VN s.nd.length t
def jT:Nat→Pm Unit
 | 0,_=>.err 0 0
 | f+1,s=>if s.hd.kind=4 then .ok () s
  else if isP [116,97,98,108,101] s=true then (zBb 0 s).bind fun _ s=>jT f s
  else if isP [112,114,111,99] s=true then (zCS 0 s).bind fun _ s=>jT f s
  else .err 50 s.hd.at_
def zDO:Pm Unit:=fun s=>jT (s.ts.length+1) (s.node 1)
inductive zGS where
 | ok (l:List Nd)
 | err (at_:Nat) (e:Int)
 deriving DecidableEq
def XF (ts:List Tok):zGS:=match zDO ⟨ts,[],0⟩ with
 | .ok _ s=>.ok s.nd
 | .err e p=>.err p e
end Go.Proofs.YtioffpjajhalaaaGreatDoor
