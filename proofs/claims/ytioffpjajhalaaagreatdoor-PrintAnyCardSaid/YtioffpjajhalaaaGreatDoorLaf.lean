/- errors.As at the two targets that diag uses, walked, of any error that diag makes. (and what follows of it). The conditions stand at each lemma. -/
import Derived.Test.YtioffpjajhalaaaGreatDoorLaa
import Derived.Test.YtioffpjajhalaaaGreatDoorLae
import Derived.Test.YtioffpjajhalaaaGreatDoorRows
import Derived.ChangeSame
import Derived.ChangeVars
import Derived.JoinedOf
import Derived.RowKit
import Derived.RowKitTokens
import Derived.LaidLaws
import Derived.LaidHandle
import Derived.Stop.Joined
import Derived.Lib.Builder
import Derived.Lib.AppendStr
import Derived.Lib.UnsafeStr
import Derived.Laws.Externs
set_option linter.unusedVariables false
set_option linter.unusedSimpArgs false
set_option maxRecDepth 100000
set_option maxHeartbeats 16000000
namespace Go.Proofs.YtioffpjajhalaaaGreatDoor
open Go Go.RowKit Go.Extern.Stop Go.Stop Go.Extern
inductive jZ where
 | num (n:Int)
 | at_ (g:Nat) (a l c e:Int)
 | inn (x:jZ) (s:ByteArray)
def jZ.ty:jZ→Nat
 | .num _=>54
 | .at_ ..=>107
 | .inn ..=>139
def jZ.dat:jZ→Value
 | .num n=>.int .i64 n
 | .at_ g ..=>.pointer (some ⟨g,0,none⟩)
 | .inn x s=>.agg #[.iface x.ty x.dat,.string s]
theorem jZ.zQO (n:Int):(jZ.num n).ty=54:=rfl
theorem jZ.zSY (g:Nat)(a l c e:Int):(jZ.at_ g a l c e).ty=107:=rfl
theorem jZ.zQU (x:jZ)(s:ByteArray):(jZ.inn x s).ty=139:=rfl
theorem jZ.zNc (n:Int):(jZ.num n).dat=.int .i64 n:=rfl
theorem jZ.zSF (g:Nat)(a l c e:Int):(jZ.at_ g a l c e).dat=.pointer (some ⟨g,0,none⟩):=rfl
theorem jZ.zNe (x:jZ)(s:ByteArray):(jZ.inn x s).dat=.agg #[.iface x.ty x.dat,.string s]:=rfl
def jZ.val (x:jZ):Value:=.iface x.ty x.dat
def jZ.ok (w:World):jZ→Prop
 | .num _=>True
 | .at_ g a l c e=>Blk w g 110 #[.int .i64 a,.int .i64 l,.int .i64 c,.int .i64 e]
 | .inn x _=>x.ok w
def jZ.code:jZ→Int
 | .num n=>n
 | .at_ _ _ _ _ e=>e
 | .inn x _=>x.code
def jZ.spot:jZ→Option Nat
 | .num _=>none
 | .at_ g ..=>some g
 | .inn x _=>x.spot
def jZ.deep:jZ→Nat
 | .num _=>0
 | .at_ ..=>1
 | .inn x _=>x.deep+1
theorem jZ.zSk {g:Nat}{t:TypeId}{cs:Array Value}{w w':World}(hg:Blk w g t cs)(ht:t≠110)(h:Mod g w w'):∀ {x:jZ},x.ok w→x.ok w'
 | .num _,_=>trivial
 | .at_ g' ..,hx=>h.blk hx (fun e=>by
   subst e;unfold jZ.ok Blk at hx;unfold Blk at hg;rw[hg] at hx;injection hx with hx;injection hx with _ hx
   exact ht hx)
 | .inn x _,hx=>jZ.zSk (x:=x) hg ht h hx
theorem jZ.zCB {w w':World}(h:Ext w w'):∀ {x:jZ},x.ok w→x.ok w'
 | .num _,_=>trivial
 | .at_ ..,hx=>Blk.ext hx h
 | .inn x _,hx=>jZ.zCB (x:=x) h hx
def GT (w:World):Prop:=w.cell? ⟨0,0,none⟩=some (.iface 180 (.agg #[.pointer (some ⟨5,25,none⟩)]))
theorem GT.lt {w:World}(h:GT w):0<w.heap.size:=by
 rcases Nat.eq_zero_or_pos w.heap.size with h0 | h1
 ·unfold GT at h; simp[World.cell?,h0] at h
 ·exact h1
theorem GT.ext {w w':World}(h:GT w)(hx:Ext w w'):GT w':=(hx.cell (p:=⟨0,0,none⟩) h.lt).trans h
theorem zKr (g:Nat)(a l c e:Int)(w:World)(h:Blk w g 110 #[.int .i64 a,.int .i64 l,.int .i64 c,.int .i64 e]) :
  Calls Tryz.prog 236 #[.pointer (some ⟨g,0,none⟩)] w fun ev w'=>ev=.returned (.iface 54 (.int .i64 e))∧w=w':=by
 have c3:=h.cell 3;clear h
 go_enter Tryz.func236,Tryz.ntmps236
 go_wp2_with fail
 go_ret;exact⟨rfl,rfl⟩
theorem zFb (v:Value)(s:ByteArray)(w:World) :
  Calls Tryz.prog 238 #[.agg #[v,.string s]] w fun ev w'=>ev=.returned v∧Ext w w':=by
 go_enter Tryz.func238,Tryz.ntmps238
 go_wp2_with fail
 go_ret;exact⟨rfl,Ext.alloc _ _⟩
theorem zRQ (v:jZ)(w:World)(hv:v.ok w)(t a:Nat)(old:Int)(ha:a<w.heap.size)(hta:t≠a)(hac:w.cell? ⟨a,0,none⟩=some (.pointer (some ⟨t,0,none⟩)))(ht:Blk w t 54 #[.int .i64 old]) :
  Calls Tryz.prog 107 #[.iface v.ty v.dat,.iface 106 (.pointer (some ⟨t,0,none⟩)),.agg #[.pointer (some ⟨5,106,none⟩),.pointer (some ⟨a,0,none⟩),.int .u64 150],.iface 180 (.agg #[.pointer (some ⟨5,54,none⟩)])] w
   fun e w'=>e=.returned (.bool true)∧Mod t w w'∧Blk w' t 54 #[.int .i64 v.code]:=by
 have AP:=@run_callFunc_extern Tryz.prog 104 _ (fun AE=>ReflectliteValue.unpack (AE.getD 0 (.tuple #[]))) Tryz.func104 (by kernel_rfl) (by kernel_rfl) (by kernel_rfl) (by kernel_rfl);have AN:=@run_callFunc_extern Tryz.prog 147 _ ReflectliteType.typeOf Tryz.func147 (by kernel_rfl) (by kernel_rfl) (by kernel_rfl) (by kernel_rfl);have AK:=@run_callFunc_extern Tryz.prog 243 _ (ReflectliteType.relation "AssignableTo" ReflectliteType.assignableTo) Tryz.func243 (by kernel_rfl) (by kernel_rfl) (by kernel_rfl) (by kernel_rfl);have AS:=@run_callFunc_extern Tryz.prog 148 _ (ReflectliteValue.method (ReflectliteValue.valueError "reflectlite.Value.Elem" 0) ReflectliteValue.elem) Tryz.func148 (by kernel_rfl) (by kernel_rfl) (by kernel_rfl) (by kernel_rfl);have AQ:=@run_callFunc_extern Tryz.prog 149 _ ReflectliteValue.set Tryz.func149 (by kernel_rfl) (by kernel_rfl) (by kernel_rfl) (by kernel_rfl);have mA:=zGY;have HV:=yD hv;have HT:=yD ht;have AI:=yD hac;have AO:=ht.lt;have AB:Hid (Ext w (w.alloc (.cells #[.pointer (some ⟨5,106,none⟩),.pointer (some ⟨a,0,none⟩),.int .u64 150] 158))):=yD (Ext.alloc _ _);have AL:Hid (Blk (w.alloc (.cells #[.pointer (some ⟨5,106,none⟩),.pointer (some ⟨a,0,none⟩),.int .u64 150] 158)) w.heap.size 158 #[.pointer (some ⟨5,106,none⟩),.pointer (some ⟨a,0,none⟩),.int .u64 150]):=yD (Blk.new _ _ _);clear hv ht hac
 go_enter Tryz.func107,Tryz.ntmps107
 go_wp2_with fail
 generalize (w.alloc (.cells #[.pointer (some ⟨5,106,none⟩),.pointer (some ⟨a,0,none⟩),.int .u64 150] 158))=w0 at *;generalize hq:w.heap.size=q at *;have HQ:=yD hq;clear hq
 go_loopg [0] (v.deep) (fun gk u wr=>∃x:jZ,x.deep=gk∧u=.iface x.ty x.dat∧Hid (x.ok wr∧x.code=v.code∧Ext w0 wr))
 case atStart=>exact⟨v,rfl,rfl,yD ⟨jZ.zCB AB.out HV.out,rfl,Ext.refl _⟩⟩
 case round=>
  obtain⟨x,rfl,rfl,HW⟩:=hrel;obtain⟨wa,rfl⟩:∃wa:World,wa=wr:=⟨_,rfl⟩;have HB:=yD (AL.out.ext HW.out.2.2);have AA:=yD ((HT.out.ext AB.out).ext HW.out.2.2);have AD:wa.cell? ⟨a,0,none⟩=some (.pointer (some ⟨t,0,none⟩)):=((AB.out.trans HW.out.2.2).cell (p:=⟨a,0,none⟩) (by rw[HQ.out]; exact ha)).trans AI.out;have AR:w.heap.size≤wa.heap.size:=(AB.out.trans HW.out.2.2).size;have b0:=HB.out.cell 0;have b1:=HB.out.cell 1;have b2:=HB.out.cell 2;have t0:=AA.out.cell 0;have f0:=AA.out.frozen 0
  cases x with
  | num n=>
   rw[jZ.zQO,jZ.zNc];have tO:=zHK;have aN:=zRT;have vO:=zJZ;have el:=zLO ⟨a,0,none⟩ ⟨t,0,none⟩ wa AD;have st:=zRF ⟨t,0,none⟩ ⟨wa.heap.size,0,none⟩ n (.int .i64 old) (wa.alloc (.cells #[.int .i64 n] 54)) (by simp) (((AA.out.alloc _).cell 0)) ((AA.out.alloc _).frozen 0);have HC:Hid (n=v.code):=yD HW.out.2.1;have HM:Hid (Mod t w ((wa.alloc (.cells #[.int .i64 n] 54)).setCell ⟨t,0,none⟩ (.int .i64 n))):=yD ((((Mod.jY (AB.out.trans HW.out.2.2) t)).alloc _).setCell 0 _);have AJ:Hid (Blk ((wa.alloc (.cells #[.int .i64 n] 54)).setCell ⟨t,0,none⟩ (.int .i64 n)) t 54 #[.int .i64 n]):=yD ((AA.out.alloc _).put 0 _)
   go_wp2
   go_ret;rw[←HC.out];exact⟨rfl,HM.out,AJ.out⟩
  | at_ g pa pl pc pe=>
   rw[jZ.zSY,jZ.zSF];have tO:=zMc;have aN:=zRU;have nA:=zRa;have uE:=zR4;have mU:=zQn;have HE:=yD (zKr g pa pl pc pe wa HW.out.1)
   go_wp2_with (go_at_call 236; refine HE.out.mono ?_; rintro e' w' ⟨rfl,rfl⟩)
   go_roundg 0
   case measure=>exact Nat.zero_lt_one
   case rel=>exact⟨.num pe,rfl,rfl,yD ⟨trivial,HW.out.2.1,HW.out.2.2⟩⟩
  | inn y s=>
   rw[jZ.zQU,jZ.zNe];have tO:=zHn;have aN:=zRX;have nA:=zKO;have uE:=zNu;have mU:=zJ7;obtain⟨yt,AF⟩:∃yt,y.ty=yt:=⟨_,rfl⟩;obtain⟨yd,AC⟩:∃yd,y.dat=yd:=⟨_,rfl⟩;rw[AF,AC];have AM:=yD AF;have AH:=yD AC;clear AF AC;have HE:=yD (fun W=>zFb (.iface yt yd) s W)
   go_wp2_with (go_at_call 238; refine(HE.out _).mono ?_; rintro e' w' ⟨rfl,AG⟩)
   go_roundg (y.deep)
   case measure=>exact Nat.lt_succ_self _
   case rel=>exact⟨y,rfl,by rw[AM.out,AH.out],yD ⟨jZ.zCB AG (x:=y) HW.out.1,HW.out.2.1,HW.out.2.2.trans AG⟩⟩
theorem zPS (v:jZ)(w:World)(hv:v.ok w)(hsp:v.spot=none)(t a:Nat)(ha:a<w.heap.size)(hta:t≠a)(hac:w.cell? ⟨a,0,none⟩=some (.pointer (some ⟨t,0,none⟩)))(ht:Blk w t 107 #[.pointer none]) :
  Calls Tryz.prog 107 #[.iface v.ty v.dat,.iface 108 (.pointer (some ⟨t,0,none⟩)),.agg #[.pointer (some ⟨5,108,none⟩),.pointer (some ⟨a,0,none⟩),.int .u64 150],.iface 180 (.agg #[.pointer (some ⟨5,107,none⟩)])] w
   fun e w'=>e=.returned (.bool false)∧Ext w w':=by
 have AQ:=@run_callFunc_extern Tryz.prog 104 _ (fun AC=>ReflectliteValue.unpack (AC.getD 0 (.tuple #[]))) Tryz.func104 (by kernel_rfl) (by kernel_rfl) (by kernel_rfl) (by kernel_rfl);have AN:=@run_callFunc_extern Tryz.prog 147 _ ReflectliteType.typeOf Tryz.func147 (by kernel_rfl) (by kernel_rfl) (by kernel_rfl) (by kernel_rfl);have AJ:=@run_callFunc_extern Tryz.prog 243 _ (ReflectliteType.relation "AssignableTo" ReflectliteType.assignableTo) Tryz.func243 (by kernel_rfl) (by kernel_rfl) (by kernel_rfl) (by kernel_rfl);have AT:=@run_callFunc_extern Tryz.prog 148 _ (ReflectliteValue.method (ReflectliteValue.valueError "reflectlite.Value.Elem" 0) ReflectliteValue.elem) Tryz.func148 (by kernel_rfl) (by kernel_rfl) (by kernel_rfl) (by kernel_rfl);have AR:=@run_callFunc_extern Tryz.prog 149 _ ReflectliteValue.set Tryz.func149 (by kernel_rfl) (by kernel_rfl) (by kernel_rfl) (by kernel_rfl);have mA:=zGY;have HV:=yD hv;have HT:=yD ht;have AH:=yD hac;have AL:=yD hsp;have AO:=ht.lt;have AA:Hid (Ext w (w.alloc (.cells #[.pointer (some ⟨5,108,none⟩),.pointer (some ⟨a,0,none⟩),.int .u64 150] 158))):=yD (Ext.alloc _ _);have AK:Hid (Blk (w.alloc (.cells #[.pointer (some ⟨5,108,none⟩),.pointer (some ⟨a,0,none⟩),.int .u64 150] 158)) w.heap.size 158 #[.pointer (some ⟨5,108,none⟩),.pointer (some ⟨a,0,none⟩),.int .u64 150]):=yD (Blk.new _ _ _);clear hv ht hac hsp
 go_enter Tryz.func107,Tryz.ntmps107
 go_wp2_with fail
 generalize (w.alloc (.cells #[.pointer (some ⟨5,108,none⟩),.pointer (some ⟨a,0,none⟩),.int .u64 150] 158))=w0 at *;generalize hq:w.heap.size=q at *;have HQ:=yD hq;clear hq
 go_loopg [0] (v.deep) (fun gk u wr=>∃x:jZ,x.deep=gk∧u=.iface x.ty x.dat∧Hid (x.ok wr∧x.spot=v.spot∧Ext w0 wr))
 case atStart=>exact⟨v,rfl,rfl,yD ⟨jZ.zCB AA.out HV.out,rfl,Ext.refl _⟩⟩
 case round=>
  obtain⟨x,rfl,rfl,HW⟩:=hrel;obtain⟨wa,rfl⟩:∃wa:World,wa=wr:=⟨_,rfl⟩;have HB:=yD (AK.out.ext HW.out.2.2);have AE:=yD ((HT.out.ext AA.out).ext HW.out.2.2);have AG:wa.cell? ⟨a,0,none⟩=some (.pointer (some ⟨t,0,none⟩)):=((AA.out.trans HW.out.2.2).cell (p:=⟨a,0,none⟩) (by rw[HQ.out]; exact ha)).trans AH.out;have AS:w.heap.size≤wa.heap.size:=(AA.out.trans HW.out.2.2).size;have b0:=HB.out.cell 0;have b1:=HB.out.cell 1;have b2:=HB.out.cell 2;have t0:=AE.out.cell 0;have f0:=AE.out.frozen 0
  cases x with
  | num n=>
   rw[jZ.zQO,jZ.zNc];have tO:=zHK;have aN:=zRD;have nA:=zQB;have nU:=zNP;have AP:=zLQ;have HX:=yD (AA.out.trans HW.out.2.2)
   go_wp2_with fail
   go_ret;exact⟨rfl,HX.out⟩
  | at_ g' pa pl pc pe=>exact absurd (HW.out.2.1.trans AL.out) (by simp[jZ.spot])
  | inn y s=>
   rw[jZ.zQU,jZ.zNe];have tO:=zHn;have aN:=zRf;have nA:=zKO;have uE:=zNu;have mU:=zJ7;obtain⟨yt,AD⟩:∃yt,y.ty=yt:=⟨_,rfl⟩;obtain⟨yd,AB⟩:∃yd,y.dat=yd:=⟨_,rfl⟩;rw[AD,AB];have AM:=yD AD;have AI:=yD AB;clear AD AB;have HE:=yD (fun W=>zFb (.iface yt yd) s W)
   go_wp2_with (go_at_call 238; refine(HE.out _).mono ?_; rintro e' w' ⟨rfl,AF⟩)
   go_roundg (y.deep)
   case measure=>exact Nat.lt_succ_self _
   case rel=>exact⟨y,rfl,by rw[AM.out,AI.out],yD ⟨jZ.zCB AF (x:=y) HW.out.1,HW.out.2.1,HW.out.2.2.trans AF⟩⟩
theorem zRg (v:jZ)(w:World)(hG:GT w)(hv:v.ok w)(old:Int)(t:Nat)(ht:Blk w t 54 #[.int .i64 old]) :
  Calls Tryz.prog 61 #[.iface v.ty v.dat,.iface 106 (.pointer (some ⟨t,0,none⟩))] w fun e w'=>e=.returned (.bool true)∧Mod t w w'∧Blk w' t 54 #[.int .i64 v.code]:=by
 have AL:=@run_callFunc_extern Tryz.prog 104 _ (fun AC=>ReflectliteValue.unpack (AC.getD 0 (.tuple #[]))) Tryz.func104 (by kernel_rfl) (by kernel_rfl) (by kernel_rfl) (by kernel_rfl);have AR:=@run_callFunc_extern Tryz.prog 105 _ (ReflectliteValue.methodAny (ReflectliteValue.valueError "reflectlite.Value.Type" 0) (fun t _ _ _=>ReflectliteType.toType t)) Tryz.func105 (by kernel_rfl) (by kernel_rfl) (by kernel_rfl) (by kernel_rfl);have AP:=@run_callFunc_extern Tryz.prog 106 _ (ReflectliteValue.method (ReflectliteValue.valueError "reflectlite.Value.IsNil" 0) ReflectliteValue.isNil) Tryz.func106 (by kernel_rfl) (by kernel_rfl) (by kernel_rfl) (by kernel_rfl);have AM:=@run_callFunc_extern Tryz.prog 230 _ (ReflectliteType.abiMethod fun t=>do pure (.int .u8 (←Rtype.kind t))) Tryz.func230 (by kernel_rfl) (by kernel_rfl) (by kernel_rfl) (by kernel_rfl);have AI:=@run_callFunc_extern Tryz.prog 245 _ (ReflectliteType.method ReflectliteType.elem) Tryz.func245 (by kernel_rfl) (by kernel_rfl) (by kernel_rfl) (by kernel_rfl);have AG:=@run_callFunc_extern Tryz.prog 246 _ (ReflectliteType.relation "Implements" ReflectliteType.implements_) Tryz.func246 (by kernel_rfl) (by kernel_rfl) (by kernel_rfl) (by kernel_rfl);have mK:=zKd;have mE:=zLb;have mI:=zKh;have f6:=zJm;have f7:=zPp;have AS:=zND;have AO:=zP5;have AN:=zOj;have AQ:=zPz;have AJ:=ht.lt
 have AB:Ext w ((w.alloc (.cells #[.pointer (some ⟨t,0,none⟩)] 106)).alloc (.cells #[.pointer (some ⟨5,106,none⟩),.pointer (some ⟨w.heap.size,0,none⟩),.int .u64 150] 158)):=(Ext.alloc _ _).trans (Ext.alloc _ _)
 have AA:((w.alloc (.cells #[.pointer (some ⟨t,0,none⟩)] 106)).alloc (.cells #[.pointer (some ⟨5,106,none⟩),.pointer (some ⟨w.heap.size,0,none⟩),.int .u64 150] 158)).cell? ⟨w.heap.size,0,none⟩=some (.pointer (some ⟨t,0,none⟩)):=by
  have h:=((Blk.new w 106 #[.pointer (some ⟨t,0,none⟩)]).alloc (.cells #[.pointer (some ⟨5,106,none⟩),.pointer (some ⟨w.heap.size,0,none⟩),.int .u64 150] 158)).cell 0;exact h
 have AF:=yD AB;have HC:=yD (zRQ v ((w.alloc (.cells #[.pointer (some ⟨t,0,none⟩)] 106)).alloc (.cells #[.pointer (some ⟨5,106,none⟩),.pointer (some ⟨w.heap.size,0,none⟩),.int .u64 150] 158)) (jZ.zCB AB hv) t w.heap.size old (by simp; omega) (by omega) AA (ht.ext AB));have AK:((w.alloc (.cells #[.pointer (some ⟨t,0,none⟩)] 106)).alloc (.cells #[.pointer (some ⟨5,106,none⟩),.pointer (some ⟨w.heap.size,0,none⟩),.int .u64 150] 158)).cell? ⟨0,0,none⟩=some (.iface 180 (.agg #[.pointer (some ⟨5,25,none⟩)])):=hG.ext AB;have n8:=zMN ⟨w.heap.size,0,none⟩ ⟨t,0,none⟩ ((w.alloc (.cells #[.pointer (some ⟨t,0,none⟩)] 106)).alloc (.cells #[.pointer (some ⟨5,106,none⟩),.pointer (some ⟨w.heap.size,0,none⟩),.int .u64 150] 158)) AA;have AH:=hG;unfold GT at AH;obtain⟨vt,AE⟩:∃vt,v.ty=vt:=⟨_,rfl⟩;obtain⟨vd,AD⟩:∃vd,v.dat=vd:=⟨_,rfl⟩;rw[AE,AD] at HC ⊢;clear AE AD AB AA hG hv ht
 go_enter Tryz.func61,Tryz.ntmps61
 go_wp2_with (go_at_call 107; refine HC.out.mono ?_; rintro e w' ⟨rfl,hm,hb⟩)
 go_ret;exact⟨rfl,(Mod.jY AF.out t).trans hm,hb⟩
theorem zQR (v:jZ)(w:World)(hG:GT w)(hv:v.ok w)(hsp:v.spot=none)(t:Nat)(ht:Blk w t 107 #[.pointer none]) :
  Calls Tryz.prog 61 #[.iface v.ty v.dat,.iface 108 (.pointer (some ⟨t,0,none⟩))] w fun e w'=>e=.returned (.bool false)∧Ext w w':=by
 have AL:=@run_callFunc_extern Tryz.prog 104 _ (fun AC=>ReflectliteValue.unpack (AC.getD 0 (.tuple #[]))) Tryz.func104 (by kernel_rfl) (by kernel_rfl) (by kernel_rfl) (by kernel_rfl);have AR:=@run_callFunc_extern Tryz.prog 105 _ (ReflectliteValue.methodAny (ReflectliteValue.valueError "reflectlite.Value.Type" 0) (fun t _ _ _=>ReflectliteType.toType t)) Tryz.func105 (by kernel_rfl) (by kernel_rfl) (by kernel_rfl) (by kernel_rfl);have AP:=@run_callFunc_extern Tryz.prog 106 _ (ReflectliteValue.method (ReflectliteValue.valueError "reflectlite.Value.IsNil" 0) ReflectliteValue.isNil) Tryz.func106 (by kernel_rfl) (by kernel_rfl) (by kernel_rfl) (by kernel_rfl);have AM:=@run_callFunc_extern Tryz.prog 230 _ (ReflectliteType.abiMethod fun t=>do pure (.int .u8 (←Rtype.kind t))) Tryz.func230 (by kernel_rfl) (by kernel_rfl) (by kernel_rfl) (by kernel_rfl);have AI:=@run_callFunc_extern Tryz.prog 245 _ (ReflectliteType.method ReflectliteType.elem) Tryz.func245 (by kernel_rfl) (by kernel_rfl) (by kernel_rfl) (by kernel_rfl);have AG:=@run_callFunc_extern Tryz.prog 246 _ (ReflectliteType.relation "Implements" ReflectliteType.implements_) Tryz.func246 (by kernel_rfl) (by kernel_rfl) (by kernel_rfl) (by kernel_rfl);have mK:=zKd;have mE:=zLb;have mI:=zKh;have f6:=zJr;have f7:=zNM;have AS:=zN5;have AO:=zQD;have AN:=zNS;have AQ:=zPW;have AJ:=ht.lt
 have AB:Ext w ((w.alloc (.cells #[.pointer (some ⟨t,0,none⟩)] 108)).alloc (.cells #[.pointer (some ⟨5,108,none⟩),.pointer (some ⟨w.heap.size,0,none⟩),.int .u64 150] 158)):=(Ext.alloc _ _).trans (Ext.alloc _ _)
 have AA:((w.alloc (.cells #[.pointer (some ⟨t,0,none⟩)] 108)).alloc (.cells #[.pointer (some ⟨5,108,none⟩),.pointer (some ⟨w.heap.size,0,none⟩),.int .u64 150] 158)).cell? ⟨w.heap.size,0,none⟩=some (.pointer (some ⟨t,0,none⟩)):=by
  have h:=((Blk.new w 108 #[.pointer (some ⟨t,0,none⟩)]).alloc (.cells #[.pointer (some ⟨5,108,none⟩),.pointer (some ⟨w.heap.size,0,none⟩),.int .u64 150] 158)).cell 0;exact h
 have AF:=yD AB;have HC:=yD (zPS v ((w.alloc (.cells #[.pointer (some ⟨t,0,none⟩)] 108)).alloc (.cells #[.pointer (some ⟨5,108,none⟩),.pointer (some ⟨w.heap.size,0,none⟩),.int .u64 150] 158)) (jZ.zCB AB hv) hsp t w.heap.size (by simp; omega) (by omega) AA (ht.ext AB));have AK:((w.alloc (.cells #[.pointer (some ⟨t,0,none⟩)] 108)).alloc (.cells #[.pointer (some ⟨5,108,none⟩),.pointer (some ⟨w.heap.size,0,none⟩),.int .u64 150] 158)).cell? ⟨0,0,none⟩=some (.iface 180 (.agg #[.pointer (some ⟨5,25,none⟩)])):=hG.ext AB;have n8:=zMq ⟨w.heap.size,0,none⟩ ⟨t,0,none⟩ ((w.alloc (.cells #[.pointer (some ⟨t,0,none⟩)] 108)).alloc (.cells #[.pointer (some ⟨5,108,none⟩),.pointer (some ⟨w.heap.size,0,none⟩),.int .u64 150] 158)) AA;have AH:=hG;unfold GT at AH;obtain⟨vt,AE⟩:∃vt,v.ty=vt:=⟨_,rfl⟩;obtain⟨vd,AD⟩:∃vd,v.dat=vd:=⟨_,rfl⟩;rw[AE,AD] at HC ⊢;clear AE AD AB AA hG hv ht
 go_enter Tryz.func61,Tryz.ntmps61
 go_wp2_with (go_at_call 107; refine HC.out.mono ?_; rintro e w' ⟨rfl,hm⟩)
 go_ret;exact⟨rfl,AF.out.trans hm⟩
end Go.Proofs.YtioffpjajhalaaaGreatDoor
namespace Go.Proofs.YtioffpjajhalaaaGreatDoor
open Go.ChangeShapes Go.WideShapes Go.RowKit
def zMl:List (String × DataW Unit):=[("errors.errorType", Rows.laid_errors_errorType)]
theorem zRJ:Tryz.prog.globalNamed "errors.errorType" = some 0:=by kernel_rfl
theorem zRk:(Tryz.prog.cutTypes.find? (·.1 == "internal/reflectlite.rtype")).map (·.2) = some 180 := by kernel_rfl
theorem zJ0:((List.range 261).filter fun t=>Tryz.prog.rowNamed t [101,114,114,111,114])=[25]:=by kernel_rfl
theorem zNN:Tryz.prog.types.size=261:=by kernel_rfl
theorem zL6 {W:World}(h:laidMetH Tryz.prog zMl W):GT W:=by
 have h':laidMet Tryz.prog [] W∧handlesMet Tryz.prog zMl W:=h;obtain⟨AA,u,ty,e1,e2,e3,e4,e5⟩:=h'.2 _ (List.mem_singleton.2 rfl);have en:AA=[101,114,114,111,114]:=(Option.some.inj e1).symm;subst en;obtain rfl:=Option.some.inj (zRk.symm.trans e2);have hm:ty ∈ (List.range 261).filter fun t=>Tryz.prog.rowNamed t [101,114,114,111,114]:=List.mem_filter.2 ⟨List.mem_range.2 (by rw[←zNN]; exact e3),e4⟩;rw[zJ0] at hm;obtain rfl:=List.mem_singleton.1 hm
 have hh:typeHandle Tryz.prog 25=.pointer (some ⟨5,25,none⟩):=by kernel_rfl
 rw[hh] at e5;unfold GT
 simpa using World.var?_cell zRJ e5 0
end Go.Proofs.YtioffpjajhalaaaGreatDoor
namespace Go.Proofs.YtioffpjajhalaaaGreatDoor
open Go Go.RowKit
structure PrS (w:World)(B g:Nat)(A:Option Addr)(n c:Nat)(v:Value)(bs:Bs)(d:Nat):Prop where
 lo:B≤g
 blk:Blk w g 82 #[.slice A n c,.pointer none,v,.int .i64 d]∨Blk w g 82 #[.slice A n c,.pointer (some ⟨g,1,none⟩),v,.int .i64 d]
 own:w.ownsRow B 5 1 v bs.length (xL bs)
structure vS (w w':World)(B g:Nat):Prop where
 os:w'.os=w.os
 tape:w'.tape=w.tape
 output:w'.output=w.output
 size:w.heap.size≤w'.heap.size
 JX:∀b,b<w.heap.size→b≠g→(b<B∨∀cs,¬Blk w b 5 cs)→w'.heap[b]?=w.heap[b]?
theorem vS.refl (w:World)(B g:Nat):vS w w B g:=⟨rfl,rfl,rfl,zU _,fun _ _ _ _=>rfl⟩
theorem vS.trans {w w1 w2:World}{B g:Nat}(h:vS w w1 B g)(k:vS w1 w2 B g):vS w w2 B g:=by
 refine⟨k.os.trans h.os,k.tape.trans h.tape,k.output.trans h.output,Nat.le_trans h.size k.size,fun b hb hg hM=>?_⟩;have h1:=h.JX b hb hg hM;rw[←h1];exact k.JX b (yR hb h.size) hg (hM.imp id fun hc cs AA=>hc cs (h1.symm.trans AA))
theorem vS.ext {w w':World}{B g:Nat}(h:Ext w w'):vS w w' B g:=⟨h.os,h.tape,h.output,h.size,fun b hb _ _=>h.block b hb⟩
theorem vS.blk {w w':World}{B g:Nat}(h:vS w w' B g){b:Nat}{t:TypeId}{cs:Array Value}(hb:Blk w b t cs)(hg:b≠g)(ht:t≠5):Blk w' b t cs:=
 (h.JX b hb.lt hg (.inr fun AA hc=>Blk.differ hb hc ht rfl)).trans hb
theorem vS.below {w w':World}{B g:Nat}(h:vS w w' B g)(hg:B≤g)(hB:B≤w.heap.size):Below B w w':=⟨h.os,h.tape,h.output,h.size,fun b hb=>h.JX b (by omega) (by omega) (.inl hb)⟩
theorem zGP {w:World}{B:Nat}{t:TypeId}{s n:Nat}{v:Value}{xs:List Value}(h:w.ownsRow B t s v n xs){b:Nat}(e:v.ownBlock=some b):B≤b∧b<w.heap.size∧∃cur,Blk w b t cur:=by
 rcases h.2 with ⟨hv,_⟩ | ⟨g,AA,cur,hv,hb,hh,_⟩
 ·rw[hv] at e; cases e
 ·rw[hv] at e
  have:g=b:=by simpa [Value.ownBlock] using e
  subst this;exact⟨hb,(Array.getElem?_eq_some_iff.1 hh).1,cur,hh⟩
theorem PrS.any {w:World}{B g:Nat}{A:Option Addr}{n c:Nat}{v:Value}{bs:Bs}{d:Nat}(h:PrS w B g A n c v bs d):∃ad,Blk w g 82 #[.slice A n c,ad,v,.int .i64 d]:=by
 rcases h.blk with h | h
 ·exact⟨_,h⟩
 ·exact⟨_,h⟩
theorem PrS.ne {w:World}{B g:Nat}{A:Option Addr}{n c:Nat}{v:Value}{bs:Bs}{d:Nat}(h:PrS w B g A n c v bs d):v.ownBlock≠some g:=fun e=>by
 obtain⟨_,_,AA,hc⟩:=zGP h.own e;obtain⟨ad,ha⟩:=h.any;exact Blk.differ ha hc (by decide) rfl
theorem zNo:(Tryz.prog.info? 80).map (·.size)=some 2:=by kernel_rfl
theorem zRt:liesAt Tryz.prog Tryz.prog.depth 82 (4 / Tryz.prog.cellsOf 82) 1 80 1=true:=by kernel_rfl
theorem Blk.shape {w:World}{g:Nat}{t:TypeId}{cs:Array Value}(h:Blk w g t cs):w.shape? g=some (t,cs.size):=by
 unfold Blk at h;simp[World.shape?,h]
theorem zG2 (g:Nat)(w:World)(h0:w.cell? ⟨g,1,none⟩=some (.pointer (some ⟨g,1,none⟩))) :
  Calls Tryz.prog 136 #[.pointer (some ⟨g,1,none⟩)] w fun e w'=>e=.returned (.tuple #[])∧w'=w:=by
 obtain⟨j,hj,_⟩:=Option.map_eq_some_iff.1 zNo
 go_enter Tryz.func136,Tryz.ntmps136
 go_wp2
 rw[Lib.run_neq_ptr_same w _ Tryz.underlying78 hj]
 go_wp2
 go_end0;exact⟨rfl,rfl⟩
theorem zFP (g:Nat)(w:World)(cs:Array Value)(hb:Blk w g 82 cs)(hs:cs.size=4)(h0:cs[1]?=some (.pointer none)) :
  Calls Tryz.prog 136 #[.pointer (some ⟨g,1,none⟩)] w fun e w'=>e=.returned (.tuple #[])∧w'=w.setCell ⟨g,1,none⟩ (.pointer (some ⟨g,1,none⟩)):=by
 obtain⟨j,hj,AB⟩:=Option.map_eq_some_iff.1 zNo;have c0:w.cell? ⟨g,1,none⟩=some (.pointer none):=(hb.cell 1).trans h0;have AC:=hb.frozen 1
 have AA:w.shape? g=some (82,4):=by rw[hb.shape,hs]
 clear hb h0
 go_enter Tryz.func136,Tryz.ntmps136
 go_wp2
 rw[Lib.run_to_unsafe w ⟨g,1,none⟩ Tryz.underlying78 Tryz.underlying155 hj (by rw[AB]; decide) AA (show 1<4 by decide)];simp only[Result.andThen];rw[Oper.upon_value]
 go_wp2
 rw[run_callFunc_extern Tryz.func166 (by kernel_rfl) (by kernel_rfl) (by kernel_rfl) (e:=Extern.AbiNoEscape.same) (by kernel_rfl)];rw[Lib.run_noEscape];simp only[Result.andThen];rw[Oper.upon_value]
 go_wp2
 rw[Lib.run_from_unsafe w ⟨g,1,none⟩ Tryz.underlying155 Tryz.underlying78 hj AA zRt];simp only[Result.andThen];rw[Oper.upon_value]
 go_wp2
 go_end0;exact⟨rfl,rfl⟩
def PrU (w:World)(B g:Nat)(A:Option Addr)(n c:Nat)(v:Value)(bs:Bs)(d:Nat):Prop:=Blk w g 82 #[.slice A n c,.pointer (some ⟨g,1,none⟩),v,.int .i64 d]∧w.ownsRow B 5 1 v bs.length (xL bs)
theorem PrU.prS {w:World}{B g:Nat}{A:Option Addr}{n c:Nat}{v:Value}{bs:Bs}{d:Nat}(h:PrU w B g A n c v bs d)(hB:B≤g):PrS w B g A n c v bs d:=⟨hB,.inr h.1,h.2⟩
theorem zCc {w w':World}{B:Nat}{t:TypeId}{s n:Nat}{v:Value}{xs:List Value}(h:w.ownsRow B t s v n xs)(hk:∀b,v.ownBlock=some b→w'.heap[b]?=w.heap[b]?):w'.ownsRow B t s v n xs:=by
 refine⟨h.1,?_⟩
 rcases h.2 with hn | ⟨g',AB,AA,hv,hB,hh,r⟩
 ·exact .inl hn
 ·exact .inr ⟨g',AB,AA,hv,hB,(hk g' (by rw[hv]; rfl)).trans hh,r⟩
theorem zDy (w:World)(B g:Nat)(A:Option Addr)(n c:Nat)(v:Value)(bs:Bs)(d:Nat)(h:PrS w B g A n c v bs d) :
  Calls Tryz.prog 136 #[.pointer (some ⟨g,1,none⟩)] w fun e w'=>e=.returned (.tuple #[])∧PrU w' B g A n c v bs d∧vS w w' B g:=by
 have AA:=h.ne
 rcases h.blk with hb | hb
 ·refine(zFP g w _ hb rfl rfl).mono ?_;rintro e w' ⟨rfl,rfl⟩;have hk:∀b,b≠g→(w.setCell ⟨g,1,none⟩ (.pointer (some ⟨g,1,none⟩))).heap[b]?=w.heap[b]?:=fun b AB=>zQ _ _ _ _ AB;refine⟨rfl,⟨hb.put 1 _,zCc h.own fun b hb=>hk b fun e=>AA (by rw[hb,e])⟩,⟨rfl,rfl,rfl,by simp[World.setCell],fun b _ hM _=>hk b hM⟩⟩
 ·refine(zG2 g w (hb.cell 1)).mono ?_;rintro e w' ⟨rfl,rfl⟩;exact⟨rfl,⟨hb,h.own⟩,vS.refl _ _ _⟩
def zQ0 (w:World)(B g:Nat)(A:Option Addr)(n c:Nat)(bs:Bs)(d:Nat)(w':World):Prop:=(∃v,PrU w' B g A n c v bs d)∧vS w w' B g
theorem zQh:(Tryz.prog.info? 5).map (fun i=>(i.zero,i.size,i.bytes))=some (some (.int .u8 0),1,1):=by kernel_rfl
theorem zDc {w w':World}{B g:Nat}{v:Value}{m:Nat}{xs:List Value}(h:w.grownBy w' v.ownBlock)(ho:w.ownsRow B 5 1 v m xs):vS w w' B g:=by
 refine⟨h.os,h.tape,h.output,h.size,fun b hb _ hM=>h.block b hb fun e=>?_⟩;obtain⟨h1,_,AA,hc⟩:=zGP ho e.symm
 rcases hM with h2 | h2
 ·omega
 ·exact h2 AA hc
theorem zDx (w:World)(B g:Nat)(A:Option Addr)(n c:Nat)(v:Value)(bs:Bs)(d:Nat)(x:UInt8)(h:PrS w B g A n c v bs d)(hlen:bs.length+1≤140737488355328)(hBw:B≤w.heap.size) :
  Calls Tryz.prog 86 #[.pointer (some ⟨g,1,none⟩),.int .u8 (x.toNat:Int)] w fun e w'=>e=.returned .nilIface∧zQ0 w B g A n c (bs++[x]) d w':=by
 obtain⟨i0,hi,AO,AR,AM⟩:=info_parts zQh;have AU:=yD h.lo;have AA:=yD hlen;have AL:=yD hBw;have HC:=yD (zDy w B g A n c v bs d h);clear h hlen hBw
 go_enter Tryz.func86,Tryz.ntmps86
 go_wp2_with fail
 refine HC.out.mono ?_;rintro e w1 ⟨rfl,⟨AD,AK⟩,AH⟩;have AS:=yD AD;have AE:=yD AK;have AJ:=yD AH;have c2:w1.cell? ⟨g,2,none⟩=some v:=AD.cell 2;clear AD AK AH HC
 go_wp2_with (at_builtin; refine XP rfl _ _ 22 rfl B 5 i0 (.int .u8 0) 1 1 Tryz.underlying22 hi AO AR AM rfl (by decide) v bs.length (xL bs) rfl (AE.out.alloc _) (some ⟨w1.heap.size,0,none⟩) 1 1 [.int .u8 (x.toNat:Int)] rfl (fun h=>by cases h) rfl ?c1 ?c2 ?c3 ?c4 ?c5 ?_)
 case c1=>exact Cells.new w1 5 #[.int .u8 (x.toNat:Int)]
 case c2=>intro u hu; simp at hu; subst hu; rfl
 case c3=>have:=AA.out; unfold maxLen; omega
 case c4=>have:=AA.out; omega
 case c5=>have:=AJ.out.size; have:=AL.out; simp; omega
 intro A2 k2 w2 AT AG AC;have AI:=yD AG;have AP:Hid (vS w w2 B g):=yD (AJ.out.trans ((vS.ext (Ext.alloc w1 _)).trans (zDc AC (AE.out.alloc _))));have AB:Blk w2 g 82 #[.slice A n c,.pointer (some ⟨g,1,none⟩),v,.int .i64 d]:=((vS.ext (B:=B) (g:=g+1) (Ext.alloc w1 _)).trans (zDc AC (AE.out.alloc _))).blk AS.out (by omega) (by decide);have AF:=yD AB;have e2:w2.cell? ⟨g,2,none⟩=some v:=AB.cell 2;have f2:=AB.frozen 2;clear AT AG AC AB c2
 go_wp2_with fail
 go_ret
 have AN:∀b,(Value.slice A2 (bs.length+1) k2).ownBlock=some b→b≠g:=fun b hb e=>by
  obtain⟨_,_,AV,hc⟩:=zGP AI.out hb;subst e;exact Blk.differ AF.out hc (by decide) rfl
 have hk:∀b,b≠g→(w2.setCell ⟨g,2,none⟩ (.slice A2 (bs.length+1) k2)).heap[b]?=w2.heap[b]?:=fun b AQ=>zQ _ _ _ _ AQ;refine⟨rfl,⟨.slice A2 (bs.length+1) k2,AF.out.put 2 _,?_⟩,AP.out.trans ⟨rfl,rfl,rfl,by simp[World.setCell],fun b _ hM _=>hk b hM⟩⟩
 have:=zCc AI.out fun b hb=>hk b (AN b hb)
 simpa [xL] using this
theorem zMW (l:Bs):(yX l).size=l.length:=by simp[yX,ByteArray.size]
theorem zLo (a b:Bs):xL (a++b)=xL a++xL b:=by simp[xL]
theorem zFK (w:World)(B g:Nat)(A:Option Addr)(n c:Nat)(v:Value)(bs:Bs)(d:Nat)(s:Bs)(h:PrS w B g A n c v bs d)(hlen:bs.length+s.length≤140737488355328)(hBw:B≤w.heap.size) :
  Calls Tryz.prog 87 #[.pointer (some ⟨g,1,none⟩),.string (yX s)] w fun e w'=>e=.returned (.tuple #[.int .i64 (s.length:Int),.nilIface])∧zQ0 w B g A n c (bs++s) d w':=by
 obtain⟨i0,hi,AQ,AT,AO⟩:=info_parts zQh;have AW:=yD h.lo;have AB:=yD hlen;have AN:=yD hBw;have HC:=yD (zDy w B g A n c v bs d h);have AE:=zMW s;clear h hlen hBw
 go_enter Tryz.func87,Tryz.ntmps87
 go_wp2_with fail
 refine HC.out.mono ?_;rintro e w1 ⟨rfl,⟨AG,AM⟩,AJ⟩;have AU:=yD AG;have AH:=yD AM;have AL:=yD AJ;have c2:w1.cell? ⟨g,2,none⟩=some v:=AG.cell 2;have AA:=yD AE;clear AG AM AJ HC AE
 go_wp2_with (at_builtin; refine Lib.wpList_append_own_string _ rfl _ _ 22 9 rfl B 5 i0 Tryz.underlying22 Tryz.underlying9 hi AQ AT AO _ _ _ rfl AH.out (yX s) rfl ?c3 ?c4 ?c5 ?_)
 case c3=>rw[AA.out]; have:=AB.out; unfold maxLen; omega
 case c4=>rw[AA.out]; have:=AB.out; omega
 case c5=>have:=AL.out.size; have:=AN.out; omega
 intro v2 w2 AD AF _
 obtain⟨A2,k2,rfl⟩:∃A2 k2,v2=.slice A2 (bs.length+s.length) k2:=by
  rcases AD.2 with ⟨hv,h0⟩ | ⟨g',AX,AV,hv,_⟩
  ·rw[AA.out] at h0;exact⟨none,0,by rw[hv,h0]⟩
  ·rw[AA.out] at hv;exact⟨_,_,hv⟩
 rw[AA.out] at AD;have AK:=yD AD;have AR:Hid (vS w w2 B g):=yD (AL.out.trans (zDc AF AH.out));have AC:Blk w2 g 82 #[.slice A n c,.pointer (some ⟨g,1,none⟩),v,.int .i64 d]:=(zDc (g:=g+1) AF AH.out).blk AU.out (by omega) (by decide);have AI:=yD AC;have e2:w2.cell? ⟨g,2,none⟩=some v:=AC.cell 2;have f2:=AC.frozen 2;have AE:=AA.out;clear AD AF AC c2
 go_wp2_with fail
 go_ret2
 have AP:∀b,(Value.slice A2 (bs.length+s.length) k2).ownBlock=some b→b≠g:=fun b hb e=>by
  obtain⟨_,_,AV,hc⟩:=zGP AK.out hb;subst e;exact Blk.differ AI.out hc (by decide) rfl
 have hk:∀b,b≠g→(w2.setCell ⟨g,2,none⟩ (.slice A2 (bs.length+s.length) k2)).heap[b]?=w2.heap[b]?:=fun b AS=>zQ _ _ _ _ AS;refine⟨by first | rfl | simp[AE],⟨.slice A2 (bs.length+s.length) k2,AI.out.put 2 _,?_⟩,AR.out.trans ⟨rfl,rfl,rfl,by simp[World.setCell],fun b _ hM _=>hk b hM⟩⟩
 have:=zCc AK.out fun b hb=>hk b (AP b hb)
 rw[yM,zLo];exact this
def xV (d:Nat)(ps:List Bs):Bs:=List.replicate d 9++(ps.flatten++[10])
def JM (ps:List Bs):Array Value:=(ps.map fun s=>Value.string (yX s)).toArray
theorem jV (w:World)(B g:Nat)(A:Option Addr)(n c:Nat)(v:Value)(bs:Bs)(d:Nat)(ps:List Bs)(pb k0:Nat)(h:PrS w B g A n c v bs d)(hk0:k0=ps.length)(hd:d≤1000000)(hps:ps.length≤1000)(hpb:Blk w pb 9 (JM ps))(hpg:pb≠g)(hlen:(bs++xV d ps).length≤140737488355328)(hBw:B≤w.heap.size) :
  Calls Tryz.prog 41 #[.pointer (some ⟨g,0,none⟩),.slice (some ⟨pb,0,none⟩) k0 k0] w fun e w'=>e=.returned (.tuple #[])∧zQ0 w B g A n c (bs++xV d ps) d w':=by
 subst hk0;have AG:=yD h.lo;have HS:=yD h;have AH:=yD hpb;have AC:=yD hBw;have AI:=yD hps;have AJ:=yD hd;have AE:Hid (bs.length+d+ps.flatten.length+1≤140737488355328):=yD (by unfold xV at hlen; simp only[yM,zC,zJ,zK] at hlen; omega)
 have x3:w.cell? ⟨g,3,none⟩=some (.int .i64 d):=by obtain⟨ad,hb⟩:=h.any; exact hb.cell 3
 clear h hpb hBw hlen hd hps
 go_enter Tryz.func41,Tryz.ntmps41
 go_wp2_with fail
 clear x3
 go_loopw [10] (fun i wr=>∃(k:Nat) (v:Value),k≤d∧i=.int .i64 k∧Hid (PrS wr B g A n c v (bs++List.replicate k 9) d)∧Hid (vS w wr B g)) (fun i _=>d-(intOf i).toNat)
 case atStart=>exact⟨0,v,zT _,rfl,yD (by simpa using HS.out),yD (vS.refl _ _ _)⟩
 case round=>
  obtain⟨k,v1,hk,rfl,HP,HM⟩:=hrel;obtain⟨wa,rfl⟩:∃wa:World,wa=wr:=⟨_,rfl⟩;have AN:=AJ.out
  by_cases AA:k<d
  ·have d0:decide ((k:Int)<(d:Int))=true:=yP (by omega);have d1:decide (k<d)=true:=yP AA;have HW:=yD (zDx wa B g A n c v1 (bs++List.replicate k 9) d 9 HP.out (by have:=AE.out; simp; omega) (Nat.le_trans AC.out HM.out.size))
   go_wp2_with fail
   refine HW.out.mono ?_;rintro e w2 ⟨rfl,⟨v2,hu⟩,hm⟩
   have HU:Hid (PrS w2 B g A n c v2 (bs++List.replicate (k+1) 9) d):=yD (by
    have:=hu.prS AG.out
    rw[List.append_assoc,←List.replicate_succ'] at this
    exact this)
   have AB:=yD (HM.out.trans hm);clear hu hm HW
   go_wp2_with fail
   go_roundw
   case rel=>exact⟨k+1,v2,by omega,by go_num,HU,AB⟩
   case measure=>simp[intOf]; omega
  ·obtain rfl:k=d:=by omega
   have d0:decide ((k:Int)<(k:Int))=false:=by simp
   have d1:decide (k<k)=false:=by simp
   clear AA hk
   go_wp2_with fail
   clear d0 d1
   go_loopw [19] (fun i wr=>∃(j:Nat) (v:Value),j≤ps.length∧i=.int .i64 j∧Hid (PrS wr B g A n c v (bs++(List.replicate k 9++(ps.take j).flatten)) k)∧Hid (vS w wr B g)) (fun i _=>ps.length-(intOf i).toNat)
   case atStart=>exact⟨0,v1,zT _,rfl,yD (by simpa using HP.out),HM⟩
   case round=>
    clear HP HM;obtain⟨j,v2,hj,rfl,HP,HM⟩:=hrel;obtain⟨w3,rfl⟩:∃w3:World,w3=wr:=⟨_,rfl⟩;have AM:=AI.out
    by_cases AA:j<ps.length
    ·have d0:decide ((j:Int)<(ps.length:Int))=true:=yP (by omega);have d1:decide (j<ps.length)=true:=yP AA
     have q0:(j:Int)<(ps.length:Int):=by omega
     have AL:w3.cell? ⟨pb,j,none⟩=some (.string (yX ps[j])):=by
      rw[(HM.out.blk AH.out hpg (by decide)).cell j];simp[JM,AA]
     have AD:(ps.take (j+1)).flatten=(ps.take j).flatten++ps[j]:=by
      rw[List.take_add_one,yG AA,List.flatten_append]
      simp
     have AF:(ps.take (j+1)).flatten.length≤ps.flatten.length:=by
      conv=>rhs; rw[←List.take_append_drop (j+1) ps]
      rw[List.flatten_append,yM];omega
     rw[AD,yM] at AF;have HW:=yD (zFK w3 B g A n c v2 (bs++(List.replicate k 9++(ps.take j).flatten)) k ps[j] HP.out (by have:=AE.out; simp only[yM,zC]; omega) (Nat.le_trans AC.out HM.out.size));have AK:=yD AD;clear AD AF;generalize ps[j]=pj at *
     go_wp2_with fail
     refine HW.out.mono ?_;rintro e w4 ⟨rfl,⟨v4,hu⟩,hm⟩
     have HU:Hid (PrS w4 B g A n c v4 (bs++(List.replicate k 9++(ps.take (j+1)).flatten)) k):=yD (by
      have:=hu.prS AG.out
      rw[AK.out,←List.append_assoc (List.replicate k 9),←List.append_assoc bs]
      exact this)
     have AB:=yD (HM.out.trans hm);clear hu hm HW AL
     go_wp2_with fail
     go_roundw
     case rel=>exact⟨j+1,v4,by omega,by go_num,HU,AB⟩
     case measure=>simp[intOf]; omega
    ·obtain rfl:j=ps.length:=by omega
     have d0:decide ((ps.length:Int)<(ps.length:Int))=false:=by simp
     have d1:decide (ps.length<ps.length)=false:=by simp
     have HW:=yD (zDx w3 B g A n c v2 (bs++(List.replicate k 9++(ps.take ps.length).flatten)) k 10 HP.out (by have:=AE.out; rw[List.take_length]; simp only[yM,zC]; omega) (Nat.le_trans AC.out HM.out.size));clear AA hj
     go_wp2_with fail
     refine HW.out.mono ?_;rintro e w4 ⟨rfl,⟨v4,hu⟩,hm⟩
     have HU:Hid (PrU w4 B g A n c v4 (bs++xV k ps) k):=yD (by
      have:=hu
      rw[List.take_length] at this;unfold xV;rw[←List.append_assoc (List.replicate k 9),←List.append_assoc bs]
      exact this)
     have AB:=yD (HM.out.trans hm);clear hu hm HW
     go_wp2_with fail
     go_end0;exact⟨rfl,⟨v4,HU.out⟩,AB.out⟩
def zDj (k:Int):Int:=if k=23∨k=24 then 1 else if k=25 then 2 else 3
theorem zMV (k:Int)(w:World):Calls Tryz.prog 97 #[.int .u8 k] w fun e w'=>e=.returned (.int .i64 (zDj k))∧w=w':=by
 go_enter Tryz.func97,Tryz.ntmps97
 unfold zDj
 by_cases h3:k=23
 ·subst h3; go_wp2_with fail; go_ret; exact⟨rfl,rfl⟩
 by_cases h4:k=24
 ·subst h4; go_wp2_with fail; go_ret; exact⟨rfl,rfl⟩
 by_cases h5:k=25
 ·subst h5; go_wp2_with fail; go_ret; exact⟨rfl,rfl⟩
 have e3:(k==23)=false:=beq_eq_false_iff_ne.2 h3;have e4:(k==24)=false:=beq_eq_false_iff_ne.2 h4;have e5:(k==25)=false:=beq_eq_false_iff_ne.2 h5;rw[if_neg (by omega),if_neg h5];clear h3 h4 h5
 go_wp2_with fail
 go_ret;exact⟨rfl,rfl⟩
end Go.Proofs.YtioffpjajhalaaaGreatDoor
