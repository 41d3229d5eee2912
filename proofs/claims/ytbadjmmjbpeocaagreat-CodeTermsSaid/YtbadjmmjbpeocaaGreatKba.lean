/- The plain law of forms: what stands beneath a node, told by forms and told by the document, is the same. No program in sight. (and what follows of it). The conditions stand at each lemma. -/
import Derived.Test.YtbadjmmjbpeocaaGreatKaa
import Derived.Test.YtbadjmmjbpeocaaGreatKam
import Derived.Deep.QuietTactic
import Derived.BigQuiet
import Derived.Deep.Cut
import Derived.Test.YtbadjmmjbpeocaaGreatKac
set_option linter.unusedVariables false
set_option linter.unusedSimpArgs false
set_option maxRecDepth 100000
set_option maxHeartbeats 16000000
namespace Go.Proofs.YtbadjmmjbpeocaaGreat.TT
def VP (k:Int):Bool:=decide (21≤k)&&decide (k≤26)
def zAV (k:Int):Bool:=decide (7≤k)&&decide (k≤19)
def zBK (k:Int):Bool:=k==2||k==3
inductive vQ where
 | ZM (k:Int)
 | expr
 | stmt
 | part
def vQ.holds:vQ→Int→Bool
 | .ZM j,k=>k==j
 | .expr,k=>VP k
 | .stmt,k=>zAV k
 | .part,k=>zBK k
structure vP where
 kids:List vQ
 more:Option vQ
 named:Bool
 most:Int
def JA (k:Int):List vP:=
 if k=1 then [⟨[],some .part,false,0⟩]
 else if k=2 then [⟨[.ZM 5],some (.ZM 5),true,0⟩]
 else if k=3 then [⟨[.ZM 4,.ZM 6],none,true,1⟩]
 else if k=4 then [⟨[],some (.ZM 5),false,0⟩]
 else if k=5 then [⟨[],none,true,0⟩]
 else if k=6 then [⟨[],some .stmt,false,0⟩]
 else if k=7 then [⟨[.ZM 20,.ZM 5],none,true,1⟩]
 else if k=8 then [⟨[.ZM 20,.ZM 5,.expr],none,false,0⟩]
 else if k=9 then [⟨[.ZM 20,.expr],some .expr,false,0⟩]
 else if k=10 then [⟨[.ZM 20],none,false,0⟩]
 else if k=11 then [⟨[.ZM 5,.ZM 5],none,true,0⟩]
 else if k=12 then [⟨[.ZM 5],none,false,1⟩]
 else if k=13 then [⟨[.ZM 5],none,false,0⟩,⟨[.ZM 20],none,false,0⟩]
 else if k=14 then [⟨[.expr,.expr,.ZM 6],none,false,1⟩,⟨[.expr,.expr,.ZM 6,.ZM 6],none,false,1⟩]
 else if k=15 then [⟨[.ZM 21,.ZM 21,.ZM 6],none,true,0⟩]
 else if k=16 then [⟨[.expr],none,true,0⟩]
 else if k=17 then [⟨[.expr],none,false,0⟩]
 else if k=18 then [⟨[],none,false,0⟩]
 else if k=19 then [⟨[],none,false,0⟩]
 else if k=20 then [⟨[.expr],none,true,0⟩]
 else if k=21 then [⟨[],none,false,2147483647⟩]
 else if k=22 then [⟨[],none,true,0⟩]
 else if k=23 then [⟨[.expr,.expr],none,false,0⟩]
 else if k=24 then [⟨[.expr,.expr],none,false,0⟩]
 else if k=25 then [⟨[.expr,.expr],none,false,0⟩]
 else if k=26 then [⟨[.expr],none,false,0⟩]
 else []
def vP.want (f:vP)(i:Nat):Option vQ:=if i<f.kids.length then f.kids[i]? else f.more
def vJ (p:Option vQ)(k:Int):Bool:=match p with | none=>false | some p=>p.holds k
def vP.fits (f:vP)(l:List Int):Bool:=
 if l.length<f.kids.length∨(f.kids.length<l.length∧f.more.isNone=true) then false
 else (List.range l.length).all fun i=>vJ (f.want i) (l.getD i 0)
def JE (c:Int):Bool:=decide (97≤c)&&decide (c≤122)
def ZV (c:Int):Bool:=decide (48≤c)&&decide (c≤57)
def zDY (c:Int):Bool:=JE c||(ZV c||c==95)
def VK (l:List UInt8):Bool:=match l with
 | []=>false
 | c::r=>JE (c.toNat:Int)&&r.all fun c=>zDY (c.toNat:Int)
def YH (f:vP)(num:Int)(text:List UInt8)(l:List Int):Bool:=
 f.fits l&&(decide (0≤num)&&(decide (num≤f.most)&&((f.named&&VK text)||(!f.named&&text.isEmpty))))
def zAy (kind num:Int)(text:List UInt8)(l:List Int):Bool:=(JA kind).any fun f=>YH f num text l
def zKh (what x:Int):Bool:=if what=0 then VP x else if what=1 then zAV x else x==what
def zDg (l:List Int)(frm:Nat)(what:Int):Bool:=(l.drop frm).all (zKh what)
def jJ (w x:Int):Bool:=if w=0 then VP x else x==w
def isR (l want:List Int):Bool:=l.length==want.length&&(List.range l.length).all fun i=>jJ (want.getD i 0) (l.getD i 0)
def jV (kind:Int)(l:List Int):Bool:=
 if kind=1 then l.all zBK
 else if kind=2 then decide (0<l.length)&&zDg l 0 5
 else if kind=3 then isR l [4,6]
 else if kind=4 then zDg l 0 5
 else if kind=6 then zDg l 0 1
 else if kind=7 then isR l [20,5]
 else if kind=8 then isR l [20,5,0]
 else if kind=9 then decide (1<l.length)&&(l.getD 0 0==20&&zDg l 1 0)
 else if kind=10 then isR l [20]
 else if kind=11 then isR l [5,5]
 else if kind=12 then isR l [5]
 else if kind=13 then isR l [5]||isR l [20]
 else if kind=14 then isR l [0,0,6]||isR l [0,0,6,6]
 else if kind=15 then isR l [21,21,6]
 else if kind=16∨kind=17∨kind=20∨kind=26 then isR l [0]
 else if kind=23∨kind=24∨kind=25 then isR l [0,0]
 else l.length==0
def zIO (k:Int):Bool:=k==2||(k==3||(k==5||(k==7||(k==11||(k==15||(k==16||(k==20||k==22)))))))
def zGh (k:Int):Int:=if k=3∨k=7∨k=12∨k=14 then 1 else if k=21 then 2147483647 else 0
def zFF (kind num:Int)(text:List UInt8):Bool:=(zIO kind==VK text)&&((zIO kind||text.isEmpty)&&(decide (0≤num)&&decide (num≤zGh kind)))
theorem zAv (f:Int→Bool)(l:List Int):((List.range l.length).all fun i=>f (l.getD i 0))=l.all f:=by
 induction l with
 | nil=>rfl
 | cons x l ih=>
  rw[zK,List.range_succ_eq_map,List.all_cons,List.all_map,List.all_cons]
  congr 1
theorem xN (ps:List vQ)(ws:List Int)(named:Bool)(most:Int)(hl:ps.length=ws.length)(h:∀i,i<ws.length→∀x,vJ ps[i]? x=jJ (ws.getD i 0) x)(l:List Int) :
  (vP.mk ps none named most).fits l=isR l ws:=by
 unfold vP.fits isR;simp only[Option.isNone_none,and_true]
 by_cases hlen:l.length=ws.length
 ·rw[if_neg (by omega),hlen];simp only[beq_self_eq_true,Bool.true_and];rw[Bool.eq_iff_iff];simp only[zH,List.mem_range]
  constructor
  ·intro hh i hi
   have:=hh i hi
   unfold vP.want at this
   simp only at this
   rw[if_pos (by omega),h i hi] at this;exact this
  ·intro hh i hi
   have:=hh i hi
   unfold vP.want
   simp only
   rw[if_pos (by omega),h i hi];exact this
 ·rw[if_pos (by omega)];simp[hlen]
theorem zBi (p:vQ)(named:Bool)(most:Int)(l:List Int):(vP.mk [] (some p) named most).fits l=l.all p.holds:=by
 unfold vP.fits;rw[if_neg (by simp)];unfold vP.want vJ;simp only[zL,Nat.not_lt_zero,if_false];exact zAv p.holds l
theorem zGK (q p:vQ)(named:Bool)(most:Int)(l:List Int):(vP.mk [q] (some p) named most).fits l=(decide (0<l.length)&&(q.holds (l.getD 0 0)&&(l.drop 1).all p.holds)):=by
 unfold vP.fits
 cases l with
 | nil=>simp
 | cons x l=>
  rw[if_neg (by simp)];rw[zK,List.range_succ_eq_map,List.all_cons,List.all_map];simp only[vP.want,vJ,zK,zL]
  simp
  congr 1
  rw[←zAv p.holds l];simp[Function.comp_def,yH]
theorem zFv (q r p:vQ)(named:Bool)(most:Int)(l:List Int):(vP.mk [q,r] (some p) named most).fits l=(decide (1<l.length)&&(q.holds (l.getD 0 0)&&(r.holds (l.getD 1 0)&&(l.drop 2).all p.holds))):=by
 unfold vP.fits
 match l with
 | []=>simp
 | [x]=>simp
 | x::y::l=>
  rw[if_neg (by simp)];rw[zK,List.range_succ_eq_map,List.all_cons,List.all_map,zK,List.range_succ_eq_map,List.all_cons,List.all_map];simp only[vP.want,vJ,zK,zL]
  simp
  congr 2
  rw[←zAv p.holds l];simp[Function.comp_def,yH,show ∀x:Nat,¬(x+1+1<2) from fun x=>by omega]
theorem zDT {t:List UInt8}(h:VK t=true):t.isEmpty=false:=by
 cases t with
 | nil=>cases h
 | cons c r=>rfl
theorem zCl (kind num:Int)(text:List UInt8)(F:Bool)(named:Bool)(most:Int)(hn:zIO kind=named)(hm:zGh kind=most) :
  (F&&(decide (0≤num)&&(decide (num≤most)&&((named&&VK text)||(!named&&text.isEmpty)))))=(zFF kind num text&&F):=by
 unfold zFF;rw[hn,hm]
 cases hI:VK text
 ·cases named <;> cases F <;> cases text.isEmpty <;> cases decide (0≤num) <;> cases decide (num≤most) <;> rfl
 ·rw[zDT hI]
  cases named <;> cases F <;> cases decide (0≤num) <;> cases decide (num≤most) <;> rfl
theorem xV (kind num:Int)(text:List UInt8)(l:List Int)(ps:List vQ)(more:Option vQ)(named:Bool)(most:Int)(hf:JA kind=[⟨ps,more,named,most⟩])(hn:zIO kind=named)(hm:zGh kind=most)(hk:(vP.mk ps more named most).fits l=jV kind l) :
  zAy kind num text l=(zFF kind num text&&jV kind l):=by
 unfold zAy;rw[hf,←zCl kind num text _ named most hn hm,←hk];simp[YH]
theorem zEM (kind num:Int)(text:List UInt8)(l:List Int)(ps qs:List vQ)(most:Int)(hf:JA kind=[⟨ps,none,false,most⟩,⟨qs,none,false,most⟩])(hn:zIO kind=false)(hm:zGh kind=most)(hk:((vP.mk ps none false most).fits l||(vP.mk qs none false most).fits l)=jV kind l) :
  zAy kind num text l=(zFF kind num text&&jV kind l):=by
 unfold zAy;rw[hf,←zCl kind num text _ false most hn hm,←hk];simp only[List.any_cons,List.any_nil,Bool.or_false,YH];rw[Bool.and_or_distrib_right]
theorem vK (w:Int)(hw:w≠0)(x:Int):vJ (some (.ZM w)) x=jJ w x:=by
 unfold vJ vQ.holds jJ;rw[if_neg hw]
theorem vY (x:Int):vJ (some .expr) x=jJ 0 x:=rfl
theorem ex1 (p:vQ)(w:Int)(h:∀x,vJ (some p) x=jJ w x):∀i,i < [w].length→∀x,vJ [p][i]? x=jJ ([w].getD i 0) x:=by
 intro i hi x
 match i,hi with
 | 0,_=>exact h x
theorem ex2 (p q:vQ)(w v:Int)(h:∀x,vJ (some p) x=jJ w x)(h2:∀x,vJ (some q) x=jJ v x):∀i,i < [w,v].length→∀x,vJ [p,q][i]? x=jJ ([w,v].getD i 0) x:=by
 intro i hi x
 match i,hi with
 | 0,_=>exact h x
 | 1,_=>exact h2 x
theorem ex3 (p q r:vQ)(w v u:Int)(h:∀x,vJ (some p) x=jJ w x)(h2:∀x,vJ (some q) x=jJ v x)(h3:∀x,vJ (some r) x=jJ u x):∀i,i < [w,v,u].length→∀x,vJ [p,q,r][i]? x=jJ ([w,v,u].getD i 0) x:=by
 intro i hi x
 match i,hi with
 | 0,_=>exact h x
 | 1,_=>exact h2 x
 | 2,_=>exact h3 x
theorem ex4 (p q r s:vQ)(w v u t:Int)(h:∀x,vJ (some p) x=jJ w x)(h2:∀x,vJ (some q) x=jJ v x)(h3:∀x,vJ (some r) x=jJ u x)(h4:∀x,vJ (some s) x=jJ t x):∀i,i < [w,v,u,t].length→∀x,vJ [p,q,r,s][i]? x=jJ ([w,v,u,t].getD i 0) x:=by
 intro i hi x
 match i,hi with
 | 0,_=>exact h x
 | 1,_=>exact h2 x
 | 2,_=>exact h3 x
 | 3,_=>exact h4 x
theorem ex0:∀i,i<([]:List Int).length→∀x,vJ ([]:List vQ)[i]? x=jJ (([]:List Int).getD i 0) x:=by
 intro i hi
 simp at hi
theorem zAM (l:List Int):isR l []=(l.length==0):=by
 cases l <;> simp[isR]
theorem zNi (kind num:Int)(text:List UInt8)(l:List Int):zAy kind num text l=(decide (1≤kind)&&(decide (kind≤26)&&(zFF kind num text&&jV kind l))):=by
 by_cases hk:1≤kind∧kind≤26
 ·rw[yS hk.1,yS hk.2,Bool.true_and,Bool.true_and]
  have hc:kind=1∨kind=2∨kind=3∨kind=4∨kind=5∨kind=6∨kind=7∨kind=8∨kind=9∨kind=10∨kind=11∨kind=12∨kind=13∨kind=14∨kind=15∨kind=16∨kind=17∨kind=18∨kind=19∨kind=20∨kind=21∨kind=22∨kind=23∨kind=24∨kind=25∨kind=26:=by omega
  rcases hc with rfl | rfl | rfl | rfl | rfl | rfl | rfl | rfl | rfl | rfl | rfl | rfl | rfl | rfl | rfl | rfl | rfl | rfl | rfl | rfl | rfl | rfl | rfl | rfl | rfl | rfl
  ·exact xV _ _ _ _ _ _ _ _ rfl rfl rfl (zBi _ _ _ _)
  ·refine xV _ _ _ _ _ _ _ _ rfl rfl rfl ((zGK _ _ _ _ _).trans ?_)
   show _=(decide (0<l.length)&&zDg l 0 5)
   cases l <;> rfl
  ·exact xV _ _ _ _ _ _ _ _ rfl rfl rfl (xN _ _ _ _ rfl (ex2 _ _ _ _ (vK 4 (by decide)) (vK 6 (by decide))) l)
  ·exact xV _ _ _ _ _ _ _ _ rfl rfl rfl (zBi _ _ _ _)
  ·exact xV _ _ _ _ _ _ _ _ rfl rfl rfl ((xN [] [] _ _ rfl ex0 l).trans (zAM l))
  ·exact xV _ _ _ _ _ _ _ _ rfl rfl rfl (zBi _ _ _ _)
  ·exact xV _ _ _ _ _ _ _ _ rfl rfl rfl (xN _ _ _ _ rfl (ex2 _ _ _ _ (vK 20 (by decide)) (vK 5 (by decide))) l)
  ·exact xV _ _ _ _ _ _ _ _ rfl rfl rfl (xN _ _ _ _ rfl (ex3 _ _ _ _ _ _ (vK 20 (by decide)) (vK 5 (by decide)) vY) l)
  ·refine xV _ _ _ _ _ _ _ _ rfl rfl rfl ((zFv _ _ _ _ _ _).trans ?_)
   show _=(decide (1<l.length)&&(l.getD 0 0==20&&zDg l 1 0))
   match l with
   | []=>rfl
   | [x]=>rfl
   | x::y::l=>rfl
  ·exact xV _ _ _ _ _ _ _ _ rfl rfl rfl (xN _ _ _ _ rfl (ex1 _ _ (vK 20 (by decide))) l)
  ·exact xV _ _ _ _ _ _ _ _ rfl rfl rfl (xN _ _ _ _ rfl (ex2 _ _ _ _ (vK 5 (by decide)) (vK 5 (by decide))) l)
  ·exact xV _ _ _ _ _ _ _ _ rfl rfl rfl (xN _ _ _ _ rfl (ex1 _ _ (vK 5 (by decide))) l)
  ·refine zEM _ _ _ _ _ _ _ rfl rfl rfl ?_;rw[xN _ [5] _ _ rfl (ex1 _ _ (vK 5 (by decide))) l,xN _ [20] _ _ rfl (ex1 _ _ (vK 20 (by decide))) l]
   rfl
  ·refine zEM _ _ _ _ _ _ _ rfl rfl rfl ?_;rw[xN _ [0,0,6] _ _ rfl (ex3 _ _ _ _ _ _ vY vY (vK 6 (by decide))) l,xN _ [0,0,6,6] _ _ rfl (ex4 _ _ _ _ _ _ _ _ vY vY (vK 6 (by decide)) (vK 6 (by decide))) l]
   rfl
  ·exact xV _ _ _ _ _ _ _ _ rfl rfl rfl (xN _ _ _ _ rfl (ex3 _ _ _ _ _ _ (vK 21 (by decide)) (vK 21 (by decide)) (vK 6 (by decide))) l)
  ·exact xV _ _ _ _ _ _ _ _ rfl rfl rfl (xN _ _ _ _ rfl (ex1 _ _ vY) l)
  ·exact xV _ _ _ _ _ _ _ _ rfl rfl rfl (xN _ _ _ _ rfl (ex1 _ _ vY) l)
  ·exact xV _ _ _ _ _ _ _ _ rfl rfl rfl ((xN [] [] _ _ rfl ex0 l).trans (zAM l))
  ·exact xV _ _ _ _ _ _ _ _ rfl rfl rfl ((xN [] [] _ _ rfl ex0 l).trans (zAM l))
  ·exact xV _ _ _ _ _ _ _ _ rfl rfl rfl (xN _ _ _ _ rfl (ex1 _ _ vY) l)
  ·exact xV _ _ _ _ _ _ _ _ rfl rfl rfl ((xN [] [] _ _ rfl ex0 l).trans (zAM l))
  ·exact xV _ _ _ _ _ _ _ _ rfl rfl rfl ((xN [] [] _ _ rfl ex0 l).trans (zAM l))
  ·exact xV _ _ _ _ _ _ _ _ rfl rfl rfl (xN _ _ _ _ rfl (ex2 _ _ _ _ vY vY) l)
  ·exact xV _ _ _ _ _ _ _ _ rfl rfl rfl (xN _ _ _ _ rfl (ex2 _ _ _ _ vY vY) l)
  ·exact xV _ _ _ _ _ _ _ _ rfl rfl rfl (xN _ _ _ _ rfl (ex2 _ _ _ _ vY vY) l)
  ·exact xV _ _ _ _ _ _ _ _ rfl rfl rfl (xN _ _ _ _ rfl (ex1 _ _ vY) l)
 ·have h0:JA kind=[]:=by
   unfold JA
   repeat (rw[if_neg (by omega)])
  have h1:(decide (1≤kind)&&(decide (kind≤26)&&(zFF kind num text&&jV kind l)))=false:=by
   by_cases h1:1≤kind
   ·rw[yR (show ¬kind≤26 from by omega)]
    simp
   ·rw[yR h1]
    simp
  rw[h1];unfold zAy;rw[h0]
  rfl
end Go.Proofs.YtbadjmmjbpeocaaGreat.TT
namespace Go.Proofs.YtbadjmmjbpeocaaGreat.TT
open Go Go.RowKit
theorem jM {a b:Bool}(h:a=b):Ending.returned (.bool a)=.returned (.bool b):=by rw[h]
theorem zBD (k:Int)(w:World):Calls Tryz.prog 148 #[.int .u8 k] w fun e w'=>e=.returned (.bool (VP k))∧w=w':=by
 by_cases h:21≤k
 ·have H:Hid (VP k=decide (k≤26)):=yG (by unfold VP; rw[yS h,Bool.true_and]);have h1:decide (21≤k)=true:=yS h
  go_enter Tryz.func148,Tryz.ntmps148
  go_wp2
  go_ret;exact⟨jM H.out.symm,rfl⟩
 ·have H:Hid (VP k=false):=yG (by unfold VP; rw[yR h,Bool.false_and]);have h1:decide (21≤k)=false:=yR h
  go_enter Tryz.func148,Tryz.ntmps148
  go_wp2
  go_ret;exact⟨jM H.out.symm,rfl⟩
theorem zBG (k:Int)(w:World):Calls Tryz.prog 147 #[.int .u8 k] w fun e w'=>e=.returned (.bool (zAV k))∧w=w':=by
 by_cases h:7≤k
 ·have H:Hid (zAV k=decide (k≤19)):=yG (by unfold zAV; rw[yS h,Bool.true_and]);have h1:decide (7≤k)=true:=yS h
  go_enter Tryz.func147,Tryz.ntmps147
  go_wp2
  go_ret;exact⟨jM H.out.symm,rfl⟩
 ·have H:Hid (zAV k=false):=yG (by unfold zAV; rw[yR h,Bool.false_and]);have h1:decide (7≤k)=false:=yR h
  go_enter Tryz.func147,Tryz.ntmps147
  go_wp2
  go_ret;exact⟨jM H.out.symm,rfl⟩
theorem zBE (k:Int)(w:World):Calls Tryz.prog 145 #[.int .u8 k] w fun e w'=>e=.returned (.bool (zBK k))∧w=w':=by
 by_cases h:k=2
 ·subst h
  go_enter Tryz.func145,Tryz.ntmps145
  go_wp2
  go_ret;exact⟨rfl,rfl⟩
 ·have h1:(k==2)=false:=beq_eq_false_iff_ne.2 h;have H:Hid (zBK k=(k==3)):=yG (by unfold zBK; rw[h1,Bool.false_or])
  go_enter Tryz.func145,Tryz.ntmps145
  go_wp2
  go_ret;exact⟨jM H.out.symm,rfl⟩
theorem zAG (k j:Int)(g:Nat)(w:World)(hg:Blk w g 5 #[.int .u8 j]):Calls Tryz.prog 158 #[.int .u8 k,.pointer (some ⟨g,0,none⟩)] w fun e w'=>e=.returned (.bool (k==j))∧w=w':=by
 have h0:=hg.cell 0;have hf:=hg.frozen 0;clear hg
 go_enter Tryz.func158,Tryz.ntmps158
 go_wp2
 go_ret;exact⟨rfl,rfl⟩
theorem zHW (k:Int)(w:World):Calls Tryz.prog 146 #[.int .u8 k] w fun e w'=>e=.returned (.func (.func 158) #[] #[.pointer (some ⟨w.heap.size,0,none⟩)])∧w'=w.alloc (.cells #[.int .u8 k] 5):=by
 go_enter Tryz.func146,Tryz.ntmps146
 go_wp2
 go_ret;exact⟨rfl,rfl⟩
def zBf (w:World):vQ→Value→Prop
 | .ZM k,v=>∃g,v=.func (.func 158) #[] #[.pointer (some ⟨g,0,none⟩)]∧Blk w g 5 #[.int .u8 k]
 | .expr,v=>v=.func (.func 148) #[] #[]
 | .stmt,v=>v=.func (.func 147) #[] #[]
 | .part,v=>v=.func (.func 145) #[] #[]
theorem zBf.ext {w w':World}{p:vQ}{v:Value}(h:zBf w p v)(hx:Ext w w'):zBf w' p v:=by
 cases p with
 | ZM k=>obtain⟨g,h1,h2⟩:=h; exact⟨g,h1,h2.ext hx⟩
 | expr=>exact h
 | stmt=>exact h
 | part=>exact h
theorem zBf.form {w:World}{p:vQ}{v:Value}(h:zBf w p v):∃f lb,v=.func (.func f) #[] lb∧v.oneCell'=true:=by
 cases p with
 | ZM k=>obtain⟨g,h1,h2⟩:=h; subst h1; exact⟨_,_,rfl,rfl⟩
 | expr=>subst h; exact⟨_,_,rfl,rfl⟩
 | stmt=>subst h; exact⟨_,_,rfl,rfl⟩
 | part=>subst h; exact⟨_,_,rfl,rfl⟩
def Kept (w w':World):Prop:=∀g t cs,Blk w g t cs→Blk w' g t cs
theorem Kept.ZW {w w':World}(h:Ext w w'):Kept w w':=fun _ _ _ hb=>hb.ext h
theorem Kept.zFU {w w':World}{r clock:Nat}{es:Array MapEntry}(hm:ZO w r es clock)(h:Touch r w w'):Kept w w':=fun g t cs hb=>h.blk hb (by
 rintro rfl;unfold Blk at hb;unfold ZO at hm;rw[hb] at hm
 cases hm)
def zGH {α β:Type}(R:α→β→Prop):List α→List β→Prop
 | [],[]=>True
 | a::l,b::m=>R a b∧zGH R l m
 | _,_=>False
theorem zGH.mono {α β:Type}{R S:α→β→Prop}(h:∀a b,R a b→S a b):∀ {l:List α} {m:List β},zGH R l m→zGH S l m
 | [],[],_=>trivial
 | a::l,b::m,⟨h1,h2⟩=>⟨h a b h1,zGH.mono h h2⟩
 | [],_::_,h=>h.elim
 | _::_,[],h=>h.elim
theorem zGH.len {α β:Type}{R:α→β→Prop}:∀ {l:List α} {m:List β},zGH R l m→l.length=m.length
 | [],[],_=>rfl
 | a::l,b::m,⟨_,h2⟩=>by rw[zK,zK,h2.len]
 | [],_::_,h=>h.elim
 | _::_,[],h=>h.elim
theorem zGH.get {α β:Type}{R:α→β→Prop}:∀ {l:List α} {m:List β} (h:zGH R l m) (i:Nat) (hi:i<l.length),∃b,m[i]?=some b∧R l[i] b
 | a::l,b::m,⟨h1,_⟩,0,_=>⟨b,rfl,h1⟩
 | a::l,b::m,⟨_,h2⟩,i+1,hi=>by
  obtain⟨c,hc,hr⟩:=h2.get i (by simpa using hi);exact⟨c,by simpa using hc,hr⟩
 | [],[],_,i,hi=>by simp at hi
 | [],_::_,h,_,_=>h.elim
 | _::_,[],h,_,_=>h.elim
theorem zBf.kept {w w':World}{p:vQ}{v:Value}(h:zBf w p v)(hx:Kept w w'):zBf w' p v:=by
 cases p with
 | ZM k=>obtain⟨g,h1,h2⟩:=h; exact⟨g,h1,hx _ _ _ h2⟩
 | expr=>exact h
 | stmt=>exact h
 | part=>exact h
def zFg (w:World):Option vQ→Value→Prop
 | none,v=>v=.nilFunc
 | some p,v=>zBf w p v
theorem zFg.kept {w w':World}{p:Option vQ}{v:Value}(h:zFg w p v)(hx:Kept w w'):zFg w' p v:=by
 cases p with
 | none=>exact h
 | some p=>exact zBf.kept h hx
def zCz (w:World)(ps:List vQ)(v:Value):Prop:=(ps=[]∧v=.slice none 0 0)∨∃g vs,v=.slice (some ⟨g,0,none⟩) ps.length ps.length∧Blk w g 193 (Array.mk vs)∧zGH (zBf w) ps vs
theorem zCz.kept {w w':World}{ps:List vQ}{v:Value}(h:zCz w ps v)(hx:Kept w w'):zCz w' ps v:=by
 rcases h with h | ⟨g,vs,h1,h2,h3⟩
 ·exact .inl h
 ·exact .inr ⟨g,vs,h1,hx _ _ _ h2,h3.mono fun a b h=>zBf.kept h hx⟩
def zC9 (w:World)(f:vP)(cs:List Value):Prop:=∃ks mv,cs=[ks,mv,.bool f.named,.int .i64 f.most]∧zCz w f.kids ks∧zFg w f.more mv
theorem zC9.kept {w w':World}{f:vP}{cs:List Value}(h:zC9 w f cs)(hx:Kept w w'):zC9 w' f cs:=by
 obtain⟨ks,mv,h1,h2,h3⟩:=h;exact⟨ks,mv,h1,h2.kept hx,h3.kept hx⟩
theorem zC9.len {w:World}{f:vP}{cs:List Value}(h:zC9 w f cs):cs.length=4:=by
 obtain⟨ks,mv,h1,_⟩:=h;rw[h1]; rfl
def zBl (w:World)(fs:List vP)(v:Value):Prop:=(fs=[]∧v=.slice none 0 0)∨∃g css,v=.slice (some ⟨g,0,none⟩) fs.length fs.length∧Blk w g 195 (Array.mk css.flatten)∧zGH (zC9 w) fs css
theorem zBl.kept {w w':World}{fs:List vP}{v:Value}(h:zBl w fs v)(hx:Kept w w'):zBl w' fs v:=by
 rcases h with h | ⟨g,vs,h1,h2,h3⟩
 ·exact .inl h
 ·exact .inr ⟨g,vs,h1,hx _ _ _ h2,h3.mono fun a b h=>zC9.kept h hx⟩
def zEi:List (Int × Value)→Nat→List MapEntry
 | [],_=>[]
 | x::l,c=>{ key:=.int .u8 x.1,val:=x.2,born:=c } :: zEi l (c+1)
theorem zOZ (l:List (Int × Value))(x:Int × Value):∀c,zEi (l++[x]) c=zEi l c++[{ key:=.int .u8 x.1,val:=x.2,born:=c+l.length }]:=by
 induction l with
 | nil=>intro c; rfl
 | cons y l ih=>intro c; simp only[yC,zEi,ih,zK]; rw[show c+1+l.length=c+(l.length+1) from by omega]
theorem zLt (a b:Int):Instr.sameNow (.int .u8) (.int .u8 a) (.int .u8 b)=some (a==b):=by simp[Instr.sameNow]
theorem zEU (l:List (Int × Value))(n:Int)(h:∀x ∈ l,x.1≠n):∀c j,Instr.findNow (.int .u8) (.int .u8 n) (zEi l c) j=some none:=by
 induction l with
 | nil=>intro c j; rfl
 | cons x l ih=>
  intro c j;have hx:(n==x.1)=false:=beq_eq_false_iff_ne.2 (Ne.symm (h x (by simp)));unfold zEi Instr.findNow;simp only[zLt,hx];exact ih (fun y hy=>h y (by simp[hy])) _ _
theorem zP2 (l:List (Int × Value))(n:Int):∀(i:Nat) (v:Value) (c j:Nat),l[i]?=some (n,v)→(∀j x,j<i→l[j]?=some x→x.1≠n)→Instr.findNow (.int .u8) (.int .u8 n) (zEi l c) j=some (some (j+i,v)):=by
 induction l with
 | nil=>intro i v c j h; simp at h
 | cons y l ih=>
  intro i v c j hi h;unfold zEi Instr.findNow
  match i with
  | 0=>
   simp at hi
   subst hi;simp only[zLt,beq_self_eq_true]
   rfl
  | i+1=>
   have hx:(n==y.1)=false:=beq_eq_false_iff_ne.2 (Ne.symm (h 0 y (by omega) rfl));simp only[zLt,hx];rw[ih i v (c+1) (j+1) (by simpa using hi) (fun j x hj hx=>h (j+1) x (by omega) (by simpa using hx))]
   congr 3
   omega
structure FSt (w0 w:World)(r:Nat)(ks:List Int)(l:List (Int × Value))(g4 g5 g6 g7:Nat):Prop where
 map:ZO w r (Array.mk (zEi l 0)) l.length
 keys:l.map Prod.fst=ks
 zNH:∀x ∈ l,zBl w (JA x.1) x.2
 ext:Ext w0 w
 low:w0.heap.size≤r
 k4:Blk w g4 5 #[.int .u8 20]
 k5:Blk w g5 5 #[.int .u8 5]
 k6:Blk w g6 5 #[.int .u8 6]
 k7:Blk w g7 5 #[.int .u8 21]
theorem FSt.mono {w0 w w':World}{r:Nat}{ks:List Int}{l:List (Int × Value)}{g4 g5 g6 g7:Nat}(h:FSt w0 w r ks l g4 g5 g6 g7)(hx:Ext w w'):FSt w0 w' r ks l g4 g5 g6 g7:=
 ⟨h.map.ext hx,h.keys,fun x hm=>(h.zNH x hm).kept (Kept.ZW hx),h.ext.trans hx,h.low,h.k4.ext hx,h.k5.ext hx,h.k6.ext hx,h.k7.ext hx⟩
theorem zBL {w0 w:World}{ops:Array Oper}{rest:List Oper}{o:Oper}{a:Act}{Q:Exit→Act→World→Prop}{r:Nat}{ks:List Int}{l:List (Int × Value)}{g4 g5 g6 g7:Nat}(hgd:o.guard=none)(m k x:Operand)(n:Int)(v:Value)(ho:o.op=.insert 211 m k x)
  (em:a.eval m=.map (some r)) (ek:a.eval k=.int .u8 n) (ex:a.eval x=v) (hst:FSt w0 w r ks l g4 g5 g6 g7) (hv:zBl w (JA n) v) (hn:ks.contains n=false)
  (h:∀w' l',FSt w0 w' r (ks++[n]) l' g4 g5 g6 g7→wpList Tryz.prog ops Q rest (a.put o.dst undef) w'):wpList Tryz.prog ops Q (o::rest) a w:=by
 have hn':∀y ∈ l,y.1≠n:=by
  rintro y hy rfl
  have:y.1 ∈ ks:=by rw[←hst.keys]; exact List.mem_map_of_mem hy
  simp at hn
  exact hn this
 refine zBv hgd 211 m k x ho Tryz.underlying211 Tryz.underlying5 r l.length _ n v em ek ex hst.map (zEU l n hn' 0 0) fun w' ht hm=>h w' (l++[(n,v)]) ?_;have hk:=Kept.zFU hst.map ht;refine⟨?_,by rw[List.map_append,hst.keys]; rfl,fun y hy=>?_,ht.ext hst.ext hst.low,hst.low,hk _ _ _ hst.k4,hk _ _ _ hst.k5,hk _ _ _ hst.k6,hk _ _ _ hst.k7⟩
 ·have:(Array.mk (zEi l 0)).push { key:=.int .u8 n,val:=v,born:=l.length } = Array.mk (zEi (l++[(n,v)]) 0):=by
   rw[zOZ,Nat.zero_add]
   simp
  rw[this] at hm;rw[yP];exact hm
 ·rcases List.mem_append.1 hy with hy | hy
  ·exact(hst.zNH y hy).kept hk
  ·rw[List.mem_singleton.1 hy];exact hv.kept hk
theorem zHz {P:Program}{w:World}{t kt et:TypeId}{kk:IntKind}{r clock:Nat}{es:Array MapEntry}{n:Int}{z:Value}(hm:P.underlying t=some (.map kt et))(hk:P.underlying kt=some (.int kk))
  (hb:ZO w r es clock) (hz:(zeroValue et).run P w=.ok z w) (hf:Instr.findNow (.int kk) (.int kk n) es.toList 0=some none):(Instr.lookup t (.map (some r)) (.int kk n) false).run P w=.ok z w:=by
 have hc:(Instr.checkKey es.isEmpty 10000 kt (.int kk n)).run P w=.ok () w:=MapKept.run_checkKey (k:=.int kk n) hk (by simp[MapKept.IsKey]) _ 9999;simp[Instr.lookup,run_underlying hm,MapKept.run_getObj_map hb,hc,MapKept.run_findKey hk hf,hz,Result.andThen]
theorem zFm {P:Program}{w:World}{ops:Array Oper}{rest:List Oper}{o:Oper}{a:Act}{Q:Exit→Act→World→Prop}(hgd:o.guard=none)(t:TypeId)(m k:Operand)(ho:o.op=.lookup t m k false){kt et:TypeId}{kk:IntKind}
  (hm:P.underlying t=some (.map kt et)) (hk:P.underlying kt=some (.int kk)) (r clock:Nat) (es:Array MapEntry) (n:Int) (z:Value) (hz:∀w,(zeroValue et).run P w=.ok z w)
  (em:a.eval m=.map (some r)) (ek:a.eval k=.int kk n) (hb:ZO w r es clock) (hf:Instr.findNow (.int kk) (.int kk n) es.toList 0=some none)
  (h:wpList P ops Q rest (a.put o.dst z) w):wpList P ops Q (o::rest) a w:=by
 refine wpList_plain hgd fun K hK=>?_;have hrun:=zHz (P:=P) hm hk hb (hz w) hf;unfold Oper.wp execOp;simp only[ho,em,ek,Sem.run_bind,Sem.run_pure,hrun,Result.andThen_ok];exact hK _ _ h
theorem zOH {l:List (Int × Value)}{ks:List Int}(hk:l.map Prod.fst=ks)(n:Int)(i:Nat)(hi:ks[i]?=some n)(hd:(ks.take i).contains n=false):∃v,l[i]?=some (n,v)∧∀j x,j<i→l[j]?=some x→x.1≠n:=by
 subst hk;rw[zN] at hi;obtain⟨x,hx,rfl⟩:=Option.map_eq_some_iff.1 hi;refine⟨x.2,hx,?_⟩;rintro j y hj hy he
 have:y.1 ∈ (l.map Prod.fst).take i:=by
  rw[←List.map_take];exact List.mem_map_of_mem (yB (i:=j) (by rw[List.getElem?_take,if_pos hj]; exact hy))
 rw[he] at this
 simp at hd
 exact hd (by simpa using this)
theorem zUQ {w0 w:World}{ops:Array Oper}{rest:List Oper}{o:Oper}{a:Act}{Q:Exit→Act→World→Prop}{r:Nat}{l:List (Int × Value)}{g4 g5 g6 g7:Nat}(hgd:o.guard=none)(m k:Operand)(n:Int)(ho:o.op=.lookup 211 m k false)
  (em:a.eval m=.map (some r)) (ek:a.eval k=.int .u8 n) (hst:FSt w0 w r [1,2,3,4,5,6,7,8,9,10,11,12,13,14,15,16,17,18,19,20,21,22,23,24,25,26] l g4 g5 g6 g7) (hz:∀w,(zeroValue 190).run Tryz.prog w=.ok (.slice none 0 0) w)
  (h:∀v,zBl w (JA n) v→wpList Tryz.prog ops Q rest (a.put o.dst v) w):wpList Tryz.prog ops Q (o::rest) a w:=by
 by_cases hk:1≤n∧n≤26
 ·have hi:([1,2,3,4,5,6,7,8,9,10,11,12,13,14,15,16,17,18,19,20,21,22,23,24,25,26]:List Int)[(n-1).toNat]?=some n∧(([1,2,3,4,5,6,7,8,9,10,11,12,13,14,15,16,17,18,19,20,21,22,23,24,25,26]:List Int).take (n-1).toNat).contains n=false:=by
   have hc:n=1∨n=2∨n=3∨n=4∨n=5∨n=6∨n=7∨n=8∨n=9∨n=10∨n=11∨n=12∨n=13∨n=14∨n=15∨n=16∨n=17∨n=18∨n=19∨n=20∨n=21∨n=22∨n=23∨n=24∨n=25∨n=26:=by omega
   rcases hc with rfl | rfl | rfl | rfl | rfl | rfl | rfl | rfl | rfl | rfl | rfl | rfl | rfl | rfl | rfl | rfl | rfl | rfl | rfl | rfl | rfl | rfl | rfl | rfl | rfl | rfl <;> exact⟨rfl,rfl⟩
  obtain⟨v,hv,hd⟩:=zOH hst.keys n _ hi.1 hi.2;exact zFH hgd 211 m k ho Tryz.underlying211 Tryz.underlying5 r l.length _ _ n v em ek hst.map (zP2 l n _ v 0 0 hv hd) (h v (hst.zNH _ (yB hv)))
 ·have hn:∀y ∈ l,y.1≠n:=by
   rintro y hy rfl
   have:y.1 ∈ ([1,2,3,4,5,6,7,8,9,10,11,12,13,14,15,16,17,18,19,20,21,22,23,24,25,26]:List Int):=by rw[←hst.keys]; exact List.mem_map_of_mem hy
   simp only[zU,List.not_mem_nil,or_false] at this;omega
  have h0:JA n=[]:=by
   unfold JA
   repeat (rw[if_neg (by omega)])
  exact zFm hgd 211 m k ho Tryz.underlying211 Tryz.underlying5 r l.length _ n _ hz em ek hst.map (zEU l n hn 0 0) (h _ (.inl ⟨h0,rfl⟩))
theorem Blk.newAt {W:World}{t:TypeId}{cs:Array Value}{n:Nat}(h:n=W.heap.size):Blk (W.alloc (.cells cs t)) n t cs:=by subst h; exact Blk.new W t cs
theorem vS {W:World}{f:vP}{g:Nat}{ks mv:Value}{b:Bool}{n:Int}(hn:b=f.named)(hm:n=f.most)(hb:Blk W g 195 #[ks,mv,.bool b,.int .i64 n])(hk:zCz W f.kids ks)(hmv:zFg W f.more mv):zBl W [f] (.slice (some ⟨g,0,none⟩) 1 1):=by
 subst hn hm;exact .inr ⟨g,[[ks,mv,.bool f.named,.int .i64 f.most]],rfl,hb,⟨⟨ks,mv,rfl,hk,hmv⟩,trivial⟩⟩
theorem zIQ {W:World}{f f':vP}{g:Nat}{ks mv ks' mv':Value}{b b':Bool}{n n':Int}(hn:b=f.named)(hm:n=f.most)(hn':b'=f'.named)(hm':n'=f'.most)(hb:Blk W g 195 #[ks,mv,.bool b,.int .i64 n,ks',mv',.bool b',.int .i64 n'])(hk:zCz W f.kids ks)(hmv:zFg W f.more mv)(hk':zCz W f'.kids ks')(hmv':zFg W f'.more mv'):zBl W [f,f'] (.slice (some ⟨g,0,none⟩) 2 2):=by
 subst hn hm hn' hm';exact .inr ⟨g,[[ks,mv,.bool f.named,.int .i64 f.most],[ks',mv',.bool f'.named,.int .i64 f'.most]],rfl,hb,⟨⟨ks,mv,rfl,hk,hmv⟩,⟨ks',mv',rfl,hk',hmv'⟩,trivial⟩⟩
theorem VV {W:World}:zCz W [] (.slice none 0 0):=.inl ⟨rfl,rfl⟩
theorem zB7 {W:World}{p1:vQ}{v1:Value}{g:Nat}(hb:Blk W g 193 #[v1])(h1:zBf W p1 v1):zCz W [p1] (.slice (some ⟨g,0,none⟩) 1 1):=.inr ⟨g,[v1],rfl,hb,h1,trivial⟩
theorem zDI {W:World}{p1 p2:vQ}{v1 v2:Value}{g:Nat}(hb:Blk W g 193 #[v1,v2])(h1:zBf W p1 v1)(h2:zBf W p2 v2):zCz W [p1,p2] (.slice (some ⟨g,0,none⟩) 2 2):=.inr ⟨g,[v1,v2],rfl,hb,h1,h2,trivial⟩
theorem zLT {W:World}{p1 p2 p3:vQ}{v1 v2 v3:Value}{g:Nat}(hb:Blk W g 193 #[v1,v2,v3])(h1:zBf W p1 v1)(h2:zBf W p2 v2)(h3:zBf W p3 v3):zCz W [p1,p2,p3] (.slice (some ⟨g,0,none⟩) 3 3):=.inr ⟨g,[v1,v2,v3],rfl,hb,h1,h2,h3,trivial⟩
theorem zS7 {W:World}{p1 p2 p3 p4:vQ}{v1 v2 v3 v4:Value}{g:Nat}(hb:Blk W g 193 #[v1,v2,v3,v4])(h1:zBf W p1 v1)(h2:zBf W p2 v2)(h3:zBf W p3 v3)(h4:zBf W p4 v4):zCz W [p1,p2,p3,p4] (.slice (some ⟨g,0,none⟩) 4 4):=.inr ⟨g,[v1,v2,v3,v4],rfl,hb,h1,h2,h3,h4,trivial⟩
end Go.Proofs.YtbadjmmjbpeocaaGreat.TT
