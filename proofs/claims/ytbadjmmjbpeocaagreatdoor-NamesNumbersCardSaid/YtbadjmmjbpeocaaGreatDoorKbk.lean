/- The plain law of forms: what stands beneath a node, told by forms and told by the document, is the same. No program in sight. (and what follows of it). The conditions stand at each lemma. -/
import Derived.Test.YtbadjmmjbpeocaaGreatDoorKaa
import Derived.Test.YtbadjmmjbpeocaaGreatDoorKbh
import Derived.Test.YtbadjmmjbpeocaaGreatDoorKbj
import Derived.Test.YtbadjmmjbpeocaaGreatDoorKaf
import Derived.Test.YtbadjmmjbpeocaaGreatDoorKaq
set_option linter.unusedVariables false
set_option linter.unusedSimpArgs false
set_option maxRecDepth 100000
set_option maxHeartbeats 16000000
namespace Go.Proofs.YtbadjmmjbpeocaaGreatDoor
def VD (k:Int):Bool:=decide (21≤k)&&decide (k≤26)
def zAL (k:Int):Bool:=decide (7≤k)&&decide (k≤19)
def zBM (k:Int):Bool:=k==2||k==3
inductive vR where
 | ZL (k:Int)
 | expr
 | stmt
 | part
def vR.holds:vR→Int→Bool
 | .ZL j,k=>k==j
 | .expr,k=>VD k
 | .stmt,k=>zAL k
 | .part,k=>zBM k
structure vQ where
 kids:List vR
 more:Option vR
 named:Bool
 most:Int
def XW (k:Int):List vQ:=
 if k=1 then [⟨[],some .part,false,0⟩]
 else if k=2 then [⟨[.ZL 5],some (.ZL 5),true,0⟩]
 else if k=3 then [⟨[.ZL 4,.ZL 6],none,true,1⟩]
 else if k=4 then [⟨[],some (.ZL 5),false,0⟩]
 else if k=5 then [⟨[],none,true,0⟩]
 else if k=6 then [⟨[],some .stmt,false,0⟩]
 else if k=7 then [⟨[.ZL 20,.ZL 5],none,true,1⟩]
 else if k=8 then [⟨[.ZL 20,.ZL 5,.expr],none,false,0⟩]
 else if k=9 then [⟨[.ZL 20,.expr],some .expr,false,0⟩]
 else if k=10 then [⟨[.ZL 20],none,false,0⟩]
 else if k=11 then [⟨[.ZL 5,.ZL 5],none,true,0⟩]
 else if k=12 then [⟨[.ZL 5],none,false,1⟩]
 else if k=13 then [⟨[.ZL 5],none,false,0⟩,⟨[.ZL 20],none,false,0⟩]
 else if k=14 then [⟨[.expr,.expr,.ZL 6],none,false,1⟩,⟨[.expr,.expr,.ZL 6,.ZL 6],none,false,1⟩]
 else if k=15 then [⟨[.ZL 21,.ZL 21,.ZL 6],none,true,0⟩]
 else if k=16 then [⟨[.expr],none,true,0⟩]
 else if k=17 then [⟨[.expr],none,false,0⟩]
 else if k=18 then [⟨[],none,false,0⟩]
 else if k=19 then [⟨[],none,false,0⟩]
 else if k=20 then [⟨[.expr],none,true,0⟩]
 else if k=21 then [⟨[],none,false,2147483647⟩]
 else if k=22 then [⟨[],none,true,0⟩]
 else if k=23 then [⟨[.expr,.expr],none,false,0⟩]
 else if k=24 then [⟨[.expr,.expr],none,false,0⟩]
 else if k=25 then [⟨[.expr,.expr],none,false,0⟩]
 else if k=26 then [⟨[.expr],none,false,0⟩]
 else []
def vQ.want (f:vQ)(i:Nat):Option vR:=if i<f.kids.length then f.kids[i]? else f.more
def vI (p:Option vR)(k:Int):Bool:=match p with | none=>false | some p=>p.holds k
def vQ.fits (f:vQ)(l:List Int):Bool:=
 if l.length<f.kids.length∨(f.kids.length<l.length∧f.more.isNone=true) then false
 else (List.range l.length).all fun i=>vI (f.want i) (l.getD i 0)
def zNB (c:Int):Bool:=decide (97≤c)&&decide (c≤122)
def zTv (c:Int):Bool:=decide (48≤c)&&decide (c≤57)
def zUq (c:Int):Bool:=zNB c||(zTv c||c==95)
def zEA (l:List UInt8):Bool:=match l with
 | []=>false
 | c::r=>zNB (c.toNat:Int)&&r.all fun c=>zUq (c.toNat:Int)
def YD (f:vQ)(num:Int)(text:List UInt8)(l:List Int):Bool:=
 f.fits l&&(decide (0≤num)&&(decide (num≤f.most)&&((f.named&&zEA text)||(!f.named&&text.isEmpty))))
def zAz (kind num:Int)(text:List UInt8)(l:List Int):Bool:=(XW kind).any fun f=>YD f num text l
def zGQ (what x:Int):Bool:=if what=0 then VD x else if what=1 then zAL x else x==what
def zB1 (l:List Int)(frm:Nat)(what:Int):Bool:=(l.drop frm).all (zGQ what)
def jG (w x:Int):Bool:=if w=0 then VD x else x==w
def isR (l want:List Int):Bool:=l.length==want.length&&(List.range l.length).all fun i=>jG (want.getD i 0) (l.getD i 0)
def jU (kind:Int)(l:List Int):Bool:=
 if kind=1 then l.all zBM
 else if kind=2 then decide (0<l.length)&&zB1 l 0 5
 else if kind=3 then isR l [4,6]
 else if kind=4 then zB1 l 0 5
 else if kind=6 then zB1 l 0 1
 else if kind=7 then isR l [20,5]
 else if kind=8 then isR l [20,5,0]
 else if kind=9 then decide (1<l.length)&&(l.getD 0 0==20&&zB1 l 1 0)
 else if kind=10 then isR l [20]
 else if kind=11 then isR l [5,5]
 else if kind=12 then isR l [5]
 else if kind=13 then isR l [5]||isR l [20]
 else if kind=14 then isR l [0,0,6]||isR l [0,0,6,6]
 else if kind=15 then isR l [21,21,6]
 else if kind=16∨kind=17∨kind=20∨kind=26 then isR l [0]
 else if kind=23∨kind=24∨kind=25 then isR l [0,0]
 else l.length==0
def zF0 (k:Int):Bool:=k==2||(k==3||(k==5||(k==7||(k==11||(k==15||(k==16||(k==20||k==22)))))))
def zF5 (k:Int):Int:=if k=3∨k=7∨k=12∨k=14 then 1 else if k=21 then 2147483647 else 0
def zEI (kind num:Int)(text:List UInt8):Bool:=(zF0 kind==zEA text)&&((zF0 kind||text.isEmpty)&&(decide (0≤num)&&decide (num≤zF5 kind)))
theorem zAw (f:Int→Bool)(l:List Int):((List.range l.length).all fun i=>f (l.getD i 0))=l.all f:=by
 induction l with
 | nil=>rfl
 | cons x l ih=>
  rw[zK,List.range_succ_eq_map,List.all_cons,List.all_map,List.all_cons]
  congr 1
theorem xO (ps:List vR)(ws:List Int)(named:Bool)(most:Int)(hl:ps.length=ws.length)(h:∀i,i<ws.length→∀x,vI ps[i]? x=jG (ws.getD i 0) x)(l:List Int) :
  (vQ.mk ps none named most).fits l=isR l ws:=by
 unfold vQ.fits isR;simp only[Option.isNone_none,and_true]
 by_cases hlen:l.length=ws.length
 ·rw[if_neg (by omega),hlen];simp only[beq_self_eq_true,Bool.true_and];rw[Bool.eq_iff_iff];simp only[zH,List.mem_range]
  constructor
  ·intro hh i hi
   have:=hh i hi
   unfold vQ.want at this
   simp only at this
   rw[if_pos (by omega),h i hi] at this;exact this
  ·intro hh i hi
   have:=hh i hi
   unfold vQ.want
   simp only
   rw[if_pos (by omega),h i hi];exact this
 ·rw[if_pos (by omega)];simp[hlen]
theorem zBm (p:vR)(named:Bool)(most:Int)(l:List Int):(vQ.mk [] (some p) named most).fits l=l.all p.holds:=by
 unfold vQ.fits;rw[if_neg (by simp)];unfold vQ.want vI;simp only[zL,Nat.not_lt_zero,if_false];exact zAw p.holds l
theorem zGG (q p:vR)(named:Bool)(most:Int)(l:List Int):(vQ.mk [q] (some p) named most).fits l=(decide (0<l.length)&&(q.holds (l.getD 0 0)&&(l.drop 1).all p.holds)):=by
 unfold vQ.fits
 cases l with
 | nil=>simp
 | cons x l=>
  rw[if_neg (by simp)];rw[zK,List.range_succ_eq_map,List.all_cons,List.all_map];simp only[vQ.want,vI,zK,zL]
  simp
  congr 1
  rw[←zAw p.holds l];simp[Function.comp_def,yH]
theorem zFo (q r p:vR)(named:Bool)(most:Int)(l:List Int):(vQ.mk [q,r] (some p) named most).fits l=(decide (1<l.length)&&(q.holds (l.getD 0 0)&&(r.holds (l.getD 1 0)&&(l.drop 2).all p.holds))):=by
 unfold vQ.fits
 match l with
 | []=>simp
 | [x]=>simp
 | x::y::l=>
  rw[if_neg (by simp)];rw[zK,List.range_succ_eq_map,List.all_cons,List.all_map,zK,List.range_succ_eq_map,List.all_cons,List.all_map];simp only[vQ.want,vI,zK,zL]
  simp
  congr 2
  rw[←zAw p.holds l];simp[Function.comp_def,yH,show ∀x:Nat,¬(x+1+1<2) from fun x=>by omega]
theorem zDO {t:List UInt8}(h:zEA t=true):t.isEmpty=false:=by
 cases t with
 | nil=>cases h
 | cons c r=>rfl
theorem zCz (kind num:Int)(text:List UInt8)(F:Bool)(named:Bool)(most:Int)(hn:zF0 kind=named)(hm:zF5 kind=most) :
  (F&&(decide (0≤num)&&(decide (num≤most)&&((named&&zEA text)||(!named&&text.isEmpty)))))=(zEI kind num text&&F):=by
 unfold zEI;rw[hn,hm]
 cases hI:zEA text
 ·cases named <;> cases F <;> cases text.isEmpty <;> cases decide (0≤num) <;> cases decide (num≤most) <;> rfl
 ·rw[zDO hI]
  cases named <;> cases F <;> cases decide (0≤num) <;> cases decide (num≤most) <;> rfl
theorem xW (kind num:Int)(text:List UInt8)(l:List Int)(ps:List vR)(more:Option vR)(named:Bool)(most:Int)(hf:XW kind=[⟨ps,more,named,most⟩])(hn:zF0 kind=named)(hm:zF5 kind=most)(hk:(vQ.mk ps more named most).fits l=jU kind l) :
  zAz kind num text l=(zEI kind num text&&jU kind l):=by
 unfold zAz;rw[hf,←zCz kind num text _ named most hn hm,←hk];simp[YD]
theorem zEC (kind num:Int)(text:List UInt8)(l:List Int)(ps qs:List vR)(most:Int)(hf:XW kind=[⟨ps,none,false,most⟩,⟨qs,none,false,most⟩])(hn:zF0 kind=false)(hm:zF5 kind=most)(hk:((vQ.mk ps none false most).fits l||(vQ.mk qs none false most).fits l)=jU kind l) :
  zAz kind num text l=(zEI kind num text&&jU kind l):=by
 unfold zAz;rw[hf,←zCz kind num text _ false most hn hm,←hk];simp only[List.any_cons,List.any_nil,Bool.or_false,YD];rw[Bool.and_or_distrib_right]
theorem vJ (w:Int)(hw:w≠0)(x:Int):vI (some (.ZL w)) x=jG w x:=by
 unfold vI vR.holds jG;rw[if_neg hw]
theorem vZ (x:Int):vI (some .expr) x=jG 0 x:=rfl
theorem ex1 (p:vR)(w:Int)(h:∀x,vI (some p) x=jG w x):∀i,i < [w].length→∀x,vI [p][i]? x=jG ([w].getD i 0) x:=by
 intro i hi x
 match i,hi with
 | 0,_=>exact h x
theorem ex2 (p q:vR)(w v:Int)(h:∀x,vI (some p) x=jG w x)(h2:∀x,vI (some q) x=jG v x):∀i,i < [w,v].length→∀x,vI [p,q][i]? x=jG ([w,v].getD i 0) x:=by
 intro i hi x
 match i,hi with
 | 0,_=>exact h x
 | 1,_=>exact h2 x
theorem ex3 (p q r:vR)(w v u:Int)(h:∀x,vI (some p) x=jG w x)(h2:∀x,vI (some q) x=jG v x)(h3:∀x,vI (some r) x=jG u x):∀i,i < [w,v,u].length→∀x,vI [p,q,r][i]? x=jG ([w,v,u].getD i 0) x:=by
 intro i hi x
 match i,hi with
 | 0,_=>exact h x
 | 1,_=>exact h2 x
 | 2,_=>exact h3 x
theorem ex4 (p q r s:vR)(w v u t:Int)(h:∀x,vI (some p) x=jG w x)(h2:∀x,vI (some q) x=jG v x)(h3:∀x,vI (some r) x=jG u x)(h4:∀x,vI (some s) x=jG t x):∀i,i < [w,v,u,t].length→∀x,vI [p,q,r,s][i]? x=jG ([w,v,u,t].getD i 0) x:=by
 intro i hi x
 match i,hi with
 | 0,_=>exact h x
 | 1,_=>exact h2 x
 | 2,_=>exact h3 x
 | 3,_=>exact h4 x
theorem ex0:∀i,i<([]:List Int).length→∀x,vI ([]:List vR)[i]? x=jG (([]:List Int).getD i 0) x:=by
 intro i hi
 simp at hi
theorem zAP (l:List Int):isR l []=(l.length==0):=by
 cases l <;> simp[isR]
theorem zMZ (kind num:Int)(text:List UInt8)(l:List Int):zAz kind num text l=(decide (1≤kind)&&(decide (kind≤26)&&(zEI kind num text&&jU kind l))):=by
 by_cases hk:1≤kind∧kind≤26
 ·rw[yS hk.1,yS hk.2,Bool.true_and,Bool.true_and]
  have hc:kind=1∨kind=2∨kind=3∨kind=4∨kind=5∨kind=6∨kind=7∨kind=8∨kind=9∨kind=10∨kind=11∨kind=12∨kind=13∨kind=14∨kind=15∨kind=16∨kind=17∨kind=18∨kind=19∨kind=20∨kind=21∨kind=22∨kind=23∨kind=24∨kind=25∨kind=26:=by omega
  rcases hc with rfl | rfl | rfl | rfl | rfl | rfl | rfl | rfl | rfl | rfl | rfl | rfl | rfl | rfl | rfl | rfl | rfl | rfl | rfl | rfl | rfl | rfl | rfl | rfl | rfl | rfl
  ·exact xW _ _ _ _ _ _ _ _ rfl rfl rfl (zBm _ _ _ _)
  ·refine xW _ _ _ _ _ _ _ _ rfl rfl rfl ((zGG _ _ _ _ _).trans ?_)
   show _=(decide (0<l.length)&&zB1 l 0 5)
   cases l <;> rfl
  ·exact xW _ _ _ _ _ _ _ _ rfl rfl rfl (xO _ _ _ _ rfl (ex2 _ _ _ _ (vJ 4 (by decide)) (vJ 6 (by decide))) l)
  ·exact xW _ _ _ _ _ _ _ _ rfl rfl rfl (zBm _ _ _ _)
  ·exact xW _ _ _ _ _ _ _ _ rfl rfl rfl ((xO [] [] _ _ rfl ex0 l).trans (zAP l))
  ·exact xW _ _ _ _ _ _ _ _ rfl rfl rfl (zBm _ _ _ _)
  ·exact xW _ _ _ _ _ _ _ _ rfl rfl rfl (xO _ _ _ _ rfl (ex2 _ _ _ _ (vJ 20 (by decide)) (vJ 5 (by decide))) l)
  ·exact xW _ _ _ _ _ _ _ _ rfl rfl rfl (xO _ _ _ _ rfl (ex3 _ _ _ _ _ _ (vJ 20 (by decide)) (vJ 5 (by decide)) vZ) l)
  ·refine xW _ _ _ _ _ _ _ _ rfl rfl rfl ((zFo _ _ _ _ _ _).trans ?_)
   show _=(decide (1<l.length)&&(l.getD 0 0==20&&zB1 l 1 0))
   match l with
   | []=>rfl
   | [x]=>rfl
   | x::y::l=>rfl
  ·exact xW _ _ _ _ _ _ _ _ rfl rfl rfl (xO _ _ _ _ rfl (ex1 _ _ (vJ 20 (by decide))) l)
  ·exact xW _ _ _ _ _ _ _ _ rfl rfl rfl (xO _ _ _ _ rfl (ex2 _ _ _ _ (vJ 5 (by decide)) (vJ 5 (by decide))) l)
  ·exact xW _ _ _ _ _ _ _ _ rfl rfl rfl (xO _ _ _ _ rfl (ex1 _ _ (vJ 5 (by decide))) l)
  ·refine zEC _ _ _ _ _ _ _ rfl rfl rfl ?_;rw[xO _ [5] _ _ rfl (ex1 _ _ (vJ 5 (by decide))) l,xO _ [20] _ _ rfl (ex1 _ _ (vJ 20 (by decide))) l]
   rfl
  ·refine zEC _ _ _ _ _ _ _ rfl rfl rfl ?_;rw[xO _ [0,0,6] _ _ rfl (ex3 _ _ _ _ _ _ vZ vZ (vJ 6 (by decide))) l,xO _ [0,0,6,6] _ _ rfl (ex4 _ _ _ _ _ _ _ _ vZ vZ (vJ 6 (by decide)) (vJ 6 (by decide))) l]
   rfl
  ·exact xW _ _ _ _ _ _ _ _ rfl rfl rfl (xO _ _ _ _ rfl (ex3 _ _ _ _ _ _ (vJ 21 (by decide)) (vJ 21 (by decide)) (vJ 6 (by decide))) l)
  ·exact xW _ _ _ _ _ _ _ _ rfl rfl rfl (xO _ _ _ _ rfl (ex1 _ _ vZ) l)
  ·exact xW _ _ _ _ _ _ _ _ rfl rfl rfl (xO _ _ _ _ rfl (ex1 _ _ vZ) l)
  ·exact xW _ _ _ _ _ _ _ _ rfl rfl rfl ((xO [] [] _ _ rfl ex0 l).trans (zAP l))
  ·exact xW _ _ _ _ _ _ _ _ rfl rfl rfl ((xO [] [] _ _ rfl ex0 l).trans (zAP l))
  ·exact xW _ _ _ _ _ _ _ _ rfl rfl rfl (xO _ _ _ _ rfl (ex1 _ _ vZ) l)
  ·exact xW _ _ _ _ _ _ _ _ rfl rfl rfl ((xO [] [] _ _ rfl ex0 l).trans (zAP l))
  ·exact xW _ _ _ _ _ _ _ _ rfl rfl rfl ((xO [] [] _ _ rfl ex0 l).trans (zAP l))
  ·exact xW _ _ _ _ _ _ _ _ rfl rfl rfl (xO _ _ _ _ rfl (ex2 _ _ _ _ vZ vZ) l)
  ·exact xW _ _ _ _ _ _ _ _ rfl rfl rfl (xO _ _ _ _ rfl (ex2 _ _ _ _ vZ vZ) l)
  ·exact xW _ _ _ _ _ _ _ _ rfl rfl rfl (xO _ _ _ _ rfl (ex2 _ _ _ _ vZ vZ) l)
  ·exact xW _ _ _ _ _ _ _ _ rfl rfl rfl (xO _ _ _ _ rfl (ex1 _ _ vZ) l)
 ·have h0:XW kind=[]:=by
   unfold XW
   repeat (rw[if_neg (by omega)])
  have h1:(decide (1≤kind)&&(decide (kind≤26)&&(zEI kind num text&&jU kind l)))=false:=by
   by_cases h1:1≤kind
   ·rw[yR (show ¬kind≤26 from by omega)]
    simp
   ·rw[yR h1]
    simp
  rw[h1];unfold zAz;rw[h0]
  rfl
theorem zL5 {g:Nat→Int}{ks:List Nat}{u:Int}(h:isR (ks.map g) [u]=true):∃a,ks=[a]∧jG u (g a)=true:=by
 unfold isR at h
 match ks with
 | []=>simp at h
 | [a]=>exact⟨a,rfl,by simpa using h⟩
 | a::b::l=>simp at h
theorem zLq {g:Nat→Int}{ks:List Nat}{u v:Int}(h:isR (ks.map g) [u,v]=true):∃a b,ks=[a,b]∧jG u (g a)=true∧jG v (g b)=true:=by
 unfold isR at h
 match ks with
 | []=>simp at h
 | [a]=>simp at h
 | [a,b]=>exact⟨a,b,rfl,by simpa [List.range_succ] using h⟩
 | a::b::c::l=>simp at h
theorem zRV {g:Nat→Int}{ks:List Nat}{u v x:Int}(h:isR (ks.map g) [u,v,x]=true):∃a b c,ks=[a,b,c]∧jG u (g a)=true∧jG v (g b)=true∧jG x (g c)=true:=by
 unfold isR at h
 match ks with
 | []=>simp at h
 | [a]=>simp at h
 | [a,b]=>simp at h
 | [a,b,c]=>exact⟨a,b,c,rfl,by simpa [List.range_succ,and_assoc] using h⟩
 | a::b::c::d::l=>simp at h
theorem zVj {g:Nat→Int}{ks:List Nat}{u v x y:Int}(h:isR (ks.map g) [u,v,x,y]=true):∃a b c d,ks=[a,b,c,d]∧jG u (g a)=true∧jG v (g b)=true∧jG x (g c)=true∧jG y (g d)=true:=by
 unfold isR at h
 match ks with
 | []=>simp at h
 | [a]=>simp at h
 | [a,b]=>simp at h
 | [a,b,c]=>simp at h
 | [a,b,c,d]=>exact⟨a,b,c,d,rfl,by simpa [List.range_succ,and_assoc] using h⟩
 | a::b::c::d::e::l=>simp at h
theorem zAv {k:Nat}(h:jG 0 (k:Int)=true):zDA k:=by
 unfold jG VD at h;rw[if_pos rfl] at h;simp only[zG,zF] at h;exact⟨by omega,by omega⟩
theorem JW {k:Nat}{w:Int}(hw:w≠0)(h:jG w (k:Int)=true):(k:Int)=w:=by
 unfold jG at h;rw[if_neg hw] at h
 simpa using h
theorem zSX {t:List Nd}{i:Nat}(h1:(xC t i).kind≠1)(h4:(xC t i).kind≠4)(h:jU ((xC t i).kind:Int) ((xC t i).kids.map fun k=>((xC t k).kind:Int))=true):zAg t i:=by
 unfold zAg;generalize (xC t i).kids=ks at *;obtain⟨x,hx⟩:∃x,(xC t i).kind=x:=⟨_,rfl⟩;rw[hx] at h h1 h4 ⊢
 have hcs:x=2∨x=3∨x=6∨x=7∨x=8∨x=9∨x=10∨x=11∨x=12∨x=13∨x=14∨x=15∨x=16∨x=17∨x=18∨x=19∨x=20∨x=21∨x=22∨x=23∨x=24∨x=25∨x=26∨x=0∨x=5∨27≤x:=by omega
 unfold jU at h
 rcases hcs with rfl | rfl | rfl | rfl | rfl | rfl | rfl | rfl | rfl | rfl | rfl | rfl | rfl | rfl | rfl | rfl | rfl | rfl | rfl | rfl | rfl | rfl | rfl | rfl | rfl | hge
 ·trivial
 ·obtain⟨a,b,hk,_,hb⟩:=zLq (show isR _ [4,6]=true by simpa using h);exact⟨a,b,hk,by have:=JW (by decide) hb; omega⟩
 ·have h':zB1 (ks.map fun k=>((xC t k).kind:Int)) 0 1=true:=by simpa using h
  unfold zB1 at h';simp only[List.drop_zero,List.all_map,zH] at h';intro k hk
  have:=h' k hk
  simp[zGQ,zAL] at this;omega
 ·obtain⟨a,b,hk,ha,_⟩:=zLq (show isR _ [20,5]=true by simpa using h);exact⟨a,b,hk,by have:=JW (by decide) ha; omega⟩
 ·obtain⟨a,b,c,hk,ha,_,hc⟩:=zRV (show isR _ [20,5,0]=true by simpa using h);exact⟨a,b,c,hk,by have:=JW (by decide) ha; omega,zAv hc⟩
 ·have h':decide (1<(ks.map fun k=>((xC t k).kind:Int)).length)&&((ks.map fun k=>((xC t k).kind:Int)).getD 0 0==20&&zB1 (ks.map fun k=>((xC t k).kind:Int)) 1 0)=true:=by simpa using h
  match ks with
  | []=>simp at h'
  | a::l=>
   simp[zB1,zGQ] at h';refine⟨a,l,rfl,by omega,fun k hk=>?_⟩
   have:=h'.2.2 k hk
   simp[VD] at this;exact⟨by omega,by omega⟩
 ·obtain⟨a,hk,ha⟩:=zL5 (show isR _ [20]=true by simpa using h);exact⟨a,hk,by have:=JW (by decide) ha; omega⟩
 ·obtain⟨a,b,hk,_,_⟩:=zLq (show isR _ [5,5]=true by simpa using h);exact⟨a,b,hk⟩
 ·obtain⟨a,hk,ha⟩:=zL5 (show isR _ [5]=true by simpa using h);exact⟨a,hk,.inl (by have:=JW (by decide) ha; omega)⟩
 ·have h':(isR (ks.map fun k=>((xC t k).kind:Int)) [5]||isR (ks.map fun k=>((xC t k).kind:Int)) [20])=true:=by simpa using h
  rw[Bool.or_eq_true] at h'
  rcases h' with h' | h'
  ·obtain⟨a,hk,ha⟩:=zL5 h';exact⟨a,hk,.inl (by have:=JW (by decide) ha; omega)⟩
  ·obtain⟨a,hk,ha⟩:=zL5 h';exact⟨a,hk,.inr (by have:=JW (by decide) ha; omega)⟩
 ·have h':(isR (ks.map fun k=>((xC t k).kind:Int)) [0,0,6]||isR (ks.map fun k=>((xC t k).kind:Int)) [0,0,6,6])=true:=by simpa using h
  rw[Bool.or_eq_true] at h'
  rcases h' with h' | h'
  ·obtain⟨a,b,c,hk,ha,hb,hc⟩:=zRV h';refine⟨a,b,[c],hk,zAv ha,zAv hb,fun k hm=>?_⟩;rw[List.mem_singleton.1 hm]
   have:=JW (by decide) hc
   omega
  ·obtain⟨a,b,c,d,hk,ha,hb,hc,hd⟩:=zVj h';refine⟨a,b,[c,d],hk,zAv ha,zAv hb,fun k hm=>?_⟩;have hc:=JW (by decide) hc;have hd:=JW (by decide) hd
   have hm':k=c∨k=d:=by simpa using hm
   rcases hm' with rfl | rfl <;> omega
 ·obtain⟨a,b,c,hk,_,_,hc⟩:=zRV (show isR _ [21,21,6]=true by simpa using h);exact⟨a,b,c,hk,by have:=JW (by decide) hc; omega⟩
 ·obtain⟨a,hk,ha⟩:=zL5 (show isR _ [0]=true by simpa using h);exact⟨a,hk,zAv ha⟩
 ·obtain⟨a,hk,ha⟩:=zL5 (show isR _ [0]=true by simpa using h);exact⟨a,hk,zAv ha⟩
 ·show ks=[]
  simpa using h
 ·show ks=[]
  simpa using h
 ·obtain⟨a,hk,ha⟩:=zL5 (show isR _ [0]=true by simpa using h);exact⟨a,hk,zAv ha⟩
 ·intro k hk
  have:ks=[]:=by simpa using h
  rw[this] at hk
  cases hk
 ·intro k hk
  have:ks=[]:=by simpa using h
  rw[this] at hk
  cases hk
 ·obtain⟨a,b,hk,ha,hb⟩:=zLq (show isR _ [0,0]=true by simpa using h);intro k hm;rw[hk] at hm
  have hm':k=a∨k=b:=by simpa using hm
  rcases hm' with rfl | rfl
  ·exact zAv ha
  ·exact zAv hb
 ·obtain⟨a,b,hk,ha,hb⟩:=zLq (show isR _ [0,0]=true by simpa using h);intro k hm;rw[hk] at hm
  have hm':k=a∨k=b:=by simpa using hm
  rcases hm' with rfl | rfl
  ·exact zAv ha
  ·exact zAv hb
 ·obtain⟨a,b,hk,ha,hb⟩:=zLq (show isR _ [0,0]=true by simpa using h);intro k hm;rw[hk] at hm
  have hm':k=a∨k=b:=by simpa using hm
  rcases hm' with rfl | rfl
  ·exact zAv ha
  ·exact zAv hb
 ·obtain⟨a,hk,ha⟩:=zL5 (show isR _ [0]=true by simpa using h);intro k hm;rw[hk] at hm;rw[List.mem_singleton.1 hm];exact zAv ha
 ·intro k hk
  have:ks=[]:=by simpa using h
  rw[this] at hk
  cases hk
 ·intro k hk
  have:ks=[]:=by simpa using h
  rw[this] at hk
  cases hk
 ·have hl:ks=[]:=by
   rw[if_neg (by omega),if_neg (by omega),if_neg (by omega),if_neg (by omega),if_neg (by omega),if_neg (by omega),if_neg (by omega),if_neg (by omega),if_neg (by omega),if_neg (by omega),if_neg (by omega),if_neg (by omega),if_neg (by omega),if_neg (by omega),if_neg (by omega),if_neg (by omega)] at h
   simpa using h
  subst hl
  split <;> first | omega | (intro k hk; cases hk)
theorem zKP {t:List Nd}{i:Nat}(h:t.length≤i):(xC t i).kids=[]:=by unfold xC; rw[yH,zM h]; rfl
theorem zKZ {t:List Nd}(hr:∀i,i<t.length→∀k ∈ (xC t i).kids,i<k∧k<t.length)(hf:∀i,i<t.length→jU ((xC t i).kind:Int) ((xC t i).kids.map fun k=>((xC t k).kind:Int))=true):VA t:=
 ⟨fun i k hk=>(Nat.lt_or_ge i t.length).elim (fun h=>hr i h k hk) (fun h=>absurd hk (by rw[zKP h]; exact List.not_mem_nil)),fun i hi h1 h4=>zSX h1 h4 (hf i hi)⟩
theorem zPr {t:List Nd}(h1:(xC t 0).kind=1)(hf:jU ((xC t 0).kind:Int) ((xC t 0).kids.map fun k=>((xC t k).kind:Int))=true):∀k ∈ (xC t 0).kids,(xC t k).kind=2∨(xC t k).kind=3:=fun k hk=>by
 rw[h1] at hf;unfold jU at hf;rw[if_pos (by decide)] at hf;have h2:=List.all_eq_true.1 hf ((xC t k).kind:Int) (List.mem_map.2 ⟨k,hk,rfl⟩);simp[zBM] at h2;omega
end Go.Proofs.YtbadjmmjbpeocaaGreatDoor
namespace Go.Proofs.YtbadjmmjbpeocaaGreatDoor
open Go Go.RowKit
theorem zFM {L:List TT.xR}{i:Nat}(h:i<L.length):xC (tN (txM L)) i=(zK2 L[i]).1:=by
 rw[zCu (by rw[JR]; exact h)];simp only[txM,zA]
structure zRX (L:List TT.xR):Prop where
 pos:0<L.length
 nodes:∀x ∈ L,zGW x
 right:VA (tN (txM L))
 roots:∀k ∈ (xC (tN (txM L)) 0).kids,(xC (tN (txM L)) k).kind=2∨(xC (tN (txM L)) k).kind=3
theorem zO3 {L:List TT.xR}(h:TT.JS L=true)(hsm:∀x ∈ L,TT.zC0 x):zRX L:=by
 rw[TT.zKc] at h;unfold TT.zLa at h;simp only[zG,zF,zO] at h;obtain⟨h0,h1,h2,h3,h4⟩:=h;rw[TT.zDN] at h2;have hk:∀i (hi:i<L.length),∀k ∈ L[i].kids,(i:Int)<k∧k<(L.length:Int):=fun i hi k hk=>h2 i hi k (by rw[TT.zDf L i hi]; exact hk)
 have hnb:∀x ∈ L,1≤x.kind∧jU x.kind (TT.jY L x.kids)=true:=fun x hx=>by
  have:=List.all_eq_true.1 h4 x hx
  unfold TT.zMn at this;simp only[zG,zF] at this;exact⟨this.1,this.2.2.2⟩
 have hnode:∀x ∈ L,zGW x:=fun x hx=>by
  obtain⟨i,hi,rfl⟩:=List.getElem_of_mem hx;refine⟨by have:=(hnb _ hx).1; omega,fun k hk'=>by have:=hk i hi k hk'; omega,?_⟩
  have:=(hsm _ hx).text
  unfold maxLen;omega
 have hkids:∀i (hi:i<L.length),(xC (tN (txM L)) i).kids=L[i].kids.map Int.toNat:=fun i hi=>by rw[zFM hi]; rfl
 have hkind:∀i (hi:i<L.length),((xC (tN (txM L)) i).kind:Int)=L[i].kind:=fun i hi=>by
  rw[zFM hi];exact Int.toNat_of_nonneg (hnode _ (yO hi)).kind
 have hlen:(tN (txM L)).length=L.length:=by rw[zAk,JR]
 have hf:∀i,i<(tN (txM L)).length→jU ((xC (tN (txM L)) i).kind:Int) ((xC (tN (txM L)) i).kids.map fun k=>((xC (tN (txM L)) k).kind:Int))=true:=fun i hi=>by
  rw[hlen] at hi
  have e:(xC (tN (txM L)) i).kids.map (fun k=>((xC (tN (txM L)) k).kind:Int))=TT.jY L L[i].kids:=by
   rw[hkids i hi,List.map_map];unfold TT.jY;apply List.map_congr_left;intro k hk'
   have:=hk i hi k hk'
   obtain⟨a,rfl⟩:∃a:Nat,k=(a:Int):=⟨k.toNat,by omega⟩
   have ha:a<L.length:=by omega
   simp only[Function.comp,zI];rw[hkind a ha,TT.zCq ha]
  rw[e,hkind i hi];exact(hnb _ (yO hi)).2
 have hr:∀i,i<(tN (txM L)).length→∀k ∈ (xC (tN (txM L)) i).kids,i<k∧k<(tN (txM L)).length:=fun i hi k hk'=>by
  rw[hlen] at hi ⊢;rw[hkids i hi] at hk';obtain⟨z,hz,rfl⟩:=List.mem_map.1 hk'
  have:=hk i hi z hz
  omega
 refine⟨h0,hnode,zKZ hr hf,zPr ?_ (hf 0 (by rw[hlen]; exact h0))⟩
 have e:((xC (tN (txM L)) 0).kind:Int)=1:=by
  rw[hkind 0 h0,←TT.zCq h0];exact h1
 omega
theorem zD9 (A:Option Addr)(l:Bs)(n c:Nat)(hn:n=l.length)(tA:Option Addr)(L:List TT.xR)(m tc:Nat)(hm:m=L.length)(w:World)(hbig:l.length≤140737488355328)(hcap:l.length≤c)(hC:Cells w A (vB l))(ht:TT.zA7 w tA L)(hz:tA=none→tc=0)(hlen:L.length≤9000)(hsm:∀x ∈ L,TT.zC0 x)(hpos:∀x ∈ L,-9223372036854775808≤x.pos∧x.pos≤9223372036854775807) :
  Calls Tryz.prog 8 #[.slice A n c,.agg #[.slice tA m tc]] w fun e w'=>if TT.JS L=true then zRX L∧zLw l L w (jK (tN (txM L))) e w' else e=.returned (.tuple #[.agg zAE,.iface 52 (.int .i64 2)])∧Ext w w':=by
 cases hr:TT.JS L with
 | true=>
  have hx:=zO3 hr hsm;refine(zN4 A l n c hn tA L m tc hm w hbig hcap hC ht hz hlen hx.pos hsm hx.nodes hr hx.right hx.roots hpos fun i e=>zLD i e).mono fun e w' h=>?_;rw[if_pos rfl];exact⟨hx,h⟩
 | false=>
  refine(zOi A l n c hn tA L m tc hm w ht hlen hsm hr).mono fun e w' h=>?_;rw[if_neg (by decide)];exact h
theorem zF1 {w:World}{B:Nat}{t:TypeId}{s n m c:Nat}{A:Option Addr}{xs:List Value}(h:w.ownsRow B t s (.slice A m c) n xs):A=none→c=0:=fun e=>by
 subst e
 rcases h.2 with ⟨hv,_⟩ | ⟨g,_,_,hv,_⟩
 ·injection hv
 ·injection hv with h1; cases h1
def toT (x:Nd × Hd2):TT.xR:=⟨x.1.kind,x.1.pos,xI x.1.text,x.1.num,x.2.1,x.2.2,x.1.kids.map fun (k:Nat)=>(k:Int)⟩
theorem zQy (x:Nd × Hd2):(toT x).cells=YH x:=by simp[toT,TT.xR.cells,YH]
theorem zTu (l:List Nat):ints l=TT.jP (l.map fun (k:Nat)=>(k:Int)):=by simp[ints,TT.jP]
theorem NS.toT {w:World}{B:Nat}{A:Option Addr}{c:Nat}{nh:List (Nd × Hd2)}(h:NS w B 39 3 A c nh)(hk:∀x ∈ nh,x.1.kind<256 ∧ -9223372036854775808≤x.1.num∧x.1.num≤9223372036854775807):TT.zA7 w A (nh.map Proofs.YtbadjmmjbpeocaaGreatDoor.toT):=by
 refine⟨?_,fun x hx=>?_⟩
 ·have e:TT.YJ (nh.map Proofs.YtbadjmmjbpeocaaGreatDoor.toT)=ncs nh:=by
   unfold TT.YJ ncs;rw[List.flatMap_map]
   congr 1
   funext x
   exact zQy x
  rw[e];exact Cells.own h.row
 ·obtain⟨y,hy,rfl⟩:=List.mem_map.1 hx;obtain⟨h1,h2,h3⟩:=hk y hy;refine⟨⟨Int.natCast_nonneg _,by show((y.1.kind:Nat):Int)<256; omega⟩,⟨h2,h3⟩,?_,zF1 (h.kids y hy)⟩
  have:=Cells.own (h.kids y hy)
  rw[zTu] at this;exact this
theorem zSU (x:Nd × Hd2):(zK2 (toT x)).1=x.1:=by
 obtain⟨⟨k,p,t,n,ks⟩,A,c⟩:=x;simp[zK2,toT,xI,List.map_map,Function.comp_def]
theorem zLG (nh:List (Nd × Hd2)):tN (txM (nh.map toT))=nh.map Prod.fst:=by
 unfold tN txM;rw[List.map_map,List.map_map];apply List.map_congr_left;intro x _;exact zSU x
end Go.Proofs.YtbadjmmjbpeocaaGreatDoor
namespace Go.Proofs.YtbadjmmjbpeocaaGreatDoor
def okI (x:Int):Prop:=-9223372036854775808≤x∧x≤9223372036854775807
def okT (t:Tok):Prop:=okI t.n∧t.text.length≤1500∧t.at_≤1500
def okN (n:Nd):Prop:=n.kind<256∧okI n.num∧n.text.length≤1500∧n.pos≤1500
structure KS (s:Ps):Prop where
 nd:∀n ∈ s.nd,okN n
 ts:∀t ∈ s.ts,okT t
def KP {α:Type}(Q:α→Prop)(r:Res α):Prop:=∀a s,r=.ok a s→KS s∧Q a
def QT {α:Type}(_:α):Prop:=True
theorem VE {α:Type}{Q:α→Prop}{a:α}{s:Ps}(h:KS s)(q:Q a):KP Q (.ok a s):=fun b t e=>by injection e with e1 e2; subst e1; subst e2; exact⟨h,q⟩
theorem zBS {α:Type}{Q:α→Prop}{e:Int}{p:Nat}:KP Q (.err e p:Res α):=fun b t h=>by cases h
theorem xZ {α β:Type}{Q:α→Prop}{T:β→Prop}{r:Res α}{f:α→Ps→Res β}(h:KP Q r)(k:∀a s,KS s→Q a→KP T (f a s)):KP T (r.bind f):=fun b t e=>by
 cases r with
 | ok a s=>exact k a s (h a s rfl).1 (h a s rfl).2 b t e
 | err i p=>cases e
theorem XU {α:Type}{Q:α→Prop}{c:Prop} [Decidable c] {a b:Res α}(h:KP Q a)(k:KP Q b):KP Q (if c then a else b):=by
 split
 ·exact h
 ·exact k
theorem zKL {x:Int}(h:-1000≤x)(h2:x≤1000):okI x:=⟨by omega,by omega⟩
section
variable {s:Ps}
theorem KS.adv (h:KS s):KS s.adv:=⟨h.nd,fun t ht=>h.ts t (List.mem_of_mem_tail ht)⟩
theorem KS.deep (h:KS s)(d:Nat):KS { s with deep:=d }:=⟨h.nd,h.ts⟩
theorem ok0:okI 0:=zKL (by decide) (by decide)
theorem KS.hd (h:KS s):okT s.hd:=by
 unfold Ps.hd
 cases e:s.ts with
 | nil=>exact⟨ok0,zW _,zW _⟩
 | cons t l=>exact h.ts t (by rw[e]; simp)
theorem KS.add (h:KS s){n:Nd}(hn:okN n):KS (s.add n):=⟨fun m hm=>by
 rcases List.mem_append.1 hm with hm | hm
 ·exact h.nd m hm
 ·rw[yN] at hm; subst hm; exact hn,h.ts⟩
theorem KS.on (h:KS s)(i:Nat){f:Nd→Nd}(hf:∀n,okN n→okN (f n)):KS (s.on i f):=⟨fun m hm=>by
 obtain⟨j,hj⟩:=List.mem_iff_getElem?.1 hm;have hj:(s.nd.modify i f)[j]?=some m:=hj;rw[List.getElem?_modify] at hj
 try simp only[Option.map_eq_map] at hj
 obtain⟨y,hy,rfl⟩:=Option.map_eq_some_iff.1 hj
 have:=h.nd y (yB hy)
 by_cases hij:i=j
 ·rw[if_pos hij]; exact hf y this
 ·rw[if_neg hij]; exact this,h.ts⟩
theorem KS.kid (h:KS s)(i:Nat):KS (s.kid i):=h.on i fun n hn=>hn
theorem KS.node (h:KS s){k:Nat}(hk:k<256):KS (s.node k):=h.add ⟨hk,ok0,zW _,h.hd.2.2⟩
theorem KS.text (h:KS s)(i:Nat){t:Bs}(ht:t.length≤1500):KS (s.text i t):=h.on i fun n hn=>⟨hn.1,hn.2.1,ht,hn.2.2.2⟩
theorem KS.num (h:KS s)(i:Nat){x:Int}(hx:okI x):KS (s.num i x):=h.on i fun n hn=>⟨hn.1,hx,hn.2.2⟩
theorem KS.kind (h:KS s)(i:Nat){k:Nat}(hk:k<256):KS (s.kind i k):=h.on i fun n hn=>⟨hk,hn.2⟩
theorem KS.xJ (h:KS s)(i:Nat){k:Nat}(hk:k<256):KS (s.xJ i k):=(h.kid i).node hk
theorem ZZ (h:KS s)(t:Bs):KP QT (vW t s):=XU (VE h.adv trivial) zBS
theorem zUk (h:KS s)(k:Nat):KP okT (ofP k s):=XU (VE h.adv h.hd) zBS
theorem zAU (h:KS s)(i:Nat):KP QT (jS i s):=xZ (zUk h 1) fun t s hs ht=>VE (hs.text _ ht.2.1) trivial
theorem zEW (h:KS s)(i:Nat):KP QT (zAI i s):=zAU (h.xJ i (by decide)) _
theorem zSj (h:KS s)(i:Nat):KP QT (zCY i s):=xZ (zUk h 2) fun t s hs ht=>VE (hs.num _ ht.1) trivial
theorem zJ7 (h:KS s)(i:Nat):KP QT (zCG i s):=zSj (h.xJ i (by decide)) _
theorem zEQ {α:Type}{Q:α→Prop}{body:Pm α}(hb:∀s,KS s→KP Q (body s))(h:KS s)(a z:Bs):KP Q (jF a z body s):=by
 unfold jF;refine XU (XU zBS (xZ (hb _ (h.adv.deep _)) fun x t ht hx=>XU (VE (ht.deep _) hx) (xZ (ZZ ht z) fun _ u hu _=>VE (hu.deep _) hx))) zBS
end
def QE:Ex→Prop
 | .leaf k p t n=>k<256∧okI n∧t.length≤1500∧p≤1500
 | .neg p a=>p≤1500∧QE a
 | .bin k p a b=>k<256∧p≤1500∧QE a∧QE b
theorem QE.pos:∀ {e:Ex},QE e→e.pos≤1500
 | .leaf _ _ _ _,h=>h.2.2.2
 | .neg _ _,h=>h.1
 | .bin _ _ _ _,h=>h.2.1
theorem zLx:∀(e:Ex) (i:Nat) (s:Ps),KS s→QE e→KS (zB8 i e s)
 | .leaf k p t n,i,s,h,q=>(h.kid i).add q
 | .neg p a,i,s,h,q=>zLx a _ _ ((h.kid i).add ⟨show 26<256 by decide,ok0,zW _,q.1⟩) q.2
 | .bin k p a b,i,s,h,q=>zLx b _ _ (zLx a _ _ ((h.kid i).add ⟨q.1,ok0,zW _,q.2.1⟩) q.2.2.1) q.2.2.2
theorem zTo {ms:List (Bs × Nat)}(hm:∀m ∈ ms,m.2<256){s:Ps}{k:Nat}(h:zDR ms s=some k):k<256:=by
 unfold zDR at h;obtain⟨m,h1,rfl⟩:=Option.map_eq_some_iff.1 h;exact hm m (List.mem_of_find?_eq_some h1)
theorem zKD {ms:List (Bs × Nat)}(hm:∀m ∈ ms,m.2<256){part:Pm Ex}(hp:∀s,KS s→KP QE (part s)):∀(f:Nat) (e:Ex) (s:Ps),KS s→QE e→KP QE (VY ms part f e s)
 | 0,e,s,h,q=>zBS
 | f+1,e,s,h,q=>by
  unfold VY
  split
  ·exact VE h q
  ·rename_i k hk;exact xZ (hp _ h.adv) fun r t ht hr=>zKD hm hp f _ _ ht ⟨zTo hm hk,q.pos,q,hr⟩
theorem zMm {ms:List (Bs × Nat)}(hm:∀m ∈ ms,m.2<256){part:Pm Ex}(hp:∀s,KS s→KP QE (part s)){s:Ps}(h:KS s):KP QE (XB ms part s):=xZ (hp s h) fun e t ht q=>zKD hm hp _ _ _ ht q
theorem zME {part:Pm Ex}(hp:∀s,KS s→KP QE (part s)){s:Ps}(h:KS s):KP QE (zEr part s):=zMm (by decide) (fun s h=>zMm (by decide) hp h) h
theorem zGH:∀(f:Nat) (s:Ps),KS s→KP QE (vL f s)
 | 0,s,h=>zBS
 | f+1,s,h=>by
  unfold vL;exact XU (VE h.adv ⟨by decide,ok0,h.hd.2⟩) (XU (VE h.adv ⟨by decide,h.hd.1,zW _,h.hd.2.2⟩) (XU (xZ (zEQ (fun s h=>zGH f s h) h _ _) fun a t ht q=>VE ht ⟨h.hd.2.2,q⟩) (zEQ (fun s h=>zME (fun s h=>zGH f s h) h) h _ _)))
section
variable {s:Ps}
theorem zDx (h:KS s)(i:Nat):KP QT (zAB i s):=xZ (zME (fun s h=>zGH _ s h) h) fun e t ht q=>VE (zLx _ _ _ ht q) trivial
theorem zPg {one:Pm Unit}(ho:∀s,KS s→KP QT (one s)):∀(f:Nat) (s:Ps),KS s→KP QT (zBI one f s)
 | 0,s,h=>zBS
 | f+1,s,h=>by unfold zBI; exact XU (xZ (ho _ h.adv) fun _ t ht _=>zPg ho f t ht) (VE h trivial)
theorem zLU {one:Pm Unit}(ho:∀s,KS s→KP QT (one s))(h:KS s):KP QT (zAh one s):=xZ (ho _ h) fun _ t ht _=>zPg ho _ t ht
theorem zSZ (h:KS s)(i:Nat):KP QT (zGg i s):=zEQ (fun s h=>zDx h i) h _ _
theorem zOM (h:KS s)(i:Nat):KP QT (zJL i s):=xZ (zAU (h.xJ i (by decide)) _) fun _ t ht _=>zSZ ht _
theorem zPm (h:KS s)(i:Nat):KP QT (zJy i s):=xZ (zOM h i) fun _ t ht _=>xZ (ZZ ht _) fun _ u hu _=>zEW hu i
end
theorem ok1:okI 1:=zKL (by decide) (by decide)
theorem zT8 {t:Bs}{k:Nat}(h:ZM t=some k):k<256:=by
 unfold ZM at h;obtain⟨m,h1,rfl⟩:=Option.map_eq_some_iff.1 h;exact(show ∀m ∈ zJb,m.2<256 by decide) m (List.mem_of_find?_eq_some h1)
section
variable {s:Ps}
theorem zTg (h:KS s)(i:Nat):KP QT (zKM i s):=xZ (zAU h i) fun _ s h _=>xZ (ZZ h _) fun _ s h _=>xZ (zPm h i) fun _ s h _=>XU (xZ (ZZ h.adv _) fun _ s h _=>VE (h.num _ ok1) trivial) (VE h trivial)
theorem zUz (h:KS s)(i:Nat):KP QT (zQB i s):=xZ (zPm h i) fun _ s h _=>xZ (ZZ h _) fun _ s h _=>zDx h i
theorem zQM (h:KS s)(i:Nat):KP QT (zET i s):=xZ (zOM h i) fun _ s h _=>xZ (ZZ h _) fun _ s h _=>xZ (zLU (fun s h=>zDx h i) h) fun _ s h _=>ZZ h _
theorem zTL (h:KS s)(i:Nat):KP QT (zJZ i s):=xZ (zAU h i) fun _ s h _=>xZ (ZZ h _) fun _ s h _=>xZ (zEW h i) fun _ s h _=>xZ (ZZ h _) fun _ s h _=>zEW h i
theorem zTd (h:KS s)(i:Nat):KP QT (zJ9 i s):=xZ (zEW h i) fun _ s h _=>XU (VE (h.adv.num _ ok1) trivial) (ZZ h _)
theorem zN1 (h:KS s)(i:Nat):KP QT (zDj i s):=xZ (zAU (h.xJ i (by decide)) _) fun _ t h _=>XU (zSZ (h.kind _ (by decide)) _) (VE h trivial)
theorem zS6 (h:KS s)(i:Nat):KP QT (zE6 i s):=XU (VE (h.adv.num _ ok1) trivial) (ZZ h _)
theorem zUE (h:KS s)(i:Nat):KP QT (zPP i s):=xZ (zAU h i) fun _ s h _=>xZ (ZZ h _) fun _ s h _=>zDx h i
theorem zMr {st:Nat→Pm Unit}(hst:∀i s,KS s→KP QT (st i s))(i:Nat):∀(f:Nat) (s:Ps),KS s→KP QT (XA st i f s)
 | 0,s,h=>zBS
 | f+1,s,h=>by unfold XA; exact XU (VE h trivial) (xZ (hst i s h) fun _ t ht _=>zMr hst i f t ht)
theorem zDH {st:Nat→Pm Unit}(hst:∀i s,KS s→KP QT (st i s))(h:KS s)(i:Nat):KP QT (zAX st i s):=zEQ (fun t ht=>zMr hst _ _ t ht) (h.xJ i (by decide)) _ _
theorem zTB {st:Nat→Pm Unit}(hst:∀i s,KS s→KP QT (st i s))(h:KS s)(i:Nat):KP QT (zGO st i s):=XU (zDH hst h.adv i) (VE h trivial)
theorem zPC {st:Nat→Pm Unit}(hst:∀i s,KS s→KP QT (st i s))(h:KS s)(i:Nat):KP QT (zDk st i s):=xZ (zDx h i) fun _ s h _=>xZ (zS6 h i) fun _ s h _=>xZ (zDx h i) fun _ s h _=>xZ (zDH hst h i) fun _ s h _=>zTB hst h i
theorem zTH {st:Nat→Pm Unit}(hst:∀i s,KS s→KP QT (st i s))(h:KS s)(i:Nat):KP QT (zGw st i s):=xZ (zAU h i) fun _ s h _=>xZ (ZZ h _) fun _ s h _=>xZ (zJ7 h i) fun _ s h _=>xZ (ZZ h _) fun _ s h _=>xZ (zJ7 h i) fun _ s h _=>zDH hst h i
theorem zRr {st:Nat→Pm Unit}(hst:∀i s,KS s→KP QT (st i s))(h:KS s)(k i:Nat):KP QT (VO st k i s):=by
 unfold VO
 split
 ·exact zTg h i
 split
 ·exact zUz h i
 split
 ·exact zQM h i
 split
 ·exact zOM h i
 split
 ·exact zTL h i
 split
 ·exact zTd h i
 split
 ·exact zN1 h i
 split
 ·exact zPC hst h i
 split
 ·exact zTH hst h i
 split
 ·exact zUE h i
 split
 ·exact zDx h i
 ·exact VE h trivial
theorem zOY:∀(f i:Nat) (s:Ps),KS s→KP QT (YO f i s)
 | 0,i,s,h=>zBS
 | f+1,i,s,h=>by
  unfold YO
  split
  ·exact zBS
  ·rename_i k hk
   have hlt:k<256:=by
    split at hk
    ·exact zT8 hk
    ·cases hk
   exact xZ (zRr (fun i s h=>zOY f i s h) (h.xJ i hlt).adv _ _) fun _ t ht _=>XU (VE ht trivial) (ZZ ht _)
theorem zSB (h:KS s)(i:Nat):KP QT (zD3 i s):=zDH (fun i s h=>zOY _ i s h) h i
theorem zSk (h:KS s)(i:Nat):KP QT (zCX i s):=xZ (ZZ (h.xJ i (by decide)) _) fun _ t h _=>xZ (zAU h _) fun _ t h _=>xZ (ZZ h _) fun _ t h _=>xZ (zLU (fun s h=>zEW h _) h) fun _ t h _=>xZ (ZZ h _) fun _ t h _=>ZZ h _
theorem zRo (h:KS s)(i:Nat):KP QT (zB6 i s):=XU (VE (h.xJ i (by decide)) trivial) (zLU (fun s h=>zEW h _) (h.xJ i (by decide)))
theorem zQr (h:KS s)(i:Nat):KP QT (zAd i s):=XU (VE (h.adv.num _ ok1) trivial) (VE h trivial)
theorem zTk (h:KS s)(i:Nat):KP QT (zEl i s):=xZ (ZZ (h.xJ i (by decide)) _) fun _ t h _=>xZ (zAU h _) fun _ t h _=>xZ (ZZ h _) fun _ t h _=>xZ (zRo h _) fun _ t h _=>xZ (ZZ h _) fun _ t h _=>xZ (zQr h _) fun _ t h _=>zSB h _
theorem zIJ:∀(f:Nat) (s:Ps),KS s→KP QT (ZY f s)
 | 0,s,h=>zBS
 | f+1,s,h=>by unfold ZY; exact XU (VE h trivial) (XU (xZ (zSk h _) fun _ t ht _=>zIJ f t ht) (XU (xZ (zTk h _) fun _ t ht _=>zIJ f t ht) zBS))
theorem zNK (h:KS s):KP QT (zDh s):=zIJ _ _ (h.node (by decide))
end
theorem zK5 {ts:List Tok}{nd:List Nd}(ht:∀t ∈ ts,okT t)(h:zCZ ts=.ok nd):∀n ∈ nd,okN n:=by
 unfold zCZ at h
 split at h
 ·rename_i a s hs;injection h with h;subst h;exact(zNK ⟨fun n hn=>(by cases hn),ht⟩ _ _ hs).1.nd
 ·cases h
theorem zNp:∀(l:Bs) (n m:Int),n≤2147483647→zCL n l=some m→m≤2147483647
 | [],n,m,h,e=>by injection e with e; omega
 | c::r,n,m,h,e=>by
  unfold zCL at e
  split at e
  ·cases e
  ·exact zNp r _ m (by omega) e
theorem zR9 {s:Bs}{kd k:Nat}{n:Int}(h:step s=.tok kd k n):okI n:=by
 cases s with
 | nil=>cases h
 | cons c r=>
  have h:zA1 c r=.tok kd k n:=h;unfold zA1 at h
  split at h
  ·cases h
  split at h
  ·cases h
  split at h
  ·injection h with _ _ h; subst h; exact ok0
  split at h
  ·rename_i hd;unfold zO9 at h
   split at h
   ·cases h
   ·rename_i m hm;injection h with _ _ h;subst h;have h1:=zNp _ _ _ (by decide) hm
    have h2:=zMX _ _ _ (Int.le_refl 0) (fun x hx=>by
     rcases List.mem_cons.1 hx with rfl | hx
     ·exact hd
     ·exact(List.all_eq_true.1 (List.all_takeWhile) x hx)) hm
    exact⟨by omega,by omega⟩
  split at h
  ·injection h with _ _ h; subst h; exact ok0
  split at h
  ·injection h with _ _ h; subst h; exact ok0
  ·cases h
theorem zI4:∀(f p:Nat) (s:Bs) (l:List Tok),s.length≤1500→zD0 f p s=.ok l→∀t ∈ l,okI t.n∧t.text.length≤1500
 | 0,p,s,l,hl,h=>by cases h
 | f+1,p,s,l,hl,h=>by
  unfold zD0 at h
  split at h
  ·injection h with h;subst h;intro t ht;rw[yN] at ht;subst ht;exact⟨ok0,zW _⟩
  ·exact zI4 f _ _ l (by rw[List.length_drop]; omega) h
  ·rename_i kd k n hs
   cases hr:zD0 f (p+k) (s.drop k) with
   | err a e=>rw[hr] at h; cases h
   | ok m=>
    rw[hr] at h;injection h with h;subst h;intro t ht
    rcases List.mem_cons.1 ht with rfl | ht
    ·exact⟨zR9 hs,by show(List.take k s).length≤1500; rw[List.length_take]; omega⟩
    ·exact zI4 f _ _ m (by rw[List.length_drop]; omega) hr t ht
  ·cases h
theorem zEB:∀f,zA8 (ZY f)
 | 0=>fun s _=>by unfold ZY; trivial
 | f+1=>fun s h=>by
  unfold ZY
  split
  ·exact ZI.refl h
  ·split
   ·exact(zJt 0 s h).bind fun _ t _ ht=>zEB f t ht
   ·split
    ·exact(zJU 0 s h).bind fun _ t _ ht=>zEB f t ht
    ·trivial
theorem zL8 {l:Bs}{y:List Nd}(h:zBc l=.ok y)(hl:l.length≤1500):y.length≤3003∧∀n ∈ y,n.kids.length≤3003∧okN n:=by
 unfold zBc at h
 have hs:zFs l=zA4 0 l:=by unfold zFs; rw[if_neg (by omega)]
 rw[hs] at h
 cases h1:zA4 0 l with
 | err a e=>rw[h1] at h; cases h
 | ok ts=>
  rw[h1] at h;have h2:zCZ ts=.ok y:=h;obtain⟨hlast,hlen,hat⟩:=zKE h1
  have hk:=zK5 (fun t ht=>by
   have:=zI4 _ 0 l ts hl h1 t ht
   exact⟨this.1,this.2,by have:=hat t ht; omega⟩) h2
  have hg:Good ((⟨ts,[],0⟩:Ps).node 1):=⟨hlast,zW _,fun n hn=>by
   have hn:n ∈ [(⟨1,(⟨ts,[],0⟩:Ps).hd.at_,[],0,[]⟩:Nd)]:=hn;rw[List.mem_singleton.1 hn]
   exact zW _⟩
  have hw:=zEB (ts.length+1) _ hg
  have e:zCZ ts=match ZY (ts.length+1) ((⟨ts,[],0⟩:Ps).node 1) with
   | .ok _ s=>.ok s.nd
   | .err e p=>.err p e:=rfl
  rw[e] at h2
  cases hq:ZY (ts.length+1) ((⟨ts,[],0⟩:Ps).node 1) with
  | err e p=>rw[hq] at h2; cases h2
  | ok a s=>
   rw[hq] at h2 hw;injection h2 with h2;subst h2;have hp:=hw.phi;unfold Ps.phi at hp;have h0:((⟨ts,[],0⟩:Ps).node 1).nd.length=1:=rfl;have h3:((⟨ts,[],0⟩:Ps).node 1).ts.length=ts.length:=rfl;rw[h0,h3] at hp;exact⟨by omega,fun n hn=>⟨by have:=hw.xS.few n hn; omega,hk n hn⟩⟩
end Go.Proofs.YtbadjmmjbpeocaaGreatDoor
namespace Go.Proofs.YtbadjmmjbpeocaaGreatDoor
open Go Go.RowKit
theorem zSP {l:Bs}{nh:List (Nd × Hd2)}(hp:zBc l=.ok (nh.map Prod.fst))(hl:l.length≤1500):(nh.map toT).length≤9000∧(∀x ∈ nh.map toT,TT.zC0 x)∧(∀x ∈ nh.map toT,-9223372036854775808≤x.pos∧x.pos≤9223372036854775807)∧∀x ∈ nh,x.1.kind<256 ∧ -9223372036854775808≤x.1.num∧x.1.num≤9223372036854775807:=by
 obtain⟨h1,h2⟩:=zL8 hp hl;rw[yQ] at h1;refine⟨by rw[yQ]; omega,fun x hx=>?_,fun x hx=>?_,fun x hx=>?_⟩
 ·obtain⟨y,hy,rfl⟩:=List.mem_map.1 hx;obtain⟨h3,h4⟩:=h2 y.1 (List.mem_map.2 ⟨y,hy,rfl⟩);refine⟨?_,?_⟩
  ·show(xI y.1.text).size≤9000
   have:(xI y.1.text).size=y.1.text.length:=by simp[xI,ByteArray.size]
   have:=h4.2.2.1
   omega
  ·show(y.1.kids.map fun (k:Nat)=>(k:Int)).length≤9000
   rw[yQ];omega
 ·obtain⟨y,hy,rfl⟩:=List.mem_map.1 hx;obtain⟨h3,h4⟩:=h2 y.1 (List.mem_map.2 ⟨y,hy,rfl⟩)
  show -9223372036854775808≤(y.1.pos:Int)∧(y.1.pos:Int)≤9223372036854775807
  have:=h4.2.2.2
  omega
 ·obtain⟨h3,h4⟩:=h2 x.1 (List.mem_map.2 ⟨x,hx,rfl⟩);exact⟨h4.1,h4.2.1⟩
def zLS (n:Nd):TT.xR:=toT (n,(none,0))
theorem zKx (nh:List (Nd × Hd2)):TT.JS (nh.map toT)=TT.JS ((nh.map Prod.fst).map zLS):=by
 have hks:TT.zBQ (nh.map toT)=TT.zBQ ((nh.map Prod.fst).map zLS):=by simp[TT.zBQ,zLS,toT,Function.comp_def]
 have hka:TT.zCy (nh.map toT)=TT.zCy ((nh.map Prod.fst).map zLS):=by
  funext k
  unfold TT.zCy;rw[zN,zN,zN]
  cases nh[k.toNat]? <;> rfl
 have hfi:∀x:Nd × Hd2,TT.zBA (nh.map toT) (toT x)=TT.zBA ((nh.map Prod.fst).map zLS) (zLS x.1):=fun x=>by
  unfold TT.zBA TT.jY;rw[hka]
  rfl
 unfold TT.JS;rw[hks,hka,List.all_map,List.all_map,List.all_map]
 congr 2
 congr 1
 funext x
 exact hfi x
end Go.Proofs.YtbadjmmjbpeocaaGreatDoor
