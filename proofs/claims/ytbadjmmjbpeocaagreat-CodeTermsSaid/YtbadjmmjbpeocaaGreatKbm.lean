/- The plain law of forms: what stands beneath a node, told by forms and told by the document, is the same. No program in sight. (and what follows of it). The conditions stand at each lemma. -/
import Derived.Test.YtbadjmmjbpeocaaGreatKaa
import Derived.Test.YtbadjmmjbpeocaaGreatKbj
import Derived.Test.YtbadjmmjbpeocaaGreatKbl
import Derived.Test.YtbadjmmjbpeocaaGreatKag
import Derived.Test.YtbadjmmjbpeocaaGreatKam
set_option linter.unusedVariables false
set_option linter.unusedSimpArgs false
set_option maxRecDepth 100000
set_option maxHeartbeats 16000000
namespace Go.Proofs.YtbadjmmjbpeocaaGreat
def VP (k:Int):Bool:=decide (21≤k)&&decide (k≤26)
def zAV (k:Int):Bool:=decide (7≤k)&&decide (k≤19)
def zBK (k:Int):Bool:=k==2||k==3
inductive vQ where
 | ZM (k:Int)
 | expr
 | stmt
 | part
def vQ.holds:vQ→Int→Bool
 | .ZM j,k=>k==j
 | .expr,k=>VP k
 | .stmt,k=>zAV k
 | .part,k=>zBK k
structure vP where
 kids:List vQ
 more:Option vQ
 named:Bool
 most:Int
def JA (k:Int):List vP:=
 if k=1 then [⟨[],some .part,false,0⟩]
 else if k=2 then [⟨[.ZM 5],some (.ZM 5),true,0⟩]
 else if k=3 then [⟨[.ZM 4,.ZM 6],none,true,1⟩]
 else if k=4 then [⟨[],some (.ZM 5),false,0⟩]
 else if k=5 then [⟨[],none,true,0⟩]
 else if k=6 then [⟨[],some .stmt,false,0⟩]
 else if k=7 then [⟨[.ZM 20,.ZM 5],none,true,1⟩]
 else if k=8 then [⟨[.ZM 20,.ZM 5,.expr],none,false,0⟩]
 else if k=9 then [⟨[.ZM 20,.expr],some .expr,false,0⟩]
 else if k=10 then [⟨[.ZM 20],none,false,0⟩]
 else if k=11 then [⟨[.ZM 5,.ZM 5],none,true,0⟩]
 else if k=12 then [⟨[.ZM 5],none,false,1⟩]
 else if k=13 then [⟨[.ZM 5],none,false,0⟩,⟨[.ZM 20],none,false,0⟩]
 else if k=14 then [⟨[.expr,.expr,.ZM 6],none,false,1⟩,⟨[.expr,.expr,.ZM 6,.ZM 6],none,false,1⟩]
 else if k=15 then [⟨[.ZM 21,.ZM 21,.ZM 6],none,true,0⟩]
 else if k=16 then [⟨[.expr],none,true,0⟩]
 else if k=17 then [⟨[.expr],none,false,0⟩]
 else if k=18 then [⟨[],none,false,0⟩]
 else if k=19 then [⟨[],none,false,0⟩]
 else if k=20 then [⟨[.expr],none,true,0⟩]
 else if k=21 then [⟨[],none,false,2147483647⟩]
 else if k=22 then [⟨[],none,true,0⟩]
 else if k=23 then [⟨[.expr,.expr],none,false,0⟩]
 else if k=24 then [⟨[.expr,.expr],none,false,0⟩]
 else if k=25 then [⟨[.expr,.expr],none,false,0⟩]
 else if k=26 then [⟨[.expr],none,false,0⟩]
 else []
def vP.want (f:vP)(i:Nat):Option vQ:=if i<f.kids.length then f.kids[i]? else f.more
def vJ (p:Option vQ)(k:Int):Bool:=match p with | none=>false | some p=>p.holds k
def vP.fits (f:vP)(l:List Int):Bool:=
 if l.length<f.kids.length∨(f.kids.length<l.length∧f.more.isNone=true) then false
 else (List.range l.length).all fun i=>vJ (f.want i) (l.getD i 0)
def zNU (c:Int):Bool:=decide (97≤c)&&decide (c≤122)
def zTj (c:Int):Bool:=decide (48≤c)&&decide (c≤57)
def zT8 (c:Int):Bool:=zNU c||(zTj c||c==95)
def zEK (l:List UInt8):Bool:=match l with
 | []=>false
 | c::r=>zNU (c.toNat:Int)&&r.all fun c=>zT8 (c.toNat:Int)
def YH (f:vP)(num:Int)(text:List UInt8)(l:List Int):Bool:=
 f.fits l&&(decide (0≤num)&&(decide (num≤f.most)&&((f.named&&zEK text)||(!f.named&&text.isEmpty))))
def zAy (kind num:Int)(text:List UInt8)(l:List Int):Bool:=(JA kind).any fun f=>YH f num text l
def zKh (what x:Int):Bool:=if what=0 then VP x else if what=1 then zAV x else x==what
def zDg (l:List Int)(frm:Nat)(what:Int):Bool:=(l.drop frm).all (zKh what)
def jJ (w x:Int):Bool:=if w=0 then VP x else x==w
def isR (l want:List Int):Bool:=l.length==want.length&&(List.range l.length).all fun i=>jJ (want.getD i 0) (l.getD i 0)
def jV (kind:Int)(l:List Int):Bool:=
 if kind=1 then l.all zBK
 else if kind=2 then decide (0<l.length)&&zDg l 0 5
 else if kind=3 then isR l [4,6]
 else if kind=4 then zDg l 0 5
 else if kind=6 then zDg l 0 1
 else if kind=7 then isR l [20,5]
 else if kind=8 then isR l [20,5,0]
 else if kind=9 then decide (1<l.length)&&(l.getD 0 0==20&&zDg l 1 0)
 else if kind=10 then isR l [20]
 else if kind=11 then isR l [5,5]
 else if kind=12 then isR l [5]
 else if kind=13 then isR l [5]||isR l [20]
 else if kind=14 then isR l [0,0,6]||isR l [0,0,6,6]
 else if kind=15 then isR l [21,21,6]
 else if kind=16∨kind=17∨kind=20∨kind=26 then isR l [0]
 else if kind=23∨kind=24∨kind=25 then isR l [0,0]
 else l.length==0
def zGd (k:Int):Bool:=k==2||(k==3||(k==5||(k==7||(k==11||(k==15||(k==16||(k==20||k==22)))))))
def zGh (k:Int):Int:=if k=3∨k=7∨k=12∨k=14 then 1 else if k=21 then 2147483647 else 0
def zER (kind num:Int)(text:List UInt8):Bool:=(zGd kind==zEK text)&&((zGd kind||text.isEmpty)&&(decide (0≤num)&&decide (num≤zGh kind)))
theorem zAv (f:Int→Bool)(l:List Int):((List.range l.length).all fun i=>f (l.getD i 0))=l.all f:=by
 induction l with
 | nil=>rfl
 | cons x l ih=>
  rw[zK,List.range_succ_eq_map,List.all_cons,List.all_map,List.all_cons]
  congr 1
theorem xN (ps:List vQ)(ws:List Int)(named:Bool)(most:Int)(hl:ps.length=ws.length)(h:∀i,i<ws.length→∀x,vJ ps[i]? x=jJ (ws.getD i 0) x)(l:List Int) :
  (vP.mk ps none named most).fits l=isR l ws:=by
 unfold vP.fits isR;simp only[Option.isNone_none,and_true]
 by_cases hlen:l.length=ws.length
 ·rw[if_neg (by omega),hlen];simp only[beq_self_eq_true,Bool.true_and];rw[Bool.eq_iff_iff];simp only[zH,List.mem_range]
  constructor
  ·intro hh i hi
   have:=hh i hi
   unfold vP.want at this
   simp only at this
   rw[if_pos (by omega),h i hi] at this;exact this
  ·intro hh i hi
   have:=hh i hi
   unfold vP.want
   simp only
   rw[if_pos (by omega),h i hi];exact this
 ·rw[if_pos (by omega)];simp[hlen]
theorem zBi (p:vQ)(named:Bool)(most:Int)(l:List Int):(vP.mk [] (some p) named most).fits l=l.all p.holds:=by
 unfold vP.fits;rw[if_neg (by simp)];unfold vP.want vJ;simp only[zL,Nat.not_lt_zero,if_false];exact zAv p.holds l
theorem zGK (q p:vQ)(named:Bool)(most:Int)(l:List Int):(vP.mk [q] (some p) named most).fits l=(decide (0<l.length)&&(q.holds (l.getD 0 0)&&(l.drop 1).all p.holds)):=by
 unfold vP.fits
 cases l with
 | nil=>simp
 | cons x l=>
  rw[if_neg (by simp)];rw[zK,List.range_succ_eq_map,List.all_cons,List.all_map];simp only[vP.want,vJ,zK,zL]
  simp
  congr 1
  rw[←zAv p.holds l];simp[Function.comp_def,yH]
theorem zFv (q r p:vQ)(named:Bool)(most:Int)(l:List Int):(vP.mk [q,r] (some p) named most).fits l=(decide (1<l.length)&&(q.holds (l.getD 0 0)&&(r.holds (l.getD 1 0)&&(l.drop 2).all p.holds))):=by
 unfold vP.fits
 match l with
 | []=>simp
 | [x]=>simp
 | x::y::l=>
  rw[if_neg (by simp)];rw[zK,List.range_succ_eq_map,List.all_cons,List.all_map,zK,List.range_succ_eq_map,List.all_cons,List.all_map];simp only[vP.want,vJ,zK,zL]
  simp
  congr 2
  rw[←zAv p.holds l];simp[Function.comp_def,yH,show ∀x:Nat,¬(x+1+1<2) from fun x=>by omega]
theorem zDT {t:List UInt8}(h:zEK t=true):t.isEmpty=false:=by
 cases t with
 | nil=>cases h
 | cons c r=>rfl
theorem zCl (kind num:Int)(text:List UInt8)(F:Bool)(named:Bool)(most:Int)(hn:zGd kind=named)(hm:zGh kind=most) :
  (F&&(decide (0≤num)&&(decide (num≤most)&&((named&&zEK text)||(!named&&text.isEmpty)))))=(zER kind num text&&F):=by
 unfold zER;rw[hn,hm]
 cases hI:zEK text
 ·cases named <;> cases F <;> cases text.isEmpty <;> cases decide (0≤num) <;> cases decide (num≤most) <;> rfl
 ·rw[zDT hI]
  cases named <;> cases F <;> cases decide (0≤num) <;> cases decide (num≤most) <;> rfl
theorem xV (kind num:Int)(text:List UInt8)(l:List Int)(ps:List vQ)(more:Option vQ)(named:Bool)(most:Int)(hf:JA kind=[⟨ps,more,named,most⟩])(hn:zGd kind=named)(hm:zGh kind=most)(hk:(vP.mk ps more named most).fits l=jV kind l) :
  zAy kind num text l=(zER kind num text&&jV kind l):=by
 unfold zAy;rw[hf,←zCl kind num text _ named most hn hm,←hk];simp[YH]
theorem zEM (kind num:Int)(text:List UInt8)(l:List Int)(ps qs:List vQ)(most:Int)(hf:JA kind=[⟨ps,none,false,most⟩,⟨qs,none,false,most⟩])(hn:zGd kind=false)(hm:zGh kind=most)(hk:((vP.mk ps none false most).fits l||(vP.mk qs none false most).fits l)=jV kind l) :
  zAy kind num text l=(zER kind num text&&jV kind l):=by
 unfold zAy;rw[hf,←zCl kind num text _ false most hn hm,←hk];simp only[List.any_cons,List.any_nil,Bool.or_false,YH];rw[Bool.and_or_distrib_right]
theorem vK (w:Int)(hw:w≠0)(x:Int):vJ (some (.ZM w)) x=jJ w x:=by
 unfold vJ vQ.holds jJ;rw[if_neg hw]
theorem vY (x:Int):vJ (some .expr) x=jJ 0 x:=rfl
theorem ex1 (p:vQ)(w:Int)(h:∀x,vJ (some p) x=jJ w x):∀i,i < [w].length→∀x,vJ [p][i]? x=jJ ([w].getD i 0) x:=by
 intro i hi x
 match i,hi with
 | 0,_=>exact h x
theorem ex2 (p q:vQ)(w v:Int)(h:∀x,vJ (some p) x=jJ w x)(h2:∀x,vJ (some q) x=jJ v x):∀i,i < [w,v].length→∀x,vJ [p,q][i]? x=jJ ([w,v].getD i 0) x:=by
 intro i hi x
 match i,hi with
 | 0,_=>exact h x
 | 1,_=>exact h2 x
theorem ex3 (p q r:vQ)(w v u:Int)(h:∀x,vJ (some p) x=jJ w x)(h2:∀x,vJ (some q) x=jJ v x)(h3:∀x,vJ (some r) x=jJ u x):∀i,i < [w,v,u].length→∀x,vJ [p,q,r][i]? x=jJ ([w,v,u].getD i 0) x:=by
 intro i hi x
 match i,hi with
 | 0,_=>exact h x
 | 1,_=>exact h2 x
 | 2,_=>exact h3 x
theorem ex4 (p q r s:vQ)(w v u t:Int)(h:∀x,vJ (some p) x=jJ w x)(h2:∀x,vJ (some q) x=jJ v x)(h3:∀x,vJ (some r) x=jJ u x)(h4:∀x,vJ (some s) x=jJ t x):∀i,i < [w,v,u,t].length→∀x,vJ [p,q,r,s][i]? x=jJ ([w,v,u,t].getD i 0) x:=by
 intro i hi x
 match i,hi with
 | 0,_=>exact h x
 | 1,_=>exact h2 x
 | 2,_=>exact h3 x
 | 3,_=>exact h4 x
theorem ex0:∀i,i<([]:List Int).length→∀x,vJ ([]:List vQ)[i]? x=jJ (([]:List Int).getD i 0) x:=by
 intro i hi
 simp at hi
theorem zAM (l:List Int):isR l []=(l.length==0):=by
 cases l <;> simp[isR]
theorem zNi (kind num:Int)(text:List UInt8)(l:List Int):zAy kind num text l=(decide (1≤kind)&&(decide (kind≤26)&&(zER kind num text&&jV kind l))):=by
 by_cases hk:1≤kind∧kind≤26
 ·rw[yS hk.1,yS hk.2,Bool.true_and,Bool.true_and]
  have hc:kind=1∨kind=2∨kind=3∨kind=4∨kind=5∨kind=6∨kind=7∨kind=8∨kind=9∨kind=10∨kind=11∨kind=12∨kind=13∨kind=14∨kind=15∨kind=16∨kind=17∨kind=18∨kind=19∨kind=20∨kind=21∨kind=22∨kind=23∨kind=24∨kind=25∨kind=26:=by omega
  rcases hc with rfl | rfl | rfl | rfl | rfl | rfl | rfl | rfl | rfl | rfl | rfl | rfl | rfl | rfl | rfl | rfl | rfl | rfl | rfl | rfl | rfl | rfl | rfl | rfl | rfl | rfl
  ·exact xV _ _ _ _ _ _ _ _ rfl rfl rfl (zBi _ _ _ _)
  ·refine xV _ _ _ _ _ _ _ _ rfl rfl rfl ((zGK _ _ _ _ _).trans ?_)
   show _=(decide (0<l.length)&&zDg l 0 5)
   cases l <;> rfl
  ·exact xV _ _ _ _ _ _ _ _ rfl rfl rfl (xN _ _ _ _ rfl (ex2 _ _ _ _ (vK 4 (by decide)) (vK 6 (by decide))) l)
  ·exact xV _ _ _ _ _ _ _ _ rfl rfl rfl (zBi _ _ _ _)
  ·exact xV _ _ _ _ _ _ _ _ rfl rfl rfl ((xN [] [] _ _ rfl ex0 l).trans (zAM l))
  ·exact xV _ _ _ _ _ _ _ _ rfl rfl rfl (zBi _ _ _ _)
  ·exact xV _ _ _ _ _ _ _ _ rfl rfl rfl (xN _ _ _ _ rfl (ex2 _ _ _ _ (vK 20 (by decide)) (vK 5 (by decide))) l)
  ·exact xV _ _ _ _ _ _ _ _ rfl rfl rfl (xN _ _ _ _ rfl (ex3 _ _ _ _ _ _ (vK 20 (by decide)) (vK 5 (by decide)) vY) l)
  ·refine xV _ _ _ _ _ _ _ _ rfl rfl rfl ((zFv _ _ _ _ _ _).trans ?_)
   show _=(decide (1<l.length)&&(l.getD 0 0==20&&zDg l 1 0))
   match l with
   | []=>rfl
   | [x]=>rfl
   | x::y::l=>rfl
  ·exact xV _ _ _ _ _ _ _ _ rfl rfl rfl (xN _ _ _ _ rfl (ex1 _ _ (vK 20 (by decide))) l)
  ·exact xV _ _ _ _ _ _ _ _ rfl rfl rfl (xN _ _ _ _ rfl (ex2 _ _ _ _ (vK 5 (by decide)) (vK 5 (by decide))) l)
  ·exact xV _ _ _ _ _ _ _ _ rfl rfl rfl (xN _ _ _ _ rfl (ex1 _ _ (vK 5 (by decide))) l)
  ·refine zEM _ _ _ _ _ _ _ rfl rfl rfl ?_;rw[xN _ [5] _ _ rfl (ex1 _ _ (vK 5 (by decide))) l,xN _ [20] _ _ rfl (ex1 _ _ (vK 20 (by decide))) l]
   rfl
  ·refine zEM _ _ _ _ _ _ _ rfl rfl rfl ?_;rw[xN _ [0,0,6] _ _ rfl (ex3 _ _ _ _ _ _ vY vY (vK 6 (by decide))) l,xN _ [0,0,6,6] _ _ rfl (ex4 _ _ _ _ _ _ _ _ vY vY (vK 6 (by decide)) (vK 6 (by decide))) l]
   rfl
  ·exact xV _ _ _ _ _ _ _ _ rfl rfl rfl (xN _ _ _ _ rfl (ex3 _ _ _ _ _ _ (vK 21 (by decide)) (vK 21 (by decide)) (vK 6 (by decide))) l)
  ·exact xV _ _ _ _ _ _ _ _ rfl rfl rfl (xN _ _ _ _ rfl (ex1 _ _ vY) l)
  ·exact xV _ _ _ _ _ _ _ _ rfl rfl rfl (xN _ _ _ _ rfl (ex1 _ _ vY) l)
  ·exact xV _ _ _ _ _ _ _ _ rfl rfl rfl ((xN [] [] _ _ rfl ex0 l).trans (zAM l))
  ·exact xV _ _ _ _ _ _ _ _ rfl rfl rfl ((xN [] [] _ _ rfl ex0 l).trans (zAM l))
  ·exact xV _ _ _ _ _ _ _ _ rfl rfl rfl (xN _ _ _ _ rfl (ex1 _ _ vY) l)
  ·exact xV _ _ _ _ _ _ _ _ rfl rfl rfl ((xN [] [] _ _ rfl ex0 l).trans (zAM l))
  ·exact xV _ _ _ _ _ _ _ _ rfl rfl rfl ((xN [] [] _ _ rfl ex0 l).trans (zAM l))
  ·exact xV _ _ _ _ _ _ _ _ rfl rfl rfl (xN _ _ _ _ rfl (ex2 _ _ _ _ vY vY) l)
  ·exact xV _ _ _ _ _ _ _ _ rfl rfl rfl (xN _ _ _ _ rfl (ex2 _ _ _ _ vY vY) l)
  ·exact xV _ _ _ _ _ _ _ _ rfl rfl rfl (xN _ _ _ _ rfl (ex2 _ _ _ _ vY vY) l)
  ·exact xV _ _ _ _ _ _ _ _ rfl rfl rfl (xN _ _ _ _ rfl (ex1 _ _ vY) l)
 ·have h0:JA kind=[]:=by
   unfold JA
   repeat (rw[if_neg (by omega)])
  have h1:(decide (1≤kind)&&(decide (kind≤26)&&(zER kind num text&&jV kind l)))=false:=by
   by_cases h1:1≤kind
   ·rw[yR (show ¬kind≤26 from by omega)]
    simp
   ·rw[yR h1]
    simp
  rw[h1];unfold zAy;rw[h0]
  rfl
theorem zLA {g:Nat→Int}{ks:List Nat}{u:Int}(h:isR (ks.map g) [u]=true):∃a,ks=[a]∧jJ u (g a)=true:=by
 unfold isR at h
 match ks with
 | []=>simp at h
 | [a]=>exact⟨a,rfl,by simpa using h⟩
 | a::b::l=>simp at h
theorem zJp {g:Nat→Int}{ks:List Nat}{u v:Int}(h:isR (ks.map g) [u,v]=true):∃a b,ks=[a,b]∧jJ u (g a)=true∧jJ v (g b)=true:=by
 unfold isR at h
 match ks with
 | []=>simp at h
 | [a]=>simp at h
 | [a,b]=>exact⟨a,b,rfl,by simpa [List.range_succ] using h⟩
 | a::b::c::l=>simp at h
theorem zRQ {g:Nat→Int}{ks:List Nat}{u v x:Int}(h:isR (ks.map g) [u,v,x]=true):∃a b c,ks=[a,b,c]∧jJ u (g a)=true∧jJ v (g b)=true∧jJ x (g c)=true:=by
 unfold isR at h
 match ks with
 | []=>simp at h
 | [a]=>simp at h
 | [a,b]=>simp at h
 | [a,b,c]=>exact⟨a,b,c,rfl,by simpa [List.range_succ,and_assoc] using h⟩
 | a::b::c::d::l=>simp at h
theorem zUV {g:Nat→Int}{ks:List Nat}{u v x y:Int}(h:isR (ks.map g) [u,v,x,y]=true):∃a b c d,ks=[a,b,c,d]∧jJ u (g a)=true∧jJ v (g b)=true∧jJ x (g c)=true∧jJ y (g d)=true:=by
 unfold isR at h
 match ks with
 | []=>simp at h
 | [a]=>simp at h
 | [a,b]=>simp at h
 | [a,b,c]=>simp at h
 | [a,b,c,d]=>exact⟨a,b,c,d,rfl,by simpa [List.range_succ,and_assoc] using h⟩
 | a::b::c::d::e::l=>simp at h
theorem zAu {k:Nat}(h:jJ 0 (k:Int)=true):zAS k:=by
 unfold jJ VP at h;rw[if_pos rfl] at h;simp only[zG,zF] at h;exact⟨by omega,by omega⟩
theorem JX {k:Nat}{w:Int}(hw:w≠0)(h:jJ w (k:Int)=true):(k:Int)=w:=by
 unfold jJ at h;rw[if_neg hw] at h
 simpa using h
theorem zSS {t:List Nd}{i:Nat}(h1:(xB t i).kind≠1)(h4:(xB t i).kind≠4)(h:jV ((xB t i).kind:Int) ((xB t i).kids.map fun k=>((xB t k).kind:Int))=true):zAb t i:=by
 unfold zAb;generalize (xB t i).kids=ks at *;obtain⟨x,hx⟩:∃x,(xB t i).kind=x:=⟨_,rfl⟩;rw[hx] at h h1 h4 ⊢
 have hcs:x=2∨x=3∨x=6∨x=7∨x=8∨x=9∨x=10∨x=11∨x=12∨x=13∨x=14∨x=15∨x=16∨x=17∨x=18∨x=19∨x=20∨x=21∨x=22∨x=23∨x=24∨x=25∨x=26∨x=0∨x=5∨27≤x:=by omega
 unfold jV at h
 rcases hcs with rfl | rfl | rfl | rfl | rfl | rfl | rfl | rfl | rfl | rfl | rfl | rfl | rfl | rfl | rfl | rfl | rfl | rfl | rfl | rfl | rfl | rfl | rfl | rfl | rfl | hge
 ·trivial
 ·obtain⟨a,b,hk,_,hb⟩:=zJp (show isR _ [4,6]=true by simpa using h);exact⟨a,b,hk,by have:=JX (by decide) hb; omega⟩
 ·have h':zDg (ks.map fun k=>((xB t k).kind:Int)) 0 1=true:=by simpa using h
  unfold zDg at h';simp only[List.drop_zero,List.all_map,zH] at h';intro k hk
  have:=h' k hk
  simp[zKh,zAV] at this;omega
 ·obtain⟨a,b,hk,ha,_⟩:=zJp (show isR _ [20,5]=true by simpa using h);exact⟨a,b,hk,by have:=JX (by decide) ha; omega⟩
 ·obtain⟨a,b,c,hk,ha,_,hc⟩:=zRQ (show isR _ [20,5,0]=true by simpa using h);exact⟨a,b,c,hk,by have:=JX (by decide) ha; omega,zAu hc⟩
 ·have h':decide (1<(ks.map fun k=>((xB t k).kind:Int)).length)&&((ks.map fun k=>((xB t k).kind:Int)).getD 0 0==20&&zDg (ks.map fun k=>((xB t k).kind:Int)) 1 0)=true:=by simpa using h
  match ks with
  | []=>simp at h'
  | a::l=>
   simp[zDg,zKh] at h';refine⟨a,l,rfl,by omega,fun k hk=>?_⟩
   have:=h'.2.2 k hk
   simp[VP] at this;exact⟨by omega,by omega⟩
 ·obtain⟨a,hk,ha⟩:=zLA (show isR _ [20]=true by simpa using h);exact⟨a,hk,by have:=JX (by decide) ha; omega⟩
 ·obtain⟨a,b,hk,_,_⟩:=zJp (show isR _ [5,5]=true by simpa using h);exact⟨a,b,hk⟩
 ·obtain⟨a,hk,ha⟩:=zLA (show isR _ [5]=true by simpa using h);exact⟨a,hk,.inl (by have:=JX (by decide) ha; omega)⟩
 ·have h':(isR (ks.map fun k=>((xB t k).kind:Int)) [5]||isR (ks.map fun k=>((xB t k).kind:Int)) [20])=true:=by simpa using h
  rw[Bool.or_eq_true] at h'
  rcases h' with h' | h'
  ·obtain⟨a,hk,ha⟩:=zLA h';exact⟨a,hk,.inl (by have:=JX (by decide) ha; omega)⟩
  ·obtain⟨a,hk,ha⟩:=zLA h';exact⟨a,hk,.inr (by have:=JX (by decide) ha; omega)⟩
 ·have h':(isR (ks.map fun k=>((xB t k).kind:Int)) [0,0,6]||isR (ks.map fun k=>((xB t k).kind:Int)) [0,0,6,6])=true:=by simpa using h
  rw[Bool.or_eq_true] at h'
  rcases h' with h' | h'
  ·obtain⟨a,b,c,hk,ha,hb,hc⟩:=zRQ h';refine⟨a,b,[c],hk,zAu ha,zAu hb,fun k hm=>?_⟩;rw[List.mem_singleton.1 hm]
   have:=JX (by decide) hc
   omega
  ·obtain⟨a,b,c,d,hk,ha,hb,hc,hd⟩:=zUV h';refine⟨a,b,[c,d],hk,zAu ha,zAu hb,fun k hm=>?_⟩;have hc:=JX (by decide) hc;have hd:=JX (by decide) hd
   have hm':k=c∨k=d:=by simpa using hm
   rcases hm' with rfl | rfl <;> omega
 ·obtain⟨a,b,c,hk,_,_,hc⟩:=zRQ (show isR _ [21,21,6]=true by simpa using h);exact⟨a,b,c,hk,by have:=JX (by decide) hc; omega⟩
 ·obtain⟨a,hk,ha⟩:=zLA (show isR _ [0]=true by simpa using h);exact⟨a,hk,zAu ha⟩
 ·obtain⟨a,hk,ha⟩:=zLA (show isR _ [0]=true by simpa using h);exact⟨a,hk,zAu ha⟩
 ·show ks=[]
  simpa using h
 ·show ks=[]
  simpa using h
 ·obtain⟨a,hk,ha⟩:=zLA (show isR _ [0]=true by simpa using h);exact⟨a,hk,zAu ha⟩
 ·intro k hk
  have:ks=[]:=by simpa using h
  rw[this] at hk
  cases hk
 ·intro k hk
  have:ks=[]:=by simpa using h
  rw[this] at hk
  cases hk
 ·obtain⟨a,b,hk,ha,hb⟩:=zJp (show isR _ [0,0]=true by simpa using h);intro k hm;rw[hk] at hm
  have hm':k=a∨k=b:=by simpa using hm
  rcases hm' with rfl | rfl
  ·exact zAu ha
  ·exact zAu hb
 ·obtain⟨a,b,hk,ha,hb⟩:=zJp (show isR _ [0,0]=true by simpa using h);intro k hm;rw[hk] at hm
  have hm':k=a∨k=b:=by simpa using hm
  rcases hm' with rfl | rfl
  ·exact zAu ha
  ·exact zAu hb
 ·obtain⟨a,b,hk,ha,hb⟩:=zJp (show isR _ [0,0]=true by simpa using h);intro k hm;rw[hk] at hm
  have hm':k=a∨k=b:=by simpa using hm
  rcases hm' with rfl | rfl
  ·exact zAu ha
  ·exact zAu hb
 ·obtain⟨a,hk,ha⟩:=zLA (show isR _ [0]=true by simpa using h);intro k hm;rw[hk] at hm;rw[List.mem_singleton.1 hm];exact zAu ha
 ·intro k hk
  have:ks=[]:=by simpa using h
  rw[this] at hk
  cases hk
 ·intro k hk
  have:ks=[]:=by simpa using h
  rw[this] at hk
  cases hk
 ·have hl:ks=[]:=by
   rw[if_neg (by omega),if_neg (by omega),if_neg (by omega),if_neg (by omega),if_neg (by omega),if_neg (by omega),if_neg (by omega),if_neg (by omega),if_neg (by omega),if_neg (by omega),if_neg (by omega),if_neg (by omega),if_neg (by omega),if_neg (by omega),if_neg (by omega),if_neg (by omega)] at h
   simpa using h
  subst hl
  split <;> first | omega | (intro k hk; cases hk)
theorem zLc {t:List Nd}{i:Nat}(h:t.length≤i):(xB t i).kids=[]:=by unfold xB; rw[yH,zM h]; rfl
theorem zLm {t:List Nd}(hr:∀i,i<t.length→∀k ∈ (xB t i).kids,i<k∧k<t.length)(hf:∀i,i<t.length→jV ((xB t i).kind:Int) ((xB t i).kids.map fun k=>((xB t k).kind:Int))=true):XK t:=
 ⟨fun i k hk=>(Nat.lt_or_ge i t.length).elim (fun h=>hr i h k hk) (fun h=>absurd hk (by rw[zLc h]; exact List.not_mem_nil)),fun i hi h1 h4=>zSS h1 h4 (hf i hi)⟩
theorem zPz {t:List Nd}(h1:(xB t 0).kind=1)(hf:jV ((xB t 0).kind:Int) ((xB t 0).kids.map fun k=>((xB t k).kind:Int))=true):∀k ∈ (xB t 0).kids,(xB t k).kind=2∨(xB t k).kind=3:=fun k hk=>by
 rw[h1] at hf;unfold jV at hf;rw[if_pos (by decide)] at hf;have h2:=List.all_eq_true.1 hf ((xB t k).kind:Int) (List.mem_map.2 ⟨k,hk,rfl⟩);simp[zBK] at h2;omega
end Go.Proofs.YtbadjmmjbpeocaaGreat
namespace Go.Proofs.YtbadjmmjbpeocaaGreat
open Go Go.RowKit
theorem zFX {L:List TT.xQ}{i:Nat}(h:i<L.length):xB (tN (txM L)) i=(zLp L[i]).1:=by
 rw[zBz (by rw[JG]; exact h)];simp only[txM,zA]
structure zRS (L:List TT.xQ):Prop where
 pos:0<L.length
 nodes:∀x ∈ L,zG0 x
 right:XK (tN (txM L))
 roots:∀k ∈ (xB (tN (txM L)) 0).kids,(xB (tN (txM L)) k).kind=2∨(xB (tN (txM L)) k).kind=3
theorem zPf {L:List TT.xQ}(h:TT.VR L=true)(hsm:∀x ∈ L,TT.zEF x):zRS L:=by
 rw[TT.zKx] at h;unfold TT.zLx at h;simp only[zG,zF,zO] at h;obtain⟨h0,h1,h2,h3,h4⟩:=h;rw[TT.zDS] at h2;have hk:∀i (hi:i<L.length),∀k ∈ L[i].kids,(i:Int)<k∧k<(L.length:Int):=fun i hi k hk=>h2 i hi k (by rw[TT.zDm L i hi]; exact hk)
 have hnb:∀x ∈ L,1≤x.kind∧jV x.kind (TT.ZE L x.kids)=true:=fun x hx=>by
  have:=List.all_eq_true.1 h4 x hx
  unfold TT.zMI at this;simp only[zG,zF] at this;exact⟨this.1,this.2.2.2⟩
 have hnode:∀x ∈ L,zG0 x:=fun x hx=>by
  obtain⟨i,hi,rfl⟩:=List.getElem_of_mem hx;refine⟨by have:=(hnb _ hx).1; omega,fun k hk'=>by have:=hk i hi k hk'; omega,?_⟩
  have:=(hsm _ hx).text
  unfold maxLen;omega
 have hkids:∀i (hi:i<L.length),(xB (tN (txM L)) i).kids=L[i].kids.map Int.toNat:=fun i hi=>by rw[zFX hi]; rfl
 have hkind:∀i (hi:i<L.length),((xB (tN (txM L)) i).kind:Int)=L[i].kind:=fun i hi=>by
  rw[zFX hi];exact Int.toNat_of_nonneg (hnode _ (yO hi)).kind
 have hlen:(tN (txM L)).length=L.length:=by rw[jF,JG]
 have hf:∀i,i<(tN (txM L)).length→jV ((xB (tN (txM L)) i).kind:Int) ((xB (tN (txM L)) i).kids.map fun k=>((xB (tN (txM L)) k).kind:Int))=true:=fun i hi=>by
  rw[hlen] at hi
  have e:(xB (tN (txM L)) i).kids.map (fun k=>((xB (tN (txM L)) k).kind:Int))=TT.ZE L L[i].kids:=by
   rw[hkids i hi,List.map_map];unfold TT.ZE;apply List.map_congr_left;intro k hk'
   have:=hk i hi k hk'
   obtain⟨a,rfl⟩:∃a:Nat,k=(a:Int):=⟨k.toNat,by omega⟩
   have ha:a<L.length:=by omega
   simp only[Function.comp,zI];rw[hkind a ha,TT.zCc ha]
  rw[e,hkind i hi];exact(hnb _ (yO hi)).2
 have hr:∀i,i<(tN (txM L)).length→∀k ∈ (xB (tN (txM L)) i).kids,i<k∧k<(tN (txM L)).length:=fun i hi k hk'=>by
  rw[hlen] at hi ⊢;rw[hkids i hi] at hk';obtain⟨z,hz,rfl⟩:=List.mem_map.1 hk'
  have:=hk i hi z hz
  omega
 refine⟨h0,hnode,zLm hr hf,zPz ?_ (hf 0 (by rw[hlen]; exact h0))⟩
 have e:((xB (tN (txM L)) 0).kind:Int)=1:=by
  rw[hkind 0 h0,←TT.zCc h0];exact h1
 omega
theorem zMA (A:Option Addr)(l:Bs)(n c:Nat)(hn:n=l.length)(tA:Option Addr)(L:List TT.xQ)(m tc:Nat)(hm:m=L.length)(w:World)(hbig:l.length≤140737488355328)(hcap:l.length≤c)(hC:Cells w A (vC l))(ht:TT.zA3 w tA L)(hz:tA=none→tc=0)(hlen:L.length≤9000)(hsm:∀x ∈ L,TT.zEF x)(hpos:∀x ∈ L,-9223372036854775808≤x.pos∧x.pos≤9223372036854775807) :
  Calls Tryz.prog 22 #[.slice A n c,.agg #[.slice tA m tc]] w fun e w'=>if TT.VR L=true then zRS L∧zLV l L w (jL (tN (txM L))) e w' else e=.returned (.tuple #[.agg XE,.iface 75 (.int .i64 2)])∧Ext w w':=by
 cases hr:TT.VR L with
 | true=>
  have hx:=zPf hr hsm;refine(zOk A l n c hn tA L m tc hm w hbig hcap hC ht hz hlen hx.pos hsm hx.nodes hr hx.right hx.roots hpos fun i e=>zL2 i e).mono fun e w' h=>?_;rw[if_pos rfl];exact⟨hx,h⟩
 | false=>
  refine(zOy A l n c hn tA L m tc hm w ht hlen hsm hr).mono fun e w' h=>?_;rw[if_neg (by decide)];exact h
theorem zNu {w:World}{B:Nat}{t:TypeId}{s n m c:Nat}{A:Option Addr}{xs:List Value}(h:w.ownsRow B t s (.slice A m c) n xs):A=none→c=0:=fun e=>by
 subst e
 rcases h.2 with ⟨hv,_⟩ | ⟨g,_,_,hv,_⟩
 ·injection hv
 ·injection hv with h1; cases h1
def toT (x:Nd × Hd2):TT.xQ:=⟨x.1.kind,x.1.pos,xH x.1.text,x.1.num,x.2.1,x.2.2,x.1.kids.map fun (k:Nat)=>(k:Int)⟩
theorem zQx (x:Nd × Hd2):(toT x).cells=YO x:=by simp[toT,TT.xQ.cells,YO]
theorem zTi (l:List Nat):ints l=TT.jP (l.map fun (k:Nat)=>(k:Int)):=by simp[ints,TT.jP]
theorem NS.toT {w:World}{B:Nat}{A:Option Addr}{c:Nat}{nh:List (Nd × Hd2)}(h:NS w B 38 3 A c nh)(hk:∀x ∈ nh,x.1.kind<256 ∧ -9223372036854775808≤x.1.num∧x.1.num≤9223372036854775807):TT.zA3 w A (nh.map Proofs.YtbadjmmjbpeocaaGreat.toT):=by
 refine⟨?_,fun x hx=>?_⟩
 ·have e:TT.YL (nh.map Proofs.YtbadjmmjbpeocaaGreat.toT)=ncs nh:=by
   unfold TT.YL ncs;rw[List.flatMap_map]
   congr 1
   funext x
   exact zQx x
  rw[e];exact Cells.own h.row
 ·obtain⟨y,hy,rfl⟩:=List.mem_map.1 hx;obtain⟨h1,h2,h3⟩:=hk y hy;refine⟨⟨Int.natCast_nonneg _,by show((y.1.kind:Nat):Int)<256; omega⟩,⟨h2,h3⟩,?_,zNu (h.kids y hy)⟩
  have:=Cells.own (h.kids y hy)
  rw[zTi] at this;exact this
theorem zSP (x:Nd × Hd2):(zLp (toT x)).1=x.1:=by
 obtain⟨⟨k,p,t,n,ks⟩,A,c⟩:=x;simp[zLp,toT,xH,List.map_map,Function.comp_def]
theorem zSo (nh:List (Nd × Hd2)):tN (txM (nh.map toT))=nh.map Prod.fst:=by
 unfold tN txM;rw[List.map_map,List.map_map];apply List.map_congr_left;intro x _;exact zSP x
end Go.Proofs.YtbadjmmjbpeocaaGreat
namespace Go.Proofs.YtbadjmmjbpeocaaGreat
def zHP (t:List Nd)(ks:List (List Int)):Prop:=ks.length=t.length∧∀i,ks.getD i []=(xB t i).kids.map fun (k:Nat)=>(k:Int)
theorem zGJ {t:List Nd}{g:Nat→Option Nat}{len:Nat}(hg:∀a e,g a=some e→a<e∧∀j,Sub t a j↔a≤j∧j<e):∀(l:List Nat) (a0 e:Nat),TT.zCJ g len (l.map fun (k:Nat)=>(k:Int)) (some a0)=some e →
  a0≤e∧(∀j,(∃k ∈ l,Sub t k j)↔a0≤j∧j<e)∧l.Pairwise (fun a b=>a<b∧∀j,Sub t a j→¬Sub t b j)
 | [],a0,e,h=>by
  injection h with h;subst h;exact⟨zX _,fun j=>⟨fun ⟨k,hk,_⟩=>(by cases hk),fun h=>(by omega)⟩,List.Pairwise.nil⟩
 | k::l,a0,e,h=>by
  rw[List.map_cons,TT.VQ] at h
  split at h
  ·rename_i hc;obtain⟨hlt,hk⟩:=hc
   have hk:k=a0:=by omega
   subst hk
   cases ha:g k with
   | none=>rw[ha,TT.zAs] at h; cases h
   | some a1=>
    rw[ha] at h;obtain⟨h1,h2⟩:=hg k a1 ha;obtain⟨r1,r2,r3⟩:=zGJ hg l a1 e h;refine⟨by omega,fun j=>⟨fun ⟨x,hx,hs⟩=>?_,fun hj=>?_⟩,List.Pairwise.cons (fun b hb=>?_) r3⟩
    ·rcases List.mem_cons.1 hx with rfl | hx
     ·have:=(h2 j).1 hs; omega
     ·have:=(r2 j).1 ⟨x,hx,hs⟩; omega
    ·by_cases hja:j<a1
     ·exact⟨k,List.mem_cons_self ..,(h2 j).2 ⟨hj.1,hja⟩⟩
     ·obtain⟨x,hx,hs⟩:=(r2 j).2 ⟨by omega,hj.2⟩;exact⟨x,List.mem_cons_of_mem _ hx,hs⟩
    ·have hb':=(r2 b).1 ⟨b,hb,.self b⟩;refine⟨by omega,fun j hs hs'=>?_⟩;have e1:=(h2 j).1 hs;have e2:=(r2 j).1 ⟨b,hb,hs'⟩;omega
  ·cases h
theorem zF0 {t:List Nd}{ks:List (List Int)}(hk:zHP t ks):∀(f i e:Nat),TT.zFu ks f i=some e→i<e∧∀j,Sub t i j↔i≤j∧j<e
 | 0,i,e,h=>by cases h
 | f+1,i,e,h=>by
  unfold TT.zFu at h
  split at h
  ·rw[hk.2 i] at h;obtain⟨r1,r2,_⟩:=zGJ (fun a e ha=>zF0 hk f a e ha) _ _ _ h;refine⟨by omega,fun j=>⟨fun hs=>?_,fun hj=>?_⟩⟩
   ·cases hs with
    | self=>omega
    | kid hm hs=>have:=(r2 j).1 ⟨_,hm,hs⟩; omega
   ·by_cases hji:j=i
    ·subst hji; exact .self j
    ·obtain⟨k,hm,hs⟩:=(r2 j).2 (by omega);exact .kid hm hs
  ·cases h
theorem zN0 {t:List Nd}{ks:List (List Int)}(hk:zHP t ks){f i e:Nat}(h:TT.zFu ks f i=some e):(xB t i).kids.Pairwise (fun a b=>a<b∧∀j,Sub t a j→¬Sub t b j):=by
 cases f with
 | zero=>cases h
 | succ f=>
  unfold TT.zFu at h
  split at h
  ·rw[hk.2 i] at h;exact(zGJ (fun a e ha=>zF0 hk f a e ha) _ _ _ h).2.2
  ·cases h
end Go.Proofs.YtbadjmmjbpeocaaGreat
