/- How the reader of names lies in memory: the tree, the tables, the procedures, the blocks' maps; what a step of it may change. (and what follows of it). The conditions stand at each lemma. -/
import Derived.Test.YtbadjmmjbpeocaaGreatKaa
import Derived.Test.YtbadjmmjbpeocaaGreatKaf
import Derived.Test.YtbadjmmjbpeocaaGreatKag
import Derived.RangeFuncBox
import Derived.RangeFuncNested
import Derived.RangeFuncBound
import Derived.RangeFuncCalls
import Derived.RangeFuncLeaves
import Derived.Shelf.Abstract
import Derived.OwnWalkIn
import Derived.TacticsInMore
import Derived.LoopNIn
import Derived.LoopIn
set_option linter.unusedVariables false
set_option linter.unusedSimpArgs false
set_option maxRecDepth 100000
set_option maxHeartbeats 16000000
namespace Go.Proofs.YtbadjmmjbpeocaaGreat
open Go Go.RowKit
abbrev Tx:=Nd × Int × Hd2
def zH3 (x:Tx):List Value:=[.int .u8 (x.1.kind:Int),.int .i64 x.2.1,.string (xH x.1.text),.int .i64 x.1.num,.slice x.2.2.1 x.1.kids.length x.2.2.2]
def tcs (l:List Tx):List Value:=l.flatMap zH3
theorem zE1 (l:List Tx):(tcs l).length=l.length*5:=by
 unfold tcs
 induction l with
 | nil=>rfl
 | cons t l ih=>rw[List.flatMap_cons,yP,ih,zK]; show 5+_=_; omega
theorem zOe (l:List Tx):∀(i:Nat) (hi:i<l.length) (j:Nat),j<5→(tcs l)[i*5+j]?=(zH3 l[i])[j]?:=by
 induction l with
 | nil=>intro i hi; simp at hi
 | cons x l ih=>
  intro i hi j hj
  show(zH3 x++tcs l)[i*5+j]?=_
  match i,hi with
  | 0,_=>rw[Nat.zero_mul,Nat.zero_add,List.getElem?_append_left (by show j<5; exact hj)]; rfl
  | i+1,hi=>
   have e:(i+1)*5+j=5+(i*5+j):=by omega
   rw[e,List.getElem?_append_right (by show 5≤_; omega),show 5+(i*5+j)-(zH3 x).length=i*5+j from by show 5+(i*5+j)-5=_; omega];exact ih i (by simpa using hi) j hj
def tN (l:List Tx):List Nd:=l.map Prod.fst
theorem jF (l:List Tx):(tN l).length=l.length:=by simp[tN]
theorem zBz {l:List Tx}{i:Nat}(h:i<l.length):xB (tN l) i=l[i].1:=by
 unfold xB tN;rw[yH,zN,yJ h]
 rfl
def YQ (l:List Tx)(i:Nat):Int:=(l[i]?.map (·.2.1)).getD 0
def hdN (l:List Tx)(i:Nat):Hd2:=(l[i]?.map (·.2.2)).getD (none,0)
def vT (l:List Tx)(i:Nat):Array Value:=#[.int .u8 ((xB (tN l) i).kind:Int),.int .i64 (YQ l i),.string (xH (xB (tN l) i).text),.int .i64 (xB (tN l) i).num,.slice (hdN l i).1 (xB (tN l) i).kids.length (hdN l i).2]
theorem zIP {l:List Tx}{i:Nat}(h:i<l.length):zH3 l[i]=(vT l i).toList:=by
 unfold vT YQ hdN;rw[zBz h,yJ h]
 rfl
theorem xC.grown {w w':World}{M:Nat→Prop}{o:Option Nat}(hg:w.grownBy w' o)(h:∀g,o=some g→M g):xC w M w' M:=
 ⟨hg.os,hg.tape,hg.output,hg.size,fun b hb hM=>hg.block b hb fun e=>hM (h b e.symm),fun b h=>.inl h⟩
theorem xC.less {w w':World}{M M' N:Nat→Prop}(h:xC w M w' M')(hN:∀b,N b→M' b∨w.heap.size≤b):xC w M w' N:=
 ⟨h.os,h.tape,h.output,h.size,h.jK,fun b hb=>by
  rcases hN b hb with h1 | h1
  ·exact h.zDC b h1
  ·exact .inr h1⟩
def zBo (o:Option Nat):Option Value:=o.map fun (n:Nat)=>Value.int .i64 (n:Int)
def vfV (b:List Vr)(n:Bs):Option Value:=(b.find? fun v=>v.name==n).map fun v=>.agg #[.int .i64 (v.n:Int),.bool v.loop]
def YM (l:List Nat):List Value:=l.map fun b=>Value.map (some b)
def strs (l:List Bs):List Value:=l.map fun b=>Value.string (xH b)
def ofc (l:List Int):List Value:=l.map (Value.int .i64)
def zNk (x:Nt × Hd2):List Value:=[.string (xH x.1.name),.slice x.2.1 x.1.zAX.length x.2.2]
def VB (l:List Nt)(h:List Hd2):List Value:=(l.zip h).flatMap zNk
theorem zCb (l:List Nat):(YM l).length=l.length:=by simp[YM]
theorem zMB (l:List Bs):(strs l).length=l.length:=by simp[strs]
theorem zOC (l:List Int)(i:Nat)(h:i<l.length):(ofc l)[i]?=some (.int .i64 (l.getD i (-1))):=by
 unfold ofc;rw[zN,yJ h,yH,yJ h]
 rfl
theorem zF7 (l:List Int)(i:Nat)(x:Int):(ofc l).set i (.int .i64 x)=ofc (l.set i x):=by unfold ofc; rw[List.map_set]
def zGW (w:World)(M:Nat→Prop)(b n:Nat)(f:Bs→Option Value):Prop:=MF Tryz.prog 9 w b n f∧¬M b
theorem zGW.xE {w w':World}{M M':Nat→Prop}{b n:Nat}{f:Bs→Option Value}(h:zGW w M b n f)(k:xC w M w' M'):zGW w' M' b n f:=
 ⟨h.1.jK (k.jK b h.1.lt h.2),fun h1=>by rcases k.zDC b h1 with h2 | h2 <;> first | exact h.2 h2 | (have:=h.1.lt; omega)⟩
structure zAQ (w:World)(M:Nat→Prop)(A:Option Addr)(l:List Tx):Prop where
 row:XH w M A (tcs l)
 kids:∀x ∈ l,XH w M x.2.2.1 (ints x.1.kids)
 text:∀x ∈ l,x.1.text.length≤maxLen
 zUe:∀x ∈ l,x.1.kids.length≤x.2.2.2
theorem zAQ.xE {w w':World}{M M':Nat→Prop}{A:Option Addr}{l:List Tx}(h:zAQ w M A l)(k:xC w M w' M'):zAQ w' M' A l:=⟨h.row.xE k,fun x hx=>(h.kids x hx).xE k,h.text,h.zUe⟩
theorem zAQ.at_ {w:World}{M:Nat→Prop}{A:Option Addr}{l:List Tx}(h:zAQ w M A l)(k:Nat)(hk:k<l.length) :
  ∃b off,A=some ⟨b,off,none⟩∧b<w.heap.size∧∀j,j<5→w.cell? ⟨b,off+k*5+j,none⟩=(vT l k).toList[j]?:=by
 obtain⟨b,off,hA,hb,hcc⟩:=h.row.cells.at_ (by rw[zE1]; omega);refine⟨b,off,hA,hb,fun j hj=>?_⟩;rw[Nat.add_assoc,hcc _ (by rw[zE1]; omega),zOe l k hk j hj,zIP hk]
theorem zAQ.kid {w:World}{M:Nat→Prop}{A:Option Addr}{l:List Tx}(h:zAQ w M A l)(i:Nat)(hi:i<l.length):XH w M (hdN l i).1 (ints (xB (tN l) i).kids):=by
 have:=h.kids l[i] (yO hi)
 rw[zBz hi];unfold hdN;rw[yJ hi];exact this
theorem zAQ.txt {w:World}{M:Nat→Prop}{A:Option Addr}{l:List Tx}(h:zAQ w M A l)(i:Nat):(xB (tN l) i).text.length≤maxLen:=by
 by_cases hi:i<l.length
 ·rw[zBz hi]; exact h.text _ (yO hi)
 ·unfold xB;rw[yH,zM (by rw[jF]; omega)];exact zW _
structure StN where
 a:Nat
 p:Nat
 bo:Nat
 co:Nat
 A:Option Addr
 ct:Nat
 l:List Tx
 At:Option Addr
 cT:Nat
 th:List Hd2
 Ac:Option Addr
 cc:Nat
 cm:List Nat
 mt:Nat
 bp:Nat
 cP:Nat
 nP:Nat
 B:Nat
structure DyN where
 j:Nat
 pc:Array Value
 Av:Option Addr
 cv:Nat
 Ab:Option Addr
 cb:Nat
 bm:List Nat
def xL (S:StN)(R:DyN)(b:Nat):Prop:=b=S.a∨b=S.bo∨b=S.bp∨R.Av=some ⟨b,0,none⟩∨R.Ab=some ⟨b,0,none⟩∨b ∈ R.bm
structure zK4 (w:World)(M:Nat→Prop)(S:StN)(xG:List Nt):Prop where
 prog:Safe w M S.p 32 #[.slice S.A S.l.length S.ct,.slice S.At xG.length S.cT,.slice (some ⟨S.bp,0,none⟩) S.nP S.cP,.slice (some ⟨S.bo,0,none⟩) S.l.length S.co]
 tree:zAQ w M S.A S.l
 zBP:XH w M S.At (VB xG S.th)
 thl:S.th.length=xG.length
 zAX:XH w M S.Ac (YM S.cm)
 cml:S.cm.length=xG.length
 zEg:∀(k b:Nat) (x:Nt),xG[k]?=some x→S.cm[k]?=some b→zGW w M b 64 fun n=>zBo (x.zAX.findIdx? fun c=>c==n)
 mt:zGW w M S.mt 64 fun n=>zBo (xG.findIdx? fun x=>x.name==n)
theorem zK4.xE {w w':World}{M M':Nat→Prop}{S:StN}{xG:List Nt}(h:zK4 w M S xG)(k:xC w M w' M'):zK4 w' M' S xG:=
 ⟨h.prog.xE k,h.tree.xE k,h.zBP.xE k,h.thl,h.zAX.xE k,h.cml,fun i b x h1 h2=>(h.zEg i b x h1 h2).xE k,h.mt.xE k⟩
structure NB (w:World)(S:StN)(s:Nr)(R:DyN):Prop where
 st:zK4 w (xL S R) S s.xG
 rd:Blk w S.a 115 #[.pointer (some ⟨S.p,0,none⟩),.map (some S.mt),.slice S.Ac s.xG.length S.cc,.pointer (some ⟨S.bp,R.j*5,none⟩),.slice R.Ab s.blocks.length R.cb]
 of:Blk w S.bo 3 (ofc s.of).toArray
 len:s.of.length=S.l.length
 pr:Blk w S.bp 85 R.pc
 pv:R.pc[R.j*5+2]?=some (.slice R.Av s.vars.length R.cv)
 vars:w.ownsRow S.B 9 1 (.slice R.Av s.vars.length R.cv) s.vars.length (strs s.vars)
 blocks:w.ownsRow S.B 201 1 (.slice R.Ab s.blocks.length R.cb) s.blocks.length (YM R.bm.reverse)
 bml:R.bm.length=s.blocks.length
 maps:∀(k b:Nat) (x:List Vr),s.blocks[k]?=some x→R.bm[k]?=some b→MF Tryz.prog 9 w b s.vars.length (vfV x)
 own:∀b ∈ R.bm,S.B≤b
 nodup:R.bm.Nodup
 few:s.vars.length≤64
 low:S.B≤w.heap.size
 vz:s.vars.length=0→R.cv=0
theorem NB.ZX {w:World}{S:StN}{s:Nr}{R:DyN}(h:NB w S s R){b:Nat}(hb:xL S R b):b<w.heap.size:=by
 rcases hb with rfl | rfl | rfl | hb | hb | hb
 ·exact h.rd.lt
 ·exact h.of.lt
 ·exact h.pr.lt
 ·exact(jD h.vars hb).2
 ·exact(jD h.blocks hb).2
 ·obtain⟨k,hk,rfl⟩:=List.getElem_of_mem hb
  have hk':k<s.blocks.length:=by rw[←h.bml]; exact hk
  exact(h.maps k _ _ (yJ hk') (yJ hk)).lt
theorem NB.zGS {w:World}{S:StN}{s:Nr}{R:DyN}(h:NB w S s R){b:Nat}(hb:b ∈ R.bm):∃n f,MF Tryz.prog 9 w b n f:=by
 obtain⟨k,hk,rfl⟩:=List.getElem_of_mem hb
 have hk':k<s.blocks.length:=by rw[←h.bml]; exact hk
 exact⟨_,_,h.maps k _ _ (yJ hk') (yJ hk)⟩
theorem xC.zFM {w w':World}{G G':Nat→Prop}(h:xC w G w' G)(hg:∀b,G b→G' b):xC w G' w' G':=⟨h.os,h.tape,h.output,h.size,fun b hb hn=>h.jK b hb fun k=>hn (hg b k),fun b h=>.inl h⟩
structure Kept (w':World)(S:StN)(s:Nr)(R:DyN)(G:Nat→Prop):Prop where
 st:zK4 w' (xL S R) S s.xG
 rd:¬G S.a→Blk w' S.a 115 #[.pointer (some ⟨S.p,0,none⟩),.map (some S.mt),.slice S.Ac s.xG.length S.cc,.pointer (some ⟨S.bp,R.j*5,none⟩),.slice R.Ab s.blocks.length R.cb]
 of:¬G S.bo→Blk w' S.bo 3 (ofc s.of).toArray
 pr:¬G S.bp→Blk w' S.bp 85 R.pc
 vars:(∀b,R.Av=some ⟨b,0,none⟩→¬G b)→w'.ownsRow S.B 9 1 (.slice R.Av s.vars.length R.cv) s.vars.length (strs s.vars)
 blocks:(∀b,R.Ab=some ⟨b,0,none⟩→¬G b)→w'.ownsRow S.B 201 1 (.slice R.Ab s.blocks.length R.cb) s.blocks.length (YM R.bm.reverse)
 maps:∀(k b:Nat) (x:List Vr),¬G b→s.blocks[k]?=some x→R.bm[k]?=some b→MF Tryz.prog 9 w' b s.vars.length (vfV x)
 low:S.B≤w'.heap.size
theorem ZK {w w':World}{B:Nat}{t:TypeId}{s n c m:Nat}{A:Option Addr}{xs:List Value}(h:w.ownsRow B t s (.slice A m c) n xs)(hk:∀b,A=some ⟨b,0,none⟩→w'.heap[b]?=w.heap[b]?):w'.ownsRow B t s (.slice A m c) n xs:=by
 refine⟨h.1,?_⟩
 rcases h.2 with hn | ⟨g,cap,cur,hv,hb,hh,r⟩
 ·exact .inl hn
 ·injection hv with e1 e2 e3;exact .inr ⟨g,cap,cur,by rw[e1,e2,e3],hb,(hk g e1).trans hh,r⟩
theorem NB.kept {w w':World}{S:StN}{s:Nr}{R:DyN}(h:NB w S s R){G:Nat→Prop}(hM:∀g,G g→g<w.heap.size→xL S R g)(hg:xC w G w' G):Kept w' S s R G∧xC w (xL S R) w' (xL S R):=by
 have hm:xC w (xL S R) w' (xL S R):=⟨hg.os,hg.tape,hg.output,hg.size,fun b hb hn=>hg.jK b hb fun k=>hn (hM b k hb),fun b h=>.inl h⟩;refine⟨⟨h.st.xE hm,fun hn=>(hg.jK _ h.rd.lt hn).trans h.rd,fun hn=>(hg.jK _ h.of.lt hn).trans h.of,fun hn=>(hg.jK _ h.pr.lt hn).trans h.pr,fun hn=>?_,fun hn=>?_,fun k b x hn h1 h2=>?_,Nat.le_trans h.low hg.size⟩,hm⟩
 ·exact ZK h.vars fun b e=>hg.jK b (jD h.vars e).2 (hn b e)
 ·exact ZK h.blocks fun b e=>hg.jK b (jD h.blocks e).2 (hn b e)
 ·have hm':=h.maps k b x h1 h2;exact hm'.jK (hg.jK b hm'.lt hn)
theorem zP6 (w:World)(g i:Nat)(u:Value):w.grownBy (w.setCell ⟨g,i,none⟩ u) (some g):=⟨rfl,rfl,rfl,by simp[World.setCell],fun k _ hk=>zS w ⟨g,i,none⟩ u k fun e=>hk (by rw[e])⟩
theorem JJ (w:World)(g i:Nat)(u:Value):xC w (fun b=>b=g) (w.setCell ⟨g,i,none⟩ u) fun b=>b=g:=xC.grown (zP6 w g i u) fun b e=>by injection e with e; exact e.symm
theorem NB.ext {w w':World}{S:StN}{s:Nr}{R:DyN}(h:NB w S s R)(hx:Ext w w'):NB w' S s R:=by
 have k:=(h.kept (G:=fun _=>False) (fun g hg _=>hg.elim) (xC.ext hx)).1;exact⟨k.st,k.rd id,k.of id,h.len,k.pr id,h.pv,k.vars fun _ _=>id,k.blocks fun _ _=>id,h.bml,fun i b x h1 h2=>k.maps i b x id h1 h2,h.own,h.nodup,h.few,k.low,h.vz⟩
theorem NB.VN {w:World}{S:StN}{s:Nr}{R:DyN}(h:NB w S s R):∀b,R.Av=some ⟨b,0,none⟩→b≠S.bo∧b≠S.a∧b≠S.bp∧R.Ab≠some ⟨b,0,none⟩∧b ∉ R.bm:=fun b e=>by
 obtain⟨cur,hc⟩:=xY h.vars e;refine⟨Blk.differ hc h.of (by decide),Blk.differ hc h.rd (by decide),Blk.differ hc h.pr (by decide),fun e2=>?_,fun hm=>?_⟩
 ·obtain⟨cur2,hc2⟩:=xY h.blocks e2;exact Blk.differ hc hc2 (by decide) rfl
 ·obtain⟨n,f,hf⟩:=h.zGS hm;exact hf.ne hc rfl
theorem NB.VG {w:World}{S:StN}{s:Nr}{R:DyN}(h:NB w S s R):∀b,R.Ab=some ⟨b,0,none⟩→b≠S.bo∧b≠S.a∧b≠S.bp∧b ∉ R.bm:=fun b e=>by
 obtain⟨cur,hc⟩:=xY h.blocks e;refine⟨Blk.differ hc h.of (by decide),Blk.differ hc h.rd (by decide),Blk.differ hc h.pr (by decide),fun hm=>?_⟩;obtain⟨n,f,hf⟩:=h.zGS hm;exact hf.ne hc rfl
theorem NB.of_map {w:World}{S:StN}{s:Nr}{R:DyN}(h:NB w S s R):∀b ∈ R.bm,b≠S.bo∧b≠S.a∧b≠S.bp:=fun b hm=>by
 obtain⟨n,f,hf⟩:=h.zGS hm;exact⟨hf.ne h.of,hf.ne h.rd,hf.ne h.pr⟩
theorem NB.apart {w:World}{S:StN}{s:Nr}{R:DyN}(h:NB w S s R):S.bo≠S.a∧S.bo≠S.bp∧S.a≠S.bp:=⟨Blk.differ h.of h.rd (by decide),Blk.differ h.of h.pr (by decide),Blk.differ h.rd h.pr (by decide)⟩
theorem NB.setOf {w:World}{S:StN}{s:Nr}{R:DyN}(h:NB w S s R)(i:Nat)(x:Int) :
  NB (w.setCell ⟨S.bo,i,none⟩ (.int .i64 x)) S (s.set i x) R∧xC w (xL S R) (w.setCell ⟨S.bo,i,none⟩ (.int .i64 x)) (xL S R):=by
 obtain⟨k,hm⟩:=h.kept (G:=fun b=>b=S.bo) (fun g e _=>.inr (.inl e)) (JJ w S.bo i (.int .i64 x));obtain⟨n1,n2,n3⟩:=h.apart;refine⟨⟨k.st,k.rd (Ne.symm n1),?_,by show(s.of.set i x).length=_; rw[zB]; exact h.len,k.pr (Ne.symm n2),h.pv,k.vars fun b e=>(h.VN b e).1,k.blocks fun b e=>(h.VG b e).1,h.bml,fun j b y h1 h2=>k.maps j b y (h.of_map b (yB h2)).1 h1 h2,h.own,h.nodup,h.few,k.low,h.vz⟩,hm⟩
 have:=h.of.put i (.int .i64 x)
 rw[yD,zF7] at this;exact this
theorem zR1 (v:Vr)(b:List Vr):(fun y=>if y=v.name then some (Value.agg #[.int .i64 (v.n:Int),.bool v.loop]) else vfV b y)=vfV (v::b):=by
 funext y
 unfold vfV;rw[List.find?_cons]
 by_cases e:y=v.name
 ·subst e; simp
 ·rw[if_neg e]
  have:(v.name==y)=false:=by rw[yI]; exact fun h=>e h.symm
  rw[this]
theorem NB.declare {w w1 w3:World}{S:StN}{s:Nr}{R:DyN}(h:NB w S s R)(hl:s.vars.length<64)(i:Nat)(name:Bs)(loop:Bool)(x:List Vr)(rest:List (List Vr))(b0:Nat)(bs:List Nat)(hb:s.blocks=x::rest)(hbm:R.bm=b0::bs)
  (hg1:w.grownBy w1 (Value.slice R.Av s.vars.length R.cv).ownBlock) (A':Option Addr) (c':Nat) (ho1:w1.ownsRow S.B 9 1 (.slice A' (s.vars.length+1) c') (s.vars.length+1) (strs s.vars++[.string (xH name)]))
  (hm3:MF Tryz.prog 9 w3 b0 (s.vars.length+1) fun y=>if y=name then some (.agg #[.int .i64 (s.vars.length:Int),.bool loop]) else vfV x y) (hg3:(w1.setCell ⟨S.bp,R.j*5+2,none⟩ (.slice A' (s.vars.length+1) c')).grownBy w3 (some b0)) (hn:∀b,A'=some ⟨b,0,none⟩→R.Av=some ⟨b,0,none⟩∨w.heap.size≤b) :
  NB (w3.setCell ⟨S.bo,i,none⟩ (.int .i64 (s.vars.length:Int))) S { s.set i s.vars.length with vars:=s.vars++[name],blocks:=(⟨name,s.vars.length,loop⟩::x)::rest } { R with pc:=R.pc.setIfInBounds (R.j*5+2) (.slice A' (s.vars.length+1) c'),Av:=A',cv:=c' } ∧
  xC w (xL S R) (w3.setCell ⟨S.bo,i,none⟩ (.int .i64 (s.vars.length:Int))) (xL S { R with pc:=R.pc.setIfInBounds (R.j*5+2) (.slice A' (s.vars.length+1) c'),Av:=A',cv:=c' }):=by
 have hb0:b0 ∈ R.bm:=by rw[hbm]; exact List.mem_cons_self ..
 obtain⟨G,hG⟩:∃G:Nat→Prop,G=fun b=>R.Av=some ⟨b,0,none⟩∨b=S.bp∨b=b0∨b=S.bo:=⟨_,rfl⟩
 have m1:xC w G w1 G:=xC.grown hg1 fun g e=>by rw[hG]; exact .inl (xO h.vars e)
 have m2:=(JJ w1 S.bp (R.j*5+2) (.slice A' (s.vars.length+1) c')).zFM (G':=G) fun b e=>by rw[hG]; exact .inr (.inl e)
 have m3:xC _ G w3 G:=xC.grown hg3 fun g e=>by injection e with e; rw[hG]; exact .inr (.inr (.inl e.symm))
 have m4:=(JJ w3 S.bo i (.int .i64 (s.vars.length:Int))).zFM (G':=G) fun b e=>by rw[hG]; exact .inr (.inr (.inr e))
 have hGM:∀g,G g→g<w.heap.size→xL S R g:=fun g hg _=>by
  rw[hG] at hg
  rcases hg with e | e | e | e
  ·exact .inr (.inr (.inr (.inl e)))
  ·exact .inr (.inr (.inl e))
  ·exact .inr (.inr (.inr (.inr (.inr (by rw[e]; exact hb0)))))
  ·exact .inr (.inl e)
 obtain⟨k,hm⟩:=h.kept hGM (((m1.trans m2).trans m3).trans m4);obtain⟨n1,n2,n3⟩:=h.apart;obtain⟨p1,p2,p3⟩:=h.of_map b0 hb0
 have hGa:¬G S.a:=by
  rw[hG];rintro (e | e | e | e)
  ·exact(h.VN _ e).2.1 rfl
  ·exact n3 e
  ·exact p2 e.symm
  ·exact n1 e.symm
 have hmv:xC w (xL S R) (w3.setCell ⟨S.bo,i,none⟩ (.int .i64 (s.vars.length:Int))) (xL S { R with pc:=R.pc.setIfInBounds (R.j*5+2) (.slice A' (s.vars.length+1) c'),Av:=A',cv:=c' }):=hm.less fun b hb=>by
  rcases hb with e | e | e | e | e | e
  ·exact .inl (.inl e)
  ·exact .inl (.inr (.inl e))
  ·exact .inl (.inr (.inr (.inl e)))
  ·rcases hn b e with e | e
   ·exact .inl (.inr (.inr (.inr (.inl e))))
   ·exact .inr e
  ·exact .inl (.inr (.inr (.inr (.inr (.inl e)))))
  ·exact .inl (.inr (.inr (.inr (.inr (.inr e)))))
 have hbp1:Blk w1 S.bp 85 R.pc:=h.pr.grown hg1 fun e=>(h.VN _ (xO h.vars e.symm)).2.2.1 rfl;have hbo1:Blk w1 S.bo 3 (ofc s.of).toArray:=h.of.grown hg1 fun e=>(h.VN _ (xO h.vars e.symm)).1 rfl
 have hA0:∀b,A'=some ⟨b,0,none⟩→b≠S.bp∧b≠b0∧b≠S.bo:=fun b e=>by
  obtain⟨cur,hc⟩:=xY ho1 e;refine⟨Blk.differ hc hbp1 (by decide),fun e2=>?_,Blk.differ hc hbo1 (by decide)⟩;subst e2
  rcases hn b e with e3 | e3
  ·exact(h.VN b e3).2.2.2.2 hb0
  ·obtain⟨n,f,hf⟩:=h.zGS hb0
   have:=hf.lt
   omega
 refine⟨⟨(h.st.xE hmv),(by have:=k.rd hGa; rw[hb] at this; exact this),?_,by show(s.of.set i _).length=_; rw[zB]; exact h.len,?_,?_,?_,?_,?_,?_,?_,?_,?_,k.low,fun h=>by simp at h⟩,hmv⟩
 ·have h3:Blk w3 S.bo 3 (ofc s.of).toArray:=(hbo1.far (p:=⟨S.bp,R.j*5+2,none⟩) n2 _).grown hg3 fun e=>by injection e with e; exact p1 e.symm
  have:=h3.put i (.int .i64 (s.vars.length:Int))
  rw[yD,zF7] at this;exact this
 ·exact((hbp1.put (R.j*5+2) (.slice A' (s.vars.length+1) c')).grown hg3 fun e=>by injection e with e; exact p3 e.symm).far (p:=⟨S.bo,i,none⟩) (Ne.symm n2) _
 ·have:=h.pv
  obtain⟨h5,_⟩:=Array.getElem?_eq_some_iff.1 this;simp only[yP,List.length_singleton];rw[Array.getElem?_setIfInBounds_self_of_lt h5]
 ·have:=ZK (w':=w3.setCell ⟨S.bo,i,none⟩ (.int .i64 (s.vars.length:Int))) ho1 fun b e=>by
   obtain⟨q1,q2,q3⟩:=hA0 b e;have hlt:=(jD ho1 e).2;rw[zS w3 ⟨S.bo,i,none⟩ _ b q3,hg3.block b (by simpa [World.setCell] using hlt) (fun e2=>q2 (by injection e2))];exact zS w1 ⟨S.bp,R.j*5+2,none⟩ _ b q1
  simpa [strs] using this
 ·have:=k.blocks fun b e=>by
   rw[hG];obtain⟨q1,q2,q3,q4⟩:=h.VG b e;rintro (e2 | e2 | e2 | e2)
   ·exact(h.VN b e2).2.2.2.1 e
   ·exact q3 e2
   ·exact q4 (by rw[e2]; exact hb0)
   ·exact q1 e2
  rw[hb] at this
  simpa using this
 ·have:=h.bml
  rw[hb] at this
  simpa using this
 ·intro kk b y h1 h2
  have hlen:(s.vars++[name]).length=s.vars.length+1:=by simp
  show MF _ _ _ b (s.vars++[name]).length _
  rw[hlen]
  cases kk with
  | zero=>
   simp only[yM,yY] at h1;have h2:R.bm[0]?=some b:=h2;rw[hbm] at h2;simp only[yM,yY] at h2;subst h1 h2;rw[zR1 ⟨name,s.vars.length,loop⟩ x] at hm3;exact hm3.jK (zS w3 ⟨S.bo,i,none⟩ _ b0 p1)
  | succ kk=>
   have h1:s.blocks[kk+1]?=some y:=by rw[hb]; exact h1
   refine(k.maps (kk+1) b y ?_ h1 h2).mono (Nat.le_succ _);have hbm':=yB h2;obtain⟨q1,q2,q3⟩:=h.of_map b hbm';rw[hG];rintro (e | e | e | e)
   ·exact(h.VN b e).2.2.2.2 hbm'
   ·exact q3 e
   ·have hnd:=h.nodup;have h2:R.bm[kk+1]?=some b:=h2;rw[hbm] at hnd h2;rw[List.nodup_cons] at hnd;exact hnd.1 (by rw[←e]; exact yB (i:=kk) h2)
   ·exact q1 e
 ·exact h.own
 ·exact h.nodup
 ·simp; omega
theorem zTp:vfV []=fun _=>none:=rfl
theorem NB.push {w w1 w2:World}{S:StN}{s:Nr}{R:DyN}(h:NB w S s R)(hx:Ext w w1)(b0:Nat)(h0:w.heap.size≤b0)(hm1:MF Tryz.prog 9 w1 b0 0 fun _=>none)
  (hg2:w1.grownBy w2 (Value.slice R.Ab s.blocks.length R.cb).ownBlock) (A':Option Addr) (c':Nat) (ho2:w2.ownsRow S.B 201 1 (.slice A' (s.blocks.length+1) c') (s.blocks.length+1) (YM R.bm.reverse++[.map (some b0)])) (hn:∀b,A'=some ⟨b,0,none⟩→R.Ab=some ⟨b,0,none⟩∨w.heap.size≤b) :
  NB (w2.setCell ⟨S.a,4,none⟩ (.slice A' (s.blocks.length+1) c')) S { s with blocks:=[]::s.blocks } { R with Ab:=A',cb:=c',bm:=b0::R.bm } ∧
  xC w (xL S R) (w2.setCell ⟨S.a,4,none⟩ (.slice A' (s.blocks.length+1) c')) (xL S { R with Ab:=A',cb:=c',bm:=b0::R.bm }):=by
 obtain⟨G,hG⟩:∃G:Nat→Prop,G=fun b=>R.Ab=some ⟨b,0,none⟩∨b=S.a:=⟨_,rfl⟩;have m1:xC w G w1 G:=xC.ext hx
 have m2:xC w1 G w2 G:=xC.grown hg2 fun g e=>by rw[hG]; exact .inl (xO h.blocks e)
 have m3:=(JJ w2 S.a 4 (.slice A' (s.blocks.length+1) c')).zFM (G':=G) fun b e=>by rw[hG]; exact .inr e
 have hGM:∀g,G g→g<w.heap.size→xL S R g:=fun g hg _=>by
  rw[hG] at hg
  rcases hg with e | e
  ·exact .inr (.inr (.inr (.inr (.inl e))))
  ·exact .inl e
 obtain⟨k,hm⟩:=h.kept hGM ((m1.trans m2).trans m3);obtain⟨n1,n2,n3⟩:=h.apart
 have hG1:∀ {b:Nat},b≠S.a→R.Ab≠some ⟨b,0,none⟩→¬G b:=fun h1 h2 hg=>by
  rw[hG] at hg
  rcases hg with e | e
  ·exact h2 e
  ·exact h1 e
 have hmv:xC w (xL S R) (w2.setCell ⟨S.a,4,none⟩ (.slice A' (s.blocks.length+1) c')) (xL S { R with Ab:=A',cb:=c',bm:=b0::R.bm }):=hm.less fun b hb=>by
  rcases hb with e | e | e | e | e | e
  ·exact .inl (.inl e)
  ·exact .inl (.inr (.inl e))
  ·exact .inl (.inr (.inr (.inl e)))
  ·exact .inl (.inr (.inr (.inr (.inl e))))
  ·rcases hn b e with e | e
   ·exact .inl (.inr (.inr (.inr (.inr (.inl e)))))
   ·exact .inr e
  ·rcases List.mem_cons.1 e with e | e
   ·exact .inr (by rw[e]; exact h0)
   ·exact .inl (.inr (.inr (.inr (.inr (.inr e)))))
 have hrd1:Blk w2 S.a 115 _:=(h.rd.ext hx).grown hg2 fun e=>(h.VG _ (xO h.blocks e.symm)).2.1 rfl
 have hA0:∀b,A'=some ⟨b,0,none⟩→b≠S.a:=fun b e=>by
  obtain⟨cur,hc⟩:=xY ho2 e;exact Blk.differ hc hrd1 (by decide)
 have hm0:∀b,R.Ab=some ⟨b,0,none⟩→b≠b0:=fun b e=>by have:=(jD h.blocks e).2; omega
 refine⟨⟨h.st.xE hmv,?_,k.of (hG1 n1 fun e=>(h.VG _ e).1 rfl),h.len,k.pr (hG1 (Ne.symm n3) fun e=>(h.VG _ e).2.2.1 rfl),h.pv,k.vars fun b e=>hG1 (h.VN b e).2.1 (h.VN b e).2.2.2.1,?_,?_,?_,?_,?_,h.few,k.low,h.vz⟩,hmv⟩
 ·have:=hrd1.put 4 (.slice A' (s.blocks.length+1) c')
  simpa using this
 ·have:=ZK (w':=w2.setCell ⟨S.a,4,none⟩ (.slice A' (s.blocks.length+1) c')) ho2 fun b e=>zS w2 ⟨S.a,4,none⟩ _ b (hA0 b e)
  simpa [YM] using this
 ·simp[h.bml]
 ·intro kk b y h1 h2
  cases kk with
  | zero=>
   simp only[yM,yY] at h1 h2;subst h1 h2;rw[zTp];have h3:MF Tryz.prog 9 w2 b0 0 fun _=>none:=hm1.jK (hg2.block b0 hm1.lt fun e=>hm0 b0 (xO h.blocks e.symm) rfl);exact(h3.jK (zS w2 ⟨S.a,4,none⟩ _ b0 (h3.ne hrd1))).mono (zW _)
  | succ kk=>
   have hbm':=yB (i:=kk) h2;exact k.maps kk b y (hG1 (h.of_map b hbm').2.1 fun e=>(h.VG b e).2.2.2 hbm') h1 h2
 ·intro b hb
  rcases List.mem_cons.1 hb with rfl | hb
  ·exact Nat.le_trans h.low h0
  ·exact h.own b hb
 ·rw[List.nodup_cons];refine⟨fun hb=>?_,h.nodup⟩;obtain⟨n,f,hf⟩:=h.zGS hb
  have:=hf.lt
  omega
theorem NB.pop {w:World}{S:StN}{s:Nr}{R:DyN}(h:NB w S s R)(x:List Vr)(rest:List (List Vr))(hb:s.blocks=x::rest) :
  NB (w.setCell ⟨S.a,4,none⟩ (.slice R.Ab rest.length R.cb)) S { s with blocks:=s.blocks.tail } { R with bm:=R.bm.tail } ∧
  xC w (xL S R) (w.setCell ⟨S.a,4,none⟩ (.slice R.Ab rest.length R.cb)) (xL S { R with bm:=R.bm.tail }):=by
 obtain⟨k,hm⟩:=h.kept (G:=fun b=>b=S.a) (fun g e _=>.inl e) (JJ w S.a 4 (.slice R.Ab rest.length R.cb));obtain⟨n1,n2,n3⟩:=h.apart
 have hmv:xC w (xL S R) (w.setCell ⟨S.a,4,none⟩ (.slice R.Ab rest.length R.cb)) (xL S { R with bm:=R.bm.tail }):=hm.less fun b hb=>by
  rcases hb with e | e | e | e | e | e
  ·exact .inl (.inl e)
  ·exact .inl (.inr (.inl e))
  ·exact .inl (.inr (.inr (.inl e)))
  ·exact .inl (.inr (.inr (.inr (.inl e))))
  ·exact .inl (.inr (.inr (.inr (.inr (.inl e)))))
  ·exact .inl (.inr (.inr (.inr (.inr (.inr (List.mem_of_mem_tail e))))))
 cases hbm:R.bm with
 | nil=>have:=h.bml; rw[hbm,hb] at this; cases this
 | cons b0 bs=>
  refine⟨⟨h.st.xE (by rw[←hbm]; exact hmv),?_,k.of n1,h.len,k.pr (Ne.symm n3),h.pv,k.vars fun b e=>(h.VN b e).2.1,?_,?_,?_,?_,?_,h.few,k.low,h.vz⟩,by rw[←hbm]; exact hmv⟩
  ·have:=h.rd.put 4 (.slice R.Ab rest.length R.cb)
   rw[show({ s with blocks:=s.blocks.tail }:Nr).blocks=rest by show s.blocks.tail=rest; rw[hb]; rfl]
   simpa using this
  ·have h1:=h.blocks;rw[hb,hbm,List.reverse_cons] at h1
   have h2:w.ownsRow S.B 201 1 (.slice R.Ab (rest.length+1) R.cb) (rest.length+1) (YM bs.reverse++[.map (some b0)]):=by simpa [YM] using h1
   obtain⟨b,e1,e2,_,_,h3⟩:=zMl h2
   have:=ZK (w':=w.setCell ⟨S.a,4,none⟩ (.slice R.Ab rest.length R.cb)) h3 fun b e=>zS w ⟨S.a,4,none⟩ _ b (h.VG b e).2.1
   rw[show({ s with blocks:=s.blocks.tail }:Nr).blocks=rest by show s.blocks.tail=rest; rw[hb]; rfl];exact this
  ·have:=h.bml
   rw[hb,hbm] at this;rw[show({ s with blocks:=s.blocks.tail }:Nr).blocks=rest by show s.blocks.tail=rest; rw[hb]; rfl]
   simpa using this
  ·intro kk b y h1 h2
   have h1:s.blocks[kk+1]?=some y:=by
    have h1:s.blocks.tail[kk]?=some y:=h1;rw[hb] at h1 ⊢;exact h1
   have h2:R.bm[kk+1]?=some b:=by rw[hbm]; exact h2
   exact k.maps (kk+1) b y (h.of_map b (yB h2)).2.1 h1 h2
  ·intro b hb';exact h.own b (by rw[hbm]; exact List.mem_cons_of_mem _ hb')
  ·have:=h.nodup
   rw[hbm,List.nodup_cons] at this;exact this.2
end Go.Proofs.YtbadjmmjbpeocaaGreat
namespace Go.Proofs.YtbadjmmjbpeocaaGreat
open Go Go.RowKit Go.Shelf
attribute [local go_sem] Oper.semAt_some
def idxs (n:Nat):Nat→List Nat
 | 0=>[]
 | k+1=>idxs n k++[n-1-k]
theorem zSs (n k:Nat):(idxs n k).length=k:=by
 induction k with
 | zero=>rfl
 | succ k ih=>unfold idxs; simp[ih]
theorem zKv (n k:Nat):idxs n (k+1)=idxs n k++[n-1-k]:=rfl
def atM (ms:List Nat)(i:Nat):Nat:=ms.getD i (ms.headD 0)
def zSW (ms:List Nat)(i:Nat):Array Value:=#[.int .i64 (i:Int),.map (some (atM ms i))]
theorem zTM (F:Fence)(n:Nat)(h5:F.fn 121)(hro:F.round=none)(A:Option Addr)(len cap:Nat)(w:World) :
  CallsIn F n Tryz.prog 121 #[.slice A len cap] w fun e w'=>e=.returned (.func (.func 149) #[] #[.pointer (some ⟨w.heap.size,0,none⟩)])∧w'=w.alloc (.cells #[.slice A len cap] 113):=by
 refine callsIn_of_wp Tryz.func121 rfl h5 ?_ hro;simp only[Tryz.ntmps121,List.size_toArray,zK,zL,Nat.reduceAdd,Nat.reduceSub,Array.replicate_succ,Array.replicate_zero,List.push_toArray,List.append_toArray,List.nil_append,yC]
 gi_wp2
 go_ret;exact⟨rfl,rfl⟩
theorem zMs (ms:List Nat)(k:Nat)(h:k<ms.length):(YM ms)[k]?=some (.map (some ms[k])):=by simp[YM,h]
theorem zSb (F:Fence)(n:Nat)(hf:F.fn 149)(hro:F.round=none)(hn:1≤n)(l Bs n₀:Nat)(A:Option Addr)(ns:List Nat)(cap:Nat)(hlen:ns.length≤100000)(hA:∀b off,A=some ⟨b,off,none⟩→0<ns.length→b<n₀)(J Jx:List Nat→World→Prop)
  (W:World) (hJa:AbidesFrom W.heap.size J) (hY:∀pre x W1,J pre W1→pre.length<ns.length→YieldAt F (n-1) Tryz.prog l (zSW ns x) W1 fun e W'=>
   (e=.returned (.bool true)∧J (pre++[x]) W'∧Below n₀ W1 W')∨(e=.returned (.bool false)∧Jx (pre++[x]) W'))
  (hBs:W.cell? ⟨Bs,0,none⟩=some (.slice A ns.length cap)) (hBsl:Bs<n₀) (hc:Cells W A (YM ns)) (hn₀:n₀≤W.heap.size) (h0:J [] W) :
  CallsIn F n Tryz.prog 149 #[.func (.yield l) #[] #[],.pointer (some ⟨Bs,0,none⟩)] W fun e W'=>(∃v,e=.returned v) ∧
   ((∃ys,ys=idxs ns.length ns.length∧J ys W')∨(∃pre,(∃k,k<ns.length∧pre=idxs ns.length (k+1))∧Jx pre W')):=by
 refine callsIn_of_wp Tryz.func149 rfl hf ?_ hro;simp only[Tryz.ntmps149,List.size_toArray,zK,zL,Nat.reduceAdd,Nat.reduceSub,Array.replicate_succ,Array.replicate_zero,List.push_toArray,List.append_toArray,List.nil_append,yC]
 gi_wp2
 gi_loopw [3] (fun i wr=>∃m:Nat,m≤ns.length∧i=.int .i64 ((m:Int)-1)∧J (idxs ns.length (ns.length-m)) wr∧Below n₀ W wr)
  (fun i _=>(intOf i+1).toNat)
 case atStart=>exact⟨ns.length,zX _,rfl,by rw[Nat.sub_self]; exact h0,Below.refl _ _⟩
 case round=>
  obtain⟨m,hm,rfl,hJs,hnx⟩:=hrel;have hbox:wr.cell? ⟨Bs,0,none⟩=some (.slice A ns.length cap):=(hnx.cell (p:=⟨Bs,0,none⟩) hBsl).trans hBs
  cases m with
  | zero=>
   gi_wp2
   go_end0;exact⟨⟨_,rfl⟩,.inl ⟨_,rfl,hJs⟩⟩
  | succ m=>
   have em:(((m+1:Nat):Int)-1)=(m:Int):=by omega
   rw[em]
   have hml:m<ns.length:=by omega
   obtain⟨b,off,rfl,hb,hcc⟩:=hc.at_ (by rw[zCb]; omega);have hbn:=hA b off rfl (by omega)
   have x0:wr.cell? ⟨b,off+m,none⟩=some (.map (some ns[m])):=by
    rw[hnx.cell (p:=⟨b,off+m,none⟩) hbn,hcc _ (by rw[zCb]; omega)];exact zMs ns m hml
   obtain⟨fn,tmps,assign,body,hy,hR⟩:=hY (idxs ns.length (ns.length-(m+1))) m _ hJs (by rw[zSs]; omega)
   have hI:idxs ns.length (ns.length-(m+1))++[m]=idxs ns.length (ns.length-m):=by
    rw[show ns.length-m=(ns.length-(m+1))+1 from by omega]
    show _=idxs ns.length (ns.length-(m+1))++[ns.length-1-(ns.length-(m+1))]
    rw[show ns.length-1-(ns.length-(m+1))=m from by omega]
   rw[hI] at hR;unfold zSW at hy;rw[show atM ns m=ns[m] from by unfold atM; simp[yH,hml]] at hy;generalize ns[m]=x at *;clear hcc em
   have hd0:decide ((m:Int) ≥ 0)=true:=by simp
   have hd1:decide (0≤(m:Int))=true:=by simp
   have q1:(m:Int)<(ns.length:Int):=by omega
   gi_wp2
   refine hR.mono ?_;rintro e W3 (⟨rfl,hJ3,hk3⟩ | ⟨rfl,hJx3⟩)
   ·gi_wp2
    go_roundw
    case rel=>exact⟨m,by omega,rfl,hJ3,hnx.trans hk3⟩
    case measure=>simp[intOf]
   ·gi_wp2
    refine bodyPost_ret (results_none rfl _ _ _) rfl ?_;exact⟨⟨_,rfl⟩,.inr ⟨_,⟨ns.length-(m+1),by omega,by rw[show ns.length-(m+1)+1=ns.length-m from by omega]⟩,hJx3⟩⟩
theorem zO8 (F:Fence)(n:Nat)(hf:F.fn 149)(hro:F.round=none)(hn:1≤n)(Bs:Nat)(A:Option Addr)(ns:List Nat)(cap:Nat)(hlen:ns.length≤100000)(w:World)
  (hA:∀b off,A=some ⟨b,off,none⟩→0<ns.length→b<w.heap.size) (hBl:Bs<w.heap.size) (hBs:w.cell? ⟨Bs,0,none⟩=some (.slice A ns.length cap)) (hc:Cells w A (YM ns)) :
  SeqStopsK F n Tryz.prog 149 #[.pointer (some ⟨Bs,0,none⟩)] (zSW ns) (Below w.heap.size) (fun ys=>ys=idxs ns.length ns.length) (fun pre=>∃k,k<ns.length∧pre=idxs ns.length (k+1)) ns.length w:=fun l J Jx W hW hJ _ hY h0=>
 zSb F n hf hro hn l Bs w.heap.size A ns cap hlen hA J Jx W hJ hY ((hW.cell (p:=⟨Bs,0,none⟩) hBl).trans hBs) hBl (hc.ext hW) hW.size h0
theorem zLL {w:World}{A:Option Addr}{cs:List Value}(h:Cells w A cs)(hn:0<cs.length):∀b off,A=some ⟨b,off,none⟩→b<w.heap.size:=by
 intro b off e;obtain⟨b',off',h1,h2,_⟩:=h.at_ hn;rw[h1] at e;injection e with e;injection e with e;subst e;exact h2
end Go.Proofs.YtbadjmmjbpeocaaGreat
