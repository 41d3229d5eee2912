/- What is resolved: each node that names a variable or a table has a number that is there and is named so. (and what follows of it). The conditions stand at each lemma. -/
import Derived.Test.YtbadjmmjbpeocaaGreatJaa
import Derived.Test.YtbadjmmjbpeocaaGreatJac
import Derived.Test.YtbadjmmjbpeocaaGreatJae
import Derived.RangeFuncBox
import Derived.RangeFuncNested
import Derived.RangeFuncBound
import Derived.RangeFuncCalls
import Derived.RangeFuncLeaves
import Derived.Shelf.Abstract
import Derived.OwnWalkIn
import Derived.TacticsInMore
import Derived.LoopNIn
import Derived.LoopIn
set_option linter.unusedVariables false
set_option linter.unusedSimpArgs false
set_option maxRecDepth 100000
set_option maxHeartbeats 16000000
namespace Go.Proofs.YtbadjmmjbpeocaaGreat
inductive Sub (t:List Nd):Nat→Nat→Prop
 | self (i:Nat):Sub t i i
 | kid {i k j:Nat}:k ∈ (yZ t i).kids→Sub t k j→Sub t i j
theorem Sub.none {t:List Nd}{i j:Nat}(h:Sub t i j)(hk:(yZ t i).kids=[]):j=i:=by
 cases h with
 | self=>rfl
 | kid h _=>rw[hk] at h; cases h
theorem Sub.trans {t:List Nd}{i j k:Nat}(h:Sub t i j)(g:Sub t j k):Sub t i k:=by
 induction h with
 | self=>exact g
 | kid hk _ ih=>exact .kid hk (ih g)
def zU6 (k:Nat):Prop:=k=22∨k=7∨k=11∨k=15∨k=16
def zHN (t:List Nd)(s:Nr)(j:Nat)(x:Int):Prop:=
 (zU6 (yZ t j).kind→∃n:Nat,x=(n:Int)∧s.vars[n]?=some (yZ t j).text) ∧
 ((yZ t j).kind=20→∃n:Nat,x=(n:Int)∧(s.xH[n]?).map (·.name)=some (yZ t j).text)
def zOD (t:List Nd)(s:Nr)(j:Nat):Prop:=zHN t s j (s.of.getD j (-1))
structure BIn (s:Nr):Prop where
 few:s.vars.length≤64
 bl:∀b ∈ s.blocks,∀v ∈ b,s.vars[v.n]?=some v.name
structure zD8 (t:List Nd)(F:Nat→Prop)(s s':Nr):Prop where
 len:s'.of.length=s.of.length
 xH:s'.xH=s.xH
 procs:s'.procs=s.procs
 vars:∃e,s'.vars=s.vars++e
 inn:BIn s'
 val:∀j,zOD t s j→zOD t s' j
 fr:∀j,¬F j→s'.of.getD j (-1)=s.of.getD j (-1)
theorem zHN.up {t:List Nd}{s s':Nr}{j:Nat}{x:Int}(h:zHN t s j x)(ht:s'.xH=s.xH)(hv:∃e,s'.vars=s.vars++e):zHN t s' j x:=by
 obtain⟨e,he⟩:=hv;refine⟨fun k=>?_,fun k=>?_⟩
 ·obtain⟨n,h1,h2⟩:=h.1 k;refine⟨n,h1,?_⟩;obtain⟨h3,_⟩:=List.getElem?_eq_some_iff.1 h2;rw[he,List.getElem?_append_left h3];exact h2
 ·rw[ht]; exact h.2 k
theorem zD8.refl {t:List Nd}{F:Nat→Prop}{s:Nr}(h:BIn s):zD8 t F s s:=⟨rfl,rfl,rfl,⟨[],by simp⟩,h,fun _ h=>h,fun _ _=>rfl⟩
theorem zD8.trans {t:List Nd}{F:Nat→Prop}{a b c:Nr}(h:zD8 t F a b)(k:zD8 t F b c):zD8 t F a c:=
 ⟨k.len.trans h.len,k.xH.trans h.xH,k.procs.trans h.procs,(by
  obtain⟨e,he⟩:=h.vars;obtain⟨d,hd⟩:=k.vars
  exact⟨e++d,by rw[hd,he,List.append_assoc]⟩),k.inn,fun j hj=>k.val j (h.val j hj),fun j hj=>(k.fr j hj).trans (h.fr j hj)⟩
theorem zD8.mono {t:List Nd}{F G:Nat→Prop}{a b:Nr}(h:zD8 t F a b)(hg:∀j,F j→G j):zD8 t G a b:=⟨h.len,h.xH,h.procs,h.vars,h.inn,h.val,fun j hj=>h.fr j fun k=>hj (hg j k)⟩
theorem zC1 {l:List Int}{i:Nat}{x:Int}(h:i<l.length):(l.set i x).getD i (-1)=x:=by
 rw[yH,List.getElem?_set_self h]; rfl
theorem vGsn {l:List Int}{i j:Nat}{x:Int}(h:j≠i):(l.set i x).getD j (-1)=l.getD j (-1):=by
 rw[yH,yH,List.getElem?_set_ne (Ne.symm h)]
theorem zD8.set {t:List Nd}{s:Nr}(h:BIn s)(i:Nat)(hi:i<s.of.length)(x:Int)(hx:zHN t s i x):zD8 t (fun j=>j=i) s (s.set i x)∧zOD t (s.set i x) i:=by
 have e:(s.set i x).of.getD i (-1)=x:=zC1 hi;refine⟨⟨by show(s.of.set i x).length=_; rw[zB],rfl,rfl,⟨[],by simp[Nr.set]⟩,⟨h.few,h.bl⟩,fun j hj=>?_,fun j hj=>vGsn hj⟩,?_⟩
 ·by_cases AA:j=i
  ·subst AA;unfold zOD;rw[e];exact hx
  ·unfold zOD;rw[show(s.set i x).of.getD j (-1)=s.of.getD j (-1) from vGsn AA];exact hj
 ·unfold zOD;rw[e];exact hx
def zUa (t:List Nd)(m:Nn)(F G:Nat→Prop):Prop:=∀s s',BIn s→s.blocks≠[]→s.of.length=t.length→m s=.ok s'→zD8 t F s s'∧YW s s'∧∀j,G j→zOD t s' j
theorem zUa.mono {t:List Nd}{m:Nn}{F F' G G':Nat→Prop}(h:zUa t m F G)(hf:∀j,F j→F' j)(hg:∀j,G' j→G j):zUa t m F' G':=fun s s' a b c d=>let ⟨x,z,y⟩:=h s s' a b c d; ⟨x.mono hf,z,fun j hj=>y j (hg j hj)⟩
end Go.Proofs.YtbadjmmjbpeocaaGreat
namespace Go.Proofs.YtbadjmmjbpeocaaGreat
open Go Go.RowKit
abbrev Tx:=Nd × Int × Hd2
def zHR (x:Tx):List Value:=[.int .u8 (x.1.kind:Int),.int .i64 x.2.1,.string (xG x.1.text),.int .i64 x.1.num,.slice x.2.2.1 x.1.kids.length x.2.2.2]
def tcs (l:List Tx):List Value:=l.flatMap zHR
theorem zE0 (l:List Tx):(tcs l).length=l.length*5:=by
 unfold tcs
 induction l with
 | nil=>rfl
 | cons t l ih=>rw[List.flatMap_cons,yP,ih,zK]; show 5+_=_; omega
theorem zN5 (l:List Tx):∀(i:Nat) (hi:i<l.length) (j:Nat),j<5→(tcs l)[i*5+j]?=(zHR l[i])[j]?:=by
 induction l with
 | nil=>intro i hi; simp at hi
 | cons x l ih=>
  intro i hi j hj
  show(zHR x++tcs l)[i*5+j]?=_
  match i,hi with
  | 0,_=>rw[Nat.zero_mul,Nat.zero_add,List.getElem?_append_left (by show j<5; exact hj)]; rfl
  | i+1,hi=>
   have e:(i+1)*5+j=5+(i*5+j):=by omega
   rw[e,List.getElem?_append_right (by show 5≤_; omega),show 5+(i*5+j)-(zHR x).length=i*5+j from by show 5+(i*5+j)-5=_; omega];exact ih i (by simpa using hi) j hj
def tN (l:List Tx):List Nd:=l.map Prod.fst
theorem JO (l:List Tx):(tN l).length=l.length:=by simp[tN]
theorem zBw {l:List Tx}{i:Nat}(h:i<l.length):yZ (tN l) i=l[i].1:=by
 unfold yZ tN;rw[yH,zN,yJ h]
 rfl
def YT (l:List Tx)(i:Nat):Int:=(l[i]?.map (·.2.1)).getD 0
def hdN (l:List Tx)(i:Nat):Hd2:=(l[i]?.map (·.2.2)).getD (none,0)
def vT (l:List Tx)(i:Nat):Array Value:=#[.int .u8 ((yZ (tN l) i).kind:Int),.int .i64 (YT l i),.string (xG (yZ (tN l) i).text),.int .i64 (yZ (tN l) i).num,.slice (hdN l i).1 (yZ (tN l) i).kids.length (hdN l i).2]
theorem zIA {l:List Tx}{i:Nat}(h:i<l.length):zHR l[i]=(vT l i).toList:=by
 unfold vT YT hdN;rw[zBw h,yJ h]
 rfl
theorem xC.grown {w w':World}{M:Nat→Prop}{o:Option Nat}(hg:w.grownBy w' o)(h:∀g,o=some g→M g):xC w M w' M:=
 ⟨hg.os,hg.tape,hg.output,hg.size,fun b hb hM=>hg.block b hb fun e=>hM (h b e.symm),fun b h=>.inl h⟩
theorem xC.less {w w':World}{M M' N:Nat→Prop}(h:xC w M w' M')(hN:∀b,N b→M' b∨w.heap.size≤b):xC w M w' N:=
 ⟨h.os,h.tape,h.output,h.size,h.jL,fun b hb=>by
  rcases hN b hb with h1 | h1
  ·exact h.zDI b h1
  ·exact .inr h1⟩
def zBn (o:Option Nat):Option Value:=o.map fun (n:Nat)=>Value.int .i64 (n:Int)
def vfV (b:List Vr)(n:Bs):Option Value:=(b.find? fun v=>v.name==n).map fun v=>.agg #[.int .i64 (v.n:Int),.bool v.loop]
def YL (l:List Nat):List Value:=l.map fun b=>Value.map (some b)
def strs (l:List Bs):List Value:=l.map fun b=>Value.string (xG b)
def ofc (l:List Int):List Value:=l.map (Value.int .i64)
def zM8 (x:Nt × Hd2):List Value:=[.string (xG x.1.name),.slice x.2.1 x.1.zBW.length x.2.2]
def VD (l:List Nt)(h:List Hd2):List Value:=(l.zip h).flatMap zM8
theorem zB8 (l:List Nat):(YL l).length=l.length:=by simp[YL]
theorem zMr (l:List Bs):(strs l).length=l.length:=by simp[strs]
theorem zOr (l:List Int)(i:Nat)(h:i<l.length):(ofc l)[i]?=some (.int .i64 (l.getD i (-1))):=by
 unfold ofc;rw[zN,yJ h,yH,yJ h]
 rfl
theorem zFZ (l:List Int)(i:Nat)(x:Int):(ofc l).set i (.int .i64 x)=ofc (l.set i x):=by unfold ofc; rw[List.map_set]
def zGQ (w:World)(M:Nat→Prop)(b n:Nat)(f:Bs→Option Value):Prop:=MF Tryz.prog 9 w b n f∧¬M b
theorem zGQ.xE {w w':World}{M M':Nat→Prop}{b n:Nat}{f:Bs→Option Value}(h:zGQ w M b n f)(k:xC w M w' M'):zGQ w' M' b n f:=
 ⟨h.1.jL (k.jL b h.1.lt h.2),fun h1=>by rcases k.zDI b h1 with h2 | h2 <;> first | exact h.2 h2 | (have:=h.1.lt; omega)⟩
structure zAS (w:World)(M:Nat→Prop)(A:Option Addr)(l:List Tx):Prop where
 row:XF w M A (tcs l)
 kids:∀x ∈ l,XF w M x.2.2.1 (ints x.1.kids)
 text:∀x ∈ l,x.1.text.length≤maxLen
 zUi:∀x ∈ l,x.1.kids.length≤x.2.2.2
theorem zAS.xE {w w':World}{M M':Nat→Prop}{A:Option Addr}{l:List Tx}(h:zAS w M A l)(k:xC w M w' M'):zAS w' M' A l:=⟨h.row.xE k,fun x hx=>(h.kids x hx).xE k,h.text,h.zUi⟩
theorem zAS.at_ {w:World}{M:Nat→Prop}{A:Option Addr}{l:List Tx}(h:zAS w M A l)(k:Nat)(hk:k<l.length) :
  ∃b AA,A=some ⟨b,AA,none⟩∧b<w.heap.size∧∀j,j<5→w.cell? ⟨b,AA+k*5+j,none⟩=(vT l k).toList[j]?:=by
 obtain⟨b,AA,hA,hb,AB⟩:=h.row.cells.at_ (by rw[zE0]; omega);refine⟨b,AA,hA,hb,fun j hj=>?_⟩;rw[Nat.add_assoc,AB _ (by rw[zE0]; omega),zN5 l k hk j hj,zIA hk]
theorem zAS.kid {w:World}{M:Nat→Prop}{A:Option Addr}{l:List Tx}(h:zAS w M A l)(i:Nat)(hi:i<l.length):XF w M (hdN l i).1 (ints (yZ (tN l) i).kids):=by
 have:=h.kids l[i] (yO hi)
 rw[zBw hi];unfold hdN;rw[yJ hi];exact this
theorem zAS.txt {w:World}{M:Nat→Prop}{A:Option Addr}{l:List Tx}(h:zAS w M A l)(i:Nat):(yZ (tN l) i).text.length≤maxLen:=by
 by_cases hi:i<l.length
 ·rw[zBw hi]; exact h.text _ (yO hi)
 ·unfold yZ;rw[yH,zM (by rw[JO]; omega)];exact zW _
structure StN where
 a:Nat
 p:Nat
 bo:Nat
 co:Nat
 A:Option Addr
 ct:Nat
 l:List Tx
 At:Option Addr
 cT:Nat
 th:List Hd2
 Ac:Option Addr
 cc:Nat
 cm:List Nat
 mt:Nat
 bp:Nat
 cP:Nat
 nP:Nat
 B:Nat
structure DyN where
 j:Nat
 pc:Array Value
 Av:Option Addr
 cv:Nat
 Ab:Option Addr
 cb:Nat
 bm:List Nat
def xL (S:StN)(R:DyN)(b:Nat):Prop:=b=S.a∨b=S.bo∨b=S.bp∨R.Av=some ⟨b,0,none⟩∨R.Ab=some ⟨b,0,none⟩∨b ∈ R.bm
structure zKN (w:World)(M:Nat→Prop)(S:StN)(xH:List Nt):Prop where
 prog:Safe w M S.p 32 #[.slice S.A S.l.length S.ct,.slice S.At xH.length S.cT,.slice (some ⟨S.bp,0,none⟩) S.nP S.cP,.slice (some ⟨S.bo,0,none⟩) S.l.length S.co]
 tree:zAS w M S.A S.l
 zBN:XF w M S.At (VD xH S.th)
 thl:S.th.length=xH.length
 zBW:XF w M S.Ac (YL S.cm)
 cml:S.cm.length=xH.length
 zEl:∀(k b:Nat) (x:Nt),xH[k]?=some x→S.cm[k]?=some b→zGQ w M b 64 fun n=>zBn (x.zBW.findIdx? fun c=>c==n)
 mt:zGQ w M S.mt 64 fun n=>zBn (xH.findIdx? fun x=>x.name==n)
theorem zKN.xE {w w':World}{M M':Nat→Prop}{S:StN}{xH:List Nt}(h:zKN w M S xH)(k:xC w M w' M'):zKN w' M' S xH:=
 ⟨h.prog.xE k,h.tree.xE k,h.zBN.xE k,h.thl,h.zBW.xE k,h.cml,fun i b x h1 h2=>(h.zEl i b x h1 h2).xE k,h.mt.xE k⟩
structure NB (w:World)(S:StN)(s:Nr)(R:DyN):Prop where
 st:zKN w (xL S R) S s.xH
 rd:Blk w S.a 115 #[.pointer (some ⟨S.p,0,none⟩),.map (some S.mt),.slice S.Ac s.xH.length S.cc,.pointer (some ⟨S.bp,R.j*5,none⟩),.slice R.Ab s.blocks.length R.cb]
 of:Blk w S.bo 3 (ofc s.of).toArray
 len:s.of.length=S.l.length
 pr:Blk w S.bp 85 R.pc
 pv:R.pc[R.j*5+2]?=some (.slice R.Av s.vars.length R.cv)
 vars:w.ownsRow S.B 9 1 (.slice R.Av s.vars.length R.cv) s.vars.length (strs s.vars)
 blocks:w.ownsRow S.B 201 1 (.slice R.Ab s.blocks.length R.cb) s.blocks.length (YL R.bm.reverse)
 bml:R.bm.length=s.blocks.length
 maps:∀(k b:Nat) (x:List Vr),s.blocks[k]?=some x→R.bm[k]?=some b→MF Tryz.prog 9 w b s.vars.length (vfV x)
 own:∀b ∈ R.bm,S.B≤b
 nodup:R.bm.Nodup
 few:s.vars.length≤64
 low:S.B≤w.heap.size
 vz:s.vars.length=0→R.cv=0
theorem NB.ZW {w:World}{S:StN}{s:Nr}{R:DyN}(h:NB w S s R){b:Nat}(hb:xL S R b):b<w.heap.size:=by
 rcases hb with rfl | rfl | rfl | hb | hb | hb
 ·exact h.rd.lt
 ·exact h.of.lt
 ·exact h.pr.lt
 ·exact(jD h.vars hb).2
 ·exact(jD h.blocks hb).2
 ·obtain⟨k,hk,rfl⟩:=List.getElem_of_mem hb
  have AA:k<s.blocks.length:=by rw[←h.bml]; exact hk
  exact(h.maps k _ _ (yJ AA) (yJ hk)).lt
theorem NB.zGL {w:World}{S:StN}{s:Nr}{R:DyN}(h:NB w S s R){b:Nat}(hb:b ∈ R.bm):∃n f,MF Tryz.prog 9 w b n f:=by
 obtain⟨k,hk,rfl⟩:=List.getElem_of_mem hb
 have AA:k<s.blocks.length:=by rw[←h.bml]; exact hk
 exact⟨_,_,h.maps k _ _ (yJ AA) (yJ hk)⟩
theorem xC.zFJ {w w':World}{G G':Nat→Prop}(h:xC w G w' G)(hg:∀b,G b→G' b):xC w G' w' G':=⟨h.os,h.tape,h.output,h.size,fun b hb hn=>h.jL b hb fun k=>hn (hg b k),fun b h=>.inl h⟩
structure Kept (w':World)(S:StN)(s:Nr)(R:DyN)(G:Nat→Prop):Prop where
 st:zKN w' (xL S R) S s.xH
 rd:¬G S.a→Blk w' S.a 115 #[.pointer (some ⟨S.p,0,none⟩),.map (some S.mt),.slice S.Ac s.xH.length S.cc,.pointer (some ⟨S.bp,R.j*5,none⟩),.slice R.Ab s.blocks.length R.cb]
 of:¬G S.bo→Blk w' S.bo 3 (ofc s.of).toArray
 pr:¬G S.bp→Blk w' S.bp 85 R.pc
 vars:(∀b,R.Av=some ⟨b,0,none⟩→¬G b)→w'.ownsRow S.B 9 1 (.slice R.Av s.vars.length R.cv) s.vars.length (strs s.vars)
 blocks:(∀b,R.Ab=some ⟨b,0,none⟩→¬G b)→w'.ownsRow S.B 201 1 (.slice R.Ab s.blocks.length R.cb) s.blocks.length (YL R.bm.reverse)
 maps:∀(k b:Nat) (x:List Vr),¬G b→s.blocks[k]?=some x→R.bm[k]?=some b→MF Tryz.prog 9 w' b s.vars.length (vfV x)
 low:S.B≤w'.heap.size
theorem ZK {w w':World}{B:Nat}{t:TypeId}{s n c m:Nat}{A:Option Addr}{xs:List Value}(h:w.ownsRow B t s (.slice A m c) n xs)(hk:∀b,A=some ⟨b,0,none⟩→w'.heap[b]?=w.heap[b]?):w'.ownsRow B t s (.slice A m c) n xs:=by
 refine⟨h.1,?_⟩
 rcases h.2 with hn | ⟨g,cap,AA,hv,hb,hh,r⟩
 ·exact .inl hn
 ·injection hv with e1 e2 e3;exact .inr ⟨g,cap,AA,by rw[e1,e2,e3],hb,(hk g e1).trans hh,r⟩
theorem NB.kept {w w':World}{S:StN}{s:Nr}{R:DyN}(h:NB w S s R){G:Nat→Prop}(hM:∀g,G g→g<w.heap.size→xL S R g)(hg:xC w G w' G):Kept w' S s R G∧xC w (xL S R) w' (xL S R):=by
 have hm:xC w (xL S R) w' (xL S R):=⟨hg.os,hg.tape,hg.output,hg.size,fun b hb hn=>hg.jL b hb fun k=>hn (hM b k hb),fun b h=>.inl h⟩;refine⟨⟨h.st.xE hm,fun hn=>(hg.jL _ h.rd.lt hn).trans h.rd,fun hn=>(hg.jL _ h.of.lt hn).trans h.of,fun hn=>(hg.jL _ h.pr.lt hn).trans h.pr,fun hn=>?_,fun hn=>?_,fun k b x hn h1 h2=>?_,Nat.le_trans h.low hg.size⟩,hm⟩
 ·exact ZK h.vars fun b e=>hg.jL b (jD h.vars e).2 (hn b e)
 ·exact ZK h.blocks fun b e=>hg.jL b (jD h.blocks e).2 (hn b e)
 ·have AA:=h.maps k b x h1 h2;exact AA.jL (hg.jL b AA.lt hn)
theorem zPW (w:World)(g i:Nat)(u:Value):w.grownBy (w.setCell ⟨g,i,none⟩ u) (some g):=⟨rfl,rfl,rfl,by simp[World.setCell],fun k _ hk=>zS w ⟨g,i,none⟩ u k fun e=>hk (by rw[e])⟩
theorem JL (w:World)(g i:Nat)(u:Value):xC w (fun b=>b=g) (w.setCell ⟨g,i,none⟩ u) fun b=>b=g:=xC.grown (zPW w g i u) fun b e=>by injection e with e; exact e.symm
theorem NB.ext {w w':World}{S:StN}{s:Nr}{R:DyN}(h:NB w S s R)(hx:Ext w w'):NB w' S s R:=by
 have k:=(h.kept (G:=fun _=>False) (fun g hg _=>hg.elim) (xC.ext hx)).1;exact⟨k.st,k.rd id,k.of id,h.len,k.pr id,h.pv,k.vars fun _ _=>id,k.blocks fun _ _=>id,h.bml,fun i b x h1 h2=>k.maps i b x id h1 h2,h.own,h.nodup,h.few,k.low,h.vz⟩
theorem NB.VP {w:World}{S:StN}{s:Nr}{R:DyN}(h:NB w S s R):∀b,R.Av=some ⟨b,0,none⟩→b≠S.bo∧b≠S.a∧b≠S.bp∧R.Ab≠some ⟨b,0,none⟩∧b ∉ R.bm:=fun b e=>by
 obtain⟨AC,hc⟩:=vA h.vars e;refine⟨Blk.differ hc h.of (by decide),Blk.differ hc h.rd (by decide),Blk.differ hc h.pr (by decide),fun e2=>?_,fun hm=>?_⟩
 ·obtain⟨AB,AA⟩:=vA h.blocks e2;exact Blk.differ hc AA (by decide) rfl
 ·obtain⟨n,f,hf⟩:=h.zGL hm;exact hf.ne hc rfl
theorem NB.VI {w:World}{S:StN}{s:Nr}{R:DyN}(h:NB w S s R):∀b,R.Ab=some ⟨b,0,none⟩→b≠S.bo∧b≠S.a∧b≠S.bp∧b ∉ R.bm:=fun b e=>by
 obtain⟨AA,hc⟩:=vA h.blocks e;refine⟨Blk.differ hc h.of (by decide),Blk.differ hc h.rd (by decide),Blk.differ hc h.pr (by decide),fun hm=>?_⟩;obtain⟨n,f,hf⟩:=h.zGL hm;exact hf.ne hc rfl
theorem NB.of_map {w:World}{S:StN}{s:Nr}{R:DyN}(h:NB w S s R):∀b ∈ R.bm,b≠S.bo∧b≠S.a∧b≠S.bp:=fun b hm=>by
 obtain⟨n,f,hf⟩:=h.zGL hm;exact⟨hf.ne h.of,hf.ne h.rd,hf.ne h.pr⟩
theorem NB.apart {w:World}{S:StN}{s:Nr}{R:DyN}(h:NB w S s R):S.bo≠S.a∧S.bo≠S.bp∧S.a≠S.bp:=⟨Blk.differ h.of h.rd (by decide),Blk.differ h.of h.pr (by decide),Blk.differ h.rd h.pr (by decide)⟩
theorem NB.setOf {w:World}{S:StN}{s:Nr}{R:DyN}(h:NB w S s R)(i:Nat)(x:Int) :
  NB (w.setCell ⟨S.bo,i,none⟩ (.int .i64 x)) S (s.set i x) R∧xC w (xL S R) (w.setCell ⟨S.bo,i,none⟩ (.int .i64 x)) (xL S R):=by
 obtain⟨k,hm⟩:=h.kept (G:=fun b=>b=S.bo) (fun g e _=>.inr (.inl e)) (JL w S.bo i (.int .i64 x));obtain⟨n1,n2,n3⟩:=h.apart;refine⟨⟨k.st,k.rd (Ne.symm n1),?_,by show(s.of.set i x).length=_; rw[zB]; exact h.len,k.pr (Ne.symm n2),h.pv,k.vars fun b e=>(h.VP b e).1,k.blocks fun b e=>(h.VI b e).1,h.bml,fun j b y h1 h2=>k.maps j b y (h.of_map b (yB h2)).1 h1 h2,h.own,h.nodup,h.few,k.low,h.vz⟩,hm⟩
 have:=h.of.put i (.int .i64 x)
 rw[yD,zFZ] at this;exact this
theorem zR0 (v:Vr)(b:List Vr):(fun y=>if y=v.name then some (Value.agg #[.int .i64 (v.n:Int),.bool v.loop]) else vfV b y)=vfV (v::b):=by
 funext y
 unfold vfV;rw[List.find?_cons]
 by_cases e:y=v.name
 ·subst e; simp
 ·rw[if_neg e]
  have:(v.name==y)=false:=by rw[yI]; exact fun h=>e h.symm
  rw[this]
theorem NB.declare {w w1 w3:World}{S:StN}{s:Nr}{R:DyN}(h:NB w S s R)(hl:s.vars.length<64)(i:Nat)(name:Bs)(loop:Bool)(x:List Vr)(rest:List (List Vr))(b0:Nat)(bs:List Nat)(hb:s.blocks=x::rest)(hbm:R.bm=b0::bs)
  (hg1:w.grownBy w1 (Value.slice R.Av s.vars.length R.cv).ownBlock) (A':Option Addr) (c':Nat) (ho1:w1.ownsRow S.B 9 1 (.slice A' (s.vars.length+1) c') (s.vars.length+1) (strs s.vars++[.string (xG name)]))
  (hm3:MF Tryz.prog 9 w3 b0 (s.vars.length+1) fun y=>if y=name then some (.agg #[.int .i64 (s.vars.length:Int),.bool loop]) else vfV x y) (hg3:(w1.setCell ⟨S.bp,R.j*5+2,none⟩ (.slice A' (s.vars.length+1) c')).grownBy w3 (some b0)) (hn:∀b,A'=some ⟨b,0,none⟩→R.Av=some ⟨b,0,none⟩∨w.heap.size≤b) :
  NB (w3.setCell ⟨S.bo,i,none⟩ (.int .i64 (s.vars.length:Int))) S { s.set i s.vars.length with vars:=s.vars++[name],blocks:=(⟨name,s.vars.length,loop⟩::x)::rest } { R with pc:=R.pc.setIfInBounds (R.j*5+2) (.slice A' (s.vars.length+1) c'),Av:=A',cv:=c' } ∧
  xC w (xL S R) (w3.setCell ⟨S.bo,i,none⟩ (.int .i64 (s.vars.length:Int))) (xL S { R with pc:=R.pc.setIfInBounds (R.j*5+2) (.slice A' (s.vars.length+1) c'),Av:=A',cv:=c' }):=by
 have AB:b0 ∈ R.bm:=by rw[hbm]; exact List.mem_cons_self ..
 obtain⟨G,hG⟩:∃G:Nat→Prop,G=fun b=>R.Av=some ⟨b,0,none⟩∨b=S.bp∨b=b0∨b=S.bo:=⟨_,rfl⟩
 have m1:xC w G w1 G:=xC.grown hg1 fun g e=>by rw[hG]; exact .inl (xP h.vars e)
 have m2:=(JL w1 S.bp (R.j*5+2) (.slice A' (s.vars.length+1) c')).zFJ (G':=G) fun b e=>by rw[hG]; exact .inr (.inl e)
 have m3:xC _ G w3 G:=xC.grown hg3 fun g e=>by injection e with e; rw[hG]; exact .inr (.inr (.inl e.symm))
 have m4:=(JL w3 S.bo i (.int .i64 (s.vars.length:Int))).zFJ (G':=G) fun b e=>by rw[hG]; exact .inr (.inr (.inr e))
 have AK:∀g,G g→g<w.heap.size→xL S R g:=fun g hg _=>by
  rw[hG] at hg
  rcases hg with e | e | e | e
  ·exact .inr (.inr (.inr (.inl e)))
  ·exact .inr (.inr (.inl e))
  ·exact .inr (.inr (.inr (.inr (.inr (by rw[e]; exact AB)))))
  ·exact .inr (.inl e)
 obtain⟨k,hm⟩:=h.kept AK (((m1.trans m2).trans m3).trans m4);obtain⟨n1,n2,n3⟩:=h.apart;obtain⟨p1,p2,p3⟩:=h.of_map b0 AB
 have AJ:¬G S.a:=by
  rw[hG];rintro (e | e | e | e)
  ·exact(h.VP _ e).2.1 rfl
  ·exact n3 e
  ·exact p2 e.symm
  ·exact n1 e.symm
 have AG:xC w (xL S R) (w3.setCell ⟨S.bo,i,none⟩ (.int .i64 (s.vars.length:Int))) (xL S { R with pc:=R.pc.setIfInBounds (R.j*5+2) (.slice A' (s.vars.length+1) c'),Av:=A',cv:=c' }):=hm.less fun b hb=>by
  rcases hb with e | e | e | e | e | e
  ·exact .inl (.inl e)
  ·exact .inl (.inr (.inl e))
  ·exact .inl (.inr (.inr (.inl e)))
  ·rcases hn b e with e | e
   ·exact .inl (.inr (.inr (.inr (.inl e))))
   ·exact .inr e
  ·exact .inl (.inr (.inr (.inr (.inr (.inl e)))))
  ·exact .inl (.inr (.inr (.inr (.inr (.inr e)))))
 have AC:Blk w1 S.bp 85 R.pc:=h.pr.grown hg1 fun e=>(h.VP _ (xP h.vars e.symm)).2.2.1 rfl;have AA:Blk w1 S.bo 3 (ofc s.of).toArray:=h.of.grown hg1 fun e=>(h.VP _ (xP h.vars e.symm)).1 rfl
 have AI:∀b,A'=some ⟨b,0,none⟩→b≠S.bp∧b≠b0∧b≠S.bo:=fun b e=>by
  obtain⟨AL,hc⟩:=vA ho1 e;refine⟨Blk.differ hc AC (by decide),fun e2=>?_,Blk.differ hc AA (by decide)⟩;subst e2
  rcases hn b e with e3 | e3
  ·exact(h.VP b e3).2.2.2.2 AB
  ·obtain⟨n,f,hf⟩:=h.zGL AB
   have:=hf.lt
   omega
 refine⟨⟨(h.st.xE AG),(by have:=k.rd AJ; rw[hb] at this; exact this),?_,by show(s.of.set i _).length=_; rw[zB]; exact h.len,?_,?_,?_,?_,?_,?_,?_,?_,?_,k.low,fun h=>by simp at h⟩,AG⟩
 ·have h3:Blk w3 S.bo 3 (ofc s.of).toArray:=(AA.far (p:=⟨S.bp,R.j*5+2,none⟩) n2 _).grown hg3 fun e=>by injection e with e; exact p1 e.symm
  have:=h3.put i (.int .i64 (s.vars.length:Int))
  rw[yD,zFZ] at this;exact this
 ·exact((AC.put (R.j*5+2) (.slice A' (s.vars.length+1) c')).grown hg3 fun e=>by injection e with e; exact p3 e.symm).far (p:=⟨S.bo,i,none⟩) (Ne.symm n2) _
 ·have:=h.pv
  obtain⟨h5,_⟩:=Array.getElem?_eq_some_iff.1 this;simp only[yP,List.length_singleton];rw[Array.getElem?_setIfInBounds_self_of_lt h5]
 ·have:=ZK (w':=w3.setCell ⟨S.bo,i,none⟩ (.int .i64 (s.vars.length:Int))) ho1 fun b e=>by
   obtain⟨q1,q2,q3⟩:=AI b e;have AH:=(jD ho1 e).2;rw[zS w3 ⟨S.bo,i,none⟩ _ b q3,hg3.block b (by simpa [World.setCell] using AH) (fun e2=>q2 (by injection e2))];exact zS w1 ⟨S.bp,R.j*5+2,none⟩ _ b q1
  simpa [strs] using this
 ·have:=k.blocks fun b e=>by
   rw[hG];obtain⟨q1,q2,q3,q4⟩:=h.VI b e;rintro (e2 | e2 | e2 | e2)
   ·exact(h.VP b e2).2.2.2.1 e
   ·exact q3 e2
   ·exact q4 (by rw[e2]; exact AB)
   ·exact q1 e2
  rw[hb] at this
  simpa using this
 ·have:=h.bml
  rw[hb] at this
  simpa using this
 ·intro kk b y h1 h2
  have AE:(s.vars++[name]).length=s.vars.length+1:=by simp
  show MF _ _ _ b (s.vars++[name]).length _
  rw[AE]
  cases kk with
  | zero=>
   simp only[yM,yY] at h1;have h2:R.bm[0]?=some b:=h2;rw[hbm] at h2;simp only[yM,yY] at h2;subst h1 h2;rw[zR0 ⟨name,s.vars.length,loop⟩ x] at hm3;exact hm3.jL (zS w3 ⟨S.bo,i,none⟩ _ b0 p1)
  | succ kk=>
   have h1:s.blocks[kk+1]?=some y:=by rw[hb]; exact h1
   refine(k.maps (kk+1) b y ?_ h1 h2).mono (Nat.le_succ _);have AD:=yB h2;obtain⟨q1,q2,q3⟩:=h.of_map b AD;rw[hG];rintro (e | e | e | e)
   ·exact(h.VP b e).2.2.2.2 AD
   ·exact q3 e
   ·have AF:=h.nodup;have h2:R.bm[kk+1]?=some b:=h2;rw[hbm] at AF h2;rw[List.nodup_cons] at AF;exact AF.1 (by rw[←e]; exact yB (i:=kk) h2)
   ·exact q1 e
 ·exact h.own
 ·exact h.nodup
 ·simp; omega
theorem zTm:vfV []=fun _=>none:=rfl
theorem NB.push {w w1 w2:World}{S:StN}{s:Nr}{R:DyN}(h:NB w S s R)(hx:Ext w w1)(b0:Nat)(h0:w.heap.size≤b0)(hm1:MF Tryz.prog 9 w1 b0 0 fun _=>none)
  (hg2:w1.grownBy w2 (Value.slice R.Ab s.blocks.length R.cb).ownBlock) (A':Option Addr) (c':Nat) (ho2:w2.ownsRow S.B 201 1 (.slice A' (s.blocks.length+1) c') (s.blocks.length+1) (YL R.bm.reverse++[.map (some b0)])) (hn:∀b,A'=some ⟨b,0,none⟩→R.Ab=some ⟨b,0,none⟩∨w.heap.size≤b) :
  NB (w2.setCell ⟨S.a,4,none⟩ (.slice A' (s.blocks.length+1) c')) S { s with blocks:=[]::s.blocks } { R with Ab:=A',cb:=c',bm:=b0::R.bm } ∧
  xC w (xL S R) (w2.setCell ⟨S.a,4,none⟩ (.slice A' (s.blocks.length+1) c')) (xL S { R with Ab:=A',cb:=c',bm:=b0::R.bm }):=by
 obtain⟨G,hG⟩:∃G:Nat→Prop,G=fun b=>R.Ab=some ⟨b,0,none⟩∨b=S.a:=⟨_,rfl⟩;have m1:xC w G w1 G:=xC.ext hx
 have m2:xC w1 G w2 G:=xC.grown hg2 fun g e=>by rw[hG]; exact .inl (xP h.blocks e)
 have m3:=(JL w2 S.a 4 (.slice A' (s.blocks.length+1) c')).zFJ (G':=G) fun b e=>by rw[hG]; exact .inr e
 have AG:∀g,G g→g<w.heap.size→xL S R g:=fun g hg _=>by
  rw[hG] at hg
  rcases hg with e | e
  ·exact .inr (.inr (.inr (.inr (.inl e))))
  ·exact .inl e
 obtain⟨k,hm⟩:=h.kept AG ((m1.trans m2).trans m3);obtain⟨n1,n2,n3⟩:=h.apart
 have AC:∀ {b:Nat},b≠S.a→R.Ab≠some ⟨b,0,none⟩→¬G b:=fun h1 h2 hg=>by
  rw[hG] at hg
  rcases hg with e | e
  ·exact h2 e
  ·exact h1 e
 have AD:xC w (xL S R) (w2.setCell ⟨S.a,4,none⟩ (.slice A' (s.blocks.length+1) c')) (xL S { R with Ab:=A',cb:=c',bm:=b0::R.bm }):=hm.less fun b hb=>by
  rcases hb with e | e | e | e | e | e
  ·exact .inl (.inl e)
  ·exact .inl (.inr (.inl e))
  ·exact .inl (.inr (.inr (.inl e)))
  ·exact .inl (.inr (.inr (.inr (.inl e))))
  ·rcases hn b e with e | e
   ·exact .inl (.inr (.inr (.inr (.inr (.inl e)))))
   ·exact .inr e
  ·rcases List.mem_cons.1 e with e | e
   ·exact .inr (by rw[e]; exact h0)
   ·exact .inl (.inr (.inr (.inr (.inr (.inr e)))))
 have AA:Blk w2 S.a 115 _:=(h.rd.ext hx).grown hg2 fun e=>(h.VI _ (xP h.blocks e.symm)).2.1 rfl
 have AF:∀b,A'=some ⟨b,0,none⟩→b≠S.a:=fun b e=>by
  obtain⟨AH,hc⟩:=vA ho2 e;exact Blk.differ hc AA (by decide)
 have AE:∀b,R.Ab=some ⟨b,0,none⟩→b≠b0:=fun b e=>by have:=(jD h.blocks e).2; omega
 refine⟨⟨h.st.xE AD,?_,k.of (AC n1 fun e=>(h.VI _ e).1 rfl),h.len,k.pr (AC (Ne.symm n3) fun e=>(h.VI _ e).2.2.1 rfl),h.pv,k.vars fun b e=>AC (h.VP b e).2.1 (h.VP b e).2.2.2.1,?_,?_,?_,?_,?_,h.few,k.low,h.vz⟩,AD⟩
 ·have:=AA.put 4 (.slice A' (s.blocks.length+1) c')
  simpa using this
 ·have:=ZK (w':=w2.setCell ⟨S.a,4,none⟩ (.slice A' (s.blocks.length+1) c')) ho2 fun b e=>zS w2 ⟨S.a,4,none⟩ _ b (AF b e)
  simpa [YL] using this
 ·simp[h.bml]
 ·intro kk b y h1 h2
  cases kk with
  | zero=>
   simp only[yM,yY] at h1 h2;subst h1 h2;rw[zTm];have h3:MF Tryz.prog 9 w2 b0 0 fun _=>none:=hm1.jL (hg2.block b0 hm1.lt fun e=>AE b0 (xP h.blocks e.symm) rfl);exact(h3.jL (zS w2 ⟨S.a,4,none⟩ _ b0 (h3.ne AA))).mono (zW _)
  | succ kk=>
   have AB:=yB (i:=kk) h2;exact k.maps kk b y (AC (h.of_map b AB).2.1 fun e=>(h.VI b e).2.2.2 AB) h1 h2
 ·intro b hb
  rcases List.mem_cons.1 hb with rfl | hb
  ·exact Nat.le_trans h.low h0
  ·exact h.own b hb
 ·rw[List.nodup_cons];refine⟨fun hb=>?_,h.nodup⟩;obtain⟨n,f,hf⟩:=h.zGL hb
  have:=hf.lt
  omega
theorem NB.pop {w:World}{S:StN}{s:Nr}{R:DyN}(h:NB w S s R)(x:List Vr)(rest:List (List Vr))(hb:s.blocks=x::rest) :
  NB (w.setCell ⟨S.a,4,none⟩ (.slice R.Ab rest.length R.cb)) S { s with blocks:=s.blocks.tail } { R with bm:=R.bm.tail } ∧
  xC w (xL S R) (w.setCell ⟨S.a,4,none⟩ (.slice R.Ab rest.length R.cb)) (xL S { R with bm:=R.bm.tail }):=by
 obtain⟨k,hm⟩:=h.kept (G:=fun b=>b=S.a) (fun g e _=>.inl e) (JL w S.a 4 (.slice R.Ab rest.length R.cb));obtain⟨n1,n2,n3⟩:=h.apart
 have AA:xC w (xL S R) (w.setCell ⟨S.a,4,none⟩ (.slice R.Ab rest.length R.cb)) (xL S { R with bm:=R.bm.tail }):=hm.less fun b hb=>by
  rcases hb with e | e | e | e | e | e
  ·exact .inl (.inl e)
  ·exact .inl (.inr (.inl e))
  ·exact .inl (.inr (.inr (.inl e)))
  ·exact .inl (.inr (.inr (.inr (.inl e))))
  ·exact .inl (.inr (.inr (.inr (.inr (.inl e)))))
  ·exact .inl (.inr (.inr (.inr (.inr (.inr (List.mem_of_mem_tail e))))))
 cases hbm:R.bm with
 | nil=>have:=h.bml; rw[hbm,hb] at this; cases this
 | cons b0 bs=>
  refine⟨⟨h.st.xE (by rw[←hbm]; exact AA),?_,k.of n1,h.len,k.pr (Ne.symm n3),h.pv,k.vars fun b e=>(h.VP b e).2.1,?_,?_,?_,?_,?_,h.few,k.low,h.vz⟩,by rw[←hbm]; exact AA⟩
  ·have:=h.rd.put 4 (.slice R.Ab rest.length R.cb)
   rw[show({ s with blocks:=s.blocks.tail }:Nr).blocks=rest by show s.blocks.tail=rest; rw[hb]; rfl]
   simpa using this
  ·have h1:=h.blocks;rw[hb,hbm,List.reverse_cons] at h1
   have h2:w.ownsRow S.B 201 1 (.slice R.Ab (rest.length+1) R.cb) (rest.length+1) (YL bs.reverse++[.map (some b0)]):=by simpa [YL] using h1
   obtain⟨b,e1,e2,_,_,h3⟩:=zRd h2
   have:=ZK (w':=w.setCell ⟨S.a,4,none⟩ (.slice R.Ab rest.length R.cb)) h3 fun b e=>zS w ⟨S.a,4,none⟩ _ b (h.VI b e).2.1
   rw[show({ s with blocks:=s.blocks.tail }:Nr).blocks=rest by show s.blocks.tail=rest; rw[hb]; rfl];exact this
  ·have:=h.bml
   rw[hb,hbm] at this;rw[show({ s with blocks:=s.blocks.tail }:Nr).blocks=rest by show s.blocks.tail=rest; rw[hb]; rfl]
   simpa using this
  ·intro kk b y h1 h2
   have h1:s.blocks[kk+1]?=some y:=by
    have h1:s.blocks.tail[kk]?=some y:=h1;rw[hb] at h1 ⊢;exact h1
   have h2:R.bm[kk+1]?=some b:=by rw[hbm]; exact h2
   exact k.maps (kk+1) b y (h.of_map b (yB h2)).2.1 h1 h2
  ·intro b AB;exact h.own b (by rw[hbm]; exact List.mem_cons_of_mem _ AB)
  ·have:=h.nodup
   rw[hbm,List.nodup_cons] at this;exact this.2
end Go.Proofs.YtbadjmmjbpeocaaGreat
namespace Go.Proofs.YtbadjmmjbpeocaaGreat
open Go Go.RowKit Go.Shelf
attribute [local go_sem] Oper.semAt_some
def idxs (n:Nat):Nat→List Nat
 | 0=>[]
 | k+1=>idxs n k++[n-1-k]
theorem zSp (n k:Nat):(idxs n k).length=k:=by
 induction k with
 | zero=>rfl
 | succ k ih=>unfold idxs; simp[ih]
theorem zKh (n k:Nat):idxs n (k+1)=idxs n k++[n-1-k]:=rfl
def atM (ms:List Nat)(i:Nat):Nat:=ms.getD i (ms.headD 0)
def zSQ (ms:List Nat)(i:Nat):Array Value:=#[.int .i64 (i:Int),.map (some (atM ms i))]
theorem zTI (F:Fence)(n:Nat)(h5:F.fn 121)(hro:F.round=none)(A:Option Addr)(len cap:Nat)(w:World) :
  CallsIn F n Tryz.prog 121 #[.slice A len cap] w fun e w'=>e=.returned (.func (.func 149) #[] #[.pointer (some ⟨w.heap.size,0,none⟩)])∧w'=w.alloc (.cells #[.slice A len cap] 113):=by
 refine callsIn_of_wp Tryz.func121 rfl h5 ?_ hro;simp only[Tryz.ntmps121,List.size_toArray,zK,zL,Nat.reduceAdd,Nat.reduceSub,Array.replicate_succ,Array.replicate_zero,List.push_toArray,List.append_toArray,List.nil_append,yC]
 gi_wp2
 go_ret;exact⟨rfl,rfl⟩
theorem zMh (ms:List Nat)(k:Nat)(h:k<ms.length):(YL ms)[k]?=some (.map (some ms[k])):=by simp[YL,h]
theorem zR9 (F:Fence)(n:Nat)(hf:F.fn 149)(hro:F.round=none)(hn:1≤n)(l Bs n₀:Nat)(A:Option Addr)(ns:List Nat)(cap:Nat)(hlen:ns.length≤100000)(hA:∀b AA,A=some ⟨b,AA,none⟩→0<ns.length→b<n₀)(J Jx:List Nat→World→Prop)
  (W:World) (hJa:AbidesFrom W.heap.size J) (hY:∀pre x W1,J pre W1→pre.length<ns.length→YieldAt F (n-1) Tryz.prog l (zSQ ns x) W1 fun e W'=>
   (e=.returned (.bool true)∧J (pre++[x]) W'∧Below n₀ W1 W')∨(e=.returned (.bool false)∧Jx (pre++[x]) W'))
  (hBs:W.cell? ⟨Bs,0,none⟩=some (.slice A ns.length cap)) (hBsl:Bs<n₀) (hc:Cells W A (YL ns)) (hn₀:n₀≤W.heap.size) (h0:J [] W) :
  CallsIn F n Tryz.prog 149 #[.func (.yield l) #[] #[],.pointer (some ⟨Bs,0,none⟩)] W fun e W'=>(∃v,e=.returned v) ∧
   ((∃ys,ys=idxs ns.length ns.length∧J ys W')∨(∃pre,(∃k,k<ns.length∧pre=idxs ns.length (k+1))∧Jx pre W')):=by
 refine callsIn_of_wp Tryz.func149 rfl hf ?_ hro;simp only[Tryz.ntmps149,List.size_toArray,zK,zL,Nat.reduceAdd,Nat.reduceSub,Array.replicate_succ,Array.replicate_zero,List.push_toArray,List.append_toArray,List.nil_append,yC]
 gi_wp2
 gi_loopw [3] (fun i wr=>∃m:Nat,m≤ns.length∧i=.int .i64 ((m:Int)-1)∧J (idxs ns.length (ns.length-m)) wr∧Below n₀ W wr)
  (fun i _=>(intOf i+1).toNat)
 case atStart=>exact⟨ns.length,zX _,rfl,by rw[Nat.sub_self]; exact h0,Below.refl _ _⟩
 case round=>
  obtain⟨m,hm,rfl,AE,AB⟩:=hrel;have AL:wr.cell? ⟨Bs,0,none⟩=some (.slice A ns.length cap):=(AB.cell (p:=⟨Bs,0,none⟩) hBsl).trans hBs
  cases m with
  | zero=>
   gi_wp2
   go_end0;exact⟨⟨_,rfl⟩,.inl ⟨_,rfl,AE⟩⟩
  | succ m=>
   have em:(((m+1:Nat):Int)-1)=(m:Int):=by omega
   rw[em]
   have AG:m<ns.length:=by omega
   obtain⟨b,AA,rfl,hb,AF⟩:=hc.at_ (by rw[zB8]; omega);have AK:=hA b AA rfl (by omega)
   have x0:wr.cell? ⟨b,AA+m,none⟩=some (.map (some ns[m])):=by
    rw[AB.cell (p:=⟨b,AA+m,none⟩) AK,AF _ (by rw[zB8]; omega)];exact zMh ns m AG
   obtain⟨fn,AJ,AC,AH,hy,hR⟩:=hY (idxs ns.length (ns.length-(m+1))) m _ AE (by rw[zSp]; omega)
   have hI:idxs ns.length (ns.length-(m+1))++[m]=idxs ns.length (ns.length-m):=by
    rw[show ns.length-m=(ns.length-(m+1))+1 from by omega]
    show _=idxs ns.length (ns.length-(m+1))++[ns.length-1-(ns.length-(m+1))]
    rw[show ns.length-1-(ns.length-(m+1))=m from by omega]
   rw[hI] at hR;unfold zSQ at hy;rw[show atM ns m=ns[m] from by unfold atM; simp[yH,AG]] at hy;generalize ns[m]=x at *;clear AF em
   have AN:decide ((m:Int) ≥ 0)=true:=by simp
   have AO:decide (0≤(m:Int))=true:=by simp
   have q1:(m:Int)<(ns.length:Int):=by omega
   gi_wp2
   refine hR.mono ?_;rintro e W3 (⟨rfl,AM,AI⟩ | ⟨rfl,AD⟩)
   ·gi_wp2
    go_roundw
    case rel=>exact⟨m,by omega,rfl,AM,AB.trans AI⟩
    case measure=>simp[intOf]
   ·gi_wp2
    refine bodyPost_ret (results_none rfl _ _ _) rfl ?_;exact⟨⟨_,rfl⟩,.inr ⟨_,⟨ns.length-(m+1),by omega,by rw[show ns.length-(m+1)+1=ns.length-m from by omega]⟩,AD⟩⟩
theorem zOY (F:Fence)(n:Nat)(hf:F.fn 149)(hro:F.round=none)(hn:1≤n)(Bs:Nat)(A:Option Addr)(ns:List Nat)(cap:Nat)(hlen:ns.length≤100000)(w:World)
  (hA:∀b off,A=some ⟨b,off,none⟩→0<ns.length→b<w.heap.size) (hBl:Bs<w.heap.size) (hBs:w.cell? ⟨Bs,0,none⟩=some (.slice A ns.length cap)) (hc:Cells w A (YL ns)) :
  SeqStopsK F n Tryz.prog 149 #[.pointer (some ⟨Bs,0,none⟩)] (zSQ ns) (Below w.heap.size) (fun ys=>ys=idxs ns.length ns.length) (fun pre=>∃k,k<ns.length∧pre=idxs ns.length (k+1)) ns.length w:=fun l J Jx W hW hJ _ hY h0=>
 zR9 F n hf hro hn l Bs w.heap.size A ns cap hlen hA J Jx W hJ hY ((hW.cell (p:=⟨Bs,0,none⟩) hBl).trans hBs) hBl (hc.ext hW) hW.size h0
theorem zLw {w:World}{A:Option Addr}{cs:List Value}(h:Cells w A cs)(hn:0<cs.length):∀b AA,A=some ⟨b,AA,none⟩→b<w.heap.size:=by
 intro b AA e;obtain⟨b',AB,h1,h2,_⟩:=h.at_ hn;rw[h1] at e;injection e with e;injection e with e;subst e;exact h2
attribute [local go_sem] Oper.semAt_some
theorem zSV {β:Type}(g:Nat)(t:TypeId)(cs:β→Array Value):Own (fun (s:β) W=>Blk W g t (cs s)):=fun s X Y row hs hg AA=>
 (hg.block g hs.lt fun e'=>by
  obtain⟨o,ho,hc⟩:=AA g e'.symm;rw[show X.heap[g]?=_ from hs] at ho
  cases ho
  cases hc).trans hs
def zFh (bl:List (List Vr))(name:Bs)(i:Nat):Option Vr:=(bl.getD i (bl.headD [])).find? fun v=>v.name==name
def zHc (bl:List (List Vr))(name:Bs):Option Vr:=bl.reverse.findSome? fun b=>b.find? fun v=>v.name==name
def zFY (o:Option Vr):Array Value:=match o with
 | none=>#[.int .i64 0,.bool false]
 | some v=>#[.int .i64 (v.n:Int),.bool v.loop]
theorem zSm (b:List Vr)(name:Bs):(vfV b name).getD (.agg #[.int .i64 0,.bool false])=.agg (zFY (b.find? fun v=>v.name==name)):=by
 unfold vfV
 cases b.find? (fun v=>v.name==name) <;> rfl
theorem zSr (b:List Vr)(name:Bs):(vfV b name).isSome=(b.find? fun v=>v.name==name).isSome:=by
 unfold vfV
 cases b.find? (fun v=>v.name==name) <;> rfl
theorem zDL {α:Type}(l:List α)(d:α)(i:Nat)(h:i<l.length):l.reverse.getD i d=l.getD (l.length-1-i) d:=by
 rw[yH,yH,List.getElem?_reverse h]
theorem zJs {α β:Type}{f:α→Option β}{l:List α}(d:α)(h:∀i,i<l.length→f (l.getD i d)=none):l.findSome? f=none:=by
 rw[List.findSome?_eq_none_iff];intro x hx;obtain⟨i,hi,rfl⟩:=List.getElem_of_mem hx
 have:=h i hi
 rwa [yH,yJ hi] at this
theorem zGT {α β:Type}{f:α→Option β}(d:α):∀ {l:List α} (k:Nat) {b:β},k<l.length→(∀i,i<k→f (l.getD i d)=none)→f (l.getD k d)=some b→l.findSome? f=some b
 | [],k,b,hk,_,_=>by simp at hk
 | x::l,0,b,hk,h,hb=>by
  rw[List.findSome?_cons,show f x=some b from hb]
 | x::l,k+1,b,hk,h,hb=>by
  rw[List.findSome?_cons,show f x=none from h 0 (by omega)];exact zGT d k (by simpa using hk) (fun i hi=>h (i+1) (by omega)) hb
theorem zIo (n:Nat):∀(k i:Nat),k≤n→i<k→n-1-i ∈ idxs n k
 | 0,i,h1,h2=>by omega
 | k+1,i,h1,h2=>by
  rw[zKh]
  by_cases h:i=k
  ·rw[h]; simp
  ·exact List.mem_append_left _ (zIo n k i (by omega) (by omega))
theorem zOU {bl:List (List Vr)}{name:Bs}{n:Nat}(hn:bl.length=n)(h:∀i ∈ idxs n n,zFh bl name i=none):zHc bl name=none:=by
 subst hn;refine zJs (bl.headD []) fun i hi=>?_;rw[List.length_reverse] at hi;rw[zDL _ _ _ hi];exact h _ (zIo _ _ _ (zX _) hi)
theorem zOx {bl:List (List Vr)}{name:Bs}{n:Nat}(hn:bl.length=n)(k:Nat)(hk:k<n)(h:∀i ∈ idxs n k,zFh bl name i=none){v:Vr}(hv:zFh bl name (n-1-k)=some v):zHc bl name=some v:=by
 subst hn;refine zGT (bl.headD []) k (by rw[List.length_reverse]; exact hk) (fun i hi=>?_) ?_
 ·rw[zDL _ _ _ (by omega)];exact h _ (zIo _ _ _ (by omega) hi)
 ·rw[zDL _ _ _ hk];exact hv
theorem zDP {w w':World}{N M:Nat}(h:Below N w w')(hM:M≤N):Below M w w':=⟨h.os,h.tape,h.output,h.size,fun b hb=>h.block b (yU hb hM)⟩
theorem zSl (F:Fence)(n:Nat)(hf:F.fn 87)(hf1:F.fn 121)(hf2:F.fn 149)(hro:F.round=none)(hn:3≤n)(a:Nat)(ms:List Nat)(A:Option Addr)(cap:Nat)(bl:List (List Vr))(m:Nat)(name:Bs)(w:World)
  (h4:w.cell? ⟨a,4,none⟩=some (.slice A ms.length cap)) (ha:a<w.heap.size) (hc:Cells w A (YL ms)) (hlen:ms.length≤100000) (hbl:bl.length=ms.length)
  (hm:∀(k b:Nat) (x:List Vr),bl[k]?=some x→ms[k]?=some b→MF Tryz.prog 9 w b m (vfV x)) (hnm:name.length≤maxLen) :
  CallsIn F n Tryz.prog 87 #[.pointer (some ⟨a,0,none⟩),.string (xG name)] w fun e w'=>e=.returned (.tuple #[.agg (zFY (zHc bl name)),.bool (zHc bl name).isSome])∧Below w.heap.size w w':=by
 have h1:1≤n:=by omega
 refine callsIn_of_wp_marks Tryz.func87 rfl hf ?_ hro;simp only[Tryz.ntmps87,List.size_toArray,zK,zL,Nat.reduceAdd,Nat.reduceSub,Array.replicate_succ,Array.replicate_zero,List.push_toArray,List.append_toArray,List.nil_append,yC];have c4:(((w.alloc (.cells #[.string (xG name)] 9)).alloc (.cells #[.int .i64 0,.bool false] 169)).alloc (.cells #[.bool false] 4)).cell? ⟨a,4,none⟩=some (.slice A ms.length cap):=((((Ext.alloc _ _).trans (Ext.alloc _ _)).trans (Ext.alloc _ _)).cell (p:=⟨a,4,none⟩) ha).trans h4
 gi_wp2_with (gi_at_call 121; refine(zTI F (n-1) hf1 hro _ _ _ _).mono ?_; rintro e w' ⟨rfl,rfl⟩)
 obtain⟨W0,AG⟩:∃W0,(((w.alloc (.cells #[.string (xG name)] 9)).alloc (.cells #[.int .i64 0,.bool false] 169)).alloc (.cells #[.bool false] 4)).alloc (.cells #[.slice A ms.length cap] 113)=W0:=⟨_,rfl⟩
 have Ah:W0.heap.size=w.heap.size+4:=by rw[←AG]; simp
 have bP:Boxed W0 w.heap.size 9 (.string (xG name)):=by
  rw[←AG];exact((Boxed.new w 9 (.string (xG name))).alloc (.cells #[.int .i64 0,.bool false] 169)).alloc (.cells #[.bool false] 4) |>.alloc (.cells #[.slice A ms.length cap] 113)
 have bV:Blk W0 (w.heap.size+1) 169 #[.int .i64 0,.bool false]:=by
  rw[←AG]
  have:=((Blk.new (w.alloc (.cells #[.string (xG name)] 9)) 169 #[.int .i64 0,.bool false]).alloc (.cells #[.bool false] 4)).alloc (.cells #[.slice A ms.length cap] 113)
  rwa [yT] at this
 have bR:Boxed W0 (w.heap.size+1+1) 4 (.bool false):=by
  rw[←AG]
  have:=(Boxed.new ((w.alloc (.cells #[.string (xG name)] 9)).alloc (.cells #[.int .i64 0,.bool false] 169)) 4 (.bool false)).alloc (.cells #[.slice A ms.length cap] 113)
  rwa [yT,yT] at this
 have bN:Boxed W0 (w.heap.size+1+1+1) 113 (.slice A ms.length cap):=by
  rw[←AG]
  have:=Boxed.new (((w.alloc (.cells #[.string (xG name)] 9)).alloc (.cells #[.int .i64 0,.bool false] 169)).alloc (.cells #[.bool false] 4)) 113 (.slice A ms.length cap)
  rwa [yT,yT,yT] at this
 have AH:Below w.heap.size w W0:=by rw[←AG]; exact((((Below.refl _ w).alloc (zX _) _).alloc (by simp) _).alloc (by simp; omega) _).alloc (by simp; omega) _
 clear c4;rw[AG];have AO:Cells W0 A (YL ms):=hc.ext AH;have hA:∀b AN,A=some ⟨b,AN,none⟩→0<ms.length→b<W0.heap.size:=fun b AN e h0=>zLw AO (by rw[zB8]; omega) b AN e
 have Ad:∀(x:Nat) (W:World),0<ms.length→Below W0.heap.size W0 W→MF Tryz.prog 9 W (atM ms x) m (vfV (bl.getD x (bl.headD []))):=fun x W h0 hB=>by
  have hx:∃y,y<ms.length∧ms.getD x (ms.headD 0)=ms.getD y 0∧bl.getD x (bl.headD [])=bl.getD y []:=by
   by_cases hx:x<ms.length
   ·refine⟨x,hx,?_,?_⟩
    ·rw[yH,yH,yJ hx]; rfl
    ·rw[yH,yH,yJ (by omega)]; rfl
   ·refine⟨0,h0,?_,?_⟩
    ·rw[yH,zM (by omega)]
     cases ms with
     | nil=>simp at h0
     | cons y ys=>rfl
    ·rw[yH,zM (by omega)]
     cases bl with
     | nil=>simp at hbl; omega
     | cons y ys=>rfl
  obtain⟨y,hy,e1,e2⟩:=hx;unfold atM;rw[e1,e2]
  have AS:y<bl.length:=by omega
  have e3:ms.getD y 0=ms[y]:=by rw[yH,yJ hy]; rfl
  have e4:bl.getD y []=bl[y]:=by rw[yH,yJ AS]; rfl
  rw[e3,e4]
  have:=hm y ms[y] bl[y] (yJ AS) (yJ hy)
  exact this.ext (AH.trans (Below.mono hB (by omega)))
 refine wpIn_rangeFunc_ownH hro h1 (gf:=149) (lb:=#[.pointer (some ⟨w.heap.size+1+1+1,0,none⟩)]) rfl hf2 (enters_of Tryz.func149 (by kernel_rfl) rfl)
  (zOY F (n-1) hf2 hro (by omega) (w.heap.size+1+1+1) A ms cap hlen W0 hA (by omega) bN.cell AO) belowK_t (belowK_b (zX _)) (Below.refl _ _) (fun _=>rfl)
  (fun pre W=>(∀y ∈ pre,zFh bl name y=none)∧Below W0.heap.size W0 W)
  (fun c pre W=>((c=.ret∧∃AC x v,pre=AC++[x]∧(∀y ∈ AC,zFh bl name y=none)∧zFh bl name x=some v)∧Blk W (w.heap.size+1) 169 (zFY (zFh bl name (pre.getLastD 0)))∧Boxed W (w.heap.size+1+1) 4 (.bool true))∧Below w.heap.size w W)
  (OwnFrom.and (ownFrom_pure _ _) (ownFrom_below (zX _) (zX _)))
  (fun c=>OwnFrom.and (OwnFrom.and (ownFrom_pure _ _) (OwnFrom.and (Own.from (zSV (w.heap.size+1) 169 (fun pre:List Nat=>zFY (zFh bl name (pre.getLastD 0)))) _) (Own.from (boxed_own (w.heap.size+1+1) 4 (fun _:List Nat=>.bool true)) _))) (ownFrom_below (zX _) (by omega)))
  ⟨by simp,Below.refl _ _⟩
  (fun x a' W=>a' = { tmps:=#[.pointer (some ⟨a,0,none⟩),.string (xG name),undef,.pointer (some ⟨w.heap.size,0,none⟩),.pointer (some ⟨w.heap.size+1,0,none⟩),.pointer (some ⟨w.heap.size+1+1,0,none⟩),undef,.map (some (atM ms x)),undef,undef,.pointer (some ⟨a,0,none⟩),.pointer (some ⟨a,0,none⟩),.pointer (some ⟨a,4,none⟩),.slice A ms.length cap,.func (.func 149) #[] #[.pointer (some ⟨w.heap.size+1+1+1,0,none⟩)],.int .i64 (x:Int),.map (some (atM ms x)),undef,undef,undef,undef,undef,undef,undef,undef,undef],defers:=[] })
  (fun x a'=>ownFrom_pure _ _) ?assign ?body ?done ?stop
 case assign=>
  rintro l pre x W K ⟨hp,hB⟩ hK;unfold zSQ
  gi_wp2
  exact hK _ _ (KeepsFrom.refl _ _) (Below.refl _ _) ⟨hp,hB⟩ rfl
 case body=>
  rintro l pre x a' W hl AY ⟨hp,hB⟩ rfl Ag;have Ae:=Ad x W (by omega) hB;have AF:=Ae.get (t:=201) (e:=169) (z:=.agg #[.int .i64 0,.bool false]) Tryz.underlying9 Tryz.underlying201 (by rfl) name hnm;rw[zSm,zSr] at AF;have AU:Boxed W w.heap.size 9 (.string (xG name)):=(hB.block _ (by omega)).trans bP;have AA:Blk W (w.heap.size+1) 169 #[.int .i64 0,.bool false]:=(hB.block _ (by omega)).trans bV;have AD:Boxed W (w.heap.size+1+1) 4 (.bool false):=(hB.block _ (by omega)).trans bR;have AL:Below w.heap.size w W:=Below.trans AH (Below.mono hB AH.size);have cp:=AU.cell;have cr:=AD.cell;have fr:=AD.frozen;have AX:=AA.cell 0;have Aa:=AA.cell 1;have Ab:=AA.frozen 0;have AT:=AA.frozen 1
  have l0:w.heap.size<W.heap.size:=by have:=hB.size; omega
  have l1:w.heap.size+1<W.heap.size:=by have:=hB.size; omega
  have l2:w.heap.size+1+1<W.heap.size:=by have:=hB.size; omega
  have Ai:w.heap.size+4≤W.heap.size:=by have:=hB.size; omega
  generalize hmb:atM ms x=mb at *
  cases hq:zFh bl name x with
  | some v=>
   have e1:(bl.getD x (bl.headD [])).find? (fun v=>v.name==name)=some v:=hq;rw[e1] at AF;unfold zFY at AF;simp only[Option.isSome_some] at AF
   gi_wp2
   have Af:zFh bl name ((pre++[x]).getLastD 0)=some v:=by rw[List.getLastD_concat]; exact hq
   have AB:=(((AA.put 0 (.int .i64 (v.n:Int))).put 1 (.bool v.loop)).far (p:=⟨w.heap.size+1+1,0,none⟩) (by simp) (.bool true)).alloc (.cells #[.int .i64 (v.n:Int),.bool v.loop] 169)
   have AE:Boxed ((((W.setCell ⟨w.heap.size+1,0,none⟩ (.int .i64 (v.n:Int))).setCell ⟨w.heap.size+1,1,none⟩ (.bool v.loop)).setCell ⟨w.heap.size+1+1,0,none⟩ (.bool true)).alloc (.cells #[.int .i64 (v.n:Int),.bool v.loop] 169)) (w.heap.size+1+1) 4 (.bool true):=by
    have hb:Blk W (w.heap.size+1+1) 4 #[.bool false]:=AD;exact(((hb.far (p:=⟨w.heap.size+1,0,none⟩) (by simp) (.int .i64 (v.n:Int))).far (p:=⟨w.heap.size+1,1,none⟩) (by simp) (.bool v.loop)).put 0 (.bool true)).alloc (.cells #[.int .i64 (v.n:Int),.bool v.loop] 169)
   have AP:Below w.heap.size w (((W.setCell ⟨w.heap.size+1,0,none⟩ (.int .i64 (v.n:Int))).setCell ⟨w.heap.size+1,1,none⟩ (.bool v.loop)).setCell ⟨w.heap.size+1+1,0,none⟩ (.bool true)):=
    ((AL.setCell (p:=⟨w.heap.size+1,0,none⟩) (by show w.heap.size≤w.heap.size+1; omega) _).setCell (p:=⟨w.heap.size+1,1,none⟩) (by show w.heap.size≤w.heap.size+1; omega) _).setCell (p:=⟨w.heap.size+1+1,0,none⟩) (by show w.heap.size≤w.heap.size+1+1; omega) _
   refine⟨((((KeepsOthers.setCell _ _ _).trans (KeepsOthers.setCell _ _ _)).trans (KeepsOthers.setCell _ _ _)).trans (KeepsOthers.alloc _ _)).from _,⟨⟨rfl,pre,x,v,rfl,hp,hq⟩,?_,AE⟩,AP.trans (zDP (Ext.alloc _ _) AP.size)⟩;rw[Af];exact AB
  | none=>
   have e1:(bl.getD x (bl.headD [])).find? (fun v=>v.name==name)=none:=hq;rw[e1] at AF;unfold zFY at AF;simp only[Option.isSome_none] at AF
   gi_wp2
   exact⟨(KeepsOthers.alloc _ _).from _,zDP (Ext.alloc _ _) hB.size,fun y hy=>(List.mem_append.1 hy).elim (hp y) (fun e=>by rw[List.mem_singleton.1 e]; exact hq),hB.trans (zDP (Ext.alloc _ _) hB.size)⟩
 case done=>
  rintro D ys W hD rfl ⟨hp,hB⟩ hK;have AA:Blk W (w.heap.size+1) 169 #[.int .i64 0,.bool false]:=(hB.block _ (by omega)).trans bV;have AD:Boxed W (w.heap.size+1+1) 4 (.bool false):=(hB.block _ (by omega)).trans bR;have AL:Below w.heap.size w W:=Below.trans AH (Below.mono hB AH.size);have AM:=zOU hbl hp;have cr:=AD.cell;have fr:=AD.frozen;have AX:=AA.cell 0;have Aa:=AA.cell 1;have Ab:=AA.frozen 0;have AT:=AA.frozen 1
  gi_wp2
  have AB:=((AA.put 0 (.int .i64 0)).put 1 (.bool false)).far (p:=⟨w.heap.size+1+1,0,none⟩) (by simp) (.bool false)
  have AE:Boxed (((W.setCell ⟨w.heap.size+1,0,none⟩ (.int .i64 0)).setCell ⟨w.heap.size+1,1,none⟩ (.bool false)).setCell ⟨w.heap.size+1+1,0,none⟩ (.bool false)) (w.heap.size+1+1) 4 (.bool false):=by
   have hb:Blk W (w.heap.size+1+1) 4 #[.bool false]:=AD;exact((hb.far (p:=⟨w.heap.size+1,0,none⟩) (by simp) (.int .i64 0)).far (p:=⟨w.heap.size+1,1,none⟩) (by simp) (.bool false)).put 0 (.bool false)
  have AZ:Below w.heap.size w (((W.setCell ⟨w.heap.size+1,0,none⟩ (.int .i64 0)).setCell ⟨w.heap.size+1,1,none⟩ (.bool false)).setCell ⟨w.heap.size+1+1,0,none⟩ (.bool false)):=
   ((AL.setCell (p:=⟨w.heap.size+1,0,none⟩) (by show w.heap.size≤w.heap.size+1; omega) _).setCell (p:=⟨w.heap.size+1,1,none⟩) (by show w.heap.size≤w.heap.size+1; omega) _).setCell (p:=⟨w.heap.size+1+1,0,none⟩) (by show w.heap.size≤w.heap.size+1+1; omega) _
  have AI:=(((KeepsOthers.setCell W ⟨w.heap.size+1,0,none⟩ (.int .i64 0)).trans (KeepsOthers.setCell _ ⟨w.heap.size+1,1,none⟩ (.bool false))).trans (KeepsOthers.setCell _ ⟨w.heap.size+1+1,0,none⟩ (.bool false))).same D _ hK rfl;refine⟨by simp,.inl ⟨_,_,rfl,run_takeDeferred AI,?_⟩⟩;have k0:=cell_kept (AB.cell 0) (grownBy_putObj' _ D (.deferred none)) (fun r e=>by cases e; exact⟨_,AI,rfl⟩);have k1:=cell_kept (AB.cell 1) (grownBy_putObj' _ D (.deferred none)) (fun r e=>by cases e; exact⟨_,AI,rfl⟩);have k2:=cell_kept AE.cell (grownBy_putObj' _ D (.deferred none)) (fun r e=>by cases e; exact⟨_,AI,rfl⟩);refine⟨.tuple #[.agg #[.int .i64 0,.bool false],.bool false],?_,by rw[AM]; rfl,AZ.trans (belowK_b (w:=w) (zX _) _ D _ _ (by omega) AI rfl rfl)⟩
  have Ac:(((((W.setCell ⟨w.heap.size+1,0,none⟩ (.int .i64 0)).setCell ⟨w.heap.size+1,1,none⟩ (.bool false)).setCell ⟨w.heap.size+1+1,0,none⟩ (.bool false))).putObj D (.deferred none)).cell? ⟨w.heap.size+1,0,none⟩=some (.int .i64 0):=by rw[k0]; simp
  have AV:(((((W.setCell ⟨w.heap.size+1,0,none⟩ (.int .i64 0)).setCell ⟨w.heap.size+1,1,none⟩ (.bool false)).setCell ⟨w.heap.size+1+1,0,none⟩ (.bool false))).putObj D (.deferred none)).cell? ⟨w.heap.size+1,1,none⟩=some (.bool false):=by rw[k1]; simp
  simp[results,Tryz.f87,go_sem,Ac,AV,k2]
 case stop=>
  rintro D c pre W hD ⟨k,hk,AK⟩ ⟨⟨⟨rfl,AC,x,v,AR,AW,AQ⟩,AA,AD⟩,hB⟩ hK
  have AJ:AC=idxs ms.length k∧x=ms.length-1-k:=by
   rw[AR,zKh] at AK
   have:=List.append_inj' AK rfl
   exact⟨this.1,by simpa using this.2⟩
  obtain⟨rfl,rfl⟩:=AJ;have AM:=zOx hbl k hk AW AQ;rw[AR,List.getLastD_concat,AQ] at AA
  gi_wp2
  refine⟨by simp,.inl ⟨_,_,rfl,run_takeDeferred hK,?_⟩⟩;have k0:(W.putObj D (.deferred none)).cell? ⟨w.heap.size+1,0,none⟩=some (.int .i64 (v.n:Int)):=cell_kept (AA.cell 0) (grownBy_putObj' _ D (.deferred none)) (fun r e=>by cases e; exact⟨_,hK,rfl⟩);have k1:(W.putObj D (.deferred none)).cell? ⟨w.heap.size+1,1,none⟩=some (.bool v.loop):=cell_kept (AA.cell 1) (grownBy_putObj' _ D (.deferred none)) (fun r e=>by cases e; exact⟨_,hK,rfl⟩);have k2:=cell_kept AD.cell (grownBy_putObj' _ D (.deferred none)) (fun r e=>by cases e; exact⟨_,hK,rfl⟩);refine⟨.tuple #[.agg #[.int .i64 (v.n:Int),.bool v.loop],.bool true],?_,by rw[AM]; rfl,hB.trans (belowK_b (w:=w) (zX _) W D _ _ (by omega) hK rfl rfl)⟩;simp[results,Tryz.f87,go_sem,k0,k1,k2]
theorem zQ1 (a:Nat)(ms:List Nat)(A:Option Addr)(cap:Nat)(bl:List (List Vr))(m:Nat)(name:Bs)(w:World)
  (h4:w.cell? ⟨a,4,none⟩=some (.slice A ms.length cap)) (ha:a<w.heap.size) (hc:Cells w A (YL ms)) (hlen:ms.length≤100000) (hbl:bl.length=ms.length)
  (hm:∀(k b:Nat) (x:List Vr),bl[k]?=some x→ms[k]?=some b→MF Tryz.prog 9 w b m (vfV x)) (hnm:name.length≤maxLen) :
  Calls Tryz.prog 87 #[.pointer (some ⟨a,0,none⟩),.string (xG name)] w fun e w'=>e=.returned (.tuple #[.agg (zFY (zHc bl name)),.bool (zHc bl name).isSome])∧Ext w w':=
 (callsIn_wide (n:=9)).1 (zSl Fence.wide 9 trivial trivial trivial rfl (by omega) a ms A cap bl m name w h4 ha hc hlen hbl hm hnm)
end Go.Proofs.YtbadjmmjbpeocaaGreat
