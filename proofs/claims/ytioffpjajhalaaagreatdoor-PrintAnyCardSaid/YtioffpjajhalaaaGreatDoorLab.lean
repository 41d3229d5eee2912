/- Words for memory that the walks share: a slice value that reads as a list of cells; a block that is known whole; an append onto a row of the call's own, whatever the source. (and what follows of it). The conditions stand at each lemma. -/
import Derived.Test.YtioffpjajhalaaaGreatDoorLaa
import Derived.Test.YtioffpjajhalaaaGreatDoorChecked
import Derived.Lib.Hide
import Derived.WalkKit
import Derived.ProofKit
import Derived.Handy
import Derived.WalkSpells
import Derived.LoopTactic
import Derived.LoopN
import Derived.OwnWalk
import Derived.Maps.AppendAt
import Derived.Laws.Tables
import Derived.Laws.Rows
import Derived.Laws.AppendOwnNone
import Derived.Deep.AppendLies
import Derived.Outline
import Init
import Derived.Lib.Strings
import Derived.Lib.Slices
import Derived.Lib.Walk
import Derived.Lib.Bytealg
import Derived.Lib.BytesEntry
import Derived.Deep.QuietTactic
import Derived.Deep.LoopGhost
import Derived.BigQuiet
import Derived.Laws.BytesArg
set_option linter.unusedVariables false
set_option linter.unusedSimpArgs false
set_option maxRecDepth 100000
set_option maxHeartbeats 16000000
namespace Go.Proofs.YtioffpjajhalaaaGreatDoor
open Go Go.RowKit
theorem zEd {k:IntKind}{a b:Int}(h:a=b):Ending.returned (.int k a)=.returned (.int k b):=by rw[h]
theorem zCa {a b:Bool}(h:a=b):Ending.returned (.bool a)=.returned (.bool b):=by rw[h]
def Cells (w:World)(A:Option Addr)(cs:List Value):Prop:=
 cs=[]∨∃b off,A=some ⟨b,off,none⟩∧b<w.heap.size∧∀k,k<cs.length→w.cell? ⟨b,off+k,none⟩=cs[k]?
section
variable {w w':World} {A:Option Addr} {cs:List Value}
theorem Cells.nil (w:World)(A:Option Addr):Cells w A []:=.inl rfl
theorem Cells.JX (h:Cells w A cs)(hs:w.heap.size≤w'.heap.size)(hc:∀p:Addr,p.block<w.heap.size→w'.cell? p=w.cell? p):Cells w' A cs:=by
 rcases h with h | ⟨b,AA,hA,hb,hk⟩
 ·exact .inl h
 ·exact .inr ⟨b,AA,hA,yR hb hs,fun k AB=>(hc ⟨b,AA+k,none⟩ hb).trans (hk k AB)⟩
theorem Cells.ext (h:Cells w A cs)(hx:Ext w w'):Cells w' A cs:=h.JX hx.size fun p hp=>hx.cell hp
theorem Cells.below {B:Nat}(h:Cells w A cs)(hB:∀b AA,A=some ⟨b,AA,none⟩→b<B)(hx:Below B w w'):Cells w' A cs:=by
 rcases h with h | ⟨b,AA,hA,hb,hk⟩
 ·exact .inl h
 ·exact .inr ⟨b,AA,hA,yR hb hx.size,fun k AB=>(hx.cell (p:=⟨b,AA+k,none⟩) (hB b AA hA)).trans (hk k AB)⟩
theorem Cells.at_ (h:Cells w A cs)(hn:0<cs.length):∃b off,A=some ⟨b,off,none⟩∧b<w.heap.size∧∀k,k<cs.length→w.cell? ⟨b,off+k,none⟩=cs[k]?:=by
 rcases h with rfl | h
 ·simp at hn
 ·exact h
theorem Cells.new (w:World)(t:TypeId)(cs:Array Value):Cells (w.alloc (.cells cs t)) (some ⟨w.heap.size,0,none⟩) cs.toList:=by
 refine .inr ⟨w.heap.size,0,rfl,by simp,fun k hk=>?_⟩;rw[Nat.zero_add,(Blk.new w t cs).cell k]
 simp
theorem Cells.own {base e size n c:Nat}(h:w.ownsRow base e size (.slice A n c) n cs):Cells w A cs:=by
 rcases h.2 with ⟨hv,hn⟩ | ⟨g,cap,AA,hv,_,hg,_,_,_,_⟩
 ·left
  have:=h.1
  rw[hn,Nat.zero_mul] at this;exact List.eq_nil_of_length_eq_zero this
 ·right
  have hA:A=some ⟨g,0,none⟩:=by injection hv
  have hc:c=cap:=by injection hv
  subst hA hc;refine⟨g,0,rfl,(Array.getElem?_eq_some_iff.1 hg).1,fun k hk=>?_⟩;rw[Nat.zero_add,h.cellAt k (by rw[←h.1]; exact hk)]
end
section
variable {w w':World} {g:Nat} {t:TypeId} {cs:Array Value}
theorem Blk.frozen (h:Blk w g t cs)(i:Nat):w.frozen? ⟨g,i,none⟩=false:=by
 unfold Blk at h;simp[World.frozen?,h]
theorem Blk.differ {g':Nat}{t':TypeId}{cs':Array Value}(h:Blk w g t cs)(h':Blk w g' t' cs')(hne:t≠t'):g≠g':=by
 rintro rfl;unfold Blk at h h';rw[h] at h';injection h' with h';injection h' with _ ht;exact hne ht
theorem Blk.put (h:Blk w g t cs)(i:Nat)(u:Value):Blk (w.setCell ⟨g,i,none⟩ u) g t (cs.setIfInBounds i u):=by
 unfold Blk at h ⊢;simp[World.setCell,Array.getElem?_modify,h]
theorem Blk.far (h:Blk w g t cs){p:Addr}(hp:g≠p.block)(u:Value):Blk (w.setCell p u) g t cs:=(zQ w p u g hp).trans h
theorem Blk.grown {row:Option Nat}(h:Blk w g t cs)(hb:w.grownBy w' row)(hg:some g≠row):Blk w' g t cs:=(hb.block g h.lt hg).trans h
theorem Blk.alloc (h:Blk w g t cs)(o:Obj):Blk (w.alloc o) g t cs:=h.ext (Ext.alloc w o)
theorem Blk.below {B:Nat}(h:Blk w g t cs)(hb:Below B w w')(hg:g<B):Blk w' g t cs:=(hb.block g hg).trans h
theorem YX {base:Nat}{e:TypeId}{size n:Nat}{v:Value}{xs:List Value}(h:w.ownsRow base e size v n xs)(hg:Blk w g t cs)(hne:e≠t):v.ownBlock≠some g:=by
 rcases h.2 with ⟨rfl,_⟩ | ⟨g',AB,AA,rfl,_,hh,_⟩
 ·simp[Value.ownBlock]
 ·intro he
  have:g'=g:=by simpa [Value.ownBlock] using he
  subst this;exact Blk.differ (t:=e) hh hg hne rfl
theorem zNz {base:Nat}{e:TypeId}{size n:Nat}{v:Value}{xs:List Value}(h:w.ownsRow base e size v n xs){p:Addr}(hp:v.ownBlock≠some p.block)(u:Value):(w.setCell p u).ownsRow base e size v n xs:=by
 refine⟨h.1,?_⟩
 rcases h.2 with hn | ⟨g',AB,AA,rfl,hb,hh,r⟩
 ·exact .inl hn
 ·refine .inr ⟨g',AB,AA,rfl,hb,?_,r⟩;rw[zQ w p u g' (fun e=>hp (by rw[e]; rfl))];exact hh
theorem zCs {base:Nat}{e:TypeId}{size n:Nat}{v:Value}{xs:List Value}(h:w.ownsRow base e size v n xs)(hx:Ext w w'):w'.ownsRow base e size v n xs:=by
 refine⟨h.1,?_⟩
 rcases h.2 with hn | ⟨g',AB,AA,rfl,hb,hh,r⟩
 ·exact .inl hn
 ·exact .inr ⟨g',AB,AA,rfl,hb,(hx.block g' (Array.getElem?_eq_some_iff.1 hh).1).trans hh,r⟩
end
structure Touch (g:Nat)(w w':World):Prop where
 os:w'.os=w.os
 tape:w'.tape=w.tape
 output:w'.output=w.output
 size:w'.heap.size=w.heap.size
 other:∀k,k≠g→w'.heap[k]?=w.heap[k]?
theorem Touch.below {g B:Nat}{w w':World}(h:Touch g w w')(hB:B≤g):Below B w w':=⟨h.os,h.tape,h.output,Nat.le_of_eq h.size.symm,fun k hk=>h.other k (by omega)⟩
theorem Touch.ext {g:Nat}{w0 w w':World}(h:Touch g w w')(hx:Ext w0 w)(hB:w0.heap.size≤g):Ext w0 w':=Below.trans hx (h.below hB)
theorem Touch.blk {g k:Nat}{w w':World}{t:TypeId}{cs:Array Value}(h:Touch g w w')(hb:Blk w k t cs)(hk:k≠g):Blk w' k t cs:=(h.other k hk).trans hb
theorem Touch.own {g:Nat}{w w':World}{base:Nat}{e:TypeId}{size n:Nat}{v:Value}{xs:List Value}(h:Touch g w w')(ho:w.ownsRow base e size v n xs)(hk:v.ownBlock≠some g):w'.ownsRow base e size v n xs:=by
 refine⟨ho.1,?_⟩
 rcases ho.2 with hn | ⟨g',AB,AA,rfl,hb,hh,r⟩
 ·exact .inl hn
 ·exact .inr ⟨g',AB,AA,rfl,hb,(h.other g' (fun e=>hk (by rw[e]; rfl))).trans hh,r⟩
theorem Touch.cells {g:Nat}{w w':World}{A:Option Addr}{cs:List Value}(h:Touch g w w')(hc:Cells w A cs)(hk:∀b AA,A=some ⟨b,AA,none⟩→b≠g):Cells w' A cs:=by
 rcases hc with hc | ⟨b,AA,hA,hb,AB⟩
 ·exact .inl hc
 ·refine .inr ⟨b,AA,hA,by rw[h.size]; exact hb,fun k AC=>?_⟩;rw[World.cell?_of_block (w:=w) (h.other b (hk b AA hA))];exact AB k AC
theorem zD3 (w:World)(g:Nat)(t:TypeId)(old cs:Array Value)(h:Blk w g t old):Touch g w (w.setRow g cs)∧Blk (w.setRow g cs) g t cs:=by
 unfold Blk at *;have AA:g<w.heap.size:=(Array.getElem?_eq_some_iff.1 h).1;refine⟨⟨rfl,rfl,rfl,by simp[World.setRow],fun k hk=>?_⟩,?_⟩
 ·simp[World.setRow,Array.getElem?_modify,Ne.symm hk]
 ·simp[World.setRow,Array.getElem?_modify,h]
theorem vF {P:Program}{ops:Array Oper}{rest:List Oper}{o:Oper}{a:Act}{w:World}{Q:Exit→Act→World→Prop}(hgd:o.guard=none)(ty:TypeId)(x y:Operand)(ho:o.op=.store ty x y)
  (g:Nat) (cells:Array Value) (hx:a.eval x=.pointer (some ⟨g,0,none⟩)) (hy:a.eval y=.agg cells)
  (t:TypeId) (old:Array Value) (hg:Blk w g t old) (hi:(P.info? ty).map (·.size)=some cells.size)
  (hold:old.size=cells.size) (h1:cells.toList.all (·.oneCell')=true)
  (h:∀w',Touch g w w'→Blk w' g t cells→wpList P ops Q rest (a.put o.dst undef) w'):wpList P ops Q (o::rest) a w:=
 wpList_store_row hgd ty x y ho g cells hx hy t old hg hi hold (by rw[←Array.all_toList]; exact h1) (h _ (zD3 w g t old cells hg).1 (zD3 w g t old cells hg).2)
theorem zAv {P:Program}{ops:Array Oper}{rest:List Oper}{o:Oper}{a:Act}{w:World}{Q:Exit→Act→World→Prop}(hgd:o.guard=none)(ty:TypeId)(x:Operand)(ho:o.op=.load ty x)
  (g:Nat) (hx:a.eval x=.pointer (some ⟨g,0,none⟩)) (t:TypeId) (cs:Array Value) (d:TypeDesc) (hg:Blk w g t cs)
  (hu:P.underlying ty=some d) (hd:(match d with | .struct _ | .array _ _=>true | _=>false)=true) (hi:(P.info? ty).map (·.size)=some cs.size)
  (h:wpList P ops Q rest (a.put o.dst (.agg cs)) w):wpList P ops Q (o::rest) a w:=
 wpList_load_row hgd ty x ho g hx t cs (0,0) d hg hu hd hi h
theorem zBh {P:Program}{fn:Func}{R:Ending→World→Prop}{a:Act}{w:World}{p:Tmp}{ty:TypeId}(g:Nat)(t:TypeId)(cs:Array Value)(d:TypeDesc)(h:fn.results=#[.cell p ty])(hd0:a.defers=[])
  (hp:a.tmps.getD p undef=.pointer (some ⟨g,0,none⟩)) (hb:Blk w g t cs) (hu:P.underlying ty=some d) (hd:(match d with | .struct _ | .array _ _=>true | _=>false)=true) (hi:(P.info? ty).map (·.size)=some cs.size)
  (hR:R (.returned (.agg cs)) w):bodyPost P fn R .ret a w:=
 bodyPost_ret (results_cell_row h a.tmps w g t cs (0,0) d hp hb hu hd hi) hd0 hR
theorem XP {P:Program}{w:World}{ops:Array Oper}{rest:List Oper}{o:Oper}{a:Act}{Q:Exit→Act→World→Prop}(hgd:o.guard=none)(s x:Operand)(t:TypeId)
  (ho:o.op=.call { callee:=.builtin .append,args:=#[s,x],argTypes:=#[t,t] })
  (base:Nat) (e:TypeId) (i:TypeInfo) (z:Value) (size bytes:Nat) (ht:P.underlying t=some (.slice e)) (hi:P.info? e=some i) (hz:i.zero=some z)
  (hsize:i.size=size) (hby:i.bytes=bytes) (hzs:z.cells.size=size) (hsz:0<size)
  (v:Value) (n:Nat) (xs:List Value) (hs:a.eval s=v) (hown:w.ownsRow base e size v n xs)
  (A:Option Addr) (m c:Nat) (news:List Value) (hx:a.eval x=.slice A m c) (hc0:A=none→c=0) (hl:news.length=m*size) (hr:Cells w A news) (h1:∀u ∈ news,u.oneCell'=true)
  (h63:n+m≤maxLen) (hbytes:(n+m)*bytes≤140737488355328) (hbase:base≤w.heap.size)
  (h:∀(A':Option Addr) (c':Nat) (w':World),(A'=none→c'=0)→w'.ownsRow base e size (.slice A' (n+m) c') (n+m) (xs++news)→w.grownBy w' v.ownBlock→wpList P ops Q rest (a.put o.dst (.slice A' (n+m) c')) w'):wpList P ops Q (o::rest) a w:=by
 have form:∀(v':Value) (w':World),w'.ownsRow base e size v' (n+m) (xs++news)→∃A' c',v'=.slice A' (n+m) c'∧(A'=none→c'=0):=by
  intro v' w' AB
  rcases AB.2 with ⟨hv,hn⟩ | ⟨g,AF,AG,hv,_⟩
  ·exact⟨none,0,by rw[hv,hn],fun _=>rfl⟩
  ·exact⟨some ⟨g,0,none⟩,AF,hv,fun h=>by cases h⟩
 have AC:∀(v':Value) (w':World),w'.ownsRow base e size v' (n+m) (xs++news)→w.grownBy w' v.ownBlock→wpList P ops Q rest (a.put o.dst v') w':=by
  intro v' w' AB AD;obtain⟨A',c',rfl,h0⟩:=form v' w' AB;exact h A' c' w' h0 AB AD
 cases A with
 | none=>
  have hc:=hc0 rfl;subst hc
  have AA:news=[]:=by
   rcases hr with hr | ⟨b,AE,hA,_⟩
   ·exact hr
   ·cases hA
  subst AA
  have hm:m=0:=by
   rcases Nat.eq_zero_or_pos m with h0 | h0
   ·exact h0
   ·have:0<m*size:=Nat.mul_pos h0 hsz
    simp at hl
    omega
  subst hm;refine wpList_append_own_none hgd s x t ho base e i size ht hi v n xs hs hown hx ?_;exact AC v w (by simpa using hown) (World.grownBy.refl w _)
 | some ad=>
  refine wpList_append_own w hgd s x t ho base e i z size bytes ht hi hz hsize hby hzs hsz v n xs hs hown ad m c news hx hl (fun j u hu=>?_) h1 h63 hbytes hbase fun v' w' h2 h3 _=>AC v' w' h2 h3
  rcases hr with hr | ⟨b,AE,hA,_,hk⟩
  ·subst hr; simp at hu
  ·injection hA with hA;subst hA;have hj:j<news.length:=(List.getElem?_eq_some_iff.1 hu).1
   have:=(hk j hj).trans hu
   unfold Addr.add
   by_cases h0:j=0
   ·subst h0; simpa using this
   ·simp only[h0,if_false]; exact this
end Go.Proofs.YtioffpjajhalaaaGreatDoor
namespace Go.Proofs.YtioffpjajhalaaaGreatDoor
abbrev Bs:=List UInt8
def vI (c:UInt8):Bool:=decide (97≤c.toNat)&&decide (c.toNat≤122)
def vP (c:UInt8):Bool:=decide (48≤c.toNat)&&decide (c.toNat≤57)
def YA (c:UInt8):Bool:=c==32||c==9||c==10||c==13
def YJ (c:UInt8):Bool:=vI c||vP c||c==95
def zQd:Bs:=[123,125,40,41,91,93,59,44,46,43,45,42,60,61]
def zFc (c:UInt8):Bool:=zQd.contains c
structure Tok where
 kind:Nat
 at_:Nat
 en:Nat
 text:Bs
 n:Int
 deriving DecidableEq
def zBr:Int→Bs→Option Int
 | n,[]=>some n
 | n,c::r=>if 2147483647<n*10+((c.toNat:Int)-48) then none else zBr (n*10+((c.toNat:Int)-48)) r
inductive Step where
 | fin
 | skip (k:Nat)
 | tok (kind k:Nat) (n:Int)
 | bad (e:Int)
 deriving DecidableEq
def zNb (r:Bs)(c:UInt8):Step:=
 match zBr 0 (c::r.takeWhile vP) with
 | none=>.bad 31
 | some n=>.tok 2 (1+(r.takeWhile vP).length) n
def JS (c:UInt8)(r:Bs):Step:=
 if YA c then .skip 1
 else if c==35 then .skip (1+(r.takeWhile fun x=>x != 10).length)
 else if vI c then .tok 1 (1+(r.takeWhile YJ).length) 0
 else if vP c then zNb r c
 else if c==61&&r.head?==some 61 then .tok 3 2 0
 else if zFc c then .tok 3 1 0
 else .bad 30
def step:Bs→Step
 | []=>.fin
 | c::r=>JS c r
inductive VS where
 | ok (l:List Tok)
 | err (at_:Nat) (e:Int)
 deriving DecidableEq
def VS.cons (t:Tok):VS→VS
 | .ok l=>.ok (t::l)
 | .err a e=>.err a e
def zDK:Nat→Nat→Bs→VS
 | 0,p,_=>.err p 0
 | f+1,p,s=>match step s with
  | .fin=>.ok [⟨4,p,p,[],0⟩]
  | .skip k=>zDK f (p+k) (s.drop k)
  | .tok kd k n=>(zDK f (p+k) (s.drop k)).cons ⟨kd,p,p+k,s.take k,n⟩
  | .bad e=>.err p e
def zAj (p:Nat)(s:Bs):VS:=zDK (s.length+1) p s
def Step.wide:Step→Nat→Prop
 | .fin,n=>n=0
 | .skip k,n=>1≤k∧k≤n
 | .tok _ k _,n=>1≤k∧k≤n
 | .bad _,n=>1≤n
theorem zKL {α:Type}(p:α→Bool)(l:List α):(l.takeWhile p).length≤l.length:=(List.takeWhile_prefix p).length_le
theorem zCh (s:Bs):(step s).wide s.length:=by
 cases s with
 | nil=>exact rfl
 | cons c r=>
  show(JS c r).wide (r.length+1)
  unfold JS
  split
  ·exact⟨by omega,by omega⟩
  ·split
   ·have:=zKL (fun x:UInt8=>x != 10) r; exact⟨by omega,by omega⟩
   ·split
    ·have:=zKL YJ r; exact⟨by omega,by omega⟩
    ·split
     ·unfold zNb
      split
      ·exact Nat.le_add_left ..
      ·have:=zKL vP r; exact⟨by omega,by omega⟩
     ·split
      ·rename_i h
       cases r with
       | nil=>simp at h
       | cons d r=>exact⟨by omega,by simp⟩
      ·split
       ·exact⟨by omega,by omega⟩
       ·exact Nat.le_add_left ..
theorem zDa:∀(f g p:Nat) (s:Bs),s.length<f→s.length<g→zDK f p s=zDK g p s
 | 0,_,_,_,h,_=>absurd h (by omega)
 | _,0,_,_,_,h=>absurd h (by omega)
 | f+1,g+1,p,s,hf,hg=>by
  have hw:=zCh s;unfold zDK
  cases hs:step s with
  | fin=>rfl
  | bad e=>rfl
  | skip k=>
   rw[hs] at hw;have h1:1≤k:=hw.1;have h2:k≤s.length:=hw.2;exact zDa f g _ _ (by simp; omega) (by simp; omega)
  | tok kd k n=>
   rw[hs] at hw;have h1:1≤k:=hw.1;have h2:k≤s.length:=hw.2
   show VS.cons _ _=VS.cons _ _
   rw[zDa f g _ _ (by simp; omega) (by simp; omega)]
theorem zQJ (p:Nat):zAj p []=.ok [⟨4,p,p,[],0⟩]:=rfl
theorem zES {p k:Nat}{s:Bs}(h:step s=.skip k):zAj p s=zAj (p+k) (s.drop k):=by
 have hw:=zCh s;rw[h] at hw;have h1:1≤k:=hw.1;have h2:k≤s.length:=hw.2;unfold zAj;rw[zDK,h];exact zDa _ _ _ _ (by simp; omega) (by simp)
theorem zKK {p kd k:Nat}{n:Int}{s:Bs}(h:step s=.tok kd k n):zAj p s=(zAj (p+k) (s.drop k)).cons ⟨kd,p,p+k,s.take k,n⟩:=by
 have hw:=zCh s;rw[h] at hw;have h1:1≤k:=hw.1;have h2:k≤s.length:=hw.2;unfold zAj;rw[zDK,h]
 show VS.cons _ _=VS.cons _ _
 rw[zDa s.length ((s.drop k).length+1) _ _ (by simp; omega) (by simp)]
theorem zPJ {p:Nat}{e:Int}{s:Bs}(h:step s=.bad e):zAj p s=.err p e:=by
 unfold zAj;rw[zDK,h]
def VS.pre:List Tok→VS→VS
 | l,.ok m=>.ok (l++m)
 | _,.err a e=>.err a e
theorem zJc (r:VS):VS.pre [] r=r:=by cases r <;> rfl
theorem zQS (l:List Tok)(t:Tok)(r:VS):VS.pre (l++[t]) r=VS.pre l (r.cons t):=by
 cases r with
 | ok m=>simp[VS.pre,VS.cons]
 | err a e=>rfl
def VS.join:VS→VS→VS
 | .ok l,r=>r.pre l.dropLast
 | .err a e,_=>.err a e
theorem zNl {p:UInt8→Bool}:∀(r:Bs) (m:Nat),(r.takeWhile p).length≤m→(r.take m).takeWhile p=r.takeWhile p
 | [],m,_=>by simp
 | c::r,0,h=>by
  rw[List.takeWhile_cons] at h ⊢
  split at h
  ·simp at h
  ·rename_i hc; simp[hc]
 | c::r,m+1,h=>by
  rw[List.take_succ_cons,List.takeWhile_cons,List.takeWhile_cons]
  by_cases hc:p c=true
  ·rw[if_pos hc,if_pos hc];rw[List.takeWhile_cons,if_pos hc] at h;rw[zNl r m (by simpa using h)]
  ·rw[if_neg hc,if_neg hc]
theorem zIW {p:UInt8→Bool}(r:Bs):r.take (r.takeWhile p).length=r.takeWhile p:=by
 have h:=List.takeWhile_prefix p (l:=r);exact(List.prefix_iff_eq_take.1 h).symm
theorem zQp {p:UInt8→Bool}:∀(r:Bs),r.takeWhile p=r→∀x ∈ r,p x=true
 | [],_,x,hx=>by cases hx
 | c::r,h,x,hx=>by
  rw[List.takeWhile_cons] at h
  split at h
  ·rename_i hc;injection h with _ h
   rcases List.mem_cons.1 hx with rfl | hx
   ·exact hc
   ·exact zQp r h x hx
  ·cases h
def zM7:Bs→Bool
 | []=>false
 | c::r=>vI c&&r.all YJ
end Go.Proofs.YtioffpjajhalaaaGreatDoor
namespace Go.Proofs.YtioffpjajhalaaaGreatDoor
open Go Go.RowKit
theorem Calls.zC9 {P:Program}{f:FuncId}{args:Array Value}{w:World}{a n:Nat}{v:Value}
  (h:Calls P f args (w.drewN (a+n)) fun e w'=>e=.returned v∧w'=w.drewN (a+n)):Calls P f args (w.drewN (a+n)) fun e AA=>e=.returned v∧∃m,AA=w.drewN (a+m):=
 h.mono fun _ _ ⟨he,hm⟩=>⟨he,n,hm⟩
def zB4 (l:Bs):List Int:=l.map fun b=>(b.toNat:Int)
def xL (l:Bs):List Value:=l.map fun b=>.int .u8 (b.toNat:Int)
def yX (l:Bs):ByteArray:=⟨l.toArray⟩
theorem jJ (l:Bs):(xL l).length=l.length:=by simp[xL]
theorem zEO (l:Bs):(zB4 l).length=l.length:=by simp[zB4]
theorem JU (l:Bs)(i:Nat)(h:i<l.length):(xL l)[i]?=some (.int .u8 (l[i].toNat:Int)):=by simp[xL,h]
theorem zGU (l:Bs)(i:Nat)(h:i<l.length):(zB4 l).getD i 0=(l[i].toNat:Int):=by simp[zB4,h]
theorem zAL (l:Bs):Lib.bytesOf (zB4 l)=l:=by
 unfold Lib.bytesOf zB4;rw[List.map_map]
 conv=>rhs; rw[←List.map_id l]
 apply List.map_congr_left;intro b _
 simp
theorem zCG (l:Bs):strOfNums (zB4 l)=yX l:=by
 have h:=zAL l;unfold Lib.bytesOf at h;unfold strOfNums yX;rw[h]
structure Mod (g:Nat)(w w':World):Prop where
 os:w'.os=w.os
 tape:w'.tape=w.tape
 output:w'.output=w.output
 size:w.heap.size≤w'.heap.size
 other:∀k,k<w.heap.size→k≠g→w'.heap[k]?=w.heap[k]?
section
variable {g:Nat} {w w' w'':World}
theorem Mod.refl (g:Nat)(w:World):Mod g w w:=⟨rfl,rfl,rfl,zU _,fun _ _ _=>rfl⟩
theorem Mod.trans (h:Mod g w w')(k:Mod g w' w''):Mod g w w'':=
 ⟨k.os.trans h.os,k.tape.trans h.tape,k.output.trans h.output,Nat.le_trans h.size k.size,fun i hi hg=>(k.other i (yR hi h.size) hg).trans (h.other i hi hg)⟩
theorem Mod.jY (h:Ext w w')(g:Nat):Mod g w w':=⟨h.os,h.tape,h.output,h.size,fun k hk _=>h.block k hk⟩
theorem Mod.zEa (h:Touch g w w'):Mod g w w':=⟨h.os,h.tape,h.output,Nat.le_of_eq h.size.symm,fun k _ hg=>h.other k hg⟩
theorem Mod.drewN (h:Mod g w w')(n:Nat):Mod g w (w'.drewN n):=⟨h.os,h.tape,h.output,h.size,h.other⟩
theorem Mod.setCell (h:Mod g w w')(i:Nat)(u:Value):Mod g w (w'.setCell ⟨g,i,none⟩ u):=
 h.trans ⟨rfl,rfl,rfl,by simp[World.setCell],fun k _ hg=>zQ _ _ _ _ hg⟩
theorem Mod.far (h:Mod g w w'){b:Nat}(hb:w.heap.size≤b)(i:Nat)(u:Value):Mod g w (w'.setCell ⟨b,i,none⟩ u):=
 ⟨h.os,h.tape,h.output,by simp[World.setCell]; exact h.size,fun k hk hg=>(zQ _ _ _ _ (show k≠b by omega)).trans (h.other k hk hg)⟩
theorem Mod.alloc (h:Mod g w w')(o:Obj):Mod g w (w'.alloc o):=
 ⟨h.os,h.tape,h.output,by have:=h.size; simp; omega,fun k hk hg=>(Below.heap_alloc _ _ _ (by have:=h.size; omega)).trans (h.other k hk hg)⟩
theorem Mod.ext {w0:World}(h:Mod g w w')(hx:Ext w0 w)(hB:w0.heap.size≤g):Ext w0 w':=
 Below.trans hx ⟨h.os,h.tape,h.output,h.size,fun k hk=>h.other k (by have:=hx.size; omega) (by omega)⟩
theorem Mod.blk {k:Nat}{t:TypeId}{cs:Array Value}(h:Mod g w w')(hb:Blk w k t cs)(hk:k≠g):Blk w' k t cs:=(h.other k hb.lt hk).trans hb
theorem Mod.cells {A:Option Addr}{cs:List Value}(h:Mod g w w')(hc:Cells w A cs)(hk:∀b AA,A=some ⟨b,AA,none⟩→b≠g):Cells w' A cs:=by
 rcases hc with hc | ⟨b,AA,hA,hb,AB⟩
 ·exact .inl hc
 ·refine .inr ⟨b,AA,hA,yR hb h.size,fun k AC=>?_⟩;rw[World.cell?_of_block (w:=w) (h.other b hb (hk b AA hA))];exact AB k AC
theorem Mod.own {base:Nat}{e:TypeId}{size n:Nat}{v:Value}{xs:List Value}(h:Mod g w w')(ho:w.ownsRow base e size v n xs)(hk:v.ownBlock≠some g):w'.ownsRow base e size v n xs:=by
 refine⟨ho.1,?_⟩
 rcases ho.2 with hn | ⟨g',AB,AA,rfl,hb,hh,r⟩
 ·exact .inl hn
 ·exact .inr ⟨g',AB,AA,rfl,hb,(h.other g' (Array.getElem?_eq_some_iff.1 hh).1 (fun e=>hk (by rw[e]; rfl))).trans hh,r⟩
theorem Blk.drewN {t:TypeId}{cs:Array Value}(h:Blk w g t cs)(n:Nat):Blk (w.drewN n) g t cs:=h
end
theorem zGj (s:ByteArray)(c:Int)(w:World) :
  Calls Tryz.prog 114 #[.string s,.int .u8 c] w fun e w'=>e=.returned (.int .i64 (Lib.indexByte s.data.toList c.toNat.toUInt8))∧w'=w:=by
 go_enter Tryz.func114,Tryz.ntmps114
 go_wp2
 rw[run_callFunc_extern Tryz.func158 (by kernel_rfl) (by kernel_rfl) (by kernel_rfl) (e:=Extern.BytealgIndexByte.indexByte) (by kernel_rfl),Lib.run_indexByteString];simp only[Result.andThen];rw[Oper.upon_value]
 go_wp2
 go_ret;exact⟨rfl,rfl⟩
theorem zC5 (s:ByteArray)(c:Int)(w:World) :
  Calls Tryz.prog 70 #[.string s,.int .u8 c] w fun e w'=>e=.returned (.int .i64 (Lib.indexByte s.data.toList c.toNat.toUInt8))∧w'=w:=by
 go_enter Tryz.func70,Tryz.ntmps70
 go_wp2_with (go_at_call 114; refine(zGj _ _ _).mono ?_; rintro e w' ⟨rfl,rfl⟩)
 go_ret;exact⟨rfl,rfl⟩
def VG (s:ByteArray)(p:UInt8→Bool):Prop:=∀n:Nat,n<256→decide (0≤Lib.indexByte s.data.toList n.toUInt8)=p n.toUInt8
theorem zCS {s:ByteArray}{p:UInt8→Bool}(hs:VG s p)(c:UInt8)(w:World) :
  Calls Tryz.prog 70 #[.string s,.int .u8 (c.toNat:Int)] w fun e w'=>e=.returned (.int .i64 (Lib.indexByte s.data.toList c))∧w'=w:=by
 have h:=zC5 s (c.toNat:Int) w;rw[show((c.toNat:Int).toNat).toUInt8=c from by simp] at h;exact h
theorem VG.at_ {s:ByteArray}{p:UInt8→Bool}(hs:VG s p)(c:UInt8):decide (0≤Lib.indexByte s.data.toList c)=p c:=by
 have h:=hs c.toNat c.toNat_lt
 simpa using h
theorem zDV (b o n c:Nat)(l:Bs)(cv:Int)(w:World)(hx:l.length=n)
  (hc:∀i (h:i<l.length),w.cell? ⟨b,o+i,none⟩=some (.int .u8 (l[i].toNat:Int))) :
  Calls Tryz.prog 68 #[.slice (some ⟨b,o,none⟩) n c,.int .u8 cv] w fun e w'=>e=.returned (.int .i64 (Lib.indexByte l cv.toNat.toUInt8))∧w'=w:=by
 subst hx
 have AA:∀i,i<l.length→w.cell? ⟨b,o+i,none⟩=some (.int .u8 ((zB4 l).getD i 0)):=fun i hi=>by rw[zGU l i hi]; exact hc i hi
 clear hc;have h:=Lib.run_indexByteSlice (P:=Tryz.prog) w b o l.length c (zB4 l) (zEO l) AA cv;rw[zAL] at h;clear AA
 go_enter Tryz.func68,Tryz.ntmps68
 go_wp2
 rw[run_callFunc_extern Tryz.func113 (by kernel_rfl) (by kernel_rfl) (by kernel_rfl) (e:=Extern.BytealgIndexByte.indexByte) (by kernel_rfl),h];simp only[Result.andThen];rw[Oper.upon_value]
 go_wp2
 go_ret;exact⟨rfl,rfl⟩
structure Rd (w:World)(g:Nat)(A:Option Addr)(l:Bs)(c k:Nat):Prop where
 blk:Blk w g 65 #[.slice A l.length c,.int .i64 (k:Int)]
 src:Cells w A (xL l)
 far:0<l.length→∀b off,A=some ⟨b,off,none⟩→b≠g
 le:k≤l.length
 cap:l.length≤c
 zHI:A=none→c=0
 big:l.length≤140737488355328
theorem Rd.byte {w:World}{g:Nat}{A:Option Addr}{l:Bs}{c k:Nat}(h:Rd w g A l c k)(h0:0<l.length):∃b AA,A=some ⟨b,AA,none⟩∧b≠g∧b<w.heap.size∧∀i (hi:i<l.length),w.cell? ⟨b,AA+i,none⟩=some (.int .u8 (l[i].toNat:Int)):=by
 obtain⟨b,AA,rfl,hb,hc⟩:=h.src.at_ (by rw[jJ]; exact h0);exact⟨b,AA,rfl,h.far h0 b AA rfl,hb,fun i hi=>by rw[hc i (by rw[jJ]; exact hi),JU l i hi]⟩
theorem Rd.drewN {w:World}{g:Nat}{A:Option Addr}{l:Bs}{c k:Nat}(h:Rd w g A l c k)(n:Nat):Rd (w.drewN n) g A l c k:=⟨h.blk,h.src,h.far,h.le,h.cap,h.zHI,h.big⟩
theorem Mod.zSx {g:Nat}{w w':World}{A:Option Addr}{l:Bs}(h:Mod g w w')(hc:Cells w A (xL l))(hk:0<l.length→∀b off,A=some ⟨b,off,none⟩→b≠g):Cells w' A (xL l):=by
 by_cases h0:0<l.length
 ·exact h.cells hc (hk h0)
 ·have:l=[]:=List.eq_nil_of_length_eq_zero (by omega)
  subst this;exact .inl rfl
theorem Rd.put {w:World}{g:Nat}{A:Option Addr}{l:Bs}{c k:Nat}(h:Rd w g A l c k)(k':Nat)(hk:k'≤l.length):Rd (w.setCell ⟨g,1,none⟩ (.int .i64 (k':Int))) g A l c k':=
 ⟨h.blk.put 1 _,((Mod.refl g w).setCell 1 _).zSx h.src h.far,h.far,hk,h.cap,h.zHI,h.big⟩
theorem zNd {a b:Bs}(h:a=b):Ending.returned (.string (yX a))=.returned (.string (yX b)):=by rw[h]
theorem zRA {p:UInt8→Bool}{l:Bs}{k:Nat}(h:k<l.length):(l.drop k).takeWhile p=if p l[k] then l[k]::(l.drop (k+1)).takeWhile p else []:=by
 rw[List.drop_eq_getElem_cons h,List.takeWhile_cons]
def zEU (A:Option Addr)(c k:Nat):Option Addr:=if c=k then A else A.map (·.add k)
theorem zNi {P:Program}(W:World)(t e:TypeId)(ht:P.underlying t=some (.slice e))(hz:∀w,(Go.sizeOf e).run P w=.ok 1 w)(A:Option Addr)(len cap l h:Nat)(hlh:l≤h)(hh:h≤cap) :
  (Instr.slice t (.slice A len cap) (some (.int .i64 (l:Int))) (some (.int .i64 (h:Int))) none).run P W=.ok (.slice (zEU A cap l) (h-l) (cap-l)) W:=by
 have AA:P.underlying t=some (.slice (P.elem t)):=by simp[Program.elem,ht]
 have he:P.elem t=e:=by simp[Program.elem,ht]
 rw[run_slice_lh W t _ _ _ AA .i64 .i64 _ _ (by omega) (by omega) (by omega),he,hz];simp[Result.andThen,sliced,zEU]
theorem zEh {P:Program}(W:World)(t e:TypeId)(ht:P.underlying t=some (.slice e))(hz:∀w,(Go.sizeOf e).run P w=.ok 1 w)(A:Option Addr)(len cap l:Nat)(hlh:l≤len) :
  (Instr.slice t (.slice A len cap) (some (.int .i64 (l:Int))) none none).run P W=.ok (.slice (zEU A cap l) (len-l) (cap-l)) W:=by
 have AA:P.underlying t=some (.slice (P.elem t)):=by simp[Program.elem,ht]
 have he:P.elem t=e:=by simp[Program.elem,ht]
 rw[run_slice_l W t _ _ _ AA .i64 _ (by omega) (by omega),he,hz];simp[Result.andThen,sliced,zEU]
theorem zB3 {w:World}{A:Option Addr}{l:Bs}{c:Nat}(h:Cells w A (xL l))(hc:l.length≤c)(k m:Nat):Cells w (zEU A c k) (xL ((l.drop k).take m)):=by
 by_cases hk:k<l.length
 ·rcases h with h | ⟨b,AB,rfl,hb,AC⟩
  ·have:(xL l).length=0:=by rw[h]; rfl
   rw[jJ] at this;omega
  ·refine .inr ⟨b,AB+k,?_,hb,fun i hi=>?_⟩
   ·unfold zEU;rw[if_neg (by omega)];simp only[Option.map_some,Addr.add]
    split
    ·rename_i h0; subst h0; rfl
    ·rfl
   ·rw[jJ] at hi
    have AA:i<m∧k+i<l.length:=by rw[List.length_take,List.length_drop] at hi; omega
    rw[Nat.add_assoc,AC (k+i) (by rw[jJ]; omega),JU l _ AA.2,JU _ i hi]
    simp
 ·refine .inl ?_;rw[List.drop_eq_nil_of_le (by omega)];simp[xL]
theorem ZV {P:Program}{w:World}{src e dst:TypeId}(hs:P.underlying src=some (.slice e))(he:P.underlying e=some (.int .u8))(hd:P.underlying dst=some .string){A:Option Addr}{l:Bs}{n c:Nat}(hn:n=l.length)(h:Cells w A (xL l)) :
  (convert src dst (.slice A n c)).run P w=.ok (.string (yX l)) w:=by
 subst hn;rw[←zCG]
 by_cases h0:0<l.length
 ·obtain⟨b,AA,rfl,hb,AB⟩:=h.at_ (by rw[jJ]; exact h0);exact run_convert_bytes_arg w src e hs he b AA _ c (zB4 l) (zEO l) (fun i hi=>by rw[AB i (by rw[jJ]; exact hi),JU l i hi,zGU l i hi]) dst hd
 ·have:l=[]:=List.eq_nil_of_length_eq_zero (by omega)
  subst this
  cases A with
  | none=>exact run_convert_bytes_nil w src e hs he _ _ dst hd
  | some a=>
   rw[run_convert_bytes_string w src dst e _ _ c hs he hd]
   have hl:(loadCells a 0).run P w=.ok #[] w:=by
    simp[loadCells,loadCellsFrom]
   simp[Conv.bytesToString,hl,Result.andThen,zB4,strOfNums]
   rfl
theorem zBS:∀w,(Go.sizeOf 5).run Tryz.prog w=.ok 1 w:=fun w=>by kernel_rfl
theorem zDk (g:Nat)(A:Option Addr)(l:Bs)(c k:Nat)(s:ByteArray)(p:UInt8→Bool)(hs:VG s p)(w:World)(hr:Rd w g A l c k) :
  Calls Tryz.prog 67 #[.pointer (some ⟨g,0,none⟩),.string s] w fun e w'=>e=.returned (.string (yX ((l.drop k).takeWhile p)))∧Mod g w w'∧Rd w' g A l c (k+((l.drop k).takeWhile p).length):=by
 have AI:=hr.big;have AJ:=hr.le;have AL:=hr.cap;have HR:=yD hr;have HS:=yD hs;obtain⟨u,HU⟩:∃u,Hid ((l.drop k).takeWhile p=u):=⟨_,yD rfl⟩;have c0:=hr.blk.cell 0;have c1:=hr.blk.cell 1;clear hr hs
 go_enter Tryz.func67,Tryz.ntmps67
 go_wp2_with fail
 go_loopg [] (l.length-k) (fun gk wr=>∃k':Nat,k≤k'∧k'≤l.length∧gk=l.length-k'∧Hid (Mod g w wr∧Rd wr g A l c k'∧(l.drop k).takeWhile p=(l.drop k).take (k'-k)++(l.drop k').takeWhile p))
 case atStart=>exact⟨k,zU _,AJ,rfl,yD ⟨Mod.refl _ _,HR.out,by simp⟩⟩
 case round=>
  obtain⟨k',AK,AO,rfl,HW⟩:=hrel;have b0:wr.cell? ⟨g,0,none⟩=some (.slice A l.length c):=HW.out.2.1.blk.cell 0;have b1:wr.cell? ⟨g,1,none⟩=some (.int .i64 (k':Int)):=HW.out.2.1.blk.cell 1;have f1:=HW.out.2.1.blk.frozen 1
  have AB:∀(u:Bs),(l.drop k').takeWhile p=[]→Hid ((l.drop k).takeWhile p=(l.drop k).take (k'-k)∧k+((l.drop k).takeWhile p).length=k'):=fun _ e=>by
   have h:=HW.out.2.2;rw[e,List.append_nil] at h;refine yD ⟨h,?_⟩;rw[h,List.length_take,List.length_drop];omega
  have AE:=yD AB;clear AB;have AM:∀W,(Instr.slice 22 (.slice A l.length c) (some (.int .i64 (k:Int))) (some (.int .i64 (k':Int))) none).run Tryz.prog W=.ok (.slice (zEU A c k) (k'-k) (c-k)) W:=fun W=>zNi W _ _ Tryz.underlying22 zBS A _ c k k' AK (by omega)
  have AR:∀n,(convert 22 9 (.slice (zEU A c k) (k'-k) (c-k))).run Tryz.prog (wr.drewN n)=.ok (.string (yX ((l.drop k).take (k'-k)))) (wr.drewN n):=fun n=>
   ZV Tryz.underlying22 Tryz.underlying5 Tryz.underlying9 (by simp; omega) (show Cells (wr.drewN n) _ _ from zB3 HW.out.2.1.src (by omega) k _)
  by_cases AD:k'<l.length
  ·have d0:decide ((k':Int)<(l.length:Int))=true:=yP (by omega);obtain⟨b,AQ,hA,AN,AP,AF⟩:=HW.out.2.1.byte (by omega);have e0:=AF k' AD
   have q0:(k':Int)<(l.length:Int):=by omega
   have AH:=zRA (p:=p) AD;have hp:=HS.out.at_ l[k'];have AG:=yG AD;generalize l[k']=x at *;have HX:=yD AG;have AC:=yD AH;clear AF AG AH
   cases hpx:p x with
   | true=>
    rw[hpx] at hp;rw[hpx] at AC;clear hpx;subst hA
    go_wp2_with fail
    go_quiet ((go_at_call 70; exact Calls.quiet_of_same (zCS HS.out x _)))
    go_wp2_with fail
    go_roundg (l.length-(k'+1))
    case measure=>omega
    case rel=>
     refine⟨k'+1,by omega,by omega,rfl,yD ⟨((HW.out.1.drewN _).setCell 1 _),(HW.out.2.1.drewN _).put (k'+1) (by omega),?_⟩⟩;have hh:=HW.out.2.2;rw[AC.out] at hh;simp only[if_true] at hh;rw[hh,show k'+1-k=(k'-k)+1 from by omega,List.take_add_one,List.getElem?_drop,show k+(k'-k)=k' from by omega,HX.out]
     simp
   | false=>
    rw[hpx] at hp;rw[hpx] at AC;have AA:=AE.out [] AC.out;clear hpx;subst hA
    go_wp2_with fail
    go_quiet ((go_at_call 70; exact Calls.quiet_of_same (zCS HS.out x _)))
    go_wp2_with fail
    go_quiet (fail)
    go_wp2_with fail
    go_ret;exact⟨zNd AA.out.1.symm,(HW.out.1.drewN _).drewN _,by rw[AA.out.2]; exact(HW.out.2.1.drewN _).drewN _⟩
  ·have d0:decide ((k':Int)<(l.length:Int))=false:=yO (by omega);have AA:=AE.out [] (by rw[List.drop_eq_nil_of_le (by omega)]; rfl)
   go_wp2_with fail
   go_quiet (fail)
   go_wp2_with fail
   go_quiet (fail)
   go_wp2_with fail
   go_ret;exact⟨zNd AA.out.1.symm,(HW.out.1.drewN _).drewN _,by rw[AA.out.2]; exact(HW.out.2.1.drewN _).drewN _⟩
theorem zFm:∀(s:Bs) (p:Nat),zAj p s=zAj (p+(s.takeWhile YA).length) (s.drop (s.takeWhile YA).length)
 | [],p=>rfl
 | c::r,p=>by
  rw[List.takeWhile_cons]
  split
  ·rename_i h
   have hs:step (c::r)=.skip 1:=by show JS c r=_; unfold JS; rw[if_pos h]
   rw[zES hs,zJ]
   show zAj (p+1) r=zAj _ (r.drop _)
   rw[zFm r (p+1),show p+1+(r.takeWhile YA).length=p+((r.takeWhile YA).length+1) from by omega]
  ·rfl
theorem zPc {s:Bs}(h:s.head?=some 35)(p:Nat):zAj p s=zAj (p+(s.takeWhile fun x=>x != 10).length) (s.drop (s.takeWhile fun x=>x != 10).length)∧0<(s.takeWhile fun x=>x != 10).length:=by
 cases s with
 | nil=>cases h
 | cons c r=>
  injection h with h;subst h;have hs:step (35::r)=.skip (1+(r.takeWhile fun x=>x != 10).length):=rfl;have ht:((35:UInt8)::r).takeWhile (fun x=>x != 10)=35::r.takeWhile fun x=>x != 10:=rfl;rw[ht,zJ,zES hs,Nat.add_comm 1];exact⟨rfl,by omega⟩
theorem zJf (s:Bs)(c:UInt8):Lib.indexByte s c=if (s.takeWhile fun x=>x != c).length<s.length then ((s.takeWhile fun x=>x != c).length:Int) else -1:=by
 induction s with
 | nil=>rfl
 | cons b s ih=>
  unfold Lib.indexByte;rw[List.takeWhile_cons]
  by_cases hb:(b==c)=true
  ·have:(b != c)=false:=by rw[bne,hb]; rfl
   rw[if_pos hb,this]
   simp
  ·have AA:(b==c)=false:=by simpa using hb
   have:(b != c)=true:=by rw[bne,AA]; rfl
   rw[if_neg hb,this,ih];simp only[if_true,zJ]
   split
   ·rename_i h;rw[if_neg (by simp),if_pos (by omega)];omega
   ·rename_i h;rw[if_pos (by rfl),if_neg (by omega)]
theorem zMu:VG ⟨#[32,9,10,13]⟩ YA:=by unfold VG; decide +kernel
theorem zJS (g:Nat)(A:Option Addr)(l:Bs)(c k:Nat)(w:World)(hr:Rd w g A l c k) :
  Calls Tryz.prog 31 #[.pointer (some ⟨g,0,none⟩)] w fun e w'=>e=.returned (.tuple #[])∧∃k',k≤k'∧Mod g w w'∧Rd w' g A l c k'∧zAj k (l.drop k)=zAj k' (l.drop k')∧∀x,(l.drop k').head?=some x→YA x=false∧(x==35)=false:=by
 have AV:=hr.big;have AX:=hr.le;have AZ:=hr.cap;have HR:=yD hr;clear hr
 go_enter Tryz.func31,Tryz.ntmps31
 go_wp2_with fail
 go_loopg [] (l.length-k) (fun gk wr=>∃k':Nat,k≤k'∧k'≤l.length∧gk=l.length-k'∧Hid (Mod g w wr∧Rd wr g A l c k'∧zAj k (l.drop k)=zAj k' (l.drop k')))
 case atStart=>exact⟨k,zU _,AX,rfl,yD ⟨Mod.refl _ _,HR.out,rfl⟩⟩
 case round=>
  obtain⟨k1,Ag,Ai,rfl,HW⟩:=hrel
  go_wp2_with fail
  refine(zDk g A l c k1 _ YA zMu wr HW.out.2.1).mono ?_;rintro e w1 ⟨rfl,AH,AJ⟩;have AD:=HW.out.2.2.trans (zFm (l.drop k1) k1);rw[List.drop_drop] at AD
  have AN:∀x,(l.drop (k1+((l.drop k1).takeWhile YA).length)).head?=some x→YA x=false:=by
   intro x hx;rw[←List.drop_drop] at hx;generalize l.drop k1=s at hx;clear AD AJ AH
   induction s with
   | nil=>simp at hx
   | cons a s ih=>
    rw[List.takeWhile_cons] at hx
    split at hx
    ·exact ih (by simpa using hx)
    ·rename_i ha
     simp at hx
     subst hx
     simpa using ha
  have Aa:k1≤k1+((l.drop k1).takeWhile YA).length:=by omega
  have HM:=yD (HW.out.1.trans AH);have AA:=yD AJ;have AE:=yD AD;have AU:=yD AN;clear AH AJ AD AN HW;generalize k1+((l.drop k1).takeWhile YA).length=k2 at *;have AW:=AA.out.le;have b0:w1.cell? ⟨g,0,none⟩=some (.slice A l.length c):=AA.out.blk.cell 0;have b1:w1.cell? ⟨g,1,none⟩=some (.int .i64 (k2:Int)):=AA.out.blk.cell 1;have f1:=AA.out.blk.frozen 1
  by_cases AQ:k2<l.length
  ·have d0:((k2:Int)==(l.length:Int))=false:=by rw[yF]; omega
   obtain⟨b,AB,hA,Ae,Aj,AI⟩:=AA.out.byte (by omega);have e0:=AI k2 AQ
   have q0:(k2:Int)<(l.length:Int):=by omega
   have AO:=List.drop_eq_getElem_cons AQ
   have AY:=yD AI
   generalize l[k2]=x at *;have AP:=yD AO;clear AI AO;subst hA
   by_cases hx:x=35
   ·subst hx;have Af:w1.cell? ⟨b,AB+k2,none⟩=some (.int .u8 35):=e0;clear e0
    have Ab:∀W,(Instr.slice 22 (.slice (some ⟨b,AB,none⟩) l.length c) (some (.int .i64 (k2:Int))) none none).run Tryz.prog W=.ok (.slice (some ⟨b,AB+k2,none⟩) (l.length-k2) (c-k2)) W:=fun W=>by
     rw[zEh W _ _ Tryz.underlying22 zBS _ _ c k2 AW];unfold zEU;rw[if_neg (by omega)];simp only[Option.map_some,Addr.add]
     split
     ·rename_i h0; subst h0; rfl
     ·rfl
    have AR:∀W:World,(∀i (h:i<(l.drop k2).length),W.cell? ⟨b,AB+k2+i,none⟩=some (.int .u8 ((l.drop k2)[i].toNat:Int)))→Calls Tryz.prog 68 #[.slice (some ⟨b,AB+k2,none⟩) (l.length-k2) (c-k2),.int .u8 10] W fun e w'=>e=.returned (.int .i64 (Lib.indexByte (l.drop k2) 10))∧w'=W:=fun W hW=>
     zDV b (AB+k2) (l.length-k2) (c-k2) (l.drop k2) 10 W (by simp) hW
    have AM:Hid (∀i (h:i<(l.drop k2).length),w1.cell? ⟨b,AB+k2+i,none⟩=some (.int .u8 ((l.drop k2)[i].toNat:Int))):=yD fun i hi=>by
     rw[List.length_drop] at hi;rw[Nat.add_assoc,AY.out (k2+i) (by omega),List.getElem_drop]
    have AF:=yD AR;have AG:=yD (zJf (l.drop k2) 10);have AK:=yD (zPc (s:=l.drop k2) (by rw[AP.out]; rfl) k2)
    have Ac:((l.drop k2).takeWhile fun x=>x != 10).length≤l.length-k2:=by have:=zKL (fun x:UInt8=>x != 10) (l.drop k2); rw[List.length_drop] at this; exact this
    have Ad:=AK.out.2;clear AR;generalize ((l.drop k2).takeWhile fun x=>x != 10).length=j at *;obtain⟨z,hz⟩:∃z,Lib.indexByte (l.drop k2) 10=z:=⟨_,rfl⟩;rw[hz] at AG AF;clear hz;have AL:∀(v:Int),v=(j:Int)→True:=fun _ _=>trivial
    by_cases hj:j<(l.drop k2).length
    ·have AC:Hid (z=(j:Int)):=yD (by rw[AG.out,if_pos hj])
     have AS:0≤z:=by rw[AC.out]; omega
     have Ah:z≤140737488355328:=by rw[AC.out]; omega
     have d2:decide (z<0)=false:=yO (by omega);clear AL
     go_wp2_with fail
     go_quiet (fail)
     go_wp2_with fail
     go_quiet ((go_at_call 68; exact Calls.zC9 (AF.out _ (by exact AM.out))))
     go_wp2_with fail
     go_roundg (l.length-(k2+j))
     case measure=>omega
     case rel=>
      refine⟨k2+j,by omega,by omega,rfl,yD ⟨(HM.out.drewN _).setCell 1 _,?_,?_⟩⟩
      ·rw[show((k2:Int)+z)=((k2+j:Nat):Int) from by rw[AC.out]; omega];exact(AA.out.drewN _).put (k2+j) (by omega)
      ·have h:=AE.out.trans AK.out.1;rw[List.drop_drop] at h;exact h
    ·have Ak:j=l.length-k2:=by rw[List.length_drop] at hj; omega
     have AC:Hid (z=-1):=yD (by rw[AG.out,if_neg hj])
     have AS:z<0:=by rw[AC.out]; omega
     have d2:decide (z<0)=true:=yP (by omega)
     go_wp2_with fail
     go_quiet (fail)
     go_wp2_with fail
     go_quiet ((go_at_call 68; exact Calls.zC9 (AF.out _ (by exact AM.out))))
     go_wp2_with fail
     go_quiet (fail)
     go_wp2_with fail
     go_roundg (l.length-(k2+j))
     case measure=>omega
     case rel=>
      refine⟨k2+j,by omega,by omega,rfl,yD ⟨(HM.out.drewN _).setCell 1 _,?_,?_⟩⟩
      ·rw[show((k2:Int)+((l.length:Int)-(k2:Int)))=((k2+j:Nat):Int) from by omega];exact(AA.out.drewN _).put (k2+j) (by omega)
      ·have h:=AE.out.trans AK.out.1;rw[List.drop_drop] at h;exact h
   ·have d1:((x.toNat:Int) != 35)=true:=by
     rw[zD];intro h;apply hx
     have:x.toNat=35:=by omega
     exact UInt8.toNat_inj.1 this
    have AT:=yD (show(x==35)=false by simpa using hx);clear hx
    go_wp2_with fail
    go_quiet (fail)
    go_wp2_with fail
    refine bodyPost_ret (v:=.tuple #[]) (by simp[results,Tryz.results31,go_sem]) rfl ?_;exact⟨rfl,k2,by omega,HM.out.drewN _,AA.out.drewN _,AE.out,fun y hy=>⟨AU.out y hy,by rw[AP.out] at hy; injection hy with hy; subst hy; exact AT.out⟩⟩
  ·obtain rfl:k2=l.length:=by omega
   have d0:((l.length:Int)==(l.length:Int))=true:=by simp
   go_wp2_with fail
   go_quiet (fail)
   go_wp2_with fail
   refine bodyPost_ret (v:=.tuple #[]) (by simp[results,Tryz.results31,go_sem]) rfl ?_;exact⟨rfl,l.length,by omega,HM.out.drewN _,AA.out.drewN _,AE.out,fun y hy=>by simp at hy⟩
end Go.Proofs.YtioffpjajhalaaaGreatDoor
