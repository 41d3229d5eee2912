/- A law on regions that draw their order, over any program: each operation is shown once, from the facts of what it looks at; whatever order is drawn, at the end all facts hold. (and what follows of it). The conditions stand at each lemma. -/
import Derived.WalkKit
import Derived.Lib.Hide
import Derived.Orders
import Derived.BigRegion
import Derived.Below
import Derived.Laws.OwnMore
import Derived.Deep.Draws
import Derived.Laws.Rows
import Derived.Test.YtbadjmmjbpeocaaGreatChecked
import Derived.ProofKit
import Derived.Handy
import Derived.WalkSpells
import Derived.LoopTactic
import Derived.LoopN
import Derived.OwnWalk
import Derived.Maps.AppendAt
import Derived.Laws.Tables
import Derived.Laws.AppendOwnNone
import Derived.Deep.AppendLies
import Derived.Outline
import Derived.Laws.Externs
import Derived.Shelf.Bits.Mul64
set_option linter.unusedVariables false
set_option linter.unusedSimpArgs false
set_option maxRecDepth 100000
set_option maxHeartbeats 16000000
namespace Go.Proofs.YtbadjmmjbpeocaaGreat
open Go Go.RowKit
theorem zA:type_of% @List.getElem_map:=@List.getElem_map
theorem zB:type_of% @List.length_set:=@List.length_set
theorem zD:type_of% @List.length_replicate:=@List.length_replicate
theorem zE:type_of% @bne_iff_ne:=@bne_iff_ne
theorem zF:type_of% @decide_eq_true_eq:=@decide_eq_true_eq
theorem zG:type_of% @Bool.and_eq_true:=@Bool.and_eq_true
theorem zH:type_of% @List.all_eq_true:=@List.all_eq_true
theorem zI:type_of% @Int.toNat_natCast:=@Int.toNat_natCast
theorem zJ:type_of% @Array.getElem?_eq_some_iff:=@Array.getElem?_eq_some_iff
theorem zK:type_of% @List.length_cons:=@List.length_cons
theorem zL:type_of% @List.length_nil:=@List.length_nil
theorem zM:type_of% @List.getElem?_eq_none:=@List.getElem?_eq_none
theorem zN:type_of% @List.getElem?_map:=@List.getElem?_map
theorem zO:type_of% @beq_iff_eq:=@beq_iff_eq
theorem zQ:type_of% @heap_alloc_new:=@heap_alloc_new
theorem zR:type_of% @World.ownsRow_nil:=@World.ownsRow_nil
theorem zS:type_of% @Below.heap_setCell:=@Below.heap_setCell
theorem zU:type_of% @List.mem_cons:=@List.mem_cons
theorem zV:type_of% @Nat.le_of_lt:=@Nat.le_of_lt
theorem zW:type_of% @Nat.zero_le:=@Nat.zero_le
theorem zX:type_of% @Nat.le_refl:=@Nat.le_refl
theorem zY:type_of% @List.length_pos_iff:=@List.length_pos_iff
theorem zZ:type_of% @List.take_succ_eq_append_getElem:=@List.take_succ_eq_append_getElem
theorem yA:type_of% @List.foldl_append:=@List.foldl_append
theorem yB:type_of% @List.mem_of_getElem?:=@List.mem_of_getElem?
theorem yC:type_of% @List.cons_append:=@List.cons_append
theorem yD:type_of% @List.setIfInBounds_toArray:=@List.setIfInBounds_toArray
theorem yE:type_of% @List.set_cons_succ:=@List.set_cons_succ
theorem yF:type_of% @List.set_cons_zero:=@List.set_cons_zero
theorem yG:type_of% @Lib.hid:=@Lib.hid
theorem yH:type_of% @List.getD_eq_getElem?_getD:=@List.getD_eq_getElem?_getD
theorem yI:type_of% @beq_eq_false_iff_ne:=@beq_eq_false_iff_ne
theorem yJ:type_of% @List.getElem?_eq_getElem:=@List.getElem?_eq_getElem
theorem yK:type_of% @decide_eq_false_iff_not:=@decide_eq_false_iff_not
theorem yL:type_of% @List.getElem?_toArray:=@List.getElem?_toArray
theorem yM:type_of% @List.getElem?_cons_zero:=@List.getElem?_cons_zero
theorem yN:type_of% @List.mem_singleton:=@List.mem_singleton
theorem yO:type_of% @List.getElem_mem:=@List.getElem_mem
theorem yP:type_of% @List.length_append:=@List.length_append
theorem yQ:type_of% @List.length_map:=@List.length_map
theorem yR:type_of% @decide_eq_false:=@decide_eq_false
theorem yS:type_of% @decide_eq_true:=@decide_eq_true
theorem yT:type_of% @World.size_alloc:=@World.size_alloc
theorem yU:type_of% @Nat.lt_of_lt_of_le:=@Nat.lt_of_lt_of_le
theorem yV:type_of% @List.mem_map:=@List.mem_map
theorem yW:type_of% @List.mem_append:=@List.mem_append
theorem yX:type_of% @Option.map_eq_some_iff:=@Option.map_eq_some_iff
theorem yY:type_of% @Option.some.injEq:=@Option.some.injEq
end Go.Proofs.YtbadjmmjbpeocaaGreat
namespace Go.Proofs.YtbadjmmjbpeocaaGreat
open Go Go.RowKit
def Ext (w w':World):Prop:=Below w.heap.size w w'
theorem Ext.refl (w:World):Ext w w:=Below.refl _ _
theorem Ext.trans {a b c:World}(h:Ext a b)(k:Ext b c):Ext a c:=Below.trans h (Below.mono k h.size)
def xA (P:Program)(ρ:Operand→Value)(o:Oper)(w:World)(F:Value→World→Prop):Prop:=
 match (execOp ρ o).run P w with
 | .ok (.value u) w'=>F u w'
 | .ok .skip w'=>F undef w'
 | .ok (.enter f args) w'=>Calls P f args w' fun e AA=>∃u,e=.returned u∧F u AA
 | _=>False
theorem xA.mono {P:Program}{ρ:Operand→Value}{o:Oper}{w:World}{F G:Value→World→Prop}(h:xA P ρ o w F)(hFG:∀v w',F v w'→G v w'):xA P ρ o w G:=by
 unfold xA at *;generalize (execOp ρ o).run P w=r at *
 cases r with
 | ok n w'=>
  cases n with
  | value u=>exact hFG _ _ h
  | skip=>exact hFG _ _ h
  | enter f args=>exact Calls.mono h fun e w'' ⟨u,he,hf⟩=>⟨u,he,hFG _ _ hf⟩
  | _=>exact h
 | halt x w'=>exact h
theorem YX {P:Program}{o:Oper}{a:Act}{w:World}{F:Value→World→Prop}{K:Act→World→Prop}{Q:Exit→Act→World→Prop}
  (h:xA P a.eval o w F) (hk:∀v w',F v w'→K (a.put o.dst v) w'):o.wp P a w K Q:=by
 unfold xA at h;unfold Oper.wp;generalize (execOp a.eval o).run P w=r at *
 cases r with
 | ok n w'=>
  cases n with
  | value u=>exact hk _ _ h
  | skip=>exact hk _ _ h
  | enter f args=>exact Calls.mono h fun e w'' ⟨u,he,hf⟩=>by subst he; exact hk _ _ hf
  | _=>exact h.elim
 | halt x w'=>exact h.elim
inductive Take where
 | det (v:Value)
 | fact (F:Value→World→Prop)
def Take.says:Take→Value→World→Prop
 | .det v0,v,_=>v=v0
 | .fact F,v,w=>F v w
def Take.val:Take→Value→Value
 | .det v0,_=>v0
 | .fact _,v=>v
theorem Take.zEe {k:Take}{v:Value}{w:World}(h:k.says v w):k.val v=v:=by
 cases k with
 | det v0=>exact h.symm
 | fact F=>rfl
section
variable (P:Program) (ops:Array Oper) (R:World→World→Prop) (w0:World) (Q:Act→World→Prop)
def zM2 (o:Oper)(a:Act)(H:List (Option Tmp × (World→Prop)))(F:Value→World→Prop):Prop:=
 ∀w,R w0 w→(∀p ∈ H,(∃t,p.1=some t∧t ∈ o.looksAt ops)→p.2 w) →
  if Region.wanted o (yielded ops a.tmps)=true then xA P a.eval o w (fun v w'=>F v w'∧R w w') else F undef w
def ZF:List Oper→List Take→Act→List (Option Tmp × (World→Prop))→Prop
 | [],_,a,H=>∀w,R w0 w→(∀p ∈ H,p.2 w)→Q a w
 | o::l,.det v0::ks,a,H=>zM2 P ops R w0 o a H (fun v _=>v=v0)∧ZF l ks (a.put o.dst v0) H
 | o::l,.fact F::ks,a,H=>(∀v w w',F v w→R w w'→F v w')∧zM2 P ops R w0 o a H F∧∀v,ZF l ks (a.put o.dst v) ((o.dst,F v)::H)
 | _::_,[],_,_=>False
end
def zBO (ops:Array Oper):Nat→Nat→Nat→Bool
 | 0,_,_=>false
 | f+1,i,j=>match ops[i]? with
  | none=>false
  | some o=>o.after.any fun e=>Region.binds .any e&&(e.on==j||zBO ops f e.on j)
def zBY (ops:Array Oper)(m:Nat):Bool:=
 (List.range ops.size).all fun i=>decide (i<m)||(match ops[i]? with
  | none=>false
  | some o=>o.after.all (fun e=>!Region.binds .any e||decide (e.on<i))&&(List.range i).all fun j=>zBO ops 8 i j)
def YG (ops:Array Oper)(m:Nat):Bool:=
 decide (m≤ops.size)&&(List.range m).all fun i=>match ops[i]? with
  | none=>false
  | some o=>(match o.op with | .select _ _=>false | _=>true)&&o.after.all (fun e=>!Region.binds .any e||decide (e.on<i)) &&
   (List.range m).all fun j=>match ops[j]? with
    | none=>false
    | some p=>match p.dst with
     | none=>true
     | some d=>(i==j||o.dst != some d) &&
      (!((o.looksAt ops).contains d)||(decide (j<i)&&o.after.any (fun e=>e.on==j&&Region.binds .any e))||(decide (i<j)&&p.after.any (fun e=>e.on==i&&Region.binds .any e)))
section
variable {P:Program} {ops:Array Oper} {R:World→World→Prop} {w0:World} {Q:Act→World→Prop}
theorem xR {a:Act}{H:List (Option Tmp × (World→Prop))}(h:∀w,R w0 w→(∀p ∈ H,p.2 w)→Q a w):ZF P ops R w0 Q [] [] a H:=h
theorem zGv {o:Oper}{l:List Oper}{ks:List Take}{a:Act}{H:List (Option Tmp × (World→Prop))}(v0:Value)
  (h:zM2 P ops R w0 o a H (fun v _=>v=v0)) (hk:ZF P ops R w0 Q l ks (a.put o.dst v0) H):ZF P ops R w0 Q (o::l) (.det v0::ks) a H:=⟨h,hk⟩
theorem zN8 {o:Oper}{l:List Oper}{ks:List Take}{a:Act}{H:List (Option Tmp × (World→Prop))}(F:Value→World→Prop)
  (hs:∀v w w',F v w→R w w'→F v w') (h:zM2 P ops R w0 o a H F) (hk:∀v,ZF P ops R w0 Q l ks (a.put o.dst v) ((o.dst,F v)::H)):ZF P ops R w0 Q (o::l) (.fact F::ks) a H:=⟨hs,h,hk⟩
theorem JK {m:Nat}(h:YG ops m=true):m≤ops.size:=by
 unfold YG at h;simp only[zG,zF] at h;exact h.1
theorem XX {m:Nat}(h:YG ops m=true){i:Nat}{o:Oper}(hm:i<m)(hi:ops[i]?=some o):(∀cs b,o.op≠.select cs b)∧∀e ∈ o.after,Region.binds .any e=true→e.on<i:=by
 unfold YG at h;simp only[zG] at h;have h1:=List.all_eq_true.1 h.2 i (List.mem_range.2 hm);simp only[hi,zG] at h1;refine⟨fun cs b e=>?_,fun e he hb=>?_⟩
 ·rw[e] at h1
  cases h1.1.1
 ·have h2:=Array.all_eq_true_iff_forall_mem.1 h1.1.2 e he;simp only[hb,Bool.not_true,Bool.false_or,zF] at h2;exact h2
theorem vG {m:Nat}(h:YG ops m=true){i j:Nat}{o p:Oper}(him:i<m)(hjm:j<m)(hi:ops[i]?=some o)(hj:ops[j]?=some p){d:Tmp}(hd:p.dst=some d) :
  (o.dst=some d→i=j)∧(d ∈ o.looksAt ops→(j<i∧∃e ∈ o.after,e.on=j∧Region.binds .any e=true)∨(i<j∧∃e ∈ p.after,e.on=i∧Region.binds .any e=true)):=by
 unfold YG at h;simp only[zG] at h;have h1:=List.all_eq_true.1 h.2 i (List.mem_range.2 him);simp only[hi,zG] at h1;have h2:=List.all_eq_true.1 h1.2 j (List.mem_range.2 hjm);simp only[hj,hd,zG,Bool.or_eq_true,zO,zE,Bool.not_eq_true',zF,Array.any_eq_true'] at h2;refine⟨fun e=>h2.1.resolve_right (fun AA=>AA e),fun hm=>?_⟩
 have hc:(o.looksAt ops).contains d=true:=by simpa using hm
 rcases h2.2 with (h3 | ⟨a,e,he,b,c⟩) | ⟨a,e,he,b,c⟩
 ·rw[hc] at h3; cases h3
 ·exact .inl ⟨a,e,he,b,c⟩
 ·exact .inr ⟨a,e,he,b,c⟩
theorem JP {listed:Array Bool}(hcl:∀i o,ops[i]?=some o→listed.getD i false=true→∀e ∈ o.after,Region.binds .any e=true→listed.getD e.on false=true) :
  ∀(f i j:Nat) (o:Oper),ops[i]?=some o→(∀e ∈ o.after,Region.binds .any e=true→listed.getD e.on false=true)→zBO ops f i j=true→listed.getD j false=true:=by
 intro f
 induction f with
 | zero=>intro i j o _ _ h; cases h
 | succ f ih=>
  intro i j o ho hl h;unfold zBO at h;simp only[ho,Array.any_eq_true',zG,Bool.or_eq_true,zO] at h;obtain⟨e,he,hb,h⟩:=h;have h1:=hl e he hb
  rcases h with h | h
  ·rw[←h]; exact h1
  ·cases hoe:ops[e.on]? with
   | none=>
    cases f with
    | zero=>cases h
    | succ f=>unfold zBO at h; simp[hoe] at h
   | some oe=>exact ih e.on j oe hoe (hcl e.on oe hoe h1) h
theorem zBe {m:Nat}(h:zBY ops m=true){i:Nat}{o:Oper}(hi:ops[i]?=some o)(hm:m≤i) :
  (∀e ∈ o.after,Region.binds .any e=true→e.on<i)∧∀j,j<i→zBO ops 8 i j=true:=by
 have AA:i<ops.size:=(Array.getElem?_eq_some_iff.1 hi).1;unfold zBY at h;have h1:=List.all_eq_true.1 h i (List.mem_range.2 AA);simp only[hi,Bool.or_eq_true,zG,zF] at h1;have h2:=h1.resolve_left (by omega);refine⟨fun e he hb=>?_,fun j hj=>List.all_eq_true.1 h2.2 j (List.mem_range.2 hj)⟩;have h3:=Array.all_eq_true_iff_forall_mem.1 h2.1 e he;simp only[hb,Bool.not_true,Bool.false_or,zF] at h3;exact h3
theorem zFq {m:Nat}(hT:zBY ops m=true){Q':Exit→Act→World→Prop}:∀(n k:Nat) (listed:Array Bool) (a:Act) (w:World),m≤k→k+n=ops.size→listed.size=ops.size→(∀j,j<ops.size→listed.getD j true=decide (j<k)) →
  (∀i o,ops[i]?=some o→listed.getD i false=true→∀e ∈ o.after,Region.binds .any e=true→listed.getD e.on false=true) →
  wpList P ops Q' (ops.toList.drop k) a w→wpAny P .any ops Q' n listed a w:=by
 intro n
 induction n with
 | zero=>
  intro k listed a w AE AL AI hl AD h
  have hk:k=ops.size:=by omega
  subst hk;refine⟨?_,by rw[List.drop_of_length_le (by simp)] at h; simpa [wpList] using h⟩
  cases hr:Region.ready .any ops listed with
  | nil=>rfl
  | cons x xs=>
   exfalso
   have hm:x ∈ Region.ready .any ops listed:=by rw[hr]; exact List.mem_cons_self
   obtain⟨h0,o,ho,_⟩:=mem_ready.1 hm;have hx:=(Array.getElem?_eq_some_iff.1 ho).1;rw[hl x hx] at h0
   simp at h0
   omega
 | succ n ih=>
  intro k listed a w AE AL AI hl AD h
  have hk:k<ops.size:=by omega
  have AF:ops[k]?=some ops[k]:=Array.getElem?_eq_getElem hk
  have AA:∀j,j<ops.size→listed.getD j false=listed.getD j true:=fun j hj=>by
   have:j<listed.size:=by omega
   simp[this]
  have only:∀i ∈ Region.ready .any ops listed,i=k:=by
   intro i hi;obtain⟨h0,o,ho,AG⟩:=mem_ready.1 hi;have AM:=(Array.getElem?_eq_some_iff.1 ho).1;rw[hl i AM] at h0
   have AN:k≤i:=by simpa using h0
   by_cases AC:i=k
   ·exact AC
   ·exfalso
    have hr:=(zBe hT ho (by omega)).2 k (by omega)
    have:=JP AD 8 i k o ho AG hr
    rw[AA k hk,hl k hk] at this
    simp at this
  have AJ:k ∈ Region.ready .any ops listed:=by
   rw[mem_ready];refine⟨by rw[hl k hk]; simp,_,AF,fun e he hb=>?_⟩
   have:=(zBe hT AF AE).1 e he hb
   rw[AA e.on (by omega),hl e.on (by omega)]
   simpa using this
  refine⟨fun hr=>(by rw[hr] at AJ; cases AJ),fun i hi=>?_⟩;have AC:=only i hi;subst AC
  have hd:ops.toList.drop i=ops[i]::ops.toList.drop (i+1):=by
   rw[List.drop_eq_getElem_cons (by simpa using hk)]
   simp
  rw[hd] at h
  have go:∀a' w',wpList P ops Q' (ops.toList.drop (i+1)) a' w'→wpAny P .any ops Q' n (listed.setIfInBounds i true) a' w':=by
   intro a' w' h';refine ih (i+1) _ a' w' (by omega) (by omega) (by simpa using AI) (fun j hj=>?_) (fun j o ho AH e he hb=>?_) h'
   ·by_cases AB:j=i
    ·subst AB
     have:j<listed.size:=by omega
     simp[this]
    ·rw[getD_set_ne true (Ne.symm AB),hl j hj]
     have:(j<i)↔(j<i+1):=by omega
     simp[this]
   ·by_cases AB:j=i
    ·subst AB;have AK:=(zBe hT ho AE).1 e he hb;apply getD_set_true;rw[AA e.on (by omega),hl e.on (by omega)]
     simpa using AK
    ·rw[getD_set_ne false (Ne.symm AB)] at AH;exact getD_set_true (AD j o ho AH e he hb)
  unfold wpOp;simp only[AF];simp only[wpList] at h
  split
  ·rename_i hw;simp only[hw,if_true] at h;exact h.imp (fun h=>Oper.wp_mono go h) id
  ·rename_i hw;simp only[hw] at h;exact go _ _ h
def YD (ops:Array Oper)(ks:List Take)(vs:Nat→Value)(a0:Act):Nat→Act
 | 0=>a0
 | i+1=>(YD ops ks vs a0 i).put ((ops[i]?).bind (·.dst)) ((ks.getD i (.det undef)).val (vs i))
def VC (ops:Array Oper)(ks:List Take)(vs:Nat→Value):Nat→List (Option Tmp × (World→Prop))
 | 0=>[]
 | i+1=>match ks.getD i (.det undef) with
  | .det _=>VC ops ks vs i
  | .fact F=>((ops[i]?).bind (·.dst),F (vs i))::VC ops ks vs i
theorem VW {ks:List Take}{vs:Nat→Value}{p:Option Tmp × (World→Prop)}:∀ {i:Nat},p ∈ VC ops ks vs i→∃j,j<i∧p.1=(ops[j]?).bind (·.dst)∧∀w,(ks.getD j (.det undef)).says (vs j) w→p.2 w
 | 0,h=>by cases h
 | i+1,h=>by
  unfold VC at h
  cases hk:ks.getD i (.det undef) with
  | det v0=>
   rw[hk] at h;obtain⟨j,hj,r⟩:=VW h;exact⟨j,by omega,r⟩
  | fact F=>
   rw[hk] at h
   rcases List.mem_cons.1 h with h | h
   ·subst h;exact⟨i,by omega,rfl,fun w hw=>by rw[hk] at hw; exact hw⟩
   ·obtain⟨j,hj,r⟩:=VW h;exact⟨j,by omega,r⟩
theorem jC (a:Act)(d:Option Tmp)(v:Value){t:Tmp}(h:d≠some t):(a.put d v).tmps[t]?=a.tmps[t]?:=by
 cases d with
 | none=>rfl
 | some d=>
  have AA:d≠t:=fun e=>h (by rw[e]);simp[Act.put,Array.getElem?_setIfInBounds_ne AA]
theorem XM (a:Act)(v:Value)(t:Tmp):(a.put (some t) v).tmps[t]?=(a.tmps[t]?).map fun _=>v:=by
 by_cases h:t<a.tmps.size
 ·simp[Act.put,h]
 ·simp[Act.put,h]
theorem XQ (a:Act)(d:Option Tmp)(v:Value):(a.put d v).defers=a.defers:=by
 cases d <;> rfl
theorem YO {ks:List Take}{vs:Nat→Value}{a0:Act}{t:Tmp}:∀ {i:Nat},(∀j,j<i→(ops[j]?).bind (·.dst)≠some t)→(YD ops ks vs a0 i).tmps[t]?=a0.tmps[t]?
 | 0,_=>rfl
 | i+1,h=>by
  unfold YD;rw[jC _ _ _ (h i (by omega))];exact YO fun j hj=>h j (by omega)
theorem zAa {m:Nat}(hB:YG ops m=true){ks:List Take}{vs:Nat→Value}{a0:Act}{t:Tmp}{j:Nat}(hd:(ops[j]?).bind (·.dst)=some t) :
  ∀ {i:Nat},j<i→i≤m→(YD ops ks vs a0 i).tmps[t]?=(a0.tmps[t]?).map fun _=>(ks.getD j (.det undef)).val (vs j)
 | 0,h,_=>by omega
 | i+1,h,him=>by
  obtain⟨o,ho,AF⟩:=Option.bind_eq_some_iff.1 hd
  have AA:∀k,k<m→k≠j→(ops[k]?).bind (·.dst)≠some t:=fun k AE hk e=>by
   obtain⟨o',AD,AB⟩:=Option.bind_eq_some_iff.1 e;exact hk ((vG hB AE (by omega) AD ho AF).1 AB)
  unfold YD
  by_cases AC:j=i
  ·subst AC;rw[hd,XM,YO fun k hk=>AA k (by omega) (by omega)]
  ·rw[jC _ _ _ (AA i (by omega) (Ne.symm AC))];exact zAa hB hd (by omega) (by omega)
theorem zBx {ks:List Take}{vs:Nat→Value}{a0:Act}:∀(i:Nat),(YD ops ks vs a0 i).defers=a0.defers
 | 0=>rfl
 | i+1=>by unfold YD; rw[XQ,zBx i]
theorem zDF {ks:List Take}{a0:Act}(vs:Nat→Value):∀(l:List Oper) (k:Nat),(∀j,j<l.length→l[j]?=ops[k+j]?)→ZF P ops R w0 Q l (ks.drop k) (YD ops ks vs a0 k) (VC ops ks vs k) →
  (∀i o,k≤i→i<k+l.length→ops[i]?=some o→(∀v w w',(ks.getD i (.det undef)).says v w→R w w'→(ks.getD i (.det undef)).says v w')∧zM2 P ops R w0 o (YD ops ks vs a0 i) (VC ops ks vs i) (ks.getD i (.det undef)).says) ∧
  ∀w,R w0 w→(∀p ∈ VC ops ks vs (k+l.length),p.2 w)→Q (YD ops ks vs a0 (k+l.length)) w
 | [],k,hl,h=>by
  refine⟨fun i o hi AB ho=>?_,by simpa [ZF] using h⟩
  simp at AB
  omega
 | o::l,k,hl,h=>by
  have h0:ops[k]?=some o:=by simpa using (hl 0 (by simp)).symm
  have AD:∀j,j<l.length→l[j]?=ops[k+1+j]?:=fun j hj=>by
   have:=hl (j+1) (by simpa using hj)
   simpa [Nat.add_assoc,Nat.add_comm 1 j] using this
  cases hd:ks.drop k with
  | nil=>rw[hd] at h; simp[ZF] at h
  | cons x ks'=>
   rw[hd] at h
   have hx:ks[k]?=some x:=by
    have:=congrArg (fun l=>l[0]?) hd
    simpa using this
   have hg:ks.getD k (.det undef)=x:=by simp[List.getD,hx]
   have AE:ks.drop (k+1)=ks':=by
    rw[←List.drop_drop,hd]; rfl
   have AA:k+(o::l).length=k+1+l.length:=by simp; omega
   cases x with
   | det v0=>
    simp only[ZF] at h
    have hA:YD ops ks vs a0 (k+1)=(YD ops ks vs a0 k).put o.dst v0:=by
     show(YD ops ks vs a0 k).put ((ops[k]?).bind (·.dst)) ((ks.getD k (.det undef)).val (vs k))=_
     rw[hg,h0]; rfl
    have hH:VC ops ks vs (k+1)=VC ops ks vs k:=by
     show(match ks.getD k (.det undef) with | .det _=>_ | .fact F=>_)=_
     rw[hg]
    obtain⟨r1,r2⟩:=zDF vs l (k+1) AD (by rw[AE,hA,hH]; exact h.2);rw[AA];refine⟨fun i oi hi AB ho=>?_,r2⟩
    by_cases AC:i=k
    ·subst AC;rw[h0] at ho;obtain rfl:=Option.some.inj ho;rw[hg];exact⟨fun v w w' e _=>e,h.1⟩
    ·exact r1 i oi (by omega) (by omega) ho
   | fact F=>
    simp only[ZF] at h
    have hA:YD ops ks vs a0 (k+1)=(YD ops ks vs a0 k).put o.dst (vs k):=by
     show(YD ops ks vs a0 k).put ((ops[k]?).bind (·.dst)) ((ks.getD k (.det undef)).val (vs k))=_
     rw[hg,h0]; rfl
    have hH:VC ops ks vs (k+1)=(o.dst,F (vs k))::VC ops ks vs k:=by
     show(match ks.getD k (.det undef) with | .det _=>_ | .fact F=>_)=_
     rw[hg,h0]; rfl
    obtain⟨r1,r2⟩:=zDF vs l (k+1) AD (by rw[AE,hA,hH]; exact h.2.2 (vs k));rw[AA];refine⟨fun i oi hi AB ho=>?_,r2⟩
    by_cases AC:i=k
    ·subst AC;rw[h0] at ho;obtain rfl:=Option.some.inj ho;rw[hg];exact⟨h.1,h.2.1⟩
    ·exact r1 i oi (by omega) (by omega) ho
theorem zGN (o:Oper)(hs:∀cs b,o.op≠.select cs b)(a a':Act)(h:∀t ∈ o.looksAt ops,a.tmps[t]?=a'.tmps[t]?):execOp a.eval o=execOp a'.eval o:=
 execOp_congr o hs fun x hx=>by
  cases x with
  | tmp t=>
   have:=h t (List.mem_append_left _ (List.mem_filterMap.2 ⟨.tmp t,by simpa using hx,rfl⟩))
   simp[Act.eval,this]
  | _=>rfl
theorem zAF (o:Oper)(a a':Act)(h:∀t ∈ o.looksAt ops,a.tmps[t]?=a'.tmps[t]?):Region.wanted o (yielded ops a.tmps)=Region.wanted o (yielded ops a'.tmps):=by
 unfold Region.wanted
 cases hg:o.guard with
 | none=>rfl
 | some gw=>
  obtain⟨g,want⟩:=gw
  have hy:yielded ops a.tmps g=yielded ops a'.tmps g:=by
   unfold yielded
   cases ht:(ops[g]?).bind (·.dst) with
   | none=>rfl
   | some t=>simp only[Option.bind_some]; rw[h t (by simp[Oper.looksAt,hg,ht])]
  simp only[hy]
theorem YH (o:Oper)(hs:∀cs b,o.op≠.select cs b)(a a':Act)(h:∀t ∈ o.looksAt ops,a.tmps[t]?=a'.tmps[t]?){w:World}{F:Value→World→Prop}:xA P a.eval o w F=xA P a'.eval o w F:=by
 unfold xA;rw[zGN o hs a a' h]
structure zD5 (P:Program)(ops:Array Oper)(m:Nat)(R:World→World→Prop)(w0:World)(ks:List Take)(a0:Act)(listed:Array Bool)(a:Act)(w:World)(vs:Nat→Value):Prop where
 world:R w0 w
 defers:a.defers=a0.defers
 facts:∀i,i<m→listed.getD i true=true→(ks.getD i (.det undef)).says (vs i) w
 done:∀i o t,i<m→ops[i]?=some o→o.dst=some t→listed.getD i true=true→a.tmps[t]?=(a0.tmps[t]?).map fun _=>vs i
 other:∀t,(∀i o,i<m→ops[i]?=some o→o.dst=some t→listed.getD i true=false)→a.tmps[t]?=a0.tmps[t]?
 closed:∀i o,ops[i]?=some o→listed.getD i false=true→∀e ∈ o.after,Region.binds .any e=true→listed.getD e.on false=true
 fresh:∀i,m≤i→i<ops.size→listed.getD i true=false
theorem zGb {a a':Act}(h:∀t:Nat,a.tmps[t]?=a'.tmps[t]?)(hd:a.defers=a'.defers):a=a':=by
 obtain⟨t,d⟩:=a;obtain⟨t',d'⟩:=a'
 simp only at h hd
 subst hd
 have:t=t':=by
  apply Array.ext_getElem?;exact h
 rw[this]
theorem zMn {m:Nat}(hR:∀a b c,R a b→R b c→R a c)(hB:YG ops m=true)(hT:zBY ops m=true){ks:List Take}{a0:Act}{Q':Exit→Act→World→Prop}
  (hst:∀i o,i<m→ops[i]?=some o→∀v w w',(ks.getD i (.det undef)).says v w→R w w'→(ks.getD i (.det undef)).says v w')
  (how:∀vs i o,i<m→ops[i]?=some o→zM2 P ops R w0 o (YD ops ks vs a0 i) (VC ops ks vs i) (ks.getD i (.det undef)).says)
  (hQ:∀vs w,R w0 w→(∀p ∈ VC ops ks vs m,p.2 w)→wpList P ops Q' (ops.toList.drop m) (YD ops ks vs a0 m) w) :
  ∀(n:Nat) (listed:Array Bool) (U:List Nat) (a:Act) (w:World) (vs:Nat→Value),listed.size=ops.size→U.length=n→U.Nodup→(∀i,i ∈ U↔i<m∧listed.getD i true=false) →
   zD5 P ops m R w0 ks a0 listed a w vs→wpAny P .any ops Q' (n+(ops.size-m)) listed a w:=by
 have Ae:=JK hB
 have AE:∀(listed:Array Bool) (j:Nat),listed.size=ops.size→j<ops.size→listed.getD j false=listed.getD j true:=fun listed j AH hj=>by
  have:j<listed.size:=by omega
  simp[this]
 intro n
 induction n with
 | zero=>
  intro listed U a w vs AH AF AS hU AA;obtain rfl:=List.length_eq_zero_iff.1 AF
  have AN:∀i,i<m→listed.getD i true=true:=fun i hi=>by
   cases hf:listed.getD i true with
   | true=>rfl
   | false=>have:=(hU i).2 ⟨hi,hf⟩; cases this
  have ea:a=YD ops ks vs a0 m:=by
   refine zGb (fun t=>?_) (by rw[AA.defers,zBx])
   by_cases AJ:∃(i:Nat) (o:Oper),i<m∧ops[i]?=some o∧o.dst=some t
   ·obtain⟨i,o,AC,hi,hd⟩:=AJ;have hl:=AN i AC;rw[AA.done i o t AC hi hd hl,zAa hB (j:=i) (by rw[hi]; exact hd) AC (zX _),Take.zEe (AA.facts i AC hl)]
   ·rw[AA.other t fun i o AC hi hd=>absurd ⟨i,o,AC,hi,hd⟩ AJ,YO];intro j hj e;obtain⟨o,ho,hd⟩:=Option.bind_eq_some_iff.1 e;exact AJ ⟨j,o,hj,ho,hd⟩
  rw[Nat.zero_add];refine zFq hT _ m listed a w (zX _) (by omega) AH (fun j hj=>?_) AA.closed ?_
  ·by_cases AD:j<m
   ·rw[AN j AD]; simp[AD]
   ·rw[AA.fresh j (by omega) hj]; simp[AD]
  ·rw[ea];refine hQ vs w AA.world fun p hp=>?_;obtain⟨j,hj,_,hs⟩:=VW hp;exact hs w (AA.facts j hj (AN j hj))
 | succ n ih=>
  intro listed U a w vs AH AF AS hU AA;rw[show n+1+(ops.size-m)=n+(ops.size-m)+1 from by omega]
  have AO:Region.ready .any ops listed≠[]:=fun hr=>by
   have AN:∀n i,i<n→i<m→listed.getD i true=true:=by
    intro n
    induction n with
    | zero=>intro i hi; omega
    | succ n ih'=>
     intro i hi AQ
     cases hf:listed.getD i true with
     | true=>rfl
     | false=>
      exfalso
      have AV:ops[i]?=some ops[i]:=Array.getElem?_eq_getElem (by omega)
      have hm:i ∈ Region.ready .any ops listed:=by
       rw[mem_ready];refine⟨hf,_,AV,fun e he hb=>?_⟩;have Ad:=(XX hB AQ AV).2 e he hb;rw[AE listed e.on AH (by omega)];exact ih' e.on (by omega) (by omega)
      rw[hr] at hm
      cases hm
   cases U with
   | nil=>simp at AF
   | cons x xs=>
    have:=(hU x).1 List.mem_cons_self
    rw[AN (x+1) x (by omega) this.1] at this
    cases this.2
  refine⟨fun hr=>absurd hr AO,fun i hi=>?_⟩;obtain⟨h0,o,ho,AI⟩:=mem_ready.1 hi;have AQ:i<ops.size:=(Array.getElem?_eq_some_iff.1 ho).1
  have AC:i<m:=by
   rcases Nat.lt_or_ge i m with h | h
   ·exact h
   ·exfalso
    cases U with
    | nil=>simp at AF
    | cons x xs=>
     have hx:=(hU x).1 List.mem_cons_self
     have:=JP AA.closed 8 i x o ho AI ((zBe hT ho h).2 x (by omega))
     rw[AE listed x AH (by omega),hx.2] at this
     cases this
  have AX:i<listed.size:=by omega
  have AM:(listed.setIfInBounds i true).getD i true=true:=by simp[AX]
  have AG:∀j,j≠i→(listed.setIfInBounds i true).getD j true=listed.getD j true:=fun j hj=>getD_set_ne true (Ne.symm hj)
  have look:∀t ∈ o.looksAt ops,a.tmps[t]?=(YD ops ks vs a0 i).tmps[t]?:=fun t ht=>by
   by_cases AJ:∃(j:Nat) (p:Oper),j<m∧ops[j]?=some p∧p.dst=some t
   ·obtain⟨j,p,AD,hj,hd⟩:=AJ
    rcases(vG hB AC AD ho hj hd).2 ht with ⟨AB,e,he,heq,hb⟩ | ⟨hij,e,he,heq,hb⟩
    ·have AW:listed.getD j true=true:=by
      have h1:=AI e he hb;rw[heq,AE listed j AH (by omega)] at h1;exact h1
     rw[AA.done j p t AD hj hd AW,zAa hB (j:=j) (by rw[hj]; exact hd) AB (by omega),Take.zEe (AA.facts j AD AW)]
    ·have AY:listed.getD j true=false:=by
      cases hf:listed.getD j true with
      | false=>rfl
      | true=>
       have:=AA.closed j p hj (by rw[AE listed j AH (by omega)]; exact hf) e he hb
       rw[heq,AE listed i AH AQ,h0] at this
       cases this
     rw[AA.other t fun k ok AP hk AK=>by
       have:=(vG hB AP AD hk hj hd).1 AK
       subst this
       exact AY,YO]
     intro k hk e';obtain⟨ok,Ac,AK⟩:=Option.bind_eq_some_iff.1 e'
     have:=(vG hB (by omega) AD Ac hj hd).1 AK
     omega
   ·rw[AA.other t fun i o AC hi hd=>absurd ⟨i,o,AC,hi,hd⟩ AJ,YO];intro j hj e;obtain⟨o,ho,hd⟩:=Option.bind_eq_some_iff.1 e;exact AJ ⟨j,o,by omega,ho,hd⟩
  have go:∀v w',(ks.getD i (.det undef)).says v w'→R w w'∨w'=w→wpAny P .any ops Q' (n+(ops.size-m)) (listed.setIfInBounds i true) (a.put o.dst v) w':=by
   intro v w' hv AL
   have AR:∀j oj,j<m→ops[j]?=some oj→∀v,(ks.getD j (.det undef)).says v w→(ks.getD j (.det undef)).says v w':=fun j oj AD hj v hs=>by
    rcases AL with AL | rfl
    ·exact hst j oj AD hj v w w' hs AL
    ·exact hs
   refine ih (listed.setIfInBounds i true) (U.erase i) _ w' (fun j=>if j=i then v else vs j) (by simpa using AH) ?_ (AS.erase i) (fun j=>?_) ?_
   ·rw[List.length_erase_of_mem ((hU i).2 ⟨AC,h0⟩),AF]; rfl
   ·rw[AS.mem_erase_iff,hU j]
    by_cases AB:j=i
    ·subst AB; simp[AX]
    ·rw[AG j AB]; simp[AB]
   ·refine⟨?_,by rw[XQ]; exact AA.defers,fun j hj hl=>?_,fun j p t AD hj hd hl=>?_,fun t ht=>?_,fun j p hj hl e he hb=>?_,fun j hj Ab=>?_⟩
    ·rcases AL with AL | rfl
     ·exact hR _ _ _ AA.world AL
     ·exact AA.world
    ·by_cases AB:j=i
     ·subst AB; simpa using hv
     ·rw[AG j AB] at hl;simp only[if_neg AB];exact AR j _ hj (Array.getElem?_eq_getElem (by omega)) _ (AA.facts j hj hl)
    ·by_cases AB:j=i
     ·subst AB;rw[ho] at hj;obtain rfl:=Option.some.inj hj
      rw[hd,XM,AA.other t fun k ok AP hk AK=>by
       have:=(vG hB AP AC hk ho hd).1 AK
       subst this
       exact h0]
      simp
     ·rw[AG j AB] at hl;rw[jC _ _ _ (fun e=>AB ((vG hB AC AD ho hj hd).1 e).symm),AA.done j p t AD hj hd hl];simp[AB]
    ·rw[jC _ _ _ (fun e=>by
      have:=ht i o AC ho e
      rw[AM] at this
      cases this)]
     refine AA.other t fun k ok AP hk AK=>?_
     have:=ht k ok AP hk AK
     by_cases AU:k=i
     ·subst AU; exact h0
     ·rwa [AG k AU] at this
    ·by_cases AB:j=i
     ·subst AB;rw[ho] at hj;obtain rfl:=Option.some.inj hj;exact getD_set_true (AI e he hb)
     ·rw[getD_set_ne false (Ne.symm AB)] at hl;exact getD_set_true (AA.closed j p hj hl e he hb)
    ·rw[AG j (by omega)];exact AA.fresh j hj Ab
  have ow:=how vs i o AC ho w AA.world (fun p hp ⟨t,hpt,ht⟩=>by
   obtain⟨j,hj,AT,hs⟩:=VW hp;rw[hpt] at AT;obtain⟨p',AZ,Aa⟩:=Option.bind_eq_some_iff.1 AT.symm
   rcases(vG hB AC (by omega) ho AZ Aa).2 ht with ⟨_,e,he,heq,hb⟩ | ⟨hij,_⟩
   ·have h1:=AI e he hb;rw[heq,AE listed j AH (by omega)] at h1;exact hs w (AA.facts j (by omega) h1)
   ·omega)
  unfold wpOp;simp only[ho];rw[←zAF o a _ look,←YH o (XX hB AC ho).1 a _ look] at ow
  split
  ·rename_i hw;simp only[hw,if_true] at ow;exact .inl (YX ow fun v w' hv=>go v w' hv.1 (.inl hv.2))
  ·rename_i hw;simp only[hw] at ow;exact go undef w ow (.inr rfl)
theorem ZZ {id:Nat}{Q':Exit→Act→World→Prop}{a:Act}{w:World}{l:List Oper}(m:Nat)(ks:List Take)(hm:P.follows .mixedOrders=true)(hB:YG l.toArray m=true)(hT:zBY l.toArray m=true)
  (hR:∀a b c,R a b→R b c→R a c) (h0:R w0 w.drew)
  (h:ZF P l.toArray R w0 (fun a' w'=>wpList P l.toArray Q' (l.drop m) a' w') (l.take m) ks a []):(Code.region id l.toArray true).wp P Q' a w:=by
 have AF:=JK hB;simp only[List.size_toArray] at AF;refine wp_region_any hm ?_
 have sp:=fun vs=>zDF (P:=P) (ops:=l.toArray) (R:=R) (w0:=w0) (Q:=fun a' w'=>wpList P l.toArray Q' (l.drop m) a' w') (ks:=ks) (a0:=a) vs (l.take m) 0 (fun j hj=>by
  have AG:j<m:=by simp at hj; omega
  simp[List.getElem?_take,AG]) (by simpa [YD,VC] using h)
 have AA:(l.take m).length=m:=by simp; omega
 rw[show l.toArray.size=m+(l.toArray.size-m) from by simp; omega];refine zMn (P:=P) (ops:=l.toArray) (R:=R) (w0:=w0) (ks:=ks) (a0:=a) (m:=m) hR hB hT ?_ ?_ ?_ m _ (List.range m) a _ (fun _=>undef) (by simp; omega) (by simp) List.nodup_range ?_ ?_
 ·exact fun i o AB hi=>((sp fun _=>undef).1 i o (zW _) (by omega) hi).1
 ·exact fun vs i o AB hi=>((sp vs).1 i o (zW _) (by omega) hi).2
 ·intro vs w' AC hp
  have:=(sp vs).2 w' AC (by rw[AA]; simpa using hp)
  rw[AA] at this
  simpa using this
 ·intro i;simp only[List.mem_range]
  constructor
  ·intro h
   have:i<m+(l.length-m):=by omega
   exact⟨h,by simp[this]⟩
  ·exact fun h=>h.1
 ·refine⟨h0,rfl,fun i hi hl=>?_,fun i o t AB hi hd hl=>?_,fun t _=>rfl,fun i o hi hl=>?_,fun i hi AD=>?_⟩
  ·have:i<m+(l.length-m):=by omega
   simp[this] at hl
  ·have:i<m+(l.length-m):=by omega
   simp[this] at hl
  ·have AE:i<l.length:=by simpa using (Array.getElem?_eq_some_iff.1 hi).1
   have:i<m+(l.length-m):=by omega
   simp[this] at hl
  ·have AE:i<l.length:=by simpa using AD
   have:i<m+(l.length-m):=by omega
   simp[this]
theorem ZP {id:Nat}{Q':Exit→Act→World→Prop}{a:Act}{w:World}{l:List Oper}{ks:List Take}(hm:P.follows .mixedOrders=true)(hB:YG l.toArray l.length=true)(hT:zBY l.toArray l.length=true)
  (h:ZF P l.toArray Ext w (fun a' w'=>Q' .normal a' w') l ks a []):(Code.region id l.toArray true).wp P Q' a w:=by
 refine ZZ (R:=Ext) l.length ks hm hB hT (fun _ _ _=>Ext.trans) (Below.drew (Below.refl _ _)) ?_;rw[List.take_length,List.drop_length];exact h
theorem xN (m:Nat){id:Nat}{Q':Exit→Act→World→Prop}{a:Act}{w:World}{l:List Oper}{ks:List Take}(hm:P.follows .mixedOrders=true)(hB:YG l.toArray m=true)(hT:zBY l.toArray m=true)
  (h:ZF P l.toArray Ext w (fun a' w'=>wpList P l.toArray Q' (l.drop m) a' w') (l.take m) ks a []):(Code.region id l.toArray true).wp P Q' a w:=
 ZZ (R:=Ext) m ks hm hB hT (fun _ _ _=>Ext.trans) (Below.drew (Below.refl _ _)) h
def zAt (o:Oper):List Tmp:=o.op.operands.toList.filterMap fun | .tmp t=>some t | _=>none
theorem xB {o:Oper}{l:List Oper}{ks:List Take}{a:Act}{H:List (Option Tmp × (World→Prop))}{d:Option Tmp}{L:List Tmp}(v0:Value)(hd:o.dst=d)(hg:o.guard=none)(hL:zAt o=L)
  (h:∀w,R w0 w→(∀p ∈ H,(∃t,p.1=some t∧t ∈ L)→p.2 w)→xA P a.eval o w (fun v w'=>v=v0∧R w w')) (hk:ZF P ops R w0 Q l ks (a.put d v0) H):ZF P ops R w0 Q (o::l) (.det v0::ks) a H:=by
 subst hd hL;refine zGv v0 (fun w hw hH=>?_) hk
 have:Region.wanted o (yielded ops a.tmps)=true:=by unfold Region.wanted; rw[hg]
 rw[if_pos this];exact h w hw fun p hp ⟨t,ht,hm⟩=>hH p hp ⟨t,ht,List.mem_append_left _ hm⟩
theorem xZ {o:Oper}{l:List Oper}{ks:List Take}{a:Act}{H:List (Option Tmp × (World→Prop))}{d:Option Tmp}{L:List Tmp}(F:Value→World→Prop)(hs:∀v w w',F v w→R w w'→F v w')(hd:o.dst=d)(hg:o.guard=none)(hL:zAt o=L)
  (h:∀w,R w0 w→(∀p ∈ H,(∃t,p.1=some t∧t ∈ L)→p.2 w)→xA P a.eval o w (fun v w'=>F v w'∧R w w')) (hk:∀v,ZF P ops R w0 Q l ks (a.put d v) ((d,F v)::H)):ZF P ops R w0 Q (o::l) (.fact F::ks) a H:=by
 subst hd hL;refine zN8 F hs (fun w hw hH=>?_) hk
 have:Region.wanted o (yielded ops a.tmps)=true:=by unfold Region.wanted; rw[hg]
 rw[if_pos this];exact h w hw fun p hp ⟨t,ht,hm⟩=>hH p hp ⟨t,ht,List.mem_append_left _ hm⟩
theorem zBq {o:Oper}{l:List Oper}{ks:List Take}{a:Act}{H:List (Option Tmp × (World→Prop))}{d:Option Tmp}{L:List Tmp}(v0:Value)(hw:Region.wanted o (yielded ops a.tmps)=true)(hd:o.dst=d)(hL:zAt o=L)
  (h:∀w,R w0 w→(∀p ∈ H,(∃t,p.1=some t∧t ∈ L)→p.2 w)→xA P a.eval o w (fun v w'=>v=v0∧R w w')) (hk:ZF P ops R w0 Q l ks (a.put d v0) H):ZF P ops R w0 Q (o::l) (.det v0::ks) a H:=by
 subst hd hL;refine zGv v0 (fun w AA hH=>?_) hk;rw[if_pos hw];exact h w AA fun p hp ⟨t,ht,hm⟩=>hH p hp ⟨t,ht,List.mem_append_left _ hm⟩
theorem zEr {o:Oper}{l:List Oper}{ks:List Take}{a:Act}{H:List (Option Tmp × (World→Prop))}{d:Option Tmp}(hw:Region.wanted o (yielded ops a.tmps)=false)(hd:o.dst=d)
  (hk:ZF P ops R w0 Q l ks (a.put d undef) H):ZF P ops R w0 Q (o::l) (.det undef::ks) a H:=by
 subst hd;refine zGv undef (fun w _ _=>?_) hk;rw[if_neg (by rw[hw]; exact Bool.false_ne_true)]
end
def Blk (w:World)(g:Nat)(t:TypeId)(cs:Array Value):Prop:=w.heap[g]?=some (.cells cs t (0,0))
section
variable {w w':World} {g:Nat} {t:TypeId} {cs:Array Value}
theorem Blk.lt (h:Blk w g t cs):g<w.heap.size:=by
 rcases Nat.lt_or_ge g w.heap.size with AB | AA
 ·exact AB
 ·unfold Blk at h; rw[Array.getElem?_eq_none AA] at h; cases h
theorem Blk.cell (h:Blk w g t cs)(i:Nat):w.cell? ⟨g,i,none⟩=cs[i]?:=cell_of_row w g i cs t (0,0) h
theorem Blk.new (w:World)(t:TypeId)(cs:Array Value):Blk (w.alloc (.cells cs t)) w.heap.size t cs:=zQ w _
theorem Blk.ext (h:Blk w g t cs)(hb:Ext w w'):Blk w' g t cs:=(hb.block g h.lt).trans h
end
theorem Ext.alloc (w:World)(o:Obj):Ext w (w.alloc o):=(Below.refl _ _).alloc (zX _) _
def zML (t:TypeId)(cs:Array Value)(v:Value)(w:World):Prop:=∃g,v=.slice (some ⟨g,0,none⟩) cs.size cs.size∧Blk w g t cs
theorem zML.ext {t:TypeId}{cs:Array Value}(v:Value)(w w':World)(h:zML t cs v w)(hb:Ext w w'):zML t cs v w':=
 let ⟨g,hv,hg⟩:=h; ⟨g,hv,hg.ext hb⟩
def zLx (t:TypeId)(cs:Array Value)(i:Nat)(v:Value)(w:World):Prop:=∃g,v=.pointer (some ⟨g,i,none⟩)∧Blk w g t cs
theorem zLx.ext {t:TypeId}{cs:Array Value}{i:Nat}(v:Value)(w w':World)(h:zLx t cs i v w)(hb:Ext w w'):zLx t cs i v w':=
 let ⟨g,hv,hg⟩:=h; ⟨g,hv,hg.ext hb⟩
theorem sQ {P:Program}{ops:Array Oper}{w0:World}{Q:Act→World→Prop}{o:Oper}{l:List Oper}{ks:List Take}{a a':Act}{H:List (Option Tmp×(World→Prop))}{d:Option Tmp}{L:List Tmp}(v0:Value)(hd:o.dst=d:=by exact rfl)(hg:o.guard=none:=by exact rfl)(hL:zAt o=L:=by exact rfl)(ha:a.put d v0=a':=by (try simp only[Act.put,yD,yE,yF]);exact rfl)(h:∀w,Ext w0 w→xA P a.eval o w (fun v w'=>v=v0∧Ext w w'):=by intro w' AA;simp[xA,go_sem];exact Ext.refl _)(hk:ZF P ops Ext w0 Q l ks a' H):ZF P ops Ext w0 Q (o::l) (.det v0::ks) a H:=xB v0 hd hg hL (fun w hw _=>h w hw) (ha ▸ hk)
theorem sP {P:Program}{ops:Array Oper}{w0:World}{Q:Act→World→Prop}{o:Oper}{l:List Oper}{ks:List Take}{a a':Act}{H:List (Option Tmp×(World→Prop))}{d:Option Tmp}{L:List Tmp}{φ:Prop}(q:φ)(v0:Value)(hd:o.dst=d:=by exact rfl)(hg:o.guard=none:=by exact rfl)(hL:zAt o=L:=by exact rfl)(ha:a.put d v0=a':=by (try simp only[Act.put,yD,yE,yF]);exact rfl)(h:φ→∀w,Ext w0 w→xA P a.eval o w (fun v w'=>v=v0∧Ext w w'):=by intro q w' AA;simp[xA,go_sem,q];exact Ext.refl _)(hk:ZF P ops Ext w0 Q l ks a' H):ZF P ops Ext w0 Q (o::l) (.det v0::ks) a H:=xB v0 hd hg hL (fun w hw _=>h q w hw) (ha ▸ hk)
theorem sL {P:Program}{ops:Array Oper}{w0:World}{Q:Act→World→Prop}{o:Oper}{l:List Oper}{ks:List Take}{a a':Act}{H:List (Option Tmp×(World→Prop))}{d:Option Tmp}{L:List Tmp}{p:Addr}{u:Value}(hc:w0.cell? p=some u)(hl:p.block<w0.heap.size)(v0:Value)(hd:o.dst=d:=by exact rfl)(hg:o.guard=none:=by exact rfl)(hL:zAt o=L:=by exact rfl)(ha:a.put d v0=a':=by (try simp only[Act.put,yD,yE,yF]);exact rfl)(h:∀w,w.cell? p=some u→xA P a.eval o w (fun v w'=>v=v0∧Ext w w'):=by intro w' cc;simp[xA,go_sem,cc];exact Ext.refl _)(hk:ZF P ops Ext w0 Q l ks a' H):ZF P ops Ext w0 Q (o::l) (.det v0::ks) a H:=xB v0 hd hg hL (fun w hw _=>h w ((hw.cell hl).trans hc)) (ha ▸ hk)
theorem sR {P:Program}{ops:Array Oper}{w0:World}{Q:Act→World→Prop}{o:Oper}{l:List Oper}{ks:List Take}{a a':Act}{H:List (Option Tmp×(World→Prop))}{d:Option Tmp}{L:List Tmp}{p:Addr}{u:Value}{φ:Prop}(hc:w0.cell? p=some u)(hl:p.block<w0.heap.size)(q:φ)(v0:Value)(hd:o.dst=d:=by exact rfl)(hg:o.guard=none:=by exact rfl)(hL:zAt o=L:=by exact rfl)(ha:a.put d v0=a':=by (try simp only[Act.put,yD,yE,yF]);exact rfl)(h:φ→∀w,w.cell? p=some u→xA P a.eval o w (fun v w'=>v=v0∧Ext w w'):=by intro q w' cc;simp[xA,go_sem,cc,q];exact Ext.refl _)(hk:ZF P ops Ext w0 Q l ks a' H):ZF P ops Ext w0 Q (o::l) (.det v0::ks) a H:=xB v0 hd hg hL (fun w hw _=>h q w ((hw.cell hl).trans hc)) (ha ▸ hk)
theorem sG {P:Program}{ops:Array Oper}{w0:World}{Q:Act→World→Prop}{o:Oper}{l:List Oper}{ks:List Take}{a a':Act}{H:List (Option Tmp×(World→Prop))}{d:Option Tmp}{L:List Tmp}{R:World→World→Prop}(hr:∀w,R w w)(v0:Value)(hd:o.dst=d:=by exact rfl)(hg:o.guard=none:=by exact rfl)(hL:zAt o=L:=by exact rfl)(ha:a.put d v0=a':=by (try simp only[Act.put,yD,yE,yF]);exact rfl)(h:(∀w,R w w)→∀w,xA P a.eval o w (fun v w'=>v=v0∧R w w'):=by intro hr w';simp[xA,go_sem];exact hr _)(hk:ZF P ops R w0 Q l ks a' H):ZF P ops R w0 Q (o::l) (.det v0::ks) a H:=xB v0 hd hg hL (fun w _ _=>h hr w) (ha ▸ hk)
theorem sW {P:Program}{ops:Array Oper}{w0:World}{Q:Act→World→Prop}{o:Oper}{l:List Oper}{ks:List Take}{a a':Act}{H:List (Option Tmp×(World→Prop))}{d:Option Tmp}{L:List Tmp}{R:World→World→Prop}{p:Addr}{u:Value}(hr:∀w,R w w)(hc:∀w,R w0 w→w.cell? p=some u)(v0:Value)(hd:o.dst=d:=by exact rfl)(hg:o.guard=none:=by exact rfl)(hL:zAt o=L:=by exact rfl)(ha:a.put d v0=a':=by (try simp only[Act.put,yD,yE,yF]);exact rfl)(h:(∀w,R w w)→∀w,w.cell? p=some u→xA P a.eval o w (fun v w'=>v=v0∧R w w'):=by intro hr w' cc;simp[xA,go_sem,cc];exact hr _)(hk:ZF P ops R w0 Q l ks a' H):ZF P ops R w0 Q (o::l) (.det v0::ks) a H:=xB v0 hd hg hL (fun w hw _=>h hr w (hc w hw)) (ha ▸ hk)
theorem sV {P:Program}{ops:Array Oper}{w0:World}{Q:Act→World→Prop}{o:Oper}{l:List Oper}{ks:List Take}{a a':Act}{H:List (Option Tmp×(World→Prop))}{d:Option Tmp}{L:List Tmp}{R:World→World→Prop}{φ:Prop}(hr:∀w,R w w)(q:φ)(v0:Value)(hd:o.dst=d:=by exact rfl)(hg:o.guard=none:=by exact rfl)(hL:zAt o=L:=by exact rfl)(ha:a.put d v0=a':=by (try simp only[Act.put,yD,yE,yF]);exact rfl)(h:(∀w,R w w)→φ→∀w,xA P a.eval o w (fun v w'=>v=v0∧R w w'):=by intro hr q w';simp[xA,go_sem,q];exact hr _)(hk:ZF P ops R w0 Q l ks a' H):ZF P ops R w0 Q (o::l) (.det v0::ks) a H:=xB v0 hd hg hL (fun w _ _=>h hr q w) (ha ▸ hk)
end Go.Proofs.YtbadjmmjbpeocaaGreat
namespace Go.Proofs.YtbadjmmjbpeocaaGreat
def vH:Int:=4611686018427387905
def YU (a:Int):Int:=max 0 (min a vH)
def xW (a b:Int):Int:=min (YU a+YU b) vH
def vC (a b:Int):Int:=min (YU a*YU b) vH
theorem YI (a:Int):0≤YU a:=by unfold YU; omega
theorem zCu (a:Int):YU a≤vH:=by unfold YU vH; omega
theorem zB3 {a:Int}(h0:0≤a)(h1:a≤vH):YU a=a:=by unfold YU; omega
theorem zE2 (a b:Int):0≤xW a b:=by have:=YI a; have:=YI b; unfold xW vH; omega
theorem zE6 (a b:Int):xW a b≤vH:=by unfold xW; omega
theorem zDw (a b:Int):0≤vC a b:=by
 have h:=Int.mul_nonneg (YI a) (YI b);unfold vC vH;omega
theorem zDC (a b:Int):vC a b≤vH:=by unfold vC; omega
theorem zPv (a b:Int):xW a b=xW b a:=by unfold xW; rw[Int.add_comm]
theorem zNx (a b:Int):vC a b=vC b a:=by unfold vC; rw[Int.mul_comm]
theorem zNZ (a b c:Int):xW (xW a b) c=xW a (xW b c):=by
 have h1:YU (xW a b)=xW a b:=zB3 (zE2 a b) (zE6 a b);have h2:YU (xW b c)=xW b c:=zB3 (zE2 b c) (zE6 b c);have ha:=YI a;have hb:=YI b;have hc:=YI c;rw[xW,h1,show xW a (xW b c)=min (YU a+xW b c) vH by rw[xW,h2]];unfold xW;generalize YU a=x at *;generalize YU b=y at *;generalize YU c=z at *;unfold vH;omega
theorem zLa {x z:Int}(hx:0≤x)(hz:0≤z):min (min x vH*z) vH=min (x*z) vH:=by
 by_cases h:x≤vH
 ·rw[show min x vH=x by omega]
 ·rw[show min x vH=vH by omega]
  by_cases h0:z=0
  ·rw[h0,Int.mul_zero,Int.mul_zero]
  ·have h1:(1:Int)≤z:=by omega
   have hm:(0:Int)≤vH:=by unfold vH; omega
   have h2:vH≤vH*z:=by
    have:=Int.mul_le_mul_of_nonneg_left h1 hm
    omega
   have h3:vH*z≤x*z:=Int.mul_le_mul_of_nonneg_right (by omega) hz;omega
theorem zL4 (a b c:Int):vC (vC a b) c=vC a (vC b c):=by
 have h1:YU (vC a b)=vC a b:=zB3 (zDw a b) (zDC a b);have h2:YU (vC b c)=vC b c:=zB3 (zDw b c) (zDC b c);have ha:=YI a;have hb:=YI b;have hc:=YI c;rw[vC,h1,show vC a (vC b c)=min (YU a*vC b c) vH by rw[vC,h2]];unfold vC;generalize YU a=x at *;generalize YU b=y at *;generalize YU c=z at *;rw[zLa (Int.mul_nonneg ha hb) hc,Int.mul_comm x (min (y*z) vH),zLa (Int.mul_nonneg hb hc) ha,Int.mul_comm (y*z) x,Int.mul_assoc]
theorem zNv (a b c:Int):vC a (xW b c)=xW (vC a b) (vC a c):=by
 have h1:YU (xW b c)=xW b c:=zB3 (zE2 b c) (zE6 b c);have h2:YU (vC a b)=vC a b:=zB3 (zDw a b) (zDC a b);have h3:YU (vC a c)=vC a c:=zB3 (zDw a c) (zDC a c);have ha:=YI a;have hb:=YI b;have hc:=YI c;rw[show vC a (xW b c)=min (YU a*xW b c) vH by rw[vC,h1],show xW (vC a b) (vC a c)=min (vC a b+vC a c) vH by rw[xW,h2,h3]];unfold xW vC;generalize YU a=x at *;generalize YU b=y at *;generalize YU c=z at *;rw[Int.mul_comm x (min (y+z) vH),zLa (by omega) ha,Int.mul_comm (y+z) x,Int.mul_add];have h4:=Int.mul_nonneg ha hb;have h5:=Int.mul_nonneg ha hc;generalize x*y=u at *;generalize x*z=v at *;unfold vH;omega
end Go.Proofs.YtbadjmmjbpeocaaGreat
namespace Go.Proofs.YtbadjmmjbpeocaaGreat
open Go Go.RowKit
theorem JG {k:IntKind}{a b:Int}(h:a=b):Ending.returned (.int k a)=.returned (.int k b):=by rw[h]
theorem zCo {a b:Bool}(h:a=b):Ending.returned (.bool a)=.returned (.bool b):=by rw[h]
def Cells (w:World)(A:Option Addr)(cs:List Value):Prop:=
 cs=[]∨∃b off,A=some ⟨b,off,none⟩∧b<w.heap.size∧∀k,k<cs.length→w.cell? ⟨b,off+k,none⟩=cs[k]?
section
variable {w w':World} {A:Option Addr} {cs:List Value}
theorem Cells.nil (w:World)(A:Option Addr):Cells w A []:=.inl rfl
theorem Cells.jL (h:Cells w A cs)(hs:w.heap.size≤w'.heap.size)(hc:∀p:Addr,p.block<w.heap.size→w'.cell? p=w.cell? p):Cells w' A cs:=by
 rcases h with h | ⟨b,AA,hA,hb,hk⟩
 ·exact .inl h
 ·exact .inr ⟨b,AA,hA,yU hb hs,fun k AB=>(hc ⟨b,AA+k,none⟩ hb).trans (hk k AB)⟩
theorem Cells.ext (h:Cells w A cs)(hx:Ext w w'):Cells w' A cs:=h.jL hx.size fun p hp=>hx.cell hp
theorem Cells.below {B:Nat}(h:Cells w A cs)(hB:∀b AA,A=some ⟨b,AA,none⟩→b<B)(hx:Below B w w'):Cells w' A cs:=by
 rcases h with h | ⟨b,AA,hA,hb,hk⟩
 ·exact .inl h
 ·exact .inr ⟨b,AA,hA,yU hb hx.size,fun k AB=>(hx.cell (p:=⟨b,AA+k,none⟩) (hB b AA hA)).trans (hk k AB)⟩
theorem Cells.at_ (h:Cells w A cs)(hn:0<cs.length):∃b off,A=some ⟨b,off,none⟩∧b<w.heap.size∧∀k,k<cs.length→w.cell? ⟨b,off+k,none⟩=cs[k]?:=by
 rcases h with rfl | h
 ·simp at hn
 ·exact h
theorem Cells.new (w:World)(t:TypeId)(cs:Array Value):Cells (w.alloc (.cells cs t)) (some ⟨w.heap.size,0,none⟩) cs.toList:=by
 refine .inr ⟨w.heap.size,0,rfl,by simp,fun k hk=>?_⟩;rw[Nat.zero_add,(Blk.new w t cs).cell k]
 simp
theorem Cells.own {base e size n c:Nat}(h:w.ownsRow base e size (.slice A n c) n cs):Cells w A cs:=by
 rcases h.2 with ⟨hv,hn⟩ | ⟨g,cap,AA,hv,_,hg,_,_,_,_⟩
 ·left
  have:=h.1
  rw[hn,Nat.zero_mul] at this;exact List.eq_nil_of_length_eq_zero this
 ·right
  have hA:A=some ⟨g,0,none⟩:=by injection hv
  have hc:c=cap:=by injection hv
  subst hA hc;refine⟨g,0,rfl,(Array.getElem?_eq_some_iff.1 hg).1,fun k hk=>?_⟩;rw[Nat.zero_add,h.cellAt k (by rw[←h.1]; exact hk)]
end
section
variable {w w':World} {g:Nat} {t:TypeId} {cs:Array Value}
theorem Blk.frozen (h:Blk w g t cs)(i:Nat):w.frozen? ⟨g,i,none⟩=false:=by
 unfold Blk at h;simp[World.frozen?,h]
theorem Blk.differ {g':Nat}{t':TypeId}{cs':Array Value}(h:Blk w g t cs)(h':Blk w g' t' cs')(hne:t≠t'):g≠g':=by
 rintro rfl;unfold Blk at h h';rw[h] at h';injection h' with h';injection h' with _ ht;exact hne ht
theorem Blk.put (h:Blk w g t cs)(i:Nat)(u:Value):Blk (w.setCell ⟨g,i,none⟩ u) g t (cs.setIfInBounds i u):=by
 unfold Blk at h ⊢;simp[World.setCell,Array.getElem?_modify,h]
theorem Blk.far (h:Blk w g t cs){p:Addr}(hp:g≠p.block)(u:Value):Blk (w.setCell p u) g t cs:=(zS w p u g hp).trans h
theorem Blk.grown {row:Option Nat}(h:Blk w g t cs)(hb:w.grownBy w' row)(hg:some g≠row):Blk w' g t cs:=(hb.block g h.lt hg).trans h
theorem Blk.alloc (h:Blk w g t cs)(o:Obj):Blk (w.alloc o) g t cs:=h.ext (Ext.alloc w o)
theorem Blk.below {B:Nat}(h:Blk w g t cs)(hb:Below B w w')(hg:g<B):Blk w' g t cs:=(hb.block g hg).trans h
theorem XV {base:Nat}{e:TypeId}{size n:Nat}{v:Value}{xs:List Value}(h:w.ownsRow base e size v n xs)(hg:Blk w g t cs)(hne:e≠t):v.ownBlock≠some g:=by
 rcases h.2 with ⟨rfl,_⟩ | ⟨g',cap,AA,rfl,_,hh,_⟩
 ·simp[Value.ownBlock]
 ·intro he
  have:g'=g:=by simpa [Value.ownBlock] using he
  subst this;exact Blk.differ (t:=e) hh hg hne rfl
theorem zPr {base:Nat}{e:TypeId}{size n:Nat}{v:Value}{xs:List Value}(h:w.ownsRow base e size v n xs){p:Addr}(hp:v.ownBlock≠some p.block)(u:Value):(w.setCell p u).ownsRow base e size v n xs:=by
 refine⟨h.1,?_⟩
 rcases h.2 with hn | ⟨g',cap,AA,rfl,hb,hh,r⟩
 ·exact .inl hn
 ·refine .inr ⟨g',cap,AA,rfl,hb,?_,r⟩;rw[zS w p u g' (fun e=>hp (by rw[e]; rfl))];exact hh
theorem zB1 {base:Nat}{e:TypeId}{size n:Nat}{v:Value}{xs:List Value}(h:w.ownsRow base e size v n xs)(hx:Ext w w'):w'.ownsRow base e size v n xs:=by
 refine⟨h.1,?_⟩
 rcases h.2 with hn | ⟨g',cap,AA,rfl,hb,hh,r⟩
 ·exact .inl hn
 ·exact .inr ⟨g',cap,AA,rfl,hb,(hx.block g' (Array.getElem?_eq_some_iff.1 hh).1).trans hh,r⟩
theorem zRd {base:Nat}{e:TypeId}{A:Option Addr}{n c:Nat}{xs:List Value}{x:Value}(h:w.ownsRow base e 1 (.slice A (n+1) c) (n+1) (xs++[x])) :
  ∃b,A=some ⟨b,0,none⟩∧b<w.heap.size∧n+1≤c∧w.cell? ⟨b,n,none⟩=some x∧w.ownsRow base e 1 (.slice A n c) n xs:=by
 have hl:=h.1
 have AA:xs.length=n:=by simp at hl; exact hl
 rcases h.2 with ⟨_,hn⟩ | ⟨g',cap,AB,hv,hb,hh,h1,h2,h3,h4⟩
 ·omega
 ·have hA:A=some ⟨g',0,none⟩:=by injection hv
  have hc:c=cap:=by injection hv
  subst hA hc;refine⟨g',rfl,(Array.getElem?_eq_some_iff.1 hh).1,h1,?_,by omega,.inr ⟨g',c,AB,rfl,hb,hh,by omega,h2,h3,?_⟩⟩
  ·rw[h.cellAt n (by omega),List.getElem?_append_right (by omega)];simp[AA]
  ·have:=congrArg (List.take n) h4
   rw[List.take_take,Nat.min_eq_left (by omega),List.take_left' AA] at this;rw[Nat.mul_one];exact this
end
structure Touch (g:Nat)(w w':World):Prop where
 os:w'.os=w.os
 tape:w'.tape=w.tape
 output:w'.output=w.output
 size:w'.heap.size=w.heap.size
 other:∀k,k≠g→w'.heap[k]?=w.heap[k]?
theorem Touch.below {g B:Nat}{w w':World}(h:Touch g w w')(hB:B≤g):Below B w w':=⟨h.os,h.tape,h.output,Nat.le_of_eq h.size.symm,fun k hk=>h.other k (by omega)⟩
theorem Touch.ext {g:Nat}{w0 w w':World}(h:Touch g w w')(hx:Ext w0 w)(hB:w0.heap.size≤g):Ext w0 w':=Below.trans hx (h.below hB)
theorem Touch.blk {g k:Nat}{w w':World}{t:TypeId}{cs:Array Value}(h:Touch g w w')(hb:Blk w k t cs)(hk:k≠g):Blk w' k t cs:=(h.other k hk).trans hb
theorem Touch.own {g:Nat}{w w':World}{base:Nat}{e:TypeId}{size n:Nat}{v:Value}{xs:List Value}(h:Touch g w w')(ho:w.ownsRow base e size v n xs)(hk:v.ownBlock≠some g):w'.ownsRow base e size v n xs:=by
 refine⟨ho.1,?_⟩
 rcases ho.2 with hn | ⟨g',cap,AA,rfl,hb,hh,r⟩
 ·exact .inl hn
 ·exact .inr ⟨g',cap,AA,rfl,hb,(h.other g' (fun e=>hk (by rw[e]; rfl))).trans hh,r⟩
theorem Touch.cells {g:Nat}{w w':World}{A:Option Addr}{cs:List Value}(h:Touch g w w')(hc:Cells w A cs)(hk:∀b AA,A=some ⟨b,AA,none⟩→b≠g):Cells w' A cs:=by
 rcases hc with hc | ⟨b,AA,hA,hb,AB⟩
 ·exact .inl hc
 ·refine .inr ⟨b,AA,hA,by rw[h.size]; exact hb,fun k AC=>?_⟩;rw[World.cell?_of_block (w:=w) (h.other b (hk b AA hA))];exact AB k AC
theorem zDE (w:World)(g:Nat)(t:TypeId)(old cs:Array Value)(h:Blk w g t old):Touch g w (w.setRow g cs)∧Blk (w.setRow g cs) g t cs:=by
 unfold Blk at *;have AA:g<w.heap.size:=(Array.getElem?_eq_some_iff.1 h).1;refine⟨⟨rfl,rfl,rfl,by simp[World.setRow],fun k hk=>?_⟩,?_⟩
 ·simp[World.setRow,Array.getElem?_modify,Ne.symm hk]
 ·simp[World.setRow,Array.getElem?_modify,h]
theorem xQ {P:Program}{ops:Array Oper}{rest:List Oper}{o:Oper}{a:Act}{w:World}{Q:Exit→Act→World→Prop}(hgd:o.guard=none)(ty:TypeId)(x y:Operand)(ho:o.op=.store ty x y)
  (g:Nat) (cells:Array Value) (hx:a.eval x=.pointer (some ⟨g,0,none⟩)) (hy:a.eval y=.agg cells)
  (t:TypeId) (old:Array Value) (hg:Blk w g t old) (hi:(P.info? ty).map (·.size)=some cells.size)
  (hold:old.size=cells.size) (h1:cells.toList.all (·.oneCell')=true)
  (h:∀w',Touch g w w'→Blk w' g t cells→wpList P ops Q rest (a.put o.dst undef) w'):wpList P ops Q (o::rest) a w:=
 wpList_store_row hgd ty x y ho g cells hx hy t old hg hi hold (by rw[←Array.all_toList]; exact h1) (h _ (zDE w g t old cells hg).1 (zDE w g t old cells hg).2)
theorem zA6 {P:Program}{ops:Array Oper}{rest:List Oper}{o:Oper}{a:Act}{w:World}{Q:Exit→Act→World→Prop}(hgd:o.guard=none)(ty:TypeId)(x:Operand)(ho:o.op=.load ty x)
  (g:Nat) (hx:a.eval x=.pointer (some ⟨g,0,none⟩)) (t:TypeId) (cs:Array Value) (d:TypeDesc) (hg:Blk w g t cs)
  (hu:P.underlying ty=some d) (hd:(match d with | .struct _ | .array _ _=>true | _=>false)=true) (hi:(P.info? ty).map (·.size)=some cs.size)
  (h:wpList P ops Q rest (a.put o.dst (.agg cs)) w):wpList P ops Q (o::rest) a w:=
 wpList_load_row hgd ty x ho g hx t cs (0,0) d hg hu hd hi h
theorem JH {P:Program}{fn:Func}{R:Ending→World→Prop}{a:Act}{w:World}{p:Tmp}{ty:TypeId}(g:Nat)(t:TypeId)(cs:Array Value)(d:TypeDesc)(h:fn.results=#[.cell p ty])(hd0:a.defers=[])
  (hp:a.tmps.getD p undef=.pointer (some ⟨g,0,none⟩)) (hb:Blk w g t cs) (hu:P.underlying ty=some d) (hd:(match d with | .struct _ | .array _ _=>true | _=>false)=true) (hi:(P.info? ty).map (·.size)=some cs.size)
  (hR:R (.returned (.agg cs)) w):bodyPost P fn R .ret a w:=
 bodyPost_ret (results_cell_row h a.tmps w g t cs (0,0) d hp hb hu hd hi) hd0 hR
theorem zBz {P:Program}{w:World}{ops:Array Oper}{rest:List Oper}{o:Oper}{a:Act}{Q:Exit→Act→World→Prop}(hgd:o.guard=none)(s x:Operand)(t:TypeId)
  (ho:o.op=.call { callee:=.builtin .append,args:=#[s,x],argTypes:=#[t,t] })
  (base:Nat) (e:TypeId) (i:TypeInfo) (z:Value) (size bytes:Nat) (ht:P.underlying t=some (.slice e)) (hi:P.info? e=some i) (hz:i.zero=some z)
  (hsize:i.size=size) (hby:i.bytes=bytes) (hzs:z.cells.size=size) (hsz:0<size)
  (v:Value) (n:Nat) (xs:List Value) (hs:a.eval s=v) (hown:w.ownsRow base e size v n xs)
  (A:Option Addr) (m c:Nat) (news:List Value) (hx:a.eval x=.slice A m c) (hc0:A=none→c=0) (hl:news.length=m*size) (hr:Cells w A news) (h1:∀u ∈ news,u.oneCell'=true)
  (h63:n+m≤maxLen) (hbytes:(n+m)*bytes≤140737488355328) (hbase:base≤w.heap.size)
  (h:∀(A':Option Addr) (c':Nat) (w':World),(A'=none→c'=0)→w'.ownsRow base e size (.slice A' (n+m) c') (n+m) (xs++news)→w.grownBy w' v.ownBlock→wpList P ops Q rest (a.put o.dst (.slice A' (n+m) c')) w'):wpList P ops Q (o::rest) a w:=by
 have form:∀(v':Value) (w':World),w'.ownsRow base e size v' (n+m) (xs++news)→∃A' c',v'=.slice A' (n+m) c'∧(A'=none→c'=0):=by
  intro v' w' AB
  rcases AB.2 with ⟨hv,hn⟩ | ⟨g,cap,AF,hv,_⟩
  ·exact⟨none,0,by rw[hv,hn],fun _=>rfl⟩
  ·exact⟨some ⟨g,0,none⟩,cap,hv,fun h=>by cases h⟩
 have AC:∀(v':Value) (w':World),w'.ownsRow base e size v' (n+m) (xs++news)→w.grownBy w' v.ownBlock→wpList P ops Q rest (a.put o.dst v') w':=by
  intro v' w' AB AD;obtain⟨A',c',rfl,h0⟩:=form v' w' AB;exact h A' c' w' h0 AB AD
 cases A with
 | none=>
  have hc:=hc0 rfl;subst hc
  have AA:news=[]:=by
   rcases hr with hr | ⟨b,AE,hA,_⟩
   ·exact hr
   ·cases hA
  subst AA
  have hm:m=0:=by
   rcases Nat.eq_zero_or_pos m with h0 | h0
   ·exact h0
   ·have:0<m*size:=Nat.mul_pos h0 hsz
    simp at hl
    omega
  subst hm;refine wpList_append_own_none hgd s x t ho base e i size ht hi v n xs hs hown hx ?_;exact AC v w (by simpa using hown) (World.grownBy.refl w _)
 | some ad=>
  refine wpList_append_own w hgd s x t ho base e i z size bytes ht hi hz hsize hby hzs hsz v n xs hs hown ad m c news hx hl (fun j u hu=>?_) h1 h63 hbytes hbase fun v' w' h2 h3 _=>AC v' w' h2 h3
  rcases hr with hr | ⟨b,AE,hA,_,hk⟩
  ·subst hr; simp at hu
  ·injection hA with hA;subst hA;have hj:j<news.length:=(List.getElem?_eq_some_iff.1 hu).1
   have:=(hk j hj).trans hu
   unfold Addr.add
   by_cases h0:j=0
   ·subst h0; simpa using this
   ·simp only[h0,if_false]; exact this
theorem zSW (x y:Int)(hx:0≤x)(hy:0≤y)(w:World):(callFunc 36 #[.int .u64 x,.int .u64 y,.int .u64 0]).run Tryz.prog w =
  .ok (.value (.tuple #[.int .u64 ((x+y) % 18446744073709551616),.int .u64 ((x+y) / 18446744073709551616)])) w:=by
 rw[run_callFunc_extern (P:=Tryz.prog) Tryz.func36 (by kernel_rfl) (by kernel_rfl) (by kernel_rfl) (e:=add64Entry) (by kernel_rfl),run_add64 x y 0 hx hy (by omega) (by omega)];simp only[Result.andThen,Int.add_zero]
def w64 (x:Int):Prop:=-9223372036854775808≤x∧x≤9223372036854775807
theorem zHw (a:Int)(h:w64 a)(w:World):Calls Tryz.prog 37 #[.int .i64 a] w fun e w'=>e=.returned (.int .i64 (YU a))∧w=w':=by
 go_enter Tryz.func37,Tryz.ntmps37
 go_wp2
 all_goals
  go_ret;refine⟨JG ?_,rfl⟩;unfold YU vH;omega
theorem zFS (a:Int)(h:w64 a)(w:World):Calls Tryz.prog 38 #[.int .i64 a] w fun e w'=>e=.returned (.int .i64 (YU a))∧w=w':=by
 go_enter Tryz.func38,Tryz.ntmps38
 go_wp2
 all_goals
  go_ret;refine⟨JG ?_,rfl⟩;unfold YU vH;omega
theorem JE (a b:Int)(ha:w64 a)(hb:w64 b)(w:World):Calls Tryz.prog 17 #[.int .i64 a,.int .i64 b] w fun e w'=>e=.returned (.int .i64 (xW a b))∧w=w':=by
 have HA:=yG ha;have HB:=yG hb;clear ha hb;have a0:=YI a;have b0:=YI b;have a1:=zCu a;have b1:=zCu b;unfold vH at a1 b1;have HE:Hid (xW a b=min (YU a+YU b) 4611686018427387905):=yG rfl
 go_enter Tryz.func17,Tryz.ntmps17
 go_wp2_with fail
 refine(zHw a HA.out w).mono ?_;rintro e w' ⟨rfl,rfl⟩
 go_wp2_with fail
 refine(zHw b HB.out w).mono ?_;rintro e w' ⟨rfl,rfl⟩;generalize YU a=x at *;generalize YU b=y at *
 have hm:(x+y) % 18446744073709551616=x+y:=by omega
 have hd:(x+y) / 18446744073709551616=0:=by omega
 have AB:=zSW x y a0 b0;rw[hm,hd] at AB
 by_cases AA:4611686018427387905<x+y
 ·have g1:decide (4611686018427387905<x+y)=true:=yS AA
  go_wp2_with fail
  go_ret;exact⟨JG (by rw[HE.out]; omega),rfl⟩
 ·have g1:decide (4611686018427387905<x+y)=false:=yR AA
  go_wp2_with fail
  go_ret;exact⟨JG (by rw[HE.out]; omega),rfl⟩
def zT9:Go.Shelf.Ren where
 f:=fun _=>39
 t:=fun n=>if n=46 then 143 else 91
 g:=fun n=>n
theorem zTB:_root_.Go.Proofs.Lays.n264 Tryz.prog zT9 where
 mixed:=by kernel_rfl
 f264:=by kernel_rfl
 t46:=by kernel_rfl
 a46:=fun _=>by kernel_rfl
 z46:=fun _=>by kernel_rfl
 v46:=fun _=>by kernel_rfl
 t53:=by kernel_rfl
 a53:=fun _=>by kernel_rfl
 z53:=fun _=>by kernel_rfl
 v53:=fun _=>by kernel_rfl
theorem zPH (x y:Nat)(hx:x<18446744073709551616)(hy:y<18446744073709551616)(w:World) :
  Calls Tryz.prog 39 #[.int .u64 x,.int .u64 y] w fun e w'=>e=.returned (.tuple #[.int .u64 ((x*y / 18446744073709551616:Nat):Int),.int .u64 ((x*y % 18446744073709551616:Nat):Int)])∧w'=w:=Any.bits_Mul64 zTB x y hx hy w
theorem JI (a b:Int)(ha:w64 a)(hb:w64 b)(w:World):Calls Tryz.prog 19 #[.int .i64 a,.int .i64 b] w fun e w'=>e=.returned (.int .i64 (vC a b))∧w=w':=by
 have HA:=yG ha;have HB:=yG hb;clear ha hb;have a0:=YI a;have b0:=YI b;have a1:=zCu a;have b1:=zCu b;unfold vH at a1 b1;have HE:Hid (vC a b=min (YU a*YU b) 4611686018427387905):=yG rfl
 go_enter Tryz.func19,Tryz.ntmps19
 go_wp2_with fail
 refine(zHw a HA.out w).mono ?_;rintro e w' ⟨rfl,rfl⟩
 go_wp2_with fail
 refine(zHw b HB.out w).mono ?_;rintro e w' ⟨rfl,rfl⟩;generalize YU a=x at *;generalize YU b=y at *;obtain⟨X,rfl⟩:=Int.eq_ofNat_of_zero_le a0;obtain⟨Y,rfl⟩:=Int.eq_ofNat_of_zero_le b0;have AA:Hid (((X*Y:Nat):Int)=(X:Int)*(Y:Int)):=yG (Int.natCast_mul X Y)
 go_wp2_with fail
 refine(zPH X Y (by omega) (by omega) w).mono ?_;rintro e w' ⟨rfl,rfl⟩;rw[←AA.out] at HE;generalize X*Y=Z at *
 by_cases AB:0<Z / 18446744073709551616
 ·have g1:decide ((0:Int)<((Z / 18446744073709551616:Nat):Int))=true:=yS (by omega);have AD:decide (0<Z / 18446744073709551616)=true:=yS AB;have HF:Hid (vC a b=4611686018427387905):=yG (by rw[HE.out]; omega);clear HE AA;generalize Z / 18446744073709551616=hi at *;generalize Z % 18446744073709551616=lo at *
  go_wp2_with fail
  go_ret;exact⟨JG HF.out.symm,rfl⟩
 ·have hz:Z / 18446744073709551616=0:=by omega
  have hm:Z % 18446744073709551616=Z:=by omega
  rw[hz,hm]
  by_cases AC:4611686018427387905<Z
  ·have g1:decide ((4611686018427387905:Int)<(Z:Int))=true:=yS (by omega);have AD:decide (4611686018427387905<Z)=true:=yS AC;have HF:Hid (vC a b=4611686018427387905):=yG (by rw[HE.out]; omega);clear HE AA hz hm AB
   go_wp2_with fail
   go_ret;exact⟨JG HF.out.symm,rfl⟩
  ·have g1:decide ((4611686018427387905:Int)<(Z:Int))=false:=yR (by omega);have AD:decide (4611686018427387905<Z)=false:=yR AC;have HF:Hid (vC a b=(Z:Int)):=yG (by rw[HE.out]; omega);clear HE AA hz hm AB
   go_wp2_with fail
   go_ret;exact⟨JG HF.out.symm,rfl⟩
end Go.Proofs.YtbadjmmjbpeocaaGreat
