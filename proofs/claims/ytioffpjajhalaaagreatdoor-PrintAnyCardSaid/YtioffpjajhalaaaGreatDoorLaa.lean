/- A law on regions that draw their order, over any program: each operation is shown once, from the facts of what it looks at; whatever order is drawn, at the end all facts hold. Conditions: the Bool 'factsB' on the region's operations; each fact stays true while the world goes on by R. -/
import Derived.WalkKit
import Derived.Lib.Hide
import Derived.Orders
import Derived.BigRegion
import Derived.Below
import Derived.Laws.OwnMore
import Derived.Deep.Draws
import Derived.Laws.Rows
set_option linter.unusedVariables false
set_option linter.unusedSimpArgs false
set_option maxRecDepth 100000
set_option maxHeartbeats 16000000
namespace Go.Proofs.YtioffpjajhalaaaGreatDoor
open Go Go.RowKit
theorem zA:type_of% @List.getElem_map:=@List.getElem_map
theorem zB:type_of% @List.length_set:=@List.length_set
theorem zC:type_of% @List.length_replicate:=@List.length_replicate
theorem zD:type_of% @bne_iff_ne:=@bne_iff_ne
theorem zE:type_of% @decide_eq_true_eq:=@decide_eq_true_eq
theorem zF:type_of% @Bool.and_eq_true:=@Bool.and_eq_true
theorem zG:type_of% @List.all_eq_true:=@List.all_eq_true
theorem zH:type_of% @Int.toNat_natCast:=@Int.toNat_natCast
theorem zI:type_of% @Array.getElem?_eq_some_iff:=@Array.getElem?_eq_some_iff
theorem zJ:type_of% @List.length_cons:=@List.length_cons
theorem zK:type_of% @List.length_nil:=@List.length_nil
theorem zL:type_of% @List.getElem?_eq_none:=@List.getElem?_eq_none
theorem zM:type_of% @List.getElem?_map:=@List.getElem?_map
theorem zN:type_of% @beq_iff_eq:=@beq_iff_eq
theorem zO:type_of% @heap_alloc_new:=@heap_alloc_new
theorem zP:type_of% @World.ownsRow_nil:=@World.ownsRow_nil
theorem zQ:type_of% @Below.heap_setCell:=@Below.heap_setCell
theorem zR:type_of% @List.mem_cons:=@List.mem_cons
theorem zS:type_of% @Nat.le_of_lt:=@Nat.le_of_lt
theorem zT:type_of% @Nat.zero_le:=@Nat.zero_le
theorem zU:type_of% @Nat.le_refl:=@Nat.le_refl
theorem zV:type_of% @List.length_pos_iff:=@List.length_pos_iff
theorem zW:type_of% @List.take_succ_eq_append_getElem:=@List.take_succ_eq_append_getElem
theorem zX:type_of% @List.foldl_append:=@List.foldl_append
theorem zY:type_of% @List.mem_of_getElem?:=@List.mem_of_getElem?
theorem zZ:type_of% @List.cons_append:=@List.cons_append
theorem yA:type_of% @List.setIfInBounds_toArray:=@List.setIfInBounds_toArray
theorem yB:type_of% @List.set_cons_succ:=@List.set_cons_succ
theorem yC:type_of% @List.set_cons_zero:=@List.set_cons_zero
theorem yD:type_of% @Lib.hid:=@Lib.hid
theorem yE:type_of% @List.getD_eq_getElem?_getD:=@List.getD_eq_getElem?_getD
theorem yF:type_of% @beq_eq_false_iff_ne:=@beq_eq_false_iff_ne
theorem yG:type_of% @List.getElem?_eq_getElem:=@List.getElem?_eq_getElem
theorem yH:type_of% @decide_eq_false_iff_not:=@decide_eq_false_iff_not
theorem yI:type_of% @List.getElem?_toArray:=@List.getElem?_toArray
theorem yJ:type_of% @List.getElem?_cons_zero:=@List.getElem?_cons_zero
theorem yK:type_of% @List.mem_singleton:=@List.mem_singleton
theorem yL:type_of% @List.getElem_mem:=@List.getElem_mem
theorem yM:type_of% @List.length_append:=@List.length_append
theorem yN:type_of% @List.length_map:=@List.length_map
theorem yO:type_of% @decide_eq_false:=@decide_eq_false
theorem yP:type_of% @decide_eq_true:=@decide_eq_true
theorem yQ:type_of% @World.size_alloc:=@World.size_alloc
theorem yR:type_of% @Nat.lt_of_lt_of_le:=@Nat.lt_of_lt_of_le
theorem yS:type_of% @List.mem_map:=@List.mem_map
theorem yT:type_of% @List.mem_append:=@List.mem_append
theorem yU:type_of% @Option.map_eq_some_iff:=@Option.map_eq_some_iff
theorem yV:type_of% @Option.some.injEq:=@Option.some.injEq
end Go.Proofs.YtioffpjajhalaaaGreatDoor
namespace Go.Proofs.YtioffpjajhalaaaGreatDoor
open Go Go.RowKit
def Ext (w w':World):Prop:=Below w.heap.size w w'
theorem Ext.refl (w:World):Ext w w:=Below.refl _ _
theorem Ext.trans {a b c:World}(h:Ext a b)(k:Ext b c):Ext a c:=Below.trans h (Below.mono k h.size)
def yY (P:Program)(ρ:Operand→Value)(o:Oper)(w:World)(F:Value→World→Prop):Prop:=
 match (execOp ρ o).run P w with
 | .ok (.value u) w'=>F u w'
 | .ok .skip w'=>F undef w'
 | .ok (.enter f args) w'=>Calls P f args w' fun e AA=>∃u,e=.returned u∧F u AA
 | _=>False
theorem yY.mono {P:Program}{ρ:Operand→Value}{o:Oper}{w:World}{F G:Value→World→Prop}(h:yY P ρ o w F)(hFG:∀v w',F v w'→G v w'):yY P ρ o w G:=by
 unfold yY at *;generalize (execOp ρ o).run P w=r at *
 cases r with
 | ok n w'=>
  cases n with
  | value u=>exact hFG _ _ h
  | skip=>exact hFG _ _ h
  | enter f args=>exact Calls.mono h fun e w'' ⟨u,he,hf⟩=>⟨u,he,hFG _ _ hf⟩
  | _=>exact h
 | halt x w'=>exact h
theorem zHY {P:Program}{o:Oper}{a:Act}{w:World}{F:Value→World→Prop}{K:Act→World→Prop}{Q:Exit→Act→World→Prop}
  (h:yY P a.eval o w F) (hk:∀v w',F v w'→K (a.put o.dst v) w'):o.wp P a w K Q:=by
 unfold yY at h;unfold Oper.wp;generalize (execOp a.eval o).run P w=r at *
 cases r with
 | ok n w'=>
  cases n with
  | value u=>exact hk _ _ h
  | skip=>exact hk _ _ h
  | enter f args=>exact Calls.mono h fun e w'' ⟨u,he,hf⟩=>by subst he; exact hk _ _ hf
  | _=>exact h.elim
 | halt x w'=>exact h.elim
inductive Take where
 | det (v:Value)
 | fact (F:Value→World→Prop)
def Take.says:Take→Value→World→Prop
 | .det v0,v,_=>v=v0
 | .fact F,v,w=>F v w
def Take.val:Take→Value→Value
 | .det v0,_=>v0
 | .fact _,v=>v
theorem Take.zIQ {k:Take}{v:Value}{w:World}(h:k.says v w):k.val v=v:=by
 cases k with
 | det v0=>exact h.symm
 | fact F=>rfl
section
variable (P:Program) (ops:Array Oper) (R:World→World→Prop) (w0:World) (Q:Act→World→Prop)
def zOX (o:Oper)(a:Act)(H:List (Option Tmp × (World→Prop)))(F:Value→World→Prop):Prop:=
 ∀w,R w0 w→(∀p ∈ H,(∃t,p.1=some t∧t ∈ o.looksAt ops)→p.2 w) →
  if Region.wanted o (yielded ops a.tmps)=true then yY P a.eval o w (fun v w'=>F v w'∧R w w') else F undef w
def ZB:List Oper→List Take→Act→List (Option Tmp × (World→Prop))→Prop
 | [],_,a,H=>∀w,R w0 w→(∀p ∈ H,p.2 w)→Q a w
 | o::l,.det v0::ks,a,H=>zOX P ops R w0 o a H (fun v _=>v=v0)∧ZB l ks (a.put o.dst v0) H
 | o::l,.fact F::ks,a,H=>(∀v w w',F v w→R w w'→F v w')∧zOX P ops R w0 o a H F∧∀v,ZB l ks (a.put o.dst v) ((o.dst,F v)::H)
 | _::_,[],_,_=>False
end
def zEG (ops:Array Oper):Nat→Nat→Nat→Bool
 | 0,_,_=>false
 | f+1,i,j=>match ops[i]? with
  | none=>false
  | some o=>o.after.any fun e=>Region.binds .any e&&(e.on==j||zEG ops f e.on j)
def zCF (ops:Array Oper)(m:Nat):Bool:=
 (List.range ops.size).all fun i=>decide (i<m)||(match ops[i]? with
  | none=>false
  | some o=>o.after.all (fun e=>!Region.binds .any e||decide (e.on<i))&&(List.range i).all fun j=>zEG ops 8 i j)
def VC (ops:Array Oper)(m:Nat):Bool:=
 decide (m≤ops.size)&&(List.range m).all fun i=>match ops[i]? with
  | none=>false
  | some o=>(match o.op with | .select _ _=>false | _=>true)&&o.after.all (fun e=>!Region.binds .any e||decide (e.on<i)) &&
   (List.range m).all fun j=>match ops[j]? with
    | none=>false
    | some p=>match p.dst with
     | none=>true
     | some d=>(i==j||o.dst != some d) &&
      (!((o.looksAt ops).contains d)||(decide (j<i)&&o.after.any (fun e=>e.on==j&&Region.binds .any e))||(decide (i<j)&&p.after.any (fun e=>e.on==i&&Region.binds .any e)))
section
variable {P:Program} {ops:Array Oper} {R:World→World→Prop} {w0:World} {Q:Act→World→Prop}
theorem xN {a:Act}{H:List (Option Tmp × (World→Prop))}(h:∀w,R w0 w→(∀p ∈ H,p.2 w)→Q a w):ZB P ops R w0 Q [] [] a H:=h
theorem zEM {o:Oper}{l:List Oper}{ks:List Take}{a:Act}{H:List (Option Tmp × (World→Prop))}(v0:Value)
  (h:zOX P ops R w0 o a H (fun v _=>v=v0)) (hk:ZB P ops R w0 Q l ks (a.put o.dst v0) H):ZB P ops R w0 Q (o::l) (.det v0::ks) a H:=⟨h,hk⟩
theorem zHb {o:Oper}{l:List Oper}{ks:List Take}{a:Act}{H:List (Option Tmp × (World→Prop))}(F:Value→World→Prop)
  (hs:∀v w w',F v w→R w w'→F v w') (h:zOX P ops R w0 o a H F) (hk:∀v,ZB P ops R w0 Q l ks (a.put o.dst v) ((o.dst,F v)::H)):ZB P ops R w0 Q (o::l) (.fact F::ks) a H:=⟨hs,h,hk⟩
theorem zDh {m:Nat}(h:VC ops m=true):m≤ops.size:=by
 unfold VC at h;simp only[zF,zE] at h;exact h.1
theorem zCx {m:Nat}(h:VC ops m=true){i:Nat}{o:Oper}(hm:i<m)(hi:ops[i]?=some o):(∀cs b,o.op≠.select cs b)∧∀e ∈ o.after,Region.binds .any e=true→e.on<i:=by
 unfold VC at h;simp only[zF] at h;have h1:=List.all_eq_true.1 h.2 i (List.mem_range.2 hm);simp only[hi,zF] at h1;refine⟨fun cs b e=>?_,fun e he hb=>?_⟩
 ·rw[e] at h1
  cases h1.1.1
 ·have h2:=Array.all_eq_true_iff_forall_mem.1 h1.1.2 e he;simp only[hb,Bool.not_true,Bool.false_or,zE] at h2;exact h2
theorem ZA {m:Nat}(h:VC ops m=true){i j:Nat}{o p:Oper}(him:i<m)(hjm:j<m)(hi:ops[i]?=some o)(hj:ops[j]?=some p){d:Tmp}(hd:p.dst=some d) :
  (o.dst=some d→i=j)∧(d ∈ o.looksAt ops→(j<i∧∃e ∈ o.after,e.on=j∧Region.binds .any e=true)∨(i<j∧∃e ∈ p.after,e.on=i∧Region.binds .any e=true)):=by
 unfold VC at h;simp only[zF] at h;have h1:=List.all_eq_true.1 h.2 i (List.mem_range.2 him);simp only[hi,zF] at h1;have h2:=List.all_eq_true.1 h1.2 j (List.mem_range.2 hjm);simp only[hj,hd,zF,Bool.or_eq_true,zN,zD,Bool.not_eq_true',zE,Array.any_eq_true'] at h2;refine⟨fun e=>h2.1.resolve_right (fun AA=>AA e),fun hm=>?_⟩
 have hc:(o.looksAt ops).contains d=true:=by simpa using hm
 rcases h2.2 with (h3 | ⟨a,e,he,b,c⟩) | ⟨a,e,he,b,c⟩
 ·rw[hc] at h3; cases h3
 ·exact .inl ⟨a,e,he,b,c⟩
 ·exact .inr ⟨a,e,he,b,c⟩
theorem zCL {listed:Array Bool}(hcl:∀i o,ops[i]?=some o→listed.getD i false=true→∀e ∈ o.after,Region.binds .any e=true→listed.getD e.on false=true) :
  ∀(f i j:Nat) (o:Oper),ops[i]?=some o→(∀e ∈ o.after,Region.binds .any e=true→listed.getD e.on false=true)→zEG ops f i j=true→listed.getD j false=true:=by
 intro f
 induction f with
 | zero=>intro i j o _ _ h; cases h
 | succ f ih=>
  intro i j o ho hl h;unfold zEG at h;simp only[ho,Array.any_eq_true',zF,Bool.or_eq_true,zN] at h;obtain⟨e,he,hb,h⟩:=h;have h1:=hl e he hb
  rcases h with h | h
  ·rw[←h]; exact h1
  ·cases hoe:ops[e.on]? with
   | none=>
    cases f with
    | zero=>cases h
    | succ f=>unfold zEG at h; simp[hoe] at h
   | some oe=>exact ih e.on j oe hoe (hcl e.on oe hoe h1) h
theorem zBv {m:Nat}(h:zCF ops m=true){i:Nat}{o:Oper}(hi:ops[i]?=some o)(hm:m≤i) :
  (∀e ∈ o.after,Region.binds .any e=true→e.on<i)∧∀j,j<i→zEG ops 8 i j=true:=by
 have AA:i<ops.size:=(Array.getElem?_eq_some_iff.1 hi).1;unfold zCF at h;have h1:=List.all_eq_true.1 h i (List.mem_range.2 AA);simp only[hi,Bool.or_eq_true,zF,zE] at h1;have h2:=h1.resolve_left (by omega);refine⟨fun e he hb=>?_,fun j hj=>List.all_eq_true.1 h2.2 j (List.mem_range.2 hj)⟩;have h3:=Array.all_eq_true_iff_forall_mem.1 h2.1 e he;simp only[hb,Bool.not_true,Bool.false_or,zE] at h3;exact h3
theorem zG0 {m:Nat}(hT:zCF ops m=true){Q':Exit→Act→World→Prop}:∀(n k:Nat) (listed:Array Bool) (a:Act) (w:World),m≤k→k+n=ops.size→listed.size=ops.size→(∀j,j<ops.size→listed.getD j true=decide (j<k)) →
  (∀i o,ops[i]?=some o→listed.getD i false=true→∀e ∈ o.after,Region.binds .any e=true→listed.getD e.on false=true) →
  wpList P ops Q' (ops.toList.drop k) a w→wpAny P .any ops Q' n listed a w:=by
 intro n
 induction n with
 | zero=>
  intro k listed a w AC AL AI hl AE h
  have hk:k=ops.size:=by omega
  subst hk;refine⟨?_,by rw[List.drop_of_length_le (by simp)] at h; simpa [wpList] using h⟩
  cases hr:Region.ready .any ops listed with
  | nil=>rfl
  | cons x xs=>
   exfalso
   have hm:x ∈ Region.ready .any ops listed:=by rw[hr]; exact List.mem_cons_self
   obtain⟨h0,o,ho,_⟩:=mem_ready.1 hm;have hx:=(Array.getElem?_eq_some_iff.1 ho).1;rw[hl x hx] at h0
   simp at h0
   omega
 | succ n ih=>
  intro k listed a w AC AL AI hl AE h
  have hk:k<ops.size:=by omega
  have AF:ops[k]?=some ops[k]:=Array.getElem?_eq_getElem hk
  have AA:∀j,j<ops.size→listed.getD j false=listed.getD j true:=fun j hj=>by
   have:j<listed.size:=by omega
   simp[this]
  have only:∀i ∈ Region.ready .any ops listed,i=k:=by
   intro i hi;obtain⟨h0,o,ho,AD⟩:=mem_ready.1 hi;have AK:=(Array.getElem?_eq_some_iff.1 ho).1;rw[hl i AK] at h0
   have AN:k≤i:=by simpa using h0
   by_cases AG:i=k
   ·exact AG
   ·exfalso
    have hr:=(zBv hT ho (by omega)).2 k (by omega)
    have:=zCL AE 8 i k o ho AD hr
    rw[AA k hk,hl k hk] at this
    simp at this
  have AH:k ∈ Region.ready .any ops listed:=by
   rw[mem_ready];refine⟨by rw[hl k hk]; simp,_,AF,fun e he hb=>?_⟩
   have:=(zBv hT AF AC).1 e he hb
   rw[AA e.on (by omega),hl e.on (by omega)]
   simpa using this
  refine⟨fun hr=>(by rw[hr] at AH; cases AH),fun i hi=>?_⟩;have AG:=only i hi;subst AG
  have hd:ops.toList.drop i=ops[i]::ops.toList.drop (i+1):=by
   rw[List.drop_eq_getElem_cons (by simpa using hk)]
   simp
  rw[hd] at h
  have go:∀a' w',wpList P ops Q' (ops.toList.drop (i+1)) a' w'→wpAny P .any ops Q' n (listed.setIfInBounds i true) a' w':=by
   intro a' w' h';refine ih (i+1) _ a' w' (by omega) (by omega) (by simpa using AI) (fun j hj=>?_) (fun j o ho AJ e he hb=>?_) h'
   ·by_cases AB:j=i
    ·subst AB
     have:j<listed.size:=by omega
     simp[this]
    ·rw[getD_set_ne true (Ne.symm AB),hl j hj]
     have:(j<i)↔(j<i+1):=by omega
     simp[this]
   ·by_cases AB:j=i
    ·subst AB;have AM:=(zBv hT ho AC).1 e he hb;apply getD_set_true;rw[AA e.on (by omega),hl e.on (by omega)]
     simpa using AM
    ·rw[getD_set_ne false (Ne.symm AB)] at AJ;exact getD_set_true (AE j o ho AJ e he hb)
  unfold wpOp;simp only[AF];simp only[wpList] at h
  split
  ·rename_i hw;simp only[hw,if_true] at h;exact h.imp (fun h=>Oper.wp_mono go h) id
  ·rename_i hw;simp only[hw] at h;exact go _ _ h
def JO (ops:Array Oper)(ks:List Take)(vs:Nat→Value)(a0:Act):Nat→Act
 | 0=>a0
 | i+1=>(JO ops ks vs a0 i).put ((ops[i]?).bind (·.dst)) ((ks.getD i (.det undef)).val (vs i))
def zBi (ops:Array Oper)(ks:List Take)(vs:Nat→Value):Nat→List (Option Tmp × (World→Prop))
 | 0=>[]
 | i+1=>match ks.getD i (.det undef) with
  | .det _=>zBi ops ks vs i
  | .fact F=>((ops[i]?).bind (·.dst),F (vs i))::zBi ops ks vs i
theorem zCe {ks:List Take}{vs:Nat→Value}{p:Option Tmp × (World→Prop)}:∀ {i:Nat},p ∈ zBi ops ks vs i→∃j,j<i∧p.1=(ops[j]?).bind (·.dst)∧∀w,(ks.getD j (.det undef)).says (vs j) w→p.2 w
 | 0,h=>by cases h
 | i+1,h=>by
  unfold zBi at h
  cases hk:ks.getD i (.det undef) with
  | det v0=>
   rw[hk] at h;obtain⟨j,hj,r⟩:=zCe h;exact⟨j,by omega,r⟩
  | fact F=>
   rw[hk] at h
   rcases List.mem_cons.1 h with h | h
   ·subst h;exact⟨i,by omega,rfl,fun w hw=>by rw[hk] at hw; exact hw⟩
   ·obtain⟨j,hj,r⟩:=zCe h;exact⟨j,by omega,r⟩
theorem VZ (a:Act)(d:Option Tmp)(v:Value){t:Tmp}(h:d≠some t):(a.put d v).tmps[t]?=a.tmps[t]?:=by
 cases d with
 | none=>rfl
 | some d=>
  have AA:d≠t:=fun e=>h (by rw[e]);simp[Act.put,Array.getElem?_setIfInBounds_ne AA]
theorem zCO (a:Act)(v:Value)(t:Tmp):(a.put (some t) v).tmps[t]?=(a.tmps[t]?).map fun _=>v:=by
 by_cases h:t<a.tmps.size
 ·simp[Act.put,h]
 ·simp[Act.put,h]
theorem zCZ (a:Act)(d:Option Tmp)(v:Value):(a.put d v).defers=a.defers:=by
 cases d <;> rfl
theorem VY {ks:List Take}{vs:Nat→Value}{a0:Act}{t:Tmp}:∀ {i:Nat},(∀j,j<i→(ops[j]?).bind (·.dst)≠some t)→(JO ops ks vs a0 i).tmps[t]?=a0.tmps[t]?
 | 0,_=>rfl
 | i+1,h=>by
  unfold JO;rw[VZ _ _ _ (h i (by omega))];exact VY fun j hj=>h j (by omega)
theorem zB6 {m:Nat}(hB:VC ops m=true){ks:List Take}{vs:Nat→Value}{a0:Act}{t:Tmp}{j:Nat}(hd:(ops[j]?).bind (·.dst)=some t) :
  ∀ {i:Nat},j<i→i≤m→(JO ops ks vs a0 i).tmps[t]?=(a0.tmps[t]?).map fun _=>(ks.getD j (.det undef)).val (vs j)
 | 0,h,_=>by omega
 | i+1,h,him=>by
  obtain⟨o,ho,AD⟩:=Option.bind_eq_some_iff.1 hd
  have AA:∀k,k<m→k≠j→(ops[k]?).bind (·.dst)≠some t:=fun k AE hk e=>by
   obtain⟨o',AF,AB⟩:=Option.bind_eq_some_iff.1 e;exact hk ((ZA hB AE (by omega) AF ho AD).1 AB)
  unfold JO
  by_cases AC:j=i
  ·subst AC;rw[hd,zCO,VY fun k hk=>AA k (by omega) (by omega)]
  ·rw[VZ _ _ _ (AA i (by omega) (Ne.symm AC))];exact zB6 hB hd (by omega) (by omega)
theorem zCI {ks:List Take}{vs:Nat→Value}{a0:Act}:∀(i:Nat),(JO ops ks vs a0 i).defers=a0.defers
 | 0=>rfl
 | i+1=>by unfold JO; rw[zCZ,zCI i]
theorem zDG {ks:List Take}{a0:Act}(vs:Nat→Value):∀(l:List Oper) (k:Nat),(∀j,j<l.length→l[j]?=ops[k+j]?)→ZB P ops R w0 Q l (ks.drop k) (JO ops ks vs a0 k) (zBi ops ks vs k) →
  (∀i o,k≤i→i<k+l.length→ops[i]?=some o→(∀v w w',(ks.getD i (.det undef)).says v w→R w w'→(ks.getD i (.det undef)).says v w')∧zOX P ops R w0 o (JO ops ks vs a0 i) (zBi ops ks vs i) (ks.getD i (.det undef)).says) ∧
  ∀w,R w0 w→(∀p ∈ zBi ops ks vs (k+l.length),p.2 w)→Q (JO ops ks vs a0 (k+l.length)) w
 | [],k,hl,h=>by
  refine⟨fun i o hi AC ho=>?_,by simpa [ZB] using h⟩
  simp at AC
  omega
 | o::l,k,hl,h=>by
  have h0:ops[k]?=some o:=by simpa using (hl 0 (by simp)).symm
  have AD:∀j,j<l.length→l[j]?=ops[k+1+j]?:=fun j hj=>by
   have:=hl (j+1) (by simpa using hj)
   simpa [Nat.add_assoc,Nat.add_comm 1 j] using this
  cases hd:ks.drop k with
  | nil=>rw[hd] at h; simp[ZB] at h
  | cons x ks'=>
   rw[hd] at h
   have hx:ks[k]?=some x:=by
    have:=congrArg (fun l=>l[0]?) hd
    simpa using this
   have hg:ks.getD k (.det undef)=x:=by simp[List.getD,hx]
   have AE:ks.drop (k+1)=ks':=by
    rw[←List.drop_drop,hd]; rfl
   have AA:k+(o::l).length=k+1+l.length:=by simp; omega
   cases x with
   | det v0=>
    simp only[ZB] at h
    have hA:JO ops ks vs a0 (k+1)=(JO ops ks vs a0 k).put o.dst v0:=by
     show(JO ops ks vs a0 k).put ((ops[k]?).bind (·.dst)) ((ks.getD k (.det undef)).val (vs k))=_
     rw[hg,h0]; rfl
    have hH:zBi ops ks vs (k+1)=zBi ops ks vs k:=by
     show(match ks.getD k (.det undef) with | .det _=>_ | .fact F=>_)=_
     rw[hg]
    obtain⟨r1,r2⟩:=zDG vs l (k+1) AD (by rw[AE,hA,hH]; exact h.2);rw[AA];refine⟨fun i oi hi AC ho=>?_,r2⟩
    by_cases AB:i=k
    ·subst AB;rw[h0] at ho;obtain rfl:=Option.some.inj ho;rw[hg];exact⟨fun v w w' e _=>e,h.1⟩
    ·exact r1 i oi (by omega) (by omega) ho
   | fact F=>
    simp only[ZB] at h
    have hA:JO ops ks vs a0 (k+1)=(JO ops ks vs a0 k).put o.dst (vs k):=by
     show(JO ops ks vs a0 k).put ((ops[k]?).bind (·.dst)) ((ks.getD k (.det undef)).val (vs k))=_
     rw[hg,h0]; rfl
    have hH:zBi ops ks vs (k+1)=(o.dst,F (vs k))::zBi ops ks vs k:=by
     show(match ks.getD k (.det undef) with | .det _=>_ | .fact F=>_)=_
     rw[hg,h0]; rfl
    obtain⟨r1,r2⟩:=zDG vs l (k+1) AD (by rw[AE,hA,hH]; exact h.2.2 (vs k));rw[AA];refine⟨fun i oi hi AC ho=>?_,r2⟩
    by_cases AB:i=k
    ·subst AB;rw[h0] at ho;obtain rfl:=Option.some.inj ho;rw[hg];exact⟨h.1,h.2.1⟩
    ·exact r1 i oi (by omega) (by omega) ho
theorem zE5 (o:Oper)(hs:∀cs b,o.op≠.select cs b)(a a':Act)(h:∀t ∈ o.looksAt ops,a.tmps[t]?=a'.tmps[t]?):execOp a.eval o=execOp a'.eval o:=
 execOp_congr o hs fun x hx=>by
  cases x with
  | tmp t=>
   have:=h t (List.mem_append_left _ (List.mem_filterMap.2 ⟨.tmp t,by simpa using hx,rfl⟩))
   simp[Act.eval,this]
  | _=>rfl
theorem zFh (o:Oper)(a a':Act)(h:∀t ∈ o.looksAt ops,a.tmps[t]?=a'.tmps[t]?):Region.wanted o (yielded ops a.tmps)=Region.wanted o (yielded ops a'.tmps):=by
 unfold Region.wanted
 cases hg:o.guard with
 | none=>rfl
 | some gw=>
  obtain⟨g,want⟩:=gw
  have hy:yielded ops a.tmps g=yielded ops a'.tmps g:=by
   unfold yielded
   cases ht:(ops[g]?).bind (·.dst) with
   | none=>rfl
   | some t=>simp only[Option.bind_some]; rw[h t (by simp[Oper.looksAt,hg,ht])]
  simp only[hy]
theorem zDU (o:Oper)(hs:∀cs b,o.op≠.select cs b)(a a':Act)(h:∀t ∈ o.looksAt ops,a.tmps[t]?=a'.tmps[t]?){w:World}{F:Value→World→Prop}:yY P a.eval o w F=yY P a'.eval o w F:=by
 unfold yY;rw[zE5 o hs a a' h]
structure zSd (P:Program)(ops:Array Oper)(m:Nat)(R:World→World→Prop)(w0:World)(ks:List Take)(a0:Act)(listed:Array Bool)(a:Act)(w:World)(vs:Nat→Value):Prop where
 world:R w0 w
 defers:a.defers=a0.defers
 facts:∀i,i<m→listed.getD i true=true→(ks.getD i (.det undef)).says (vs i) w
 done:∀i o t,i<m→ops[i]?=some o→o.dst=some t→listed.getD i true=true→a.tmps[t]?=(a0.tmps[t]?).map fun _=>vs i
 other:∀t,(∀i o,i<m→ops[i]?=some o→o.dst=some t→listed.getD i true=false)→a.tmps[t]?=a0.tmps[t]?
 closed:∀i o,ops[i]?=some o→listed.getD i false=true→∀e ∈ o.after,Region.binds .any e=true→listed.getD e.on false=true
 fresh:∀i,m≤i→i<ops.size→listed.getD i true=false
theorem zNx {a a':Act}(h:∀t:Nat,a.tmps[t]?=a'.tmps[t]?)(hd:a.defers=a'.defers):a=a':=by
 obtain⟨t,d⟩:=a;obtain⟨t',d'⟩:=a'
 simp only at h hd
 subst hd
 have:t=t':=by
  apply Array.ext_getElem?;exact h
 rw[this]
theorem zJQ {m:Nat}(hR:∀a b c,R a b→R b c→R a c)(hB:VC ops m=true)(hT:zCF ops m=true){ks:List Take}{a0:Act}{Q':Exit→Act→World→Prop}
  (hst:∀i o,i<m→ops[i]?=some o→∀v w w',(ks.getD i (.det undef)).says v w→R w w'→(ks.getD i (.det undef)).says v w')
  (how:∀vs i o,i<m→ops[i]?=some o→zOX P ops R w0 o (JO ops ks vs a0 i) (zBi ops ks vs i) (ks.getD i (.det undef)).says)
  (hQ:∀vs w,R w0 w→(∀p ∈ zBi ops ks vs m,p.2 w)→wpList P ops Q' (ops.toList.drop m) (JO ops ks vs a0 m) w) :
  ∀(n:Nat) (listed:Array Bool) (U:List Nat) (a:Act) (w:World) (vs:Nat→Value),listed.size=ops.size→U.length=n→U.Nodup→(∀i,i ∈ U↔i<m∧listed.getD i true=false) →
   zSd P ops m R w0 ks a0 listed a w vs→wpAny P .any ops Q' (n+(ops.size-m)) listed a w:=by
 have Ae:=zDh hB
 have AE:∀(listed:Array Bool) (j:Nat),listed.size=ops.size→j<ops.size→listed.getD j false=listed.getD j true:=fun listed j AH hj=>by
  have:j<listed.size:=by omega
  simp[this]
 intro n
 induction n with
 | zero=>
  intro listed U a w vs AH AF AQ hU AA;obtain rfl:=List.length_eq_zero_iff.1 AF
  have AO:∀i,i<m→listed.getD i true=true:=fun i hi=>by
   cases hf:listed.getD i true with
   | true=>rfl
   | false=>have:=(hU i).2 ⟨hi,hf⟩; cases this
  have ea:a=JO ops ks vs a0 m:=by
   refine zNx (fun t=>?_) (by rw[AA.defers,zCI])
   by_cases AJ:∃(i:Nat) (o:Oper),i<m∧ops[i]?=some o∧o.dst=some t
   ·obtain⟨i,o,AB,hi,hd⟩:=AJ;have hl:=AO i AB;rw[AA.done i o t AB hi hd hl,zB6 hB (j:=i) (by rw[hi]; exact hd) AB (zU _),Take.zIQ (AA.facts i AB hl)]
   ·rw[AA.other t fun i o AB hi hd=>absurd ⟨i,o,AB,hi,hd⟩ AJ,VY];intro j hj e;obtain⟨o,ho,hd⟩:=Option.bind_eq_some_iff.1 e;exact AJ ⟨j,o,hj,ho,hd⟩
  rw[Nat.zero_add];refine zG0 hT _ m listed a w (zU _) (by omega) AH (fun j hj=>?_) AA.closed ?_
  ·by_cases AD:j<m
   ·rw[AO j AD]; simp[AD]
   ·rw[AA.fresh j (by omega) hj]; simp[AD]
  ·rw[ea];refine hQ vs w AA.world fun p hp=>?_;obtain⟨j,hj,_,hs⟩:=zCe hp;exact hs w (AA.facts j hj (AO j hj))
 | succ n ih=>
  intro listed U a w vs AH AF AQ hU AA;rw[show n+1+(ops.size-m)=n+(ops.size-m)+1 from by omega]
  have AP:Region.ready .any ops listed≠[]:=fun hr=>by
   have AO:∀n i,i<n→i<m→listed.getD i true=true:=by
    intro n
    induction n with
    | zero=>intro i hi; omega
    | succ n ih'=>
     intro i hi AS
     cases hf:listed.getD i true with
     | true=>rfl
     | false=>
      exfalso
      have AX:ops[i]?=some ops[i]:=Array.getElem?_eq_getElem (by omega)
      have hm:i ∈ Region.ready .any ops listed:=by
       rw[mem_ready];refine⟨hf,_,AX,fun e he hb=>?_⟩;have Aa:=(zCx hB AS AX).2 e he hb;rw[AE listed e.on AH (by omega)];exact ih' e.on (by omega) (by omega)
      rw[hr] at hm
      cases hm
   cases U with
   | nil=>simp at AF
   | cons x xs=>
    have:=(hU x).1 List.mem_cons_self
    rw[AO (x+1) x (by omega) this.1] at this
    cases this.2
  refine⟨fun hr=>absurd hr AP,fun i hi=>?_⟩;obtain⟨h0,o,ho,AI⟩:=mem_ready.1 hi;have AS:i<ops.size:=(Array.getElem?_eq_some_iff.1 ho).1
  have AB:i<m:=by
   rcases Nat.lt_or_ge i m with h | h
   ·exact h
   ·exfalso
    cases U with
    | nil=>simp at AF
    | cons x xs=>
     have hx:=(hU x).1 List.mem_cons_self
     have:=zCL AA.closed 8 i x o ho AI ((zBv hT ho h).2 x (by omega))
     rw[AE listed x AH (by omega),hx.2] at this
     cases this
  have AW:i<listed.size:=by omega
  have AL:(listed.setIfInBounds i true).getD i true=true:=by simp[AW]
  have AG:∀j,j≠i→(listed.setIfInBounds i true).getD j true=listed.getD j true:=fun j hj=>getD_set_ne true (Ne.symm hj)
  have AM:∀t ∈ o.looksAt ops,a.tmps[t]?=(JO ops ks vs a0 i).tmps[t]?:=fun t ht=>by
   by_cases AJ:∃(j:Nat) (p:Oper),j<m∧ops[j]?=some p∧p.dst=some t
   ·obtain⟨j,p,AD,hj,hd⟩:=AJ
    rcases(ZA hB AB AD ho hj hd).2 ht with ⟨AC,e,he,heq,hb⟩ | ⟨hij,e,he,heq,hb⟩
    ·have AT:listed.getD j true=true:=by
      have h1:=AI e he hb;rw[heq,AE listed j AH (by omega)] at h1;exact h1
     rw[AA.done j p t AD hj hd AT,zB6 hB (j:=j) (by rw[hj]; exact hd) AC (by omega),Take.zIQ (AA.facts j AD AT)]
    ·have Ad:listed.getD j true=false:=by
      cases hf:listed.getD j true with
      | false=>rfl
      | true=>
       have:=AA.closed j p hj (by rw[AE listed j AH (by omega)]; exact hf) e he hb
       rw[heq,AE listed i AH AS,h0] at this
       cases this
     rw[AA.other t fun k ok AN hk hdk=>by
       have:=(ZA hB AN AD hk hj hd).1 hdk
       subst this
       exact Ad,VY]
     intro k hk e';obtain⟨ok,AY,hdk⟩:=Option.bind_eq_some_iff.1 e'
     have:=(ZA hB (by omega) AD AY hj hd).1 hdk
     omega
   ·rw[AA.other t fun i o AB hi hd=>absurd ⟨i,o,AB,hi,hd⟩ AJ,VY];intro j hj e;obtain⟨o,ho,hd⟩:=Option.bind_eq_some_iff.1 e;exact AJ ⟨j,o,by omega,ho,hd⟩
  have go:∀v w',(ks.getD i (.det undef)).says v w'→R w w'∨w'=w→wpAny P .any ops Q' (n+(ops.size-m)) (listed.setIfInBounds i true) (a.put o.dst v) w':=by
   intro v w' hv AK
   have AR:∀j oj,j<m→ops[j]?=some oj→∀v,(ks.getD j (.det undef)).says v w→(ks.getD j (.det undef)).says v w':=fun j oj AD hj v hs=>by
    rcases AK with AK | rfl
    ·exact hst j oj AD hj v w w' hs AK
    ·exact hs
   refine ih (listed.setIfInBounds i true) (U.erase i) _ w' (fun j=>if j=i then v else vs j) (by simpa using AH) ?_ (AQ.erase i) (fun j=>?_) ?_
   ·rw[List.length_erase_of_mem ((hU i).2 ⟨AB,h0⟩),AF]; rfl
   ·rw[AQ.mem_erase_iff,hU j]
    by_cases AC:j=i
    ·subst AC; simp[AW]
    ·rw[AG j AC]; simp[AC]
   ·refine⟨?_,by rw[zCZ]; exact AA.defers,fun j hj hl=>?_,fun j p t AD hj hd hl=>?_,fun t ht=>?_,fun j p hj hl e he hb=>?_,fun j hj AZ=>?_⟩
    ·rcases AK with AK | rfl
     ·exact hR _ _ _ AA.world AK
     ·exact AA.world
    ·by_cases AC:j=i
     ·subst AC; simpa using hv
     ·rw[AG j AC] at hl;simp only[if_neg AC];exact AR j _ hj (Array.getElem?_eq_getElem (by omega)) _ (AA.facts j hj hl)
    ·by_cases AC:j=i
     ·subst AC;rw[ho] at hj;obtain rfl:=Option.some.inj hj
      rw[hd,zCO,AA.other t fun k ok AN hk hdk=>by
       have:=(ZA hB AN AB hk ho hd).1 hdk
       subst this
       exact h0]
      simp
     ·rw[AG j AC] at hl;rw[VZ _ _ _ (fun e=>AC ((ZA hB AB AD ho hj hd).1 e).symm),AA.done j p t AD hj hd hl];simp[AC]
    ·rw[VZ _ _ _ (fun e=>by
      have:=ht i o AB ho e
      rw[AL] at this
      cases this)]
     refine AA.other t fun k ok AN hk hdk=>?_
     have:=ht k ok AN hk hdk
     by_cases AU:k=i
     ·subst AU; exact h0
     ·rwa [AG k AU] at this
    ·by_cases AC:j=i
     ·subst AC;rw[ho] at hj;obtain rfl:=Option.some.inj hj;exact getD_set_true (AI e he hb)
     ·rw[getD_set_ne false (Ne.symm AC)] at hl;exact getD_set_true (AA.closed j p hj hl e he hb)
    ·rw[AG j (by omega)];exact AA.fresh j hj AZ
  have ow:=how vs i o AB ho w AA.world (fun p hp ⟨t,hpt,ht⟩=>by
   obtain⟨j,hj,AV,hs⟩:=zCe hp;rw[hpt] at AV;obtain⟨p',Ac,Ab⟩:=Option.bind_eq_some_iff.1 AV.symm
   rcases(ZA hB AB (by omega) ho Ac Ab).2 ht with ⟨_,e,he,heq,hb⟩ | ⟨hij,_⟩
   ·have h1:=AI e he hb;rw[heq,AE listed j AH (by omega)] at h1;exact hs w (AA.facts j (by omega) h1)
   ·omega)
  unfold wpOp;simp only[ho];rw[←zFh o a _ AM,←zDU o (zCx hB AB ho).1 a _ AM] at ow
  split
  ·rename_i hw;simp only[hw,if_true] at ow;exact .inl (zHY ow fun v w' hv=>go v w' hv.1 (.inl hv.2))
  ·rename_i hw;simp only[hw] at ow;exact go undef w ow (.inr rfl)
theorem VM {id:Nat}{Q':Exit→Act→World→Prop}{a:Act}{w:World}{l:List Oper}(m:Nat)(ks:List Take)(hm:P.follows .mixedOrders=true)(hB:VC l.toArray m=true)(hT:zCF l.toArray m=true)
  (hR:∀a b c,R a b→R b c→R a c) (h0:R w0 w.drew)
  (h:ZB P l.toArray R w0 (fun a' w'=>wpList P l.toArray Q' (l.drop m) a' w') (l.take m) ks a []):(Code.region id l.toArray true).wp P Q' a w:=by
 have AE:=zDh hB;simp only[List.size_toArray] at AE;refine wp_region_any hm ?_
 have sp:=fun vs=>zDG (P:=P) (ops:=l.toArray) (R:=R) (w0:=w0) (Q:=fun a' w'=>wpList P l.toArray Q' (l.drop m) a' w') (ks:=ks) (a0:=a) vs (l.take m) 0 (fun j hj=>by
  have AG:j<m:=by simp at hj; omega
  simp[List.getElem?_take,AG]) (by simpa [JO,zBi] using h)
 have AA:(l.take m).length=m:=by simp; omega
 rw[show l.toArray.size=m+(l.toArray.size-m) from by simp; omega];refine zJQ (P:=P) (ops:=l.toArray) (R:=R) (w0:=w0) (ks:=ks) (a0:=a) (m:=m) hR hB hT ?_ ?_ ?_ m _ (List.range m) a _ (fun _=>undef) (by simp; omega) (by simp) List.nodup_range ?_ ?_
 ·exact fun i o AB hi=>((sp fun _=>undef).1 i o (zT _) (by omega) hi).1
 ·exact fun vs i o AB hi=>((sp vs).1 i o (zT _) (by omega) hi).2
 ·intro vs w' AC hp
  have:=(sp vs).2 w' AC (by rw[AA]; simpa using hp)
  rw[AA] at this
  simpa using this
 ·intro i;simp only[List.mem_range]
  constructor
  ·intro h
   have:i<m+(l.length-m):=by omega
   exact⟨h,by simp[this]⟩
  ·exact fun h=>h.1
 ·refine⟨h0,rfl,fun i hi hl=>?_,fun i o t AB hi hd hl=>?_,fun t _=>rfl,fun i o hi hl=>?_,fun i hi AF=>?_⟩
  ·have:i<m+(l.length-m):=by omega
   simp[this] at hl
  ·have:i<m+(l.length-m):=by omega
   simp[this] at hl
  ·have AD:i<l.length:=by simpa using (Array.getElem?_eq_some_iff.1 hi).1
   have:i<m+(l.length-m):=by omega
   simp[this] at hl
  ·have AD:i<l.length:=by simpa using AF
   have:i<m+(l.length-m):=by omega
   simp[this]
theorem xY {id:Nat}{Q':Exit→Act→World→Prop}{a:Act}{w:World}{l:List Oper}{ks:List Take}(hm:P.follows .mixedOrders=true)(hB:VC l.toArray l.length=true)(hT:zCF l.toArray l.length=true)
  (h:ZB P l.toArray Ext w (fun a' w'=>Q' .normal a' w') l ks a []):(Code.region id l.toArray true).wp P Q' a w:=by
 refine VM (R:=Ext) l.length ks hm hB hT (fun _ _ _=>Ext.trans) (Below.drew (Below.refl _ _)) ?_;rw[List.take_length,List.drop_length];exact h
theorem xI (m:Nat){id:Nat}{Q':Exit→Act→World→Prop}{a:Act}{w:World}{l:List Oper}{ks:List Take}(hm:P.follows .mixedOrders=true)(hB:VC l.toArray m=true)(hT:zCF l.toArray m=true)
  (h:ZB P l.toArray Ext w (fun a' w'=>wpList P l.toArray Q' (l.drop m) a' w') (l.take m) ks a []):(Code.region id l.toArray true).wp P Q' a w:=
 VM (R:=Ext) m ks hm hB hT (fun _ _ _=>Ext.trans) (Below.drew (Below.refl _ _)) h
def JW (o:Oper):List Tmp:=o.op.operands.toList.filterMap fun | .tmp t=>some t | _=>none
theorem yZ {o:Oper}{l:List Oper}{ks:List Take}{a:Act}{H:List (Option Tmp × (World→Prop))}{d:Option Tmp}{L:List Tmp}(v0:Value)(hd:o.dst=d)(hg:o.guard=none)(hL:JW o=L)
  (h:∀w,R w0 w→(∀p ∈ H,(∃t,p.1=some t∧t ∈ L)→p.2 w)→yY P a.eval o w (fun v w'=>v=v0∧R w w')) (hk:ZB P ops R w0 Q l ks (a.put d v0) H):ZB P ops R w0 Q (o::l) (.det v0::ks) a H:=by
 subst hd hL;refine zEM v0 (fun w hw hH=>?_) hk
 have:Region.wanted o (yielded ops a.tmps)=true:=by unfold Region.wanted; rw[hg]
 rw[if_pos this];exact h w hw fun p hp ⟨t,ht,hm⟩=>hH p hp ⟨t,ht,List.mem_append_left _ hm⟩
theorem vA {o:Oper}{l:List Oper}{ks:List Take}{a:Act}{H:List (Option Tmp × (World→Prop))}{d:Option Tmp}{L:List Tmp}(F:Value→World→Prop)(hs:∀v w w',F v w→R w w'→F v w')(hd:o.dst=d)(hg:o.guard=none)(hL:JW o=L)
  (h:∀w,R w0 w→(∀p ∈ H,(∃t,p.1=some t∧t ∈ L)→p.2 w)→yY P a.eval o w (fun v w'=>F v w'∧R w w')) (hk:∀v,ZB P ops R w0 Q l ks (a.put d v) ((d,F v)::H)):ZB P ops R w0 Q (o::l) (.fact F::ks) a H:=by
 subst hd hL;refine zHb F hs (fun w hw hH=>?_) hk
 have:Region.wanted o (yielded ops a.tmps)=true:=by unfold Region.wanted; rw[hg]
 rw[if_pos this];exact h w hw fun p hp ⟨t,ht,hm⟩=>hH p hp ⟨t,ht,List.mem_append_left _ hm⟩
theorem xR {o:Oper}{l:List Oper}{ks:List Take}{a:Act}{H:List (Option Tmp × (World→Prop))}{d:Option Tmp}{L:List Tmp}(v0:Value)(hw:Region.wanted o (yielded ops a.tmps)=true)(hd:o.dst=d)(hL:JW o=L)
  (h:∀w,R w0 w→(∀p ∈ H,(∃t,p.1=some t∧t ∈ L)→p.2 w)→yY P a.eval o w (fun v w'=>v=v0∧R w w')) (hk:ZB P ops R w0 Q l ks (a.put d v0) H):ZB P ops R w0 Q (o::l) (.det v0::ks) a H:=by
 subst hd hL;refine zEM v0 (fun w AA hH=>?_) hk;rw[if_pos hw];exact h w AA fun p hp ⟨t,ht,hm⟩=>hH p hp ⟨t,ht,List.mem_append_left _ hm⟩
theorem xQ {o:Oper}{l:List Oper}{ks:List Take}{a:Act}{H:List (Option Tmp × (World→Prop))}{d:Option Tmp}(hw:Region.wanted o (yielded ops a.tmps)=false)(hd:o.dst=d)
  (hk:ZB P ops R w0 Q l ks (a.put d undef) H):ZB P ops R w0 Q (o::l) (.det undef::ks) a H:=by
 subst hd;refine zEM undef (fun w _ _=>?_) hk;rw[if_neg (by rw[hw]; exact Bool.false_ne_true)]
end
def Blk (w:World)(g:Nat)(t:TypeId)(cs:Array Value):Prop:=w.heap[g]?=some (.cells cs t (0,0))
section
variable {w w':World} {g:Nat} {t:TypeId} {cs:Array Value}
theorem Blk.lt (h:Blk w g t cs):g<w.heap.size:=by
 rcases Nat.lt_or_ge g w.heap.size with AA | AB
 ·exact AA
 ·unfold Blk at h; rw[Array.getElem?_eq_none AB] at h; cases h
theorem Blk.cell (h:Blk w g t cs)(i:Nat):w.cell? ⟨g,i,none⟩=cs[i]?:=cell_of_row w g i cs t (0,0) h
theorem Blk.new (w:World)(t:TypeId)(cs:Array Value):Blk (w.alloc (.cells cs t)) w.heap.size t cs:=zO w _
theorem Blk.ext (h:Blk w g t cs)(hb:Ext w w'):Blk w' g t cs:=(hb.block g h.lt).trans h
end
theorem Ext.alloc (w:World)(o:Obj):Ext w (w.alloc o):=(Below.refl _ _).alloc (zU _) _
def zKm (t:TypeId)(cs:Array Value)(v:Value)(w:World):Prop:=∃g,v=.slice (some ⟨g,0,none⟩) cs.size cs.size∧Blk w g t cs
theorem zKm.ext {t:TypeId}{cs:Array Value}(v:Value)(w w':World)(h:zKm t cs v w)(hb:Ext w w'):zKm t cs v w':=
 let ⟨g,hv,hg⟩:=h; ⟨g,hv,hg.ext hb⟩
def zI4 (t:TypeId)(cs:Array Value)(i:Nat)(v:Value)(w:World):Prop:=∃g,v=.pointer (some ⟨g,i,none⟩)∧Blk w g t cs
theorem zI4.ext {t:TypeId}{cs:Array Value}{i:Nat}(v:Value)(w w':World)(h:zI4 t cs i v w)(hb:Ext w w'):zI4 t cs i v w':=
 let ⟨g,hv,hg⟩:=h; ⟨g,hv,hg.ext hb⟩
theorem sQ {P:Program}{ops:Array Oper}{w0:World}{Q:Act→World→Prop}{o:Oper}{l:List Oper}{ks:List Take}{a a':Act}{H:List (Option Tmp×(World→Prop))}{d:Option Tmp}{L:List Tmp}(v0:Value)(hd:o.dst=d:=by exact rfl)(hg:o.guard=none:=by exact rfl)(hL:JW o=L:=by exact rfl)(ha:a.put d v0=a':=by (try simp only[Act.put,yA,yB,yC]);exact rfl)(h:∀w,Ext w0 w→yY P a.eval o w (fun v w'=>v=v0∧Ext w w'):=by intro w' AA;simp[yY,go_sem];exact Ext.refl _)(hk:ZB P ops Ext w0 Q l ks a' H):ZB P ops Ext w0 Q (o::l) (.det v0::ks) a H:=yZ v0 hd hg hL (fun w hw _=>h w hw) (ha ▸ hk)
theorem sP {P:Program}{ops:Array Oper}{w0:World}{Q:Act→World→Prop}{o:Oper}{l:List Oper}{ks:List Take}{a a':Act}{H:List (Option Tmp×(World→Prop))}{d:Option Tmp}{L:List Tmp}{φ:Prop}(q:φ)(v0:Value)(hd:o.dst=d:=by exact rfl)(hg:o.guard=none:=by exact rfl)(hL:JW o=L:=by exact rfl)(ha:a.put d v0=a':=by (try simp only[Act.put,yA,yB,yC]);exact rfl)(h:φ→∀w,Ext w0 w→yY P a.eval o w (fun v w'=>v=v0∧Ext w w'):=by intro q w' AA;simp[yY,go_sem,q];exact Ext.refl _)(hk:ZB P ops Ext w0 Q l ks a' H):ZB P ops Ext w0 Q (o::l) (.det v0::ks) a H:=yZ v0 hd hg hL (fun w hw _=>h q w hw) (ha ▸ hk)
theorem sL {P:Program}{ops:Array Oper}{w0:World}{Q:Act→World→Prop}{o:Oper}{l:List Oper}{ks:List Take}{a a':Act}{H:List (Option Tmp×(World→Prop))}{d:Option Tmp}{L:List Tmp}{p:Addr}{u:Value}(hc:w0.cell? p=some u)(hl:p.block<w0.heap.size)(v0:Value)(hd:o.dst=d:=by exact rfl)(hg:o.guard=none:=by exact rfl)(hL:JW o=L:=by exact rfl)(ha:a.put d v0=a':=by (try simp only[Act.put,yA,yB,yC]);exact rfl)(h:∀w,w.cell? p=some u→yY P a.eval o w (fun v w'=>v=v0∧Ext w w'):=by intro w' cc;simp[yY,go_sem,cc];exact Ext.refl _)(hk:ZB P ops Ext w0 Q l ks a' H):ZB P ops Ext w0 Q (o::l) (.det v0::ks) a H:=yZ v0 hd hg hL (fun w hw _=>h w ((hw.cell hl).trans hc)) (ha ▸ hk)
theorem sR {P:Program}{ops:Array Oper}{w0:World}{Q:Act→World→Prop}{o:Oper}{l:List Oper}{ks:List Take}{a a':Act}{H:List (Option Tmp×(World→Prop))}{d:Option Tmp}{L:List Tmp}{p:Addr}{u:Value}{φ:Prop}(hc:w0.cell? p=some u)(hl:p.block<w0.heap.size)(q:φ)(v0:Value)(hd:o.dst=d:=by exact rfl)(hg:o.guard=none:=by exact rfl)(hL:JW o=L:=by exact rfl)(ha:a.put d v0=a':=by (try simp only[Act.put,yA,yB,yC]);exact rfl)(h:φ→∀w,w.cell? p=some u→yY P a.eval o w (fun v w'=>v=v0∧Ext w w'):=by intro q w' cc;simp[yY,go_sem,cc,q];exact Ext.refl _)(hk:ZB P ops Ext w0 Q l ks a' H):ZB P ops Ext w0 Q (o::l) (.det v0::ks) a H:=yZ v0 hd hg hL (fun w hw _=>h q w ((hw.cell hl).trans hc)) (ha ▸ hk)
theorem sG {P:Program}{ops:Array Oper}{w0:World}{Q:Act→World→Prop}{o:Oper}{l:List Oper}{ks:List Take}{a a':Act}{H:List (Option Tmp×(World→Prop))}{d:Option Tmp}{L:List Tmp}{R:World→World→Prop}(hr:∀w,R w w)(v0:Value)(hd:o.dst=d:=by exact rfl)(hg:o.guard=none:=by exact rfl)(hL:JW o=L:=by exact rfl)(ha:a.put d v0=a':=by (try simp only[Act.put,yA,yB,yC]);exact rfl)(h:(∀w,R w w)→∀w,yY P a.eval o w (fun v w'=>v=v0∧R w w'):=by intro hr w';simp[yY,go_sem];exact hr _)(hk:ZB P ops R w0 Q l ks a' H):ZB P ops R w0 Q (o::l) (.det v0::ks) a H:=yZ v0 hd hg hL (fun w _ _=>h hr w) (ha ▸ hk)
theorem sW {P:Program}{ops:Array Oper}{w0:World}{Q:Act→World→Prop}{o:Oper}{l:List Oper}{ks:List Take}{a a':Act}{H:List (Option Tmp×(World→Prop))}{d:Option Tmp}{L:List Tmp}{R:World→World→Prop}{p:Addr}{u:Value}(hr:∀w,R w w)(hc:∀w,R w0 w→w.cell? p=some u)(v0:Value)(hd:o.dst=d:=by exact rfl)(hg:o.guard=none:=by exact rfl)(hL:JW o=L:=by exact rfl)(ha:a.put d v0=a':=by (try simp only[Act.put,yA,yB,yC]);exact rfl)(h:(∀w,R w w)→∀w,w.cell? p=some u→yY P a.eval o w (fun v w'=>v=v0∧R w w'):=by intro hr w' cc;simp[yY,go_sem,cc];exact hr _)(hk:ZB P ops R w0 Q l ks a' H):ZB P ops R w0 Q (o::l) (.det v0::ks) a H:=yZ v0 hd hg hL (fun w hw _=>h hr w (hc w hw)) (ha ▸ hk)
theorem sV {P:Program}{ops:Array Oper}{w0:World}{Q:Act→World→Prop}{o:Oper}{l:List Oper}{ks:List Take}{a a':Act}{H:List (Option Tmp×(World→Prop))}{d:Option Tmp}{L:List Tmp}{R:World→World→Prop}{φ:Prop}(hr:∀w,R w w)(q:φ)(v0:Value)(hd:o.dst=d:=by exact rfl)(hg:o.guard=none:=by exact rfl)(hL:JW o=L:=by exact rfl)(ha:a.put d v0=a':=by (try simp only[Act.put,yA,yB,yC]);exact rfl)(h:(∀w,R w w)→φ→∀w,yY P a.eval o w (fun v w'=>v=v0∧R w w'):=by intro hr q w';simp[yY,go_sem,q];exact hr _)(hk:ZB P ops R w0 Q l ks a' H):ZB P ops R w0 Q (o::l) (.det v0::ks) a H:=yZ v0 hd hg hL (fun w _ _=>h hr q w) (ha ▸ hk)
end Go.Proofs.YtioffpjajhalaaaGreatDoor
