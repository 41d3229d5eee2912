/- A map that the call itself makes and fills entry by entry, its keys integers: known whole. No condition on the program. -/
import Derived.Test.YtcccnicldbpieaaGreatDoorBase
import Derived.WideMake
import Derived.MapKept
import Derived.Carry
namespace Go.Proofs.YtcccnicldbpieaaGreatDoor
open Go Go.RowKit
set_option linter.unusedVariables false
set_option linter.unusedSimpArgs false
/-- Block r is a map of just these entries. -/
def MapBlk (w : World) (r : Nat) (es : Array MapEntry) (clock : Nat) : Prop := w.heap[r]? = some (.map es clock)
section
variable {w w' : World} {r : Nat} {es : Array MapEntry} {clock : Nat}
theorem MapBlk.lt (h : MapBlk w r es clock) : r < w.heap.size := (Array.getElem?_eq_some_iff.1 h).1
theorem MapBlk.new (w : World) : MapBlk (w.alloc (.map #[] 0)) w.heap.size #[] 0 := heap_alloc_new w _
theorem MapBlk.ext (h : MapBlk w r es clock) (hx : Ext w w') : MapBlk w' r es clock := (hx.block r h.lt).trans h
theorem MapBlk.touch {g : Nat} (h : MapBlk w r es clock) (ht : Touch g w w') (hg : r ≠ g) : MapBlk w' r es clock := (ht.other r hg).trans h
end
section
variable {P : Program}
theorem run_insert_new {w : World} {t kt et : TypeId} {kk : IntKind} {r clock : Nat} {es : Array MapEntry} {n : Int} {val : Value} (hm : P.underlying t = some (.map kt et)) (hk : P.underlying kt = some (.int kk))
    (hb : MapBlk w r es clock) (hf : Instr.findNow (.int kk) (.int kk n) es.toList 0 = some none) :
    (Instr.mapUpdate t (.map (some r)) (.int kk n) val).run P w = .ok () { w with heap := w.heap.setIfInBounds r (.map (es.push { key := .int kk n, val := val, born := clock }) (clock + 1)) } := by
  have hc : (Instr.checkKey false 10000 kt (.int kk n)).run P w = .ok () w := MapKept.run_checkKey (k := .int kk n) hk (by simp [MapKept.IsKey]) false 9999
  simp [Instr.mapUpdate, run_underlying hm, MapKept.run_getObj_map hb, hc, MapKept.run_findKey hk hf, MapKept.run_setObj_map _ hb, Result.andThen]
theorem wpList_insert {ops : Array Oper} {rest : List Oper} {o : Oper} {a : Act} {w : World} {Q : Exit → Act → World → Prop} (hgd : o.guard = none) (t : TypeId) (m k x : Operand) (ho : o.op = .insert t m k x) {kt et : TypeId} {kk : IntKind}
    (hm : P.underlying t = some (.map kt et)) (hk : P.underlying kt = some (.int kk)) (r clock : Nat) (es : Array MapEntry) (n : Int) (v : Value)
    (em : a.eval m = .map (some r)) (ek : a.eval k = .int kk n) (ex : a.eval x = v) (hb : MapBlk w r es clock) (hf : Instr.findNow (.int kk) (.int kk n) es.toList 0 = some none)
    (h : ∀ w', Touch r w w' → MapBlk w' r (es.push { key := .int kk n, val := v, born := clock }) (clock + 1) → wpList P ops Q rest (a.put o.dst undef) w') : wpList P ops Q (o :: rest) a w := by
  refine wpList_plain hgd fun K hK => ?_
  have hrun := run_insert_new (val := v) hm hk hb hf
  unfold Oper.wp execOp
  simp only [ho, em, ek, ex, Sem.run_bind, Sem.run_pure, hrun, Result.andThen_ok]
  refine hK _ _ (h _ ⟨rfl, rfl, rfl, by simp, fun q hq => ?_⟩ ?_)
  · simp [Array.getElem?_setIfInBounds, Ne.symm hq]
  · have hlt := hb.lt
    unfold MapBlk
    simp [hlt]
theorem run_lookup_hit {w : World} {t kt et : TypeId} {kk : IntKind} {r clock i : Nat} {es : Array MapEntry} {n : Int} {v : Value} (hm : P.underlying t = some (.map kt et)) (hk : P.underlying kt = some (.int kk))
    (hb : MapBlk w r es clock) (hf : Instr.findNow (.int kk) (.int kk n) es.toList 0 = some (some (i, v))) : (Instr.lookup t (.map (some r)) (.int kk n) false).run P w = .ok v w := by
  have hc : (Instr.checkKey es.isEmpty 10000 kt (.int kk n)).run P w = .ok () w := MapKept.run_checkKey (k := .int kk n) hk (by simp [MapKept.IsKey]) _ 9999
  simp [Instr.lookup, run_underlying hm, MapKept.run_getObj_map hb, hc, MapKept.run_findKey hk hf, Result.andThen]
theorem wpList_lookup_hit {ops : Array Oper} {rest : List Oper} {o : Oper} {a : Act} {w : World} {Q : Exit → Act → World → Prop} (hgd : o.guard = none) (t : TypeId) (m k : Operand) (ho : o.op = .lookup t m k false) {kt et : TypeId} {kk : IntKind}
    (hm : P.underlying t = some (.map kt et)) (hk : P.underlying kt = some (.int kk)) (r clock i : Nat) (es : Array MapEntry) (n : Int) (v : Value)
    (em : a.eval m = .map (some r)) (ek : a.eval k = .int kk n) (hb : MapBlk w r es clock) (hf : Instr.findNow (.int kk) (.int kk n) es.toList 0 = some (some (i, v)))
    (h : wpList P ops Q rest (a.put o.dst v) w) : wpList P ops Q (o :: rest) a w := by
  refine wpList_plain hgd fun K hK => ?_
  have hrun := run_lookup_hit (P := P) hm hk hb hf
  unfold Oper.wp execOp
  simp only [ho, em, ek, Sem.run_bind, Sem.run_pure, hrun, Result.andThen_ok]
  exact hK _ _ h
theorem wpList_makeMap {ops : Array Oper} {rest : List Oper} {o : Oper} {a : Act} {w : World} {Q : Exit → Act → World → Prop} (hgd : o.guard = none) (t : TypeId) (ho : o.op = .makeMap t none)
    (h : ∀ w', Ext w w' → MapBlk w' w.heap.size #[] 0 → w'.heap.size = w.heap.size + 1 → wpList P ops Q rest (a.put o.dst (.map (some w.heap.size))) w') : wpList P ops Q (o :: rest) a w := by
  refine wpList_plain hgd fun K hK => ?_
  unfold Oper.wp execOp
  simp only [ho, Option.map_none, Sem.run_bind, Sem.run_pure, run_makeMap, Result.andThen_ok]
  exact hK _ _ (h _ (Ext.alloc _ _) (MapBlk.new w) (by simp))
end
end Go.Proofs.YtcccnicldbpieaaGreatDoor
