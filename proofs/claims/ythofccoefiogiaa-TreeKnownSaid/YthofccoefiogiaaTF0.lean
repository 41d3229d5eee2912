/- Forms, as they lie in memory; the map that tree.forms fills. -/
import Derived.Test.YthofccoefiogiaaTPreds
import Derived.Test.YthofccoefiogiaaMap
namespace Go.Proofs.Ythofccoefiogiaa
open Go Go.RowKit
set_option linter.unusedVariables false
set_option linter.unusedSimpArgs false
/-- Whatever block of cells was known whole is so still. -/
def Kept (w w' : World) : Prop := ∀ g t cs, Blk w g t cs → Blk w' g t cs
theorem Kept.of_ext {w w' : World} (h : Ext w w') : Kept w w' := fun _ _ _ hb => hb.ext h
theorem Kept.of_touch {w w' : World} {r clock : Nat} {es : Array MapEntry} (hm : MapBlk w r es clock) (h : Touch r w w') : Kept w w' := fun g t cs hb => h.blk hb (by
  rintro rfl
  unfold Blk at hb
  unfold MapBlk at hm
  rw [hb] at hm
  cases hm)
def All2 {α β : Type} (R : α → β → Prop) : List α → List β → Prop
  | [], [] => True
  | a :: l, b :: m => R a b ∧ All2 R l m
  | _, _ => False
theorem All2.mono {α β : Type} {R S : α → β → Prop} (h : ∀ a b, R a b → S a b) : ∀ {l : List α} {m : List β}, All2 R l m → All2 S l m
  | [], [], _ => trivial
  | a :: l, b :: m, ⟨h1, h2⟩ => ⟨h a b h1, All2.mono h h2⟩
  | [], _ :: _, h => h.elim
  | _ :: _, [], h => h.elim
theorem All2.len {α β : Type} {R : α → β → Prop} : ∀ {l : List α} {m : List β}, All2 R l m → l.length = m.length
  | [], [], _ => rfl
  | a :: l, b :: m, ⟨_, h2⟩ => by rw [List.length_cons, List.length_cons, h2.len]
  | [], _ :: _, h => h.elim
  | _ :: _, [], h => h.elim
theorem All2.get {α β : Type} {R : α → β → Prop} : ∀ {l : List α} {m : List β} (h : All2 R l m) (i : Nat) (hi : i < l.length), ∃ b, m[i]? = some b ∧ R l[i] b
  | a :: l, b :: m, ⟨h1, _⟩, 0, _ => ⟨b, rfl, h1⟩
  | a :: l, b :: m, ⟨_, h2⟩, i + 1, hi => by
    obtain ⟨c, hc, hr⟩ := h2.get i (by simpa using hi)
    exact ⟨c, by simpa using hc, hr⟩
  | [], [], _, i, hi => by simp at hi
  | [], _ :: _, h, _, _ => h.elim
  | _ :: _, [], h, _, _ => h.elim
theorem KidV.kept {w w' : World} {p : PredD} {v : Value} (h : KidV w p v) (hx : Kept w w') : KidV w' p v := by
  cases p with
  | just k => obtain ⟨g, h1, h2⟩ := h; exact ⟨g, h1, hx _ _ _ h2⟩
  | expr => exact h
  | stmt => exact h
  | part => exact h
def MoreV (w : World) : Option PredD → Value → Prop
  | none, v => v = .nilFunc
  | some p, v => KidV w p v
theorem MoreV.kept {w w' : World} {p : Option PredD} {v : Value} (h : MoreV w p v) (hx : Kept w w') : MoreV w' p v := by
  cases p with
  | none => exact h
  | some p => exact KidV.kept h hx
def KidsV (w : World) (ps : List PredD) (v : Value) : Prop := (ps = [] ∧ v = .slice none 0 0) ∨ ∃ g vs, v = .slice (some ⟨g, 0, none⟩) ps.length ps.length ∧ Blk w g 147 (Array.mk vs) ∧ All2 (KidV w) ps vs
theorem KidsV.kept {w w' : World} {ps : List PredD} {v : Value} (h : KidsV w ps v) (hx : Kept w w') : KidsV w' ps v := by
  rcases h with h | ⟨g, vs, h1, h2, h3⟩
  · exact .inl h
  · exact .inr ⟨g, vs, h1, hx _ _ _ h2, h3.mono fun a b h => KidV.kept h hx⟩
def FormV (w : World) (f : FormD) (cs : List Value) : Prop := ∃ ks mv, cs = [ks, mv, .bool f.named, .int .i64 f.most] ∧ KidsV w f.kids ks ∧ MoreV w f.more mv
theorem FormV.kept {w w' : World} {f : FormD} {cs : List Value} (h : FormV w f cs) (hx : Kept w w') : FormV w' f cs := by
  obtain ⟨ks, mv, h1, h2, h3⟩ := h
  exact ⟨ks, mv, h1, h2.kept hx, h3.kept hx⟩
theorem FormV.len {w : World} {f : FormD} {cs : List Value} (h : FormV w f cs) : cs.length = 4 := by
  obtain ⟨ks, mv, h1, _⟩ := h
  rw [h1]; rfl
def FormsV (w : World) (fs : List FormD) (v : Value) : Prop := (fs = [] ∧ v = .slice none 0 0) ∨ ∃ g css, v = .slice (some ⟨g, 0, none⟩) fs.length fs.length ∧ Blk w g 149 (Array.mk css.flatten) ∧ All2 (FormV w) fs css
theorem FormsV.kept {w w' : World} {fs : List FormD} {v : Value} (h : FormsV w fs v) (hx : Kept w w') : FormsV w' fs v := by
  rcases h with h | ⟨g, vs, h1, h2, h3⟩
  · exact .inl h
  · exact .inr ⟨g, vs, h1, hx _ _ _ h2, h3.mono fun a b h => FormV.kept h hx⟩
/-- The map's entries. -/
def entOf : List (Int × Value) → Nat → List MapEntry
  | [], _ => []
  | x :: l, c => { key := .int .u8 x.1, val := x.2, born := c } :: entOf l (c + 1)
theorem entOf_snoc (l : List (Int × Value)) (x : Int × Value) : ∀ c, entOf (l ++ [x]) c = entOf l c ++ [{ key := .int .u8 x.1, val := x.2, born := c + l.length }] := by
  induction l with
  | nil => intro c; rfl
  | cons y l ih => intro c; simp only [List.cons_append, entOf, ih, List.length_cons]; rw [show c + 1 + l.length = c + (l.length + 1) from by omega]
theorem same_u8 (a b : Int) : Instr.sameNow (.int .u8) (.int .u8 a) (.int .u8 b) = some (a == b) := by simp [Instr.sameNow]
theorem find_none (l : List (Int × Value)) (n : Int) (h : ∀ x ∈ l, x.1 ≠ n) : ∀ c j, Instr.findNow (.int .u8) (.int .u8 n) (entOf l c) j = some none := by
  induction l with
  | nil => intro c j; rfl
  | cons x l ih =>
    intro c j
    have hx : (n == x.1) = false := beq_eq_false_iff_ne.2 (Ne.symm (h x (by simp)))
    unfold entOf Instr.findNow
    simp only [same_u8, hx]
    exact ih (fun y hy => h y (by simp [hy])) _ _
theorem find_some (l : List (Int × Value)) (n : Int) : ∀ (i : Nat) (v : Value) (c j : Nat), l[i]? = some (n, v) → (∀ j x, j < i → l[j]? = some x → x.1 ≠ n) → Instr.findNow (.int .u8) (.int .u8 n) (entOf l c) j = some (some (j + i, v)) := by
  induction l with
  | nil => intro i v c j h; simp at h
  | cons y l ih =>
    intro i v c j hi h
    unfold entOf Instr.findNow
    match i with
    | 0 =>
      simp at hi
      subst hi
      simp only [same_u8, beq_self_eq_true]
      rfl
    | i + 1 =>
      have hx : (n == y.1) = false := beq_eq_false_iff_ne.2 (Ne.symm (h 0 y (by omega) rfl))
      simp only [same_u8, hx]
      rw [ih i v (c + 1) (j + 1) (by simpa using hi) (fun j x hj hx => h (j + 1) x (by omega) (by simpa using hx))]
      congr 3
      omega
/-- How far the map has come: its entries are these, each the forms of its kind. -/
structure FSt (w0 w : World) (r : Nat) (ks : List Int) (l : List (Int × Value)) (g4 g5 g6 g7 : Nat) : Prop where
  map : MapBlk w r (Array.mk (entOf l 0)) l.length
  keys : l.map Prod.fst = ks
  ents : ∀ x ∈ l, FormsV w (formsN x.1) x.2
  ext : Ext w0 w
  low : w0.heap.size ≤ r
  k4 : Blk w g4 5 #[.int .u8 20]
  k5 : Blk w g5 5 #[.int .u8 5]
  k6 : Blk w g6 5 #[.int .u8 6]
  k7 : Blk w g7 5 #[.int .u8 21]
theorem FSt.mono {w0 w w' : World} {r : Nat} {ks : List Int} {l : List (Int × Value)} {g4 g5 g6 g7 : Nat} (h : FSt w0 w r ks l g4 g5 g6 g7) (hx : Ext w w') : FSt w0 w' r ks l g4 g5 g6 g7 :=
  ⟨h.map.ext hx, h.keys, fun x hm => (h.ents x hm).kept (Kept.of_ext hx), h.ext.trans hx, h.low, h.k4.ext hx, h.k5.ext hx, h.k6.ext hx, h.k7.ext hx⟩
theorem insF {w0 w : World} {ops : Array Oper} {rest : List Oper} {o : Oper} {a : Act} {Q : Exit → Act → World → Prop} {r : Nat} {ks : List Int} {l : List (Int × Value)} {g4 g5 g6 g7 : Nat} (hgd : o.guard = none) (m k x : Operand) (n : Int) (v : Value) (ho : o.op = .insert 165 m k x)
    (em : a.eval m = .map (some r)) (ek : a.eval k = .int .u8 n) (ex : a.eval x = v) (hst : FSt w0 w r ks l g4 g5 g6 g7) (hv : FormsV w (formsN n) v) (hn : ks.contains n = false)
    (h : ∀ w' l', FSt w0 w' r (ks ++ [n]) l' g4 g5 g6 g7 → wpList Try.prog ops Q rest (a.put o.dst undef) w') : wpList Try.prog ops Q (o :: rest) a w := by
  have hn' : ∀ y ∈ l, y.1 ≠ n := by
    rintro y hy rfl
    have : y.1 ∈ ks := by rw [← hst.keys]; exact List.mem_map_of_mem hy
    simp at hn
    exact hn this
  refine wpList_insert hgd 165 m k x ho Try.underlying165 Try.underlying5 r l.length _ n v em ek ex hst.map (find_none l n hn' 0 0) fun w' ht hm => h w' (l ++ [(n, v)]) ?_
  have hk := Kept.of_touch hst.map ht
  refine ⟨?_, by rw [List.map_append, hst.keys]; rfl, fun y hy => ?_, ht.ext hst.ext hst.low, hst.low, hk _ _ _ hst.k4, hk _ _ _ hst.k5, hk _ _ _ hst.k6, hk _ _ _ hst.k7⟩
  · have : (Array.mk (entOf l 0)).push { key := .int .u8 n, val := v, born := l.length } = Array.mk (entOf (l ++ [(n, v)]) 0) := by
      rw [entOf_snoc, Nat.zero_add]
      simp
    rw [this] at hm
    rw [List.length_append]
    exact hm
  · rcases List.mem_append.1 hy with hy | hy
    · exact (hst.ents y hy).kept hk
    · rw [List.mem_singleton.1 hy]
      exact hv.kept hk
theorem run_lookup_miss {P : Program} {w : World} {t kt et : TypeId} {kk : IntKind} {r clock : Nat} {es : Array MapEntry} {n : Int} {z : Value} (hm : P.underlying t = some (.map kt et)) (hk : P.underlying kt = some (.int kk))
    (hb : MapBlk w r es clock) (hz : (zeroValue et).run P w = .ok z w) (hf : Instr.findNow (.int kk) (.int kk n) es.toList 0 = some none) : (Instr.lookup t (.map (some r)) (.int kk n) false).run P w = .ok z w := by
  have hc : (Instr.checkKey es.isEmpty 10000 kt (.int kk n)).run P w = .ok () w := MapKept.run_checkKey (k := .int kk n) hk (by simp [MapKept.IsKey]) _ 9999
  simp [Instr.lookup, run_underlying hm, MapKept.run_getObj_map hb, hc, MapKept.run_findKey hk hf, hz, Result.andThen]
theorem wpList_lookup_miss {P : Program} {w : World} {ops : Array Oper} {rest : List Oper} {o : Oper} {a : Act} {Q : Exit → Act → World → Prop} (hgd : o.guard = none) (t : TypeId) (m k : Operand) (ho : o.op = .lookup t m k false) {kt et : TypeId} {kk : IntKind}
    (hm : P.underlying t = some (.map kt et)) (hk : P.underlying kt = some (.int kk)) (r clock : Nat) (es : Array MapEntry) (n : Int) (z : Value) (hz : ∀ w, (zeroValue et).run P w = .ok z w)
    (em : a.eval m = .map (some r)) (ek : a.eval k = .int kk n) (hb : MapBlk w r es clock) (hf : Instr.findNow (.int kk) (.int kk n) es.toList 0 = some none)
    (h : wpList P ops Q rest (a.put o.dst z) w) : wpList P ops Q (o :: rest) a w := by
  refine wpList_plain hgd fun K hK => ?_
  have hrun := run_lookup_miss (P := P) hm hk hb (hz w) hf
  unfold Oper.wp execOp
  simp only [ho, em, ek, Sem.run_bind, Sem.run_pure, hrun, Result.andThen_ok]
  exact hK _ _ h
theorem key_lookup {l : List (Int × Value)} {ks : List Int} (hk : l.map Prod.fst = ks) (n : Int) (i : Nat) (hi : ks[i]? = some n) (hd : (ks.take i).contains n = false) : ∃ v, l[i]? = some (n, v) ∧ ∀ j x, j < i → l[j]? = some x → x.1 ≠ n := by
  subst hk
  rw [List.getElem?_map] at hi
  obtain ⟨x, hx, rfl⟩ := Option.map_eq_some_iff.1 hi
  refine ⟨x.2, hx, ?_⟩
  rintro j y hj hy he
  have : y.1 ∈ (l.map Prod.fst).take i := by
    rw [← List.map_take]
    exact List.mem_map_of_mem (List.mem_of_getElem? (i := j) (by rw [List.getElem?_take, if_pos hj]; exact hy))
  rw [he] at this
  simp at hd
  exact hd (by simpa using this)
/-- The map asked, when it is whole. -/
theorem lookF {w0 w : World} {ops : Array Oper} {rest : List Oper} {o : Oper} {a : Act} {Q : Exit → Act → World → Prop} {r : Nat} {l : List (Int × Value)} {g4 g5 g6 g7 : Nat} (hgd : o.guard = none) (m k : Operand) (n : Int) (ho : o.op = .lookup 165 m k false)
    (em : a.eval m = .map (some r)) (ek : a.eval k = .int .u8 n) (hst : FSt w0 w r [1, 2, 3, 4, 5, 6, 7, 8, 9, 10, 11, 12, 13, 14, 15, 16, 17, 18, 19, 20, 21, 22, 23, 24, 25, 26] l g4 g5 g6 g7) (hz : ∀ w, (zeroValue 145).run Try.prog w = .ok (.slice none 0 0) w)
    (h : ∀ v, FormsV w (formsN n) v → wpList Try.prog ops Q rest (a.put o.dst v) w) : wpList Try.prog ops Q (o :: rest) a w := by
  by_cases hk : 1 ≤ n ∧ n ≤ 26
  · have hi : ([1, 2, 3, 4, 5, 6, 7, 8, 9, 10, 11, 12, 13, 14, 15, 16, 17, 18, 19, 20, 21, 22, 23, 24, 25, 26] : List Int)[(n - 1).toNat]? = some n ∧ (([1, 2, 3, 4, 5, 6, 7, 8, 9, 10, 11, 12, 13, 14, 15, 16, 17, 18, 19, 20, 21, 22, 23, 24, 25, 26] : List Int).take (n - 1).toNat).contains n = false := by
      have hc : n = 1 ∨ n = 2 ∨ n = 3 ∨ n = 4 ∨ n = 5 ∨ n = 6 ∨ n = 7 ∨ n = 8 ∨ n = 9 ∨ n = 10 ∨ n = 11 ∨ n = 12 ∨ n = 13 ∨ n = 14 ∨ n = 15 ∨ n = 16 ∨ n = 17 ∨ n = 18 ∨ n = 19 ∨ n = 20 ∨ n = 21 ∨ n = 22 ∨ n = 23 ∨ n = 24 ∨ n = 25 ∨ n = 26 := by omega
      rcases hc with rfl | rfl | rfl | rfl | rfl | rfl | rfl | rfl | rfl | rfl | rfl | rfl | rfl | rfl | rfl | rfl | rfl | rfl | rfl | rfl | rfl | rfl | rfl | rfl | rfl | rfl <;> exact ⟨rfl, rfl⟩
    obtain ⟨v, hv, hd⟩ := key_lookup hst.keys n _ hi.1 hi.2
    exact wpList_lookup_hit hgd 165 m k ho Try.underlying165 Try.underlying5 r l.length _ _ n v em ek hst.map (find_some l n _ v 0 0 hv hd) (h v (hst.ents _ (List.mem_of_getElem? hv)))
  · have hn : ∀ y ∈ l, y.1 ≠ n := by
      rintro y hy rfl
      have : y.1 ∈ ([1, 2, 3, 4, 5, 6, 7, 8, 9, 10, 11, 12, 13, 14, 15, 16, 17, 18, 19, 20, 21, 22, 23, 24, 25, 26] : List Int) := by rw [← hst.keys]; exact List.mem_map_of_mem hy
      simp only [List.mem_cons, List.not_mem_nil, or_false] at this
      omega
    have h0 : formsN n = [] := by
      unfold formsN
      repeat (rw [if_neg (by omega)])
    exact wpList_lookup_miss hgd 165 m k ho Try.underlying165 Try.underlying5 r l.length _ n _ hz em ek hst.map (find_none l n hn 0 0) (h _ (.inl ⟨h0, rfl⟩))
theorem Blk.newAt {W : World} {t : TypeId} {cs : Array Value} {n : Nat} (h : n = W.heap.size) : Blk (W.alloc (.cells cs t)) n t cs := by subst h; exact Blk.new W t cs
theorem formsV_one {W : World} {f : FormD} {g : Nat} {ks mv : Value} {b : Bool} {n : Int} (hn : b = f.named) (hm : n = f.most) (hb : Blk W g 149 #[ks, mv, .bool b, .int .i64 n]) (hk : KidsV W f.kids ks) (hmv : MoreV W f.more mv) : FormsV W [f] (.slice (some ⟨g, 0, none⟩) 1 1) := by
  subst hn hm
  exact .inr ⟨g, [[ks, mv, .bool f.named, .int .i64 f.most]], rfl, hb, ⟨⟨ks, mv, rfl, hk, hmv⟩, trivial⟩⟩
theorem formsV_two {W : World} {f f' : FormD} {g : Nat} {ks mv ks' mv' : Value} {b b' : Bool} {n n' : Int} (hn : b = f.named) (hm : n = f.most) (hn' : b' = f'.named) (hm' : n' = f'.most) (hb : Blk W g 149 #[ks, mv, .bool b, .int .i64 n, ks', mv', .bool b', .int .i64 n']) (hk : KidsV W f.kids ks) (hmv : MoreV W f.more mv) (hk' : KidsV W f'.kids ks') (hmv' : MoreV W f'.more mv') : FormsV W [f, f'] (.slice (some ⟨g, 0, none⟩) 2 2) := by
  subst hn hm hn' hm'
  exact .inr ⟨g, [[ks, mv, .bool f.named, .int .i64 f.most], [ks', mv', .bool f'.named, .int .i64 f'.most]], rfl, hb, ⟨⟨ks, mv, rfl, hk, hmv⟩, ⟨ks', mv', rfl, hk', hmv'⟩, trivial⟩⟩
theorem kidsV_none {W : World} : KidsV W [] (.slice none 0 0) := .inl ⟨rfl, rfl⟩
theorem kidsV_1 {W : World} {p1 : PredD} {v1 : Value} {g : Nat} (hb : Blk W g 147 #[v1]) (h1 : KidV W p1 v1) : KidsV W [p1] (.slice (some ⟨g, 0, none⟩) 1 1) := .inr ⟨g, [v1], rfl, hb, h1, trivial⟩
theorem kidsV_2 {W : World} {p1 p2 : PredD} {v1 v2 : Value} {g : Nat} (hb : Blk W g 147 #[v1, v2]) (h1 : KidV W p1 v1) (h2 : KidV W p2 v2) : KidsV W [p1, p2] (.slice (some ⟨g, 0, none⟩) 2 2) := .inr ⟨g, [v1, v2], rfl, hb, h1, h2, trivial⟩
theorem kidsV_3 {W : World} {p1 p2 p3 : PredD} {v1 v2 v3 : Value} {g : Nat} (hb : Blk W g 147 #[v1, v2, v3]) (h1 : KidV W p1 v1) (h2 : KidV W p2 v2) (h3 : KidV W p3 v3) : KidsV W [p1, p2, p3] (.slice (some ⟨g, 0, none⟩) 3 3) := .inr ⟨g, [v1, v2, v3], rfl, hb, h1, h2, h3, trivial⟩
theorem kidsV_4 {W : World} {p1 p2 p3 p4 : PredD} {v1 v2 v3 v4 : Value} {g : Nat} (hb : Blk W g 147 #[v1, v2, v3, v4]) (h1 : KidV W p1 v1) (h2 : KidV W p2 v2) (h3 : KidV W p3 v3) (h4 : KidV W p4 v4) : KidsV W [p1, p2, p3, p4] (.slice (some ⟨g, 0, none⟩) 4 4) := .inr ⟨g, [v1, v2, v3, v4], rfl, hb, h1, h2, h3, h4, trivial⟩
end Go.Proofs.Ythofccoefiogiaa
