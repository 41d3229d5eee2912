/- Rows of instructions opened, with all their terms' bounds. No condition. -/
import Derived.Test.YtngbpaiohfokbaaOpenF
namespace Go.Proofs.Ytngbpaiohfokbaa
open Go Go.RowKit Go.Deep Go.ChangeShapes Go.WideShapes
set_option linter.unusedVariables false
set_option linter.unusedSimpArgs false
/-- All terms have bounds. -/
def FullI.tok (f : FullI) : Prop := (∀ t ∈ f.kt, t.ok) ∧ ∀ p ∈ f.vp, ∀ t ∈ p.2, t.ok
section
variable {H : Type} {enc : TypeId × Value → H} {P : Program} {w : World} {base : Nat} {spare : Nat → Bool} {held : Bool}
/-- A slice of elements of sz cells each; the reach of the whole bounds each element, and the length. -/
theorem open_elemsC {α : Type} (B : Nat) (f : α → List Value) (ok : α → Prop) (sz : Nat) (hsz : 0 < sz) (hf : ∀ x, (f x).length = sz) {t e : TypeId} {a : Option Addr} {len cap n0 : Nat} {y0 : DataW H × List MemPlace} (ht : P.underlying t = some (.slice e)) (hC : P.cellsOf e = sz)
    (hw : ∀ n ∈ y0.1.weights P t, n ≤ B)
    (hel : ∀ (n : Nat) (cs : List Value) (y : DataW H × List MemPlace), cs.length = sz → DataW.trod enc P w base spare held n e cs = some y → (∀ n ∈ y.1.weights P e, n ≤ B) → ∃ x, cs = f x ∧ ok x)
    (h : DataW.trod enc P w base spare held n0 t [.slice a len cap] = some y0) :
    ∃ l : List α, len = l.length ∧ (a = none → cap = 0) ∧ Cells w a (l.flatMap f) ∧ (∀ x ∈ l, ok x) ∧ l.length * P.bytesOf e ≤ B ∧ len ≤ cap := by
  rcases open_slice ht h with ⟨hcs, _⟩ | ⟨a', len', cap', m, n, D, Pl, hcs, hb, hl, hm, hmm, hy, hx⟩
  · simp at hcs
    obtain ⟨rfl, rfl, rfl⟩ := hcs
    exact ⟨[], rfl, fun _ => rfl, .inl rfl, (fun x hx => by cases hx), by simp, Nat.le_refl _⟩
  · simp at hcs
    obtain ⟨rfl, rfl, rfl⟩ := hcs
    have hlm : len ≤ m := by rw [hmm]; split <;> omega
    have hwd : ∀ i, i < len → ∀ n ∈ (D i).weights P e, n ≤ B := by
      intro i hi n hn
      refine hw n ?_
      rw [hy]
      simp only [DataW.weights, ht, List.mem_cons, List.mem_append]
      exact .inr (.inl (weights_all (List.mem_map.2 ⟨i, List.mem_range.2 hi, rfl⟩) n hn))
    have hbd : len * P.bytesOf e ≤ B := by
      have := hw (((List.range len).map D).length * P.bytesOf e + ((List.range (m - len)).map fun j => D (len + j)).length * P.bytesOf e) (by
        rw [hy]
        simp only [DataW.weights, ht]
        rw [← Nat.add_mul]
        exact List.mem_cons_self)
      simp only [List.length_map, List.length_range] at this
      omega
    have key : ∀ k, k ≤ len → ∃ l : List α, l.length = k ∧ (∀ x ∈ l, ok x) ∧ ∀ (i : Nat) (hi : i < l.length) (j : Nat), j < sz → w.cell? (a'.add (i * sz + j)) = (f l[i])[j]? := by
      intro k
      induction k with
      | zero => intro _; exact ⟨[], rfl, (fun x hx => by cases hx), (fun i hi => by simp at hi)⟩
      | succ k ih =>
        intro hk
        obtain ⟨l, hll, hok, hce⟩ := ih (by omega)
        obtain ⟨cs', h1, h2⟩ := hx k (by omega)
        rw [hC] at h1
        obtain ⟨_, hcl, hcell⟩ := World.cells?_some h1
        obtain ⟨x, rfl, hx'⟩ := hel n cs' _ hcl h2 (hwd k (by omega))
        refine ⟨l ++ [x], by simp [hll], fun y hy => ?_, fun i hi j hj => ?_⟩
        · rcases List.mem_append.1 hy with h | h
          · exact hok y h
          · rw [List.mem_singleton.1 h]; exact hx'
        · by_cases hik : i < l.length
          · rw [List.getElem_append_left hik]; exact hce i hik j hj
          · have hik' : i = k := by simp at hi; omega
            subst hik'
            rw [List.getElem_append_right (by omega)]
            simp only [hll, Nat.sub_self, List.getElem_cons_zero]
            rw [← hcell j hj, Go.Deep.add_add]
    obtain ⟨l, hll, hok, hce⟩ := key len (Nat.le_refl _)
    exact ⟨l, hll.symm, (fun h => by cases h), Cells.of_elems f sz hsz hf l a' hce, hok, by rw [hll]; exact hbd, hl⟩
end
section
variable {H : Type} {enc : TypeId × Value → H} {w : World} {base : Nat} {spare : Nat → Bool} {held : Bool}
theorem head_termsC {n B : Nat} {v : Value} {z : DataW H × List MemPlace} (hw : ∀ n ∈ z.1.weights Try.prog 46, n ≤ B) (h : DataW.trod enc Try.prog w base spare held n 46 [v] = some z) :
    ∃ (a : HeadD) (ts : List TermD), v = hd a ∧ Shows w a ts ∧ ts.length * 24 ≤ B ∧ ∀ t ∈ ts, t.ok := by
  obtain ⟨⟨A, n0, c⟩, rfl⟩ := head_of Try.underlying46 h
  obtain ⟨l, h1, h2, h3, h4, h5, _⟩ := open_elemsC B (fun t : TermD => [.int .u8 t.1, .int .i64 t.2.1, .int .i64 t.2.2]) TermD.ok 3 (by decide) (fun _ => rfl) Try.underlying46 (by kernel_rfl) hw (fun n cs y hl hy _ => by exact open_term hl hy) h
  rw [bytesTerm] at h5
  exact ⟨(A, n0, c), l, rfl, ⟨h1, h2, h3⟩, h5, h4⟩
theorem head_valsC {n B : Nat} {v : Value} {z : DataW H × List MemPlace} (hw : ∀ n ∈ z.1.weights Try.prog 47, n ≤ B) (h : DataW.trod enc Try.prog w base spare held n 47 [v] = some z) :
    ∃ (a : HeadD) (vp : List (HeadD × List TermD)), v = hd a ∧ a.2.1 = vp.length ∧ (a.1 = none → a.2.2 = 0) ∧ Cells w a.1 (pcells vp) ∧ (∀ p ∈ vp, Shows w p.1 p.2 ∧ p.2.length * 24 ≤ B ∧ ∀ t ∈ p.2, t.ok) ∧ vp.length * 24 ≤ B := by
  obtain ⟨⟨A, n0, c⟩, rfl⟩ := head_of Try.underlying47 h
  obtain ⟨l, h1, h2, h3, h4, h5, _⟩ := open_elemsC B (fun p : HeadD × List TermD => [hd p.1]) (fun p => Shows w p.1 p.2 ∧ p.2.length * 24 ≤ B ∧ ∀ t ∈ p.2, t.ok) 1 (by decide) (fun _ => rfl) Try.underlying47 (by kernel_rfl) hw (fun n cs y hl hy hwy => by
    match cs, hl with
    | [v], _ =>
      obtain ⟨a, ts, rfl, hs, hb, ho⟩ := head_termsC hwy hy
      exact ⟨(a, ts), rfl, hs, hb, ho⟩) h
  rw [bytesTerms] at h5
  refine ⟨(A, n0, c), l, rfl, h1, h2, ?_, h4, h5⟩
  have e : ∀ l : List (HeadD × List TermD), l.flatMap (fun p : HeadD × List TermD => [hd p.1]) = pcells l := fun l => by
    induction l with
    | nil => rfl
    | cons p l ih => rw [List.flatMap_cons, ih]; rfl
  rw [← e]
  exact h3
theorem open_fullC {n : Nat} {cs : List Value} {y : DataW H × List MemPlace} (hl : cs.length = 13) (h : DataW.trod enc Try.prog w base spare held n 49 cs = some y) (hw : ∀ n ∈ y.1.weights Try.prog 49, n ≤ reachBytes) :
    ∃ f : FullI, cs = f.x.cells ∧ f.x.ok ∧ f.At w ∧ f.fits ∧ f.tok := by
  obtain ⟨m, hf⟩ := trod_fieldsW Try.underlying49 (by kernel_rfl) h hl
  match cs, hl with
  | [v0, v1, v2, v3, v4, v5, v6, v7, v8, v9, v10, v11, v12], _ =>
    obtain ⟨u0, z0, e0, t0, _⟩ := hf 0 _ rfl
    obtain ⟨u1, z1, e1, t1, _⟩ := hf 1 _ rfl
    obtain ⟨u2, z2, e2, t2, _⟩ := hf 2 _ rfl
    obtain ⟨u3, z3, e3, t3, _⟩ := hf 3 _ rfl
    obtain ⟨u4, z4, e4, t4, _⟩ := hf 4 _ rfl
    obtain ⟨u5, z5, e5, t5, _⟩ := hf 5 _ rfl
    obtain ⟨u6, z6, e6, t6, _⟩ := hf 6 _ rfl
    obtain ⟨u7, z7, e7, t7, _⟩ := hf 7 _ rfl
    obtain ⟨u8, z8, e8, t8, _⟩ := hf 8 _ rfl
    obtain ⟨u9, z9, e9, t9, _⟩ := hf 9 _ rfl
    obtain ⟨u10, z10, e10, t10, _⟩ := hf 10 _ rfl
    obtain ⟨u11, z11, e11, t11, q11⟩ := hf 11 _ rfl
    obtain ⟨u12, z12, e12, t12, q12⟩ := hf 12 _ rfl
    simp only [List.getElem?_cons_zero, List.getElem?_cons_succ, Option.some.injEq] at e0 e1 e2 e3 e4 e5 e6 e7 e8 e9 e10 e11 e12
    subst e0 e1 e2 e3 e4 e5 e6 e7 e8 e9 e10 e11 e12
    obtain ⟨x0, g0, _, b0⟩ := DataW.trod_int Try.underlying5 t0
    obtain ⟨x1, g1, _, b1⟩ := DataW.trod_int Try.underlying3 t1
    obtain ⟨x2, g2, _, b2⟩ := DataW.trod_int Try.underlying45 t2
    obtain ⟨x3, g3, _, b3⟩ := DataW.trod_int Try.underlying3 t3
    obtain ⟨x4, g4, _⟩ := DataW.trod_bool Try.underlying4 t4
    obtain ⟨x5, g5, _, b5⟩ := DataW.trod_int Try.underlying3 t5
    obtain ⟨x6, g6, _, b6⟩ := DataW.trod_int Try.underlying3 t6
    obtain ⟨x7, g7, _, b7⟩ := DataW.trod_int Try.underlying3 t7
    obtain ⟨x8, g8, _⟩ := DataW.trod_bool Try.underlying4 t8
    obtain ⟨x9, g9, _, b9⟩ := DataW.trod_int Try.underlying2 t9
    obtain ⟨x10, g10, _, b10⟩ := DataW.trod_int Try.underlying2 t10
    obtain ⟨x11, kt, g11, s11, f11, o11⟩ := head_termsC (B := reachBytes) (fun n hn => hw n (q11 n hn)) t11
    obtain ⟨x12, vp, g12, s12, s13, s14, s15, f12⟩ := head_valsC (B := reachBytes) (fun n hn => hw n (q12 n hn)) t12
    injection g0 with g0; injection g1 with g1; injection g2 with g2; injection g3 with g3; injection g4 with g4; injection g5 with g5; injection g6 with g6; injection g7 with g7; injection g8 with g8; injection g9 with g9; injection g10 with g10
    subst g0 g1 g2 g3 g4 g5 g6 g7 g8 g9 g10 g11 g12
    have := bounds_u8 b0
    have hr : reachBytes = 140737488351232 := by decide
    exact ⟨⟨⟨x0, x1, x2, x3, x4, x5, x6, x7, x8, x9, x10, x11, x12⟩, kt, vp⟩, rfl, ⟨⟨this.1, by simp only; omega⟩, bounds_i64 b7⟩, ⟨s11, s12, s13, s14, fun p hp => (s15 p hp).1⟩, ⟨by simp only; omega, by simp only; omega, fun p hp => by have := (s15 p hp).2.1; omega⟩, ⟨o11, fun p hp => (s15 p hp).2.2⟩⟩
theorem open_fullsC {a : Option Addr} {len cap : Nat} {d : DataW H} {p : List MemPlace} (hw : ∀ n ∈ d.weights Try.prog 22, n ≤ reachBytes) (h : DataW.Trod enc Try.prog w base spare held 22 (.slice a len cap) d p) :
    ∃ l : List FullI, len = l.length ∧ (a = none → cap = 0) ∧ Row w a l ∧ len ≤ cap ∧ ∀ f ∈ l, f.x.ok ∧ f.fits ∧ f.tok := by
  obtain ⟨n, hn⟩ := h
  obtain ⟨l, h1, h2, h3, h4, _, hcp⟩ := open_elemsC (y0 := (d, p)) reachBytes (fun f : FullI => f.x.cells) (fun f => f.x.ok ∧ f.At w ∧ f.fits ∧ f.tok) 13 (by decide) (fun _ => rfl) Try.underlying22 (by kernel_rfl) hw (fun n cs y hl hy hwy => by
    obtain ⟨f, e, h1, h2, h3⟩ := open_fullC hl hy hwy
    exact ⟨f, e, h1, h2, h3⟩) hn
  refine ⟨l, h1, h2, ⟨?_, fun f hf => (h4 f hf).2.1⟩, hcp, fun f hf => ⟨(h4 f hf).1, (h4 f hf).2.2⟩⟩
  have e : l.flatMap (fun f : FullI => f.x.cells) = fcells l := by
    unfold fcells icells
    rw [List.flatMap_map]
  rw [← e]
  exact h3
end
end Go.Proofs.Ytngbpaiohfokbaa
