/- The program's reader of tokens: next, is, fail, skip, take, of. No condition. -/
import Derived.Test.YtcccnicldbpieaaGreatDoorPsM
namespace Go.Proofs.YtcccnicldbpieaaGreatDoor
open Go Go.RowKit
set_option linter.unusedVariables false
set_option linter.unusedSimpArgs false
structure PRep where
  bt : Nat
  ot : Nat
  ct : Nat
  A : Option Addr
  c : Nat
  nh : List (Nd × Hd2)
structure PS (w : World) (p B : Nat) (s : Ps) (R : PRep) : Prop where
  blk : Blk w p 57 #[.slice (some ⟨R.bt, R.ot, none⟩) s.ts.length R.ct, .slice R.A R.nh.length R.c, .int .i64 (s.deep : Int)]
  toks : ∀ k, k < s.ts.length * 5 → w.cell? ⟨R.bt, R.ot + k, none⟩ = (kcells s.ts)[k]?
  tcap : s.ts.length ≤ R.ct
  tlow : R.bt < B
  nodes : s.nd = R.nh.map Prod.fst
  ns : NS w B 50 3 R.A R.c R.nh
  pB : B ≤ p
  good : Good0 s
def MineP (p : Nat) (R : PRep) (b : Nat) : Prop := b = p ∨ MineN R.A R.nh b
theorem PS.ext {w w' : World} {p B : Nat} {s : Ps} {R : PRep} (h : PS w p B s R) (hx : Ext w w') : PS w' p B s R :=
  ⟨h.blk.ext hx, fun k hk => (hx.cell (p := ⟨R.bt, R.ot + k, none⟩) (Nat.lt_of_lt_of_le h.tlow (Nat.le_trans h.pB (Nat.le_of_lt h.blk.lt)))).trans (h.toks k hk), h.tcap, h.tlow, h.nodes, h.ns.ext hx, h.pB, h.good⟩
theorem PS.len {w : World} {p B : Nat} {s : Ps} {R : PRep} (h : PS w p B s R) : s.nd.length = R.nh.length := by rw [h.nodes, List.length_map]
theorem PS.mineB {w : World} {p B : Nat} {s : Ps} {R : PRep} (h : PS w p B s R) {b : Nat} (hb : MineP p R b) : B ≤ b := by
  rcases hb with rfl | hb
  · exact h.pB
  · exact (h.ns.mine_lt hb).1
/-- The next token's cells. -/
theorem PS.tok {w : World} {p B : Nat} {s : Ps} {R : PRep} (h : PS w p B s R) (j : Nat) (hj : j < 5) : w.cell? ⟨R.bt, R.ot + j, none⟩ = (kcell s.hd)[j]? := by
  obtain ⟨t, r, hs, ht⟩ := h.good.hd
  have hp := h.good.pos
  rw [h.toks j (by omega), hs, ht]
  show (kcell t ++ kcells r)[j]? = _
  rw [List.getElem?_append_left (by show j < 5; exact hj)]
theorem PS.x0 {w : World} {p B : Nat} {s : Ps} {R : PRep} (h : PS w p B s R) : w.cell? ⟨p, 0, none⟩ = some (.slice (some ⟨R.bt, R.ot, none⟩) s.ts.length R.ct) := h.blk.cell 0
theorem PS.x1 {w : World} {p B : Nat} {s : Ps} {R : PRep} (h : PS w p B s R) : w.cell? ⟨p, 1, none⟩ = some (.slice R.A R.nh.length R.c) := h.blk.cell 1
theorem PS.x2 {w : World} {p B : Nat} {s : Ps} {R : PRep} (h : PS w p B s R) : w.cell? ⟨p, 2, none⟩ = some (.int .i64 (s.deep : Int)) := h.blk.cell 2
theorem PS.t0 {w : World} {p B : Nat} {s : Ps} {R : PRep} (h : PS w p B s R) : w.cell? ⟨R.bt, R.ot, none⟩ = some (.int .u8 (s.hd.kind : Int)) := h.tok 0 (by decide)
theorem PS.t1 {w : World} {p B : Nat} {s : Ps} {R : PRep} (h : PS w p B s R) : w.cell? ⟨R.bt, R.ot + 1, none⟩ = some (.int .i64 (s.hd.at_ : Int)) := h.tok 1 (by decide)
theorem PS.t2 {w : World} {p B : Nat} {s : Ps} {R : PRep} (h : PS w p B s R) : w.cell? ⟨R.bt, R.ot + 2, none⟩ = some (.int .i64 (s.hd.en : Int)) := h.tok 2 (by decide)
theorem PS.t3 {w : World} {p B : Nat} {s : Ps} {R : PRep} (h : PS w p B s R) : w.cell? ⟨R.bt, R.ot + 3, none⟩ = some (.string (bstr s.hd.text)) := h.tok 3 (by decide)
theorem PS.t4 {w : World} {p B : Nat} {s : Ps} {R : PRep} (h : PS w p B s R) : w.cell? ⟨R.bt, R.ot + 4, none⟩ = some (.int .i64 s.hd.n) := h.tok 4 (by decide)
theorem PS.btl {w : World} {p B : Nat} {s : Ps} {R : PRep} (h : PS w p B s R) : R.bt < w.heap.size := Nat.lt_of_lt_of_le h.tlow (Nat.le_trans h.pB (Nat.le_of_lt h.blk.lt))
/-- The tokens alone. -/
structure TS (w : World) (p : Nat) (s : Ps) (R : PRep) : Prop where
  blk : Blk w p 57 #[.slice (some ⟨R.bt, R.ot, none⟩) s.ts.length R.ct, .slice R.A R.nh.length R.c, .int .i64 (s.deep : Int)]
  tok : ∀ j, j < 5 → w.cell? ⟨R.bt, R.ot + j, none⟩ = (kcell s.hd)[j]?
  btl : R.bt < w.heap.size
  pos : 0 < s.ts.length
theorem PS.ts {w : World} {p B : Nat} {s : Ps} {R : PRep} (h : PS w p B s R) : TS w p s R := ⟨h.blk, h.tok, h.btl, h.good.pos⟩
theorem TS.grown {w w' : World} {p : Nat} {s : Ps} {R : PRep} {o : Option Nat} (h : TS w p s R) (hg : w.grownBy w' o) (h1 : some p ≠ o) (h2 : some R.bt ≠ o) : TS w' p s R :=
  ⟨(hg.block p h.blk.lt h1).trans h.blk, fun j hj => (World.cell?_of_block (w := w) (hg.block R.bt h.btl h2)).trans (h.tok j hj), Nat.lt_of_lt_of_le h.btl hg.size, h.pos⟩
set_option maxHeartbeats 1000000 in
theorem pnext_any (w : World) (p : Nat) (s : Ps) (R : PRep) (h : TS w p s R) :
    Calls Tryz.prog 22 #[.pointer (some ⟨p, 0, none⟩)] w fun e w' => e = .returned (.agg (kcell s.hd).toArray) ∧ Ext w w' := by
  have x0 : w.cell? ⟨p, 0, none⟩ = some (.slice (some ⟨R.bt, R.ot, none⟩) s.ts.length R.ct) := h.blk.cell 0
  have t0 : w.cell? ⟨R.bt, R.ot, none⟩ = some (.int .u8 (s.hd.kind : Int)) := h.tok 0 (by decide)
  have t1 : w.cell? ⟨R.bt, R.ot + 1, none⟩ = some (.int .i64 (s.hd.at_ : Int)) := h.tok 1 (by decide)
  have t2 : w.cell? ⟨R.bt, R.ot + 2, none⟩ = some (.int .i64 (s.hd.en : Int)) := h.tok 2 (by decide)
  have t3 : w.cell? ⟨R.bt, R.ot + 3, none⟩ = some (.string (bstr s.hd.text)) := h.tok 3 (by decide)
  have t4 : w.cell? ⟨R.bt, R.ot + 4, none⟩ = some (.int .i64 s.hd.n) := h.tok 4 (by decide)
  have hpos := h.pos
  have q0 : (0 : Int) < (s.ts.length : Int) := by omega
  have hpl := h.blk.lt
  have hbl := h.btl
  clear h
  unfold kcell
  generalize s.hd = t at *
  generalize s.ts.length = n at *
  go_enter Tryz.func22, Tryz.ntmps22
  go_wp2
  refine bodyPost_ret (v := .agg #[.int .u8 (t.kind : Int), .int .i64 (t.at_ : Int), .int .i64 (t.en : Int), .string (bstr t.text), .int .i64 t.n]) (by simp [results, Tryz.results22, go_sem]) rfl ⟨rfl, ?_⟩
  exact Ext.alloc _ _
theorem isP_eq (t : Bs) (s : Ps) : isP t s = ((s.hd.kind != 4 && s.hd.kind != 2) && s.hd.text == t) := rfl
set_option maxHeartbeats 2000000 in
theorem pis_any (w : World) (p B : Nat) (s : Ps) (R : PRep) (t : Bs) (b : Bool) (hb : Hid (isP t s = b)) (h : PS w p B s R) :
    Calls Tryz.prog 43 #[.pointer (some ⟨p, 0, none⟩), .string (bstr t)] w fun e w' => e = .returned (.bool b) ∧ Ext w w' := by
  have HP := Lib.hid h
  clear h
  obtain ⟨k, hk⟩ : ∃ k, k = s.hd.kind := ⟨_, rfl⟩
  obtain ⟨x, hx⟩ : ∃ x, x = s.hd.text := ⟨_, rfl⟩
  have HB : Hid (((k != 4 && k != 2) && x == t) = b) := Lib.hid (by rw [← hb.out, isP_eq, hk, hx])
  go_enter Tryz.func43, Tryz.ntmps43
  go_wp2_with fail
  refine (pnext_any w p s R HP.out.ts).mono ?_
  rintro e w1 ⟨rfl, hx1⟩
  have HX := Lib.hid hx1
  unfold kcell
  rw [← hk, ← hx]
  clear hx1 hk hx
  by_cases h4 : k = 4
  · subst h4
    go_wp2_with fail
    go_ret
    exact ⟨ret_bool (by rw [← HB.out]; rfl), HX.out.trans (Ext.alloc _ _)⟩
  · by_cases h2 : k = 2
    · subst h2
      go_wp2_with fail
      go_ret
      exact ⟨ret_bool (by rw [← HB.out]; rfl), HX.out.trans (Ext.alloc _ _)⟩
    · have i4 : ¬ (k : Int) = 4 := by omega
      have i2 : ¬ (k : Int) = 2 := by omega
      have HK := Lib.hid (And.intro h4 h2)
      clear h4 h2
      go_wp2_with fail
      go_ret
      refine ⟨ret_bool ?_, HX.out.trans (Ext.alloc _ _)⟩
      rw [← HB.out]
      simp only [bstr_toList]
      have h4 := HK.out.1
      have h2 := HK.out.2
      have a4 : ((k : Int) != 4) = true := by rw [bne_iff_ne]; omega
      have a2 : ((k : Int) != 2) = true := by rw [bne_iff_ne]; omega
      have b4 : (k != 4) = true := by rw [bne_iff_ne]; omega
      have b2 : (k != 2) = true := by rw [bne_iff_ne]; omega
      rw [a4, a2, b4, b2]
theorem Moves.set {w : World} {M : Nat → Prop} {g i : Nat} {u : Value} (h : M g) : Moves w M (w.setCell ⟨g, i, none⟩ u) M :=
  ⟨rfl, rfl, rfl, by simp [World.setCell], fun b hb hM => Below.heap_setCell w ⟨g, i, none⟩ u b (fun e => hM (by rw [e]; exact h)), fun b h => .inl h⟩
def panicV (er : Int) : Ending := .panicked [{ v := .iface 32 (.int .i64 er), recovered := false }]
theorem panics_post {P : Program} {fn : Func} {R : Ending → World → Prop} {a : Act} {w : World} {er : Int} (hd : a.defers = []) (h : R (panicV er) w) : bodyPost P fn R (Exit.panic [{ v := .iface 32 (.int .i64 er), recovered := false }]) a w := ⟨hd, h⟩
def OkP (w : World) (p B : Nat) (R : PRep) (s' : Ps) (w' : World) : Prop := ∃ R', PS w' p B s' R' ∧ Moves w (MineP p R) w' (MineP p R')
def ErrP (w : World) (p B : Nat) (R : PRep) (er : Int) (at_ : Nat) (e : Ending) (w' : World) : Prop := e = panicV er ∧ ∃ s', s'.hd.at_ = at_ ∧ OkP w p B R s' w'
def PostU (w : World) (p B : Nat) (R : PRep) (r : Res Unit) (e : Ending) (w' : World) : Prop :=
  match r with
  | .ok _ s' => e = .returned (.tuple #[]) ∧ OkP w p B R s' w'
  | .err er a => ErrP w p B R er a e w'
theorem PostU.ok {w : World} {p B : Nat} {R : PRep} {s' : Ps} {w' : World} (h : OkP w p B R s' w') : PostU w p B R (.ok () s') (.returned (.tuple #[])) w' := ⟨rfl, h⟩
theorem PostU.err {w : World} {p B : Nat} {R : PRep} {er : Int} {a : Nat} {e : Ending} {w' : World} (h : ErrP w p B R er a e w') : PostU w p B R (.err er a) e w' := h
theorem OkP.trans {w w1 w2 : World} {p B : Nat} {R R1 : PRep} {s : Ps} (h : Moves w (MineP p R) w1 (MineP p R1)) (k : OkP w1 p B R1 s w2) : OkP w p B R s w2 := let ⟨R2, a, b⟩ := k; ⟨R2, a, h.trans b⟩
theorem ErrP.trans {w w1 w2 : World} {p B : Nat} {R R1 : PRep} {er : Int} {a : Nat} {e : Ending} (h : Moves w (MineP p R) w1 (MineP p R1)) (k : ErrP w1 p B R1 er a e w2) : ErrP w p B R er a e w2 := let ⟨x, s, y, z⟩ := k; ⟨x, s, y, OkP.trans h z⟩
theorem PostU.trans {w w1 w2 : World} {p B : Nat} {R R1 : PRep} {r : Res Unit} {e : Ending} (h : Moves w (MineP p R) w1 (MineP p R1)) (k : PostU w1 p B R1 r e w2) : PostU w p B R r e w2 := by
  cases r with
  | ok a s => exact ⟨k.1, OkP.trans h k.2⟩
  | err er a => exact ErrP.trans h k
theorem PS.set0 {w : World} {p B : Nat} {s : Ps} {R : PRep} (h : PS w p B s R) (hk : s.hd.kind ≠ 4) :
    PS (w.setCell ⟨p, 0, none⟩ (.slice (some ⟨R.bt, R.ot + 5, none⟩) (s.ts.length - 1) (R.ct - 1))) p B s.adv { R with ot := R.ot + 5, ct := R.ct - 1 } := by
  have hal := adv_len (s := s)
  obtain ⟨t, r, hs, ht⟩ := h.good.hd
  have hpos := h.good.pos
  have hkt : s.adv.ts = r := by show s.ts.tail = r; rw [hs]; rfl
  refine ⟨?_, fun k hk' => ?_, ?_, h.tlow, h.nodes, ?_, h.pB, h.good.adv hk⟩
  · have := h.blk.put 0 (.slice (some ⟨R.bt, R.ot + 5, none⟩) (s.ts.length - 1) (R.ct - 1))
    rw [hal]
    show Blk _ p 57 #[_, _, .int .i64 (s.deep : Int)]
    simpa using this
  · rw [hkt] at hk' ⊢
    have hne : R.bt ≠ p := by have := h.tlow; have := h.pB; omega
    rw [World.cell?_of_block (w := w) (Below.heap_setCell w ⟨p, 0, none⟩ _ R.bt hne)]
    show w.cell? ⟨R.bt, R.ot + 5 + k, none⟩ = _
    rw [Nat.add_assoc, h.toks (5 + k) (by rw [hs]; simp only [List.length_cons]; omega), hs]
    show (kcell t ++ kcells r)[5 + k]? = _
    rw [List.getElem?_append_right (by show 5 ≤ _; omega)]
    show (kcells r)[5 + k - 5]? = _
    rw [show 5 + k - 5 = k by omega]
  · have := h.tcap
    show s.adv.ts.length ≤ R.ct - 1
    omega
  · refine h.ns.keep fun b hb => Below.heap_setCell w ⟨p, 0, none⟩ _ b fun e => ?_
    rw [e] at hb
    exact h.ns.not_mine h.blk (by decide) (by decide) hb
set_option maxHeartbeats 1000000 in
theorem pfail_any (w : World) (p : Nat) (er : Int) : Calls Tryz.prog 46 #[.pointer (some ⟨p, 0, none⟩), .int .i64 er] w fun e w' => e = panicV er ∧ w = w' := by
  go_enter Tryz.func46, Tryz.ntmps46
  go_wp2
  exact ⟨rfl, rfl, rfl⟩
set_option maxHeartbeats 1000000 in
theorem pskip_no (w : World) (p B : Nat) (s : Ps) (R : PRep) (t : Bs) (hb : Hid (isP t s = false)) (h : PS w p B s R) :
    Calls Tryz.prog 83 #[.pointer (some ⟨p, 0, none⟩), .string (bstr t)] w fun e w' => e = .returned (.bool false) ∧ Ext w w' := by
  have HP := Lib.hid h
  clear h
  go_enter Tryz.func83, Tryz.ntmps83
  go_wp2_with fail
  refine (pis_any w p B s R t false hb HP.out).mono ?_
  rintro e w1 ⟨rfl, hx1⟩
  have HX := Lib.hid hx1
  clear hx1
  go_wp2_with fail
  go_ret
  exact ⟨rfl, HX.out⟩
set_option maxHeartbeats 1000000 in
theorem pskip_yes (w : World) (p B : Nat) (s : Ps) (R : PRep) (t : Bs) (hb : Hid (isP t s = true)) (h : PS w p B s R) :
    Calls Tryz.prog 83 #[.pointer (some ⟨p, 0, none⟩), .string (bstr t)] w fun e w' => e = .returned (.bool true) ∧ OkP w p B R s.adv w' := by
  have HP := Lib.hid h
  clear h
  go_enter Tryz.func83, Tryz.ntmps83
  go_wp2_with fail
  refine (pis_any w p B s R t true hb HP.out).mono ?_
  rintro e w1 ⟨rfl, hx1⟩
  have HX := Lib.hid hx1
  have HP1 := Lib.hid (HP.out.ext hx1)
  have hk := (isP_kind hb.out).1
  have HF : Hid (OkP w p B R s.adv (w1.setCell ⟨p, 0, none⟩ (.slice (some ⟨R.bt, R.ot + 5, none⟩) (s.ts.length - 1) (R.ct - 1)))) := Lib.hid ⟨_, HP1.out.set0 hk, (Moves.ext hx1).trans (Moves.set (.inl rfl))⟩
  have h2 : 2 ≤ s.ts.length := by
    have hg := (HP1.out.good.adv hk).pos
    rw [adv_len] at hg
    omega
  have h3 := HP1.out.tcap
  have x0 := HP1.out.x0
  have z0 := HP1.out.blk.frozen 0
  clear hx1 hk
  generalize s.ts.length = n at *
  generalize R.ct = ct at *
  go_wp2_with fail
  go_ret
  exact ⟨rfl, HF.out⟩
theorem PS.okp {w w' : World} {p B : Nat} {s : Ps} {R : PRep} (h : PS w p B s R) (hx : Ext w w') : OkP w p B R s w' := ⟨R, h.ext hx, Moves.ext hx⟩
set_option maxHeartbeats 1000000 in
theorem ptake_any (w : World) (p B : Nat) (s : Ps) (R : PRep) (t : Bs) (h : PS w p B s R) :
    Calls Tryz.prog 78 #[.pointer (some ⟨p, 0, none⟩), .string (bstr t)] w (PostU w p B R (takeP t s)) := by
  have HP := Lib.hid h
  clear h
  cases hi : isP t s with
  | true =>
    have HI := Lib.hid hi
    have HT : Hid (takeP t s = .ok () s.adv) := Lib.hid (by unfold takeP; rw [if_pos hi])
    clear hi
    go_enter Tryz.func78, Tryz.ntmps78
    go_wp2_with fail
    refine (pskip_yes w p B s R t HI HP.out).mono ?_
    rintro e w1 ⟨rfl, ho⟩
    have HO := Lib.hid ho
    clear ho
    go_wp2_with fail
    go_end0
    rw [HT.out]
    exact PostU.ok HO.out
  | false =>
    have HI := Lib.hid hi
    have HT : Hid (takeP t s = .err 50 s.hd.at_) := Lib.hid (by unfold takeP; rw [hi]; rfl)
    clear hi
    go_enter Tryz.func78, Tryz.ntmps78
    go_wp2_with fail
    refine (pskip_no w p B s R t HI HP.out).mono ?_
    rintro e w1 ⟨rfl, hx⟩
    have HX := Lib.hid hx
    clear hx
    go_wp2_with fail
    refine (pfail_any w1 p 50).mono ?_
    rintro e w2 ⟨rfl, rfl⟩
    have HE : Hid (PostU w p B R (takeP t s) (panicV 50) w1) := Lib.hid (by rw [HT.out]; exact ⟨rfl, s, rfl, HP.out.okp HX.out⟩)
    exact panics_post rfl HE.out
def PostV (w : World) (p B : Nat) (R : PRep) (v : Value) (r : Res Unit) (e : Ending) (w' : World) : Prop :=
  match r with
  | .ok _ s' => e = .returned v ∧ OkP w p B R s' w'
  | .err er a => ErrP w p B R er a e w'
theorem PS.keep {w w' : World} {p B : Nat} {s : Ps} {R : PRep} (h : PS w p B s R) (hk : ∀ b, b < B ∨ MineP p R b → w'.heap[b]? = w.heap[b]?) : PS w' p B s R :=
  ⟨(hk p (.inr (.inl rfl))).trans h.blk, fun k hk' => (World.cell?_of_block (w := w) (hk R.bt (.inl h.tlow))).trans (h.toks k hk'), h.tcap, h.tlow, h.nodes, h.ns.keep fun b hb => hk b (.inr (.inr hb)), h.pB, h.good⟩
theorem PS.not_mine {w : World} {p B : Nat} {s : Ps} {R : PRep} (h : PS w p B s R) {g : Nat} {t : TypeId} {cs : Array Value} (hg : Blk w g t cs) (h1 : t ≠ 50) (h2 : t ≠ 3) (h3 : t ≠ 57) : ¬ MineP p R g := by
  rintro (hb | hb)
  · subst hb; exact Blk.differ hg h.blk h3 rfl
  · exact h.ns.not_mine hg h1 h2 hb
def PRep.adv (R : PRep) : PRep := { R with ot := R.ot + 5, ct := R.ct - 1 }
def OkR (w : World) (p B : Nat) (R R' : PRep) (s' : Ps) (w' : World) : Prop := PS w' p B s' R' ∧ Moves w (MineP p R) w' (MineP p R')
theorem OkR.okp {w : World} {p B : Nat} {R R' : PRep} {s' : Ps} {w' : World} (h : OkR w p B R R' s' w') : OkP w p B R s' w' := ⟨R', h⟩
theorem OkR.ext {w : World} {p B : Nat} {R R' : PRep} {s' : Ps} {w' w2 : World} (h : OkR w p B R R' s' w') (hx : Ext w' w2) : OkR w p B R R' s' w2 := ⟨h.1.ext hx, h.2.trans (Moves.ext hx)⟩
/-- A block of the call's own is written: the reader stays. -/
theorem OkR.touch {w W w' : World} {p B g : Nat} {R R' : PRep} {s : Ps} (h : OkR w p B R R' s W) (ht : Touch g W w') (hg : w.heap.size ≤ g) (hB : B ≤ w.heap.size) (hn' : ¬ MineP p R' g) : OkR w p B R R' s w' := by
  obtain ⟨a, b⟩ := h
  refine ⟨a.keep fun k hk => ht.other k fun e => ?_, ?_⟩
  · subst e
    rcases hk with hk | hk
    · omega
    · exact hn' hk
  · exact ⟨ht.os.trans b.os, ht.tape.trans b.tape, ht.output.trans b.output, by rw [ht.size]; exact b.size, fun k hk hM => (ht.other k (by omega)).trans (b.keep k hk hM), b.mine⟩
theorem OkP.touch {w W w' : World} {p B g : Nat} {R : PRep} {s : Ps} (h : OkP w p B R s W) (ht : Touch g W w') (hg : w.heap.size ≤ g) (hB : B ≤ w.heap.size) (hn : ∀ R', PS W p B s R' → ¬ MineP p R' g) : OkP w p B R s w' :=
  let ⟨R', a⟩ := h
  ⟨R', OkR.touch a ht hg hB (hn R' a.1)⟩
theorem PS.okr {w W : World} {p B : Nat} {s : Ps} {R : PRep} (h : PS W p B s R) (hx : Ext w W) (hk : s.hd.kind ≠ 4) : OkR w p B R R.adv s.adv (W.setCell ⟨p, 0, none⟩ (.slice (some ⟨R.bt, R.ot + 5, none⟩) (s.ts.length - 1) (R.ct - 1))) :=
  ⟨h.set0 hk, (Moves.ext hx).trans (Moves.set (.inl rfl))⟩
set_option maxHeartbeats 1000000 in
theorem pof_yes (w : World) (p B : Nat) (s : Ps) (R : PRep) (k : Nat) (hk : Hid (s.hd.kind = k)) (h4 : k ≠ 4) (h : PS w p B s R) :
    Calls Tryz.prog 104 #[.pointer (some ⟨p, 0, none⟩), .int .u8 (k : Int)] w fun e w' => e = .returned (.agg (kcell s.hd).toArray) ∧ OkR w p B R R.adv s.adv w' := by
  have HP := Lib.hid h
  clear h
  go_enter Tryz.func104, Tryz.ntmps104
  go_wp2_with fail
  have HG0 := Lib.hid (Blk.new w 46 #[.int .u8 0, .int .i64 0, .int .i64 0, .string ⟨#[]⟩, .int .i64 0])
  refine (pnext_any _ p s R (HP.out.ext (Ext.alloc _ _)).ts).mono ?_
  rintro e w1 ⟨rfl, hx1⟩
  have HG1 := Lib.hid (HG0.out.ext hx1)
  have HX := Lib.hid ((Ext.alloc _ _).trans hx1)
  have hkk : (s.hd.kind : Int) = (k : Int) := by rw [hk.out]
  have h4' : s.hd.kind ≠ 4 := by rw [hk.out]; exact h4
  have HP1 := Lib.hid (HP.out.ext HX.out)
  have HO := Lib.hid (HP1.out.okr HX.out h4')
  have hpg : p ≠ w.heap.size := Nat.ne_of_lt HP.out.blk.lt
  have HG2 : Hid (Blk (w1.setCell ⟨p, 0, none⟩ (.slice (some ⟨R.bt, R.ot + 5, none⟩) (s.ts.length - 1) (R.ct - 1))) w.heap.size 46 #[.int .u8 0, .int .i64 0, .int .i64 0, .string ⟨#[]⟩, .int .i64 0]) := Lib.hid (HG1.out.far (p := ⟨p, 0, none⟩) (Ne.symm hpg) _)
  have HBW : Hid (B ≤ w.heap.size) := Lib.hid (Nat.le_trans HP.out.pB (Nat.le_of_lt HP.out.blk.lt))
  have h2 : 2 ≤ s.ts.length := by
    have hg := (HP1.out.good.adv h4').pos
    rw [adv_len] at hg
    omega
  have h3 := HP1.out.tcap
  have x0 := HP1.out.x0
  have z0 := HP1.out.blk.frozen 0
  have hpw : p < w1.heap.size := HP1.out.blk.lt
  unfold kcell at *
  clear hx1 h4'
  go_wp2_with (refine wpList_put rfl 46 (.tmp 4) (.tmp 22) rfl w.heap.size #[.int .u8 (k : Int), .int .i64 (s.hd.at_ : Int), .int .i64 (s.hd.en : Int), .string (bstr s.hd.text), .int .i64 s.hd.n] (by rfl) (by rfl) 46 _ (HG2.out.ext (Ext.alloc _ _)) (by kernel_rfl) rfl rfl ?_; intro w3 ht3 hb3)
  have HF := Lib.hid ((HO.out.ext (Ext.alloc _ _)).touch ht3 (Nat.le_refl _) HBW.out (HO.out.1.not_mine HG2.out (by decide) (by decide) (by decide)))
  have HB3 := Lib.hid hb3
  clear ht3 hb3
  go_wp2_with fail
  exact ret_row w.heap.size 46 _ _ Tryz.results104 rfl rfl HB3.out Tryz.underlying46 rfl (by kernel_rfl) ⟨by unfold kcell; rw [hkk], HF.out⟩
set_option maxHeartbeats 1000000 in
theorem pof_no (w : World) (p B : Nat) (s : Ps) (R : PRep) (k : Nat) (hk : Hid (s.hd.kind ≠ k)) (h : PS w p B s R) :
    Calls Tryz.prog 104 #[.pointer (some ⟨p, 0, none⟩), .int .u8 (k : Int)] w (ErrP w p B R 50 s.hd.at_) := by
  have HP := Lib.hid h
  clear h
  go_enter Tryz.func104, Tryz.ntmps104
  go_wp2_with fail
  refine (pnext_any _ p s R (HP.out.ext (Ext.alloc _ _)).ts).mono ?_
  rintro e w1 ⟨rfl, hx1⟩
  have HX := Lib.hid ((Ext.alloc _ _).trans hx1)
  have hkk : ¬ (s.hd.kind : Int) = (k : Int) := by have := hk.out; omega
  have HF : Hid (∀ o, ErrP w p B R 50 s.hd.at_ (panicV 50) (w1.alloc o)) := Lib.hid fun o => ⟨rfl, s, rfl, HP.out.okp (HX.out.trans (Ext.alloc _ _))⟩
  unfold kcell
  clear hx1
  go_wp2_with fail
  refine (pfail_any _ p 50).mono ?_
  rintro e w2 ⟨rfl, rfl⟩
  exact panics_post rfl (HF.out _)
end Go.Proofs.YtcccnicldbpieaaGreatDoor
