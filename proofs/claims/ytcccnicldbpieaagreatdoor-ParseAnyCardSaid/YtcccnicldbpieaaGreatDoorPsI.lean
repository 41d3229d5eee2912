/- An expression in memory; the program's put: its nodes. Condition: the nodes fit into memory. -/
import Derived.Test.YtcccnicldbpieaaGreatDoorPsH
namespace Go.Proofs.YtcccnicldbpieaaGreatDoor
open Go Go.RowKit
set_option linter.unusedVariables false
set_option linter.unusedSimpArgs false
def Ex.node : Ex → Nd
  | .leaf k p t n => ⟨k, p, t, n, []⟩
  | .neg p _ => ⟨26, p, [], 0, []⟩
  | .bin k p _ _ => ⟨k, p, [], 0, []⟩
def Ex.parts : Ex → List Ex
  | .leaf .. => []
  | .neg _ a => [a]
  | .bin _ _ a b => [a, b]
theorem Ex.node_kids (e : Ex) : e.node.kids = [] := by cases e <;> rfl
theorem Ex.node_pos (e : Ex) : e.node.pos = e.pos := by cases e <;> rfl
def putL (i : Nat) : List Ex → Ps → Ps
  | [], s => s
  | x :: l, s => putL i l (putP i x s)
theorem putP_eq (i : Nat) (e : Ex) (s : Ps) : putP i e s = putL s.nd.length e.parts ((s.kid i).add e.node) := by cases e <;> rfl
theorem putL_snoc (i : Nat) : ∀ (l : List Ex) (k : Nat) (hk : k < l.length) (s : Ps), putL i (l.take (k + 1)) s = putP i l[k] (putL i (l.take k) s)
  | x :: l, 0, _, s => rfl
  | x :: l, k + 1, hk, s => putL_snoc i l k (by simpa using hk) (putP i x s)
theorem Ex.part_size (e : Ex) : ∀ x ∈ e.parts, x.size < e.size := by
  intro x hx
  cases e with
  | leaf => cases hx
  | neg p a => rw [List.mem_singleton.1 hx]; show a.size < a.size + 1; omega
  | bin k p a b =>
    have hx' : x ∈ [a, b] := hx
    simp only [List.mem_cons, List.not_mem_nil, or_false] at hx'
    rcases hx' with rfl | rfl
    · show x.size < x.size + b.size + 1; omega
    · show x.size < a.size + x.size + 1; omega
theorem Ex.parts_few (e : Ex) : e.parts.length ≤ 2 := by cases e <;> simp [Ex.parts]
def ehead (n : Nd) (A : Option Addr) (m c : Nat) : List Value := [.int .u8 (n.kind : Int), .int .i64 (n.pos : Int), .string (bstr n.text), .int .i64 n.num, .slice none 0 0, .slice A m c]
/-- An expression's cells. -/
def EX (w : World) (M : Nat → Prop) : Ex → List Value → Prop
  | .leaf k p t n, cs => cs = ehead ⟨k, p, t, n, []⟩ none 0 0
  | .neg p a, cs => ∃ g ca, cs = ehead ⟨26, p, [], 0, []⟩ (some ⟨g, 0, none⟩) 1 1 ∧ Safe w M g 171 ca.toArray ∧ EX w M a ca
  | .bin k p a b, cs => ∃ g ca cb, cs = ehead ⟨k, p, [], 0, []⟩ (some ⟨g, 0, none⟩) 2 2 ∧ Safe w M g 171 (ca ++ cb).toArray ∧ EX w M a ca ∧ EX w M b cb
theorem EX.moves {w w' : World} {M M' : Nat → Prop} (k : Moves w M w' M') : ∀ {e : Ex} {cs : List Value}, EX w M e cs → EX w' M' e cs
  | .leaf .., _, h => h
  | .neg .., _, ⟨g, ca, h1, h2, h3⟩ => ⟨g, ca, h1, h2.moves k, EX.moves k h3⟩
  | .bin .., _, ⟨g, ca, cb, h1, h2, h3, h4⟩ => ⟨g, ca, cb, h1, h2.moves k, EX.moves k h3, EX.moves k h4⟩
theorem EX.len {w : World} {M : Nat → Prop} : ∀ {e : Ex} {cs : List Value}, EX w M e cs → cs.length = 6
  | .leaf .., _, h => by rw [h]; rfl
  | .neg .., _, ⟨g, ca, h1, h2, h3⟩ => by rw [h1]; rfl
  | .bin .., _, ⟨g, ca, cb, h1, h2, h3, h4⟩ => by rw [h1]; rfl
/-- A row of expressions. -/
def Parts (w : World) (M : Nat → Prop) (l : List Ex) (A : Option Addr) (f : Nat → List Value) : Prop :=
  (∀ k (hk : k < l.length), EX w M l[k] (f k)) ∧ (l = [] ∨ ∃ b, A = some ⟨b, 0, none⟩ ∧ b < w.heap.size ∧ ¬ M b ∧ ∀ k, k < l.length → ∀ j, j < 6 → w.cell? ⟨b, k * 6 + j, none⟩ = (f k)[j]?)
theorem Parts.moves {w w' : World} {M M' : Nat → Prop} {l : List Ex} {A : Option Addr} {f : Nat → List Value} (h : Parts w M l A f) (k : Moves w M w' M') : Parts w' M' l A f := by
  refine ⟨fun j hj => (h.1 j hj).moves k, ?_⟩
  rcases h.2 with h | ⟨b, h1, h2, h3, h4⟩
  · exact .inl h
  · refine .inr ⟨b, h1, Nat.lt_of_lt_of_le h2 k.size, fun h5 => by rcases k.mine b h5 with h6 | h6 <;> first | exact h3 h6 | omega, fun i hi j hj => ?_⟩
    rw [World.cell?_of_block (w := w) (k.keep b h2 h3)]
    exact h4 i hi j hj
theorem EX.open {w : World} {M : Nat → Prop} {e : Ex} {cs : List Value} (h : EX w M e cs) : ∃ A c f, cs = ehead e.node A e.parts.length c ∧ Parts w M e.parts A f := by
  cases e with
  | leaf k p t n => exact ⟨none, 0, fun _ => [], h, ⟨fun k hk => by simp [Ex.parts] at hk, .inl rfl⟩⟩
  | neg p a =>
    obtain ⟨g, ca, h1, h2, h3⟩ := h
    have hl := h3.len
    refine ⟨_, _, fun _ => ca, h1, ⟨fun k hk => ?_, .inr ⟨g, rfl, h2.1.lt, h2.2, fun k hk j hj => ?_⟩⟩⟩
    · obtain rfl : k = 0 := by simpa [Ex.parts] using hk
      exact h3
    · obtain rfl : k = 0 := by simpa [Ex.parts] using hk
      rw [Nat.zero_mul, Nat.zero_add, h2.1.cell j]
      simp
  | bin kd p a b =>
    obtain ⟨g, ca, cb, h1, h2, h3, h4⟩ := h
    have hl := h3.len
    refine ⟨_, _, fun k => if k = 0 then ca else cb, h1, ⟨fun k hk => ?_, .inr ⟨g, rfl, h2.1.lt, h2.2, fun k hk j hj => ?_⟩⟩⟩
    · have hk' : k < 2 := hk
      match k, hk' with
      | 0, _ => exact h3
      | 1, _ => exact h4
    · have hk' : k < 2 := hk
      rw [h2.1.cell (k * 6 + j)]
      match k, hk' with
      | 0, _ =>
        show (ca ++ cb).toArray[0 * 6 + j]? = ca[j]?
        rw [Nat.zero_mul, Nat.zero_add, List.getElem?_toArray, List.getElem?_append_left (by omega)]
      | 1, _ =>
        show (ca ++ cb).toArray[1 * 6 + j]? = cb[j]?
        rw [List.getElem?_toArray, List.getElem?_append_right (by omega)]
        congr 1
        omega
theorem PS.kidlen {s : Ps} (i : Nat) : (s.kid i).nd.length = s.nd.length := on_len
theorem kid_few {s : Ps} (h : ∀ n ∈ s.nd, n.kids.length ≤ s.nd.length) (i : Nat) : ∀ n ∈ (s.kid i).nd, n.kids.length ≤ s.nd.length + 1 := on_few (s.nd.length + 1) (fun n hn => by have := h n hn; simp; omega) (fun n hn => by have := h n hn; omega)
theorem kid_add_good {s : Ps} (h : Good s) (i : Nat) (x : Nd) (hx : x.kids = []) : Good ((s.kid i).add x) := ⟨h.last, h.deep, kid_add_few h.few i x hx⟩
theorem putL_len (i : Nat) : ∀ (l : List Ex) (s : Ps), s.nd.length ≤ (putL i l s).nd.length ∧ (putL i l s).ts = s.ts ∧ (putL i l s).deep = s.deep
  | [], s => ⟨Nat.le_refl _, rfl, rfl⟩
  | x :: l, s => by
    obtain ⟨h1, h2, h3⟩ := putL_len i l (putP i x s)
    obtain ⟨k1, k2, k3⟩ := put_len x i s
    exact ⟨by show _ ≤ (putL i l (putP i x s)).nd.length; omega, h2.trans k2, h3.trans k3⟩
theorem putL_good (i : Nat) : ∀ (l : List Ex) (s : Ps), Good s → Good (putL i l s)
  | [], s, h => h
  | x :: l, s, h => putL_good i l _ (by
    obtain ⟨k1, k2, k3⟩ := put_len x i s
    exact ⟨by rw [k2]; exact h.last, by rw [k3]; exact h.deep, put_few x i s h.few⟩)
theorem putL_size (i : Nat) : ∀ (l : List Ex) (s : Ps), (putL i l s).nd.length = s.nd.length + (l.map Ex.size).sum
  | [], s => rfl
  | x :: l, s => by
    show (putL i l (putP i x s)).nd.length = _
    rw [putL_size i l, (put_len x i s).1, List.map_cons, List.sum_cons]
    omega
theorem Ex.size_parts (e : Ex) : e.size = (e.parts.map Ex.size).sum + 1 := by cases e <;> simp [Ex.size, Ex.parts]
theorem sum_take_lt : ∀ (l : List Nat) (k : Nat) (hk : k < l.length), (l.take k).sum + l[k] ≤ l.sum
  | x :: l, 0, _ => by simp
  | x :: l, k + 1, hk => by
    have := sum_take_lt l k (by simpa using hk)
    simp only [List.take_succ_cons, List.sum_cons, List.getElem_cons_succ]
    omega
theorem Ex.pos_size : ∀ (e : Ex), 0 < e.size
  | .leaf .. => Nat.zero_lt_one
  | .neg .. => Nat.succ_pos _
  | .bin .. => Nat.succ_pos _
set_option maxRecDepth 100000 in
set_option maxHeartbeats 4000000 in
theorem pput_step (f : Nat) (ih : ∀ (e : Ex), e.size ≤ f → ∀ (w : World) (p B : Nat) (s : Ps) (R : PRep) (i : Nat) (cs : List Value), PS w p B s R → Good s → i < s.nd.length → s.nd.length + e.size ≤ 1000000 → EX w (MineP p R) e cs →
    Calls Tryz.prog 142 #[.pointer (some ⟨p, 0, none⟩), .int .i64 (i : Int), .agg cs.toArray] w fun en w' => en = .returned (.tuple #[]) ∧ OkP w p B R (putP i e s) w')
    (e : Ex) (hsz : e.size ≤ f + 1) (w : World) (p B : Nat) (s : Ps) (R : PRep) (i : Nat) (cs : List Value) (h : PS w p B s R) (hG : Good s) (hi : i < s.nd.length) (hbig : s.nd.length + e.size ≤ 1000000) (hx : EX w (MineP p R) e cs) :
    Calls Tryz.prog 142 #[.pointer (some ⟨p, 0, none⟩), .int .i64 (i : Int), .agg cs.toArray] w fun en w' => en = .returned (.tuple #[]) ∧ OkP w p B R (putP i e s) w' := by
  obtain ⟨i0, hi0, hz0, hz1, hz2⟩ := info_parts infoInt
  obtain ⟨i1, hi1, hy0, hy1, hy2⟩ := info_parts infoNode
  obtain ⟨eA, ec, ef, hcs, hpt⟩ := hx.open
  have HQ := Lib.hid (putP_eq i e s)
  have HSZ := Lib.hid hsz
  have HBG := Lib.hid hbig
  have HSP := Lib.hid e.size_parts
  have HEP := Lib.hid e.pos_size
  have HPF := Lib.hid e.parts_few
  have hnk := e.node_kids
  have hIH := Lib.hid ih
  have hps := fun x (hx : x ∈ e.parts) => e.part_size x hx
  have HPS0 := Lib.hid hps
  clear ih hsz hx hps
  generalize e.parts = l at *
  generalize e.node = x at *
  obtain ⟨xk, xp, xt, xn, xkids⟩ := x
  simp only at hnk
  subst hnk
  subst hcs
  have hlen := h.len
  have hi' : i < R.nh.length := by omega
  obtain ⟨g, hA⟩ := h.nslot (by omega)
  obtain ⟨x, hxi⟩ : ∃ x, R.nh[i] = x := ⟨_, rfl⟩
  obtain ⟨⟨nk, np, nt, nn, kk⟩, kA, kc⟩ := x
  unfold ehead
  obtain ⟨gx, HGE⟩ : ∃ gx, Hid (w.heap.size = gx) := ⟨_, Lib.hid rfl⟩
  obtain ⟨W, HW⟩ : ∃ W, Hid (W = w.alloc (.cells (ehead ⟨xk, xp, xt, xn, []⟩ eA l.length ec).toArray 171)) := ⟨_, Lib.hid rfl⟩
  have HXW : Hid (Ext w W) := Lib.hid (by rw [HW.out]; exact Ext.alloc _ _)
  have HBX : Hid (Safe W (MineP p R) gx 171 (ehead ⟨xk, xp, xt, xn, []⟩ eA l.length ec).toArray) := Lib.hid (by rw [HW.out, ← HGE.out]; exact h.fresh _ _)
  have hP := h.ext HXW.out
  have c4 : W.cell? ⟨g, i * 5 + 4, none⟩ = some (.slice kA kk.length kc) := by rw [hP.nodeCell i hi' hA 4 (by decide), hxi]; rfl
  have hkr := hP.ns.rowH _ (List.getElem_mem hi')
  have hkk := hP.ns.kids _ (List.getElem_mem hi')
  rw [hxi] at hkr hkk
  simp only at hkr hkk
  obtain ⟨o, HO⟩ : ∃ o, Hid ((Value.slice kA kk.length kc).ownBlock = o) := ⟨_, Lib.hid rfl⟩
  have HPN : Hid (some p ≠ o) := Lib.hid fun e => by
    rw [← HO.out] at e
    obtain ⟨cur, hc⟩ := own_type hkk (own_block hkk e.symm)
    exact Blk.differ hP.blk hc (by decide) rfl
  have HGN : Hid (some g ≠ o) := Lib.hid fun e => by
    rw [← HO.out] at e
    obtain ⟨cur, hc⟩ := own_type hkk (own_block hkk e.symm)
    obtain ⟨cur2, hc2⟩ := own_type hP.ns.row hA
    exact Blk.differ hc2 hc (by decide) rfl
  have HOG : Hid (∀ g, o = some g → g < W.heap.size) := Lib.hid fun g e => by
    rw [← HO.out] at e
    exact (own_lt hkk (own_block hkk e)).2
  have hgl := (own_lt hP.ns.row hA).2
  have hpl := hP.blk.lt
  have HBW : Hid (B ≤ W.heap.size) := Lib.hid (Nat.le_trans hP.pB (Nat.le_of_lt hpl))
  have HXI := Lib.hid hxi
  have HP := Lib.hid hP
  have HA := Lib.hid hA
  have HKR := Lib.hid hkr
  have HPT := Lib.hid (hpt.moves (Moves.ext (M := MineP p R) HXW.out))
  have HLN := Lib.hid hlen
  have HG := Lib.hid hG
  have HKB : Hid (kk.length ≤ 1000000) := Lib.hid (by
    have := hG.few (R.nh[i].1) (by rw [h.nodes]; exact List.mem_map.2 ⟨_, List.getElem_mem hi', rfl⟩)
    rw [HXI.out] at this
    simp only at this
    omega)
  have hbig2 : R.nh.length + 1 ≤ 1000000 := by have := HEP.out; omega
  obtain ⟨Fs, HFS⟩ : ∃ Fs, Hid (FsH B 3 (.slice kA kk.length kc) W.heap.size kk.length (ints kk) [Value.int .i64 (R.nh.length : Int)] = Fs) := ⟨_, Lib.hid rfl⟩
  have hE : ∀ F ∈ Fs, ∀ v w w', F v w → Ext w w' → F v w' := by rw [← HFS.out]; exact FsH_ext _ _ _ _ _ _ _
  have m0 : (fun (_ : Value) w => RowFH B 3 kk.length (ints kk) (.slice kA kk.length kc) w) ∈ Fs := by rw [← HFS.out]; simp only [FsH, List.mem_cons, true_or]
  have m1 : LitN 3 W.heap.size #[Value.int .i64 (R.nh.length : Int)] ∈ Fs := by rw [← HFS.out]; simp only [FsH, List.mem_cons, true_or, or_true]
  have m2 : ResH B 3 o W.heap.size (kk.length + 1) (ints kk ++ [Value.int .i64 (R.nh.length : Int)]) ∈ Fs := by rw [← HFS.out, ← HO.out]; simp only [FsH, List.mem_cons, true_or, or_true]
  have HE2 := Lib.hid hE
  have M0 := Lib.hid m0
  have M1 := Lib.hid m1
  have M2 := Lib.hid m2
  have q0 : (i : Int) < (R.nh.length : Int) := by omega
  have C4 := Lib.hid c4
  have x1 := hP.x1' hA
  clear h hG hi hpt hlen hE m0 m1 m2 hxi hkr hkk hA c4 hP hbig
  go_enter Tryz.func142, Tryz.ntmps142
  have HWE : Hid (w.alloc (.cells #[.int .u8 (xk : Int), .int .i64 (xp : Int), .string (bstr xt), .int .i64 xn, .slice none 0 0, .slice eA l.length ec] 171) = W) := Lib.hid (by rw [HW.out]; rfl)
  go_upto_region 1 with fail
  rw [HWE.out, HGE.out]
  go_upto_region 2 with fail
  apply region_app o Fs 18 (by kernel_rfl) (by kernel_rfl) (by kernel_rfl) HE2.out
  dsimp only [List.take_succ_cons, List.take_zero, List.drop_succ_cons, List.drop_zero]
  apply step_det (.pointer (some ⟨p, 0, none⟩)) rfl rfl rfl
  · intro w' hw' hH
    clear hH hw'
    simp [YieldsF, go_sem]
    exact AppR.refl _
  apply step_det (.pointer (some ⟨p, 0, none⟩)) rfl rfl rfl
  · intro w' hw' hH
    clear hH hw'
    simp [YieldsF, go_sem]
    exact AppR.refl _
  apply step_det (.pointer (some ⟨p, 1, none⟩)) rfl rfl rfl
  · intro w' hw' hH
    clear hH hw'
    simp [YieldsF, go_sem]
    exact AppR.refl _
  simp only [Act.put, List.setIfInBounds_toArray, List.set_cons_succ, List.set_cons_zero]
  apply step_det (.slice (some ⟨g, 0, none⟩) R.nh.length R.c) rfl rfl rfl
  · intro w' hw' hH
    have hR := AppR.refl (o := o) (Fs := Fs) w'
    have cc := Blk.cell ((hw'.1.block p hpl HPN.out).trans HP.out.blk) 1
    rw [HA.out] at cc
    clear hH hw'
    simp [YieldsF, go_sem, cc, q0]
    exact hR
  apply step_det (.int .i64 (i : Int)) rfl rfl rfl
  · intro w' hw' hH
    clear hH hw'
    simp [YieldsF, go_sem]
    exact AppR.refl _
  apply step_det (.pointer (some ⟨p, 0, none⟩)) rfl rfl rfl
  · intro w' hw' hH
    clear hH hw'
    simp [YieldsF, go_sem]
    exact AppR.refl _
  apply step_det (.pointer (some ⟨p, 0, none⟩)) rfl rfl rfl
  · intro w' hw' hH
    clear hH hw'
    simp [YieldsF, go_sem]
    exact AppR.refl _
  apply step_det (.pointer (some ⟨p, 1, none⟩)) rfl rfl rfl
  · intro w' hw' hH
    clear hH hw'
    simp [YieldsF, go_sem]
    exact AppR.refl _
  simp only [Act.put, List.setIfInBounds_toArray, List.set_cons_succ, List.set_cons_zero]
  apply step_det (.slice (some ⟨g, 0, none⟩) R.nh.length R.c) rfl rfl rfl
  · intro w' hw' hH
    have hR := AppR.refl (o := o) (Fs := Fs) w'
    have cc := Blk.cell ((hw'.1.block p hpl HPN.out).trans HP.out.blk) 1
    rw [HA.out] at cc
    clear hH hw'
    simp [YieldsF, go_sem, cc, q0]
    exact hR
  apply step_det (.int .i64 (i : Int)) rfl rfl rfl
  · intro w' hw' hH
    clear hH hw'
    simp [YieldsF, go_sem]
    exact AppR.refl _
  simp only [Act.put, List.setIfInBounds_toArray, List.set_cons_succ, List.set_cons_zero]
  apply step_det (.pointer (some ⟨g, i * 5, none⟩)) rfl rfl rfl
  · intro w' hw' hH
    clear hH hw'
    simp [YieldsF, go_sem, q0]
    exact AppR.refl _
  apply step_det (.pointer (some ⟨g, i * 5 + 4, none⟩)) rfl rfl rfl
  · intro w' hw' hH
    clear hH hw'
    simp [YieldsF, go_sem, q0]
    exact AppR.refl _
  simp only [Act.put, List.setIfInBounds_toArray, List.set_cons_succ, List.set_cons_zero]
  apply step_det (.slice kA kk.length kc) rfl rfl rfl
  · intro w' hw' hH
    have hR := AppR.refl (o := o) (Fs := Fs) w'
    have cc := (World.cell?_of_block (w := W) (a := ⟨g, i * 5 + 4, none⟩) (hw'.1.block g hgl HGN.out)).trans C4.out
    clear hH hw'
    simp [YieldsF, go_sem, cc, q0]
    exact hR
  apply step_det (.int .i64 (R.nh.length : Int)) rfl rfl rfl
  · intro w' hw' hH
    clear hH hw'
    simp [YieldsF, go_sem]
    exact AppR.refl _
  apply step_fact (LitN 3 W.heap.size #[Value.int .i64 (R.nh.length : Int)]) (fun v w w' h hx => hx.2 _ M1.out v h) rfl rfl rfl
  · intro w' hw' hH
    have hz := hw'.1.size
    clear hH hw'
    simp [YieldsF, go_sem]
    exact ⟨⟨_, rfl, Blk.new _ _ _, hz⟩, AppR.ext HE2.out (Ext.alloc _ _)⟩
  intro v28
  simp only [Act.put, List.setIfInBounds_toArray, List.set_cons_succ, List.set_cons_zero]
  apply step_fact (ResH B 3 o W.heap.size (kk.length + 1) (ints kk ++ [Value.int .i64 (R.nh.length : Int)])) (fun v w w' h hx => hx.2 _ M2.out v h) rfl rfl rfl
  · intro w' hw' hH
    have hlit := hH _ (List.mem_cons_self ..) ⟨_, rfl, by decide⟩
    have hrow := hw'.2 _ M0.out undef HKR.out
    have hz := hw'.1.size
    clear hH hw'
    rw [← HFS.out, ← HO.out]
    exact yields_appH B W.heap.size (.tmp 26) (.tmp 28) 48 rfl 3 i0 _ 8 Tryz.underlying48 hi0 hz0 hz1 hz2 rfl (.slice kA kk.length kc) kk.length (ints kk) [Value.int .i64 (R.nh.length : Int)] (by kernel_rfl) hrow v28 (by kernel_rfl) hlit rfl (by simp [Value.oneCell']) (by unfold maxLen; have := HKB.out; omega) (by have := HKB.out; omega) (Nat.le_trans HBW.out hz) hz (fun g e => HOG.out g (by rw [← HO.out]; exact e))
  intro v29
  simp only [Act.put, List.setIfInBounds_toArray, List.set_cons_succ, List.set_cons_zero]
  apply step_det (.pointer (some ⟨g, i * 5, none⟩)) rfl rfl rfl
  · intro w' hw' hH
    clear hH hw'
    simp [YieldsF, go_sem, q0]
    exact AppR.refl _
  apply step_det (.pointer (some ⟨g, i * 5 + 4, none⟩)) rfl rfl rfl
  · intro w' hw' hH
    clear hH hw'
    simp [YieldsF, go_sem, q0]
    exact AppR.refl _
  apply WalkF_nil
  intro w2 hw2 hH
  have h28 := hH _ (List.mem_cons_self ..)
  clear hH
  obtain ⟨gk, cap, rfl⟩ := h28.1.at
  have hgr := hw2.1
  have hgb := hw2.1.block g hgl HGN.out
  rw [← HO.out] at hgr
  have HS : Hid (OkP W p B R (s.kid i) (w2.setCell ⟨g, i * 5 + 4, none⟩ (.slice (some ⟨gk, 0, none⟩) (kk.length + 1) cap))) := Lib.hid (by
    have hh := PS.kid (gk := gk) (cap := cap) HP.out i hi' HA.out (w1 := w2) (by rw [HXI.out]; exact h28.1.1) (by rw [HXI.out]; exact hgr) (by
      rw [HXI.out]
      rcases h28.2 with e | ⟨g', e, hg'⟩
      · left; rw [HO.out, ← e]; rfl
      · right; have : gk = g' := by simpa [Value.ownBlock] using e
        omega)
    rw [HXI.out] at hh
    exact hh)
  have y1 : w2.cell? ⟨g, i * 5 + 4, none⟩ = some (.slice kA kk.length kc) := (World.cell?_of_block (w := W) (a := ⟨g, i * 5 + 4, none⟩) hgb).trans C4.out
  have z1 : w2.frozen? ⟨g, i * 5 + 4, none⟩ = false := (World.frozen?_of_block (w := W) (a := ⟨g, i * 5 + 4, none⟩) hgb).trans (HP.out.nthaw _ HA.out)
  clear h28 hgr hgb hw2 x1
  simp only [Act.put, List.setIfInBounds_toArray, List.set_cons_succ, List.set_cons_zero]
  go_upto_region 3 with fail
  clear y1 z1
  generalize w2.setCell ⟨g, i * 5 + 4, none⟩ (.slice (some ⟨gk, 0, none⟩) (kk.length + 1) cap) = w3 at *
  obtain ⟨R3, hps3, hmv3⟩ := HS.out
  have hl3 : R3.nh.length = R.nh.length := by rw [← hps3.len, ← HLN.out]; exact on_len
  have HL3 := Lib.hid hl3
  have HP3 := Lib.hid hps3
  have HM3 := Lib.hid hmv3
  have HB3 := Lib.hid (HBX.out.moves hmv3)
  have hb3l := HB3.out.1.lt
  have hpl3 := hps3.blk.lt
  clear hl3
  clear hi0 hz0 hz1 hz2 i0 hpl hgl HFS HE2 M0 M1 M2 HPN HGN HOG HO
  obtain ⟨o, HO⟩ : ∃ o, Hid ((Value.slice R3.A R3.nh.length R3.c).ownBlock = o) := ⟨_, Lib.hid rfl⟩
  have HPN : Hid (some p ≠ o) := Lib.hid fun e => by
    rw [← HO.out] at e
    obtain ⟨cur, hc⟩ := own_type hps3.ns.row (own_block hps3.ns.row e.symm)
    exact Blk.differ hps3.blk hc (by decide) rfl
  have HXN : Hid (some gx ≠ o) := Lib.hid fun e => by
    rw [← HO.out] at e
    exact HB3.out.2 (.inr (.inl (own_block hps3.ns.row e.symm)))
  have HOG : Hid (∀ g, o = some g → g < w3.heap.size) := Lib.hid fun g e => by
    rw [← HO.out] at e
    exact (own_lt hps3.ns.row (own_block hps3.ns.row e)).2
  have HBW3 : Hid (B ≤ w3.heap.size) := Lib.hid (Nat.le_trans hps3.pB (Nat.le_of_lt hpl3))
  obtain ⟨Fs, HFS⟩ : ∃ Fs, Hid (FsK B 50 (.slice R3.A R3.nh.length R3.c) w3.heap.size R3.nh.length (ncs R3.nh) (ncell (⟨xk, xp, xt, xn, []⟩, (none, 0))) = Fs) := ⟨_, Lib.hid rfl⟩
  have hE : ∀ F ∈ Fs, ∀ v w w', F v w → Ext w w' → F v w' := by rw [← HFS.out]; exact FsK_ext _ _ _ _ _ _ _
  have m0 : (fun (_ : Value) w => RowFK B 50 R3.nh.length (ncs R3.nh) (.slice R3.A R3.nh.length R3.c) w) ∈ Fs := by rw [← HFS.out]; simp only [FsK, List.mem_cons, true_or]
  have m1 : LitN 50 w3.heap.size (ncell (⟨xk, xp, xt, xn, []⟩, (none, 0))).toArray ∈ Fs := by rw [← HFS.out]; simp only [FsK, List.mem_cons, true_or, or_true]
  have m2 : ResK B 50 o w3.heap.size (R3.nh.length + 1) (ncs R3.nh ++ ncell (⟨xk, xp, xt, xn, []⟩, (none, 0))) ∈ Fs := by rw [← HFS.out, ← HO.out]; simp only [FsK, List.mem_cons, true_or, or_true]
  have HE2 := Lib.hid hE
  have M0 := Lib.hid m0
  have M1 := Lib.hid m1
  have M2 := Lib.hid m2
  clear hps3 hmv3 hE m0 m1 m2
  apply region_app o Fs 11 (by kernel_rfl) (by kernel_rfl) (by kernel_rfl) HE2.out
  dsimp only [List.take_succ_cons, List.take_zero, List.drop_succ_cons, List.drop_zero]
  apply step_det (.pointer (some ⟨p, 0, none⟩)) rfl rfl rfl
  · intro w' hw' hH
    clear hH hw'
    simp [YieldsF, go_sem]
    exact AppR.refl _
  apply step_det (.pointer (some ⟨p, 0, none⟩)) rfl rfl rfl
  · intro w' hw' hH
    clear hH hw'
    simp [YieldsF, go_sem]
    exact AppR.refl _
  apply step_det (.pointer (some ⟨p, 0, none⟩)) rfl rfl rfl
  · intro w' hw' hH
    clear hH hw'
    simp [YieldsF, go_sem]
    exact AppR.refl _
  apply step_det (.pointer (some ⟨p, 1, none⟩)) rfl rfl rfl
  · intro w' hw' hH
    clear hH hw'
    simp [YieldsF, go_sem]
    exact AppR.refl _
  simp only [Act.put, List.setIfInBounds_toArray, List.set_cons_succ, List.set_cons_zero]
  apply step_det (.slice R3.A R3.nh.length R3.c) rfl rfl rfl
  · intro w' hw' hH
    have hR := AppR.refl (o := o) (Fs := Fs) w'
    have cc := Blk.cell ((hw'.1.block p hpl3 HPN.out).trans HP3.out.blk) 1
    clear hH hw'
    simp [YieldsF, go_sem, cc]
    exact hR
  apply step_det (.pointer (some ⟨gx, 0, none⟩)) rfl rfl rfl
  · intro w' hw' hH
    clear hH hw'
    simp [YieldsF, go_sem]
    exact AppR.refl _
  simp only [Act.put, List.setIfInBounds_toArray, List.set_cons_succ, List.set_cons_zero]
  apply step_det (.agg #[.int .u8 (xk : Int), .int .i64 (xp : Int), .string (bstr xt), .int .i64 xn, .slice none 0 0]) rfl rfl rfl
  · intro w' hw' hH
    have hR := AppR.refl (o := o) (Fs := Fs) w'
    have bb := (hw'.1.block gx hb3l HXN.out).trans HB3.out.1
    have c0 := Blk.cell bb 0
    have c1 := Blk.cell bb 1
    have c2 := Blk.cell bb 2
    have c3 := Blk.cell bb 3
    have c4 := Blk.cell bb 4
    clear bb
    simp only [ehead, List.getElem?_toArray, List.getElem?_cons_zero, List.getElem?_cons_succ] at c0 c1 c2 c3 c4
    clear hH hw'
    simp [YieldsF, go_sem, c0, c1, c2, c3, c4]
    exact hR
  apply step_fact (LitN 50 w3.heap.size (ncell (⟨xk, xp, xt, xn, []⟩, (none, 0))).toArray) (fun v w w' h hx => hx.2 _ M1.out v h) rfl rfl rfl
  · intro w' hw' hH
    have hz := hw'.1.size
    clear hH hw'
    simp [YieldsF, go_sem]
    exact ⟨⟨_, rfl, Blk.new _ _ _, hz⟩, AppR.ext HE2.out (Ext.alloc _ _)⟩
  intro v39
  simp only [Act.put, List.setIfInBounds_toArray, List.set_cons_succ, List.set_cons_zero]
  apply step_fact (ResK B 50 o w3.heap.size (R3.nh.length + 1) (ncs R3.nh ++ ncell (⟨xk, xp, xt, xn, []⟩, (none, 0)))) (fun v w w' h hx => hx.2 _ M2.out v h) rfl rfl rfl
  · intro w' hw' hH
    have hlit := hH _ (List.mem_cons_self ..) ⟨_, rfl, by decide⟩
    have hrow := hw'.2 _ M0.out undef HP3.out.ns.rowK
    have hz := hw'.1.size
    clear hH hw'
    rw [← HFS.out, ← HO.out]
    exact yields_appK B w3.heap.size (.tmp 36) (.tmp 39) 24 rfl 50 i1 _ 64 Tryz.underlying24 hi1 hy0 hy1 hy2 rfl (.slice R3.A R3.nh.length R3.c) R3.nh.length (ncs R3.nh) (ncell (⟨xk, xp, xt, xn, []⟩, (none, 0))) (by kernel_rfl) hrow v39 (by kernel_rfl) hlit rfl (ncell_one _) (by unfold maxLen; have := HL3.out; omega) (by have := HL3.out; omega) (Nat.le_trans HBW3.out hz) hz (fun g e => HOG.out g (by rw [← HO.out]; exact e))
  intro v40
  simp only [Act.put, List.setIfInBounds_toArray, List.set_cons_succ, List.set_cons_zero]
  apply step_det (.pointer (some ⟨p, 0, none⟩)) rfl rfl rfl
  · intro w' hw' hH
    clear hH hw'
    simp [YieldsF, go_sem]
    exact AppR.refl _
  apply step_det (.pointer (some ⟨p, 1, none⟩)) rfl rfl rfl
  · intro w' hw' hH
    clear hH hw'
    simp [YieldsF, go_sem]
    exact AppR.refl _
  apply WalkF_nil
  intro w4 hw4 hH
  have h26 := hH _ (List.mem_cons_self ..)
  clear hH
  obtain ⟨g4, cap4, rfl⟩ := h26.1.at
  have hgr := hw4.1
  rw [← HO.out] at hgr
  have hb3 : Blk w4 p 57 _ := (hw4.1.block p hpl3 HPN.out).trans HP3.out.blk
  obtain ⟨hs1, hs2⟩ := PS.snoc (w := w3) HP3.out (Ext.refl w3) ⟨xk, xp, xt, xn, []⟩ rfl h26.1.1 hgr (by
    rcases h26.2 with e | ⟨g', e, hg'⟩
    · left; rw [HO.out, ← e]; rfl
    · right; have : g4 = g' := by simpa [Value.ownBlock] using e
      omega)
  have y1 : w4.cell? ⟨p, 1, none⟩ = some (.slice R3.A R3.nh.length R3.c) := hb3.cell 1
  have z1 := hb3.frozen 1
  have HS4 : Hid (OkP w3 p B R3 ((s.kid i).add ⟨xk, xp, xt, xn, []⟩) (w4.setCell ⟨p, 1, none⟩ (.slice (some ⟨g4, 0, none⟩) (R3.nh.length + 1) cap4))) := Lib.hid ⟨_, hs1, hs2⟩
  clear h26 hgr hb3 hs1 hs2 hw4
  simp only [Act.put, List.setIfInBounds_toArray, List.set_cons_zero, List.set_cons_succ]
  go_upto_region 4 with fail
  clear y1 z1
  generalize w4.setCell ⟨p, 1, none⟩ (.slice (some ⟨g4, 0, none⟩) (R3.nh.length + 1) cap4) = w5 at *
  obtain ⟨R5, hps5, hmv5⟩ := HS4.out
  have HS5 : Hid (OkP w p B R ((s.kid i).add ⟨xk, xp, xt, xn, []⟩) w5) := Lib.hid ⟨R5, hps5, ((Moves.ext HXW.out).trans HM3.out).trans hmv5⟩
  have HPT5 := Lib.hid ((HPT.out.moves HM3.out).moves hmv5)
  have HB5 := Lib.hid (HB3.out.moves hmv5)
  have HP5 := Lib.hid hps5
  have c5 : w5.cell? ⟨gx, 5, none⟩ = some (.slice eA l.length ec) := HB5.out.1.cell 5
  have HWM := Lib.hid (((Moves.ext (M := MineP p R) HXW.out).trans HM3.out).trans hmv5)
  clear hps5 hmv5
  go_wp2_with fail
  go_loopw [46] (fun i' wr => ∃ (k : Nat) (R' : PRep), k ≤ l.length ∧ i' = .int .i64 k ∧ Hid (PS wr p B (putL s.nd.length (l.take k) ((s.kid i).add ⟨xk, xp, xt, xn, []⟩)) R') ∧ Hid (Moves w (MineP p R) wr (MineP p R')) ∧ Hid (Parts wr (MineP p R') l eA ef)) (fun i' _ => l.length - (intOf i').toNat)
  case atStart => exact ⟨0, R5, Nat.zero_le _, rfl, HP5, HWM, HPT5⟩
  case round =>
    obtain ⟨k, R', hk, rfl, HPK, HMK, HPTK⟩ := hrel
    obtain ⟨wa, rfl⟩ : ∃ wa : World, wa = wr := ⟨_, rfl⟩
    have hl2 := HPF.out
    by_cases hlt : k < l.length
    · have d0 : decide ((k : Int) < (l.length : Int)) = true := decide_eq_true (by omega)
      have q1 : (k : Int) < (l.length : Int) := by omega
      obtain ⟨b, rfl, hb, hbM, hcc⟩ : ∃ b, eA = some ⟨b, 0, none⟩ ∧ b < wa.heap.size ∧ ¬ MineP p R' b ∧ ∀ k, k < l.length → ∀ j, j < 6 → wa.cell? ⟨b, k * 6 + j, none⟩ = (ef k)[j]? := by
        rcases HPTK.out.2 with h | h
        · rw [h] at hlt; cases hlt
        · exact h
      have hex := HPTK.out.1 k hlt
      have HEX := Lib.hid hex
      have HXS := Lib.hid (HPS0.out l[k] (List.getElem_mem hlt))
      obtain ⟨A', c', f', he', _⟩ := hex.open
      have e0 := hcc k hlt 0 (by decide)
      have e1 := hcc k hlt 1 (by decide)
      have e2 := hcc k hlt 2 (by decide)
      have e3 := hcc k hlt 3 (by decide)
      have e4 := hcc k hlt 4 (by decide)
      have e5 := hcc k hlt 5 (by decide)
      rw [he'] at e0 e1 e2 e3 e4 e5
      have HHE := Lib.hid he'
      simp only [ehead, List.getElem?_cons_zero, List.getElem?_cons_succ, Nat.add_zero] at e0 e1 e2 e3 e4 e5
      clear hex he' hcc
      generalize l[k].node = y at *
      obtain ⟨yk, yp, yt, yn, yks⟩ := y
      simp only at e0 e1 e2 e3 e4 e5
      generalize l[k].parts.length = ym at *
      have HXA : Hid (Moves wa (MineP p R') (wa.alloc (.cells #[.int .u8 (yk : Int), .int .i64 (yp : Int), .string (bstr yt), .int .i64 yn, .slice none 0 0, .slice A' ym c'] 171)) (MineP p R')) := Lib.hid (Moves.ext (Ext.alloc _ _))
      have HXP := Lib.hid (HPK.out.ext (Ext.alloc wa (.cells #[.int .u8 (yk : Int), .int .i64 (yp : Int), .string (bstr yt), .int .i64 yn, .slice none 0 0, .slice A' ym c'] 171)))
      have HSN := Lib.hid (putL_snoc s.nd.length l k hlt ((s.kid i).add ⟨xk, xp, xt, xn, []⟩))
      have HGK : Hid (Good (putL s.nd.length (l.take k) ((s.kid i).add ⟨xk, xp, xt, xn, []⟩))) := Lib.hid (putL_good _ _ _ (kid_add_good HG.out i _ rfl))
      have HIK : Hid (R.nh.length < (putL s.nd.length (l.take k) ((s.kid i).add ⟨xk, xp, xt, xn, []⟩)).nd.length) := Lib.hid (by
        have := (putL_len s.nd.length (l.take k) ((s.kid i).add ⟨xk, xp, xt, xn, []⟩)).1
        rw [kid_add_len] at this
        have := HLN.out
        omega)
      have HBK : Hid ((putL s.nd.length (l.take k) ((s.kid i).add ⟨xk, xp, xt, xn, []⟩)).nd.length + l[k].size ≤ 1000000) := Lib.hid (by
        rw [putL_size, kid_add_len]
        have h1 := sum_take_lt (l.map Ex.size) k (by simpa using hlt)
        rw [← List.map_take, List.getElem_map] at h1
        have h2 := HSP.out
        have h3 := HBG.out
        omega)
      go_wp2_with fail
      refine (hIH.out l[k] (by have := HXS.out; have := HSZ.out; omega) _ p B _ R' R.nh.length (ehead ⟨yk, yp, yt, yn, yks⟩ A' ym c') HXP.out HGK.out HIK.out HBK.out (by rw [← HHE.out]; exact HEX.out.moves HXA.out)).mono ?_
      rintro e' w6 ⟨rfl, R6, hp6, hm6⟩
      have HP6 : Hid (PS w6 p B (putL s.nd.length (l.take (k + 1)) ((s.kid i).add ⟨xk, xp, xt, xn, []⟩)) R6) := Lib.hid (by rw [HSN.out, HLN.out] ; rw [HLN.out] at hp6; exact hp6)
      have HM6 := Lib.hid ((HMK.out.trans HXA.out).trans hm6)
      have HT6 := Lib.hid ((HPTK.out.moves HXA.out).moves hm6)
      clear hp6 hm6
      go_wp2_with fail
      go_roundw
      case rel => exact ⟨k + 1, R6, by omega, by go_num, HP6, HM6, HT6⟩
      case measure => simp [intOf]; omega
    · obtain rfl : k = l.length := by omega
      have d0 : decide ((l.length : Int) < (l.length : Int)) = false := by simp
      have d1 : decide (l.length < l.length) = false := by simp
      have HPF2 : Hid (OkP w p B R (putP i e s) wa) := Lib.hid (by
        rw [HQ.out]
        have h := HPK.out
        rw [List.take_length] at h
        exact ⟨R', h, HMK.out⟩)
      go_wp2_with fail
      go_end0
      exact ⟨rfl, HPF2.out⟩
theorem pput_any : ∀ (f : Nat) (e : Ex), e.size ≤ f → ∀ (w : World) (p B : Nat) (s : Ps) (R : PRep) (i : Nat) (cs : List Value), PS w p B s R → Good s → i < s.nd.length → s.nd.length + e.size ≤ 1000000 → EX w (MineP p R) e cs →
    Calls Tryz.prog 142 #[.pointer (some ⟨p, 0, none⟩), .int .i64 (i : Int), .agg cs.toArray] w fun en w' => en = .returned (.tuple #[]) ∧ OkP w p B R (putP i e s) w'
  | 0, e, hs => by have := e.pos_size; omega
  | f + 1, e, hs => fun w p B s R i cs h1 h2 h3 h4 h5 => pput_step f (pput_any f) e hs w p B s R i cs h1 h2 h3 h4 h5
end Go.Proofs.YtcccnicldbpieaaGreatDoor
