/- The document's expression in memory. No condition. The document's put: an expression's nodes. Condition: the nodes fit into memory. The law on regions that draw their order, where one call changes the world, what waits for it may make memory, and all else but reads: what is read is the same ahead of the call and behind it. No condition beyond that law's. The document's term, sum: parts with marks between them. No condition. The document's factor: an expression read. No condition. -/
import Derived.Test.YtcccnicldbpieaaGreatDoorMa
import Derived.Test.YtcccnicldbpieaaGreatDoorPsI
import Derived.Test.YtcccnicldbpieaaGreatDoorFacts
import Derived.Test.YtcccnicldbpieaaGreatDoorPsO
namespace Go.Proofs.YtcccnicldbpieaaGreatDoor
open Go Go.RowKit
set_option linter.unusedVariables false
set_option linter.unusedSimpArgs false
def eheadR (n : Nd) (A : Option Addr) (m c : Nat) : List Value := [.int .u8 (n.kind : Int), .int .i64 (n.pos : Int), .string (bstr n.text), .int .i64 n.num, .slice A m c]
/-- An expression's cells. -/
def EY (w : World) (M : Nat → Prop) : Ex → List Value → Prop
  | .leaf k p t n, cs => cs = eheadR ⟨k, p, t, n, []⟩ none 0 0
  | .neg p a, cs => ∃ g ca, cs = eheadR ⟨26, p, [], 0, []⟩ (some ⟨g, 0, none⟩) 1 1 ∧ Safe w M g 164 ca.toArray ∧ EY w M a ca
  | .bin k p a b, cs => ∃ g ca cb, cs = eheadR ⟨k, p, [], 0, []⟩ (some ⟨g, 0, none⟩) 2 2 ∧ Safe w M g 164 (ca ++ cb).toArray ∧ EY w M a ca ∧ EY w M b cb
theorem EY.moves {w w' : World} {M M' : Nat → Prop} (k : Moves w M w' M') : ∀ {e : Ex} {cs : List Value}, EY w M e cs → EY w' M' e cs
  | .leaf .., _, h => h
  | .neg .., _, ⟨g, ca, h1, h2, h3⟩ => ⟨g, ca, h1, h2.moves k, EY.moves k h3⟩
  | .bin .., _, ⟨g, ca, cb, h1, h2, h3, h4⟩ => ⟨g, ca, cb, h1, h2.moves k, EY.moves k h3, EY.moves k h4⟩
theorem EY.len {w : World} {M : Nat → Prop} : ∀ {e : Ex} {cs : List Value}, EY w M e cs → cs.length = 5
  | .leaf .., _, h => by rw [h]; rfl
  | .neg .., _, ⟨g, ca, h1, h2, h3⟩ => by rw [h1]; rfl
  | .bin .., _, ⟨g, ca, cb, h1, h2, h3, h4⟩ => by rw [h1]; rfl
/-- A row of expressions. -/
def PartsR (w : World) (M : Nat → Prop) (l : List Ex) (A : Option Addr) (f : Nat → List Value) : Prop :=
  (∀ k (hk : k < l.length), EY w M l[k] (f k)) ∧ (l = [] ∨ ∃ b, A = some ⟨b, 0, none⟩ ∧ b < w.heap.size ∧ ¬ M b ∧ ∀ k, k < l.length → ∀ j, j < 5 → w.cell? ⟨b, k * 5 + j, none⟩ = (f k)[j]?)
theorem PartsR.moves {w w' : World} {M M' : Nat → Prop} {l : List Ex} {A : Option Addr} {f : Nat → List Value} (h : PartsR w M l A f) (k : Moves w M w' M') : PartsR w' M' l A f := by
  refine ⟨fun j hj => (h.1 j hj).moves k, ?_⟩
  rcases h.2 with h | ⟨b, h1, h2, h3, h4⟩
  · exact .inl h
  · refine .inr ⟨b, h1, Nat.lt_of_lt_of_le h2 k.size, fun h5 => by rcases k.mine b h5 with h6 | h6 <;> first | exact h3 h6 | omega, fun i hi j hj => ?_⟩
    rw [World.cell?_of_block (w := w) (k.keep b h2 h3)]
    exact h4 i hi j hj
theorem EY.open {w : World} {M : Nat → Prop} {e : Ex} {cs : List Value} (h : EY w M e cs) : ∃ A c f, cs = eheadR e.node A e.parts.length c ∧ PartsR w M e.parts A f := by
  cases e with
  | leaf k p t n => exact ⟨none, 0, fun _ => [], h, ⟨fun k hk => by simp [Ex.parts] at hk, .inl rfl⟩⟩
  | neg p a =>
    obtain ⟨g, ca, h1, h2, h3⟩ := h
    have hl := h3.len
    refine ⟨_, _, fun _ => ca, h1, ⟨fun k hk => ?_, .inr ⟨g, rfl, h2.1.lt, h2.2, fun k hk j hj => ?_⟩⟩⟩
    · obtain rfl : k = 0 := by simpa [Ex.parts] using hk
      exact h3
    · obtain rfl : k = 0 := by simpa [Ex.parts] using hk
      rw [Nat.zero_mul, Nat.zero_add, h2.1.cell j]
      simp
  | bin kd p a b =>
    obtain ⟨g, ca, cb, h1, h2, h3, h4⟩ := h
    have hl := h3.len
    refine ⟨_, _, fun k => if k = 0 then ca else cb, h1, ⟨fun k hk => ?_, .inr ⟨g, rfl, h2.1.lt, h2.2, fun k hk j hj => ?_⟩⟩⟩
    · have hk' : k < 2 := hk
      match k, hk' with
      | 0, _ => exact h3
      | 1, _ => exact h4
    · have hk' : k < 2 := hk
      rw [h2.1.cell (k * 5 + j)]
      match k, hk' with
      | 0, _ =>
        show (ca ++ cb).toArray[0 * 5 + j]? = ca[j]?
        rw [Nat.zero_mul, Nat.zero_add, List.getElem?_toArray, List.getElem?_append_left (by omega)]
      | 1, _ =>
        show (ca ++ cb).toArray[1 * 5 + j]? = cb[j]?
        rw [List.getElem?_toArray, List.getElem?_append_right (by omega)]
        congr 1
        omega
end Go.Proofs.YtcccnicldbpieaaGreatDoor
namespace Go.Proofs.YtcccnicldbpieaaGreatDoor
open Go Go.RowKit
set_option linter.unusedVariables false
set_option linter.unusedSimpArgs false
theorem QS.mine_lt {w : World} {p B : Nat} {r : Rs} {R : QRep} (h : QS w p B r R) {b : Nat} (hb : MineQ p R b) : b < w.heap.size := by
  rcases hb with rfl | hb
  · exact h.blk.lt
  · exact (h.ns.mine_lt hb).2
theorem QS.fresh {w : World} {p B : Nat} {r : Rs} {R : QRep} (h : QS w p B r R) (t : TypeId) (cs : Array Value) : Safe (w.alloc (.cells cs t)) (MineQ p R) w.heap.size t cs := ⟨Blk.new _ _ _, fun hb => by have := h.mine_lt hb; omega⟩
set_option maxRecDepth 100000 in
set_option maxHeartbeats 8000000 in
theorem qput_step (f : Nat) (ih : ∀ (e : Ex), e.size ≤ f → ∀ (w : World) (p B : Nat) (r : Rs) (R : QRep) (i : Nat) (cs : List Value), QS w p B r R → i < r.s.nd.length → r.s.nd.length + e.size ≤ 1900000 → EY w (MineQ p R) e cs →
    Calls Tryz.prog 123 #[.pointer (some ⟨p, 0, none⟩), .int .i64 (i : Int), .agg cs.toArray] w fun en w' => en = .returned (.tuple #[]) ∧ PostQ w p B R { r with s := putP i e r.s } w')
    (e : Ex) (hsz : e.size ≤ f + 1) (w : World) (p B : Nat) (r : Rs) (R : QRep) (i : Nat) (cs : List Value) (h : QS w p B r R) (hi : i < r.s.nd.length) (hbig : r.s.nd.length + e.size ≤ 1900000) (hx : EY w (MineQ p R) e cs) :
    Calls Tryz.prog 123 #[.pointer (some ⟨p, 0, none⟩), .int .i64 (i : Int), .agg cs.toArray] w fun en w' => en = .returned (.tuple #[]) ∧ PostQ w p B R { r with s := putP i e r.s } w' := by
  obtain ⟨i1, hi1, hy0, hy1, hy2⟩ := info_parts infoNodeR
  obtain ⟨eA, ec, ef, hcs, hpt⟩ := hx.open
  have HQ := Lib.hid (putP_eq i e r.s)
  have HSZ := Lib.hid hsz
  have HBG := Lib.hid hbig
  have HSP := Lib.hid e.size_parts
  have HEP := Lib.hid e.pos_size
  have HPF := Lib.hid e.parts_few
  have hnk := e.node_kids
  have hIH := Lib.hid ih
  have hps := fun x (hx : x ∈ e.parts) => e.part_size x hx
  have HPS0 := Lib.hid hps
  clear ih hsz hx hps
  generalize e.parts = l at *
  generalize e.node = x at *
  obtain ⟨xk, xp, xt, xn, xkids⟩ := x
  simp only at hnk
  subst hnk
  subst hcs
  have hlen := h.len
  unfold eheadR
  obtain ⟨gx, HGE⟩ : ∃ gx, Hid (w.heap.size = gx) := ⟨_, Lib.hid rfl⟩
  obtain ⟨W, HW⟩ : ∃ W, Hid (W = w.alloc (.cells (eheadR ⟨xk, xp, xt, xn, []⟩ eA l.length ec).toArray 164)) := ⟨_, Lib.hid rfl⟩
  have HXW : Hid (Ext w W) := Lib.hid (by rw [HW.out]; exact Ext.alloc _ _)
  have HBX : Hid (Safe W (MineQ p R) gx 164 (eheadR ⟨xk, xp, xt, xn, []⟩ eA l.length ec).toArray) := Lib.hid (by rw [HW.out, ← HGE.out]; exact h.fresh _ _)
  have HP := Lib.hid (h.ext HXW.out)
  have HPT := Lib.hid (hpt.moves (Moves.ext (M := MineQ p R) HXW.out))
  have HLN := Lib.hid hlen
  have HI := Lib.hid hi
  clear h hi hpt hlen hbig
  go_enter Tryz.func123, Tryz.ntmps123
  have HWE : Hid (w.alloc (.cells #[.int .u8 (xk : Int), .int .i64 (xp : Int), .string (bstr xt), .int .i64 xn, .slice eA l.length ec] 164) = W) := Lib.hid (by rw [HW.out]; rfl)
  go_upto_region 1 with fail
  rw [HWE.out, HGE.out]
  go_wp2_with fail
  refine (qkid_any W p B r R i HP.out HI.out (by have := HBG.out; omega)).mono ?_
  rintro e' w3 ⟨rfl, R3, hk3, hm3⟩
  have HP3 := Lib.hid hk3
  have HM3 := Lib.hid hm3
  have HB3 := Lib.hid (HBX.out.moves hm3)
  have hb3l := HB3.out.1.lt
  have hpl3 := hk3.blk.lt
  have x3 : w3.cell? ⟨p, 3, none⟩ = some (.slice R3.A R3.nh.length R3.c) := hk3.blk.cell 3
  have HL3 : Hid (R3.nh.length = r.s.nd.length) := Lib.hid (by
    have h1 : ({ r with s := r.s.kid i } : Rs).s.nd.length = R3.nh.length := by rw [hk3.nodes, List.length_map]
    have h2 : (r.s.kid i).nd.length = r.s.nd.length := kid_len
    rw [← h1, ← h2])
  have hbig2 : R3.nh.length + 1 ≤ 1900000 := by have := HBG.out; have := HEP.out; have := HL3.out; omega
  obtain ⟨o, HO⟩ : ∃ o, Hid ((Value.slice R3.A R3.nh.length R3.c).ownBlock = o) := ⟨_, Lib.hid rfl⟩
  have HPN : Hid (some p ≠ o) := Lib.hid fun e => by
    rw [← HO.out] at e
    obtain ⟨cur, hc⟩ := own_type hk3.ns.row (own_block hk3.ns.row e.symm)
    exact Blk.differ hk3.blk hc (by decide) rfl
  have HXN : Hid (some gx ≠ o) := Lib.hid fun e => by
    rw [← HO.out] at e
    exact HB3.out.2 (.inr (.inl (own_block hk3.ns.row e.symm)))
  have HOG : Hid (∀ g, o = some g → g < w3.heap.size) := Lib.hid fun g e => by
    rw [← HO.out] at e
    exact (own_lt hk3.ns.row (own_block hk3.ns.row e)).2
  have HBW3 : Hid (B ≤ w3.heap.size) := Lib.hid (Nat.le_trans hk3.pB (Nat.le_of_lt hpl3))
  obtain ⟨Fs, HFS⟩ : ∃ Fs, Hid (FsK B 76 (.slice R3.A R3.nh.length R3.c) w3.heap.size R3.nh.length (ncs R3.nh) (ncell (⟨xk, xp, xt, xn, []⟩, (none, 0))) = Fs) := ⟨_, Lib.hid rfl⟩
  have hE : ∀ F ∈ Fs, ∀ v w w', F v w → Ext w w' → F v w' := by rw [← HFS.out]; exact FsK_ext _ _ _ _ _ _ _
  have m0 : (fun (_ : Value) w => RowFK B 76 R3.nh.length (ncs R3.nh) (.slice R3.A R3.nh.length R3.c) w) ∈ Fs := by rw [← HFS.out]; simp only [FsK, List.mem_cons, true_or]
  have m1 : LitN 76 w3.heap.size (ncell (⟨xk, xp, xt, xn, []⟩, (none, 0))).toArray ∈ Fs := by rw [← HFS.out]; simp only [FsK, List.mem_cons, true_or, or_true]
  have m2 : ResK B 76 o w3.heap.size (R3.nh.length + 1) (ncs R3.nh ++ ncell (⟨xk, xp, xt, xn, []⟩, (none, 0))) ∈ Fs := by rw [← HFS.out, ← HO.out]; simp only [FsK, List.mem_cons, true_or, or_true]
  have HE2 := Lib.hid hE
  have M0 := Lib.hid m0
  have M1 := Lib.hid m1
  have M2 := Lib.hid m2
  clear hk3 hm3 hE m0 m1 m2
  go_upto_region 3 with fail
  clear x3
  apply region_app o Fs 18 (by kernel_rfl) (by kernel_rfl) (by kernel_rfl) HE2.out
  dsimp only [List.take_succ_cons, List.take_zero, List.drop_succ_cons, List.drop_zero]
  apply step_det (.pointer (some ⟨p, 0, none⟩)) rfl rfl rfl
  · intro w' hw' hH
    clear hH hw'
    simp [YieldsF, go_sem]
    exact AppR.refl _
  apply step_det (.pointer (some ⟨p, 0, none⟩)) rfl rfl rfl
  · intro w' hw' hH
    clear hH hw'
    simp [YieldsF, go_sem]
    exact AppR.refl _
  apply step_det (.pointer (some ⟨p, 0, none⟩)) rfl rfl rfl
  · intro w' hw' hH
    clear hH hw'
    simp [YieldsF, go_sem]
    exact AppR.refl _
  apply step_det (.pointer (some ⟨p, 3, none⟩)) rfl rfl rfl
  · intro w' hw' hH
    clear hH hw'
    simp [YieldsF, go_sem]
    exact AppR.refl _
  simp only [Act.put, List.setIfInBounds_toArray, List.set_cons_succ, List.set_cons_zero]
  apply step_det (.slice R3.A R3.nh.length R3.c) rfl rfl rfl
  · intro w' hw' hH
    have hR := AppR.refl (o := o) (Fs := Fs) w'
    have cc := Blk.cell ((hw'.1.block p hpl3 HPN.out).trans HP3.out.blk) 3
    clear hH hw'
    simp [YieldsF, go_sem, cc]
    exact hR
  apply step_det (.pointer (some ⟨gx, 0, none⟩)) rfl rfl rfl
  · intro w' hw' hH
    clear hH hw'
    simp [YieldsF, go_sem]
    exact AppR.refl _
  simp only [Act.put, List.setIfInBounds_toArray, List.set_cons_succ, List.set_cons_zero]
  apply step_det (.int .u8 (xk : Int)) rfl rfl rfl
  · intro w' hw' hH
    have hR := AppR.refl (o := o) (Fs := Fs) w'
    have cc := Blk.cell ((hw'.1.block gx hb3l HXN.out).trans HB3.out.1) 0
    simp only [eheadR, List.getElem?_toArray, List.getElem?_cons_zero, List.getElem?_cons_succ] at cc
    clear hH hw'
    simp [YieldsF, go_sem, cc]
    exact hR
  apply step_det (.pointer (some ⟨gx, 1, none⟩)) rfl rfl rfl
  · intro w' hw' hH
    clear hH hw'
    simp [YieldsF, go_sem]
    exact AppR.refl _
  simp only [Act.put, List.setIfInBounds_toArray, List.set_cons_succ, List.set_cons_zero]
  apply step_det (.int .i64 (xp : Int)) rfl rfl rfl
  · intro w' hw' hH
    have hR := AppR.refl (o := o) (Fs := Fs) w'
    have cc := Blk.cell ((hw'.1.block gx hb3l HXN.out).trans HB3.out.1) 1
    simp only [eheadR, List.getElem?_toArray, List.getElem?_cons_zero, List.getElem?_cons_succ] at cc
    clear hH hw'
    simp [YieldsF, go_sem, cc]
    exact hR
  apply step_det (.pointer (some ⟨gx, 2, none⟩)) rfl rfl rfl
  · intro w' hw' hH
    clear hH hw'
    simp [YieldsF, go_sem]
    exact AppR.refl _
  simp only [Act.put, List.setIfInBounds_toArray, List.set_cons_succ, List.set_cons_zero]
  apply step_det (.string (bstr xt)) rfl rfl rfl
  · intro w' hw' hH
    have hR := AppR.refl (o := o) (Fs := Fs) w'
    have cc := Blk.cell ((hw'.1.block gx hb3l HXN.out).trans HB3.out.1) 2
    simp only [eheadR, List.getElem?_toArray, List.getElem?_cons_zero, List.getElem?_cons_succ] at cc
    clear hH hw'
    simp [YieldsF, go_sem, cc]
    exact hR
  apply step_det (.pointer (some ⟨gx, 3, none⟩)) rfl rfl rfl
  · intro w' hw' hH
    clear hH hw'
    simp [YieldsF, go_sem]
    exact AppR.refl _
  simp only [Act.put, List.setIfInBounds_toArray, List.set_cons_succ, List.set_cons_zero]
  apply step_det (.int .i64 xn) rfl rfl rfl
  · intro w' hw' hH
    have hR := AppR.refl (o := o) (Fs := Fs) w'
    have cc := Blk.cell ((hw'.1.block gx hb3l HXN.out).trans HB3.out.1) 3
    simp only [eheadR, List.getElem?_toArray, List.getElem?_cons_zero, List.getElem?_cons_succ] at cc
    clear hH hw'
    simp [YieldsF, go_sem, cc]
    exact hR
  simp only [Act.put, List.setIfInBounds_toArray, List.set_cons_succ, List.set_cons_zero]
  apply step_det (.agg #[.int .u8 (xk : Int), .int .i64 (xp : Int), .string (bstr xt), .int .i64 xn, .slice none 0 0]) rfl rfl rfl
  · intro w' hw' hH
    clear hH hw'
    simp [YieldsF, go_sem]
    exact AppR.refl _
  apply step_fact (LitN 76 w3.heap.size (ncell (⟨xk, xp, xt, xn, []⟩, (none, 0))).toArray) (fun v w w' h hx => hx.2 _ M1.out v h) rfl rfl rfl
  · intro w' hw' hH
    have hz := hw'.1.size
    clear hH hw'
    simp [YieldsF, go_sem]
    exact ⟨⟨_, rfl, Blk.new _ _ _, hz⟩, AppR.ext HE2.out (Ext.alloc _ _)⟩
  intro v39
  simp only [Act.put, List.setIfInBounds_toArray, List.set_cons_succ, List.set_cons_zero]
  apply step_fact (ResK B 76 o w3.heap.size (R3.nh.length + 1) (ncs R3.nh ++ ncell (⟨xk, xp, xt, xn, []⟩, (none, 0)))) (fun v w w' h hx => hx.2 _ M2.out v h) rfl rfl rfl
  · intro w' hw' hH
    have hlit := hH _ (List.mem_cons_self ..) ⟨_, rfl, by decide⟩
    have hrow := hw'.2 _ M0.out undef HP3.out.ns.rowK
    have hz := hw'.1.size
    clear hH hw'
    rw [← HFS.out, ← HO.out]
    exact yields_appK B w3.heap.size (.tmp 20) (.tmp 30) 31 rfl 76 i1 _ 64 Tryz.underlying31 hi1 hy0 hy1 hy2 rfl (.slice R3.A R3.nh.length R3.c) R3.nh.length (ncs R3.nh) (ncell (⟨xk, xp, xt, xn, []⟩, (none, 0))) (by kernel_rfl) hrow v39 (by kernel_rfl) hlit rfl (ncell_one _) (by unfold maxLen; omega) (by omega) (Nat.le_trans HBW3.out hz) hz (fun g e => HOG.out g (by rw [← HO.out]; exact e))
  intro v40
  simp only [Act.put, List.setIfInBounds_toArray, List.set_cons_succ, List.set_cons_zero]
  apply step_det (.pointer (some ⟨p, 0, none⟩)) rfl rfl rfl
  · intro w' hw' hH
    clear hH hw'
    simp [YieldsF, go_sem]
    exact AppR.refl _
  apply step_det (.pointer (some ⟨p, 3, none⟩)) rfl rfl rfl
  · intro w' hw' hH
    clear hH hw'
    simp [YieldsF, go_sem]
    exact AppR.refl _
  apply WalkF_nil
  intro w4 hw4 hH
  have h26 := hH _ (List.mem_cons_self ..)
  clear hH
  obtain ⟨g4, cap4, rfl⟩ := h26.1.at
  have hgr := hw4.1
  rw [← HO.out] at hgr
  have hb3 : Blk w4 p 65 _ := (hw4.1.block p hpl3 HPN.out).trans HP3.out.blk
  obtain ⟨hs1, hs2⟩ := QK.snoc (w := w3) HP3.out (Ext.refl w3) ⟨xk, xp, xt, xn, []⟩ rfl h26.1.1 hgr (by
    rcases h26.2 with e | ⟨g', e, hg'⟩
    · left; rw [HO.out, ← e]; rfl
    · right; have : g4 = g' := by simpa [Value.ownBlock] using e
      omega)
  have y1 : w4.cell? ⟨p, 3, none⟩ = some (.slice R3.A R3.nh.length R3.c) := hb3.cell 3
  have z1 := hb3.frozen 3
  have HS4 : Hid (PostQ w3 p B R3 { r with s := (r.s.kid i).add ⟨xk, xp, xt, xn, []⟩ } (w4.setCell ⟨p, 3, none⟩ (.slice (some ⟨g4, 0, none⟩) (R3.nh.length + 1) cap4))) := Lib.hid ⟨_, hs1, hs2⟩
  clear h26 hgr hb3 hs1 hs2 hw4
  simp only [Act.put, List.setIfInBounds_toArray, List.set_cons_zero, List.set_cons_succ]
  go_upto_region 4 with fail
  clear y1 z1
  generalize w4.setCell ⟨p, 3, none⟩ (.slice (some ⟨g4, 0, none⟩) (R3.nh.length + 1) cap4) = w5 at *
  obtain ⟨R5, hps5, hmv5⟩ := HS4.out
  have HPT5 := Lib.hid ((HPT.out.moves HM3.out).moves hmv5)
  have HB5 := Lib.hid (HB3.out.moves hmv5)
  have HP5 := Lib.hid hps5
  have HWM := Lib.hid (((Moves.ext (M := MineQ p R) HXW.out).trans HM3.out).trans hmv5)
  rw [HL3.out]
  clear hps5 hmv5
  go_wp2_with fail
  go_loopw [7] (fun i' wr => ∃ (k : Nat) (R' : QRep), k ≤ l.length ∧ i' = .int .i64 k ∧ Hid (QS wr p B { r with s := putL r.s.nd.length (l.take k) ((r.s.kid i).add ⟨xk, xp, xt, xn, []⟩) } R') ∧ Hid (Moves w (MineQ p R) wr (MineQ p R')) ∧ Hid (PartsR wr (MineQ p R') l eA ef) ∧ Hid (Safe wr (MineQ p R') gx 164 (eheadR ⟨xk, xp, xt, xn, []⟩ eA l.length ec).toArray)) (fun i' _ => l.length - (intOf i').toNat)
  case atStart => exact ⟨0, R5, Nat.zero_le _, rfl, HP5, HWM, HPT5, HB5⟩
  case round =>
    obtain ⟨k, R', hk, rfl, HPK, HMK, HPTK, HBK0⟩ := hrel
    obtain ⟨wa, rfl⟩ : ∃ wa : World, wa = wr := ⟨_, rfl⟩
    have hl2 := HPF.out
    have c4 : wa.cell? ⟨gx, 4, none⟩ = some (.slice eA l.length ec) := HBK0.out.1.cell 4
    by_cases hlt : k < l.length
    · have d0 : decide ((k : Int) < (l.length : Int)) = true := decide_eq_true (by omega)
      have q1 : (k : Int) < (l.length : Int) := by omega
      obtain ⟨b, rfl, hb, hbM, hcc⟩ : ∃ b, eA = some ⟨b, 0, none⟩ ∧ b < wa.heap.size ∧ ¬ MineQ p R' b ∧ ∀ k, k < l.length → ∀ j, j < 5 → wa.cell? ⟨b, k * 5 + j, none⟩ = (ef k)[j]? := by
        rcases HPTK.out.2 with h | h
        · rw [h] at hlt; cases hlt
        · exact h
      have hex := HPTK.out.1 k hlt
      have HEX := Lib.hid hex
      have HXS := Lib.hid (HPS0.out l[k] (List.getElem_mem hlt))
      obtain ⟨A', c', f', he', _⟩ := hex.open
      have e0 := hcc k hlt 0 (by decide)
      have e1 := hcc k hlt 1 (by decide)
      have e2 := hcc k hlt 2 (by decide)
      have e3 := hcc k hlt 3 (by decide)
      have e4 := hcc k hlt 4 (by decide)
      rw [he'] at e0 e1 e2 e3 e4
      have HHE := Lib.hid he'
      simp only [eheadR, List.getElem?_cons_zero, List.getElem?_cons_succ, Nat.add_zero] at e0 e1 e2 e3 e4
      clear hex he' hcc
      generalize l[k].node = y at *
      obtain ⟨yk, yp, yt, yn, yks⟩ := y
      simp only at e0 e1 e2 e3 e4
      generalize l[k].parts.length = ym at *
      have HSN := Lib.hid (putL_snoc r.s.nd.length l k hlt ((r.s.kid i).add ⟨xk, xp, xt, xn, []⟩))
      have HIK : Hid (r.s.nd.length < (putL r.s.nd.length (l.take k) ((r.s.kid i).add ⟨xk, xp, xt, xn, []⟩)).nd.length) := Lib.hid (by
        have := (putL_len r.s.nd.length (l.take k) ((r.s.kid i).add ⟨xk, xp, xt, xn, []⟩)).1
        rw [kid_add_len] at this
        omega)
      have HBK : Hid ((putL r.s.nd.length (l.take k) ((r.s.kid i).add ⟨xk, xp, xt, xn, []⟩)).nd.length + l[k].size ≤ 1900000) := Lib.hid (by
        rw [putL_size, kid_add_len]
        have h1 := sum_take_lt (l.map Ex.size) k (by simpa using hlt)
        rw [← List.map_take, List.getElem_map] at h1
        have h2 := HSP.out
        have h3 := HBG.out
        omega)
      go_wp2_with fail
      refine (hIH.out l[k] (by have := HXS.out; have := HSZ.out; omega) wa p B _ R' r.s.nd.length (eheadR ⟨yk, yp, yt, yn, yks⟩ A' ym c') HPK.out HIK.out HBK.out (by rw [← HHE.out]; exact HEX.out)).mono ?_
      rintro e' w6 ⟨rfl, R6, hp6, hm6⟩
      have HP6 : Hid (QS w6 p B { r with s := putL r.s.nd.length (l.take (k + 1)) ((r.s.kid i).add ⟨xk, xp, xt, xn, []⟩) } R6) := Lib.hid (by rw [HSN.out]; exact hp6)
      have HM6 := Lib.hid (HMK.out.trans hm6)
      have HT6 := Lib.hid (HPTK.out.moves hm6)
      have HB6 := Lib.hid (HBK0.out.moves hm6)
      clear hp6 hm6
      go_wp2_with fail
      go_roundw
      case rel => exact ⟨k + 1, R6, by omega, by go_num, HP6, HM6, HT6, HB6⟩
      case measure => simp [intOf]; omega
    · obtain rfl : k = l.length := by omega
      have d0 : decide ((l.length : Int) < (l.length : Int)) = false := by simp
      have d1 : decide (l.length < l.length) = false := by simp
      have HPF2 : Hid (PostQ w p B R { r with s := putP i e r.s } wa) := Lib.hid (by
        rw [HQ.out]
        have h := HPK.out
        rw [List.take_length] at h
        exact ⟨R', h, HMK.out⟩)
      go_wp2_with fail
      go_end0
      exact ⟨rfl, HPF2.out⟩
theorem qput_any : ∀ (f : Nat) (e : Ex), e.size ≤ f → ∀ (w : World) (p B : Nat) (r : Rs) (R : QRep) (i : Nat) (cs : List Value), QS w p B r R → i < r.s.nd.length → r.s.nd.length + e.size ≤ 1900000 → EY w (MineQ p R) e cs →
    Calls Tryz.prog 123 #[.pointer (some ⟨p, 0, none⟩), .int .i64 (i : Int), .agg cs.toArray] w fun en w' => en = .returned (.tuple #[]) ∧ PostQ w p B R { r with s := putP i e r.s } w'
  | 0, e, hs => by have := e.pos_size; omega
  | f + 1, e, hs => fun w p B r R i cs h1 h2 h3 h4 => qput_step f (qput_any f) e hs w p B r R i cs h1 h2 h3 h4
end Go.Proofs.YtcccnicldbpieaaGreatDoor
namespace Go.Proofs.YtcccnicldbpieaaGreatDoor
open Go Go.RowKit
set_option linter.unusedVariables false
set_option linter.unusedSimpArgs false
section
variable (P : Program) (ops : Array Oper) (wd : World) (G : World → Prop) (Q : Act → World → Prop) (c : Nat)
def OwesO (i : Nat) (o : Oper) (a : Act) (H : List (Option Tmp × (World → Prop))) : Take → Prop
  | .det v0 => ∀ w, w = wd ∨ G w → if Region.wanted o (yielded ops a.tmps) = true then YieldsF P a.eval o w (fun v w' => v = v0 ∧ w' = w) else undef = v0
  | .fact F => (∀ v w w', F v w → Ext w w' → F v w') ∧ if i = c then (if Region.wanted o (yielded ops a.tmps) = true then YieldsF P a.eval o wd (fun v w' => F v w' ∧ G w') else F undef wd ∧ G wd)
    else ∀ w, G w → (∀ p ∈ H, (∃ t, p.1 = some t ∧ t ∈ o.looksAt ops) → p.2 w) → if Region.wanted o (yielded ops a.tmps) = true then YieldsF P a.eval o w (fun v w' => F v w' ∧ Ext w w') else F undef w
def WalkO : Nat → List Oper → List Take → Act → List (Option Tmp × (World → Prop)) → Prop
  | _, [], _, a, H => ∀ w, G w → (∀ p ∈ H, p.2 w) → Q a w
  | k, o :: l, .det v0 :: ks, a, H => OwesO P ops wd G c k o a H (.det v0) ∧ WalkO (k + 1) l ks (a.put o.dst v0) H
  | k, o :: l, .fact F :: ks, a, H => OwesO P ops wd G c k o a H (.fact F) ∧ ∀ v, WalkO (k + 1) l ks (a.put o.dst v) ((o.dst, F v) :: H)
  | _, _ :: _, [], _, _ => False
end
section
variable {P : Program} {ops : Array Oper} {wd : World} {G : World → Prop} {Q : Act → World → Prop} {c : Nat}
theorem WalkO_nil {k : Nat} {a : Act} {H : List (Option Tmp × (World → Prop))} (h : ∀ w, G w → (∀ p ∈ H, p.2 w) → Q a w) : WalkO P ops wd G Q c k [] [] a H := h
theorem oneO_det {k : Nat} {o : Oper} {l : List Oper} {ks : List Take} {a : Act} {H : List (Option Tmp × (World → Prop))} {d : Option Tmp} (v0 : Value) (hd : o.dst = d) (hg : o.guard = none)
    (h : ∀ w, w = wd ∨ G w → YieldsF P a.eval o w (fun v w' => v = v0 ∧ w' = w)) (hk : WalkO P ops wd G Q c (k + 1) l ks (a.put d v0) H) : WalkO P ops wd G Q c k (o :: l) (.det v0 :: ks) a H := by
  subst hd
  refine ⟨fun w hw => ?_, hk⟩
  have : Region.wanted o (yielded ops a.tmps) = true := by unfold Region.wanted; rw [hg]
  rw [if_pos this]
  exact h w hw
/-- The call. -/
theorem oneO_fact {k : Nat} {o : Oper} {l : List Oper} {ks : List Take} {a : Act} {H : List (Option Tmp × (World → Prop))} {d : Option Tmp} (F : Value → World → Prop) (hkc : k = c) (hs : ∀ v w w', F v w → Ext w w' → F v w') (hd : o.dst = d) (hg : o.guard = none)
    (h : YieldsF P a.eval o wd (fun v w' => F v w' ∧ G w')) (hk : ∀ v, WalkO P ops wd G Q c (k + 1) l ks (a.put d v) ((d, F v) :: H)) : WalkO P ops wd G Q c k (o :: l) (.fact F :: ks) a H := by
  subst hd
  refine ⟨⟨hs, ?_⟩, hk⟩
  have : Region.wanted o (yielded ops a.tmps) = true := by unfold Region.wanted; rw [hg]
  rw [if_pos hkc, if_pos this]
  exact h
/-- What waits for the call. -/
theorem oneO_more {k : Nat} {o : Oper} {l : List Oper} {ks : List Take} {a : Act} {H : List (Option Tmp × (World → Prop))} {d : Option Tmp} {L : List Tmp} (F : Value → World → Prop) (hkc : k ≠ c) (hs : ∀ v w w', F v w → Ext w w' → F v w') (hd : o.dst = d) (hg : o.guard = none) (hL : looksOf o = L)
    (h : ∀ w, G w → (∀ p ∈ H, (∃ t, p.1 = some t ∧ t ∈ L) → p.2 w) → YieldsF P a.eval o w (fun v w' => F v w' ∧ Ext w w')) (hk : ∀ v, WalkO P ops wd G Q c (k + 1) l ks (a.put d v) ((d, F v) :: H)) : WalkO P ops wd G Q c k (o :: l) (.fact F :: ks) a H := by
  subst hd hL
  refine ⟨⟨hs, ?_⟩, hk⟩
  have : Region.wanted o (yielded ops a.tmps) = true := by unfold Region.wanted; rw [hg]
  rw [if_neg hkc]
  intro w hw hH
  rw [if_pos this]
  exact h w hw fun p hp ⟨t, ht, hm⟩ => hH p hp ⟨t, ht, List.mem_append_left _ hm⟩
theorem WalkO_spec {ks : List Take} {a0 : Act} (vs : Nat → Value) : ∀ (l : List Oper) (k : Nat), (∀ j, j < l.length → l[j]? = ops[k + j]?) → WalkO P ops wd G Q c k l (ks.drop k) (lexA ops ks vs a0 k) (lexH ops ks vs k) →
    (∀ i o, k ≤ i → i < k + l.length → ops[i]? = some o → OwesO P ops wd G c i o (lexA ops ks vs a0 i) (lexH ops ks vs i) (ks.getD i (.det undef))) ∧
    ∀ w, G w → (∀ p ∈ lexH ops ks vs (k + l.length), p.2 w) → Q (lexA ops ks vs a0 (k + l.length)) w
  | [], k, hl, h => by
    refine ⟨fun i o hi hlt ho => ?_, by simpa [WalkO] using h⟩
    simp at hlt
    omega
  | o :: l, k, hl, h => by
    have h0 : ops[k]? = some o := by simpa using (hl 0 (by simp)).symm
    have hl' : ∀ j, j < l.length → l[j]? = ops[k + 1 + j]? := fun j hj => by
      have := hl (j + 1) (by simpa using hj)
      simpa [Nat.add_assoc, Nat.add_comm 1 j] using this
    cases hd : ks.drop k with
    | nil => rw [hd] at h; simp [WalkO] at h
    | cons x ks' =>
      rw [hd] at h
      have hx : ks[k]? = some x := by
        have := congrArg (fun l => l[0]?) hd
        simpa using this
      have hg : ks.getD k (.det undef) = x := by simp [List.getD, hx]
      have hd' : ks.drop (k + 1) = ks' := by
        rw [← List.drop_drop, hd]; rfl
      have hlen : k + (o :: l).length = k + 1 + l.length := by simp; omega
      cases x with
      | det v0 =>
        simp only [WalkO] at h
        have hA : lexA ops ks vs a0 (k + 1) = (lexA ops ks vs a0 k).put o.dst v0 := by
          show (lexA ops ks vs a0 k).put ((ops[k]?).bind (·.dst)) ((ks.getD k (.det undef)).val (vs k)) = _
          rw [hg, h0]; rfl
        have hH : lexH ops ks vs (k + 1) = lexH ops ks vs k := by
          show (match ks.getD k (.det undef) with | .det _ => _ | .fact F => _) = _
          rw [hg]
        obtain ⟨r1, r2⟩ := WalkO_spec vs l (k + 1) hl' (by rw [hd', hA, hH]; exact h.2)
        rw [hlen]
        refine ⟨fun i oi hi hlt ho => ?_, r2⟩
        by_cases hik : i = k
        · subst hik
          rw [h0] at ho
          obtain rfl := Option.some.inj ho
          rw [hg]
          exact h.1
        · exact r1 i oi (by omega) (by omega) ho
      | fact F =>
        simp only [WalkO] at h
        have hA : lexA ops ks vs a0 (k + 1) = (lexA ops ks vs a0 k).put o.dst (vs k) := by
          show (lexA ops ks vs a0 k).put ((ops[k]?).bind (·.dst)) ((ks.getD k (.det undef)).val (vs k)) = _
          rw [hg, h0]; rfl
        have hH : lexH ops ks vs (k + 1) = (o.dst, F (vs k)) :: lexH ops ks vs k := by
          show (match ks.getD k (.det undef) with | .det _ => _ | .fact F => _) = _
          rw [hg, h0]; rfl
        obtain ⟨r1, r2⟩ := WalkO_spec vs l (k + 1) hl' (by rw [hd', hA, hH]; exact h.2 (vs k))
        rw [hlen]
        refine ⟨fun i oi hi hlt ho => ?_, r2⟩
        by_cases hik : i = k
        · subst hik
          rw [h0] at ho
          obtain rfl := Option.some.inj ho
          rw [hg]
          exact h.1
        · exact r1 i oi (by omega) (by omega) ho
structure OnWayO (P : Program) (ops : Array Oper) (m c : Nat) (wd : World) (G : World → Prop) (ks : List Take) (a0 : Act) (listed : Array Bool) (a : Act) (w : World) (vs : Nat → Value) : Prop where
  first : listed.getD c true = false → w = wd
  world : listed.getD c true = true → G w
  defers : a.defers = a0.defers
  facts : ∀ i, i < m → listed.getD i true = true → (ks.getD i (.det undef)).says (vs i) w
  done : ∀ i o t, i < m → ops[i]? = some o → o.dst = some t → listed.getD i true = true → a.tmps[t]? = (a0.tmps[t]?).map fun _ => vs i
  other : ∀ t, (∀ i o, i < m → ops[i]? = some o → o.dst = some t → listed.getD i true = false) → a.tmps[t]? = a0.tmps[t]?
  closed : ∀ i o, ops[i]? = some o → listed.getD i false = true → ∀ e ∈ o.after, Region.binds .any e = true → listed.getD e.on false = true
  fresh : ∀ i, m ≤ i → i < ops.size → listed.getD i true = false
/-- What is more than read waits for the call. -/
def waitsB (ops : Array Oper) (c i : Nat) : Bool := match ops[i]? with
  | none => false
  | some o => o.after.any fun e => e.on == c && Region.binds .any e
theorem wpAny_one {m : Nat} (hG : ∀ w w', G w → Ext w w' → G w') (hB : factsB ops m = true) (hT : tailB ops m = true) {ks : List Take} {a0 : Act} {Q' : Exit → Act → World → Prop} (hcm : c < m)
    (hcf : ∃ F, ks.getD c (.det undef) = .fact F) (hc : ∀ i F, i < m → ks.getD i (.det undef) = .fact F → i = c ∨ waitsB ops c i = true)
    (how : ∀ vs i o, i < m → ops[i]? = some o → OwesO P ops wd G c i o (lexA ops ks vs a0 i) (lexH ops ks vs i) (ks.getD i (.det undef)))
    (hQ : ∀ vs w, G w → (∀ p ∈ lexH ops ks vs m, p.2 w) → wpList P ops Q' (ops.toList.drop m) (lexA ops ks vs a0 m) w) :
    ∀ (n : Nat) (listed : Array Bool) (U : List Nat) (a : Act) (w : World) (vs : Nat → Value), listed.size = ops.size → U.length = n → U.Nodup → (∀ i, i ∈ U ↔ i < m ∧ listed.getD i true = false) →
      OnWayO P ops m c wd G ks a0 listed a w vs → wpAny P .any ops Q' (n + (ops.size - m)) listed a w := by
  have hms := factsB_le hB
  have conv : ∀ (listed : Array Bool) (j : Nat), listed.size = ops.size → j < ops.size → listed.getD j false = listed.getD j true := fun listed j hls hj => by
    have : j < listed.size := by omega
    simp [this]
  intro n
  induction n with
  | zero =>
    intro listed U a w vs hls hlen hnd hU hway
    obtain rfl := List.length_eq_zero_iff.1 hlen
    have all : ∀ i, i < m → listed.getD i true = true := fun i hi => by
      cases hf : listed.getD i true with
      | true => rfl
      | false => have := (hU i).2 ⟨hi, hf⟩; cases this
    have ea : a = lexA ops ks vs a0 m := by
      refine act_ext (fun t => ?_) (by rw [hway.defers, lexA_defers])
      by_cases hex : ∃ (i : Nat) (o : Oper), i < m ∧ ops[i]? = some o ∧ o.dst = some t
      · obtain ⟨i, o, him, hi, hd⟩ := hex
        have hl := all i him
        rw [hway.done i o t him hi hd hl, lexA_some hB (j := i) (by rw [hi]; exact hd) him (Nat.le_refl _), Take.val_of (hway.facts i him hl)]
      · rw [hway.other t fun i o him hi hd => absurd ⟨i, o, him, hi, hd⟩ hex, lexA_none]
        intro j hj e
        obtain ⟨o, ho, hd⟩ := Option.bind_eq_some_iff.1 e
        exact hex ⟨j, o, hj, ho, hd⟩
    rw [Nat.zero_add]
    refine wpAny_tail hT _ m listed a w (Nat.le_refl _) (by omega) hls (fun j hj => ?_) hway.closed ?_
    · by_cases hjm : j < m
      · rw [all j hjm]; simp [hjm]
      · rw [hway.fresh j (by omega) hj]; simp [hjm]
    · rw [ea]
      refine hQ vs w (hway.world (all c hcm)) fun p hp => ?_
      obtain ⟨j, hj, _, hs⟩ := lexH_mem hp
      exact hs w (hway.facts j hj (all j hj))
  | succ n ih =>
    intro listed U a w vs hls hlen hnd hU hway
    rw [show n + 1 + (ops.size - m) = n + (ops.size - m) + 1 from by omega]
    have some1 : Region.ready .any ops listed ≠ [] := fun hr => by
      have all : ∀ n i, i < n → i < m → listed.getD i true = true := by
        intro n
        induction n with
        | zero => intro i hi; omega
        | succ n ih' =>
          intro i hi hlt
          cases hf : listed.getD i true with
          | true => rfl
          | false =>
            exfalso
            have hoi : ops[i]? = some ops[i] := Array.getElem?_eq_getElem (by omega)
            have hm : i ∈ Region.ready .any ops listed := by
              rw [mem_ready]
              refine ⟨hf, _, hoi, fun e he hb => ?_⟩
              have hlt' := (factsB_one hB hlt hoi).2 e he hb
              rw [conv listed e.on hls (by omega)]
              exact ih' e.on (by omega) (by omega)
            rw [hr] at hm
            cases hm
      cases U with
      | nil => simp at hlen
      | cons x xs =>
        have := (hU x).1 List.mem_cons_self
        rw [all (x + 1) x (by omega) this.1] at this
        cases this.2
    refine ⟨fun hr => absurd hr some1, fun i hi => ?_⟩
    obtain ⟨h0, o, ho, hall⟩ := mem_ready.1 hi
    have hlt : i < ops.size := (Array.getElem?_eq_some_iff.1 ho).1
    have him : i < m := by
      rcases Nat.lt_or_ge i m with h | h
      · exact h
      · exfalso
        cases U with
        | nil => simp at hlen
        | cons x xs =>
          have hx := (hU x).1 List.mem_cons_self
          have := reachB_spec hway.closed 8 i x o ho hall ((tailB_spec hT ho h).2 x (by omega))
          rw [conv listed x hls (by omega), hx.2] at this
          cases this
    have hil : i < listed.size := by omega
    have hself : (listed.setIfInBounds i true).getD i true = true := by simp [hil]
    have hoth : ∀ j, j ≠ i → (listed.setIfInBounds i true).getD j true = listed.getD j true := fun j hj => getD_set_ne true (Ne.symm hj)
    have look : ∀ t ∈ o.looksAt ops, a.tmps[t]? = (lexA ops ks vs a0 i).tmps[t]? := fun t ht => by
      by_cases hex : ∃ (j : Nat) (p : Oper), j < m ∧ ops[j]? = some p ∧ p.dst = some t
      · obtain ⟨j, p, hjm, hj, hd⟩ := hex
        rcases (factsB_pair hB him hjm ho hj hd).2 ht with ⟨hji, e, he, heq, hb⟩ | ⟨hij, e, he, heq, hb⟩
        · have hlj : listed.getD j true = true := by
            have h1 := hall e he hb
            rw [heq, conv listed j hls (by omega)] at h1
            exact h1
          rw [hway.done j p t hjm hj hd hlj, lexA_some hB (j := j) (by rw [hj]; exact hd) hji (by omega), Take.val_of (hway.facts j hjm hlj)]
        · have hnl : listed.getD j true = false := by
            cases hf : listed.getD j true with
            | false => rfl
            | true =>
              have := hway.closed j p hj (by rw [conv listed j hls (by omega)]; exact hf) e he hb
              rw [heq, conv listed i hls hlt, h0] at this
              cases this
          rw [hway.other t fun k ok hkm hk hdk => by
              have := (factsB_pair hB hkm hjm hk hj hd).1 hdk
              subst this
              exact hnl, lexA_none]
          intro k hk e'
          obtain ⟨ok, hok, hdk⟩ := Option.bind_eq_some_iff.1 e'
          have := (factsB_pair hB (by omega) hjm hok hj hd).1 hdk
          omega
      · rw [hway.other t fun i o him hi hd => absurd ⟨i, o, him, hi, hd⟩ hex, lexA_none]
        intro j hj e
        obtain ⟨o, ho, hd⟩ := Option.bind_eq_some_iff.1 e
        exact hex ⟨j, o, by omega, ho, hd⟩
    have wait : ∀ (j : Nat) (F : Value → World → Prop), j < m → ks.getD j (.det undef) = .fact F → j ≠ c → ∃ p e, ops[j]? = some p ∧ e ∈ p.after ∧ e.on = c ∧ Region.binds .any e = true := fun j F hj hk hjc => by
      rcases hc j F hj hk with h | h
      · exact absurd h hjc
      · unfold waitsB at h
        cases hp : ops[j]? with
        | none => rw [hp] at h; cases h
        | some p =>
          rw [hp] at h
          simp only [Array.any_eq_true, Bool.and_eq_true, beq_iff_eq] at h
          obtain ⟨x, hx, h1, h2⟩ := h
          exact ⟨p, p.after[x], rfl, Array.getElem_mem hx, h1, h2⟩
    have wait' : ∀ (j : Nat) (F : Value → World → Prop), j < m → ks.getD j (.det undef) = .fact F → j ≠ c → listed.getD j true = true → listed.getD c true = true := fun j F hj hk hjc hl => by
      obtain ⟨p, e, hp, he, hec, hb⟩ := wait j F hj hk hjc
      have := hway.closed j p hp (by rw [conv listed j hls (by omega)]; exact hl) e he hb
      rw [hec, conv listed c hls (by omega)] at this
      exact this
    have go : ∀ v w', (ks.getD i (.det undef)).says v w' → (w' = w ∧ i ≠ c) ∨ (i = c ∧ w = wd ∧ G w') ∨ (G w ∧ Ext w w' ∧ i ≠ c ∧ listed.getD c true = true) → wpAny P .any ops Q' (n + (ops.size - m)) (listed.setIfInBounds i true) (a.put o.dst v) w' := by
      intro v w' hv hww
      have hst' : ∀ j oj, j ≠ i → j < m → ops[j]? = some oj → listed.getD j true = true → ∀ v, (ks.getD j (.det undef)).says v w → (ks.getD j (.det undef)).says v w' := fun j oj hji hjm hj hlj v hs => by
        rcases hww with ⟨rfl, _⟩ | ⟨hic, _, _⟩ | ⟨_, hx, _, _⟩
        · exact hs
        · cases hk : ks.getD j (.det undef) with
          | det v0 => rw [hk] at hs; exact hs
          | fact F' =>
            have h1 := wait' j F' hjm hk (by rw [← hic]; exact hji) hlj
            rw [← hic, h0] at h1
            cases h1
        · cases hk : ks.getD j (.det undef) with
          | det v0 => rw [hk] at hs; exact hs
          | fact F' =>
            have h1 := how vs j oj hjm hj
            rw [hk] at h1 hs
            exact h1.1 v w w' hs hx
      refine ih (listed.setIfInBounds i true) (U.erase i) _ w' (fun j => if j = i then v else vs j) (by simpa using hls) ?_ (hnd.erase i) (fun j => ?_) ?_
      · rw [List.length_erase_of_mem ((hU i).2 ⟨him, h0⟩), hlen]; rfl
      · rw [hnd.mem_erase_iff, hU j]
        by_cases hji : j = i
        · subst hji; simp [hil]
        · rw [hoth j hji]; simp [hji]
      · refine ⟨?_, ?_, by rw [put_defers']; exact hway.defers, fun j hj hl => ?_, fun j p t hjm hj hd hl => ?_, fun t ht => ?_, fun j p hj hl e he hb => ?_, fun j hj hjs => ?_⟩
        · intro hlc
          by_cases hci : c = i
          · subst hci; rw [hself] at hlc; cases hlc
          · rw [hoth c hci] at hlc
            rcases hww with ⟨rfl, _⟩ | ⟨hic, _, _⟩ | ⟨_, _, _, hl⟩
            · exact hway.first hlc
            · exact absurd hic.symm hci
            · rw [hlc] at hl; cases hl
        · intro hlc
          rcases hww with ⟨rfl, hic⟩ | ⟨_, _, hg⟩ | ⟨hg, hx, _, _⟩
          · rw [hoth c (Ne.symm hic)] at hlc
            exact hway.world hlc
          · exact hg
          · exact hG _ _ hg hx
        · by_cases hji : j = i
          · subst hji; simpa using hv
          · rw [hoth j hji] at hl
            simp only [if_neg hji]
            exact hst' j _ hji hj (Array.getElem?_eq_getElem (by omega)) hl _ (hway.facts j hj hl)
        · by_cases hji : j = i
          · subst hji
            rw [ho] at hj
            obtain rfl := Option.some.inj hj
            rw [hd, put_tmps_eq, hway.other t fun k ok hkm hk hdk => by
              have := (factsB_pair hB hkm him hk ho hd).1 hdk
              subst this
              exact h0]
            simp
          · rw [hoth j hji] at hl
            rw [put_tmps_ne _ _ _ (fun e => hji ((factsB_pair hB him hjm ho hj hd).1 e).symm), hway.done j p t hjm hj hd hl]
            simp [hji]
        · rw [put_tmps_ne _ _ _ (fun e => by
            have := ht i o him ho e
            rw [hself] at this
            cases this)]
          refine hway.other t fun k ok hkm hk hdk => ?_
          have := ht k ok hkm hk hdk
          by_cases hki : k = i
          · subst hki; exact h0
          · rwa [hoth k hki] at this
        · by_cases hji : j = i
          · subst hji
            rw [ho] at hj
            obtain rfl := Option.some.inj hj
            exact getD_set_true (hall e he hb)
          · rw [getD_set_ne false (Ne.symm hji)] at hl
            exact getD_set_true (hway.closed j p hj hl e he hb)
        · rw [hoth j (by omega)]
          exact hway.fresh j hj hjs
    have ow := how vs i o him ho
    have hH : ∀ p ∈ lexH ops ks vs i, (∃ t, p.1 = some t ∧ t ∈ o.looksAt ops) → p.2 w := fun p hp ⟨t, hpt, ht⟩ => by
      obtain ⟨j, hj, hpd, hs⟩ := lexH_mem hp
      rw [hpt] at hpd
      obtain ⟨p', hp', hd'⟩ := Option.bind_eq_some_iff.1 hpd.symm
      rcases (factsB_pair hB him (by omega) ho hp' hd').2 ht with ⟨_, e, he, heq, hb⟩ | ⟨hij, _⟩
      · have h1 := hall e he hb
        rw [heq, conv listed j hls (by omega)] at h1
        exact hs w (hway.facts j (by omega) h1)
      · omega
    unfold wpOp
    simp only [ho]
    cases hk : ks.getD i (.det undef) with
    | det v0 =>
      have hic : i ≠ c := fun e => by
        obtain ⟨F, hF⟩ := hcf
        rw [← e, hk] at hF
        cases hF
      rw [hk] at ow go
      have ow := ow w (by
        cases hlc : listed.getD c true with
        | false => exact .inl (hway.first hlc)
        | true => exact .inr (hway.world hlc))
      rw [← wanted_same o a _ look, ← execOp_same_yields o (factsB_one hB him ho).1 a _ look] at ow
      split
      · rename_i hw
        simp only [hw, if_true] at ow
        exact .inl (wp_of_yieldsF ow fun v w' hv => go v w' hv.1 (.inl ⟨hv.2, hic⟩))
      · rename_i hw
        simp only [hw] at ow
        exact go undef w ow (.inl ⟨rfl, hic⟩)
    | fact F =>
      rw [hk] at ow go
      have ow := ow.2
      by_cases hic : i = c
      · have hwd : w = wd := hway.first (by rw [← hic]; exact h0)
        rw [if_pos hic, ← wanted_same o a _ look, ← execOp_same_yields o (factsB_one hB him ho).1 a _ look] at ow
        subst hwd
        split
        · rename_i hw
          simp only [hw, if_true] at ow
          exact .inl (wp_of_yieldsF ow fun v w' hv => go v w' hv.1 (.inr (.inl ⟨hic, rfl, hv.2⟩)))
        · rename_i hw
          simp only [hw] at ow
          exact go undef w ow.1 (.inr (.inl ⟨hic, rfl, ow.2⟩))
      · obtain ⟨p, e, hp, he, hec, hb⟩ := wait i F him hk hic
        rw [ho] at hp
        obtain rfl := Option.some.inj hp
        have hlc : listed.getD c true = true := by
          have h1 := hall e he hb
          rw [hec, conv listed c hls (by omega)] at h1
          exact h1
        have hg := hway.world hlc
        rw [if_neg hic] at ow
        have ow := ow w hg hH
        rw [← wanted_same o a _ look, ← execOp_same_yields o (factsB_one hB him ho).1 a _ look] at ow
        split
        · rename_i hw
          simp only [hw, if_true] at ow
          exact .inl (wp_of_yieldsF ow fun v w' hv => go v w' hv.1 (.inr (.inr ⟨hg, hv.2, hic, hlc⟩)))
        · rename_i hw
          simp only [hw] at ow
          exact go undef w ow (.inl ⟨rfl, hic⟩)
/-- Which operations' values are facts. -/
def isFact : Take → Bool
  | .fact _ => true
  | .det _ => false
theorem wp_region_one {id : Nat} {Q' : Exit → Act → World → Prop} {a : Act} {w : World} {l : List Oper} (m c : Nat) (G : World → Prop) {ks : List Take} (hG : ∀ w w', G w → Ext w w' → G w') (hm : P.follows .mixedOrders = true) (hB : factsB l.toArray m = true) (hT : tailB l.toArray m = true) (hcm : c < m)
    (h : WalkO P l.toArray w.drew G (fun a' w' => wpList P l.toArray Q' (l.drop m) a' w') c 0 (l.take m) ks a [])
    (hk : isFact (ks.getD c (.det undef)) = true) (hc : (List.range m).all (fun i => !isFact (ks.getD i (.det undef)) || (i == c || waitsB l.toArray c i)) = true) : (Code.region id l.toArray true).wp P Q' a w := by
  have hcf : ∃ F, ks.getD c (.det undef) = .fact F := by
    cases hx : ks.getD c (.det undef) with
    | det v0 => rw [hx] at hk; cases hk
    | fact F => exact ⟨F, rfl⟩
  have hc' : ∀ i F, i < m → ks.getD i (.det undef) = .fact F → i = c ∨ waitsB l.toArray c i = true := fun i F hi hx => by
    have h1 := List.all_eq_true.1 hc i (List.mem_range.2 hi)
    rw [hx] at h1
    simpa [isFact] using h1
  have hms := factsB_le hB
  simp only [List.size_toArray] at hms
  refine wp_region_any hm ?_
  have sp := fun vs => WalkO_spec (P := P) (ops := l.toArray) (wd := w.drew) (G := G) (c := c) (Q := fun a' w' => wpList P l.toArray Q' (l.drop m) a' w') (ks := ks) (a0 := a) vs (l.take m) 0 (fun j hj => by
    have hj' : j < m := by simp at hj; omega
    simp [List.getElem?_take, hj']) (by simpa [lexA, lexH] using h)
  have hlen : (l.take m).length = m := by simp; omega
  rw [show l.toArray.size = m + (l.toArray.size - m) from by simp; omega]
  refine wpAny_one (P := P) (ops := l.toArray) (wd := w.drew) (G := G) (c := c) (ks := ks) (a0 := a) (m := m) hG hB hT hcm hcf hc' ?_ ?_ m _ (List.range m) a _ (fun _ => undef) (by simp; omega) (by simp) List.nodup_range ?_ ?_
  · exact fun vs i o him hi => ((sp vs).1 i o (Nat.zero_le _) (by omega) hi)
  · intro vs w' hw' hp
    have := (sp vs).2 w' hw' (by rw [hlen]; simpa using hp)
    rw [hlen] at this
    simpa using this
  · intro i
    simp only [List.mem_range]
    constructor
    · intro h
      have : i < m + (l.length - m) := by omega
      exact ⟨h, by simp [this]⟩
    · exact fun h => h.1
  · refine ⟨fun _ => rfl, fun hl => ?_, rfl, fun i hi hl => ?_, fun i o t him hi hd hl => ?_, fun t _ => rfl, fun i o hi hl => ?_, fun i hi his => ?_⟩
    · have : c < m + (l.length - m) := by omega
      simp [this] at hl
    · have : i < m + (l.length - m) := by omega
      simp [this] at hl
    · have : i < m + (l.length - m) := by omega
      simp [this] at hl
    · have hil : i < l.length := by simpa using (Array.getElem?_eq_some_iff.1 hi).1
      have : i < m + (l.length - m) := by omega
      simp [this] at hl
    · have hil : i < l.length := by simpa using his
      have : i < m + (l.length - m) := by omega
      simp [this]
end
end Go.Proofs.YtcccnicldbpieaaGreatDoor
namespace Go.Proofs.YtcccnicldbpieaaGreatDoor
open Go Go.RowKit
set_option linter.unusedVariables false
set_option linter.unusedSimpArgs false
theorem EY.weaken {w : World} {M M' : Nat → Prop} (k : ∀ b, b < w.heap.size → M' b → M b) : ∀ {e : Ex} {cs : List Value}, EY w M e cs → EY w M' e cs
  | .leaf .., _, h => h
  | .neg .., _, ⟨g, ca, h1, h2, h3⟩ => ⟨g, ca, h1, ⟨h2.1, fun h => h2.2 (k g h2.1.lt h)⟩, EY.weaken k h3⟩
  | .bin .., _, ⟨g, ca, cb, h1, h2, h3, h4⟩ => ⟨g, ca, cb, h1, ⟨h2.1, fun h => h2.2 (k g h2.1.lt h)⟩, EY.weaken k h3, EY.weaken k h4⟩
theorem QS.keep {w w' : World} {p B : Nat} {r : Rs} {R : QRep} (h : QS w p B r R) (hk : ∀ b, b < B ∨ MineQ p R b → w'.heap[b]? = w.heap[b]?) : QS w' p B r R := by
  have hb : w'.heap[p]? = w.heap[p]? := hk p (.inr (.inl rfl))
  exact ⟨hb.trans h.blk, fun k hk' => (World.cell?_of_block (w := w) (hk R.bt (.inl h.tlow))).trans (h.toks k hk'), h.few, h.tlow, h.nodes, h.ns.keep fun b hb => hk b (.inr (.inr hb)), h.pB, h.good⟩
theorem Touch.qs {g p B : Nat} {w w' : World} {r : Rs} {R : QRep} (h : Touch g w w') (k : QS w p B r R) (hB : B ≤ g) (hM : ¬ MineQ p R g) : QS w' p B r R :=
  k.keep fun b hb => h.other b fun e => by
    subst e
    rcases hb with hb | hb
    · omega
    · exact hM hb
/-- How many tokens are left, read off memory. -/
def lenQ (p : Nat) (w : World) : Nat := match w.cell? ⟨p, 0, none⟩, w.cell? ⟨p, 1, none⟩ with
  | some (.slice _ n _), some (.int _ i) => n - i.toNat
  | _, _ => 0
theorem QS.lenQ {w : World} {p B : Nat} {r : Rs} {R : QRep} (h : QS w p B r R) : lenQ p w = r.s.ts.length := by
  unfold Proofs.YtcccnicldbpieaaGreatDoor.lenQ
  rw [h.x0, h.x1]
  show R.I + r.s.ts.length - (R.I : Int).toNat = _
  omega
def PostEQ (w : World) (p B : Nat) (R : QRep) (x : Ex × Rs) (e : Ending) (w' : World) : Prop := ∃ cs R', e = .returned (.agg cs.toArray) ∧ QS w' p B x.2 R' ∧ Moves w (MineQ p R) w' (MineQ p R') ∧ EY w' (Or (MineQ p R') (under w)) x.1 cs
def CallsEQ (F f : Nat) (m : Rs → Ex × Rs) : Prop := ∀ (w : World) (p B : Nat) (r : Rs) (R : QRep), QS w p B r R → r.s.ts.length ≤ f → Calls Tryz.prog F #[.pointer (some ⟨p, 0, none⟩)] w (PostEQ w p B R (m r))
def eyzero : Array Value := #[.int .u8 0, .int .i64 0, .string ⟨#[]⟩, .int .i64 0, .slice none 0 0]
/-- What a call in a drawn region told. -/
def FE (wd : World) (p B : Nat) (R : QRep) (x : Ex × Rs) (v : Value) (w' : World) : Prop := ∃ cs R', v = .agg cs.toArray ∧ QS w' p B x.2 R' ∧ Moves wd (MineQ p R) w' (MineQ p R') ∧ EY w' (Or (MineQ p R') (under wd)) x.1 cs
theorem FE.ext {wd : World} {p B : Nat} {R : QRep} {x : Ex × Rs} (v : Value) (w w' : World) (h : FE wd p B R x v w) (hx : Ext w w') : FE wd p B R x v w' :=
  let ⟨cs, R', h1, h2, h3, h4⟩ := h; ⟨cs, R', h1, h2.ext hx, h3.trans (Moves.ext hx), h4.moves (Moves.ext hx)⟩
/-- .. and the row of both. -/
def FB (wd : World) (p B : Nat) (R : QRep) (x : Ex × Rs) (ca : List Value) (v : Value) (w' : World) : Prop := ∃ cs R' gb, v = .slice (some ⟨gb, 0, none⟩) 2 2 ∧ QS w' p B x.2 R' ∧ Moves wd (MineQ p R) w' (MineQ p R') ∧ EY w' (Or (MineQ p R') (under wd)) x.1 cs ∧ Safe w' (MineQ p R') gb 164 (ca ++ cs).toArray ∧ wd.heap.size ≤ gb
theorem FB.ext {wd : World} {p B : Nat} {R : QRep} {x : Ex × Rs} {ca : List Value} (v : Value) (w w' : World) (h : FB wd p B R x ca v w) (hx : Ext w w') : FB wd p B R x ca v w' :=
  let ⟨cs, R', gb, h1, h2, h3, h4, h5, h6⟩ := h; ⟨cs, R', gb, h1, h2.ext hx, h3.trans (Moves.ext hx), h4.moves (Moves.ext hx), h5.moves (Moves.ext hx), h6⟩
theorem chainR_none {ms : List (Bs × Nat)} {P : Rs → Ex × Rs} {f : Nat} {e : Ex} {r : Rs} (h : markR ms r = none) : chainR ms P (f + 1) e r = (e, r) := by rw [chainR, h]
theorem chainR_some {ms : List (Bs × Nat)} {P : Rs → Ex × Rs} {f k : Nat} {e : Ex} {r : Rs} (h : markR ms r = some k) : chainR ms P (f + 1) e r = chainR ms P f (.bin k e.pos e (P r.adv).1) (P r.adv).2 := by rw [chainR, h]
theorem ris_text {t u : Bs} {r : Rs} (h : r.is t = true) (hn : t ≠ u) : r.is u = false := by
  cases hu : r.is u with
  | false => rfl
  | true =>
    unfold Rs.is at h hu
    rw [Bool.and_eq_true] at h hu
    exact absurd (((isP_kinds h.2).2.2).symm.trans (isP_kinds hu.2).2.2) hn
/-- What holds ahead of a round: the expression so far lies at g. -/
def ChQ (w : World) (p B : Nat) (R : QRep) (g g0 : Nat) (f : Nat) (M : Nat → Ex → Rs → Ex × Rs) (res : Ex × Rs) (wr : World) : Prop :=
  ∃ (r' : Rs) (R' : QRep) (x : Ex) (cs : List Value) (f' : Nat), Hid (QS wr p B r' R') ∧ Hid (Moves w (MineQ p R) wr (MineQ p R')) ∧ Hid (r'.s.ts.length ≤ f ∧ r'.s.ts.length < f') ∧ Hid (res = M f' x r') ∧ Hid (Safe wr (MineQ p R') g 164 cs.toArray) ∧ Hid (EY wr (Or (MineQ p R') (ChX w g g0)) x cs) ∧ Hid (Safe wr (MineQ p R') g0 164 eyzero)
set_option maxRecDepth 100000 in
set_option maxHeartbeats 8000000 in
theorem qterm_of (f : Nat) (part : Rs → Ex × Rs) (hpart : CallsEQ 144 f part) (hkeep : ∀ r, RGood r → r.s.ts.length ≤ f → RExpr r (part r)) : CallsEQ 138 f (chainsR starM part) := by
  intro w p B r R h hl
  have HP := Lib.hid h
  have HPA := Lib.hid hpart
  have HKE := Lib.hid hkeep
  have HL := Lib.hid hl
  have hk0 := hkeep r h.good hl
  have HZ := Lib.hid (h.fresh 164 eyzero)
  have HX0 : Hid (Ext w (w.alloc (.cells eyzero 164))) := Lib.hid (Ext.alloc _ _)
  have HP0 := Lib.hid (h.ext HX0.out)
  have HBW : Hid (B ≤ w.heap.size) := Lib.hid (Nat.le_trans h.pB (Nat.le_of_lt h.blk.lt))
  obtain ⟨g0, HG0⟩ : ∃ g0, Hid (w.heap.size = g0) := ⟨_, Lib.hid rfl⟩
  have HK0 := Lib.hid hk0
  clear h hpart hkeep hl hk0
  go_enter Tryz.func138, Tryz.ntmps138
  go_wp2_with fail
  have HWE : Hid (w.alloc (.cells #[.int .u8 0, .int .i64 0, .string ⟨#[]⟩, .int .i64 0, .slice none 0 0] 164) = w.alloc (.cells eyzero 164)) := Lib.hid rfl
  rw [HWE.out, HG0.out]
  rw [HG0.out] at HZ
  generalize w.alloc (.cells eyzero 164) = w0 at *
  clear HWE
  refine (HPA.out w0 p B r R HP0.out HL.out).mono ?_
  rintro e w1 ⟨cs, R1, rfl, hq1, hm1, hx1⟩
  have HCH : Hid (chainsR starM part r = chainR starM part ((part r).2.s.ts.length + 1) (part r).1 (part r).2) := Lib.hid rfl
  have HT1 : Hid ((part r).2.s.ts.length ≤ f) := Lib.hid (by have := HK0.out.ts; have := HL.out; omega)
  obtain ⟨y0, hy0⟩ : ∃ y, part r = y := ⟨_, rfl⟩
  rw [hy0] at hq1 hx1 HCH HT1
  obtain ⟨x, r1⟩ := y0
  simp only at hq1 hx1 HCH HT1
  clear hy0 HK0
  obtain ⟨A1, c1, f1, hcs, _⟩ := hx1.open
  have HX1 := Lib.hid hx1
  have HQ1 := Lib.hid hq1
  have HM1 := Lib.hid hm1
  have HZ1 := Lib.hid (HZ.out.moves hm1)
  have HFR := Lib.hid (hq1.fresh 164 cs.toArray)
  have HBD : Hid (w.heap.size ≤ w1.heap.size ∧ w.heap.size ≤ g0 ∧ w1.heap.size ≠ g0 ∧ B ≤ w.heap.size) := Lib.hid (by
    have h1 := HX0.out.size
    have h2 := hm1.size
    have h3 := HG0.out
    have h4 := HZ1.out.1.lt
    have h5 := HBW.out
    omega)
  have HWK : Hid (∀ b, b < w1.heap.size → Or (MineQ p R1) (ChX w w1.heap.size g0) b → Or (MineQ p R1) (under w0) b) := Lib.hid fun b hb h => by
    rcases h with h | h | h | h
    · exact .inl h
    · exact .inr (Nat.lt_of_lt_of_le h HX0.out.size)
    · omega
    · subst h; exact .inr (HZ.out.1.lt)
  have HEXT : Hid (Ext w1 (w1.alloc (.cells cs.toArray 164))) := Lib.hid (Ext.alloc _ _)
  have HJ : Hid (ChQ w p B R w1.heap.size g0 f (chainR starM part) (chainsR starM part r) (w1.alloc (.cells cs.toArray 164))) := Lib.hid ⟨r1, R1, x, cs, r1.s.ts.length + 1, Lib.hid (hq1.ext HEXT.out), Lib.hid (((Moves.ext HX0.out).trans hm1).trans (Moves.ext HEXT.out)), Lib.hid ⟨HT1.out, Nat.lt_succ_self _⟩, HCH, HFR, Lib.hid ((hx1.weaken HWK.out).moves ((Moves.ext HEXT.out).or _)), Lib.hid (HZ1.out.moves (Moves.ext HEXT.out))⟩
  clear hq1 hm1 hx1
  subst hcs
  unfold eheadR
  unfold eheadR at HJ
  generalize x.parts.length = xm at *
  generalize HY : x.node = y at *
  obtain ⟨yk, yp, yt, yn, yks⟩ := y
  simp only
  simp only at HJ
  obtain ⟨g, HGE⟩ : ∃ g, Hid (w1.heap.size = g) := ⟨_, Lib.hid rfl⟩
  rw [HGE.out] at HJ HBD
  go_wp2_with fail
  rw [HGE.out]
  clear HX1 HFR HWK HEXT HQ1 HM1 HZ1
  generalize w1.alloc (.cells #[.int .u8 (yk : Int), .int .i64 (yp : Int), .string (bstr yt), .int .i64 yn, .slice A1 xm c1] 164) = w2 at *
  go_loopw [] (fun wr => ChQ w p B R g g0 f (chainR starM part) (chainsR starM part r) wr) (fun wr => lenQ p wr)
  case atStart => exact HJ.out
  case round =>
    obtain ⟨r', R', x', cs', f', HPa, HMa, HLa, HEQ, HSa, HEa, HZa⟩ := hrel
    obtain ⟨wa, rfl⟩ : ∃ wa : World, wa = wr := ⟨_, rfl⟩
    obtain ⟨f'', rfl⟩ : ∃ n, f' = n + 1 := ⟨f' - 1, by have := HLa.out; omega⟩
    clear HJ HCH HT1 HY
    have HLM : Hid (lenQ p wa = r'.s.ts.length) := Lib.hid HPa.out.lenQ
    cases hi : r'.is [42] with
    | false =>
      have HI := Lib.hid hi
      clear hi
      have HRES : Hid (chainsR starM part r = (x', r')) := Lib.hid (by rw [HEQ.out, chainR_none (by unfold markR starM; simp [List.find?_cons, HI.out])])
      go_wp2_with fail
      refine (qis_any _ p B r' R' [42] false HI HPa.out).mono ?_
      rintro e _ ⟨rfl, m, rfl⟩
      have HPb := Lib.hid (HPa.out.drewN m)
      have HMb := Lib.hid (HMa.out.trans (moves_drew m))
      have HSb := Lib.hid (HSa.out.moves (moves_drew (M := MineQ p R') m))
      have HEb := Lib.hid (HEa.out.moves ((moves_drew (M := MineQ p R') m).or _))
      have HZb := Lib.hid (HZa.out.moves (moves_drew (M := MineQ p R') m))
      generalize wa.drewN m = wn0 at *
      clear HPa HMa HSa HEa HZa
      have HPa := HPb
      have HMa := HMb
      have HSa := HSb
      have HEa := HEb
      have HZa := HZb
      clear HPb HMb HSb HEb HZb
      obtain ⟨A1, c1, f1, hcs, _⟩ := HEa.out.open
      have ee0 := HSa.out.1.cell 0
      have ee1 := HSa.out.1.cell 1
      have ee2 := HSa.out.1.cell 2
      have ee3 := HSa.out.1.cell 3
      have ee4 := HSa.out.1.cell 4
      subst hcs
      simp only [eheadR, List.getElem?_toArray, List.getElem?_cons_zero, List.getElem?_cons_succ] at ee0 ee1 ee2 ee3 ee4
      generalize x'.parts.length = xm at *
      generalize HY : x'.node = y at *
      obtain ⟨yk, yp, yt, yn, yks⟩ := y
      simp only at ee0 ee1 ee2 ee3 ee4
      go_wp2_with (refine wpList_put rfl 164 (.tmp 2) (.tmp 22) rfl g0 #[.int .u8 (yk : Int), .int .i64 (yp : Int), .string (bstr yt), .int .i64 yn, .slice A1 xm c1] (by rfl) (by rfl) 164 _ HZa.out.1 (by kernel_rfl) rfl rfl ?_; intro w6 ht6 hb6)
      have HN6 : Hid (Moves wn0 (Or (MineQ p R') (ChX w g g0)) w6 (Or (MineQ p R') (ChX w g g0))) := Lib.hid (ht6.moves (.inr (.inr (.inr rfl))))
      have HF6 : Hid (PostEQ w p B R (chainsR starM part r) (.returned (.agg (eheadR ⟨yk, yp, yt, yn, yks⟩ A1 xm c1).toArray)) w6) := Lib.hid (by
        rw [HRES.out]
        exact ⟨_, R', rfl, ht6.qs HPa.out (Nat.le_trans HBD.out.2.2.2 HBD.out.2.1) HZa.out.2, HMa.out.touch ht6 HBD.out.2.1, (HEa.out.moves HN6.out).weaken (fun b hb h => by
          rcases h with h | h
          · exact .inl h
          · exact .inr (.inl h))⟩)
      have HB6 := Lib.hid hb6
      clear ht6 hb6
      go_wp2_with fail
      exact ret_row g0 164 _ _ Tryz.results138 rfl rfl HB6.out Tryz.underlying164 rfl (by kernel_rfl) HF6.out
    | true =>
      have HI := Lib.hid hi
      clear hi
      have HMK : Hid (markR starM r' = some 25) := Lib.hid (by unfold markR starM; simp [List.find?_cons, HI.out])
      have HK4 : Hid (r'.s.hd.kind ≠ 4) := Lib.hid (ris_kind HI.out).1
      have HQ2 : Hid (chainsR starM part r = chainR starM part f'' (.bin 25 x'.pos x' (part r'.adv).1) (part r'.adv).2) := Lib.hid (by rw [HEQ.out, chainR_some HMK.out])
      have HLN : Hid (r'.adv.s.ts.length < r'.s.ts.length) := Lib.hid (HPa.out.good.last.len HK4.out)
      have HKP := Lib.hid (HKE.out r'.adv (rl_adv HPa.out.good HK4.out).good (by have := HLN.out; have := HLa.out; omega))
      go_wp2_with fail
      refine (qis_any _ p B r' R' [42] true HI HPa.out).mono ?_
      rintro e _ ⟨rfl, m, rfl⟩
      have HPb := Lib.hid (HPa.out.drewN m)
      have HMb := Lib.hid (HMa.out.trans (moves_drew m))
      have HSb := Lib.hid (HSa.out.moves (moves_drew (M := MineQ p R') m))
      have HEb := Lib.hid (HEa.out.moves ((moves_drew (M := MineQ p R') m).or _))
      have HZb := Lib.hid (HZa.out.moves (moves_drew (M := MineQ p R') m))
      generalize wa.drewN m = wc0 at *
      clear HPa HMa HSa HEa HZa
      have HPa := HPb
      have HMa := HMb
      have HSa := HSb
      have HEa := HEb
      have HZa := HZb
      clear HPb HMb HSb HEb HZb
      have x1 := HPa.out.x1
      have hf1 := HPa.out.blk.frozen 1
      have hfew := HPa.out.few
      have hpos := HPa.out.good.last.pos
      go_wp2_with fail
      have HP2 := Lib.hid (HPa.out.set1 HK4.out)
      have hmv : ∀ {N : Nat → Prop}, N p → Moves wc0 N (wc0.setCell ⟨p, 1, none⟩ (.int .i64 ((R'.I : Int) + 1))) N := fun h => Moves.set h
      have HM2 := Lib.hid (HMa.out.trans (hmv (.inl rfl)))
      have HS2 := Lib.hid (HSa.out.moves (hmv (N := MineQ p R') (.inl rfl)))
      have HE2 := Lib.hid (HEa.out.moves (hmv (N := Or (MineQ p R') (ChX w g g0)) (.inl (.inl rfl))))
      have HZ2 := Lib.hid (HZa.out.moves (hmv (N := MineQ p R') (.inl rfl)))
      clear x1 hf1 hfew hpos HPa HMa HSa HEa HZa hmv
      generalize wc0.setCell ⟨p, 1, none⟩ (.int .i64 ((R'.I : Int) + 1)) = w2 at *
      obtain ⟨R2, hR2⟩ : ∃ X, X = { R' with I := R'.I + 1 } := ⟨_, rfl⟩
      rw [← hR2] at HP2
      have HMQ : Hid (MineQ p R' = MineQ p R2) := Lib.hid (by rw [hR2]; rfl)
      rw [HMQ.out] at HM2 HS2 HE2 HZ2
      clear hR2
      obtain ⟨A1, c1, f1, hcs, _⟩ := HE2.out.open
      have hps := x'.node_pos
      subst hcs
      unfold eheadR at HS2
      generalize x'.parts.length = xm at *
      generalize HY : x'.node = y at *
      obtain ⟨yk, yp, yt, yn, yks⟩ := y
      simp only at hps HS2
      subst hps
      apply wp_region_one 6 4 (fun w' => Blk w' g 164 #[.int .u8 (yk : Int), .int .i64 (x'.pos : Int), .string (bstr yt), .int .i64 yn, .slice A1 xm c1]) (fun _ _ h hx => Blk.ext h hx) (by kernel_rfl) (by kernel_rfl) (by kernel_rfl) (by decide)
      dsimp only [List.take_succ_cons, List.take_zero, List.drop_succ_cons, List.drop_zero]
      apply oneO_det (.pointer (some ⟨g, 1, none⟩)) rfl rfl
      · intro w' hw'
        clear hw'
        simp [YieldsF, go_sem]
      simp only [Act.put, List.setIfInBounds_toArray, List.set_cons_succ, List.set_cons_zero]
      apply oneO_det (.int .i64 (x'.pos : Int)) rfl rfl
      · intro w' hw'
        have bb : Blk w' g 164 #[.int .u8 (yk : Int), .int .i64 (x'.pos : Int), .string (bstr yt), .int .i64 yn, .slice A1 xm c1] := by rcases hw' with rfl | h; exact (HS2.out.1.ext (Below.drew (Below.refl _ _))); exact h
        have e1 := bb.cell 1
        simp only [List.getElem?_toArray, List.getElem?_cons_zero, List.getElem?_cons_succ] at e1
        clear hw' bb
        simp [YieldsF, go_sem, e1]
      simp only [Act.put, List.setIfInBounds_toArray, List.set_cons_succ, List.set_cons_zero]
      apply oneO_det (.agg #[.int .u8 (yk : Int), .int .i64 (x'.pos : Int), .string (bstr yt), .int .i64 yn, .slice A1 xm c1]) rfl rfl
      · intro w' hw'
        have bb : Blk w' g 164 #[.int .u8 (yk : Int), .int .i64 (x'.pos : Int), .string (bstr yt), .int .i64 yn, .slice A1 xm c1] := by rcases hw' with rfl | h; exact (HS2.out.1.ext (Below.drew (Below.refl _ _))); exact h
        have e0 := bb.cell 0
        have e1 := bb.cell 1
        have e2 := bb.cell 2
        have e3 := bb.cell 3
        have e4 := bb.cell 4
        simp only [List.getElem?_toArray, List.getElem?_cons_zero, List.getElem?_cons_succ] at e0 e1 e2 e3 e4
        clear hw' bb
        simp [YieldsF, go_sem, e0, e1, e2, e3, e4]
      apply oneO_det (.pointer (some ⟨p, 0, none⟩)) rfl rfl
      · intro w' hw'
        clear hw'
        simp [YieldsF, go_sem]
      simp only [Act.put, List.setIfInBounds_toArray, List.set_cons_succ, List.set_cons_zero]
      apply oneO_fact (FE w2.drew p B R2 (part r'.adv)) rfl FE.ext rfl rfl
      · simp [YieldsF, go_sem]
        refine (HPA.out w2.drew p B r'.adv R2 (HP2.out.ext (Below.drew (Below.refl _ _))) (by have := HLN.out; have := HLa.out; omega)).mono ?_
        rintro e w3 ⟨cs3, R3, rfl, hq, hm, he⟩
        exact ⟨_, rfl, ⟨cs3, R3, rfl, hq, hm, he⟩, ((HS2.out.moves (Moves.ext (M := MineQ p R2) (Below.drew (Below.refl _ _)))).moves hm).1⟩
      intro v19
      simp only [Act.put, List.setIfInBounds_toArray, List.set_cons_succ, List.set_cons_zero]
      apply oneO_more (FB w2.drew p B R2 (part r'.adv) (eheadR ⟨yk, x'.pos, yt, yn, yks⟩ A1 xm c1)) (by decide) FB.ext rfl rfl rfl
      · intro w' hw' hH
        obtain ⟨cs3, R3, rfl, hq3, hm3, he3⟩ := hH _ (List.mem_cons_self ..) ⟨_, rfl, by decide⟩
        clear hH hw'
        obtain ⟨A3, c3, f3, hcs3, _⟩ := he3.open
        have HQ3 := Lib.hid hq3
        have HM3 := Lib.hid hm3
        have HE3 := Lib.hid he3
        clear hq3 hm3 he3
        subst hcs3
        have HSZ : Hid (w2.drew.heap.size ≤ w'.heap.size) := Lib.hid HM3.out.size
        unfold eheadR
        unfold eheadR at HE3
        generalize (part r'.adv).1.parts.length = rm at *
        generalize HYR : (part r'.adv).1.node = yr at *
        obtain ⟨rk, rp, rt, rn, rks⟩ := yr
        simp only at HE3 ⊢
        clear HYR
        simp [YieldsF, go_sem]
        exact ⟨⟨_, R3, _, rfl, HQ3.out.ext (Ext.alloc _ _), HM3.out.trans (Moves.ext (Ext.alloc _ _)), HE3.out.moves (Moves.ext (Ext.alloc _ _)), HQ3.out.fresh 164 _, HSZ.out⟩, Ext.alloc _ _⟩
      intro v20
      simp only [Act.put, List.setIfInBounds_toArray, List.set_cons_succ, List.set_cons_zero]
      apply WalkO_nil
      intro w3 hw3 hH
      obtain ⟨cs3, R3, gb, rfl, hq3, hm3, he3, hb3, hgb⟩ := hH _ (List.mem_cons_self ..)
      clear hH hw3
      have HB3 := Lib.hid hb3
      have HGB := Lib.hid hgb
      have hmd : Moves w2 (MineQ p R2) w3 (MineQ p R3) := (Moves.ext (M := MineQ p R2) (Below.drew (Below.refl _ _))).trans hm3
      have HMD := Lib.hid hmd
      have HP3 := Lib.hid hq3
      have HM3 := Lib.hid (HM2.out.trans hmd)
      have HS3 := Lib.hid (HS2.out.moves hmd)
      have HE3 := Lib.hid (HE2.out.moves (hmd.or _))
      have HZ3 := Lib.hid (HZ2.out.moves hmd)
      have HWD : Hid (w2.drew.heap.size = w2.heap.size) := Lib.hid rfl
      have HR3 : Hid (EY w3 (Or (MineQ p R3) (ChX w g g0)) (part r'.adv).1 cs3) := Lib.hid (he3.weaken fun b hb h => by
        rcases h with h | h
        · exact .inl h
        · refine .inr ?_
          have h1 := HM2.out.size
          have h2 := HS2.out.1.lt
          have h3 := HZ2.out.1.lt
          have h4 := HWD.out
          unfold under
          rcases h with h | h | h
          · unfold under at h; omega
          · omega
          · omega)
      have HL3 : Hid ((part r'.adv).2.s.ts.length ≤ f ∧ (part r'.adv).2.s.ts.length < r'.s.ts.length) := Lib.hid (by have h1 := HKP.out.ts; have h2 := HLN.out; have h3 := HLa.out; omega)
      obtain ⟨y3, hy3⟩ : ∃ y, part r'.adv = y := ⟨_, rfl⟩
      rw [hy3] at HR3 HP3 HQ2 HL3
      obtain ⟨x3, r3⟩ := y3
      simp only at HR3 HP3 HQ2 HL3
      clear hy3 he3 hq3 hm3 hmd HKP
      clear hb3 hgb
      go_wp2_with (refine wpList_put rfl 164 (.tmp 3) (.tmp 21) rfl g #[.int .u8 25, .int .i64 (x'.pos : Int), .string ⟨#[]⟩, .int .i64 0, .slice (some ⟨gb, 0, none⟩) 2 2] (by rfl) (by rfl) 164 _ HS3.out.1 (by kernel_rfl) rfl rfl ?_; intro w6 ht6 hb6)
      have HGN : Hid (gb ≠ g ∧ gb ≠ g0 ∧ w.heap.size ≤ gb) := Lib.hid (by
        have h1 := HS2.out.1.lt
        have h2 := HZ2.out.1.lt
        have h3 := HM2.out.size
        have h4 := HGB.out
        have h5 := HWD.out
        omega)
      have HP6 := Lib.hid (ht6.qs HP3.out (Nat.le_trans HBD.out.2.2.2 HBD.out.1) HS3.out.2)
      have HM6 := Lib.hid (HM3.out.touch ht6 HBD.out.1)
      have HN6 : Hid (Moves w3 (Or (MineQ p R3) (ChX w g g0)) w6 (Or (MineQ p R3) (ChX w g g0))) := Lib.hid (ht6.moves (.inr (.inr (.inl rfl))))
      have HS6 : Hid (Safe w6 (Or (MineQ p R3) (ChX w g g0)) gb 164 (eheadR ⟨yk, x'.pos, yt, yn, yks⟩ A1 xm c1 ++ cs3).toArray) := Lib.hid (by
        have hs : Safe _ (Or (MineQ p R3) (ChX w g g0)) gb 164 _ := ⟨HB3.out.1, fun h => by
          have hg := HGN.out
          rcases h with h | h | h | h
          · exact HB3.out.2 h
          · unfold under at h; omega
          · omega
          · omega⟩
        exact ht6.safe hs HGN.out.1)
      have HZ6 := Lib.hid (ht6.safe HZ3.out (Ne.symm HBD.out.2.2.1))
      have HB6 := Lib.hid hb6
      have HX6 : Hid (EY w6 (Or (MineQ p R3) (ChX w g g0)) (.bin 25 x'.pos x' x3) (eheadR ⟨25, x'.pos, [], 0, []⟩ (some ⟨gb, 0, none⟩) 2 2)) := Lib.hid ⟨_, _, _, rfl, HS6.out, HE3.out.moves HN6.out, HR3.out.moves HN6.out⟩
      have HF6 : Hid (r3.s.ts.length ≤ f ∧ r3.s.ts.length < f'') := Lib.hid (by have := HLa.out; have := HL3.out; omega)
      have HJ6 : Hid (ChQ w p B R g g0 f (chainR starM part) (chainsR starM part r) w6) := Lib.hid ⟨r3, R3, _, _, f'', HP6, HM6, HF6, HQ2, Lib.hid ⟨HB6.out, HS3.out.2⟩, HX6, HZ6⟩
      have HLL : Hid (lenQ p w6 < r'.s.ts.length) := Lib.hid (by rw [HP6.out.lenQ]; exact HL3.out.2)
      clear ht6 hb6
      go_wp2_with fail
      dsimp only [Act.put]
      go_roundw
      case rel => exact HJ6.out
      case measure => rw [HLM.out]; exact HLL.out
      · kernel_rfl
      · kernel_rfl
set_option maxRecDepth 100000 in
set_option maxHeartbeats 8000000 in
theorem qsum_of (f : Nat) (part : Rs → Ex × Rs) (hpart : CallsEQ 138 f part) (hkeep : ∀ r, RGood r → r.s.ts.length ≤ f → RExpr r (part r)) : CallsEQ 122 f (chainsR plusM part) := by
  intro w p B r R h hl
  have HP := Lib.hid h
  have HPA := Lib.hid hpart
  have HKE := Lib.hid hkeep
  have HL := Lib.hid hl
  have hk0 := hkeep r h.good hl
  have HZ := Lib.hid (h.fresh 164 eyzero)
  have HX0 : Hid (Ext w (w.alloc (.cells eyzero 164))) := Lib.hid (Ext.alloc _ _)
  have HP0 := Lib.hid (h.ext HX0.out)
  have HBW : Hid (B ≤ w.heap.size) := Lib.hid (Nat.le_trans h.pB (Nat.le_of_lt h.blk.lt))
  obtain ⟨g0, HG0⟩ : ∃ g0, Hid (w.heap.size = g0) := ⟨_, Lib.hid rfl⟩
  have HK0 := Lib.hid hk0
  clear h hpart hkeep hl hk0
  go_enter Tryz.func122, Tryz.ntmps122
  go_wp2_with fail
  have HWE : Hid (w.alloc (.cells #[.int .u8 0, .int .i64 0, .string ⟨#[]⟩, .int .i64 0, .slice none 0 0] 164) = w.alloc (.cells eyzero 164)) := Lib.hid rfl
  rw [HWE.out, HG0.out]
  rw [HG0.out] at HZ
  generalize w.alloc (.cells eyzero 164) = w0 at *
  clear HWE
  refine (HPA.out w0 p B r R HP0.out HL.out).mono ?_
  rintro e w1 ⟨cs, R1, rfl, hq1, hm1, hx1⟩
  have HCH : Hid (chainsR plusM part r = chainR plusM part ((part r).2.s.ts.length + 1) (part r).1 (part r).2) := Lib.hid rfl
  have HT1 : Hid ((part r).2.s.ts.length ≤ f) := Lib.hid (by have := HK0.out.ts; have := HL.out; omega)
  obtain ⟨y0, hy0⟩ : ∃ y, part r = y := ⟨_, rfl⟩
  rw [hy0] at hq1 hx1 HCH HT1
  obtain ⟨x, r1⟩ := y0
  simp only at hq1 hx1 HCH HT1
  clear hy0 HK0
  obtain ⟨A1, c1, f1, hcs, _⟩ := hx1.open
  have HX1 := Lib.hid hx1
  have HQ1 := Lib.hid hq1
  have HM1 := Lib.hid hm1
  have HZ1 := Lib.hid (HZ.out.moves hm1)
  have HFR := Lib.hid (hq1.fresh 164 cs.toArray)
  have HBD : Hid (w.heap.size ≤ w1.heap.size ∧ w.heap.size ≤ g0 ∧ w1.heap.size ≠ g0 ∧ B ≤ w.heap.size) := Lib.hid (by
    have h1 := HX0.out.size
    have h2 := hm1.size
    have h3 := HG0.out
    have h4 := HZ1.out.1.lt
    have h5 := HBW.out
    omega)
  have HWK : Hid (∀ b, b < w1.heap.size → Or (MineQ p R1) (ChX w w1.heap.size g0) b → Or (MineQ p R1) (under w0) b) := Lib.hid fun b hb h => by
    rcases h with h | h | h | h
    · exact .inl h
    · exact .inr (Nat.lt_of_lt_of_le h HX0.out.size)
    · omega
    · subst h; exact .inr (HZ.out.1.lt)
  have HEXT : Hid (Ext w1 (w1.alloc (.cells cs.toArray 164))) := Lib.hid (Ext.alloc _ _)
  have HJ : Hid (ChQ w p B R w1.heap.size g0 f (chainR plusM part) (chainsR plusM part r) (w1.alloc (.cells cs.toArray 164))) := Lib.hid ⟨r1, R1, x, cs, r1.s.ts.length + 1, Lib.hid (hq1.ext HEXT.out), Lib.hid (((Moves.ext HX0.out).trans hm1).trans (Moves.ext HEXT.out)), Lib.hid ⟨HT1.out, Nat.lt_succ_self _⟩, HCH, HFR, Lib.hid ((hx1.weaken HWK.out).moves ((Moves.ext HEXT.out).or _)), Lib.hid (HZ1.out.moves (Moves.ext HEXT.out))⟩
  clear hq1 hm1 hx1
  subst hcs
  unfold eheadR
  unfold eheadR at HJ
  generalize x.parts.length = xm at *
  generalize HY : x.node = y at *
  obtain ⟨yk, yp, yt, yn, yks⟩ := y
  simp only
  simp only at HJ
  obtain ⟨g, HGE⟩ : ∃ g, Hid (w1.heap.size = g) := ⟨_, Lib.hid rfl⟩
  rw [HGE.out] at HJ HBD
  go_wp2_with fail
  rw [HGE.out]
  clear HX1 HFR HWK HEXT HQ1 HM1 HZ1
  generalize w1.alloc (.cells #[.int .u8 (yk : Int), .int .i64 (yp : Int), .string (bstr yt), .int .i64 yn, .slice A1 xm c1] 164) = w2 at *
  go_loopw [4] (fun _k wr => ChQ w p B R g g0 f (chainR plusM part) (chainsR plusM part r) wr) (fun _k wr => lenQ p wr)
  case atStart => exact HJ.out
  case round =>
    obtain ⟨r', R', x', cs', f', HPa, HMa, HLa, HEQ, HSa, HEa, HZa⟩ := hrel
    obtain ⟨wa, rfl⟩ : ∃ wa : World, wa = wr := ⟨_, rfl⟩
    obtain ⟨f'', rfl⟩ : ∃ n, f' = n + 1 := ⟨f' - 1, by have := HLa.out; omega⟩
    clear HJ HCH HT1 HY
    have HLM : Hid (lenQ p wa = r'.s.ts.length) := Lib.hid HPa.out.lenQ
    cases hi : r'.is [43] with
    | true =>
      have HI := Lib.hid hi
      have HI2 := Lib.hid (ris_text (u := [45]) hi (by decide))
      clear hi
      have HMK : Hid (markR plusM r' = some 23) := Lib.hid (by unfold markR plusM; simp [List.find?_cons, HI.out])
      have HK4 : Hid (r'.s.hd.kind ≠ 4) := Lib.hid (ris_kind HI.out).1
      have HQ2 : Hid (chainsR plusM part r = chainR plusM part f'' (.bin 23 x'.pos x' (part r'.adv).1) (part r'.adv).2) := Lib.hid (by rw [HEQ.out, chainR_some HMK.out])
      have HLN : Hid (r'.adv.s.ts.length < r'.s.ts.length) := Lib.hid (HPa.out.good.last.len HK4.out)
      have HKP := Lib.hid (HKE.out r'.adv (rl_adv HPa.out.good HK4.out).good (by have := HLN.out; have := HLa.out; omega))
      go_wp2_with fail
      refine (qis_any _ p B r' R' [43] true HI HPa.out).mono ?_
      rintro e _ ⟨rfl, m, rfl⟩
      have HPb := Lib.hid (HPa.out.drewN m)
      have HMb := Lib.hid (HMa.out.trans (moves_drew m))
      have HSb := Lib.hid (HSa.out.moves (moves_drew (M := MineQ p R') m))
      have HEb := Lib.hid (HEa.out.moves ((moves_drew (M := MineQ p R') m).or _))
      have HZb := Lib.hid (HZa.out.moves (moves_drew (M := MineQ p R') m))
      generalize wa.drewN m = wc0 at *
      clear HPa HMa HSa HEa HZa
      have HPa := HPb
      have HMa := HMb
      have HSa := HSb
      have HEa := HEb
      have HZa := HZb
      clear HPb HMb HSb HEb HZb
      go_wp2_with fail
      refine (qis_any _ p B r' R' [45] false HI2 HPa.out).mono ?_
      rintro e _ ⟨rfl, m, rfl⟩
      have HPb := Lib.hid (HPa.out.drewN m)
      have HMb := Lib.hid (HMa.out.trans (moves_drew m))
      have HSb := Lib.hid (HSa.out.moves (moves_drew (M := MineQ p R') m))
      have HEb := Lib.hid (HEa.out.moves ((moves_drew (M := MineQ p R') m).or _))
      have HZb := Lib.hid (HZa.out.moves (moves_drew (M := MineQ p R') m))
      generalize wc0.drewN m = wc1 at *
      clear HPa HMa HSa HEa HZa
      have HPa := HPb
      have HMa := HMb
      have HSa := HSb
      have HEa := HEb
      have HZa := HZb
      clear HPb HMb HSb HEb HZb
      have x1 := HPa.out.x1
      have hf1 := HPa.out.blk.frozen 1
      have hfew := HPa.out.few
      have hpos := HPa.out.good.last.pos
      go_wp2_with fail
      have HP2 := Lib.hid (HPa.out.set1 HK4.out)
      have hmv : ∀ {N : Nat → Prop}, N p → Moves wc1 N (wc1.setCell ⟨p, 1, none⟩ (.int .i64 ((R'.I : Int) + 1))) N := fun h => Moves.set h
      have HM2 := Lib.hid (HMa.out.trans (hmv (.inl rfl)))
      have HS2 := Lib.hid (HSa.out.moves (hmv (N := MineQ p R') (.inl rfl)))
      have HE2 := Lib.hid (HEa.out.moves (hmv (N := Or (MineQ p R') (ChX w g g0)) (.inl (.inl rfl))))
      have HZ2 := Lib.hid (HZa.out.moves (hmv (N := MineQ p R') (.inl rfl)))
      clear x1 hf1 hfew hpos HPa HMa HSa HEa HZa hmv
      generalize wc1.setCell ⟨p, 1, none⟩ (.int .i64 ((R'.I : Int) + 1)) = w2 at *
      obtain ⟨R2, hR2⟩ : ∃ X, X = { R' with I := R'.I + 1 } := ⟨_, rfl⟩
      rw [← hR2] at HP2
      have HMQ : Hid (MineQ p R' = MineQ p R2) := Lib.hid (by rw [hR2]; rfl)
      rw [HMQ.out] at HM2 HS2 HE2 HZ2
      clear hR2
      obtain ⟨A1, c1, f1, hcs, _⟩ := HE2.out.open
      have hps := x'.node_pos
      subst hcs
      unfold eheadR at HS2
      generalize x'.parts.length = xm at *
      generalize HY : x'.node = y at *
      obtain ⟨yk, yp, yt, yn, yks⟩ := y
      simp only at hps HS2
      subst hps
      apply wp_region_one 7 5 (fun w' => Blk w' g 164 #[.int .u8 (yk : Int), .int .i64 (x'.pos : Int), .string (bstr yt), .int .i64 yn, .slice A1 xm c1]) (fun _ _ h hx => Blk.ext h hx) (by kernel_rfl) (by kernel_rfl) (by kernel_rfl) (by decide)
      dsimp only [List.take_succ_cons, List.take_zero, List.drop_succ_cons, List.drop_zero]
      apply oneO_det (.int .u8 23) rfl rfl
      · intro w' hw'
        clear hw'
        simp [YieldsF, go_sem]
      apply oneO_det (.pointer (some ⟨g, 1, none⟩)) rfl rfl
      · intro w' hw'
        clear hw'
        simp [YieldsF, go_sem]
      simp only [Act.put, List.setIfInBounds_toArray, List.set_cons_succ, List.set_cons_zero]
      apply oneO_det (.int .i64 (x'.pos : Int)) rfl rfl
      · intro w' hw'
        have bb : Blk w' g 164 #[.int .u8 (yk : Int), .int .i64 (x'.pos : Int), .string (bstr yt), .int .i64 yn, .slice A1 xm c1] := by rcases hw' with rfl | h; exact (HS2.out.1.ext (Below.drew (Below.refl _ _))); exact h
        have e1 := bb.cell 1
        simp only [List.getElem?_toArray, List.getElem?_cons_zero, List.getElem?_cons_succ] at e1
        clear hw' bb
        simp [YieldsF, go_sem, e1]
      simp only [Act.put, List.setIfInBounds_toArray, List.set_cons_succ, List.set_cons_zero]
      apply oneO_det (.agg #[.int .u8 (yk : Int), .int .i64 (x'.pos : Int), .string (bstr yt), .int .i64 yn, .slice A1 xm c1]) rfl rfl
      · intro w' hw'
        have bb : Blk w' g 164 #[.int .u8 (yk : Int), .int .i64 (x'.pos : Int), .string (bstr yt), .int .i64 yn, .slice A1 xm c1] := by rcases hw' with rfl | h; exact (HS2.out.1.ext (Below.drew (Below.refl _ _))); exact h
        have e0 := bb.cell 0
        have e1 := bb.cell 1
        have e2 := bb.cell 2
        have e3 := bb.cell 3
        have e4 := bb.cell 4
        simp only [List.getElem?_toArray, List.getElem?_cons_zero, List.getElem?_cons_succ] at e0 e1 e2 e3 e4
        clear hw' bb
        simp [YieldsF, go_sem, e0, e1, e2, e3, e4]
      apply oneO_det (.pointer (some ⟨p, 0, none⟩)) rfl rfl
      · intro w' hw'
        clear hw'
        simp [YieldsF, go_sem]
      simp only [Act.put, List.setIfInBounds_toArray, List.set_cons_succ, List.set_cons_zero]
      apply oneO_fact (FE w2.drew p B R2 (part r'.adv)) rfl FE.ext rfl rfl
      · simp [YieldsF, go_sem]
        refine (HPA.out w2.drew p B r'.adv R2 (HP2.out.ext (Below.drew (Below.refl _ _))) (by have := HLN.out; have := HLa.out; omega)).mono ?_
        rintro e w3 ⟨cs3, R3, rfl, hq, hm, he⟩
        exact ⟨_, rfl, ⟨cs3, R3, rfl, hq, hm, he⟩, ((HS2.out.moves (Moves.ext (M := MineQ p R2) (Below.drew (Below.refl _ _)))).moves hm).1⟩
      intro v19
      simp only [Act.put, List.setIfInBounds_toArray, List.set_cons_succ, List.set_cons_zero]
      apply oneO_more (FB w2.drew p B R2 (part r'.adv) (eheadR ⟨yk, x'.pos, yt, yn, yks⟩ A1 xm c1)) (by decide) FB.ext rfl rfl rfl
      · intro w' hw' hH
        obtain ⟨cs3, R3, rfl, hq3, hm3, he3⟩ := hH _ (List.mem_cons_self ..) ⟨_, rfl, by decide⟩
        clear hH hw'
        obtain ⟨A3, c3, f3, hcs3, _⟩ := he3.open
        have HQ3 := Lib.hid hq3
        have HM3 := Lib.hid hm3
        have HE3 := Lib.hid he3
        clear hq3 hm3 he3
        subst hcs3
        have HSZ : Hid (w2.drew.heap.size ≤ w'.heap.size) := Lib.hid HM3.out.size
        unfold eheadR
        unfold eheadR at HE3
        generalize (part r'.adv).1.parts.length = rm at *
        generalize HYR : (part r'.adv).1.node = yr at *
        obtain ⟨rk, rp, rt, rn, rks⟩ := yr
        simp only at HE3 ⊢
        clear HYR
        simp [YieldsF, go_sem]
        exact ⟨⟨_, R3, _, rfl, HQ3.out.ext (Ext.alloc _ _), HM3.out.trans (Moves.ext (Ext.alloc _ _)), HE3.out.moves (Moves.ext (Ext.alloc _ _)), HQ3.out.fresh 164 _, HSZ.out⟩, Ext.alloc _ _⟩
      intro v20
      simp only [Act.put, List.setIfInBounds_toArray, List.set_cons_succ, List.set_cons_zero]
      apply WalkO_nil
      intro w3 hw3 hH
      obtain ⟨cs3, R3, gb, rfl, hq3, hm3, he3, hb3, hgb⟩ := hH _ (List.mem_cons_self ..)
      clear hH hw3
      have HB3 := Lib.hid hb3
      have HGB := Lib.hid hgb
      have hmd : Moves w2 (MineQ p R2) w3 (MineQ p R3) := (Moves.ext (M := MineQ p R2) (Below.drew (Below.refl _ _))).trans hm3
      have HMD := Lib.hid hmd
      have HP3 := Lib.hid hq3
      have HM3 := Lib.hid (HM2.out.trans hmd)
      have HS3 := Lib.hid (HS2.out.moves hmd)
      have HE3 := Lib.hid (HE2.out.moves (hmd.or _))
      have HZ3 := Lib.hid (HZ2.out.moves hmd)
      have HWD : Hid (w2.drew.heap.size = w2.heap.size) := Lib.hid rfl
      have HR3 : Hid (EY w3 (Or (MineQ p R3) (ChX w g g0)) (part r'.adv).1 cs3) := Lib.hid (he3.weaken fun b hb h => by
        rcases h with h | h
        · exact .inl h
        · refine .inr ?_
          have h1 := HM2.out.size
          have h2 := HS2.out.1.lt
          have h3 := HZ2.out.1.lt
          have h4 := HWD.out
          unfold under
          rcases h with h | h | h
          · unfold under at h; omega
          · omega
          · omega)
      have HL3 : Hid ((part r'.adv).2.s.ts.length ≤ f ∧ (part r'.adv).2.s.ts.length < r'.s.ts.length) := Lib.hid (by have h1 := HKP.out.ts; have h2 := HLN.out; have h3 := HLa.out; omega)
      obtain ⟨y3, hy3⟩ : ∃ y, part r'.adv = y := ⟨_, rfl⟩
      rw [hy3] at HR3 HP3 HQ2 HL3
      obtain ⟨x3, r3⟩ := y3
      simp only at HR3 HP3 HQ2 HL3
      clear hy3 he3 hq3 hm3 hmd HKP
      clear hb3 hgb
      go_wp2_with (refine wpList_put rfl 164 (.tmp 3) (.tmp 29) rfl g #[.int .u8 23, .int .i64 (x'.pos : Int), .string ⟨#[]⟩, .int .i64 0, .slice (some ⟨gb, 0, none⟩) 2 2] (by rfl) (by rfl) 164 _ HS3.out.1 (by kernel_rfl) rfl rfl ?_; intro w6 ht6 hb6)
      have HGN : Hid (gb ≠ g ∧ gb ≠ g0 ∧ w.heap.size ≤ gb) := Lib.hid (by
        have h1 := HS2.out.1.lt
        have h2 := HZ2.out.1.lt
        have h3 := HM2.out.size
        have h4 := HGB.out
        have h5 := HWD.out
        omega)
      have HP6 := Lib.hid (ht6.qs HP3.out (Nat.le_trans HBD.out.2.2.2 HBD.out.1) HS3.out.2)
      have HM6 := Lib.hid (HM3.out.touch ht6 HBD.out.1)
      have HN6 : Hid (Moves w3 (Or (MineQ p R3) (ChX w g g0)) w6 (Or (MineQ p R3) (ChX w g g0))) := Lib.hid (ht6.moves (.inr (.inr (.inl rfl))))
      have HS6 : Hid (Safe w6 (Or (MineQ p R3) (ChX w g g0)) gb 164 (eheadR ⟨yk, x'.pos, yt, yn, yks⟩ A1 xm c1 ++ cs3).toArray) := Lib.hid (by
        have hs : Safe _ (Or (MineQ p R3) (ChX w g g0)) gb 164 _ := ⟨HB3.out.1, fun h => by
          have hg := HGN.out
          rcases h with h | h | h | h
          · exact HB3.out.2 h
          · unfold under at h; omega
          · omega
          · omega⟩
        exact ht6.safe hs HGN.out.1)
      have HZ6 := Lib.hid (ht6.safe HZ3.out (Ne.symm HBD.out.2.2.1))
      have HB6 := Lib.hid hb6
      have HX6 : Hid (EY w6 (Or (MineQ p R3) (ChX w g g0)) (.bin 23 x'.pos x' x3) (eheadR ⟨23, x'.pos, [], 0, []⟩ (some ⟨gb, 0, none⟩) 2 2)) := Lib.hid ⟨_, _, _, rfl, HS6.out, HE3.out.moves HN6.out, HR3.out.moves HN6.out⟩
      have HF6 : Hid (r3.s.ts.length ≤ f ∧ r3.s.ts.length < f'') := Lib.hid (by have := HLa.out; have := HL3.out; omega)
      have HJ6 : Hid (ChQ w p B R g g0 f (chainR plusM part) (chainsR plusM part r) w6) := Lib.hid ⟨r3, R3, _, _, f'', HP6, HM6, HF6, HQ2, Lib.hid ⟨HB6.out, HS3.out.2⟩, HX6, HZ6⟩
      have HLL : Hid (lenQ p w6 < r'.s.ts.length) := Lib.hid (by rw [HP6.out.lenQ]; exact HL3.out.2)
      clear ht6 hb6
      go_wp2_with fail
      dsimp only [Act.put]
      go_roundw
      case rel => exact HJ6.out
      case measure => rw [HLM.out]; exact HLL.out
      · kernel_rfl
      · kernel_rfl
    | false =>
      have HI := Lib.hid hi
      clear hi
      cases hi : r'.is [45] with
      | true =>
        have HI2 := Lib.hid hi
        clear hi
        have HMK : Hid (markR plusM r' = some 24) := Lib.hid (by unfold markR plusM; simp [List.find?_cons, HI.out, HI2.out])
        have HK4 : Hid (r'.s.hd.kind ≠ 4) := Lib.hid (ris_kind HI2.out).1
        have HQ2 : Hid (chainsR plusM part r = chainR plusM part f'' (.bin 24 x'.pos x' (part r'.adv).1) (part r'.adv).2) := Lib.hid (by rw [HEQ.out, chainR_some HMK.out])
        have HLN : Hid (r'.adv.s.ts.length < r'.s.ts.length) := Lib.hid (HPa.out.good.last.len HK4.out)
        have HKP := Lib.hid (HKE.out r'.adv (rl_adv HPa.out.good HK4.out).good (by have := HLN.out; have := HLa.out; omega))
        go_wp2_with fail
        refine (qis_any _ p B r' R' [43] false HI HPa.out).mono ?_
        rintro e _ ⟨rfl, m, rfl⟩
        have HPb := Lib.hid (HPa.out.drewN m)
        have HMb := Lib.hid (HMa.out.trans (moves_drew m))
        have HSb := Lib.hid (HSa.out.moves (moves_drew (M := MineQ p R') m))
        have HEb := Lib.hid (HEa.out.moves ((moves_drew (M := MineQ p R') m).or _))
        have HZb := Lib.hid (HZa.out.moves (moves_drew (M := MineQ p R') m))
        generalize wa.drewN m = wc0 at *
        clear HPa HMa HSa HEa HZa
        have HPa := HPb
        have HMa := HMb
        have HSa := HSb
        have HEa := HEb
        have HZa := HZb
        clear HPb HMb HSb HEb HZb
        go_wp2_with fail
        refine (qis_any _ p B r' R' [45] true HI2 HPa.out).mono ?_
        rintro e _ ⟨rfl, m, rfl⟩
        have HPb := Lib.hid (HPa.out.drewN m)
        have HMb := Lib.hid (HMa.out.trans (moves_drew m))
        have HSb := Lib.hid (HSa.out.moves (moves_drew (M := MineQ p R') m))
        have HEb := Lib.hid (HEa.out.moves ((moves_drew (M := MineQ p R') m).or _))
        have HZb := Lib.hid (HZa.out.moves (moves_drew (M := MineQ p R') m))
        generalize wc0.drewN m = wc1 at *
        clear HPa HMa HSa HEa HZa
        have HPa := HPb
        have HMa := HMb
        have HSa := HSb
        have HEa := HEb
        have HZa := HZb
        clear HPb HMb HSb HEb HZb
        go_wp2_with fail
        refine (qis_any _ p B r' R' [45] true HI2 HPa.out).mono ?_
        rintro e _ ⟨rfl, m, rfl⟩
        have HPb := Lib.hid (HPa.out.drewN m)
        have HMb := Lib.hid (HMa.out.trans (moves_drew m))
        have HSb := Lib.hid (HSa.out.moves (moves_drew (M := MineQ p R') m))
        have HEb := Lib.hid (HEa.out.moves ((moves_drew (M := MineQ p R') m).or _))
        have HZb := Lib.hid (HZa.out.moves (moves_drew (M := MineQ p R') m))
        generalize wc1.drewN m = wc2 at *
        clear HPa HMa HSa HEa HZa
        have HPa := HPb
        have HMa := HMb
        have HSa := HSb
        have HEa := HEb
        have HZa := HZb
        clear HPb HMb HSb HEb HZb
        have x1 := HPa.out.x1
        have hf1 := HPa.out.blk.frozen 1
        have hfew := HPa.out.few
        have hpos := HPa.out.good.last.pos
        go_wp2_with fail
        have HP2 := Lib.hid (HPa.out.set1 HK4.out)
        have hmv : ∀ {N : Nat → Prop}, N p → Moves wc2 N (wc2.setCell ⟨p, 1, none⟩ (.int .i64 ((R'.I : Int) + 1))) N := fun h => Moves.set h
        have HM2 := Lib.hid (HMa.out.trans (hmv (.inl rfl)))
        have HS2 := Lib.hid (HSa.out.moves (hmv (N := MineQ p R') (.inl rfl)))
        have HE2 := Lib.hid (HEa.out.moves (hmv (N := Or (MineQ p R') (ChX w g g0)) (.inl (.inl rfl))))
        have HZ2 := Lib.hid (HZa.out.moves (hmv (N := MineQ p R') (.inl rfl)))
        clear x1 hf1 hfew hpos HPa HMa HSa HEa HZa hmv
        generalize wc2.setCell ⟨p, 1, none⟩ (.int .i64 ((R'.I : Int) + 1)) = w2 at *
        obtain ⟨R2, hR2⟩ : ∃ X, X = { R' with I := R'.I + 1 } := ⟨_, rfl⟩
        rw [← hR2] at HP2
        have HMQ : Hid (MineQ p R' = MineQ p R2) := Lib.hid (by rw [hR2]; rfl)
        rw [HMQ.out] at HM2 HS2 HE2 HZ2
        clear hR2
        obtain ⟨A1, c1, f1, hcs, _⟩ := HE2.out.open
        have hps := x'.node_pos
        subst hcs
        unfold eheadR at HS2
        generalize x'.parts.length = xm at *
        generalize HY : x'.node = y at *
        obtain ⟨yk, yp, yt, yn, yks⟩ := y
        simp only at hps HS2
        subst hps
        apply wp_region_one 7 5 (fun w' => Blk w' g 164 #[.int .u8 (yk : Int), .int .i64 (x'.pos : Int), .string (bstr yt), .int .i64 yn, .slice A1 xm c1]) (fun _ _ h hx => Blk.ext h hx) (by kernel_rfl) (by kernel_rfl) (by kernel_rfl) (by decide)
        dsimp only [List.take_succ_cons, List.take_zero, List.drop_succ_cons, List.drop_zero]
        apply oneO_det (.int .u8 24) rfl rfl
        · intro w' hw'
          clear hw'
          simp [YieldsF, go_sem]
        apply oneO_det (.pointer (some ⟨g, 1, none⟩)) rfl rfl
        · intro w' hw'
          clear hw'
          simp [YieldsF, go_sem]
        simp only [Act.put, List.setIfInBounds_toArray, List.set_cons_succ, List.set_cons_zero]
        apply oneO_det (.int .i64 (x'.pos : Int)) rfl rfl
        · intro w' hw'
          have bb : Blk w' g 164 #[.int .u8 (yk : Int), .int .i64 (x'.pos : Int), .string (bstr yt), .int .i64 yn, .slice A1 xm c1] := by rcases hw' with rfl | h; exact (HS2.out.1.ext (Below.drew (Below.refl _ _))); exact h
          have e1 := bb.cell 1
          simp only [List.getElem?_toArray, List.getElem?_cons_zero, List.getElem?_cons_succ] at e1
          clear hw' bb
          simp [YieldsF, go_sem, e1]
        simp only [Act.put, List.setIfInBounds_toArray, List.set_cons_succ, List.set_cons_zero]
        apply oneO_det (.agg #[.int .u8 (yk : Int), .int .i64 (x'.pos : Int), .string (bstr yt), .int .i64 yn, .slice A1 xm c1]) rfl rfl
        · intro w' hw'
          have bb : Blk w' g 164 #[.int .u8 (yk : Int), .int .i64 (x'.pos : Int), .string (bstr yt), .int .i64 yn, .slice A1 xm c1] := by rcases hw' with rfl | h; exact (HS2.out.1.ext (Below.drew (Below.refl _ _))); exact h
          have e0 := bb.cell 0
          have e1 := bb.cell 1
          have e2 := bb.cell 2
          have e3 := bb.cell 3
          have e4 := bb.cell 4
          simp only [List.getElem?_toArray, List.getElem?_cons_zero, List.getElem?_cons_succ] at e0 e1 e2 e3 e4
          clear hw' bb
          simp [YieldsF, go_sem, e0, e1, e2, e3, e4]
        apply oneO_det (.pointer (some ⟨p, 0, none⟩)) rfl rfl
        · intro w' hw'
          clear hw'
          simp [YieldsF, go_sem]
        simp only [Act.put, List.setIfInBounds_toArray, List.set_cons_succ, List.set_cons_zero]
        apply oneO_fact (FE w2.drew p B R2 (part r'.adv)) rfl FE.ext rfl rfl
        · simp [YieldsF, go_sem]
          refine (HPA.out w2.drew p B r'.adv R2 (HP2.out.ext (Below.drew (Below.refl _ _))) (by have := HLN.out; have := HLa.out; omega)).mono ?_
          rintro e w3 ⟨cs3, R3, rfl, hq, hm, he⟩
          exact ⟨_, rfl, ⟨cs3, R3, rfl, hq, hm, he⟩, ((HS2.out.moves (Moves.ext (M := MineQ p R2) (Below.drew (Below.refl _ _)))).moves hm).1⟩
        intro v19
        simp only [Act.put, List.setIfInBounds_toArray, List.set_cons_succ, List.set_cons_zero]
        apply oneO_more (FB w2.drew p B R2 (part r'.adv) (eheadR ⟨yk, x'.pos, yt, yn, yks⟩ A1 xm c1)) (by decide) FB.ext rfl rfl rfl
        · intro w' hw' hH
          obtain ⟨cs3, R3, rfl, hq3, hm3, he3⟩ := hH _ (List.mem_cons_self ..) ⟨_, rfl, by decide⟩
          clear hH hw'
          obtain ⟨A3, c3, f3, hcs3, _⟩ := he3.open
          have HQ3 := Lib.hid hq3
          have HM3 := Lib.hid hm3
          have HE3 := Lib.hid he3
          clear hq3 hm3 he3
          subst hcs3
          have HSZ : Hid (w2.drew.heap.size ≤ w'.heap.size) := Lib.hid HM3.out.size
          unfold eheadR
          unfold eheadR at HE3
          generalize (part r'.adv).1.parts.length = rm at *
          generalize HYR : (part r'.adv).1.node = yr at *
          obtain ⟨rk, rp, rt, rn, rks⟩ := yr
          simp only at HE3 ⊢
          clear HYR
          simp [YieldsF, go_sem]
          exact ⟨⟨_, R3, _, rfl, HQ3.out.ext (Ext.alloc _ _), HM3.out.trans (Moves.ext (Ext.alloc _ _)), HE3.out.moves (Moves.ext (Ext.alloc _ _)), HQ3.out.fresh 164 _, HSZ.out⟩, Ext.alloc _ _⟩
        intro v20
        simp only [Act.put, List.setIfInBounds_toArray, List.set_cons_succ, List.set_cons_zero]
        apply WalkO_nil
        intro w3 hw3 hH
        obtain ⟨cs3, R3, gb, rfl, hq3, hm3, he3, hb3, hgb⟩ := hH _ (List.mem_cons_self ..)
        clear hH hw3
        have HB3 := Lib.hid hb3
        have HGB := Lib.hid hgb
        have hmd : Moves w2 (MineQ p R2) w3 (MineQ p R3) := (Moves.ext (M := MineQ p R2) (Below.drew (Below.refl _ _))).trans hm3
        have HMD := Lib.hid hmd
        have HP3 := Lib.hid hq3
        have HM3 := Lib.hid (HM2.out.trans hmd)
        have HS3 := Lib.hid (HS2.out.moves hmd)
        have HE3 := Lib.hid (HE2.out.moves (hmd.or _))
        have HZ3 := Lib.hid (HZ2.out.moves hmd)
        have HWD : Hid (w2.drew.heap.size = w2.heap.size) := Lib.hid rfl
        have HR3 : Hid (EY w3 (Or (MineQ p R3) (ChX w g g0)) (part r'.adv).1 cs3) := Lib.hid (he3.weaken fun b hb h => by
          rcases h with h | h
          · exact .inl h
          · refine .inr ?_
            have h1 := HM2.out.size
            have h2 := HS2.out.1.lt
            have h3 := HZ2.out.1.lt
            have h4 := HWD.out
            unfold under
            rcases h with h | h | h
            · unfold under at h; omega
            · omega
            · omega)
        have HL3 : Hid ((part r'.adv).2.s.ts.length ≤ f ∧ (part r'.adv).2.s.ts.length < r'.s.ts.length) := Lib.hid (by have h1 := HKP.out.ts; have h2 := HLN.out; have h3 := HLa.out; omega)
        obtain ⟨y3, hy3⟩ : ∃ y, part r'.adv = y := ⟨_, rfl⟩
        rw [hy3] at HR3 HP3 HQ2 HL3
        obtain ⟨x3, r3⟩ := y3
        simp only at HR3 HP3 HQ2 HL3
        clear hy3 he3 hq3 hm3 hmd HKP
        clear hb3 hgb
        go_wp2_with (refine wpList_put rfl 164 (.tmp 3) (.tmp 29) rfl g #[.int .u8 24, .int .i64 (x'.pos : Int), .string ⟨#[]⟩, .int .i64 0, .slice (some ⟨gb, 0, none⟩) 2 2] (by rfl) (by rfl) 164 _ HS3.out.1 (by kernel_rfl) rfl rfl ?_; intro w6 ht6 hb6)
        have HGN : Hid (gb ≠ g ∧ gb ≠ g0 ∧ w.heap.size ≤ gb) := Lib.hid (by
          have h1 := HS2.out.1.lt
          have h2 := HZ2.out.1.lt
          have h3 := HM2.out.size
          have h4 := HGB.out
          have h5 := HWD.out
          omega)
        have HP6 := Lib.hid (ht6.qs HP3.out (Nat.le_trans HBD.out.2.2.2 HBD.out.1) HS3.out.2)
        have HM6 := Lib.hid (HM3.out.touch ht6 HBD.out.1)
        have HN6 : Hid (Moves w3 (Or (MineQ p R3) (ChX w g g0)) w6 (Or (MineQ p R3) (ChX w g g0))) := Lib.hid (ht6.moves (.inr (.inr (.inl rfl))))
        have HS6 : Hid (Safe w6 (Or (MineQ p R3) (ChX w g g0)) gb 164 (eheadR ⟨yk, x'.pos, yt, yn, yks⟩ A1 xm c1 ++ cs3).toArray) := Lib.hid (by
          have hs : Safe _ (Or (MineQ p R3) (ChX w g g0)) gb 164 _ := ⟨HB3.out.1, fun h => by
            have hg := HGN.out
            rcases h with h | h | h | h
            · exact HB3.out.2 h
            · unfold under at h; omega
            · omega
            · omega⟩
          exact ht6.safe hs HGN.out.1)
        have HZ6 := Lib.hid (ht6.safe HZ3.out (Ne.symm HBD.out.2.2.1))
        have HB6 := Lib.hid hb6
        have HX6 : Hid (EY w6 (Or (MineQ p R3) (ChX w g g0)) (.bin 24 x'.pos x' x3) (eheadR ⟨24, x'.pos, [], 0, []⟩ (some ⟨gb, 0, none⟩) 2 2)) := Lib.hid ⟨_, _, _, rfl, HS6.out, HE3.out.moves HN6.out, HR3.out.moves HN6.out⟩
        have HF6 : Hid (r3.s.ts.length ≤ f ∧ r3.s.ts.length < f'') := Lib.hid (by have := HLa.out; have := HL3.out; omega)
        have HJ6 : Hid (ChQ w p B R g g0 f (chainR plusM part) (chainsR plusM part r) w6) := Lib.hid ⟨r3, R3, _, _, f'', HP6, HM6, HF6, HQ2, Lib.hid ⟨HB6.out, HS3.out.2⟩, HX6, HZ6⟩
        have HLL : Hid (lenQ p w6 < r'.s.ts.length) := Lib.hid (by rw [HP6.out.lenQ]; exact HL3.out.2)
        clear ht6 hb6
        go_wp2_with fail
        dsimp only [Act.put]
        go_roundw
        case rel => exact HJ6.out
        case measure => rw [HLM.out]; exact HLL.out
        · kernel_rfl
        · kernel_rfl
      | false =>
        have HI2 := Lib.hid hi
        clear hi
        have HRES : Hid (chainsR plusM part r = (x', r')) := Lib.hid (by rw [HEQ.out, chainR_none (by unfold markR plusM; simp [List.find?_cons, HI.out, HI2.out])])
        go_wp2_with fail
        refine (qis_any _ p B r' R' [43] false HI HPa.out).mono ?_
        rintro e _ ⟨rfl, m, rfl⟩
        have HPb := Lib.hid (HPa.out.drewN m)
        have HMb := Lib.hid (HMa.out.trans (moves_drew m))
        have HSb := Lib.hid (HSa.out.moves (moves_drew (M := MineQ p R') m))
        have HEb := Lib.hid (HEa.out.moves ((moves_drew (M := MineQ p R') m).or _))
        have HZb := Lib.hid (HZa.out.moves (moves_drew (M := MineQ p R') m))
        generalize wa.drewN m = wn0 at *
        clear HPa HMa HSa HEa HZa
        have HPa := HPb
        have HMa := HMb
        have HSa := HSb
        have HEa := HEb
        have HZa := HZb
        clear HPb HMb HSb HEb HZb
        go_wp2_with fail
        refine (qis_any _ p B r' R' [45] false HI2 HPa.out).mono ?_
        rintro e _ ⟨rfl, m, rfl⟩
        have HPb := Lib.hid (HPa.out.drewN m)
        have HMb := Lib.hid (HMa.out.trans (moves_drew m))
        have HSb := Lib.hid (HSa.out.moves (moves_drew (M := MineQ p R') m))
        have HEb := Lib.hid (HEa.out.moves ((moves_drew (M := MineQ p R') m).or _))
        have HZb := Lib.hid (HZa.out.moves (moves_drew (M := MineQ p R') m))
        generalize wn0.drewN m = wn1 at *
        clear HPa HMa HSa HEa HZa
        have HPa := HPb
        have HMa := HMb
        have HSa := HSb
        have HEa := HEb
        have HZa := HZb
        clear HPb HMb HSb HEb HZb
        obtain ⟨A1, c1, f1, hcs, _⟩ := HEa.out.open
        have ee0 := HSa.out.1.cell 0
        have ee1 := HSa.out.1.cell 1
        have ee2 := HSa.out.1.cell 2
        have ee3 := HSa.out.1.cell 3
        have ee4 := HSa.out.1.cell 4
        subst hcs
        simp only [eheadR, List.getElem?_toArray, List.getElem?_cons_zero, List.getElem?_cons_succ] at ee0 ee1 ee2 ee3 ee4
        generalize x'.parts.length = xm at *
        generalize HY : x'.node = y at *
        obtain ⟨yk, yp, yt, yn, yks⟩ := y
        simp only at ee0 ee1 ee2 ee3 ee4
        go_wp2_with (refine wpList_put rfl 164 (.tmp 2) (.tmp 30) rfl g0 #[.int .u8 (yk : Int), .int .i64 (yp : Int), .string (bstr yt), .int .i64 yn, .slice A1 xm c1] (by rfl) (by rfl) 164 _ HZa.out.1 (by kernel_rfl) rfl rfl ?_; intro w6 ht6 hb6)
        have HN6 : Hid (Moves wn1 (Or (MineQ p R') (ChX w g g0)) w6 (Or (MineQ p R') (ChX w g g0))) := Lib.hid (ht6.moves (.inr (.inr (.inr rfl))))
        have HF6 : Hid (PostEQ w p B R (chainsR plusM part r) (.returned (.agg (eheadR ⟨yk, yp, yt, yn, yks⟩ A1 xm c1).toArray)) w6) := Lib.hid (by
          rw [HRES.out]
          exact ⟨_, R', rfl, ht6.qs HPa.out (Nat.le_trans HBD.out.2.2.2 HBD.out.2.1) HZa.out.2, HMa.out.touch ht6 HBD.out.2.1, (HEa.out.moves HN6.out).weaken (fun b hb h => by
            rcases h with h | h
            · exact .inl h
            · exact .inr (.inl h))⟩)
        have HB6 := Lib.hid hb6
        clear ht6 hb6
        go_wp2_with fail
        exact ret_row g0 164 _ _ Tryz.results122 rfl rfl HB6.out Tryz.underlying164 rfl (by kernel_rfl) HF6.out
end Go.Proofs.YtcccnicldbpieaaGreatDoor
namespace Go.Proofs.YtcccnicldbpieaaGreatDoor
open Go Go.RowKit
set_option linter.unusedVariables false
set_option linter.unusedSimpArgs false
structure FacS (w W : World) (p B : Nat) (R : QRep) (r' : Rs) (R' : QRep) (g0 gt g : Nat) (tok : Tok) (cs : List Value) : Prop where
  qs : QS W p B r' R'
  mv : Moves w (MineQ p R) W (MineQ p R')
  z : Safe W (MineQ p R') g0 164 eyzero
  t : Safe W (MineQ p R') gt 67 (kcell tok).toArray
  e : Safe W (MineQ p R') g 164 cs.toArray
  low : w.heap.size ≤ g0 ∧ w.heap.size ≤ g ∧ g ≠ g0 ∧ g ≠ gt ∧ B ≤ w.heap.size
theorem FacS.step {w W W' : World} {p B : Nat} {R R' R'' : QRep} {r' r'' : Rs} {g0 gt g : Nat} {tok : Tok} {cs : List Value} (h : Hid (FacS w W p B R r' R' g0 gt g tok cs)) (hp : QS W' p B r'' R'' ∧ Moves W (MineQ p R') W' (MineQ p R'')) : Hid (FacS w W' p B R r'' R'' g0 gt g tok cs) :=
  Lib.hid ⟨hp.1, h.out.mv.trans hp.2, h.out.z.moves hp.2, h.out.t.moves hp.2, h.out.e.moves hp.2, h.out.low⟩
theorem FacS.touch {w W W' : World} {p B : Nat} {R R' : QRep} {r' : Rs} {g0 gt g : Nat} {tok : Tok} {cs cs' : List Value} (h : Hid (FacS w W p B R r' R' g0 gt g tok cs)) (ht : Touch g W W') (hb : Blk W' g 164 cs'.toArray) : Hid (FacS w W' p B R r' R' g0 gt g tok cs') :=
  have l := h.out.low
  Lib.hid ⟨ht.qs h.out.qs (Nat.le_trans l.2.2.2.2 l.2.1) h.out.e.2, h.out.mv.touch ht l.2.1, ht.safe h.out.z (Ne.symm l.2.2.1), ht.safe h.out.t (Ne.symm l.2.2.2.1), ⟨hb, h.out.e.2⟩, l⟩
theorem touch_set (W : World) (g i : Nat) (u : Value) : Touch g W (W.setCell ⟨g, i, none⟩ u) := ⟨rfl, rfl, rfl, by simp [World.setCell], fun b hb => Below.heap_setCell W ⟨g, i, none⟩ u b hb⟩
theorem FacS.set {w W : World} {p B : Nat} {R R' : QRep} {r' : Rs} {g0 gt g : Nat} {tok : Tok} {cs : List Value} (h : Hid (FacS w W p B R r' R' g0 gt g tok cs)) (i : Nat) (u : Value) : Hid (FacS w (W.setCell ⟨g, i, none⟩ u) p B R r' R' g0 gt g tok (cs.set i u)) :=
  FacS.touch h (touch_set W g i u) (by have := h.out.e.1.put i u; simpa using this)
theorem FacS.drew {w W : World} {p B : Nat} {R R' : QRep} {r' : Rs} {g0 gt g : Nat} {tok : Tok} {cs : List Value} (h : Hid (FacS w W p B R r' R' g0 gt g tok cs)) (m : Nat) : Hid (FacS w (W.drewN m) p B R r' R' g0 gt g tok cs) := FacS.step h ⟨h.out.qs.drewN m, moves_drew m⟩
theorem FacS.adv {w W : World} {p B : Nat} {R R' : QRep} {r' : Rs} {g0 gt g : Nat} {tok : Tok} {cs : List Value} (h : Hid (FacS w W p B R r' R' g0 gt g tok cs)) (hk : r'.s.hd.kind ≠ 4) : Hid (FacS w (W.setCell ⟨p, 1, none⟩ (.int .i64 ((R'.I : Int) + 1))) p B R r'.adv { R' with I := R'.I + 1 } g0 gt g tok cs) := FacS.step h ⟨h.out.qs.set1 hk, Moves.set (.inl rfl)⟩
theorem FacS.out {w W : World} {p B : Nat} {R R' : QRep} {r' : Rs} {g0 gt g : Nat} {tok : Tok} {cs : List Value} (h : Hid (FacS w W p B R r' R' g0 gt g tok cs)) {v : Value} (hv : v = .int .i64 ((r'.out.s.deep : Nat) : Int)) : Hid (FacS w (W.setCell ⟨p, 2, none⟩ v) p B R r'.out R' g0 gt g tok cs) := by
  subst hv
  exact FacS.step h ⟨h.out.qs.set2 (r'.s.deep - 1) (rl_out h.out.qs.good).good, Moves.set (.inl rfl)⟩
theorem FacS.post {w W : World} {p B : Nat} {R R' : QRep} {r' : Rs} {g0 gt g : Nat} {tok : Tok} {cs : List Value} {W' : World} {x : Ex} (h : Hid (FacS w W p B R r' R' g0 gt g tok cs)) (ht : Touch g0 W W') (hx : EY W (Or (MineQ p R') (fun b => under w b ∨ b = g0)) x cs) : PostEQ w p B R (x, r') (.returned (.agg cs.toArray)) W' :=
  have l := h.out.low
  ⟨cs, R', rfl, ht.qs h.out.qs (Nat.le_trans l.2.2.2.2 l.1) h.out.z.2, h.out.mv.touch ht l.1, (hx.moves (ht.moves (.inr (.inr rfl)))).weaken fun b hb k => by
    rcases k with k | k
    · exact .inl k
    · exact .inr (.inl k)⟩
theorem facR_err {f : Nat} {r : Rs} (h : r.e ≠ 0) : factorR (f + 1) r = (.leaf 0 r.s.hd.at_ r.s.hd.text 0, r) := by unfold factorR; rw [if_pos h]
theorem facR_1 {f : Nat} {r : Rs} (h : r.e = 0) (h1 : r.s.hd.kind = 1) : factorR (f + 1) r = (.leaf 22 r.s.hd.at_ r.s.hd.text 0, r.adv) := by unfold factorR; rw [if_neg (by simpa using h), if_pos h1]
theorem facR_2 {f : Nat} {r : Rs} (h : r.e = 0) (h1 : r.s.hd.kind = 2) : factorR (f + 1) r = (.leaf 21 r.s.hd.at_ [] r.s.hd.n, r.adv) := by unfold factorR; rw [if_neg (by simpa using h), if_neg (by omega), if_pos h1]
theorem facR_in {f : Nat} {r : Rs} (h : r.e = 0) (h1 : r.s.hd.kind ≠ 1) (h2 : r.s.hd.kind ≠ 2) (h3 : r.is [40] = true) (h4 : r.inn.e = 0) : factorR (f + 1) r = ((chainsR plusM (chainsR starM (factorR f)) r.inn.adv).1, (takeR [41] (chainsR plusM (chainsR starM (factorR f)) r.inn.adv).2).out) := by
  rw [factorR, if_neg (by simpa using h), if_neg h1, if_neg h2, if_pos h3, if_pos h4]
theorem facR_deep {f : Nat} {r : Rs} (h : r.e = 0) (h1 : r.s.hd.kind ≠ 1) (h2 : r.s.hd.kind ≠ 2) (h3 : r.is [40] = true) (h4 : ¬ r.inn.e = 0) : factorR (f + 1) r = (.leaf 0 r.s.hd.at_ r.s.hd.text 0, r.inn.out) := by
  rw [factorR, if_neg (by simpa using h), if_neg h1, if_neg h2, if_pos h3, if_neg h4]
theorem facR_neg {f : Nat} {r : Rs} (h : r.e = 0) (h1 : r.s.hd.kind ≠ 1) (h2 : r.s.hd.kind ≠ 2) (h3 : r.is [40] = false) (h5 : r.is [45] = true) (h4 : r.inn.e = 0) : factorR (f + 1) r = (.neg r.s.hd.at_ (factorR f r.inn.adv).1, (factorR f r.inn.adv).2.out) := by
  rw [factorR, if_neg (by simpa using h), if_neg h1, if_neg h2, if_neg (by rw [h3]; decide), if_pos h5, if_pos h4]
theorem facR_negd {f : Nat} {r : Rs} (h : r.e = 0) (h1 : r.s.hd.kind ≠ 1) (h2 : r.s.hd.kind ≠ 2) (h3 : r.is [40] = false) (h5 : r.is [45] = true) (h4 : ¬ r.inn.e = 0) : factorR (f + 1) r = (.leaf 26 r.s.hd.at_ [] 0, r.inn.out) := by
  rw [factorR, if_neg (by simpa using h), if_neg h1, if_neg h2, if_neg (by rw [h3]; decide), if_pos h5, if_neg h4]
theorem facR_none {f : Nat} {r : Rs} (h : r.e = 0) (h1 : r.s.hd.kind ≠ 1) (h2 : r.s.hd.kind ≠ 2) (h3 : r.is [40] = false) (h5 : r.is [45] = false) : factorR (f + 1) r = (.leaf 0 r.s.hd.at_ r.s.hd.text 0, r.fail 50) := by
  rw [factorR, if_neg (by simpa using h), if_neg h1, if_neg h2, if_neg (by rw [h3]; decide), if_neg (by rw [h5]; decide)]
set_option maxRecDepth 100000 in
set_option maxHeartbeats 8000000 in
theorem qfac_err (f : Nat) (w : World) (p B : Nat) (r : Rs) (R : QRep) (h : QS w p B r R) (hl : r.s.ts.length ≤ f + 1) (he : r.e ≠ 0) :
    Calls Tryz.prog 144 #[.pointer (some ⟨p, 0, none⟩)] w (PostEQ w p B R (factorR (f + 1) r)) := by
  have HP := Lib.hid h
  have HL := Lib.hid hl
  have hpl := h.blk.lt
  have hbl : R.bt < w.heap.size := by have := h.tlow; have := h.pB; omega
  have x0 := h.x0
  have x1 := h.x1
  have qp := h.pos
  have hfew := h.few
  have hpos := h.good.last.pos
  have t0 : w.cell? ⟨R.bt, R.o0 + R.I * 5, none⟩ = some (.int .u8 (r.s.hd.kind : Int)) := h.tok 0 (by decide)
  have t1 : w.cell? ⟨R.bt, R.o0 + R.I * 5 + 1, none⟩ = some (.int .i64 (r.s.hd.at_ : Int)) := h.tok 1 (by decide)
  have t2 : w.cell? ⟨R.bt, R.o0 + R.I * 5 + 2, none⟩ = some (.int .i64 (r.s.hd.en : Int)) := h.tok 2 (by decide)
  have t3 : w.cell? ⟨R.bt, R.o0 + R.I * 5 + 3, none⟩ = some (.string (bstr r.s.hd.text)) := h.tok 3 (by decide)
  have t4 : w.cell? ⟨R.bt, R.o0 + R.I * 5 + 4, none⟩ = some (.int .i64 r.s.hd.n) := h.tok 4 (by decide)
  have HE := Lib.hid he
  have g1 : (r.e != 0) = true := by rw [bne_iff_ne]; exact he
  have g2 : (r.e == 0) = false := beq_eq_false_iff_ne.2 he
  clear h hl
  go_enter Tryz.func144, Tryz.ntmps144
  go_wp2_with fail
  go_region
  clear x0 x1 qp hfew hpos t0 t1 t2 t3 t4
  go_upto_region 4 with fail
  obtain ⟨W, HW⟩ : ∃ W, Hid ((((w.alloc (.cells #[.int .u8 0, .int .i64 0, .string ⟨#[]⟩, .int .i64 0, .slice none 0 0] 164)).alloc (.cells #[.int .u8 (r.s.hd.kind : Int), .int .i64 (r.s.hd.at_ : Int), .int .i64 (r.s.hd.en : Int), .string (bstr r.s.hd.text), .int .i64 r.s.hd.n] 67)).alloc (.cells #[.int .u8 0, .int .i64 (r.s.hd.at_ : Int), .string (bstr r.s.hd.text), .int .i64 0, .slice none 0 0] 164)).drew = W) := ⟨_, Lib.hid rfl⟩
  have HF0 : Hid (FacS w W p B R r R w.heap.size (w.heap.size + 1) (w.heap.size + 1 + 1) r.s.hd [.int .u8 0, .int .i64 (r.s.hd.at_ : Int), .string (bstr r.s.hd.text), .int .i64 0, .slice none 0 0]) := Lib.hid (by
    have h1 := HP.out.ext (Ext.alloc w (.cells eyzero 164))
    have h2 := h1.ext (Ext.alloc _ (.cells (kcell r.s.hd).toArray 67))
    have h3 := h2.ext (Ext.alloc _ (.cells [.int .u8 0, .int .i64 (r.s.hd.at_ : Int), .string (bstr r.s.hd.text), .int .i64 0, .slice none 0 0].toArray 164))
    have hB := HP.out.pB
    have e1 : Ext _ (((w.alloc (.cells eyzero 164)).alloc (.cells (kcell r.s.hd).toArray 67)).alloc (.cells [.int .u8 0, .int .i64 (r.s.hd.at_ : Int), .string (bstr r.s.hd.text), .int .i64 0, .slice none 0 0].toArray 164)) := Ext.alloc _ _
    have hd : Ext _ (((w.alloc (.cells eyzero 164)).alloc (.cells (kcell r.s.hd).toArray 67)).alloc (.cells [.int .u8 0, .int .i64 (r.s.hd.at_ : Int), .string (bstr r.s.hd.text), .int .i64 0, .slice none 0 0].toArray 164)).drew := Below.drew (Below.refl _ _)
    have s0 := ((((HP.out.fresh 164 eyzero).moves (Moves.ext (M := MineQ p R) (Ext.alloc _ (.cells (kcell r.s.hd).toArray 67)))).moves (Moves.ext (M := MineQ p R) e1)).moves (Moves.ext (M := MineQ p R) hd))
    have s1 := (((h1.fresh 67 (kcell r.s.hd).toArray).moves (Moves.ext (M := MineQ p R) e1)).moves (Moves.ext (M := MineQ p R) hd))
    have s2 := ((h2.fresh 164 [.int .u8 0, .int .i64 (r.s.hd.at_ : Int), .string (bstr r.s.hd.text), .int .i64 0, .slice none 0 0].toArray).moves (Moves.ext (M := MineQ p R) hd))
    rw [World.size_alloc] at s1 s2
    rw [World.size_alloc] at s2
    rw [← HW.out]
    exact ⟨h3.ext hd, Moves.ext ((((Ext.alloc _ _).trans (Ext.alloc _ _)).trans e1).trans hd), s0, s1, s2, by omega⟩)
  rw [HW.out]
  obtain ⟨g0, HG0⟩ : ∃ g, Hid (w.heap.size = g) := ⟨_, Lib.hid rfl⟩
  obtain ⟨gt, HGT⟩ : ∃ g, Hid (w.heap.size + 1 = g) := ⟨_, Lib.hid rfl⟩
  obtain ⟨g, HGE⟩ : ∃ g, Hid (w.heap.size + 1 + 1 = g) := ⟨_, Lib.hid rfl⟩
  rw [HGE.out, HGT.out, HG0.out] at HF0
  try rw [HGE.out]
  try rw [HGT.out]
  try rw [HG0.out]
  clear HW HG0 HGT HGE hbl
  have x4 := HF0.out.qs.x4
  go_upto_region 26 with fail
  clear x4
  have ee0 := HF0.out.e.1.cell 0
  have ee1 := HF0.out.e.1.cell 1
  have ee2 := HF0.out.e.1.cell 2
  have ee3 := HF0.out.e.1.cell 3
  have ee4 := HF0.out.e.1.cell 4
  simp only [List.set_cons_zero, List.set_cons_succ, List.getElem?_toArray, List.getElem?_cons_zero, List.getElem?_cons_succ] at ee0 ee1 ee2 ee3 ee4
  go_wp2_with (refine wpList_put rfl 164 (.tmp 2) (.tmp 104) rfl g0 #[.int .u8 0, .int .i64 (r.s.hd.at_ : Int), .string (bstr r.s.hd.text), .int .i64 0, .slice none 0 0] (by rfl) (by rfl) 164 _ HF0.out.z.1 (by kernel_rfl) rfl rfl ?_; intro w6 ht6 hb6)
  have HF6 : Hid (PostEQ w p B R (factorR (f + 1) r) (.returned (.agg #[.int .u8 0, .int .i64 (r.s.hd.at_ : Int), .string (bstr r.s.hd.text), .int .i64 0, .slice none 0 0])) w6) := Lib.hid (by
    rw [facR_err HE.out]
    exact FacS.post HF0 ht6 (rfl))
  have HB6 := Lib.hid hb6
  clear ht6 hb6
  go_wp2_with fail
  exact ret_row g0 164 _ _ Tryz.results144 rfl rfl HB6.out Tryz.underlying164 rfl (by kernel_rfl) HF6.out
set_option maxRecDepth 100000 in
set_option maxHeartbeats 8000000 in
theorem qfac_1 (f : Nat) (w : World) (p B : Nat) (r : Rs) (R : QRep) (h : QS w p B r R) (hl : r.s.ts.length ≤ f + 1) (he : r.e = 0) (hk : r.s.hd.kind = 1) :
    Calls Tryz.prog 144 #[.pointer (some ⟨p, 0, none⟩)] w (PostEQ w p B R (factorR (f + 1) r)) := by
  have HP := Lib.hid h
  have HL := Lib.hid hl
  have hpl := h.blk.lt
  have hbl : R.bt < w.heap.size := by have := h.tlow; have := h.pB; omega
  have x0 := h.x0
  have x1 := h.x1
  have qp := h.pos
  have hfew := h.few
  have hpos := h.good.last.pos
  have t0 : w.cell? ⟨R.bt, R.o0 + R.I * 5, none⟩ = some (.int .u8 (r.s.hd.kind : Int)) := h.tok 0 (by decide)
  have t1 : w.cell? ⟨R.bt, R.o0 + R.I * 5 + 1, none⟩ = some (.int .i64 (r.s.hd.at_ : Int)) := h.tok 1 (by decide)
  have t2 : w.cell? ⟨R.bt, R.o0 + R.I * 5 + 2, none⟩ = some (.int .i64 (r.s.hd.en : Int)) := h.tok 2 (by decide)
  have t3 : w.cell? ⟨R.bt, R.o0 + R.I * 5 + 3, none⟩ = some (.string (bstr r.s.hd.text)) := h.tok 3 (by decide)
  have t4 : w.cell? ⟨R.bt, R.o0 + R.I * 5 + 4, none⟩ = some (.int .i64 r.s.hd.n) := h.tok 4 (by decide)
  have HE := Lib.hid he
  have HK := Lib.hid hk
  clear h hl he hk
  go_enter Tryz.func144, Tryz.ntmps144
  go_wp2_with fail
  go_region
  clear x0 x1 qp hfew hpos t0 t1 t2 t3 t4
  go_upto_region 4 with fail
  obtain ⟨W, HW⟩ : ∃ W, Hid ((((w.alloc (.cells #[.int .u8 0, .int .i64 0, .string ⟨#[]⟩, .int .i64 0, .slice none 0 0] 164)).alloc (.cells #[.int .u8 (r.s.hd.kind : Int), .int .i64 (r.s.hd.at_ : Int), .int .i64 (r.s.hd.en : Int), .string (bstr r.s.hd.text), .int .i64 r.s.hd.n] 67)).alloc (.cells #[.int .u8 0, .int .i64 (r.s.hd.at_ : Int), .string (bstr r.s.hd.text), .int .i64 0, .slice none 0 0] 164)).drew = W) := ⟨_, Lib.hid rfl⟩
  have HF0 : Hid (FacS w W p B R r R w.heap.size (w.heap.size + 1) (w.heap.size + 1 + 1) r.s.hd [.int .u8 0, .int .i64 (r.s.hd.at_ : Int), .string (bstr r.s.hd.text), .int .i64 0, .slice none 0 0]) := Lib.hid (by
    have h1 := HP.out.ext (Ext.alloc w (.cells eyzero 164))
    have h2 := h1.ext (Ext.alloc _ (.cells (kcell r.s.hd).toArray 67))
    have h3 := h2.ext (Ext.alloc _ (.cells [.int .u8 0, .int .i64 (r.s.hd.at_ : Int), .string (bstr r.s.hd.text), .int .i64 0, .slice none 0 0].toArray 164))
    have hB := HP.out.pB
    have e1 : Ext _ (((w.alloc (.cells eyzero 164)).alloc (.cells (kcell r.s.hd).toArray 67)).alloc (.cells [.int .u8 0, .int .i64 (r.s.hd.at_ : Int), .string (bstr r.s.hd.text), .int .i64 0, .slice none 0 0].toArray 164)) := Ext.alloc _ _
    have hd : Ext _ (((w.alloc (.cells eyzero 164)).alloc (.cells (kcell r.s.hd).toArray 67)).alloc (.cells [.int .u8 0, .int .i64 (r.s.hd.at_ : Int), .string (bstr r.s.hd.text), .int .i64 0, .slice none 0 0].toArray 164)).drew := Below.drew (Below.refl _ _)
    have s0 := ((((HP.out.fresh 164 eyzero).moves (Moves.ext (M := MineQ p R) (Ext.alloc _ (.cells (kcell r.s.hd).toArray 67)))).moves (Moves.ext (M := MineQ p R) e1)).moves (Moves.ext (M := MineQ p R) hd))
    have s1 := (((h1.fresh 67 (kcell r.s.hd).toArray).moves (Moves.ext (M := MineQ p R) e1)).moves (Moves.ext (M := MineQ p R) hd))
    have s2 := ((h2.fresh 164 [.int .u8 0, .int .i64 (r.s.hd.at_ : Int), .string (bstr r.s.hd.text), .int .i64 0, .slice none 0 0].toArray).moves (Moves.ext (M := MineQ p R) hd))
    rw [World.size_alloc] at s1 s2
    rw [World.size_alloc] at s2
    rw [← HW.out]
    exact ⟨h3.ext hd, Moves.ext ((((Ext.alloc _ _).trans (Ext.alloc _ _)).trans e1).trans hd), s0, s1, s2, by omega⟩)
  rw [HW.out]
  obtain ⟨g0, HG0⟩ : ∃ g, Hid (w.heap.size = g) := ⟨_, Lib.hid rfl⟩
  obtain ⟨gt, HGT⟩ : ∃ g, Hid (w.heap.size + 1 = g) := ⟨_, Lib.hid rfl⟩
  obtain ⟨g, HGE⟩ : ∃ g, Hid (w.heap.size + 1 + 1 = g) := ⟨_, Lib.hid rfl⟩
  rw [HGE.out, HGT.out, HG0.out] at HF0
  try rw [HGE.out]
  try rw [HGT.out]
  try rw [HG0.out]
  clear HW HG0 HGT HGE hbl
  have x4 := HF0.out.qs.x4
  rw [HE.out] at x4
  have k0 := HF0.out.t.1.cell 0
  simp only [kcell, List.getElem?_toArray, List.getElem?_cons_zero] at k0
  rw [HK.out] at k0
  have c0 := HF0.out.e.1.cell 0
  have z0 := HF0.out.e.1.frozen 0
  simp only [List.getElem?_toArray, List.getElem?_cons_zero] at c0
  go_upto_region 7 with fail
  clear x4 k0 c0 z0
  have HF1 := FacS.set HF0 0 (.int .u8 22)
  generalize W.setCell ⟨g, 0, none⟩ (.int .u8 22) = W1 at *
  have x1 := HF1.out.qs.x1
  have hf1 := HF1.out.qs.blk.frozen 1
  have hfew := HF1.out.qs.few
  have hpos := HF1.out.qs.good.last.pos
  go_upto_region 26 with fail
  have HF2 := FacS.adv HF1 (by rw [HK.out]; decide)
  clear x1 hf1 hfew hpos
  generalize W1.setCell ⟨p, 1, none⟩ (.int .i64 ((R.I : Int) + 1)) = W2 at *
  simp only [List.set_cons_zero] at HF2
  have ee0 := HF2.out.e.1.cell 0
  have ee1 := HF2.out.e.1.cell 1
  have ee2 := HF2.out.e.1.cell 2
  have ee3 := HF2.out.e.1.cell 3
  have ee4 := HF2.out.e.1.cell 4
  simp only [List.set_cons_zero, List.set_cons_succ, List.getElem?_toArray, List.getElem?_cons_zero, List.getElem?_cons_succ] at ee0 ee1 ee2 ee3 ee4
  go_wp2_with (refine wpList_put rfl 164 (.tmp 2) (.tmp 104) rfl g0 #[.int .u8 22, .int .i64 (r.s.hd.at_ : Int), .string (bstr r.s.hd.text), .int .i64 0, .slice none 0 0] (by rfl) (by rfl) 164 _ HF2.out.z.1 (by kernel_rfl) rfl rfl ?_; intro w6 ht6 hb6)
  have HF6 : Hid (PostEQ w p B R (factorR (f + 1) r) (.returned (.agg #[.int .u8 22, .int .i64 (r.s.hd.at_ : Int), .string (bstr r.s.hd.text), .int .i64 0, .slice none 0 0])) w6) := Lib.hid (by
    rw [facR_1 HE.out HK.out]
    exact FacS.post HF2 ht6 (rfl))
  have HB6 := Lib.hid hb6
  clear ht6 hb6
  go_wp2_with fail
  exact ret_row g0 164 _ _ Tryz.results144 rfl rfl HB6.out Tryz.underlying164 rfl (by kernel_rfl) HF6.out
set_option maxRecDepth 100000 in
set_option maxHeartbeats 8000000 in
theorem qfac_2 (f : Nat) (w : World) (p B : Nat) (r : Rs) (R : QRep) (h : QS w p B r R) (hl : r.s.ts.length ≤ f + 1) (he : r.e = 0) (hk : r.s.hd.kind = 2) :
    Calls Tryz.prog 144 #[.pointer (some ⟨p, 0, none⟩)] w (PostEQ w p B R (factorR (f + 1) r)) := by
  have HP := Lib.hid h
  have HL := Lib.hid hl
  have hpl := h.blk.lt
  have hbl : R.bt < w.heap.size := by have := h.tlow; have := h.pB; omega
  have x0 := h.x0
  have x1 := h.x1
  have qp := h.pos
  have hfew := h.few
  have hpos := h.good.last.pos
  have t0 : w.cell? ⟨R.bt, R.o0 + R.I * 5, none⟩ = some (.int .u8 (r.s.hd.kind : Int)) := h.tok 0 (by decide)
  have t1 : w.cell? ⟨R.bt, R.o0 + R.I * 5 + 1, none⟩ = some (.int .i64 (r.s.hd.at_ : Int)) := h.tok 1 (by decide)
  have t2 : w.cell? ⟨R.bt, R.o0 + R.I * 5 + 2, none⟩ = some (.int .i64 (r.s.hd.en : Int)) := h.tok 2 (by decide)
  have t3 : w.cell? ⟨R.bt, R.o0 + R.I * 5 + 3, none⟩ = some (.string (bstr r.s.hd.text)) := h.tok 3 (by decide)
  have t4 : w.cell? ⟨R.bt, R.o0 + R.I * 5 + 4, none⟩ = some (.int .i64 r.s.hd.n) := h.tok 4 (by decide)
  have HE := Lib.hid he
  have HK := Lib.hid hk
  clear h hl he hk
  go_enter Tryz.func144, Tryz.ntmps144
  go_wp2_with fail
  go_region
  clear x0 x1 qp hfew hpos t0 t1 t2 t3 t4
  go_upto_region 4 with fail
  obtain ⟨W, HW⟩ : ∃ W, Hid ((((w.alloc (.cells #[.int .u8 0, .int .i64 0, .string ⟨#[]⟩, .int .i64 0, .slice none 0 0] 164)).alloc (.cells #[.int .u8 (r.s.hd.kind : Int), .int .i64 (r.s.hd.at_ : Int), .int .i64 (r.s.hd.en : Int), .string (bstr r.s.hd.text), .int .i64 r.s.hd.n] 67)).alloc (.cells #[.int .u8 0, .int .i64 (r.s.hd.at_ : Int), .string (bstr r.s.hd.text), .int .i64 0, .slice none 0 0] 164)).drew = W) := ⟨_, Lib.hid rfl⟩
  have HF0 : Hid (FacS w W p B R r R w.heap.size (w.heap.size + 1) (w.heap.size + 1 + 1) r.s.hd [.int .u8 0, .int .i64 (r.s.hd.at_ : Int), .string (bstr r.s.hd.text), .int .i64 0, .slice none 0 0]) := Lib.hid (by
    have h1 := HP.out.ext (Ext.alloc w (.cells eyzero 164))
    have h2 := h1.ext (Ext.alloc _ (.cells (kcell r.s.hd).toArray 67))
    have h3 := h2.ext (Ext.alloc _ (.cells [.int .u8 0, .int .i64 (r.s.hd.at_ : Int), .string (bstr r.s.hd.text), .int .i64 0, .slice none 0 0].toArray 164))
    have hB := HP.out.pB
    have e1 : Ext _ (((w.alloc (.cells eyzero 164)).alloc (.cells (kcell r.s.hd).toArray 67)).alloc (.cells [.int .u8 0, .int .i64 (r.s.hd.at_ : Int), .string (bstr r.s.hd.text), .int .i64 0, .slice none 0 0].toArray 164)) := Ext.alloc _ _
    have hd : Ext _ (((w.alloc (.cells eyzero 164)).alloc (.cells (kcell r.s.hd).toArray 67)).alloc (.cells [.int .u8 0, .int .i64 (r.s.hd.at_ : Int), .string (bstr r.s.hd.text), .int .i64 0, .slice none 0 0].toArray 164)).drew := Below.drew (Below.refl _ _)
    have s0 := ((((HP.out.fresh 164 eyzero).moves (Moves.ext (M := MineQ p R) (Ext.alloc _ (.cells (kcell r.s.hd).toArray 67)))).moves (Moves.ext (M := MineQ p R) e1)).moves (Moves.ext (M := MineQ p R) hd))
    have s1 := (((h1.fresh 67 (kcell r.s.hd).toArray).moves (Moves.ext (M := MineQ p R) e1)).moves (Moves.ext (M := MineQ p R) hd))
    have s2 := ((h2.fresh 164 [.int .u8 0, .int .i64 (r.s.hd.at_ : Int), .string (bstr r.s.hd.text), .int .i64 0, .slice none 0 0].toArray).moves (Moves.ext (M := MineQ p R) hd))
    rw [World.size_alloc] at s1 s2
    rw [World.size_alloc] at s2
    rw [← HW.out]
    exact ⟨h3.ext hd, Moves.ext ((((Ext.alloc _ _).trans (Ext.alloc _ _)).trans e1).trans hd), s0, s1, s2, by omega⟩)
  rw [HW.out]
  obtain ⟨g0, HG0⟩ : ∃ g, Hid (w.heap.size = g) := ⟨_, Lib.hid rfl⟩
  obtain ⟨gt, HGT⟩ : ∃ g, Hid (w.heap.size + 1 = g) := ⟨_, Lib.hid rfl⟩
  obtain ⟨g, HGE⟩ : ∃ g, Hid (w.heap.size + 1 + 1 = g) := ⟨_, Lib.hid rfl⟩
  rw [HGE.out, HGT.out, HG0.out] at HF0
  try rw [HGE.out]
  try rw [HGT.out]
  try rw [HG0.out]
  clear HW HG0 HGT HGE hbl
  have x4 := HF0.out.qs.x4
  rw [HE.out] at x4
  have k0 := HF0.out.t.1.cell 0
  simp only [kcell, List.getElem?_toArray, List.getElem?_cons_zero] at k0
  rw [HK.out] at k0
  have c0 := HF0.out.e.1.cell 0
  have z0 := HF0.out.e.1.frozen 0
  simp only [List.getElem?_toArray, List.getElem?_cons_zero] at c0
  go_upto_region 10 with fail
  clear x4 k0 c0 z0
  have HF1 := FacS.set HF0 0 (.int .u8 21)
  generalize W.setCell ⟨g, 0, none⟩ (.int .u8 21) = W1 at *
  have c2 := HF1.out.e.1.cell 2
  have z2 := HF1.out.e.1.frozen 2
  simp only [List.set_cons_zero, List.getElem?_toArray, List.getElem?_cons_zero, List.getElem?_cons_succ] at c2
  go_upto_region 11 with fail
  clear c2 z2
  have HF2 := FacS.set HF1 2 (.string ⟨#[]⟩)
  generalize W1.setCell ⟨g, 2, none⟩ (.string ⟨#[]⟩) = W2 at *
  have c3 := HF2.out.e.1.cell 3
  have z3 := HF2.out.e.1.frozen 3
  have k4 := HF2.out.t.1.cell 4
  simp only [kcell, List.set_cons_zero, List.set_cons_succ, List.getElem?_toArray, List.getElem?_cons_zero, List.getElem?_cons_succ] at c3 k4
  go_upto_region 12 with fail
  clear c3 z3 k4
  have HF3 := FacS.set HF2 3 (.int .i64 r.s.hd.n)
  generalize W2.setCell ⟨g, 3, none⟩ (.int .i64 r.s.hd.n) = W3 at *
  have x1 := HF3.out.qs.x1
  have hf1 := HF3.out.qs.blk.frozen 1
  have hfew := HF3.out.qs.few
  have hpos := HF3.out.qs.good.last.pos
  go_upto_region 26 with fail
  have HF4 := FacS.adv HF3 (by rw [HK.out]; decide)
  clear x1 hf1 hfew hpos
  generalize W3.setCell ⟨p, 1, none⟩ (.int .i64 ((R.I : Int) + 1)) = W4 at *
  simp only [List.set_cons_zero, List.set_cons_succ] at HF4
  have ee0 := HF4.out.e.1.cell 0
  have ee1 := HF4.out.e.1.cell 1
  have ee2 := HF4.out.e.1.cell 2
  have ee3 := HF4.out.e.1.cell 3
  have ee4 := HF4.out.e.1.cell 4
  simp only [List.set_cons_zero, List.set_cons_succ, List.getElem?_toArray, List.getElem?_cons_zero, List.getElem?_cons_succ] at ee0 ee1 ee2 ee3 ee4
  go_wp2_with (refine wpList_put rfl 164 (.tmp 2) (.tmp 104) rfl g0 #[.int .u8 21, .int .i64 (r.s.hd.at_ : Int), .string ⟨#[]⟩, .int .i64 r.s.hd.n, .slice none 0 0] (by rfl) (by rfl) 164 _ HF4.out.z.1 (by kernel_rfl) rfl rfl ?_; intro w6 ht6 hb6)
  have HF6 : Hid (PostEQ w p B R (factorR (f + 1) r) (.returned (.agg #[.int .u8 21, .int .i64 (r.s.hd.at_ : Int), .string ⟨#[]⟩, .int .i64 r.s.hd.n, .slice none 0 0])) w6) := Lib.hid (by
    rw [facR_2 HE.out HK.out]
    exact FacS.post HF4 ht6 (rfl))
  have HB6 := Lib.hid hb6
  clear ht6 hb6
  go_wp2_with fail
  exact ret_row g0 164 _ _ Tryz.results144 rfl rfl HB6.out Tryz.underlying164 rfl (by kernel_rfl) HF6.out
set_option maxRecDepth 100000 in
set_option maxHeartbeats 8000000 in
theorem qfac_deep (f : Nat) (w : World) (p B : Nat) (r : Rs) (R : QRep) (h : QS w p B r R) (hl : r.s.ts.length ≤ f + 1) (he : r.e = 0) (h1 : r.s.hd.kind ≠ 1) (h2 : r.s.hd.kind ≠ 2) (h3 : r.is [40] = true) (h4 : ¬ r.inn.e = 0) :
    Calls Tryz.prog 144 #[.pointer (some ⟨p, 0, none⟩)] w (PostEQ w p B R (factorR (f + 1) r)) := by
  have HP := Lib.hid h
  have HL := Lib.hid hl
  have hpl := h.blk.lt
  have hbl : R.bt < w.heap.size := by have := h.tlow; have := h.pB; omega
  have x0 := h.x0
  have x1 := h.x1
  have qp := h.pos
  have hfew := h.few
  have hpos := h.good.last.pos
  have t0 : w.cell? ⟨R.bt, R.o0 + R.I * 5, none⟩ = some (.int .u8 (r.s.hd.kind : Int)) := h.tok 0 (by decide)
  have t1 : w.cell? ⟨R.bt, R.o0 + R.I * 5 + 1, none⟩ = some (.int .i64 (r.s.hd.at_ : Int)) := h.tok 1 (by decide)
  have t2 : w.cell? ⟨R.bt, R.o0 + R.I * 5 + 2, none⟩ = some (.int .i64 (r.s.hd.en : Int)) := h.tok 2 (by decide)
  have t3 : w.cell? ⟨R.bt, R.o0 + R.I * 5 + 3, none⟩ = some (.string (bstr r.s.hd.text)) := h.tok 3 (by decide)
  have t4 : w.cell? ⟨R.bt, R.o0 + R.I * 5 + 4, none⟩ = some (.int .i64 r.s.hd.n) := h.tok 4 (by decide)
  have HE := Lib.hid he
  have HK1 := Lib.hid h1
  have HK2 := Lib.hid h2
  have n1 : ((r.s.hd.kind : Int) == 1) = false := by rw [beq_eq_false_iff_ne]; omega
  have n2 : ((r.s.hd.kind : Int) == 2) = false := by rw [beq_eq_false_iff_ne]; omega
  have m1 : ¬ (r.s.hd.kind : Int) = 1 := by omega
  have m2 : ¬ (r.s.hd.kind : Int) = 2 := by omega
  have H3 := Lib.hid h3
  have HIN := Lib.hid h4
  clear h hl he h1 h2 h3 h4
  go_enter Tryz.func144, Tryz.ntmps144
  go_wp2_with fail
  go_region
  clear x0 x1 qp hfew hpos t0 t1 t2 t3 t4
  go_upto_region 4 with fail
  obtain ⟨W, HW⟩ : ∃ W, Hid ((((w.alloc (.cells #[.int .u8 0, .int .i64 0, .string ⟨#[]⟩, .int .i64 0, .slice none 0 0] 164)).alloc (.cells #[.int .u8 (r.s.hd.kind : Int), .int .i64 (r.s.hd.at_ : Int), .int .i64 (r.s.hd.en : Int), .string (bstr r.s.hd.text), .int .i64 r.s.hd.n] 67)).alloc (.cells #[.int .u8 0, .int .i64 (r.s.hd.at_ : Int), .string (bstr r.s.hd.text), .int .i64 0, .slice none 0 0] 164)).drew = W) := ⟨_, Lib.hid rfl⟩
  have HF0 : Hid (FacS w W p B R r R w.heap.size (w.heap.size + 1) (w.heap.size + 1 + 1) r.s.hd [.int .u8 0, .int .i64 (r.s.hd.at_ : Int), .string (bstr r.s.hd.text), .int .i64 0, .slice none 0 0]) := Lib.hid (by
    have h1 := HP.out.ext (Ext.alloc w (.cells eyzero 164))
    have h2 := h1.ext (Ext.alloc _ (.cells (kcell r.s.hd).toArray 67))
    have h3 := h2.ext (Ext.alloc _ (.cells [.int .u8 0, .int .i64 (r.s.hd.at_ : Int), .string (bstr r.s.hd.text), .int .i64 0, .slice none 0 0].toArray 164))
    have hB := HP.out.pB
    have e1 : Ext _ (((w.alloc (.cells eyzero 164)).alloc (.cells (kcell r.s.hd).toArray 67)).alloc (.cells [.int .u8 0, .int .i64 (r.s.hd.at_ : Int), .string (bstr r.s.hd.text), .int .i64 0, .slice none 0 0].toArray 164)) := Ext.alloc _ _
    have hd : Ext _ (((w.alloc (.cells eyzero 164)).alloc (.cells (kcell r.s.hd).toArray 67)).alloc (.cells [.int .u8 0, .int .i64 (r.s.hd.at_ : Int), .string (bstr r.s.hd.text), .int .i64 0, .slice none 0 0].toArray 164)).drew := Below.drew (Below.refl _ _)
    have s0 := ((((HP.out.fresh 164 eyzero).moves (Moves.ext (M := MineQ p R) (Ext.alloc _ (.cells (kcell r.s.hd).toArray 67)))).moves (Moves.ext (M := MineQ p R) e1)).moves (Moves.ext (M := MineQ p R) hd))
    have s1 := (((h1.fresh 67 (kcell r.s.hd).toArray).moves (Moves.ext (M := MineQ p R) e1)).moves (Moves.ext (M := MineQ p R) hd))
    have s2 := ((h2.fresh 164 [.int .u8 0, .int .i64 (r.s.hd.at_ : Int), .string (bstr r.s.hd.text), .int .i64 0, .slice none 0 0].toArray).moves (Moves.ext (M := MineQ p R) hd))
    rw [World.size_alloc] at s1 s2
    rw [World.size_alloc] at s2
    rw [← HW.out]
    exact ⟨h3.ext hd, Moves.ext ((((Ext.alloc _ _).trans (Ext.alloc _ _)).trans e1).trans hd), s0, s1, s2, by omega⟩)
  rw [HW.out]
  obtain ⟨g0, HG0⟩ : ∃ g, Hid (w.heap.size = g) := ⟨_, Lib.hid rfl⟩
  obtain ⟨gt, HGT⟩ : ∃ g, Hid (w.heap.size + 1 = g) := ⟨_, Lib.hid rfl⟩
  obtain ⟨g, HGE⟩ : ∃ g, Hid (w.heap.size + 1 + 1 = g) := ⟨_, Lib.hid rfl⟩
  rw [HGE.out, HGT.out, HG0.out] at HF0
  try rw [HGE.out]
  try rw [HGT.out]
  try rw [HG0.out]
  clear HW HG0 HGT HGE hbl
  have x4 := HF0.out.qs.x4
  rw [HE.out] at x4
  have k0 := HF0.out.t.1.cell 0
  simp only [kcell, List.getElem?_toArray, List.getElem?_cons_zero] at k0
  go_wp2_with fail
  refine (qis_any _ p B r R [40] true H3 HF0.out.qs).mono ?_
  rintro e _ ⟨rfl, m, rfl⟩
  have HF1 := FacS.drew HF0 m
  generalize W.drewN m = W1 at *
  clear x4 k0
  go_wp2_with fail
  refine (qinn_any _ p B r R HE.out false (Lib.hid (by exact beq_eq_false_iff_ne.2 HIN.out)) HF1.out.qs).mono ?_
  rintro e W5 ⟨rfl, R5, hq, hm⟩
  have HF5 := FacS.step HF1 ⟨hq, hm⟩
  clear hq hm
  have x2 := HF5.out.qs.x2
  have hf2 := HF5.out.qs.blk.frozen 2
  have hdp := HF5.out.qs.good.deep
  have HDP : Hid (1 ≤ r.inn.s.deep) := Lib.hid (by have := inn_deep r; omega)
  have hdq := HDP.out
  go_upto_region 26 with fail
  have HF7 := FacS.out (v := .int .i64 ((r.inn.s.deep : Int) - 1)) HF5 (by show _ = Value.int .i64 ((r.inn.s.deep - 1 : Nat) : Int); rw [Int.ofNat_sub HDP.out]; rfl)
  clear x2 hf2 hdp hdq
  skip
  generalize W5.setCell ⟨p, 2, none⟩ (.int .i64 ((r.inn.s.deep : Int) - 1)) = W7 at *
  have ee0 := HF7.out.e.1.cell 0
  have ee1 := HF7.out.e.1.cell 1
  have ee2 := HF7.out.e.1.cell 2
  have ee3 := HF7.out.e.1.cell 3
  have ee4 := HF7.out.e.1.cell 4
  simp only [List.set_cons_zero, List.set_cons_succ, List.getElem?_toArray, List.getElem?_cons_zero, List.getElem?_cons_succ] at ee0 ee1 ee2 ee3 ee4
  go_wp2_with (refine wpList_put rfl 164 (.tmp 2) (.tmp 104) rfl g0 #[.int .u8 0, .int .i64 (r.s.hd.at_ : Int), .string (bstr r.s.hd.text), .int .i64 0, .slice none 0 0] (by rfl) (by rfl) 164 _ HF7.out.z.1 (by kernel_rfl) rfl rfl ?_; intro w6 ht6 hb6)
  have HF6 : Hid (PostEQ w p B R (factorR (f + 1) r) (.returned (.agg #[.int .u8 0, .int .i64 (r.s.hd.at_ : Int), .string (bstr r.s.hd.text), .int .i64 0, .slice none 0 0])) w6) := Lib.hid (by
    rw [facR_deep HE.out HK1.out HK2.out H3.out HIN.out]
    exact FacS.post HF7 ht6 (rfl))
  have HB6 := Lib.hid hb6
  clear ht6 hb6
  go_wp2_with fail
  exact ret_row g0 164 _ _ Tryz.results144 rfl rfl HB6.out Tryz.underlying164 rfl (by kernel_rfl) HF6.out
set_option maxRecDepth 100000 in
set_option maxHeartbeats 8000000 in
theorem qfac_none (f : Nat) (w : World) (p B : Nat) (r : Rs) (R : QRep) (h : QS w p B r R) (hl : r.s.ts.length ≤ f + 1) (he : r.e = 0) (h1 : r.s.hd.kind ≠ 1) (h2 : r.s.hd.kind ≠ 2) (h3 : r.is [40] = false) (h5 : r.is [45] = false) :
    Calls Tryz.prog 144 #[.pointer (some ⟨p, 0, none⟩)] w (PostEQ w p B R (factorR (f + 1) r)) := by
  have HP := Lib.hid h
  have HL := Lib.hid hl
  have hpl := h.blk.lt
  have hbl : R.bt < w.heap.size := by have := h.tlow; have := h.pB; omega
  have x0 := h.x0
  have x1 := h.x1
  have qp := h.pos
  have hfew := h.few
  have hpos := h.good.last.pos
  have t0 : w.cell? ⟨R.bt, R.o0 + R.I * 5, none⟩ = some (.int .u8 (r.s.hd.kind : Int)) := h.tok 0 (by decide)
  have t1 : w.cell? ⟨R.bt, R.o0 + R.I * 5 + 1, none⟩ = some (.int .i64 (r.s.hd.at_ : Int)) := h.tok 1 (by decide)
  have t2 : w.cell? ⟨R.bt, R.o0 + R.I * 5 + 2, none⟩ = some (.int .i64 (r.s.hd.en : Int)) := h.tok 2 (by decide)
  have t3 : w.cell? ⟨R.bt, R.o0 + R.I * 5 + 3, none⟩ = some (.string (bstr r.s.hd.text)) := h.tok 3 (by decide)
  have t4 : w.cell? ⟨R.bt, R.o0 + R.I * 5 + 4, none⟩ = some (.int .i64 r.s.hd.n) := h.tok 4 (by decide)
  have HE := Lib.hid he
  have HK1 := Lib.hid h1
  have HK2 := Lib.hid h2
  have n1 : ((r.s.hd.kind : Int) == 1) = false := by rw [beq_eq_false_iff_ne]; omega
  have n2 : ((r.s.hd.kind : Int) == 2) = false := by rw [beq_eq_false_iff_ne]; omega
  have m1 : ¬ (r.s.hd.kind : Int) = 1 := by omega
  have m2 : ¬ (r.s.hd.kind : Int) = 2 := by omega
  have H3 := Lib.hid h3
  have H5 := Lib.hid h5
  clear h hl he h1 h2 h3 h5
  go_enter Tryz.func144, Tryz.ntmps144
  go_wp2_with fail
  go_region
  clear x0 x1 qp hfew hpos t0 t1 t2 t3 t4
  go_upto_region 4 with fail
  obtain ⟨W, HW⟩ : ∃ W, Hid ((((w.alloc (.cells #[.int .u8 0, .int .i64 0, .string ⟨#[]⟩, .int .i64 0, .slice none 0 0] 164)).alloc (.cells #[.int .u8 (r.s.hd.kind : Int), .int .i64 (r.s.hd.at_ : Int), .int .i64 (r.s.hd.en : Int), .string (bstr r.s.hd.text), .int .i64 r.s.hd.n] 67)).alloc (.cells #[.int .u8 0, .int .i64 (r.s.hd.at_ : Int), .string (bstr r.s.hd.text), .int .i64 0, .slice none 0 0] 164)).drew = W) := ⟨_, Lib.hid rfl⟩
  have HF0 : Hid (FacS w W p B R r R w.heap.size (w.heap.size + 1) (w.heap.size + 1 + 1) r.s.hd [.int .u8 0, .int .i64 (r.s.hd.at_ : Int), .string (bstr r.s.hd.text), .int .i64 0, .slice none 0 0]) := Lib.hid (by
    have h1 := HP.out.ext (Ext.alloc w (.cells eyzero 164))
    have h2 := h1.ext (Ext.alloc _ (.cells (kcell r.s.hd).toArray 67))
    have h3 := h2.ext (Ext.alloc _ (.cells [.int .u8 0, .int .i64 (r.s.hd.at_ : Int), .string (bstr r.s.hd.text), .int .i64 0, .slice none 0 0].toArray 164))
    have hB := HP.out.pB
    have e1 : Ext _ (((w.alloc (.cells eyzero 164)).alloc (.cells (kcell r.s.hd).toArray 67)).alloc (.cells [.int .u8 0, .int .i64 (r.s.hd.at_ : Int), .string (bstr r.s.hd.text), .int .i64 0, .slice none 0 0].toArray 164)) := Ext.alloc _ _
    have hd : Ext _ (((w.alloc (.cells eyzero 164)).alloc (.cells (kcell r.s.hd).toArray 67)).alloc (.cells [.int .u8 0, .int .i64 (r.s.hd.at_ : Int), .string (bstr r.s.hd.text), .int .i64 0, .slice none 0 0].toArray 164)).drew := Below.drew (Below.refl _ _)
    have s0 := ((((HP.out.fresh 164 eyzero).moves (Moves.ext (M := MineQ p R) (Ext.alloc _ (.cells (kcell r.s.hd).toArray 67)))).moves (Moves.ext (M := MineQ p R) e1)).moves (Moves.ext (M := MineQ p R) hd))
    have s1 := (((h1.fresh 67 (kcell r.s.hd).toArray).moves (Moves.ext (M := MineQ p R) e1)).moves (Moves.ext (M := MineQ p R) hd))
    have s2 := ((h2.fresh 164 [.int .u8 0, .int .i64 (r.s.hd.at_ : Int), .string (bstr r.s.hd.text), .int .i64 0, .slice none 0 0].toArray).moves (Moves.ext (M := MineQ p R) hd))
    rw [World.size_alloc] at s1 s2
    rw [World.size_alloc] at s2
    rw [← HW.out]
    exact ⟨h3.ext hd, Moves.ext ((((Ext.alloc _ _).trans (Ext.alloc _ _)).trans e1).trans hd), s0, s1, s2, by omega⟩)
  rw [HW.out]
  obtain ⟨g0, HG0⟩ : ∃ g, Hid (w.heap.size = g) := ⟨_, Lib.hid rfl⟩
  obtain ⟨gt, HGT⟩ : ∃ g, Hid (w.heap.size + 1 = g) := ⟨_, Lib.hid rfl⟩
  obtain ⟨g, HGE⟩ : ∃ g, Hid (w.heap.size + 1 + 1 = g) := ⟨_, Lib.hid rfl⟩
  rw [HGE.out, HGT.out, HG0.out] at HF0
  try rw [HGE.out]
  try rw [HGT.out]
  try rw [HG0.out]
  clear HW HG0 HGT HGE hbl
  have x4 := HF0.out.qs.x4
  rw [HE.out] at x4
  have k0 := HF0.out.t.1.cell 0
  simp only [kcell, List.getElem?_toArray, List.getElem?_cons_zero] at k0
  go_wp2_with fail
  refine (qis_any _ p B r R [40] false H3 HF0.out.qs).mono ?_
  rintro e _ ⟨rfl, m, rfl⟩
  have HF1 := FacS.drew HF0 m
  generalize W.drewN m = W1 at *
  clear x4 k0
  go_wp2_with fail
  refine (qis_any _ p B r R [45] false H5 HF1.out.qs).mono ?_
  rintro e _ ⟨rfl, m, rfl⟩
  have HF2 := FacS.drew HF1 m
  generalize W1.drewN m = W2 at *
  go_wp2_with fail
  refine (qfail_any _ p B r R 50 (by decide) HF2.out.qs).mono ?_
  rintro e W5 ⟨rfl, R5, hq, hm⟩
  have HF5 := FacS.step HF2 ⟨hq, hm⟩
  clear hq hm
  go_upto_region 26 with fail
  have ee0 := HF5.out.e.1.cell 0
  have ee1 := HF5.out.e.1.cell 1
  have ee2 := HF5.out.e.1.cell 2
  have ee3 := HF5.out.e.1.cell 3
  have ee4 := HF5.out.e.1.cell 4
  simp only [List.set_cons_zero, List.set_cons_succ, List.getElem?_toArray, List.getElem?_cons_zero, List.getElem?_cons_succ] at ee0 ee1 ee2 ee3 ee4
  go_wp2_with (refine wpList_put rfl 164 (.tmp 2) (.tmp 104) rfl g0 #[.int .u8 0, .int .i64 (r.s.hd.at_ : Int), .string (bstr r.s.hd.text), .int .i64 0, .slice none 0 0] (by rfl) (by rfl) 164 _ HF5.out.z.1 (by kernel_rfl) rfl rfl ?_; intro w6 ht6 hb6)
  have HF6 : Hid (PostEQ w p B R (factorR (f + 1) r) (.returned (.agg #[.int .u8 0, .int .i64 (r.s.hd.at_ : Int), .string (bstr r.s.hd.text), .int .i64 0, .slice none 0 0])) w6) := Lib.hid (by
    rw [facR_none HE.out HK1.out HK2.out H3.out H5.out]
    exact FacS.post HF5 ht6 (rfl))
  have HB6 := Lib.hid hb6
  clear ht6 hb6
  go_wp2_with fail
  exact ret_row g0 164 _ _ Tryz.results144 rfl rfl HB6.out Tryz.underlying164 rfl (by kernel_rfl) HF6.out
set_option maxRecDepth 100000 in
set_option maxHeartbeats 8000000 in
theorem qfac_negd (f : Nat) (w : World) (p B : Nat) (r : Rs) (R : QRep) (h : QS w p B r R) (hl : r.s.ts.length ≤ f + 1) (he : r.e = 0) (h1 : r.s.hd.kind ≠ 1) (h2 : r.s.hd.kind ≠ 2) (h3 : r.is [40] = false) (h5 : r.is [45] = true) (h4 : ¬ r.inn.e = 0) :
    Calls Tryz.prog 144 #[.pointer (some ⟨p, 0, none⟩)] w (PostEQ w p B R (factorR (f + 1) r)) := by
  have HP := Lib.hid h
  have HL := Lib.hid hl
  have hpl := h.blk.lt
  have hbl : R.bt < w.heap.size := by have := h.tlow; have := h.pB; omega
  have x0 := h.x0
  have x1 := h.x1
  have qp := h.pos
  have hfew := h.few
  have hpos := h.good.last.pos
  have t0 : w.cell? ⟨R.bt, R.o0 + R.I * 5, none⟩ = some (.int .u8 (r.s.hd.kind : Int)) := h.tok 0 (by decide)
  have t1 : w.cell? ⟨R.bt, R.o0 + R.I * 5 + 1, none⟩ = some (.int .i64 (r.s.hd.at_ : Int)) := h.tok 1 (by decide)
  have t2 : w.cell? ⟨R.bt, R.o0 + R.I * 5 + 2, none⟩ = some (.int .i64 (r.s.hd.en : Int)) := h.tok 2 (by decide)
  have t3 : w.cell? ⟨R.bt, R.o0 + R.I * 5 + 3, none⟩ = some (.string (bstr r.s.hd.text)) := h.tok 3 (by decide)
  have t4 : w.cell? ⟨R.bt, R.o0 + R.I * 5 + 4, none⟩ = some (.int .i64 r.s.hd.n) := h.tok 4 (by decide)
  have HE := Lib.hid he
  have HK1 := Lib.hid h1
  have HK2 := Lib.hid h2
  have n1 : ((r.s.hd.kind : Int) == 1) = false := by rw [beq_eq_false_iff_ne]; omega
  have n2 : ((r.s.hd.kind : Int) == 2) = false := by rw [beq_eq_false_iff_ne]; omega
  have m1 : ¬ (r.s.hd.kind : Int) = 1 := by omega
  have m2 : ¬ (r.s.hd.kind : Int) = 2 := by omega
  have H3 := Lib.hid h3
  have H5 := Lib.hid h5
  have HIN := Lib.hid h4
  clear h hl he h1 h2 h3 h5 h4
  go_enter Tryz.func144, Tryz.ntmps144
  go_wp2_with fail
  go_region
  clear x0 x1 qp hfew hpos t0 t1 t2 t3 t4
  go_upto_region 4 with fail
  obtain ⟨W, HW⟩ : ∃ W, Hid ((((w.alloc (.cells #[.int .u8 0, .int .i64 0, .string ⟨#[]⟩, .int .i64 0, .slice none 0 0] 164)).alloc (.cells #[.int .u8 (r.s.hd.kind : Int), .int .i64 (r.s.hd.at_ : Int), .int .i64 (r.s.hd.en : Int), .string (bstr r.s.hd.text), .int .i64 r.s.hd.n] 67)).alloc (.cells #[.int .u8 0, .int .i64 (r.s.hd.at_ : Int), .string (bstr r.s.hd.text), .int .i64 0, .slice none 0 0] 164)).drew = W) := ⟨_, Lib.hid rfl⟩
  have HF0 : Hid (FacS w W p B R r R w.heap.size (w.heap.size + 1) (w.heap.size + 1 + 1) r.s.hd [.int .u8 0, .int .i64 (r.s.hd.at_ : Int), .string (bstr r.s.hd.text), .int .i64 0, .slice none 0 0]) := Lib.hid (by
    have h1 := HP.out.ext (Ext.alloc w (.cells eyzero 164))
    have h2 := h1.ext (Ext.alloc _ (.cells (kcell r.s.hd).toArray 67))
    have h3 := h2.ext (Ext.alloc _ (.cells [.int .u8 0, .int .i64 (r.s.hd.at_ : Int), .string (bstr r.s.hd.text), .int .i64 0, .slice none 0 0].toArray 164))
    have hB := HP.out.pB
    have e1 : Ext _ (((w.alloc (.cells eyzero 164)).alloc (.cells (kcell r.s.hd).toArray 67)).alloc (.cells [.int .u8 0, .int .i64 (r.s.hd.at_ : Int), .string (bstr r.s.hd.text), .int .i64 0, .slice none 0 0].toArray 164)) := Ext.alloc _ _
    have hd : Ext _ (((w.alloc (.cells eyzero 164)).alloc (.cells (kcell r.s.hd).toArray 67)).alloc (.cells [.int .u8 0, .int .i64 (r.s.hd.at_ : Int), .string (bstr r.s.hd.text), .int .i64 0, .slice none 0 0].toArray 164)).drew := Below.drew (Below.refl _ _)
    have s0 := ((((HP.out.fresh 164 eyzero).moves (Moves.ext (M := MineQ p R) (Ext.alloc _ (.cells (kcell r.s.hd).toArray 67)))).moves (Moves.ext (M := MineQ p R) e1)).moves (Moves.ext (M := MineQ p R) hd))
    have s1 := (((h1.fresh 67 (kcell r.s.hd).toArray).moves (Moves.ext (M := MineQ p R) e1)).moves (Moves.ext (M := MineQ p R) hd))
    have s2 := ((h2.fresh 164 [.int .u8 0, .int .i64 (r.s.hd.at_ : Int), .string (bstr r.s.hd.text), .int .i64 0, .slice none 0 0].toArray).moves (Moves.ext (M := MineQ p R) hd))
    rw [World.size_alloc] at s1 s2
    rw [World.size_alloc] at s2
    rw [← HW.out]
    exact ⟨h3.ext hd, Moves.ext ((((Ext.alloc _ _).trans (Ext.alloc _ _)).trans e1).trans hd), s0, s1, s2, by omega⟩)
  rw [HW.out]
  obtain ⟨g0, HG0⟩ : ∃ g, Hid (w.heap.size = g) := ⟨_, Lib.hid rfl⟩
  obtain ⟨gt, HGT⟩ : ∃ g, Hid (w.heap.size + 1 = g) := ⟨_, Lib.hid rfl⟩
  obtain ⟨g, HGE⟩ : ∃ g, Hid (w.heap.size + 1 + 1 = g) := ⟨_, Lib.hid rfl⟩
  rw [HGE.out, HGT.out, HG0.out] at HF0
  try rw [HGE.out]
  try rw [HGT.out]
  try rw [HG0.out]
  clear HW HG0 HGT HGE hbl
  have x4 := HF0.out.qs.x4
  rw [HE.out] at x4
  have k0 := HF0.out.t.1.cell 0
  simp only [kcell, List.getElem?_toArray, List.getElem?_cons_zero] at k0
  go_wp2_with fail
  refine (qis_any _ p B r R [40] false H3 HF0.out.qs).mono ?_
  rintro e _ ⟨rfl, m, rfl⟩
  have HF1 := FacS.drew HF0 m
  generalize W.drewN m = W1 at *
  clear x4 k0
  go_wp2_with fail
  refine (qis_any _ p B r R [45] true H5 HF1.out.qs).mono ?_
  rintro e _ ⟨rfl, m, rfl⟩
  have HF2 := FacS.drew HF1 m
  generalize W1.drewN m = W2 at *
  have c0 := HF2.out.e.1.cell 0
  have z0 := HF2.out.e.1.frozen 0
  simp only [List.getElem?_toArray, List.getElem?_cons_zero] at c0
  go_upto_region 21 with fail
  clear c0 z0
  have HF3 := FacS.set HF2 0 (.int .u8 26)
  generalize W2.setCell ⟨g, 0, none⟩ (.int .u8 26) = W3 at *
  have c2 := HF3.out.e.1.cell 2
  have z2 := HF3.out.e.1.frozen 2
  simp only [List.set_cons_zero, List.getElem?_toArray, List.getElem?_cons_zero, List.getElem?_cons_succ] at c2
  go_upto_region 22 with fail
  clear c2 z2
  have HF4 := FacS.set HF3 2 (.string ⟨#[]⟩)
  generalize W3.setCell ⟨g, 2, none⟩ (.string ⟨#[]⟩) = W4 at *
  simp only [List.set_cons_zero, List.set_cons_succ] at HF4
  go_wp2_with fail
  refine (qinn_any _ p B r R HE.out false (Lib.hid (by exact beq_eq_false_iff_ne.2 HIN.out)) HF4.out.qs).mono ?_
  rintro e W5 ⟨rfl, R5, hq, hm⟩
  have HF5 := FacS.step HF4 ⟨hq, hm⟩
  clear hq hm
  have x2 := HF5.out.qs.x2
  have hf2 := HF5.out.qs.blk.frozen 2
  have hdp := HF5.out.qs.good.deep
  have HDP : Hid (1 ≤ r.inn.s.deep) := Lib.hid (by have := inn_deep r; omega)
  have hdq := HDP.out
  go_upto_region 26 with fail
  have HF7 := FacS.out (v := .int .i64 ((r.inn.s.deep : Int) - 1)) HF5 (by show _ = Value.int .i64 ((r.inn.s.deep - 1 : Nat) : Int); rw [Int.ofNat_sub HDP.out]; rfl)
  clear x2 hf2 hdp hdq
  skip
  generalize W5.setCell ⟨p, 2, none⟩ (.int .i64 ((r.inn.s.deep : Int) - 1)) = W7 at *
  have ee0 := HF7.out.e.1.cell 0
  have ee1 := HF7.out.e.1.cell 1
  have ee2 := HF7.out.e.1.cell 2
  have ee3 := HF7.out.e.1.cell 3
  have ee4 := HF7.out.e.1.cell 4
  simp only [List.set_cons_zero, List.set_cons_succ, List.getElem?_toArray, List.getElem?_cons_zero, List.getElem?_cons_succ] at ee0 ee1 ee2 ee3 ee4
  go_wp2_with (refine wpList_put rfl 164 (.tmp 2) (.tmp 104) rfl g0 #[.int .u8 26, .int .i64 (r.s.hd.at_ : Int), .string ⟨#[]⟩, .int .i64 0, .slice none 0 0] (by rfl) (by rfl) 164 _ HF7.out.z.1 (by kernel_rfl) rfl rfl ?_; intro w6 ht6 hb6)
  have HF6 : Hid (PostEQ w p B R (factorR (f + 1) r) (.returned (.agg #[.int .u8 26, .int .i64 (r.s.hd.at_ : Int), .string ⟨#[]⟩, .int .i64 0, .slice none 0 0])) w6) := Lib.hid (by
    rw [facR_negd HE.out HK1.out HK2.out H3.out H5.out HIN.out]
    exact FacS.post HF7 ht6 (rfl))
  have HB6 := Lib.hid hb6
  clear ht6 hb6
  go_wp2_with fail
  exact ret_row g0 164 _ _ Tryz.results144 rfl rfl HB6.out Tryz.underlying164 rfl (by kernel_rfl) HF6.out
set_option maxRecDepth 100000 in
set_option maxHeartbeats 8000000 in
theorem qfac_in (f : Nat) (w : World) (p B : Nat) (r : Rs) (R : QRep) (h : QS w p B r R) (hl : r.s.ts.length ≤ f + 1) (he : r.e = 0) (h1 : r.s.hd.kind ≠ 1) (h2 : r.s.hd.kind ≠ 2) (h3 : r.is [40] = true) (h4 : r.inn.e = 0) (ih : CallsEQ 122 f (chainsR plusM (chainsR starM (factorR f)))) (kp : ∀ r, RGood r → r.s.ts.length ≤ f → RExpr r (chainsR plusM (chainsR starM (factorR f)) r)) :
    Calls Tryz.prog 144 #[.pointer (some ⟨p, 0, none⟩)] w (PostEQ w p B R (factorR (f + 1) r)) := by
  have HP := Lib.hid h
  have HL := Lib.hid hl
  have hpl := h.blk.lt
  have hbl : R.bt < w.heap.size := by have := h.tlow; have := h.pB; omega
  have x0 := h.x0
  have x1 := h.x1
  have qp := h.pos
  have hfew := h.few
  have hpos := h.good.last.pos
  have t0 : w.cell? ⟨R.bt, R.o0 + R.I * 5, none⟩ = some (.int .u8 (r.s.hd.kind : Int)) := h.tok 0 (by decide)
  have t1 : w.cell? ⟨R.bt, R.o0 + R.I * 5 + 1, none⟩ = some (.int .i64 (r.s.hd.at_ : Int)) := h.tok 1 (by decide)
  have t2 : w.cell? ⟨R.bt, R.o0 + R.I * 5 + 2, none⟩ = some (.int .i64 (r.s.hd.en : Int)) := h.tok 2 (by decide)
  have t3 : w.cell? ⟨R.bt, R.o0 + R.I * 5 + 3, none⟩ = some (.string (bstr r.s.hd.text)) := h.tok 3 (by decide)
  have t4 : w.cell? ⟨R.bt, R.o0 + R.I * 5 + 4, none⟩ = some (.int .i64 r.s.hd.n) := h.tok 4 (by decide)
  have HE := Lib.hid he
  have HK1 := Lib.hid h1
  have HK2 := Lib.hid h2
  have n1 : ((r.s.hd.kind : Int) == 1) = false := by rw [beq_eq_false_iff_ne]; omega
  have n2 : ((r.s.hd.kind : Int) == 2) = false := by rw [beq_eq_false_iff_ne]; omega
  have m1 : ¬ (r.s.hd.kind : Int) = 1 := by omega
  have m2 : ¬ (r.s.hd.kind : Int) = 2 := by omega
  have H3 := Lib.hid h3
  have HIN := Lib.hid h4
  have HIH := Lib.hid ih
  have HKP := Lib.hid kp
  clear h hl he h1 h2 h3 h4 ih kp
  go_enter Tryz.func144, Tryz.ntmps144
  go_wp2_with fail
  go_region
  clear x0 x1 qp hfew hpos t0 t1 t2 t3 t4
  go_upto_region 4 with fail
  obtain ⟨W, HW⟩ : ∃ W, Hid ((((w.alloc (.cells #[.int .u8 0, .int .i64 0, .string ⟨#[]⟩, .int .i64 0, .slice none 0 0] 164)).alloc (.cells #[.int .u8 (r.s.hd.kind : Int), .int .i64 (r.s.hd.at_ : Int), .int .i64 (r.s.hd.en : Int), .string (bstr r.s.hd.text), .int .i64 r.s.hd.n] 67)).alloc (.cells #[.int .u8 0, .int .i64 (r.s.hd.at_ : Int), .string (bstr r.s.hd.text), .int .i64 0, .slice none 0 0] 164)).drew = W) := ⟨_, Lib.hid rfl⟩
  have HF0 : Hid (FacS w W p B R r R w.heap.size (w.heap.size + 1) (w.heap.size + 1 + 1) r.s.hd [.int .u8 0, .int .i64 (r.s.hd.at_ : Int), .string (bstr r.s.hd.text), .int .i64 0, .slice none 0 0]) := Lib.hid (by
    have h1 := HP.out.ext (Ext.alloc w (.cells eyzero 164))
    have h2 := h1.ext (Ext.alloc _ (.cells (kcell r.s.hd).toArray 67))
    have h3 := h2.ext (Ext.alloc _ (.cells [.int .u8 0, .int .i64 (r.s.hd.at_ : Int), .string (bstr r.s.hd.text), .int .i64 0, .slice none 0 0].toArray 164))
    have hB := HP.out.pB
    have e1 : Ext _ (((w.alloc (.cells eyzero 164)).alloc (.cells (kcell r.s.hd).toArray 67)).alloc (.cells [.int .u8 0, .int .i64 (r.s.hd.at_ : Int), .string (bstr r.s.hd.text), .int .i64 0, .slice none 0 0].toArray 164)) := Ext.alloc _ _
    have hd : Ext _ (((w.alloc (.cells eyzero 164)).alloc (.cells (kcell r.s.hd).toArray 67)).alloc (.cells [.int .u8 0, .int .i64 (r.s.hd.at_ : Int), .string (bstr r.s.hd.text), .int .i64 0, .slice none 0 0].toArray 164)).drew := Below.drew (Below.refl _ _)
    have s0 := ((((HP.out.fresh 164 eyzero).moves (Moves.ext (M := MineQ p R) (Ext.alloc _ (.cells (kcell r.s.hd).toArray 67)))).moves (Moves.ext (M := MineQ p R) e1)).moves (Moves.ext (M := MineQ p R) hd))
    have s1 := (((h1.fresh 67 (kcell r.s.hd).toArray).moves (Moves.ext (M := MineQ p R) e1)).moves (Moves.ext (M := MineQ p R) hd))
    have s2 := ((h2.fresh 164 [.int .u8 0, .int .i64 (r.s.hd.at_ : Int), .string (bstr r.s.hd.text), .int .i64 0, .slice none 0 0].toArray).moves (Moves.ext (M := MineQ p R) hd))
    rw [World.size_alloc] at s1 s2
    rw [World.size_alloc] at s2
    rw [← HW.out]
    exact ⟨h3.ext hd, Moves.ext ((((Ext.alloc _ _).trans (Ext.alloc _ _)).trans e1).trans hd), s0, s1, s2, by omega⟩)
  rw [HW.out]
  obtain ⟨g0, HG0⟩ : ∃ g, Hid (w.heap.size = g) := ⟨_, Lib.hid rfl⟩
  obtain ⟨gt, HGT⟩ : ∃ g, Hid (w.heap.size + 1 = g) := ⟨_, Lib.hid rfl⟩
  obtain ⟨g, HGE⟩ : ∃ g, Hid (w.heap.size + 1 + 1 = g) := ⟨_, Lib.hid rfl⟩
  rw [HGE.out, HGT.out, HG0.out] at HF0
  try rw [HGE.out]
  try rw [HGT.out]
  try rw [HG0.out]
  clear HW HG0 HGT HGE hbl
  have x4 := HF0.out.qs.x4
  rw [HE.out] at x4
  have k0 := HF0.out.t.1.cell 0
  simp only [kcell, List.getElem?_toArray, List.getElem?_cons_zero] at k0
  go_wp2_with fail
  refine (qis_any _ p B r R [40] true H3 HF0.out.qs).mono ?_
  rintro e _ ⟨rfl, m, rfl⟩
  have HF1 := FacS.drew HF0 m
  generalize W.drewN m = W1 at *
  clear x4 k0
  go_wp2_with fail
  refine (qinn_any _ p B r R HE.out true (Lib.hid (by rw [HIN.out]; rfl)) HF1.out.qs).mono ?_
  rintro e W5 ⟨rfl, R5, hq, hm⟩
  have HF5 := FacS.step HF1 ⟨hq, hm⟩
  clear hq hm
  have x1 := HF5.out.qs.x1
  have hf1 := HF5.out.qs.blk.frozen 1
  have hfew := HF5.out.qs.few
  have hpos := HF5.out.qs.good.last.pos
  have HK4 : Hid (r.inn.s.hd.kind ≠ 4) := Lib.hid (by rw [hd_ts (inn_s r).1]; exact (ris_kind H3.out).1)
  have HLN : Hid (r.inn.adv.s.ts.length ≤ f) := Lib.hid (by
    have h1 := HF5.out.qs.good.last.len HK4.out
    have h2 : r.inn.s.ts.length = r.s.ts.length := by rw [(inn_s r).1]
    have h3 := HL.out
    have h4 : r.inn.adv.s.ts.length < r.inn.s.ts.length := h1
    omega)
  go_wp2_with fail
  have HF6 := FacS.adv HF5 HK4.out
  clear x1 hf1 hfew hpos
  generalize W5.setCell ⟨p, 1, none⟩ (.int .i64 ((R5.I : Int) + 1)) = W6 at *
  generalize { R5 with I := R5.I + 1 } = R6 at *
  refine (HIH.out W6 p B r.inn.adv R6 HF6.out.qs HLN.out).mono ?_
  rintro e W8 ⟨cs, R8, rfl, hq, hm, hx⟩
  have HKX := Lib.hid (HKP.out r.inn.adv HF6.out.qs.good HLN.out)
  have HU := Lib.hid (up_chains (ms := plusM) (up_chains (ms := starM) (up_factor f)) r.inn.adv)
  have HRES := Lib.hid (facR_in (f := f) HE.out HK1.out HK2.out H3.out HIN.out)
  obtain ⟨y, hy⟩ : ∃ y, chainsR plusM (chainsR starM (factorR f)) r.inn.adv = y := ⟨_, rfl⟩
  rw [hy] at hq hx HRES HKX HU
  obtain ⟨x, r8⟩ := y
  simp only at hq hx HRES HKX HU
  clear hy
  have HF8 := FacS.step HF6 ⟨hq, hm⟩
  obtain ⟨A1, c1, f1, hcs, _⟩ := hx.open
  have HSZ : Hid (g < W6.heap.size ∧ g0 < W6.heap.size ∧ w.heap.size ≤ W6.heap.size) := Lib.hid ⟨HF6.out.e.1.lt, HF6.out.z.1.lt, HF6.out.mv.size⟩
  have HX8 : Hid (EY W8 (Or (MineQ p R8) (fun b => under w b ∨ b = g ∨ b = g0)) x cs) := Lib.hid (hx.weaken fun b hb k => by
    have hh := HSZ.out
    rcases k with k | k | k | k
    · exact .inl k
    · refine .inr ?_; unfold under at *; omega
    · refine .inr ?_; unfold under; omega
    · refine .inr ?_; unfold under; omega)
  clear hq hm hx
  subst hcs
  unfold eheadR
  unfold eheadR at HX8
  generalize x.parts.length = xm at *
  generalize HY : x.node = y at *
  obtain ⟨yk, yp, yt, yn, yks⟩ := y
  simp only
  simp only at HX8
  go_wp2_with (refine wpList_put rfl 164 (.tmp 4) (.tmp 69) rfl g #[.int .u8 (yk : Int), .int .i64 (yp : Int), .string (bstr yt), .int .i64 yn, .slice A1 xm c1] (by rfl) (by rfl) 164 _ HF8.out.e.1 (by kernel_rfl) rfl rfl ?_; intro W9 ht9 hb9)
  have HF9 := FacS.touch (cs' := [.int .u8 (yk : Int), .int .i64 (yp : Int), .string (bstr yt), .int .i64 yn, .slice A1 xm c1]) HF8 ht9 hb9
  have HX9 := Lib.hid (HX8.out.moves (ht9.moves (.inr (.inr (.inl rfl)))))
  clear ht9 hb9 HF8 HX8
  go_wp2_with fail
  refine (qtake_any _ p B _ R8 [41] HF9.out.qs).mono ?_
  rintro e W10 ⟨rfl, R10, hq, hm⟩
  have HF10 := FacS.step HF9 ⟨hq, hm⟩
  have HX10 := Lib.hid (HX9.out.moves (hm.or _))
  clear hq hm
  have x2 := HF10.out.qs.x2
  have hf2 := HF10.out.qs.blk.frozen 2
  have hdp := HF10.out.qs.good.deep
  have HDP : Hid (1 ≤ (takeR [41] r8).s.deep) := Lib.hid (by have h1 := HU.out; have h2 := up_take [41] r8; have h3 := inn_deep r; have h4 : r.inn.adv.s.deep = r.inn.s.deep := rfl; omega)
  have hdq := HDP.out
  go_upto_region 26 with fail
  have HF11 := FacS.out (v := .int .i64 (((takeR [41] r8).s.deep : Int) - 1)) HF10 (by show _ = Value.int .i64 (((takeR [41] r8).s.deep - 1 : Nat) : Int); rw [Int.ofNat_sub HDP.out]; rfl)
  clear x2 hf2 hdp hdq
  have HX11 := Lib.hid (HX10.out.moves (Moves.set (w := W10) (g := p) (i := 2) (u := .int .i64 (((takeR [41] r8).s.deep : Int) - 1)) (.inl (.inl rfl))))
  generalize W10.setCell ⟨p, 2, none⟩ (.int .i64 (((takeR [41] r8).s.deep : Int) - 1)) = W11 at *
  have HWK : Hid (∀ b, b < W11.heap.size → Or (MineQ p R10) (fun b => under w b ∨ b = g0) b → Or (MineQ p R10) (fun b => under w b ∨ b = g ∨ b = g0) b) := Lib.hid fun b hb k => by
    rcases k with k | k | k
    · exact .inl k
    · exact .inr (.inl k)
    · exact .inr (.inr (.inr k))
  have ee0 := HF11.out.e.1.cell 0
  have ee1 := HF11.out.e.1.cell 1
  have ee2 := HF11.out.e.1.cell 2
  have ee3 := HF11.out.e.1.cell 3
  have ee4 := HF11.out.e.1.cell 4
  simp only [List.set_cons_zero, List.set_cons_succ, List.getElem?_toArray, List.getElem?_cons_zero, List.getElem?_cons_succ] at ee0 ee1 ee2 ee3 ee4
  go_wp2_with (refine wpList_put rfl 164 (.tmp 2) (.tmp 104) rfl g0 #[.int .u8 (yk : Int), .int .i64 (yp : Int), .string (bstr yt), .int .i64 yn, .slice A1 xm c1] (by rfl) (by rfl) 164 _ HF11.out.z.1 (by kernel_rfl) rfl rfl ?_; intro w6 ht6 hb6)
  have HF6 : Hid (PostEQ w p B R (factorR (f + 1) r) (.returned (.agg #[.int .u8 (yk : Int), .int .i64 (yp : Int), .string (bstr yt), .int .i64 yn, .slice A1 xm c1])) w6) := Lib.hid (by
    rw [HRES.out]
    exact FacS.post HF11 ht6 (HX11.out.weaken HWK.out))
  have HB6 := Lib.hid hb6
  clear ht6 hb6
  go_wp2_with fail
  exact ret_row g0 164 _ _ Tryz.results144 rfl rfl HB6.out Tryz.underlying164 rfl (by kernel_rfl) HF6.out
set_option maxRecDepth 100000 in
set_option maxHeartbeats 8000000 in
theorem qfac_neg (f : Nat) (w : World) (p B : Nat) (r : Rs) (R : QRep) (h : QS w p B r R) (hl : r.s.ts.length ≤ f + 1) (he : r.e = 0) (h1 : r.s.hd.kind ≠ 1) (h2 : r.s.hd.kind ≠ 2) (h3 : r.is [40] = false) (h5 : r.is [45] = true) (h4 : r.inn.e = 0) (ih : CallsEQ 144 f (factorR f)) (kp : ∀ r, RGood r → r.s.ts.length ≤ f → RExpr r (factorR f r)) :
    Calls Tryz.prog 144 #[.pointer (some ⟨p, 0, none⟩)] w (PostEQ w p B R (factorR (f + 1) r)) := by
  have HP := Lib.hid h
  have HL := Lib.hid hl
  have hpl := h.blk.lt
  have hbl : R.bt < w.heap.size := by have := h.tlow; have := h.pB; omega
  have x0 := h.x0
  have x1 := h.x1
  have qp := h.pos
  have hfew := h.few
  have hpos := h.good.last.pos
  have t0 : w.cell? ⟨R.bt, R.o0 + R.I * 5, none⟩ = some (.int .u8 (r.s.hd.kind : Int)) := h.tok 0 (by decide)
  have t1 : w.cell? ⟨R.bt, R.o0 + R.I * 5 + 1, none⟩ = some (.int .i64 (r.s.hd.at_ : Int)) := h.tok 1 (by decide)
  have t2 : w.cell? ⟨R.bt, R.o0 + R.I * 5 + 2, none⟩ = some (.int .i64 (r.s.hd.en : Int)) := h.tok 2 (by decide)
  have t3 : w.cell? ⟨R.bt, R.o0 + R.I * 5 + 3, none⟩ = some (.string (bstr r.s.hd.text)) := h.tok 3 (by decide)
  have t4 : w.cell? ⟨R.bt, R.o0 + R.I * 5 + 4, none⟩ = some (.int .i64 r.s.hd.n) := h.tok 4 (by decide)
  have HE := Lib.hid he
  have HK1 := Lib.hid h1
  have HK2 := Lib.hid h2
  have n1 : ((r.s.hd.kind : Int) == 1) = false := by rw [beq_eq_false_iff_ne]; omega
  have n2 : ((r.s.hd.kind : Int) == 2) = false := by rw [beq_eq_false_iff_ne]; omega
  have m1 : ¬ (r.s.hd.kind : Int) = 1 := by omega
  have m2 : ¬ (r.s.hd.kind : Int) = 2 := by omega
  have H3 := Lib.hid h3
  have H5 := Lib.hid h5
  have HIN := Lib.hid h4
  have HIH := Lib.hid ih
  have HKP := Lib.hid kp
  clear h hl he h1 h2 h3 h5 h4 ih kp
  go_enter Tryz.func144, Tryz.ntmps144
  go_wp2_with fail
  go_region
  clear x0 x1 qp hfew hpos t0 t1 t2 t3 t4
  go_upto_region 4 with fail
  obtain ⟨W, HW⟩ : ∃ W, Hid ((((w.alloc (.cells #[.int .u8 0, .int .i64 0, .string ⟨#[]⟩, .int .i64 0, .slice none 0 0] 164)).alloc (.cells #[.int .u8 (r.s.hd.kind : Int), .int .i64 (r.s.hd.at_ : Int), .int .i64 (r.s.hd.en : Int), .string (bstr r.s.hd.text), .int .i64 r.s.hd.n] 67)).alloc (.cells #[.int .u8 0, .int .i64 (r.s.hd.at_ : Int), .string (bstr r.s.hd.text), .int .i64 0, .slice none 0 0] 164)).drew = W) := ⟨_, Lib.hid rfl⟩
  have HF0 : Hid (FacS w W p B R r R w.heap.size (w.heap.size + 1) (w.heap.size + 1 + 1) r.s.hd [.int .u8 0, .int .i64 (r.s.hd.at_ : Int), .string (bstr r.s.hd.text), .int .i64 0, .slice none 0 0]) := Lib.hid (by
    have h1 := HP.out.ext (Ext.alloc w (.cells eyzero 164))
    have h2 := h1.ext (Ext.alloc _ (.cells (kcell r.s.hd).toArray 67))
    have h3 := h2.ext (Ext.alloc _ (.cells [.int .u8 0, .int .i64 (r.s.hd.at_ : Int), .string (bstr r.s.hd.text), .int .i64 0, .slice none 0 0].toArray 164))
    have hB := HP.out.pB
    have e1 : Ext _ (((w.alloc (.cells eyzero 164)).alloc (.cells (kcell r.s.hd).toArray 67)).alloc (.cells [.int .u8 0, .int .i64 (r.s.hd.at_ : Int), .string (bstr r.s.hd.text), .int .i64 0, .slice none 0 0].toArray 164)) := Ext.alloc _ _
    have hd : Ext _ (((w.alloc (.cells eyzero 164)).alloc (.cells (kcell r.s.hd).toArray 67)).alloc (.cells [.int .u8 0, .int .i64 (r.s.hd.at_ : Int), .string (bstr r.s.hd.text), .int .i64 0, .slice none 0 0].toArray 164)).drew := Below.drew (Below.refl _ _)
    have s0 := ((((HP.out.fresh 164 eyzero).moves (Moves.ext (M := MineQ p R) (Ext.alloc _ (.cells (kcell r.s.hd).toArray 67)))).moves (Moves.ext (M := MineQ p R) e1)).moves (Moves.ext (M := MineQ p R) hd))
    have s1 := (((h1.fresh 67 (kcell r.s.hd).toArray).moves (Moves.ext (M := MineQ p R) e1)).moves (Moves.ext (M := MineQ p R) hd))
    have s2 := ((h2.fresh 164 [.int .u8 0, .int .i64 (r.s.hd.at_ : Int), .string (bstr r.s.hd.text), .int .i64 0, .slice none 0 0].toArray).moves (Moves.ext (M := MineQ p R) hd))
    rw [World.size_alloc] at s1 s2
    rw [World.size_alloc] at s2
    rw [← HW.out]
    exact ⟨h3.ext hd, Moves.ext ((((Ext.alloc _ _).trans (Ext.alloc _ _)).trans e1).trans hd), s0, s1, s2, by omega⟩)
  rw [HW.out]
  obtain ⟨g0, HG0⟩ : ∃ g, Hid (w.heap.size = g) := ⟨_, Lib.hid rfl⟩
  obtain ⟨gt, HGT⟩ : ∃ g, Hid (w.heap.size + 1 = g) := ⟨_, Lib.hid rfl⟩
  obtain ⟨g, HGE⟩ : ∃ g, Hid (w.heap.size + 1 + 1 = g) := ⟨_, Lib.hid rfl⟩
  rw [HGE.out, HGT.out, HG0.out] at HF0
  try rw [HGE.out]
  try rw [HGT.out]
  try rw [HG0.out]
  clear HW HG0 HGT HGE hbl
  have x4 := HF0.out.qs.x4
  rw [HE.out] at x4
  have k0 := HF0.out.t.1.cell 0
  simp only [kcell, List.getElem?_toArray, List.getElem?_cons_zero] at k0
  go_wp2_with fail
  refine (qis_any _ p B r R [40] false H3 HF0.out.qs).mono ?_
  rintro e _ ⟨rfl, m, rfl⟩
  have HF1 := FacS.drew HF0 m
  generalize W.drewN m = W1 at *
  clear x4 k0
  go_wp2_with fail
  refine (qis_any _ p B r R [45] true H5 HF1.out.qs).mono ?_
  rintro e _ ⟨rfl, m, rfl⟩
  have HF2 := FacS.drew HF1 m
  generalize W1.drewN m = W2 at *
  have c0 := HF2.out.e.1.cell 0
  have z0 := HF2.out.e.1.frozen 0
  simp only [List.getElem?_toArray, List.getElem?_cons_zero] at c0
  go_upto_region 21 with fail
  clear c0 z0
  have HF3 := FacS.set HF2 0 (.int .u8 26)
  generalize W2.setCell ⟨g, 0, none⟩ (.int .u8 26) = W3 at *
  have c2 := HF3.out.e.1.cell 2
  have z2 := HF3.out.e.1.frozen 2
  simp only [List.set_cons_zero, List.getElem?_toArray, List.getElem?_cons_zero, List.getElem?_cons_succ] at c2
  go_upto_region 22 with fail
  clear c2 z2
  have HF4 := FacS.set HF3 2 (.string ⟨#[]⟩)
  generalize W3.setCell ⟨g, 2, none⟩ (.string ⟨#[]⟩) = W4 at *
  simp only [List.set_cons_zero, List.set_cons_succ] at HF4
  go_wp2_with fail
  refine (qinn_any _ p B r R HE.out true (Lib.hid (by rw [HIN.out]; rfl)) HF4.out.qs).mono ?_
  rintro e W5 ⟨rfl, R5, hq, hm⟩
  have HF5 := FacS.step HF4 ⟨hq, hm⟩
  clear hq hm
  have x1 := HF5.out.qs.x1
  have hf1 := HF5.out.qs.blk.frozen 1
  have hfew := HF5.out.qs.few
  have hpos := HF5.out.qs.good.last.pos
  have HK4 : Hid (r.inn.s.hd.kind ≠ 4) := Lib.hid (by rw [hd_ts (inn_s r).1]; exact (ris_kind H5.out).1)
  have HLN : Hid (r.inn.adv.s.ts.length ≤ f) := Lib.hid (by
    have h1 := HF5.out.qs.good.last.len HK4.out
    have h2 : r.inn.s.ts.length = r.s.ts.length := by rw [(inn_s r).1]
    have h3 := HL.out
    have h4 : r.inn.adv.s.ts.length < r.inn.s.ts.length := h1
    omega)
  go_wp2_with fail
  have HF6 := FacS.adv HF5 HK4.out
  clear x1 hf1 hfew hpos
  generalize W5.setCell ⟨p, 1, none⟩ (.int .i64 ((R5.I : Int) + 1)) = W6 at *
  generalize { R5 with I := R5.I + 1 } = R6 at *
  refine (HIH.out W6 p B r.inn.adv R6 HF6.out.qs HLN.out).mono ?_
  rintro e W8 ⟨cs, R8, rfl, hq, hm, hx⟩
  have HKX := Lib.hid (HKP.out r.inn.adv HF6.out.qs.good HLN.out)
  have HU := Lib.hid (up_factor f r.inn.adv)
  have HRES := Lib.hid (facR_neg (f := f) HE.out HK1.out HK2.out H3.out H5.out HIN.out)
  obtain ⟨y, hy⟩ : ∃ y, factorR f r.inn.adv = y := ⟨_, rfl⟩
  rw [hy] at hq hx HRES HKX HU
  obtain ⟨x, r8⟩ := y
  simp only at hq hx HRES HKX HU
  clear hy
  have HF8 := FacS.step HF6 ⟨hq, hm⟩
  obtain ⟨A1, c1, f1, hcs, _⟩ := hx.open
  have HSZ : Hid (g < W6.heap.size ∧ g0 < W6.heap.size ∧ w.heap.size ≤ W6.heap.size ∧ W6.heap.size ≤ W8.heap.size) := Lib.hid ⟨HF6.out.e.1.lt, HF6.out.z.1.lt, HF6.out.mv.size, hm.size⟩
  have HX8 : Hid (EY W8 (Or (MineQ p R8) (fun b => under w b ∨ b = g ∨ b = g0)) x cs) := Lib.hid (hx.weaken fun b hb k => by
    have hh := HSZ.out
    rcases k with k | k | k | k
    · exact .inl k
    · refine .inr ?_; unfold under at *; omega
    · refine .inr ?_; unfold under; omega
    · refine .inr ?_; unfold under; omega)
  have HFR := Lib.hid (hq.fresh 164 cs.toArray).2
  have hgl := HF8.out.e.1.lt
  have c4 := HF8.out.e.1.cell 4
  have z4 := HF8.out.e.1.frozen 4
  simp only [List.getElem?_toArray, List.getElem?_cons_zero, List.getElem?_cons_succ] at c4
  have HF9 := FacS.set HF8 4 (.slice (some ⟨W8.heap.size, 0, none⟩) 1 1)
  have HX9 := Lib.hid (HX8.out.moves ((touch_set W8 g 4 (.slice (some ⟨W8.heap.size, 0, none⟩) 1 1)).moves (.inr (.inr (.inl rfl)))))
  have HS9 : Hid ((W8.setCell ⟨g, 4, none⟩ (.slice (some ⟨W8.heap.size, 0, none⟩) 1 1)).heap.size = W8.heap.size) := Lib.hid (by simp [World.setCell])
  have HGL := Lib.hid hgl
  have HG0 := Lib.hid HF8.out.z.1.lt
  clear hq hm hx HX8
  subst hcs
  unfold eheadR
  unfold eheadR at HX9
  generalize x.parts.length = xm at *
  generalize HY : x.node = y at *
  obtain ⟨yk, yp, yt, yn, yks⟩ := y
  simp only
  simp only at HX9
  go_upto_region 25 with fail
  clear c4 z4 hgl
  obtain ⟨gb, HGB⟩ : ∃ g, Hid (W8.heap.size = g) := ⟨_, Lib.hid rfl⟩
  rw [HGB.out] at HF9 HX9 HS9 HFR HGL HG0 ⊢
  generalize W8.setCell ⟨g, 4, none⟩ (.slice (some ⟨gb, 0, none⟩) 1 1) = W9 at *
  have HEXT : Hid (Ext W9 (W9.alloc (.cells #[.int .u8 (yk : Int), .int .i64 (yp : Int), .string (bstr yt), .int .i64 yn, .slice A1 xm c1] 164))) := Lib.hid (Ext.alloc _ _)
  have HF10 := FacS.step HF9 ⟨HF9.out.qs.ext HEXT.out, Moves.ext HEXT.out⟩
  have HN10 := Lib.hid (Blk.new W9 164 #[.int .u8 (yk : Int), .int .i64 (yp : Int), .string (bstr yt), .int .i64 yn, .slice A1 xm c1])
  rw [HS9.out] at HN10
  have HX10 := Lib.hid (HX9.out.moves ((Moves.ext HEXT.out).or _))
  generalize W9.alloc (.cells #[.int .u8 (yk : Int), .int .i64 (yp : Int), .string (bstr yt), .int .i64 yn, .slice A1 xm c1] 164) = W10 at *
  have HXN : Hid (EY W10 (Or (MineQ p R8) (fun b => under w b ∨ b = g ∨ b = g0)) (.neg r.s.hd.at_ x) [.int .u8 26, .int .i64 (r.s.hd.at_ : Int), .string ⟨#[]⟩, .int .i64 0, .slice (some ⟨gb, 0, none⟩) 1 1]) := Lib.hid ⟨gb, [.int .u8 (yk : Int), .int .i64 (yp : Int), .string (bstr yt), .int .i64 yn, .slice A1 xm c1], rfl, ⟨HN10.out, fun k => by
    have hh := HSZ.out
    have h1 := HGL.out
    have h2 := HG0.out
    have h3 := HGB.out
    rcases k with k | k | k | k
    · exact HFR.out k
    · unfold under at k; omega
    · omega
    · omega⟩, HX10.out⟩
  simp only [List.set_cons_zero, List.set_cons_succ] at HF10
  have x2 := HF10.out.qs.x2
  have hf2 := HF10.out.qs.blk.frozen 2
  have hdp := HF10.out.qs.good.deep
  have HDP : Hid (1 ≤ r8.s.deep) := Lib.hid (by have h1 := HU.out; have h3 := inn_deep r; have h4 : r.inn.adv.s.deep = r.inn.s.deep := rfl; omega)
  have hdq := HDP.out
  go_upto_region 26 with fail
  have HF11 := FacS.out (v := .int .i64 ((r8.s.deep : Int) - 1)) HF10 (by show _ = Value.int .i64 ((r8.s.deep - 1 : Nat) : Int); rw [Int.ofNat_sub HDP.out]; rfl)
  clear x2 hf2 hdp hdq
  have HX11 := Lib.hid (HXN.out.moves (Moves.set (w := W10) (g := p) (i := 2) (u := .int .i64 ((r8.s.deep : Int) - 1)) (.inl (.inl rfl))))
  generalize W10.setCell ⟨p, 2, none⟩ (.int .i64 ((r8.s.deep : Int) - 1)) = W11 at *
  have HWK : Hid (∀ b, b < W11.heap.size → Or (MineQ p R8) (fun b => under w b ∨ b = g0) b → Or (MineQ p R8) (fun b => under w b ∨ b = g ∨ b = g0) b) := Lib.hid fun b hb k => by
    rcases k with k | k | k
    · exact .inl k
    · exact .inr (.inl k)
    · exact .inr (.inr (.inr k))
  have ee0 := HF11.out.e.1.cell 0
  have ee1 := HF11.out.e.1.cell 1
  have ee2 := HF11.out.e.1.cell 2
  have ee3 := HF11.out.e.1.cell 3
  have ee4 := HF11.out.e.1.cell 4
  simp only [List.set_cons_zero, List.set_cons_succ, List.getElem?_toArray, List.getElem?_cons_zero, List.getElem?_cons_succ] at ee0 ee1 ee2 ee3 ee4
  go_wp2_with (refine wpList_put rfl 164 (.tmp 2) (.tmp 104) rfl g0 #[.int .u8 26, .int .i64 (r.s.hd.at_ : Int), .string ⟨#[]⟩, .int .i64 0, .slice (some ⟨gb, 0, none⟩) 1 1] (by rfl) (by rfl) 164 _ HF11.out.z.1 (by kernel_rfl) rfl rfl ?_; intro w6 ht6 hb6)
  have HF6 : Hid (PostEQ w p B R (factorR (f + 1) r) (.returned (.agg #[.int .u8 26, .int .i64 (r.s.hd.at_ : Int), .string ⟨#[]⟩, .int .i64 0, .slice (some ⟨gb, 0, none⟩) 1 1])) w6) := Lib.hid (by
    rw [HRES.out]
    exact FacS.post HF11 ht6 (HX11.out.weaken HWK.out))
  have HB6 := Lib.hid hb6
  clear ht6 hb6
  go_wp2_with fail
  exact ret_row g0 164 _ _ Tryz.results144 rfl rfl HB6.out Tryz.underlying164 rfl (by kernel_rfl) HF6.out
theorem qfactor_any : ∀ f, CallsEQ 144 f (factorR f)
  | 0 => fun w p B r R h hl => absurd h.good.last.pos (by omega)
  | f + 1 => fun w p B r R h hl => by
    have ih := qfactor_any f
    have k1 : ∀ r, RGood r → r.s.ts.length ≤ f → RExpr r (factorR f r) := fun r g hn => factorR_keeps f r g hn
    have k2 : ∀ r, RGood r → r.s.ts.length ≤ f → RExpr r (chainsR starM (factorR f) r) := fun r g hn => chainsR_keeps (n := f) (fun q gq hq => factorR_keeps f q gq hq) r g hn
    have k3 : ∀ r, RGood r → r.s.ts.length ≤ f → RExpr r (chainsR plusM (chainsR starM (factorR f)) r) := fun r g hn => chainsR_keeps (n := f) k2 r g hn
    by_cases he : r.e ≠ 0
    · exact qfac_err f w p B r R h hl he
    · have he : r.e = 0 := Decidable.not_not.1 he
      by_cases h1 : r.s.hd.kind = 1
      · exact qfac_1 f w p B r R h hl he h1
      · by_cases h2 : r.s.hd.kind = 2
        · exact qfac_2 f w p B r R h hl he h2
        · cases h3 : r.is [40] with
          | true =>
            by_cases h4 : r.inn.e = 0
            · exact qfac_in f w p B r R h hl he h1 h2 h3 h4 (qsum_of f _ (qterm_of f _ ih k1) k2) k3
            · exact qfac_deep f w p B r R h hl he h1 h2 h3 h4
          | false =>
            cases h5 : r.is [45] with
            | true =>
              by_cases h4 : r.inn.e = 0
              · exact qfac_neg f w p B r R h hl he h1 h2 h3 h5 h4 ih k1
              · exact qfac_negd f w p B r R h hl he h1 h2 h3 h5 h4
            | false => exact qfac_none f w p B r R h hl he h1 h2 h3 h5
theorem qsum_any (w : World) (p B : Nat) (r : Rs) (R : QRep) (h : QS w p B r R) : Calls Tryz.prog 122 #[.pointer (some ⟨p, 0, none⟩)] w (PostEQ w p B R (sumR r)) :=
  qsum_of r.s.ts.length _ (qterm_of r.s.ts.length _ (qfactor_any _) (fun r g hn => factorR_keeps _ r g hn)) (fun q gq hq => chainsR_keeps (n := r.s.ts.length) (fun q gq hq => factorR_keeps _ q gq hq) q gq hq) w p B r R h (Nat.le_refl _)
end Go.Proofs.YtcccnicldbpieaaGreatDoor
