/- The program's named, marked, number's maker. No condition. -/
import Derived.Test.YtcccnicldbpieaaGreatDoorPsC
import Derived.Deep.RegionHeld3
import Derived.Test.YtcccnicldbpieaaGreatDoorPsX
namespace Go.Proofs.YtcccnicldbpieaaGreatDoor
open Go Go.RowKit
set_option linter.unusedVariables false
set_option linter.unusedSimpArgs false
/-- A node's kind, place, text or number set anew. -/
theorem PS.put {w : World} {p B : Nat} {s : Ps} {R : PRep} (h : PS w p B s R) (i : Nat) (hi : i < R.nh.length) (j : Nat) (hj : j < 5) (u : Value) (f : Nd → Nd) (hk : ∀ x, (f x).kids = x.kids) (hf : ncell (f R.nh[i].1, R.nh[i].2) = (ncell R.nh[i]).set j u) {g : Nat} (hA : R.A = some ⟨g, 0, none⟩) :
    OkP w p B R (s.on i f) (w.setCell ⟨g, i * 5 + j, none⟩ u) := by
  have hns := h.ns.put (by decide) i hi j hj u f hk hf hA
  have hpg : p ≠ g := fun e => by
    obtain ⟨cur, hc⟩ := own_type h.ns.row hA
    rw [← e] at hc
    exact Blk.differ h.blk hc (by decide) rfl
  have hgB := (own_lt h.ns.row hA).1
  refine ⟨{ R with nh := R.nh.modify i fun x => (f x.1, x.2) }, ⟨?_, fun k hk => ?_, h.tcap, h.tlow, ?_, hns, h.pB, ⟨h.good.last, h.good.deep⟩⟩, ?_⟩
  · have := h.blk.far (p := ⟨g, i * 5 + j, none⟩) hpg u
    show Blk _ p 57 #[.slice _ s.ts.length _, .slice _ (R.nh.modify i _).length _, .int .i64 (s.deep : Int)]
    rw [List.length_modify]
    exact this
  · have hlt := h.tlow
    have hne : R.bt ≠ g := by omega
    have e2 := World.cell?_of_block (w := w) (w' := w.setCell ⟨g, i * 5 + j, none⟩ u) (a := ⟨R.bt, R.ot + k, none⟩) (Below.heap_setCell w ⟨g, i * 5 + j, none⟩ _ R.bt hne)
    exact e2.trans (h.toks k hk)
  · show s.nd.modify i f = _
    rw [map_modify Prod.fst _ f (fun x => rfl), ← h.nodes]
  · refine ⟨rfl, rfl, rfl, by simp [World.setCell], fun b hb hM => Below.heap_setCell w ⟨g, i * 5 + j, none⟩ _ b (fun e => hM (.inr (.inl (by rw [e]; exact hA)))), fun b hb => ?_⟩
    rcases hb with hb | hb
    · exact .inl (.inl hb)
    · exact .inl (.inr (put_mine i f b hb))
theorem PS.node_at {w : World} {p B : Nat} {s : Ps} {R : PRep} (h : PS w p B s R) {i : Nat} (hi : i < s.nd.length) : ∃ g, ∃ hi' : i < R.nh.length, R.A = some ⟨g, 0, none⟩ ∧ g < w.heap.size ∧ g ≠ p := by
  have hlen := h.len
  have hi' : i < R.nh.length := by omega
  obtain ⟨g, hA⟩ := h.nslot (by omega)
  refine ⟨g, hi', hA, (own_lt h.ns.row hA).2, fun e => ?_⟩
  obtain ⟨cur, hc⟩ := own_type h.ns.row hA
  rw [e] at hc
  exact Blk.differ h.blk hc (by decide) rfl
theorem PS.x1' {w : World} {p B : Nat} {s : Ps} {R : PRep} (h : PS w p B s R) {g : Nat} (hA : R.A = some ⟨g, 0, none⟩) : w.cell? ⟨p, 1, none⟩ = some (.slice (some ⟨g, 0, none⟩) R.nh.length R.c) := by rw [← hA]; exact h.x1
theorem region_extX {P : Program} {id : Nat} {Q' : Exit → Act → World → Prop} {a : Act} {w : World} {l : List Oper} {ks : List Take} (X : List PanicEntry → World → Prop) (hm : P.follows .mixedOrders = true) (hB : factsB l.toArray l.length = true) (hT : tailB l.toArray l.length = true)
    (hX : ∀ a', a'.defers = a.defers → ∀ c w, X c w → Q' (.panic c) a' w) (h : WalkX X P l.toArray Ext w (fun a' w' => Q' .normal a' w') l ks a []) : (Code.region id l.toArray true).wp P Q' a w := by
  refine wp_region_factsX (R := Ext) l.length ks hm hB hT (fun _ _ _ => Ext.trans) (Below.drew (Below.refl _ _)) hX ?_
  rw [List.take_length, List.drop_length]
  exact h
set_option maxRecDepth 100000 in
set_option maxHeartbeats 4000000 in
theorem pmarked_any (w : World) (p B : Nat) (s : Ps) (R : PRep) (i : Nat) (h : PS w p B s R) (hi : i < s.nd.length) :
    Calls Tryz.prog 84 #[.pointer (some ⟨p, 0, none⟩), .int .i64 (i : Int)] w (PostU w p B R (.ok () (s.num i 1))) := by
  obtain ⟨g, hi', hA, hgl, hgp⟩ := h.node_at hi
  have c3 : ∃ v, w.cell? ⟨g, i * 5 + 3, none⟩ = some (.int .i64 v) := ⟨_, by rw [h.nodeCell i hi' hA 3 (by decide)]; rfl⟩
  obtain ⟨v, c3⟩ := c3
  have z3 := h.nthaw (i * 5 + 3) hA
  have x1 := h.x1' hA
  have HF : Hid (OkP w p B R (s.num i 1) (w.setCell ⟨g, i * 5 + 3, none⟩ (.int .i64 1))) := Lib.hid (h.put i hi' 3 (by decide) _ (fun n => { n with num := 1 }) (fun _ => rfl) rfl hA)
  have q0 : (i : Int) < (R.nh.length : Int) := by omega
  clear h hA hi
  go_enter Tryz.func84, Tryz.ntmps84
  go_wp2
  go_end0
  exact PostU.ok HF.out
set_option maxRecDepth 100000 in
set_option maxHeartbeats 1000000 in
theorem pnamed_any (w : World) (p B : Nat) (s : Ps) (R : PRep) (i : Nat) (h : PS w p B s R) (hi : i < s.nd.length) :
    Calls Tryz.prog 79 #[.pointer (some ⟨p, 0, none⟩), .int .i64 (i : Int)] w (PostU w p B R (namedP i s)) := by
  obtain ⟨g, hi', hA, hgl, hgp⟩ := h.node_at hi
  have x1 := h.x1' hA
  have q0 : (0 : Int) ≤ (i : Int) := Int.natCast_nonneg _
  have q1 : (i : Int) < (R.nh.length : Int) := by omega
  have HP := Lib.hid h
  have HA := Lib.hid hA
  have hf3 := tokField3
  have hpl := h.blk.lt
  clear h hA hi
  by_cases hk : s.hd.kind = 1
  · have HK := Lib.hid hk
    have HN : Hid (namedP i s = .ok () (s.adv.text i s.hd.text)) := Lib.hid (by unfold namedP ofP; rw [if_pos hk]; rfl)
    clear hk
    go_enter Tryz.func79, Tryz.ntmps79
    go_wp2_with fail
    go_region_held3 (fun w' => w'.cell? ⟨p, 1, none⟩ = some (.slice (some ⟨g, 0, none⟩) R.nh.length R.c))
      (first
        | assumption
        | go_keep
        | exact y1s _)
      (first
        | (go_at_call 104; refine (pof_yes _ p B s R 1 HK (by decide) (HP.out.ext (by first | exact Ext.refl _ | exact Below.drew (Below.refl _ _)))).mono ?_; rintro e w1 ⟨rfl, ho⟩; simp only [kcell]; have y1 := ho.1.x1' HA.out; have HO := Lib.hid ho; have c2 : w1.cell? ⟨g, i * 5 + 2, none⟩ = some (.string (bstr R.nh[i].1.text)) := (ho.1.nodeCell i hi' HA.out 2 (by decide)); have z2 := ho.1.nthaw (i * 5 + 2) HA.out; have y1s : ∀ u, (w1.setCell ⟨g, i * 5 + 2, none⟩ u).cell? ⟨p, 1, none⟩ = some (.slice (some ⟨g, 0, none⟩) R.nh.length R.c) := fun u => (World.cell?_of_block (w := w1) (a := ⟨p, 1, none⟩) (Below.heap_setCell w1 ⟨g, i * 5 + 2, none⟩ u p (fun e => hgp e.symm))).trans y1; clear ho)
        | (fail))
    have HF : Hid (OkP w p B R (s.adv.text i s.hd.text) (w1.setCell ⟨g, i * 5 + 2, none⟩ (.string (bstr s.hd.text)))) := Lib.hid (OkP.trans ((Moves.ext (Below.drew (Below.refl _ _))).trans HO.out.2) (HO.out.1.put i hi' 2 (by decide) _ (fun n => { n with text := s.hd.text }) (fun _ => rfl) rfl HA.out))
    go_wp2_with fail
    go_end0
    rw [HN.out]
    exact PostU.ok HF.out
  · have HK : Hid (s.hd.kind ≠ 1) := Lib.hid hk
    have HN : Hid (namedP i s = .err 50 s.hd.at_) := Lib.hid (by unfold namedP ofP; rw [if_neg hk]; rfl)
    clear hk
    go_enter Tryz.func79, Tryz.ntmps79
    go_wp2_with fail
    have HX : Hid (∀ w', Ext w w' → ∀ e w2, ErrP w' p B R 50 s.hd.at_ e w2 → PostU w p B R (namedP i s) e w2) := Lib.hid fun w' hx e w2 he => by rw [HN.out]; exact ErrP.trans (Moves.ext hx) he
    apply region_extX (fun c w2 => PostU w p B R (namedP i s) (.panicked c) w2) (by kernel_rfl) (by kernel_rfl) (by kernel_rfl) (fun a' ha c w2 hx => ⟨ha, hx⟩)
    apply stepX_det (.pointer (some ⟨p, 0, none⟩)) rfl rfl rfl
    · intro w' hw' hH
      clear hH hw'
      simp [YieldsX, go_sem]
      exact Ext.refl _
    apply stepX_det (.pointer (some ⟨p, 0, none⟩)) rfl rfl rfl
    · intro w' hw' hH
      clear hH hw'
      simp [YieldsX, go_sem]
      exact Ext.refl _
    apply stepX_det (.pointer (some ⟨p, 1, none⟩)) rfl rfl rfl
    · intro w' hw' hH
      clear hH hw'
      simp [YieldsX, go_sem]
      exact Ext.refl _
    apply stepX_det (.slice (some ⟨g, 0, none⟩) R.nh.length R.c) rfl rfl rfl
    · intro w' hw' hH
      have cc := (hw'.cell (p := ⟨p, 1, none⟩) hpl).trans x1
      clear hH hw'
      simp [YieldsX, go_sem, cc]
      exact Ext.refl _
    apply stepX_det (.int .i64 (i : Int)) rfl rfl rfl
    · intro w' hw' hH
      clear hH hw'
      simp [YieldsX, go_sem]
      exact Ext.refl _
    apply stepX_det (.pointer (some ⟨p, 0, none⟩)) rfl rfl rfl
    · intro w' hw' hH
      clear hH hw'
      simp [YieldsX, go_sem]
      exact Ext.refl _
    simp only [Act.put, List.setIfInBounds_toArray, List.set_cons_succ, List.set_cons_zero]
    apply stepX_fact (fun _ _ => False) (fun v w w' h hx => h) rfl rfl rfl
    · intro w' hw' hH
      clear hH
      simp [YieldsX, go_sem]
      refine (pof_no w' p B s R 1 HK (HP.out.ext hw')).mono ?_
      intro e w2 he
      exact ⟨_, he.1, by have := HX.out w' hw' e w2 he; rw [he.1] at this; exact this⟩
    intro v10
    simp only [Act.put, List.setIfInBounds_toArray, List.set_cons_succ, List.set_cons_zero]
    apply stepX_fact (fun _ _ => False) (fun v w w' h hx => h) rfl rfl rfl
    · intro w' hw' hH
      exact (hH _ (List.mem_cons_self ..) ⟨_, rfl, by decide⟩).elim
    intro v11
    simp only [Act.put, List.setIfInBounds_toArray, List.set_cons_succ, List.set_cons_zero]
    apply stepX_det (.pointer (some ⟨g, i * 5, none⟩)) rfl rfl rfl
    · intro w' hw' hH
      clear hH hw'
      simp [YieldsX, go_sem, q1]
      exact Ext.refl _
    apply stepX_det (.pointer (some ⟨g, i * 5 + 2, none⟩)) rfl rfl rfl
    · intro w' hw' hH
      clear hH hw'
      simp [YieldsX, go_sem, q1]
      exact Ext.refl _
    simp only [Act.put, List.setIfInBounds_toArray, List.set_cons_succ, List.set_cons_zero]
    apply stepX_fact (fun _ _ => False) (fun v w w' h hx => h) rfl rfl rfl
    · intro w' hw' hH
      exact (hH _ (List.mem_cons_self ..) ⟨_, rfl, by decide⟩).elim
    intro v12
    simp only [Act.put, List.setIfInBounds_toArray, List.set_cons_succ, List.set_cons_zero]
    apply WalkX_nil
    intro w' hw' hH
    exact (hH _ (List.mem_cons_self ..)).elim
set_option maxRecDepth 100000 in
set_option maxHeartbeats 1000000 in
theorem pnumAt_any (w : World) (p B : Nat) (s : Ps) (R : PRep) (i gc : Nat) (h : PS w p B s R) (hi : i < s.nd.length) (hs : Safe w (MineP p R) gc 55 #[.pointer (some ⟨p, 0, none⟩)]) :
    Calls Tryz.prog 146 #[.int .i64 (i : Int), .pointer (some ⟨gc, 0, none⟩)] w (PostU w p B R (numAtP i s)) := by
  obtain ⟨g, hi', hA, hgl, hgp⟩ := h.node_at hi
  have x1 := h.x1' hA
  have q0 : (0 : Int) ≤ (i : Int) := Int.natCast_nonneg _
  have q1 : (i : Int) < (R.nh.length : Int) := by omega
  have HP := Lib.hid h
  have HA := Lib.hid hA
  have hf4 := tokField4
  have hpl := h.blk.lt
  have hcl := hs.1.lt
  have cg : w.cell? ⟨gc, 0, none⟩ = some (.pointer (some ⟨p, 0, none⟩)) := hs.1.cell 0
  have HSF := Lib.hid hs
  have hcp : gc ≠ p := fun e => hs.2 (.inl e)
  have hcg : gc ≠ g := fun e => hs.2 (.inr (.inl (by rw [e]; exact hA)))
  clear h hA hi hs
  by_cases hk : s.hd.kind = 2
  · have HK := Lib.hid hk
    have HN : Hid (numAtP i s = .ok () (s.adv.num i s.hd.n)) := Lib.hid (by unfold numAtP ofP; rw [if_pos hk]; rfl)
    clear hk
    go_enter Tryz.func146, Tryz.ntmps146
    go_wp2_with fail
    go_region_held3 (fun w' => w'.cell? ⟨p, 1, none⟩ = some (.slice (some ⟨g, 0, none⟩) R.nh.length R.c) ∧ w'.cell? ⟨gc, 0, none⟩ = some (.pointer (some ⟨p, 0, none⟩)))
      (first
        | exact ⟨y1, yg⟩
        | go_keep
        | exact ⟨y1s _, ygs _⟩)
      (first
        | (go_at_call 104; refine (pof_yes _ p B s R 2 HK (by decide) (HP.out.ext (by first | exact Ext.refl _ | exact Below.drew (Below.refl _ _)))).mono ?_; rintro e w1 ⟨rfl, ho⟩; simp only [kcell]; have y1 := ho.1.x1' HA.out; have HO := Lib.hid ho; have c2 : w1.cell? ⟨g, i * 5 + 3, none⟩ = some (.int .i64 R.nh[i].1.num) := (ho.1.nodeCell i hi' HA.out 3 (by decide)); have z2 := ho.1.nthaw (i * 5 + 3) HA.out; have yg : w1.cell? ⟨gc, 0, none⟩ = some (.pointer (some ⟨p, 0, none⟩)) := ((HSF.out.moves (Moves.ext (Below.drew (Below.refl _ _)))).moves ho.2).1.cell 0; have ygs : ∀ u, (w1.setCell ⟨g, i * 5 + 3, none⟩ u).cell? ⟨gc, 0, none⟩ = some (.pointer (some ⟨p, 0, none⟩)) := fun u => (World.cell?_of_block (w := w1) (a := ⟨gc, 0, none⟩) (Below.heap_setCell w1 ⟨g, i * 5 + 3, none⟩ u gc hcg)).trans yg; have y1s : ∀ u, (w1.setCell ⟨g, i * 5 + 3, none⟩ u).cell? ⟨p, 1, none⟩ = some (.slice (some ⟨g, 0, none⟩) R.nh.length R.c) := fun u => (World.cell?_of_block (w := w1) (a := ⟨p, 1, none⟩) (Below.heap_setCell w1 ⟨g, i * 5 + 3, none⟩ u p (fun e => hgp e.symm))).trans y1; clear ho)
        | (fail))
    have HF : Hid (OkP w p B R (s.adv.num i s.hd.n) (w1.setCell ⟨g, i * 5 + 3, none⟩ (.int .i64 s.hd.n))) := Lib.hid (OkP.trans ((Moves.ext (Below.drew (Below.refl _ _))).trans HO.out.2) (HO.out.1.put i hi' 3 (by decide) _ (fun n => { n with num := s.hd.n }) (fun _ => rfl) rfl HA.out))
    go_wp2_with fail
    go_end0
    rw [HN.out]
    exact PostU.ok HF.out
  · have HK : Hid (s.hd.kind ≠ 2) := Lib.hid hk
    have HN : Hid (numAtP i s = .err 50 s.hd.at_) := Lib.hid (by unfold numAtP ofP; rw [if_neg hk]; rfl)
    clear hk
    go_enter Tryz.func146, Tryz.ntmps146
    go_wp2_with fail
    have HX : Hid (∀ w', Ext w w' → ∀ e w2, ErrP w' p B R 50 s.hd.at_ e w2 → PostU w p B R (numAtP i s) e w2) := Lib.hid fun w' hx e w2 he => by rw [HN.out]; exact ErrP.trans (Moves.ext hx) he
    apply region_extX (fun c w2 => PostU w p B R (numAtP i s) (.panicked c) w2) (by kernel_rfl) (by kernel_rfl) (by kernel_rfl) (fun a' ha c w2 hx => ⟨ha, hx⟩)
    apply stepX_det (.pointer (some ⟨p, 0, none⟩)) rfl rfl rfl
    · intro w' hw' hH
      have cc := (hw'.cell (p := ⟨gc, 0, none⟩) hcl).trans cg
      clear hH hw'
      simp [YieldsX, go_sem, cc]
      exact Ext.refl _
    apply stepX_det (.pointer (some ⟨p, 0, none⟩)) rfl rfl rfl
    · intro w' hw' hH
      clear hH hw'
      simp [YieldsX, go_sem]
      exact Ext.refl _
    apply stepX_det (.pointer (some ⟨p, 1, none⟩)) rfl rfl rfl
    · intro w' hw' hH
      clear hH hw'
      simp [YieldsX, go_sem]
      exact Ext.refl _
    apply stepX_det (.slice (some ⟨g, 0, none⟩) R.nh.length R.c) rfl rfl rfl
    · intro w' hw' hH
      have cc := (hw'.cell (p := ⟨p, 1, none⟩) hpl).trans x1
      clear hH hw'
      simp [YieldsX, go_sem, cc]
      exact Ext.refl _
    apply stepX_det (.int .i64 (i : Int)) rfl rfl rfl
    · intro w' hw' hH
      clear hH hw'
      simp [YieldsX, go_sem]
      exact Ext.refl _
    apply stepX_det (.pointer (some ⟨p, 0, none⟩)) rfl rfl rfl
    · intro w' hw' hH
      have cc := (hw'.cell (p := ⟨gc, 0, none⟩) hcl).trans cg
      clear hH hw'
      simp [YieldsX, go_sem, cc]
      exact Ext.refl _
    simp only [Act.put, List.setIfInBounds_toArray, List.set_cons_succ, List.set_cons_zero]
    apply stepX_fact (fun _ _ => False) (fun v w w' h hx => h) rfl rfl rfl
    · intro w' hw' hH
      clear hH
      simp [YieldsX, go_sem]
      refine (pof_no w' p B s R 2 HK (HP.out.ext hw')).mono ?_
      intro e w2 he
      exact ⟨_, he.1, by have := HX.out w' hw' e w2 he; rw [he.1] at this; exact this⟩
    intro v10
    simp only [Act.put, List.setIfInBounds_toArray, List.set_cons_succ, List.set_cons_zero]
    apply stepX_fact (fun _ _ => False) (fun v w w' h hx => h) rfl rfl rfl
    · intro w' hw' hH
      exact (hH _ (List.mem_cons_self ..) ⟨_, rfl, by decide⟩).elim
    intro v11
    simp only [Act.put, List.setIfInBounds_toArray, List.set_cons_succ, List.set_cons_zero]
    apply stepX_det (.pointer (some ⟨g, i * 5, none⟩)) rfl rfl rfl
    · intro w' hw' hH
      clear hH hw'
      simp [YieldsX, go_sem, q1]
      exact Ext.refl _
    apply stepX_det (.pointer (some ⟨g, i * 5 + 3, none⟩)) rfl rfl rfl
    · intro w' hw' hH
      clear hH hw'
      simp [YieldsX, go_sem, q1]
      exact Ext.refl _
    simp only [Act.put, List.setIfInBounds_toArray, List.set_cons_succ, List.set_cons_zero]
    apply stepX_fact (fun _ _ => False) (fun v w w' h hx => h) rfl rfl rfl
    · intro w' hw' hH
      exact (hH _ (List.mem_cons_self ..) ⟨_, rfl, by decide⟩).elim
    intro v12
    simp only [Act.put, List.setIfInBounds_toArray, List.set_cons_succ, List.set_cons_zero]
    apply WalkX_nil
    intro w' hw' hH
    exact (hH _ (List.mem_cons_self ..)).elim
end Go.Proofs.YtcccnicldbpieaaGreatDoor
