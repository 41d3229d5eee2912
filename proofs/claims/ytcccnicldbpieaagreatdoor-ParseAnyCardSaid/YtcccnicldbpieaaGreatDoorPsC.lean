/- The program's kid: a node as a kid of another one. Condition: the nodes fit into memory. -/
import Derived.Test.YtcccnicldbpieaaGreatDoorPsB
namespace Go.Proofs.YtcccnicldbpieaaGreatDoor
open Go Go.RowKit
set_option linter.unusedVariables false
set_option linter.unusedSimpArgs false
theorem PostV.trans {w w1 w2 : World} {p B : Nat} {R R1 : PRep} {v : Value} {r : Res Unit} {e : Ending} (h : Moves w (MineP p R) w1 (MineP p R1)) (k : PostV w1 p B R1 v r e w2) : PostV w p B R v r e w2 := by
  cases r with
  | ok a s => exact ⟨k.1, OkP.trans h k.2⟩
  | err er a => exact ErrP.trans h k
theorem map_modify {α β : Type} (f : α → β) (g : α → α) (k : β → β) (h : ∀ x, f (g x) = k (f x)) : ∀ (l : List α) (i : Nat), (l.modify i g).map f = (l.map f).modify i k
  | [], i => by simp
  | x :: l, 0 => by simp [h]
  | x :: l, i + 1 => by simp [map_modify f g k h l i]
/-- A kid more: its number appended, the head stored. -/
theorem PS.kid {W w1 : World} {p B : Nat} {s : Ps} {R : PRep} (h : PS W p B s R) (i : Nat) (hi : i < R.nh.length) {g gk cap : Nat} (hA : R.A = some ⟨g, 0, none⟩)
    (ho : w1.ownsRow B 3 1 (.slice (some ⟨gk, 0, none⟩) (R.nh[i].1.kids.length + 1) cap) (R.nh[i].1.kids.length + 1) (ints R.nh[i].1.kids ++ [Value.int .i64 (R.nh.length : Int)])) (hg : W.grownBy w1 (Value.slice R.nh[i].2.1 R.nh[i].1.kids.length R.nh[i].2.2).ownBlock)
    (hf : (Value.slice R.nh[i].2.1 R.nh[i].1.kids.length R.nh[i].2.2).ownBlock = some gk ∨ W.heap.size ≤ gk) :
    OkP W p B R (s.kid i) (w1.setCell ⟨g, i * 5 + 4, none⟩ (.slice (some ⟨gk, 0, none⟩) (R.nh[i].1.kids.length + 1) cap)) := by
  have hlen := h.len
  have hns := h.ns.kid (by decide) i hi R.nh.length hA ho hg hf
  have hpo : (Value.slice R.nh[i].2.1 R.nh[i].1.kids.length R.nh[i].2.2).ownBlock ≠ some p := fun e => by
    obtain ⟨cur, hc⟩ := own_type (h.ns.kids _ (List.getElem_mem hi)) (own_block (h.ns.kids _ (List.getElem_mem hi)) e)
    exact Blk.differ h.blk hc (by decide) rfl
  have hpg : p ≠ g := fun e => by
    obtain ⟨cur, hc⟩ := own_type h.ns.row hA
    rw [← e] at hc
    exact Blk.differ h.blk hc (by decide) rfl
  have hgB := (own_lt h.ns.row hA).1
  have hgl := (own_lt h.ns.row hA).2
  refine ⟨{ R with nh := R.nh.modify i fun x => ({ x.1 with kids := x.1.kids ++ [R.nh.length] }, (some ⟨gk, 0, none⟩, cap)) }, ⟨?_, fun k hk => ?_, h.tcap, h.tlow, ?_, hns, h.pB, ⟨h.good.last, h.good.deep⟩⟩, ?_⟩
  · have hb1 : Blk w1 p 57 _ := (hg.block p h.blk.lt (fun e => hpo e.symm)).trans h.blk
    have := hb1.far (p := ⟨g, i * 5 + 4, none⟩) hpg (.slice (some ⟨gk, 0, none⟩) (R.nh[i].1.kids.length + 1) cap)
    show Blk _ p 57 #[.slice _ s.ts.length _, .slice _ (R.nh.modify i _).length _, .int .i64 (s.deep : Int)]
    rw [List.length_modify]
    exact this
  · have hlt := h.tlow
    have hne : R.bt ≠ g := by omega
    have e1 : w1.heap[R.bt]? = W.heap[R.bt]? := hg.block R.bt h.btl fun e => by
      have := (own_lt (h.ns.kids _ (List.getElem_mem hi)) (own_block (h.ns.kids _ (List.getElem_mem hi)) e.symm)).1
      omega
    have e2 := World.cell?_of_block (w := W) (w' := w1.setCell ⟨g, i * 5 + 4, none⟩ (.slice (some ⟨gk, 0, none⟩) (R.nh[i].1.kids.length + 1) cap)) (a := ⟨R.bt, R.ot + k, none⟩) ((Below.heap_setCell w1 ⟨g, i * 5 + 4, none⟩ _ R.bt hne).trans e1)
    exact e2.trans (h.toks k hk)
  · show (s.kid i).nd = _
    rw [map_modify Prod.fst _ (fun n : Nd => { n with kids := n.kids ++ [R.nh.length] }) (fun x => rfl), ← h.nodes, ← hlen]
    rfl
  · refine ⟨hg.os, hg.tape, hg.output, by have := hg.size; simp [World.setCell]; omega, fun b hb hM => ?_, fun b hb => ?_⟩
    · have hbg : b ≠ g := fun e => hM (.inr (.inl (by rw [e]; exact hA)))
      rw [Below.heap_setCell w1 ⟨g, i * 5 + 4, none⟩ _ b hbg]
      exact hg.block b hb fun e => hM (.inr (.inr (List.mem_map.2 ⟨_, List.getElem_mem hi, own_block (h.ns.kids _ (List.getElem_mem hi)) e.symm⟩)))
    · rcases hb with hb | hb
      · exact .inl (.inl hb)
      · rcases kid_mine h.ns hi (fun n => { n with kids := n.kids ++ [R.nh.length] }) hf b hb with h1 | h1
        · exact .inl (.inr h1)
        · exact .inr h1
theorem PS.nodeCell {w : World} {p B : Nat} {s : Ps} {R : PRep} (h : PS w p B s R) (i : Nat) (hi : i < R.nh.length) {g : Nat} (hA : R.A = some ⟨g, 0, none⟩) (j : Nat) (hj : j < 5) : w.cell? ⟨g, i * 5 + j, none⟩ = (ncell R.nh[i])[j]? := by
  have hr := h.ns.row
  rw [hA] at hr
  rw [hr.cellAt (i * 5 + j) (by omega)]
  exact ncs_at R.nh i hi j hj
theorem PS.nthaw {w : World} {p B : Nat} {s : Ps} {R : PRep} (h : PS w p B s R) (k : Nat) {g : Nat} (hA : R.A = some ⟨g, 0, none⟩) : w.frozen? ⟨g, k, none⟩ = false := by
  obtain ⟨cur, hc⟩ := own_type h.ns.row hA
  exact hc.frozen k
theorem PS.nslot {w : World} {p B : Nat} {s : Ps} {R : PRep} (h : PS w p B s R) (hn : 0 < R.nh.length) : ∃ g, R.A = some ⟨g, 0, none⟩ := by
  rcases own_zero h.ns.row with e | e
  · have hr := h.ns.row
    rw [e] at hr
    rcases hr.2 with ⟨_, h0⟩ | ⟨g, _, _, hv, _⟩
    · omega
    · cases hv
  · exact e
set_option maxRecDepth 100000 in
set_option maxHeartbeats 4000000 in
theorem pkid_any (w : World) (p B : Nat) (s : Ps) (R : PRep) (i kind : Nat) (F : Option Addr) (l : List KF) (fc : Nat) (h : PS w p B s R) (hi : i < s.nd.length) (hbig : s.nd.length ≤ 1000000) (hl : l.length ≤ 10) (hG : Good s)
    (hF : SafeC w (MineP p R) F (l.map KF.val)) (he : ∀ f ∈ l, ∀ args w, (callFunc f.K args).run Tryz.prog w = .ok (.enter f.K args) w)
    (hd : ∀ (k : Nat) (hk : k < l.length) (s' : Ps) (wr : World) (R' : PRep), seqK (l.take k) (s.kidNode i kind) = .ok () s' → Moves w (MineP p R) wr (MineP p R') → PS wr p B s' R' → Calls Tryz.prog l[k].K (l[k].first ++ #[.int .i64 (s.nd.length : Int)] ++ l[k].cap) wr (PostU wr p B R' (l[k].m s'))) :
    Calls Tryz.prog 77 #[.pointer (some ⟨p, 0, none⟩), .int .i64 (i : Int), .int .u8 (kind : Int), .slice F l.length fc] w (PostV w p B R (.int .i64 (s.nd.length : Int)) (seqK l (s.kidNode i kind))) := by
  obtain ⟨i0, hi0, hz0, hz1, hz2⟩ := info_parts infoInt
  have hlen := h.len
  have hi' : i < R.nh.length := by omega
  obtain ⟨g, hA⟩ := h.nslot (by omega)
  obtain ⟨x, hxi⟩ : ∃ x, R.nh[i] = x := ⟨_, rfl⟩
  obtain ⟨⟨nk, np, nt, nn, kk⟩, kA, kc⟩ := x
  have c4 : w.cell? ⟨g, i * 5 + 4, none⟩ = some (.slice kA kk.length kc) := by rw [h.nodeCell i hi' hA 4 (by decide), hxi]; rfl
  have hkr := h.ns.rowH _ (List.getElem_mem hi')
  have hkk := h.ns.kids _ (List.getElem_mem hi')
  rw [hxi] at hkr hkk
  simp only at hkr hkk
  obtain ⟨o, HO⟩ : ∃ o, Hid ((Value.slice kA kk.length kc).ownBlock = o) := ⟨_, Lib.hid rfl⟩
  have HPN : Hid (some p ≠ o) := Lib.hid fun e => by
    rw [← HO.out] at e
    obtain ⟨cur, hc⟩ := own_type hkk (own_block hkk e.symm)
    exact Blk.differ h.blk hc (by decide) rfl
  have HGN : Hid (some g ≠ o) := Lib.hid fun e => by
    rw [← HO.out] at e
    obtain ⟨cur, hc⟩ := own_type hkk (own_block hkk e.symm)
    obtain ⟨cur2, hc2⟩ := own_type h.ns.row hA
    exact Blk.differ hc2 hc (by decide) rfl
  have HOG : Hid (∀ g, o = some g → g < w.heap.size) := Lib.hid fun g e => by
    rw [← HO.out] at e
    exact (own_lt hkk (own_block hkk e)).2
  have hgl := (own_lt h.ns.row hA).2
  have hpl := h.blk.lt
  have HBW : Hid (B ≤ w.heap.size) := Lib.hid (Nat.le_trans h.pB (Nat.le_of_lt hpl))
  have HXI := Lib.hid hxi
  have HP := Lib.hid h
  have HA := Lib.hid hA
  have HKR := Lib.hid hkr
  have HFC := Lib.hid hF
  have HE := Lib.hid he
  have HD := Lib.hid hd
  have HLN := Lib.hid hlen
  have HKB : Hid (kk.length ≤ 1000000) := Lib.hid (by
    have := hG.few (R.nh[i].1) (by rw [h.nodes]; exact List.mem_map.2 ⟨_, List.getElem_mem hi', rfl⟩)
    rw [HXI.out] at this
    simp only at this
    omega)
  rw [hlen] at hbig
  obtain ⟨Fs, HFS⟩ : ∃ Fs, Hid (FsH B 3 (.slice kA kk.length kc) w.heap.size kk.length (ints kk) [Value.int .i64 (R.nh.length : Int)] = Fs) := ⟨_, Lib.hid rfl⟩
  have hE : ∀ F ∈ Fs, ∀ v w w', F v w → Ext w w' → F v w' := by rw [← HFS.out]; exact FsH_ext _ _ _ _ _ _ _
  have m0 : (fun (_ : Value) w => RowFH B 3 kk.length (ints kk) (.slice kA kk.length kc) w) ∈ Fs := by rw [← HFS.out]; simp only [FsH, List.mem_cons, true_or]
  have m1 : LitN 3 w.heap.size #[Value.int .i64 (R.nh.length : Int)] ∈ Fs := by rw [← HFS.out]; simp only [FsH, List.mem_cons, true_or, or_true]
  have m2 : ResH B 3 o w.heap.size (kk.length + 1) (ints kk ++ [Value.int .i64 (R.nh.length : Int)]) ∈ Fs := by rw [← HFS.out, ← HO.out]; simp only [FsH, List.mem_cons, true_or, or_true]
  have HE2 := Lib.hid hE
  have M0 := Lib.hid m0
  have M1 := Lib.hid m1
  have M2 := Lib.hid m2
  have q0 : (i : Int) < (R.nh.length : Int) := by omega
  have C4 := Lib.hid c4
  clear h hF he hd hlen hE m0 m1 m2 hxi hkr hkk hA c4 hG hi
  go_enter Tryz.func77, Tryz.ntmps77
  go_upto_region 1 with fail
  apply region_app o Fs 22 (by kernel_rfl) (by kernel_rfl) (by kernel_rfl) HE2.out
  dsimp only [List.take_succ_cons, List.take_zero, List.drop_succ_cons, List.drop_zero]
  apply step_det (.pointer (some ⟨p, 0, none⟩)) rfl rfl rfl
  · intro w' hw' hH
    clear hH hw'
    simp [YieldsF, go_sem]
    exact AppR.refl _
  apply step_det (.pointer (some ⟨p, 0, none⟩)) rfl rfl rfl
  · intro w' hw' hH
    clear hH hw'
    simp [YieldsF, go_sem]
    exact AppR.refl _
  apply step_det (.pointer (some ⟨p, 1, none⟩)) rfl rfl rfl
  · intro w' hw' hH
    clear hH hw'
    simp [YieldsF, go_sem]
    exact AppR.refl _
  simp only [Act.put, List.setIfInBounds_toArray, List.set_cons_succ, List.set_cons_zero]
  apply step_det (.slice (some ⟨g, 0, none⟩) R.nh.length R.c) rfl rfl rfl
  · intro w' hw' hH
    have hR := AppR.refl (o := o) (Fs := Fs) w'
    have cc := Blk.cell ((hw'.1.block p hpl HPN.out).trans HP.out.blk) 1
    rw [HA.out] at cc
    clear hH hw'
    simp [YieldsF, go_sem, cc, q0]
    exact hR
  apply step_det (.int .i64 (i : Int)) rfl rfl rfl
  · intro w' hw' hH
    clear hH hw'
    simp [YieldsF, go_sem]
    exact AppR.refl _
  apply step_det (.pointer (some ⟨p, 0, none⟩)) rfl rfl rfl
  · intro w' hw' hH
    clear hH hw'
    simp [YieldsF, go_sem]
    exact AppR.refl _
  apply step_det (.pointer (some ⟨p, 0, none⟩)) rfl rfl rfl
  · intro w' hw' hH
    clear hH hw'
    simp [YieldsF, go_sem]
    exact AppR.refl _
  apply step_det (.pointer (some ⟨p, 1, none⟩)) rfl rfl rfl
  · intro w' hw' hH
    clear hH hw'
    simp [YieldsF, go_sem]
    exact AppR.refl _
  simp only [Act.put, List.setIfInBounds_toArray, List.set_cons_succ, List.set_cons_zero]
  apply step_det (.slice (some ⟨g, 0, none⟩) R.nh.length R.c) rfl rfl rfl
  · intro w' hw' hH
    have hR := AppR.refl (o := o) (Fs := Fs) w'
    have cc := Blk.cell ((hw'.1.block p hpl HPN.out).trans HP.out.blk) 1
    rw [HA.out] at cc
    clear hH hw'
    simp [YieldsF, go_sem, cc, q0]
    exact hR
  apply step_det (.int .i64 (i : Int)) rfl rfl rfl
  · intro w' hw' hH
    clear hH hw'
    simp [YieldsF, go_sem]
    exact AppR.refl _
  simp only [Act.put, List.setIfInBounds_toArray, List.set_cons_succ, List.set_cons_zero]
  apply step_det (.pointer (some ⟨g, i * 5, none⟩)) rfl rfl rfl
  · intro w' hw' hH
    clear hH hw'
    simp [YieldsF, go_sem, q0]
    exact AppR.refl _
  apply step_det (.pointer (some ⟨g, i * 5 + 4, none⟩)) rfl rfl rfl
  · intro w' hw' hH
    clear hH hw'
    simp [YieldsF, go_sem, q0]
    exact AppR.refl _
  simp only [Act.put, List.setIfInBounds_toArray, List.set_cons_succ, List.set_cons_zero]
  apply step_det (.slice kA kk.length kc) rfl rfl rfl
  · intro w' hw' hH
    have hR := AppR.refl (o := o) (Fs := Fs) w'
    have cc := (World.cell?_of_block (w := w) (a := ⟨g, i * 5 + 4, none⟩) (hw'.1.block g hgl HGN.out)).trans C4.out
    clear hH hw'
    simp [YieldsF, go_sem, cc, q0]
    exact hR
  apply step_det (.pointer (some ⟨p, 0, none⟩)) rfl rfl rfl
  · intro w' hw' hH
    clear hH hw'
    simp [YieldsF, go_sem]
    exact AppR.refl _
  apply step_det (.pointer (some ⟨p, 0, none⟩)) rfl rfl rfl
  · intro w' hw' hH
    clear hH hw'
    simp [YieldsF, go_sem]
    exact AppR.refl _
  apply step_det (.pointer (some ⟨p, 1, none⟩)) rfl rfl rfl
  · intro w' hw' hH
    clear hH hw'
    simp [YieldsF, go_sem]
    exact AppR.refl _
  simp only [Act.put, List.setIfInBounds_toArray, List.set_cons_succ, List.set_cons_zero]
  apply step_det (.slice (some ⟨g, 0, none⟩) R.nh.length R.c) rfl rfl rfl
  · intro w' hw' hH
    have hR := AppR.refl (o := o) (Fs := Fs) w'
    have cc := Blk.cell ((hw'.1.block p hpl HPN.out).trans HP.out.blk) 1
    rw [HA.out] at cc
    clear hH hw'
    simp [YieldsF, go_sem, cc, q0]
    exact hR
  simp only [Act.put, List.setIfInBounds_toArray, List.set_cons_succ, List.set_cons_zero]
  apply step_det (.int .i64 (R.nh.length : Int)) rfl rfl rfl
  · intro w' hw' hH
    clear hH hw'
    simp [YieldsF, go_sem]
    exact AppR.refl _
  apply step_fact (LitN 3 w.heap.size #[Value.int .i64 (R.nh.length : Int)]) (fun v w w' h hx => hx.2 _ M1.out v h) rfl rfl rfl
  · intro w' hw' hH
    have hz := hw'.1.size
    clear hH hw'
    simp [YieldsF, go_sem]
    exact ⟨⟨_, rfl, Blk.new _ _ _, hz⟩, AppR.ext HE2.out (Ext.alloc _ _)⟩
  intro v27
  simp only [Act.put, List.setIfInBounds_toArray, List.set_cons_succ, List.set_cons_zero]
  apply step_fact (ResH B 3 o w.heap.size (kk.length + 1) (ints kk ++ [Value.int .i64 (R.nh.length : Int)])) (fun v w w' h hx => hx.2 _ M2.out v h) rfl rfl rfl
  · intro w' hw' hH
    have hlit := hH _ (List.mem_cons_self ..) ⟨_, rfl, by decide⟩
    have hrow := hw'.2 _ M0.out undef HKR.out
    have hz := hw'.1.size
    clear hH hw'
    rw [← HFS.out, ← HO.out]
    exact yields_appH B w.heap.size (.tmp 21) (.tmp 27) 48 rfl 3 i0 _ 8 Tryz.underlying48 hi0 hz0 hz1 hz2 rfl (.slice kA kk.length kc) kk.length (ints kk) [Value.int .i64 (R.nh.length : Int)] (by kernel_rfl) hrow v27 (by kernel_rfl) hlit rfl (by simp [Value.oneCell']) (by unfold maxLen; have := HKB.out; omega) (by have := HKB.out; omega) (Nat.le_trans HBW.out hz) hz (fun g e => HOG.out g (by rw [← HO.out]; exact e))
  intro v28
  simp only [Act.put, List.setIfInBounds_toArray, List.set_cons_succ, List.set_cons_zero]
  apply step_det (.pointer (some ⟨g, i * 5, none⟩)) rfl rfl rfl
  · intro w' hw' hH
    clear hH hw'
    simp [YieldsF, go_sem, q0]
    exact AppR.refl _
  apply step_det (.pointer (some ⟨g, i * 5 + 4, none⟩)) rfl rfl rfl
  · intro w' hw' hH
    clear hH hw'
    simp [YieldsF, go_sem, q0]
    exact AppR.refl _
  apply WalkF_nil
  intro w2 hw2 hH
  have h28 := hH _ (List.mem_cons_self ..)
  clear hH
  obtain ⟨gk, cap, rfl⟩ := h28.1.at
  have hgr := hw2.1
  have hgb := hw2.1.block g hgl HGN.out
  rw [← HO.out] at hgr
  have HS : Hid (OkP w p B R (s.kid i) (w2.setCell ⟨g, i * 5 + 4, none⟩ (.slice (some ⟨gk, 0, none⟩) (kk.length + 1) cap))) := Lib.hid (by
    have hh := PS.kid (gk := gk) (cap := cap) HP.out i hi' HA.out (w1 := w2) (by rw [HXI.out]; exact h28.1.1) (by rw [HXI.out]; exact hgr) (by
      rw [HXI.out]
      rcases h28.2 with e | ⟨g', e, hg'⟩
      · left; rw [HO.out, ← e]; rfl
      · right; have : gk = g' := by simpa [Value.ownBlock] using e
        omega)
    rw [HXI.out] at hh
    exact hh)
  have y1 : w2.cell? ⟨g, i * 5 + 4, none⟩ = some (.slice kA kk.length kc) := (World.cell?_of_block (w := w) (a := ⟨g, i * 5 + 4, none⟩) hgb).trans C4.out
  have z1 : w2.frozen? ⟨g, i * 5 + 4, none⟩ = false := (World.frozen?_of_block (w := w) (a := ⟨g, i * 5 + 4, none⟩) hgb).trans (HP.out.nthaw _ HA.out)
  clear h28 hgr hgb hw2
  simp only [Act.put, List.setIfInBounds_toArray, List.set_cons_succ, List.set_cons_zero]
  go_wp2_with fail
  clear y1 z1
  generalize w2.setCell ⟨g, i * 5 + 4, none⟩ (.slice (some ⟨gk, 0, none⟩) (kk.length + 1) cap) = w3 at *
  obtain ⟨R3, hps3, hmv3⟩ := HS.out
  have hl3 : (s.kid i).nd.length = s.nd.length := on_len
  refine (pnode_any w3 p B (s.kid i) R3 kind F l fc hps3 (by rw [hl3, HLN.out]; exact hbig) hl (HFC.out.moves hmv3) HE.out (fun k hk s' wr R' h1 h2 h3 => by rw [hl3]; exact HD.out k hk s' wr R' h1 (hmv3.trans h2) h3)).mono ?_
  have HL3 := Lib.hid hl3
  have HMV := Lib.hid hmv3
  clear hps3 hmv3 hl3
  intro e w4 hpost
  have hres : PostV w p B R (.int .i64 (s.nd.length : Int)) (seqK l (s.kidNode i kind)) e w4 := by
    have hp := hpost
    rw [HL3.out] at hp
    exact PostV.trans HMV.out hp
  cases hq : seqK l (s.kidNode i kind) with
  | ok a s2 =>
    rw [hq] at hres
    obtain ⟨he, ho⟩ := hres
    subst he
    have HOF := Lib.hid ho
    have HQ := Lib.hid hq
    clear hpost ho hq
    go_wp2_with fail
    go_ret
    rw [HQ.out]
    exact ⟨rfl, HOF.out⟩
  | err er a =>
    rw [hq] at hres
    obtain ⟨he, ho⟩ := hres
    subst he
    refine panics_post (P := Tryz.prog) (fn := Tryz.f77) rfl ?_
    exact ⟨rfl, ho⟩
theorem pkid_none (w : World) (p B : Nat) (s : Ps) (R : PRep) (i kind : Nat) (h : PS w p B s R) (hi : i < s.nd.length) (hbig : s.nd.length ≤ 1000000) (hG : Good s) :
    Calls Tryz.prog 77 #[.pointer (some ⟨p, 0, none⟩), .int .i64 (i : Int), .int .u8 (kind : Int), .slice none 0 0] w (PostV w p B R (.int .i64 (s.nd.length : Int)) (.ok () (s.kidNode i kind))) :=
  pkid_any w p B s R i kind none [] 0 h hi hbig (by decide) hG (.inl rfl) (fun f hf => by cases hf) (fun k hk => by cases hk)
end Go.Proofs.YtcccnicldbpieaaGreatDoor
