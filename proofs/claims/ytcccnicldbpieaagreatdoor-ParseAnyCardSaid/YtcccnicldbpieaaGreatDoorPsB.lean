/- The program's node: a node more, then its kids' makers, one behind the other. Condition: the nodes fit into memory. -/
import Derived.Test.YtcccnicldbpieaaGreatDoorPsA
import Derived.Test.YtcccnicldbpieaaGreatDoorPsR
import Derived.Deep.Cut
namespace Go.Proofs.YtcccnicldbpieaaGreatDoor
open Go Go.RowKit
set_option linter.unusedVariables false
set_option linter.unusedSimpArgs false
theorem infoNode : (Tryz.prog.info? 50).map (fun i => (i.zero, i.size, i.bytes)) = some (some (.agg #[.int .u8 0, .int .i64 0, .string ⟨#[]⟩, .int .i64 0, .slice none 0 0]), 5, 64) := by kernel_rfl
theorem infoInt : (Tryz.prog.info? 3).map (fun i => (i.zero, i.size, i.bytes)) = some (some (.int .i64 0), 1, 8) := by kernel_rfl
/-- A node more: the row grown, its head stored. -/
theorem PS.snoc {w W w1 : World} {p B : Nat} {s : Ps} {R : PRep} (h : PS W p B s R) (hw : Ext w W) (x : Nd) (hx : x.kids = []) {g cap : Nat}
    (ho : w1.ownsRow B 50 5 (.slice (some ⟨g, 0, none⟩) (R.nh.length + 1) cap) (R.nh.length + 1) (ncs R.nh ++ ncell (x, (none, 0)))) (hg : W.grownBy w1 (Value.slice R.A R.nh.length R.c).ownBlock)
    (hf : (Value.slice R.A R.nh.length R.c).ownBlock = some g ∨ w.heap.size ≤ g) :
    PS (w1.setCell ⟨p, 1, none⟩ (.slice (some ⟨g, 0, none⟩) (R.nh.length + 1) cap)) p B (s.add x) { R with A := some ⟨g, 0, none⟩, c := cap, nh := R.nh ++ [(x, (none, 0))] } ∧
      Moves w (MineP p R) (w1.setCell ⟨p, 1, none⟩ (.slice (some ⟨g, 0, none⟩) (R.nh.length + 1) cap)) (MineP p { R with A := some ⟨g, 0, none⟩, c := cap, nh := R.nh ++ [(x, (none, 0))] }) := by
  have hpne : (Value.slice R.A R.nh.length R.c).ownBlock ≠ some p := fun e => by
    obtain ⟨cur, hc⟩ := own_type h.ns.row (own_block h.ns.row e)
    exact Blk.differ h.blk hc (by decide) rfl
  have hb1 : Blk w1 p 57 _ := (hg.block p h.blk.lt (fun e => hpne e.symm)).trans h.blk
  have hpB := h.pB
  have hpl := h.blk.lt
  have hns := (h.ns.snoc (by decide) x hx ho hg)
  refine ⟨⟨?_, fun k hk => ?_, h.tcap, h.tlow, ?_, ?_, h.pB, ⟨h.good.last, h.good.deep⟩⟩, ?_⟩
  · have := hb1.put 1 (.slice (some ⟨g, 0, none⟩) (R.nh.length + 1) cap)
    show Blk _ p 57 #[.slice _ s.ts.length _, .slice _ (R.nh ++ [(x, (none, 0))]).length _, .int .i64 (s.deep : Int)]
    rw [List.length_append]
    simpa using this
  · have hlt := h.tlow
    have hne : R.bt ≠ p := by omega
    show (w1.setCell _ _).cell? ⟨R.bt, R.ot + k, none⟩ = _
    have e1 : w1.heap[R.bt]? = W.heap[R.bt]? := hg.block R.bt h.btl fun e => by
      have := (own_lt h.ns.row (own_block h.ns.row e.symm)).1
      omega
    have e2 := World.cell?_of_block (w := W) (w' := w1.setCell ⟨p, 1, none⟩ (.slice (some ⟨g, 0, none⟩) (R.nh.length + 1) cap)) (a := ⟨R.bt, R.ot + k, none⟩) ((Below.heap_setCell w1 ⟨p, 1, none⟩ _ R.bt hne).trans e1)
    exact e2.trans (h.toks k hk)
  · show s.nd ++ [x] = _
    rw [h.nodes, List.map_append]
    rfl
  · refine hns.keep fun b hb => Below.heap_setCell w1 ⟨p, 1, none⟩ _ b fun e => ?_
    rw [e] at hb
    exact hns.not_mine hb1 (by decide) (by decide) hb
  · refine ⟨hg.os.trans hw.os, hg.tape.trans hw.tape, hg.output.trans hw.output, ?_, fun b hb hM => ?_, fun b hb => ?_⟩
    · have h1 := hw.size
      have h2 := hg.size
      simp [World.setCell]
      omega
    · have h1 := hw.size
      have hnp : b ≠ p := fun e => hM (.inl e)
      rw [Below.heap_setCell w1 ⟨p, 1, none⟩ _ b hnp, hg.block b (by omega) (fun e => hM (.inr (.inl (own_block h.ns.row e.symm))))]
      exact hw.block b hb
    · have h1 := hw.size
      rcases hb with rfl | hb | hb
      · exact .inl (.inl rfl)
      · injection hb with hb
        injection hb with hb
        subst hb
        rcases hf with hf | hf
        · exact .inl (.inr (.inl (own_block h.ns.row hf)))
        · exact .inr hf
      · simp only [List.map_append] at hb
        rcases List.mem_append.1 hb with hb | hb
        · exact .inl (.inr (.inr hb))
        · simp at hb
theorem tokField0 (a at_ en n : Int) (x : ByteArray) (w : World) : (Instr.field 46 (.agg #[.int .u8 a, .int .i64 at_, .int .i64 en, .string x, .int .i64 n]) 0).run Tryz.prog w = .ok (.int .u8 a) w := by kernel_rfl
theorem tokField1 (a at_ en n : Int) (x : ByteArray) (w : World) : (Instr.field 46 (.agg #[.int .u8 a, .int .i64 at_, .int .i64 en, .string x, .int .i64 n]) 1).run Tryz.prog w = .ok (.int .i64 at_) w := by kernel_rfl
theorem tokField3 (a at_ en n : Int) (x : ByteArray) (w : World) : (Instr.field 46 (.agg #[.int .u8 a, .int .i64 at_, .int .i64 en, .string x, .int .i64 n]) 3).run Tryz.prog w = .ok (.string x) w := by kernel_rfl
theorem tokField4 (a at_ en n : Int) (x : ByteArray) (w : World) : (Instr.field 46 (.agg #[.int .u8 a, .int .i64 at_, .int .i64 en, .string x, .int .i64 n]) 4).run Tryz.prog w = .ok (.int .i64 n) w := by kernel_rfl
/-- A maker of kids: a function value, and what it does. -/
structure KF where
  K : Nat
  first : Array Value
  cap : Array Value
  m : Pm Unit
def KF.val (f : KF) : Value := .func (.func f.K) f.first f.cap
def seqK : List KF → Pm Unit
  | [], s => .ok () s
  | f :: l, s => (f.m s).bind fun _ s => seqK l s
theorem ncell_one (x : Nd × Hd2) : ∀ u ∈ ncell x, u.oneCell' = true := by
  intro u hu
  simp only [ncell, List.mem_cons, List.not_mem_nil, or_false] at hu
  rcases hu with rfl | rfl | rfl | rfl | rfl <;> rfl
theorem NS.rowK {w : World} {B : Nat} {tn ti : TypeId} {A : Option Addr} {c : Nat} {nh : List (Nd × Hd2)} (h : NS w B tn ti A c nh) : RowFK B tn nh.length (ncs nh) (.slice A nh.length c) w := by
  refine ⟨h.row, A, c, rfl, fun e => ?_, h.rz⟩
  subst e
  rcases h.row.2 with ⟨hv, _⟩ | ⟨g, cap, cur, hv, _⟩
  · injection hv
  · cases hv
theorem NS.rowH {w : World} {B : Nat} {tn ti : TypeId} {A : Option Addr} {c : Nat} {nh : List (Nd × Hd2)} (h : NS w B tn ti A c nh) (x : Nd × Hd2) (hx : x ∈ nh) : RowFH B ti x.1.kids.length (ints x.1.kids) (.slice x.2.1 x.1.kids.length x.2.2) w := by
  refine ⟨h.kids x hx, _, _, rfl, fun e => ?_, h.kz x hx⟩
  have hk := (h.kids x hx).2
  rw [e] at hk
  rcases hk with ⟨hv, _⟩ | ⟨g, cap, cur, hv, _⟩
  · injection hv
  · cases hv
/-- A row that is not empty: where it lies. -/
theorem RowFK.at {N : Nat} {e : TypeId} {n : Nat} {xs : List Value} {v : Value} {w : World} (h : RowFK N e (n + 1) xs v w) : ∃ g cap, v = .slice (some ⟨g, 0, none⟩) (n + 1) cap := by
  rcases h.1.2 with ⟨_, h0⟩ | ⟨g, cap, cur, hv, _⟩
  · omega
  · exact ⟨g, cap, hv⟩
theorem RowFH.at {N : Nat} {e : TypeId} {n : Nat} {xs : List Value} {v : Value} {w : World} (h : RowFH N e (n + 1) xs v w) : ∃ g cap, v = .slice (some ⟨g, 0, none⟩) (n + 1) cap := by
  rcases h.1.2 with ⟨_, h0⟩ | ⟨g, cap, cur, hv, _⟩
  · omega
  · exact ⟨g, cap, hv⟩
theorem seqK_snoc : ∀ (l : List KF) (k : Nat) (hk : k < l.length) (s s' : Ps), seqK (l.take k) s = .ok () s' → seqK (l.take (k + 1)) s = (l[k].m s').bind fun _ s => .ok () s
  | f :: l, 0, _, s, s', h => by
    injection h with _ h
    subst h
    rfl
  | f :: l, k + 1, hk, s, s', h => by
    show (f.m s).bind (fun _ s => seqK (l.take (k + 1)) s) = _
    have h' : (f.m s).bind (fun _ s => seqK (l.take k) s) = .ok () s' := h
    cases hm : f.m s with
    | err e p => rw [hm] at h'; cases h'
    | ok a t =>
      rw [hm] at h'
      exact seqK_snoc l k (by simpa using hk) t s' h'
theorem seqK_err : ∀ (l : List KF) (k : Nat) (hk : k < l.length) (s s' : Ps), seqK (l.take k) s = .ok () s' → ∀ er a, l[k].m s' = .err er a → seqK l s = .err er a
  | f :: l, 0, _, s, s', h, er, a, he => by
    injection h with _ h
    subst h
    show (f.m s).bind _ = _
    rw [show f.m s = .err er a from he]
    rfl
  | f :: l, k + 1, hk, s, s', h, er, a, he => by
    show (f.m s).bind (fun _ s => seqK l s) = _
    have h' : (f.m s).bind (fun _ s => seqK (l.take k) s) = .ok () s' := h
    cases hm : f.m s with
    | err e p => rw [hm] at h'; cases h'
    | ok b t =>
      rw [hm] at h'
      exact seqK_err l k (by simpa using hk) t s' h' er a he
set_option maxRecDepth 100000 in
set_option maxHeartbeats 4000000 in
theorem pnode_any (w : World) (p B : Nat) (s : Ps) (R : PRep) (kind : Nat) (F : Option Addr) (l : List KF) (fc : Nat) (h : PS w p B s R) (hbig : s.nd.length ≤ 1000000) (hl : l.length ≤ 10)
    (hF : SafeC w (MineP p R) F (l.map KF.val)) (he : ∀ f ∈ l, ∀ args w, (callFunc f.K args).run Tryz.prog w = .ok (.enter f.K args) w)
    (hd : ∀ (k : Nat) (hk : k < l.length) (s' : Ps) (wr : World) (R' : PRep), seqK (l.take k) (s.node kind) = .ok () s' → Moves w (MineP p R) wr (MineP p R') → PS wr p B s' R' → Calls Tryz.prog l[k].K (l[k].first ++ #[.int .i64 (s.nd.length : Int)] ++ l[k].cap) wr (PostU wr p B R' (l[k].m s'))) :
    Calls Tryz.prog 41 #[.pointer (some ⟨p, 0, none⟩), .int .u8 (kind : Int), .slice F l.length fc] w (PostV w p B R (.int .i64 (s.nd.length : Int)) (seqK l (s.node kind))) := by
  obtain ⟨i0, hi, hz0, hz1, hz2⟩ := info_parts infoNode
  have HP := Lib.hid h
  have HFC := Lib.hid hF
  have HE := Lib.hid he
  have HD := Lib.hid hd
  have x1 := h.x1
  have hlen := h.len
  have hpl := h.blk.lt
  have HLN := Lib.hid hlen
  rw [hlen] at hbig
  have hf1 := tokField1
  obtain ⟨o, HO⟩ : ∃ o, Hid ((Value.slice R.A R.nh.length R.c).ownBlock = o) := ⟨_, Lib.hid rfl⟩
  have HPN : Hid (some p ≠ o) := Lib.hid fun e => by
    rw [← HO.out] at e
    obtain ⟨cur, hc⟩ := own_type h.ns.row (own_block h.ns.row e.symm)
    exact Blk.differ h.blk hc (by decide) rfl
  have HBN : Hid (some R.bt ≠ o) := Lib.hid fun e => by
    rw [← HO.out] at e
    have h1 := (own_lt h.ns.row (own_block h.ns.row e.symm)).1
    have h2 := h.tlow
    omega
  have HOG : Hid (∀ g, o = some g → g < w.heap.size) := Lib.hid fun g e => by
    rw [← HO.out] at e
    exact (own_lt h.ns.row (own_block h.ns.row e)).2
  have HBW : Hid (B ≤ w.heap.size) := Lib.hid (Nat.le_trans h.pB (Nat.le_of_lt hpl))
  obtain ⟨Fs, HFS⟩ : ∃ Fs, Hid (FsK B 50 (.slice R.A R.nh.length R.c) w.heap.size R.nh.length (ncs R.nh) (ncell (⟨kind, s.hd.at_, [], 0, []⟩, (none, 0))) = Fs) := ⟨_, Lib.hid rfl⟩
  have hE : ∀ F ∈ Fs, ∀ v w w', F v w → Ext w w' → F v w' := by rw [← HFS.out]; exact FsK_ext _ _ _ _ _ _ _
  have m0 : (fun (_ : Value) w => RowFK B 50 R.nh.length (ncs R.nh) (.slice R.A R.nh.length R.c) w) ∈ Fs := by rw [← HFS.out]; simp only [FsK, List.mem_cons, true_or]
  have m1 : LitN 50 w.heap.size (ncell (⟨kind, s.hd.at_, [], 0, []⟩, (none, 0))).toArray ∈ Fs := by rw [← HFS.out]; simp only [FsK, List.mem_cons, true_or, or_true]
  have m2 : ResK B 50 o w.heap.size (R.nh.length + 1) (ncs R.nh ++ ncell (⟨kind, s.hd.at_, [], 0, []⟩, (none, 0))) ∈ Fs := by rw [← HFS.out, ← HO.out]; simp only [FsK, List.mem_cons, true_or, or_true]
  have HE2 := Lib.hid hE
  have M0 := Lib.hid m0
  have M1 := Lib.hid m1
  have M2 := Lib.hid m2
  clear h hF he hd hlen hE m0 m1 m2
  go_enter Tryz.func41, Tryz.ntmps41
  go_upto_region 2 with fail
  apply region_app o Fs 14 (by kernel_rfl) (by kernel_rfl) (by kernel_rfl) HE2.out
  dsimp only [List.take_succ_cons, List.take_zero, List.drop_succ_cons, List.drop_zero]
  apply step_det (.pointer (some ⟨p, 0, none⟩)) rfl rfl rfl
  · intro w' hw' hH
    clear hH hw'
    simp [YieldsF, go_sem]
    exact AppR.refl _
  apply step_det (.pointer (some ⟨p, 0, none⟩)) rfl rfl rfl
  · intro w' hw' hH
    clear hH hw'
    simp [YieldsF, go_sem]
    exact AppR.refl _
  apply step_det (.pointer (some ⟨p, 0, none⟩)) rfl rfl rfl
  · intro w' hw' hH
    clear hH hw'
    simp [YieldsF, go_sem]
    exact AppR.refl _
  apply step_det (.pointer (some ⟨p, 1, none⟩)) rfl rfl rfl
  · intro w' hw' hH
    clear hH hw'
    simp [YieldsF, go_sem]
    exact AppR.refl _
  simp only [Act.put, List.setIfInBounds_toArray, List.set_cons_succ, List.set_cons_zero]
  apply step_det (.slice R.A R.nh.length R.c) rfl rfl rfl
  · intro w' hw' hH
    have hR := AppR.refl (o := o) (Fs := Fs) w'
    have cc := Blk.cell ((hw'.1.block p hpl HPN.out).trans HP.out.blk) 1
    clear hH hw'
    simp [YieldsF, go_sem, cc]
    exact hR
  apply step_det (.int .u8 (kind : Int)) rfl rfl rfl
  · intro w' hw' hH
    clear hH hw'
    simp [YieldsF, go_sem]
    exact AppR.refl _
  apply step_det (.pointer (some ⟨p, 0, none⟩)) rfl rfl rfl
  · intro w' hw' hH
    clear hH hw'
    simp [YieldsF, go_sem]
    exact AppR.refl _
  simp only [Act.put, List.setIfInBounds_toArray, List.set_cons_succ, List.set_cons_zero]
  apply step_det (.agg (kcell s.hd).toArray) rfl rfl rfl
  · intro w' hw' hH
    have ht := HP.out.ts.grown hw'.1 HPN.out HBN.out
    clear hH hw'
    simp [YieldsF, go_sem]
    refine (pnext_any w' p s R ht).mono ?_
    rintro e w2 ⟨rfl, hx⟩
    exact ⟨_, rfl, rfl, AppR.ext HE2.out hx⟩
  apply step_det (.int .i64 (s.hd.at_ : Int)) rfl rfl rfl
  · intro w' hw' hH
    clear hH hw'
    unfold kcell
    simp [YieldsF, go_sem, hf1]
    exact AppR.refl _
  apply step_det (.agg #[.int .u8 (kind : Int), .int .i64 (s.hd.at_ : Int), .string ⟨#[]⟩, .int .i64 0, .slice none 0 0]) rfl rfl rfl
  · intro w' hw' hH
    clear hH hw'
    simp [YieldsF, go_sem]
    exact AppR.refl _
  apply step_fact (LitN 50 w.heap.size (ncell (⟨kind, s.hd.at_, [], 0, []⟩, (none, 0))).toArray) (fun v w w' h hx => hx.2 _ M1.out v h) rfl rfl rfl
  · intro w' hw' hH
    have hz := hw'.1.size
    clear hH hw'
    simp [YieldsF, go_sem]
    exact ⟨⟨_, rfl, Blk.new _ _ _, hz⟩, AppR.ext HE2.out (Ext.alloc _ _)⟩
  intro v25
  simp only [Act.put, List.setIfInBounds_toArray, List.set_cons_succ, List.set_cons_zero]
  apply step_fact (ResK B 50 o w.heap.size (R.nh.length + 1) (ncs R.nh ++ ncell (⟨kind, s.hd.at_, [], 0, []⟩, (none, 0)))) (fun v w w' h hx => hx.2 _ M2.out v h) rfl rfl rfl
  · intro w' hw' hH
    have hlit := hH _ (List.mem_cons_self ..) ⟨_, rfl, by decide⟩
    have hrow := hw'.2 _ M0.out undef HP.out.ns.rowK
    have hz := hw'.1.size
    clear hH hw'
    rw [← HFS.out, ← HO.out]
    exact yields_appK B w.heap.size (.tmp 19) (.tmp 25) 24 rfl 50 i0 _ 64 Tryz.underlying24 hi hz0 hz1 hz2 rfl (.slice R.A R.nh.length R.c) R.nh.length (ncs R.nh) (ncell (⟨kind, s.hd.at_, [], 0, []⟩, (none, 0))) (by kernel_rfl) hrow v25 (by kernel_rfl) hlit rfl (ncell_one _) (by unfold maxLen; omega) (by omega) (Nat.le_trans HBW.out hz) hz (fun g e => HOG.out g (by rw [← HO.out]; exact e))
  intro v26
  apply step_det (.pointer (some ⟨p, 0, none⟩)) rfl rfl rfl
  · intro w' hw' hH
    clear hH hw'
    simp [YieldsF, go_sem]
    exact AppR.refl _
  apply step_det (.pointer (some ⟨p, 1, none⟩)) rfl rfl rfl
  · intro w' hw' hH
    clear hH hw'
    simp [YieldsF, go_sem]
    exact AppR.refl _
  apply WalkF_nil
  intro w2 hw2 hH
  have h26 := hH _ (List.mem_cons_self ..)
  clear hH
  obtain ⟨g, cap, rfl⟩ := h26.1.at
  have hgr := hw2.1
  rw [← HO.out] at hgr
  have hb3 : Blk w2 p 57 _ := (hw2.1.block p hpl HPN.out).trans HP.out.blk
  obtain ⟨hs1, hs2⟩ := PS.snoc (w := w) HP.out (Ext.refl w) ⟨kind, s.hd.at_, [], 0, []⟩ rfl h26.1.1 hgr (by
    rcases h26.2 with e | ⟨g', e, hg'⟩
    · left; rw [HO.out, ← e]; rfl
    · right; have : g = g' := by simpa [Value.ownBlock] using e
      omega)
  have y1 : w2.cell? ⟨p, 1, none⟩ = some (.slice R.A R.nh.length R.c) := hb3.cell 1
  have z1 := hb3.frozen 1
  have HS : Hid (OkP w p B R (s.node kind) (w2.setCell ⟨p, 1, none⟩ (.slice (some ⟨g, 0, none⟩) (R.nh.length + 1) cap))) := Lib.hid ⟨_, hs1, hs2⟩
  clear h26 hgr hb3 hs1 hs2 hw2 x1
  simp only [Act.put, List.setIfInBounds_toArray, List.set_cons_zero, List.set_cons_succ]
  go_wp2_with fail
  clear y1 z1
  generalize w2.setCell ⟨p, 1, none⟩ (.slice (some ⟨g, 0, none⟩) (R.nh.length + 1) cap) = w3 at *
  go_loopw [31] (fun i wr => ∃ (k : Nat) (s' : Ps), k ≤ l.length ∧ i = .int .i64 k ∧ Hid (seqK (l.take k) (s.node kind) = .ok () s') ∧ Hid (OkP w p B R s' wr)) (fun i _ => l.length - (intOf i).toNat)
  case atStart => exact ⟨0, s.node kind, Nat.zero_le _, rfl, Lib.hid rfl, HS⟩
  case round =>
    obtain ⟨k, s', hk, rfl, HQ, HOK⟩ := hrel
    obtain ⟨wa, rfl⟩ : ∃ wa : World, wa = wr := ⟨_, rfl⟩
    by_cases hlt : k < l.length
    · have d0 : decide ((k : Int) < (l.length : Int)) = true := decide_eq_true (by omega)
      have q0 : (k : Int) < (l.length : Int) := by omega
      obtain ⟨R', hps, hmv⟩ := HOK.out
      have HPS := Lib.hid hps
      have HMV := Lib.hid hmv
      obtain ⟨b, off, rfl, hb, hcc⟩ := (HFC.out.moves hmv).cells.at_ (by simp; omega)
      have x0 : wa.cell? ⟨b, off + k, none⟩ = some (l[k].val) := by rw [hcc k (by simpa using hlt)]; simp [hlt]
      have hsn := seqK_snoc l k hlt (s.node kind) s' HQ.out
      have herr := seqK_err l k hlt (s.node kind) s' HQ.out
      have hcl := HD.out k hlt s' wa R' HQ.out hmv hps
      have hee := HE.out _ (List.getElem_mem hlt)
      clear hcc hps hmv
      generalize l[k] = f at *
      obtain ⟨K, first, capt, m⟩ := f
      unfold KF.val at x0
      simp only at x0 hsn hcl hee herr
      have hcl2 : Calls Tryz.prog K (first.push (.int .i64 (R.nh.length : Int)) ++ capt) wa (PostU wa p B R' (m s')) := by
        have := hcl
        rw [HLN.out, Array.append_singleton] at this
        exact this
      have HER := Lib.hid herr
      have HSN := Lib.hid hsn
      have HCL := Lib.hid hcl2
      clear hsn hcl hcl2 herr
      cases hm : m s' with
      | ok a s2 =>
        have HCM : Hid (PostU wa p B R' (m s') = PostU wa p B R' (.ok a s2)) := Lib.hid (by rw [hm])
        have HS2 : Hid (seqK (l.take (k + 1)) (s.node kind) = .ok () s2) := Lib.hid (by rw [HSN.out, hm]; rfl)
        clear hm
        go_wp2_with fail
        refine HCL.out.mono ?_
        rw [HCM.out]
        rintro e w4 ⟨rfl, ho⟩
        have HO4 := Lib.hid (OkP.trans HMV.out ho)
        clear ho
        go_wp2_with fail
        go_roundw
        case rel => exact ⟨k + 1, s2, by omega, by go_num, HS2, HO4⟩
        case measure => simp [intOf]; omega
      | err er a =>
        have HCM : Hid (PostU wa p B R' (m s') = PostU wa p B R' (.err er a)) := Lib.hid (by rw [hm])
        have HSE := Lib.hid (HER.out er a hm)
        clear hm
        go_wp2_with fail
        refine HCL.out.mono ?_
        rw [HCM.out]
        rintro e w4 ⟨rfl, ho⟩
        refine panics_post (P := Tryz.prog) (fn := Tryz.f41) rfl ?_
        rw [HSE.out]
        exact ErrP.trans HMV.out ⟨rfl, ho⟩
    · obtain rfl : k = l.length := by omega
      have d0 : decide ((l.length : Int) < (l.length : Int)) = false := by simp
      have d1 : decide (l.length < l.length) = false := by simp
      have HQ2 : Hid (seqK l (s.node kind) = .ok () s') := Lib.hid (by have := HQ.out; rw [List.take_length] at this; exact this)
      go_wp2_with fail
      go_ret
      rw [HQ2.out]
      exact ⟨ret_int (by rw [HLN.out]), HOK.out⟩
end Go.Proofs.YtcccnicldbpieaaGreatDoor
