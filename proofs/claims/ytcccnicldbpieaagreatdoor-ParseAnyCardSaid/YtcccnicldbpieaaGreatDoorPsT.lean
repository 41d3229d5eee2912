/- The program's stmt: a statement read, whatever it holds. Condition: the nodes fit into memory. -/
import Derived.Test.YtcccnicldbpieaaGreatDoorPsS
namespace Go.Proofs.YtcccnicldbpieaaGreatDoor
open Go Go.RowKit
set_option linter.unusedVariables false
set_option linter.unusedSimpArgs false
theorem formOf_range {t : Bs} {k : Nat} (h : formOf t = some k) : 7 ≤ k ∧ k ≤ 19 := by
  unfold formOf at h
  cases hf : formsL.find? fun m => m.1 == t with
  | none => rw [hf] at h; cases h
  | some m =>
    rw [hf] at h
    injection h with h
    subst h
    have hm := List.mem_of_find?_eq_some hf
    have ha : ∀ m ∈ formsL, 7 ≤ m.2 ∧ m.2 ≤ 19 := by decide
    exact ha m hm
theorem range_cases {k : Nat} (h : 7 ≤ k ∧ k ≤ 19) : k = 7 ∨ k = 8 ∨ k = 9 ∨ k = 10 ∨ k = 11 ∨ k = 12 ∨ k = 13 ∨ k = 14 ∨ k = 15 ∨ k = 16 ∨ k = 17 ∨ k = 18 ∨ k = 19 := by omega
theorem fnOf_enters {k : Nat} (h : 7 ≤ k ∧ k ≤ 19) : ∀ args w, (callFunc (fnOf k) args).run Tryz.prog w = .ok (.enter (fnOf k) args) w := by
  rcases range_cases h with rfl | rfl | rfl | rfl | rfl | rfl | rfl | rfl | rfl | rfl | rfl | rfl | rfl
  · exact enters_of Tryz.func126 (by kernel_rfl) rfl
  · exact enters_of Tryz.func127 (by kernel_rfl) rfl
  · exact enters_of Tryz.func128 (by kernel_rfl) rfl
  · exact enters_of Tryz.func129 (by kernel_rfl) rfl
  · exact enters_of Tryz.func130 (by kernel_rfl) rfl
  · exact enters_of Tryz.func131 (by kernel_rfl) rfl
  · exact enters_of Tryz.func132 (by kernel_rfl) rfl
  · exact enters_of Tryz.func133 (by kernel_rfl) rfl
  · exact enters_of Tryz.func134 (by kernel_rfl) rfl
  · exact enters_of Tryz.func135 (by kernel_rfl) rfl
  · exact enters_of Tryz.func136 (by kernel_rfl) rfl
  · exact enters_of Tryz.func137 (by kernel_rfl) rfl
  · exact enters_of Tryz.func137 (by kernel_rfl) rfl
theorem preads_any (n : Nat) (st : Nat → Pm Unit) (hst : CallsN 108 n st) (hfine : FineS n st) (h1 : Takes1 n st) (k : Nat) (hk : 7 ≤ k ∧ k ≤ 19) : CallsN (fnOf k) (n + 1) (readsOf st k) := by
  have hblk := pblock_of n st hst hfine h1
  intro w p B s R i h hG hi hbig hn
  rcases range_cases hk with rfl | rfl | rfl | rfl | rfl | rfl | rfl | rfl | rfl | rfl | rfl | rfl | rfl
  · exact pread_any w p B s R i h hG hi hbig
  · exact pset_any w p B s R i h hG hi hbig
  · exact pupsert_any w p B s R i h hG hi hbig
  · exact prow_any w p B s R i h hG hi hbig
  · exact pscan_any w p B s R i h hG hi hbig
  · exact plock_any w p B s R i h hG hi hbig
  · exact prelease_any w p B s R i h hG hi hbig
  · exact pbranch_of n st hblk hfine w p B s R i h hG hi hbig hn
  · exact ploop_of n st hblk hfine w p B s R i h hG hi hbig hn
  · exact plet_any w p B s R i h hG hi hbig
  · exact pexpr_any w p B s R i h hG hi hbig
  · exact pnone_any w p B s R i h
  · exact pnone_any w p B s R i h
theorem stmt_eq {f i : Nat} {s : Ps} : stmtP (f + 1) i s = match (if s.hd.kind = 1 then formOf s.hd.text else none) with
    | none => .err 50 s.hd.at_
    | some k => (readsOf (stmtP f) k s.nd.length (s.kidNode i k).adv).bind fun _ s => if k = 14 ∨ k = 15 then .ok () s else takeP [59] s := rfl
theorem stmt_no {f i : Nat} {s : Ps} (h : formOf s.hd.text = none ∨ s.hd.kind ≠ 1) : stmtP (f + 1) i s = .err 50 s.hd.at_ := by
  rw [stmt_eq]
  rcases h with h | h
  · rw [h]; split <;> simp_all
  · rw [if_neg h]
theorem stmt_yes {f i k : Nat} {s : Ps} (h : formOf s.hd.text = some k) (h1 : s.hd.kind = 1) : stmtP (f + 1) i s = (readsOf (stmtP f) k s.nd.length (s.kidNode i k).adv).bind fun _ s => if k = 14 ∨ k = 15 then .ok () s else takeP [59] s := by
  rw [stmt_eq, if_pos h1, h]
theorem stmt_takes : ∀ f, Takes1 f (stmtP f)
  | 0 => fun i s s' g hl h => by cases h
  | f + 1 => fun i s s' g hl h => by
    by_cases h1 : s.hd.kind = 1
    · cases hf : formOf s.hd.text with
      | none => rw [stmt_no (.inl hf)] at h; cases h
      | some k =>
        rw [stmt_yes hf h1] at h
        have hp := g.pos
        have h4 : (s.kidNode i k).hd.kind ≠ 4 := by show s.hd.kind ≠ 4; omega
        have ga := (kidNode_good g i k).adv h4
        have hal := adv_len (s := s.kidNode i k)
        rw [kidNode_ts] at hal
        have hr := fine_reads (fine_stmt f) k s.nd.length (s.kidNode i k).adv ga (by omega)
        cases hq : readsOf (stmtP f) k s.nd.length (s.kidNode i k).adv with
        | err e p => rw [hq] at h; cases h
        | ok a t =>
          rw [hq] at h hr
          have ht := hr.ts
          have h' : (if k = 14 ∨ k = 15 then Res.ok () t else takeP [59] t) = .ok () s' := h
          split at h'
          · injection h' with _ e; subst e; omega
          · have hf2 := fine_take [59] t hr.good
            rw [h'] at hf2
            have := hf2.ts
            omega
    · rw [stmt_no (.inr h1)] at h; cases h
set_option maxRecDepth 100000 in
set_option maxHeartbeats 8000000 in
theorem pstmt_a (f : Nat) (ih : CallsN 108 f (stmtP f)) (w : World) (p B : Nat) (s : Ps) (R : PRep) (i : Nat) (h : PS w p B s R) (hG : Good s) (hi : i < s.nd.length) (hbig : s.phi ≤ 1000000) (hn : s.ts.length ≤ f + 1) (hfo : formOf s.hd.text = none) :
    Calls Tryz.prog 108 #[.pointer (some ⟨p, 0, none⟩), .int .i64 (i : Int)] w (PostU w p B R (stmtP (f + 1) i s)) := by
  have HP := Lib.hid h
  have HG := Lib.hid hG
  have HI := Lib.hid hi
  have HBG := Lib.hid hbig
  have HN := Lib.hid hn
  have HIH := Lib.hid ih
  obtain ⟨whole, HL0⟩ : ∃ x, Hid (x = stmtP (f + 1) i s) := ⟨_, Lib.hid rfl⟩
  rw [← HL0.out]
  have hm := hmf
  have hf0 := tokField0
  have hf3 := tokField3
  have HE : Hid (whole = .err 50 s.hd.at_) := Lib.hid (HL0.out.trans (stmt_no (.inl hfo)))
  have HFO := Lib.hid hfo
  clear hfo
  clear h hG hi hbig hn ih
  go_enter Tryz.func108, Tryz.ntmps108
  go_wp2_with fail
  refine (pnext_any _ p s R HP.out.ts).mono ?_
  rintro e w1 ⟨rfl, hx1⟩
  have HX1 := Lib.hid hx1
  have HP1 := Lib.hid (HP.out.ext hx1)
  clear hx1
  unfold kcell
  go_wp2_with fail
  refine (forms_any s.hd.text w1).mono ?_
  rintro e w2 ⟨rfl, hx2⟩
  have HX2 := Lib.hid (HX1.out.trans hx2)
  have HP2 := Lib.hid (HP1.out.ext hx2)
  clear hx2
  rw [HFO.out]
  simp only [fkind, ffunc, Option.elim, Option.isSome]
  go_wp2_with (refine wpList_put rfl 159 (.tmp 4) (.tmp 12) rfl w2.heap.size #[.int .u8 0, .nilFunc] (by rfl) (by rfl) 159 #[.int .u8 0, .nilFunc] (Blk.new _ _ _) (by kernel_rfl) rfl rfl ?_; intro w3 ht3 hb3; have HX3 := Lib.hid (ht3.ext (HX2.out.trans (Ext.alloc w2 (.cells #[.int .u8 0, .nilFunc] 159))) HX2.out.size); have HB3 := Lib.hid hb3; clear ht3 hb3)
  refine (pfail_any _ p 50).mono ?_
  rintro e w4 ⟨rfl, rfl⟩
  have HF : Hid (PostU w p B R whole (panicV 50) w3) := Lib.hid (by rw [HE.out]; exact ⟨rfl, s, rfl, HP.out.okp HX3.out⟩)
  exact panics_post (P := Tryz.prog) (fn := Tryz.f108) rfl HF.out
set_option maxRecDepth 100000 in
set_option maxHeartbeats 8000000 in
theorem pstmt_b (f : Nat) (ih : CallsN 108 f (stmtP f)) (w : World) (p B : Nat) (s : Ps) (R : PRep) (i : Nat) (h : PS w p B s R) (hG : Good s) (hi : i < s.nd.length) (hbig : s.phi ≤ 1000000) (hn : s.ts.length ≤ f + 1) (k : Nat) (hfo : formOf s.hd.text = some k) (hk : s.hd.kind ≠ 1) :
    Calls Tryz.prog 108 #[.pointer (some ⟨p, 0, none⟩), .int .i64 (i : Int)] w (PostU w p B R (stmtP (f + 1) i s)) := by
  have HP := Lib.hid h
  have HG := Lib.hid hG
  have HI := Lib.hid hi
  have HBG := Lib.hid hbig
  have HN := Lib.hid hn
  have HIH := Lib.hid ih
  obtain ⟨whole, HL0⟩ : ∃ x, Hid (x = stmtP (f + 1) i s) := ⟨_, Lib.hid rfl⟩
  rw [← HL0.out]
  have hm := hmf
  have hf0 := tokField0
  have hf3 := tokField3
  have HE : Hid (whole = .err 50 s.hd.at_) := Lib.hid (HL0.out.trans (stmt_no (.inr hk)))
  have HFO := Lib.hid hfo
  have b1 : ((s.hd.kind : Int) != 1) = true := by rw [bne_iff_ne]; omega
  have b2 : ¬ (s.hd.kind : Int) = 1 := by omega
  clear hfo hk
  clear h hG hi hbig hn ih
  go_enter Tryz.func108, Tryz.ntmps108
  go_wp2_with fail
  refine (pnext_any _ p s R HP.out.ts).mono ?_
  rintro e w1 ⟨rfl, hx1⟩
  have HX1 := Lib.hid hx1
  have HP1 := Lib.hid (HP.out.ext hx1)
  clear hx1
  unfold kcell
  go_wp2_with fail
  refine (forms_any s.hd.text w1).mono ?_
  rintro e w2 ⟨rfl, hx2⟩
  have HX2 := Lib.hid (HX1.out.trans hx2)
  have HP2 := Lib.hid (HP1.out.ext hx2)
  clear hx2
  rw [HFO.out]
  simp only [fkind, ffunc, Option.elim, Option.isSome]
  generalize fnOf k = K at *
  go_wp2_with (first
    | (refine wpList_put rfl 159 (.tmp 4) (.tmp 12) rfl w2.heap.size #[.int .u8 (k : Int), .func (.func K) #[] #[]] (by rfl) (by rfl) 159 #[.int .u8 0, .nilFunc] (Blk.new _ _ _) (by kernel_rfl) rfl rfl ?_; intro w3 ht3 hb3; have HX3 := Lib.hid (ht3.ext (HX2.out.trans (Ext.alloc w2 (.cells #[.int .u8 0, .nilFunc] 159))) HX2.out.size); have HB3 := Lib.hid hb3; clear ht3 hb3)
    | (refine (pnext_any _ p s R (HP.out.ext HX3.out).ts).mono ?_; rintro e w4 ⟨rfl, hx4⟩; have HX4 := Lib.hid (HX3.out.trans hx4); clear hx4; unfold kcell))
  refine (pfail_any _ p 50).mono ?_
  rintro e w5 ⟨rfl, rfl⟩
  have HF : Hid (PostU w p B R whole (panicV 50) w4) := Lib.hid (by rw [HE.out]; exact ⟨rfl, s, rfl, HP.out.okp HX4.out⟩)
  exact panics_post (P := Tryz.prog) (fn := Tryz.f108) rfl HF.out
set_option maxRecDepth 100000 in
set_option maxHeartbeats 8000000 in
theorem pstmt_c (f : Nat) (ih : CallsN 108 f (stmtP f)) (w : World) (p B : Nat) (s : Ps) (R : PRep) (i : Nat) (h : PS w p B s R) (hG : Good s) (hi : i < s.nd.length) (hbig : s.phi ≤ 1000000) (hn : s.ts.length ≤ f + 1) (k : Nat) (hfo : formOf s.hd.text = some k) (hk : s.hd.kind = 1) (hk14 : k = 14 ∨ k = 15) :
    Calls Tryz.prog 108 #[.pointer (some ⟨p, 0, none⟩), .int .i64 (i : Int)] w (PostU w p B R (stmtP (f + 1) i s)) := by
  have HP := Lib.hid h
  have HG := Lib.hid hG
  have HI := Lib.hid hi
  have HBG := Lib.hid hbig
  have HN := Lib.hid hn
  have HIH := Lib.hid ih
  obtain ⟨whole, HL0⟩ : ∃ x, Hid (x = stmtP (f + 1) i s) := ⟨_, Lib.hid rfl⟩
  rw [← HL0.out]
  have hm := hmf
  have hf0 := tokField0
  have hf3 := tokField3
  have HL := Lib.hid (HL0.out.trans (stmt_yes hfo hk))
  have HFO := Lib.hid hfo
  have HK := Lib.hid hk
  have HKR := Lib.hid (formOf_range hfo)
  have HK14 := Lib.hid hk14
  have hps := hG.pos
  have HRD := Lib.hid (preads_any f (stmtP f) ih (fine_stmt f) (stmt_takes f) k (formOf_range hfo))
  have HFN := Lib.hid (fnOf_enters (formOf_range hfo))
  have HGA : Hid (Good (s.kidNode i k).adv) := Lib.hid ((kidNode_good hG i k).adv (by show s.hd.kind ≠ 4; omega))
  have HTA : Hid ((s.kidNode i k).adv.ts.length = s.ts.length - 1) := Lib.hid (by rw [adv_len, kidNode_ts])
  have HNA : Hid ((s.kidNode i k).adv.nd.length = s.nd.length + 1) := Lib.hid (kidNode_len s i k)
  have HLT : Hid (Later s (s.kidNode i k).adv) := Lib.hid (FineN.at (i := i) (k := k) (r := .ok () (s.kidNode i k).adv) (fineN_adv (kidNode_good hG i k) (by show s.hd.kind ≠ 4; omega)))
  have HK4 : Hid ((s.kidNode i k).hd.kind ≠ 4) := Lib.hid (by show s.hd.kind ≠ 4; omega)
  have hd1 : (s.hd.kind : Int) = 1 := by omega
  clear hfo hk hk14
  clear h hG hi hbig hn ih
  go_enter Tryz.func108, Tryz.ntmps108
  go_wp2_with fail
  refine (pnext_any _ p s R HP.out.ts).mono ?_
  rintro e w1 ⟨rfl, hx1⟩
  have HX1 := Lib.hid hx1
  have HP1 := Lib.hid (HP.out.ext hx1)
  clear hx1
  unfold kcell
  go_wp2_with fail
  refine (forms_any s.hd.text w1).mono ?_
  rintro e w2 ⟨rfl, hx2⟩
  have HX2 := Lib.hid (HX1.out.trans hx2)
  have HP2 := Lib.hid (HP1.out.ext hx2)
  clear hx2
  rw [HFO.out]
  simp only [fkind, ffunc, Option.elim, Option.isSome]
  have he := HFN.out
  generalize fnOf k = K at *
  go_wp2_with (first
    | (refine wpList_put rfl 159 (.tmp 4) (.tmp 12) rfl w2.heap.size #[.int .u8 (k : Int), .func (.func K) #[] #[]] (by rfl) (by rfl) 159 #[.int .u8 0, .nilFunc] (Blk.new _ _ _) (by kernel_rfl) rfl rfl ?_; intro w3 ht3 hb3; have HX3 := Lib.hid (ht3.ext (HX2.out.trans (Ext.alloc w2 (.cells #[.int .u8 0, .nilFunc] 159))) HX2.out.size); have HB3 := Lib.hid hb3; clear ht3 hb3)
    | (refine (pnext_any _ p s R (HP.out.ext HX3.out).ts).mono ?_; rintro e w4 ⟨rfl, hx4⟩; have HX4 := Lib.hid (HX3.out.trans hx4); have HB4 := Lib.hid (HB3.out.ext hx4); have f0 : w4.cell? ⟨w2.heap.size, 0, none⟩ = some (.int .u8 (k : Int)) := HB4.out.cell 0; clear hx4; unfold kcell))
  have HSF : Hid (Safe w4 (MineP p R) w2.heap.size 159 #[.int .u8 (k : Int), .func (.func K) #[] #[]]) := Lib.hid ⟨HB4.out, fun h => by
    have h1 := HP.out.mine_lt h
    have h2 := HX2.out.size
    omega⟩
  obtain ⟨gf, HGF⟩ : ∃ gf, Hid (w2.heap.size = gf) := ⟨_, Lib.hid rfl⟩
  rw [HGF.out]
  rw [HGF.out] at HSF
  clear f0 hd1
  refine (pkid_none w4 p B s R i k (HP.out.ext HX4.out) HI.out (by have := HBG.out; unfold Ps.phi at this; omega) HG.out).mono ?_
  rintro e w5 ⟨rfl, R5, hp5, hm5⟩
  have HP5 := Lib.hid hp5
  have HM5 := Lib.hid ((Moves.ext (M := MineP p R) HX4.out).trans hm5)
  have HSF5 := Lib.hid (HSF.out.moves hm5)
  have HP6 := Lib.hid (hp5.set0 HK4.out)
  have HM6 : Hid (Moves w5 (MineP p R5) (w5.setCell ⟨p, 0, none⟩ (.slice (some ⟨R5.bt, R5.ot + 5, none⟩) ((s.kidNode i k).ts.length - 1) (R5.ct - 1))) (MineP p R5.adv)) := Lib.hid (Moves.set (.inl rfl))
  have HS6 : Hid (Ran w p B R s (w5.setCell ⟨p, 0, none⟩ (.slice (some ⟨R5.bt, R5.ot + 5, none⟩) ((s.kidNode i k).ts.length - 1) (R5.ct - 1))) R5.adv (s.kidNode i k).adv) := Lib.hid ⟨HP6.out, HM5.out.trans HM6.out, HLT.out⟩
  clear HP6
  have h2 : 2 ≤ (s.kidNode i k).ts.length := by
    have hg := HGA.out.pos
    rw [adv_len] at hg
    omega
  have h3 := hp5.tcap
  have x0 := hp5.x0
  have z0 := hp5.blk.frozen 0
  clear hp5 hm5
  generalize (s.kidNode i k).ts.length = nt at *
  generalize R5.ct = ct at *
  go_upto_region 5 with fail
  generalize w5.setCell ⟨p, 0, none⟩ (.slice (some ⟨R5.bt, R5.ot + 5, none⟩) (nt - 1) (ct - 1)) = w6 at *
  have HSF6 := Lib.hid (HSF5.out.moves HM6.out)
  have f1 : w6.cell? ⟨gf, 1, none⟩ = some (.func (.func K) #[] #[]) := HSF6.out.1.cell 1
  clear x0 z0 h2 h3
  go_wp2_with fail
  refine (HRD.out w6 p B _ _ s.nd.length HS6.out.ps HGA.out (by rw [HNA.out]; omega) (HS6.out.phi HBG.out) (by rw [HTA.out]; have := HN.out; omega)).mono ?_
  intro e w7 hp
  have hfine := fine_reads (fine_stmt f) k s.nd.length (s.kidNode i k).adv HGA.out (by rw [HTA.out]; have := HN.out; omega)
  have hsafe : ∀ {R' w'}, OkP w6 p B R5.adv R' w' → True := fun _ => trivial
  cases hr : readsOf (stmtP f) k s.nd.length (s.kidNode i k).adv with
  | err er a =>
    rw [hr] at hp
    obtain ⟨rfl, ho⟩ := hp
    have HF : Hid (PostU w p B R whole (panicV er) w7) := Lib.hid (by rw [HL.out, hr]; exact ErrP.trans HS6.out.mv ⟨rfl, ho⟩)
    exact panics_post (P := Tryz.prog) (fn := Tryz.f108) rfl HF.out
  | ok a s7 =>
    rw [hr] at hp hfine
    obtain ⟨rfl, R7, hp7, hm7⟩ := hp
    have HS7 : Hid (Ran w p B R s w7 R7 s7) := Lib.hid ⟨hp7, HS6.out.mv.trans hm7, HS6.out.lt.trans hfine⟩
    have HSF7 := Lib.hid (HSF6.out.moves hm7)
    have f0 : w7.cell? ⟨gf, 0, none⟩ = some (.int .u8 (k : Int)) := HSF7.out.1.cell 0
    have HL7 : Hid (whole = if k = 14 ∨ k = 15 then .ok () s7 else takeP [59] s7) := Lib.hid (by rw [HL.out, hr]; rfl)
    clear hr hp7 hm7 hfine f1 hsafe he
    have HL8 : Hid (whole = .ok () s7) := Lib.hid (by rw [HL7.out, if_pos HK14.out])
    rcases HK14.out with hk | hk
    · subst hk
      go_wp2_with fail
      go_end0
      rw [HL8.out]
      exact PostU.ok HS7.out.okp
    · subst hk
      go_wp2_with fail
      go_end0
      rw [HL8.out]
      exact PostU.ok HS7.out.okp
set_option maxRecDepth 100000 in
set_option maxHeartbeats 8000000 in
theorem pstmt_d (f : Nat) (ih : CallsN 108 f (stmtP f)) (w : World) (p B : Nat) (s : Ps) (R : PRep) (i : Nat) (h : PS w p B s R) (hG : Good s) (hi : i < s.nd.length) (hbig : s.phi ≤ 1000000) (hn : s.ts.length ≤ f + 1) (k : Nat) (hfo : formOf s.hd.text = some k) (hk : s.hd.kind = 1) (hk14 : ¬ (k = 14 ∨ k = 15)) :
    Calls Tryz.prog 108 #[.pointer (some ⟨p, 0, none⟩), .int .i64 (i : Int)] w (PostU w p B R (stmtP (f + 1) i s)) := by
  have HP := Lib.hid h
  have HG := Lib.hid hG
  have HI := Lib.hid hi
  have HBG := Lib.hid hbig
  have HN := Lib.hid hn
  have HIH := Lib.hid ih
  obtain ⟨whole, HL0⟩ : ∃ x, Hid (x = stmtP (f + 1) i s) := ⟨_, Lib.hid rfl⟩
  rw [← HL0.out]
  have hm := hmf
  have hf0 := tokField0
  have hf3 := tokField3
  have HL := Lib.hid (HL0.out.trans (stmt_yes hfo hk))
  have HFO := Lib.hid hfo
  have HK := Lib.hid hk
  have HKR := Lib.hid (formOf_range hfo)
  have HK14 := Lib.hid hk14
  have hps := hG.pos
  have HRD := Lib.hid (preads_any f (stmtP f) ih (fine_stmt f) (stmt_takes f) k (formOf_range hfo))
  have HFN := Lib.hid (fnOf_enters (formOf_range hfo))
  have HGA : Hid (Good (s.kidNode i k).adv) := Lib.hid ((kidNode_good hG i k).adv (by show s.hd.kind ≠ 4; omega))
  have HTA : Hid ((s.kidNode i k).adv.ts.length = s.ts.length - 1) := Lib.hid (by rw [adv_len, kidNode_ts])
  have HNA : Hid ((s.kidNode i k).adv.nd.length = s.nd.length + 1) := Lib.hid (kidNode_len s i k)
  have HLT : Hid (Later s (s.kidNode i k).adv) := Lib.hid (FineN.at (i := i) (k := k) (r := .ok () (s.kidNode i k).adv) (fineN_adv (kidNode_good hG i k) (by show s.hd.kind ≠ 4; omega)))
  have HK4 : Hid ((s.kidNode i k).hd.kind ≠ 4) := Lib.hid (by show s.hd.kind ≠ 4; omega)
  have hd1 : (s.hd.kind : Int) = 1 := by omega
  clear hfo hk hk14
  clear h hG hi hbig hn ih
  go_enter Tryz.func108, Tryz.ntmps108
  go_wp2_with fail
  refine (pnext_any _ p s R HP.out.ts).mono ?_
  rintro e w1 ⟨rfl, hx1⟩
  have HX1 := Lib.hid hx1
  have HP1 := Lib.hid (HP.out.ext hx1)
  clear hx1
  unfold kcell
  go_wp2_with fail
  refine (forms_any s.hd.text w1).mono ?_
  rintro e w2 ⟨rfl, hx2⟩
  have HX2 := Lib.hid (HX1.out.trans hx2)
  have HP2 := Lib.hid (HP1.out.ext hx2)
  clear hx2
  rw [HFO.out]
  simp only [fkind, ffunc, Option.elim, Option.isSome]
  have he := HFN.out
  generalize fnOf k = K at *
  go_wp2_with (first
    | (refine wpList_put rfl 159 (.tmp 4) (.tmp 12) rfl w2.heap.size #[.int .u8 (k : Int), .func (.func K) #[] #[]] (by rfl) (by rfl) 159 #[.int .u8 0, .nilFunc] (Blk.new _ _ _) (by kernel_rfl) rfl rfl ?_; intro w3 ht3 hb3; have HX3 := Lib.hid (ht3.ext (HX2.out.trans (Ext.alloc w2 (.cells #[.int .u8 0, .nilFunc] 159))) HX2.out.size); have HB3 := Lib.hid hb3; clear ht3 hb3)
    | (refine (pnext_any _ p s R (HP.out.ext HX3.out).ts).mono ?_; rintro e w4 ⟨rfl, hx4⟩; have HX4 := Lib.hid (HX3.out.trans hx4); have HB4 := Lib.hid (HB3.out.ext hx4); have f0 : w4.cell? ⟨w2.heap.size, 0, none⟩ = some (.int .u8 (k : Int)) := HB4.out.cell 0; clear hx4; unfold kcell))
  have HSF : Hid (Safe w4 (MineP p R) w2.heap.size 159 #[.int .u8 (k : Int), .func (.func K) #[] #[]]) := Lib.hid ⟨HB4.out, fun h => by
    have h1 := HP.out.mine_lt h
    have h2 := HX2.out.size
    omega⟩
  obtain ⟨gf, HGF⟩ : ∃ gf, Hid (w2.heap.size = gf) := ⟨_, Lib.hid rfl⟩
  rw [HGF.out]
  rw [HGF.out] at HSF
  clear f0 hd1
  refine (pkid_none w4 p B s R i k (HP.out.ext HX4.out) HI.out (by have := HBG.out; unfold Ps.phi at this; omega) HG.out).mono ?_
  rintro e w5 ⟨rfl, R5, hp5, hm5⟩
  have HP5 := Lib.hid hp5
  have HM5 := Lib.hid ((Moves.ext (M := MineP p R) HX4.out).trans hm5)
  have HSF5 := Lib.hid (HSF.out.moves hm5)
  have HP6 := Lib.hid (hp5.set0 HK4.out)
  have HM6 : Hid (Moves w5 (MineP p R5) (w5.setCell ⟨p, 0, none⟩ (.slice (some ⟨R5.bt, R5.ot + 5, none⟩) ((s.kidNode i k).ts.length - 1) (R5.ct - 1))) (MineP p R5.adv)) := Lib.hid (Moves.set (.inl rfl))
  have HS6 : Hid (Ran w p B R s (w5.setCell ⟨p, 0, none⟩ (.slice (some ⟨R5.bt, R5.ot + 5, none⟩) ((s.kidNode i k).ts.length - 1) (R5.ct - 1))) R5.adv (s.kidNode i k).adv) := Lib.hid ⟨HP6.out, HM5.out.trans HM6.out, HLT.out⟩
  clear HP6
  have h2 : 2 ≤ (s.kidNode i k).ts.length := by
    have hg := HGA.out.pos
    rw [adv_len] at hg
    omega
  have h3 := hp5.tcap
  have x0 := hp5.x0
  have z0 := hp5.blk.frozen 0
  clear hp5 hm5
  generalize (s.kidNode i k).ts.length = nt at *
  generalize R5.ct = ct at *
  go_upto_region 5 with fail
  generalize w5.setCell ⟨p, 0, none⟩ (.slice (some ⟨R5.bt, R5.ot + 5, none⟩) (nt - 1) (ct - 1)) = w6 at *
  have HSF6 := Lib.hid (HSF5.out.moves HM6.out)
  have f1 : w6.cell? ⟨gf, 1, none⟩ = some (.func (.func K) #[] #[]) := HSF6.out.1.cell 1
  clear x0 z0 h2 h3
  go_wp2_with fail
  refine (HRD.out w6 p B _ _ s.nd.length HS6.out.ps HGA.out (by rw [HNA.out]; omega) (HS6.out.phi HBG.out) (by rw [HTA.out]; have := HN.out; omega)).mono ?_
  intro e w7 hp
  have hfine := fine_reads (fine_stmt f) k s.nd.length (s.kidNode i k).adv HGA.out (by rw [HTA.out]; have := HN.out; omega)
  have hsafe : ∀ {R' w'}, OkP w6 p B R5.adv R' w' → True := fun _ => trivial
  cases hr : readsOf (stmtP f) k s.nd.length (s.kidNode i k).adv with
  | err er a =>
    rw [hr] at hp
    obtain ⟨rfl, ho⟩ := hp
    have HF : Hid (PostU w p B R whole (panicV er) w7) := Lib.hid (by rw [HL.out, hr]; exact ErrP.trans HS6.out.mv ⟨rfl, ho⟩)
    exact panics_post (P := Tryz.prog) (fn := Tryz.f108) rfl HF.out
  | ok a s7 =>
    rw [hr] at hp hfine
    obtain ⟨rfl, R7, hp7, hm7⟩ := hp
    have HS7 : Hid (Ran w p B R s w7 R7 s7) := Lib.hid ⟨hp7, HS6.out.mv.trans hm7, HS6.out.lt.trans hfine⟩
    have HSF7 := Lib.hid (HSF6.out.moves hm7)
    have f0 : w7.cell? ⟨gf, 0, none⟩ = some (.int .u8 (k : Int)) := HSF7.out.1.cell 0
    have HL7 : Hid (whole = if k = 14 ∨ k = 15 then .ok () s7 else takeP [59] s7) := Lib.hid (by rw [HL.out, hr]; rfl)
    clear hr hp7 hm7 hfine f1 hsafe he
    have HL8 : Hid (whole = (takeP [59] s7).bind fun _ s => .ok () s) := Lib.hid (bind_last (by rw [HL7.out, if_neg HK14.out]))
    have n14 : ((k : Int) != 14) = true := by rw [bne_iff_ne]; have := HK14.out; omega
    have n15 : ((k : Int) != 15) = true := by rw [bne_iff_ne]; have := HK14.out; omega
    have m14 : ¬ (k : Int) = 14 := by have := HK14.out; omega
    have m15 : ¬ (k : Int) = 15 := by have := HK14.out; omega
    go_wp2_with fail
    refine (ptake_any w7 p B s7 R7 [59] HS7.out.ps).mono ?_
    intro e w8 hp
    rcases Ran.go HL8 HS7 (fine_take _ _ HS7.out.lt.good) hp with ⟨s8, R8, HL9, rfl, HS8⟩ | ⟨er, a, rfl, HX, HY⟩
    rotate_left
    · refine panics_post (P := Tryz.prog) (fn := Tryz.f108) rfl ?_
      rw [HX.out]
      exact HY.out
    try clear hp
    go_wp2_with fail
    go_end0
    rw [HL9.out]
    exact PostU.ok HS8.out.okp
theorem pstmt_any : ∀ f, CallsN 108 f (stmtP f)
  | 0 => fun w p B s R i h hG hi hbig hn => absurd hG.pos (by omega)
  | f + 1 => fun w p B s R i h hG hi hbig hn => by
    cases hfo : formOf s.hd.text with
    | none => exact pstmt_a f (pstmt_any f) w p B s R i h hG hi hbig hn hfo
    | some k =>
      by_cases hk : s.hd.kind = 1
      · by_cases h14 : k = 14 ∨ k = 15
        · exact pstmt_c f (pstmt_any f) w p B s R i h hG hi hbig hn k hfo hk h14
        · exact pstmt_d f (pstmt_any f) w p B s R i h hG hi hbig hn k hfo hk h14
      · exact pstmt_b f (pstmt_any f) w p B s R i h hG hi hbig hn k hfo hk
theorem pblock_any (w : World) (p B : Nat) (s : Ps) (R : PRep) (i : Nat) (h : PS w p B s R) (hG : Good s) (hi : i < s.nd.length) (hbig : s.phi ≤ 1000000) :
    Calls Tryz.prog 85 #[.pointer (some ⟨p, 0, none⟩), .int .i64 (i : Int)] w (PostU w p B R (blockP i s)) :=
  pblock_of s.ts.length (stmtP s.ts.length) (pstmt_any _) (fine_stmt _) (stmt_takes _) w p B s R i h hG hi hbig (Nat.le_succ _)
end Go.Proofs.YtcccnicldbpieaaGreatDoor
