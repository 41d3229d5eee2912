/- The document's statements. Condition: the nodes fit into memory. The document's statements, the others. Condition: the nodes fit into memory. -/
import Derived.Test.YtcccnicldbpieaaGreatDoorMc
namespace Go.Proofs.YtcccnicldbpieaaGreatDoor
open Go Go.RowKit
set_option linter.unusedVariables false
set_option linter.unusedSimpArgs false
theorem RanQ.ext {w w1 w2 : World} {p B : Nat} {R R1 : QRep} {r r1 : Rs} {c : Int} (h : Hid (RanQ w p B R r w1 R1 r1 c)) (hx : Ext w1 w2) : Hid (RanQ w p B R r w2 R1 r1 c) := Lib.hid ⟨h.out.qs.ext hx, h.out.mv.trans (Moves.ext hx), h.out.lt⟩
theorem readR_yes {i : Nat} {r : Rs} (h : (cellR i (takeR [61] (namedR i r))).is [102, 111, 114] = true) : readR i r = (takeR [117, 112, 100, 97, 116, 101] (cellR i (takeR [61] (namedR i r))).adv).num i 1 := by unfold readR; dsimp only; rw [if_pos h]
theorem readR_no {i : Nat} {r : Rs} (h : (cellR i (takeR [61] (namedR i r))).is [102, 111, 114] = false) : readR i r = cellR i (takeR [61] (namedR i r)) := by unfold readR; dsimp only; rw [h]; rfl
theorem lockR_yes {i : Nat} {r : Rs} (h : (wordR i r).is [97, 108, 108] = true) : lockR i r = ((wordR i r).num i 1).adv := by unfold lockR; dsimp only; rw [if_pos h]
theorem lockR_no {i : Nat} {r : Rs} (h : (wordR i r).is [97, 108, 108] = false) : lockR i r = takeR [115, 104, 97, 114, 101, 100] (wordR i r) := by unfold lockR; dsimp only; rw [h]; rfl
theorem releaseR_yes {i : Nat} {r : Rs} (h : (namedR r.s.nd.length (r.kidNode i 5)).is [91] = true) : releaseR i r = bracketR r.s.nd.length ((namedR r.s.nd.length (r.kidNode i 5)).kind r.s.nd.length 20) := by unfold releaseR; dsimp only; rw [if_pos h]
theorem releaseR_no {i : Nat} {r : Rs} (h : (namedR r.s.nd.length (r.kidNode i 5)).is [91] = false) : releaseR i r = namedR r.s.nd.length (r.kidNode i 5) := by unfold releaseR; dsimp only; rw [h]; rfl
set_option maxRecDepth 100000 in
set_option maxHeartbeats 8000000 in
theorem qst_read_true (w : World) (p B : Nat) (r : Rs) (R : QRep) (f : Nat) (hst : CallsST f) (i : Nat) (h : QS w p B r R) (hi : i < r.s.nd.length) (hb : r.phi ≤ 1000000) (hl : r.s.ts.length ≤ f + 1) (hk : r.s.hd.kind = 1) (hf : formOf r.s.hd.text = some 7) (hc : (cellR (r.s.nd.length) (takeR [61] (namedR (r.s.nd.length) (Rs.adv (Rs.kidNode r (i) 7))))).is [102, 111, 114] = true) :
    Calls Tryz.prog 87 #[.pointer (some ⟨p, 0, none⟩), .int .i64 (i : Int)] w fun e w' => e = .returned (.tuple #[]) ∧ PostQ w p B R (stmtR (f + 1) i r) w' := by
  have HB := Lib.hid hb
  have HI := Lib.hid hi
  have H0 := Lib.hid (RanQ.refl h)
  clear h hb hi
  have HKN : Hid (((kindN r.s.hd.text : Nat) : Int) = 7) := Lib.hid (by unfold kindN; rw [hf]; rfl)
  have HSR : Hid (stmtR (f + 1) i r = takeR [59] (readR (r.s.nd.length) (Rs.adv (Rs.kidNode r (i) 7)))) := Lib.hid (by rw [stmtR, if_pos hk, hf]; rfl)
  have HKD := Lib.hid hk
  have x0 := H0.out.qs.x0
  have x1 := H0.out.qs.x1
  have t0 : w.cell? ⟨R.bt, R.o0 + R.I * 5, none⟩ = some (.int .u8 (r.s.hd.kind : Int)) := H0.out.qs.tok 0 (by decide)
  have hfew := H0.out.qs.few
  have hpos := H0.out.qs.good.last.pos
  have qp := H0.out.qs.pos
  rw [hk] at t0
  clear hk hf
  go_enter Tryz.func87, Tryz.ntmps87
  go_wp2_with fail
  go_quiet (fail)
  rename_i nq
  have H1 := RanQ.drew H0 nq
  clear x0 x1 t0 hfew hpos qp
  generalize w.drewN nq = w1 at *
  go_wp2_with fail
  refine (qtext_any _ p B r R H1.out.qs).mono ?_
  rintro e _ ⟨rfl, m, rfl⟩
  have H2 := RanQ.drew H1 m
  generalize w1.drewN m = w2 at *
  go_wp2_with fail
  refine (qkind_any _ r.s.hd.text).mono ?_
  rintro e w3 ⟨rfl, hx⟩
  have H3 := RanQ.ext H2 hx
  clear hx
  rw [HKN.out]
  go_wp2_with fail
  refine (qkid_any _ p B _ R (i) H3.out.qs (HI.out) (nd_le (H3.out.bound HB.out (by omega)))).mono ?_
  rintro e w4a ⟨rfl, R4a, hk, hm⟩
  have HK := Lib.hid (And.intro hk hm)
  clear hk hm
  go_wp2_with fail
  refine (qnode_kid _ p B _ R4a (i) 7 HK.out.1 (H3.out.bound HB.out (by omega))).mono ?_
  rintro e w4 ⟨rfl, hp⟩
  obtain ⟨R4, H4⟩ := RanQ.kidNode H3 HK hp
  clear hp HK
  have HN4 : Hid (r.s.nd.length < (Ps.nd (Rs.s (Rs.kidNode r (i) 7))).length) := Lib.hid (by rw [show (r.kidNode i 7).s.nd.length = r.s.nd.length + 1 from kidNode_len r.s i 7]; omega)
  have HK4 : Hid (Tok.kind (Ps.hd (Rs.s (Rs.kidNode r (i) 7))) ≠ 4) := Lib.hid (by show r.s.hd.kind ≠ 4; rw [HKD.out]; decide)
  have HLF : Hid ((Rs.adv (Rs.kidNode r (i) 7)).s.ts.length ≤ f) := Lib.hid (by have h1 := H4.out.qs.good.last.len HK4.out; have h2 : (Rs.adv (Rs.kidNode r (i) 7)).s.ts.length < r.s.ts.length := h1; omega)
  have x1 := H4.out.qs.x1
  have hf1 := H4.out.qs.blk.frozen 1
  have hfew := H4.out.qs.few
  have hpos := H4.out.qs.good.last.pos
  go_wp2_with fail
  have H5 := RanQ.adv H4 (HK4.out)
  clear x1 hf1 hfew hpos
  generalize w4.setCell ⟨p, 1, none⟩ (.int .i64 ((R4.I : Int) + 1)) = w5 at *
  generalize { R4 with I := R4.I + 1 } = R5 at *
  have HN5 : Hid (r.s.nd.length < (Ps.nd (Rs.s (Rs.adv (Rs.kidNode r (i) 7)))).length) := Lib.hid (Nat.lt_of_lt_of_le HN4.out (RLater.nd (rl_adv H4.out.qs.good (HK4.out))))
  obtain ⟨g5, hi5, hA, hgl5, hgp5⟩ := H5.out.qs.node_at (i := r.s.nd.length) (HN5.out)
  have x3 := H5.out.qs.x3 hA
  have HA5 := Lib.hid hA
  have q0 : (0 : Int) ≤ ((r.s.nd.length : Nat) : Int) := Int.natCast_nonneg _
  have q1 : ((r.s.nd.length : Nat) : Int) < (R5.nh.length : Int) := by omega
  clear hA
  go_region_held3 (fun w' => w'.cell? ⟨p, 3, none⟩ = some (.slice (some ⟨g5, 0, none⟩) R5.nh.length R5.c))
    (first
      | assumption
      | go_keep
      | exact y1s _)
    (first
      | (go_at_call 54; refine (qname_t _ p B _ R5 (H5.out.qs.ext (by first | exact Ext.refl _ | exact Below.drew (Below.refl _ _)))).mono ?_; rintro e w5b ⟨rfl, I5, hq, hm⟩; have y1 : w5b.cell? ⟨p, 3, none⟩ = some (.slice (some ⟨g5, 0, none⟩) R5.nh.length R5.c) := hq.x3 HA5.out; have HN := Lib.hid (And.intro hq hm); have c2 : w5b.cell? ⟨g5, r.s.nd.length * 5 + 2, none⟩ = some (.string (bstr (R5.nh[r.s.nd.length]'hi5).1.text)) := (hq.nodeCell _ hi5 HA5.out 2 (by decide)); have z2 : w5b.frozen? ⟨g5, r.s.nd.length * 5 + 2, none⟩ = false := hq.nthaw _ HA5.out; have y1s : ∀ u, (w5b.setCell ⟨g5, r.s.nd.length * 5 + 2, none⟩ u).cell? ⟨p, 3, none⟩ = some (.slice (some ⟨g5, 0, none⟩) R5.nh.length R5.c) := fun u => (World.cell?_of_block (w := w5b) (a := ⟨p, 3, none⟩) (Below.heap_setCell w5b ⟨g5, r.s.nd.length * 5 + 2, none⟩ u p (fun e => hgp5 e.symm))).trans y1; clear hq hm)
      | (fail))
  obtain ⟨R6, H6⟩ := RanQ.named (i := r.s.nd.length) (g := g5) H5 HN.out.1 ((Moves.ext (by first | exact Ext.refl _ | exact Below.drew (Below.refl _ _))).trans HN.out.2) hi5 HA5.out
  clear c2 z2 y1 y1s x3 q0 q1 HN
  generalize w5b.setCell ⟨g5, r.s.nd.length * 5 + 2, none⟩ (.string (bstr (Rs.nameT (Rs.adv (Rs.kidNode r (i) 7))))) = w6 at *
  have HN6 : Hid (r.s.nd.length < (Ps.nd (Rs.s (namedR (r.s.nd.length) (Rs.adv (Rs.kidNode r (i) 7))))).length) := Lib.hid (Nat.lt_of_lt_of_le HN5.out (RLater.nd (gro_named (r.s.nd.length) _ H5.out.qs.good)))
  go_wp2_with fail
  refine (qtake_any _ p B _ R6 [61] H6.out.qs).mono ?_
  rintro e w7 ⟨rfl, hp⟩
  obtain ⟨R7, H7⟩ := RanQ.go H6 (gro_take [61]) hp
  clear hp
  have HN7 : Hid (r.s.nd.length < (Ps.nd (Rs.s (takeR [61] (namedR (r.s.nd.length) (Rs.adv (Rs.kidNode r (i) 7)))))).length) := Lib.hid (Nat.lt_of_lt_of_le HN6.out (RLater.nd (gro_take [61] _ H6.out.qs.good)))
  go_wp2_with fail
  refine (qrow_any _ p B _ R7 r.s.nd.length H7.out.qs (HN7.out) (H7.out.bound HB.out (by omega))).mono ?_
  rintro e w8 ⟨rfl, hp⟩
  obtain ⟨R8, H8⟩ := RanQ.go H7 (gro_row (r.s.nd.length)) hp
  clear hp
  have HN8 : Hid (r.s.nd.length < (Ps.nd (Rs.s (rowR (r.s.nd.length) (takeR [61] (namedR (r.s.nd.length) (Rs.adv (Rs.kidNode r (i) 7))))))).length) := Lib.hid (Nat.lt_of_lt_of_le HN7.out (RLater.nd (gro_row (r.s.nd.length) _ H7.out.qs.good)))
  go_wp2_with fail
  refine (qtake_any _ p B _ R8 [46] H8.out.qs).mono ?_
  rintro e w9 ⟨rfl, hp⟩
  obtain ⟨R9, H9⟩ := RanQ.go H8 (gro_take [46]) hp
  clear hp
  have HN9 : Hid (r.s.nd.length < (Ps.nd (Rs.s (takeR [46] (rowR (r.s.nd.length) (takeR [61] (namedR (r.s.nd.length) (Rs.adv (Rs.kidNode r (i) 7)))))))).length) := Lib.hid (Nat.lt_of_lt_of_le HN8.out (RLater.nd (gro_take [46] _ H8.out.qs.good)))
  go_wp2_with fail
  refine (qword_any _ p B _ R9 r.s.nd.length H9.out.qs (HN9.out) (H9.out.bound HB.out (by omega))).mono ?_
  rintro e w10 ⟨rfl, hp⟩
  obtain ⟨R10, H10⟩ := RanQ.go H9 (gro_word (r.s.nd.length)) hp
  clear hp
  have HN10 : Hid (r.s.nd.length < (Ps.nd (Rs.s (wordR (r.s.nd.length) (takeR [46] (rowR (r.s.nd.length) (takeR [61] (namedR (r.s.nd.length) (Rs.adv (Rs.kidNode r (i) 7))))))))).length) := Lib.hid (Nat.lt_of_lt_of_le HN9.out (RLater.nd (gro_word (r.s.nd.length) _ H9.out.qs.good)))
  go_wp2_with fail
  have HRR := Lib.hid (readR_yes hc)
  have HC := Lib.hid hc
  clear hc
  refine (qis_any _ p B _ R10 [102, 111, 114] true (HC) H10.out.qs).mono ?_
  rintro e _ ⟨rfl, m, rfl⟩
  have H11 := RanQ.drew H10 m
  generalize w10.drewN m = w11 at *
  have HN11 := HN10
  have x1 := H11.out.qs.x1
  have hf1 := H11.out.qs.blk.frozen 1
  have hfew := H11.out.qs.few
  have hpos := H11.out.qs.good.last.pos
  go_wp2_with fail
  have H12 := RanQ.adv H11 ((ris_kind HC.out).1)
  clear x1 hf1 hfew hpos
  generalize w11.setCell ⟨p, 1, none⟩ (.int .i64 ((R10.I : Int) + 1)) = w12 at *
  generalize { R10 with I := R10.I + 1 } = R12 at *
  have HN12 : Hid (r.s.nd.length < (Ps.nd (Rs.s (Rs.adv (wordR (r.s.nd.length) (takeR [46] (rowR (r.s.nd.length) (takeR [61] (namedR (r.s.nd.length) (Rs.adv (Rs.kidNode r (i) 7)))))))))).length) := Lib.hid (Nat.lt_of_lt_of_le HN11.out (RLater.nd (rl_adv H11.out.qs.good ((ris_kind HC.out).1))))
  refine (qtake_any _ p B _ R12 [117, 112, 100, 97, 116, 101] H12.out.qs).mono ?_
  rintro e w13 ⟨rfl, hp⟩
  obtain ⟨R13, H13⟩ := RanQ.go H12 (gro_take [117, 112, 100, 97, 116, 101]) hp
  clear hp
  have HN13 : Hid (r.s.nd.length < (Ps.nd (Rs.s (takeR [117, 112, 100, 97, 116, 101] (Rs.adv (wordR (r.s.nd.length) (takeR [46] (rowR (r.s.nd.length) (takeR [61] (namedR (r.s.nd.length) (Rs.adv (Rs.kidNode r (i) 7))))))))))).length) := Lib.hid (Nat.lt_of_lt_of_le HN12.out (RLater.nd (gro_take [117, 112, 100, 97, 116, 101] _ H12.out.qs.good)))
  obtain ⟨g13, hi13, hA, hgl13, hgp13⟩ := H13.out.qs.node_at (i := r.s.nd.length) (HN13.out)
  have x3 := H13.out.qs.x3 hA
  have HA13 := Lib.hid hA
  have q0 : (0 : Int) ≤ ((r.s.nd.length : Nat) : Int) := Int.natCast_nonneg _
  have q1 : ((r.s.nd.length : Nat) : Int) < (R13.nh.length : Int) := by omega
  clear hA
  have c3 : w13.cell? ⟨g13, r.s.nd.length * 5 + 3, none⟩ = some (.int .i64 (R13.nh[r.s.nd.length]'hi13).1.num) := (H13.out.qs.nodeCell _ hi13 HA13.out 3 (by decide))
  have z3 := H13.out.qs.nthaw (r.s.nd.length * 5 + 3) HA13.out
  go_wp2_with fail
  obtain ⟨R14, H14⟩ := RanQ.num (i := r.s.nd.length) (g := g13) H13 (1) hi13 HA13.out
  clear c3 z3 x3 q0 q1
  generalize w13.setCell ⟨g13, r.s.nd.length * 5 + 3, none⟩ (.int .i64 (1)) = w14 at *
  have HN14 : Hid (r.s.nd.length < (Ps.nd (Rs.s (Rs.num (takeR [117, 112, 100, 97, 116, 101] (Rs.adv (wordR (r.s.nd.length) (takeR [46] (rowR (r.s.nd.length) (takeR [61] (namedR (r.s.nd.length) (Rs.adv (Rs.kidNode r (i) 7))))))))) (r.s.nd.length) (1)))).length) := Lib.hid (Nat.lt_of_lt_of_le HN13.out (RLater.nd (gro_num (r.s.nd.length) (1) _ H13.out.qs.good)))
  refine (qtake_any _ p B _ R14 [59] H14.out.qs).mono ?_
  rintro e w15 ⟨rfl, hp⟩
  obtain ⟨R15, H15⟩ := RanQ.go H14 (gro_take [59]) hp
  clear hp
  have HN15 : Hid (r.s.nd.length < (Ps.nd (Rs.s (takeR [59] (Rs.num (takeR [117, 112, 100, 97, 116, 101] (Rs.adv (wordR (r.s.nd.length) (takeR [46] (rowR (r.s.nd.length) (takeR [61] (namedR (r.s.nd.length) (Rs.adv (Rs.kidNode r (i) 7))))))))) (r.s.nd.length) (1))))).length) := Lib.hid (Nat.lt_of_lt_of_le HN14.out (RLater.nd (gro_take [59] _ H14.out.qs.good)))
  go_wp2_with fail
  go_end0
  rw [HSR.out, HRR.out]
  exact ⟨rfl, H15.out.post⟩
set_option maxRecDepth 100000 in
set_option maxHeartbeats 8000000 in
theorem qst_read_false (w : World) (p B : Nat) (r : Rs) (R : QRep) (f : Nat) (hst : CallsST f) (i : Nat) (h : QS w p B r R) (hi : i < r.s.nd.length) (hb : r.phi ≤ 1000000) (hl : r.s.ts.length ≤ f + 1) (hk : r.s.hd.kind = 1) (hf : formOf r.s.hd.text = some 7) (hc : (cellR (r.s.nd.length) (takeR [61] (namedR (r.s.nd.length) (Rs.adv (Rs.kidNode r (i) 7))))).is [102, 111, 114] = false) :
    Calls Tryz.prog 87 #[.pointer (some ⟨p, 0, none⟩), .int .i64 (i : Int)] w fun e w' => e = .returned (.tuple #[]) ∧ PostQ w p B R (stmtR (f + 1) i r) w' := by
  have HB := Lib.hid hb
  have HI := Lib.hid hi
  have H0 := Lib.hid (RanQ.refl h)
  clear h hb hi
  have HKN : Hid (((kindN r.s.hd.text : Nat) : Int) = 7) := Lib.hid (by unfold kindN; rw [hf]; rfl)
  have HSR : Hid (stmtR (f + 1) i r = takeR [59] (readR (r.s.nd.length) (Rs.adv (Rs.kidNode r (i) 7)))) := Lib.hid (by rw [stmtR, if_pos hk, hf]; rfl)
  have HKD := Lib.hid hk
  have x0 := H0.out.qs.x0
  have x1 := H0.out.qs.x1
  have t0 : w.cell? ⟨R.bt, R.o0 + R.I * 5, none⟩ = some (.int .u8 (r.s.hd.kind : Int)) := H0.out.qs.tok 0 (by decide)
  have hfew := H0.out.qs.few
  have hpos := H0.out.qs.good.last.pos
  have qp := H0.out.qs.pos
  rw [hk] at t0
  clear hk hf
  go_enter Tryz.func87, Tryz.ntmps87
  go_wp2_with fail
  go_quiet (fail)
  rename_i nq
  have H1 := RanQ.drew H0 nq
  clear x0 x1 t0 hfew hpos qp
  generalize w.drewN nq = w1 at *
  go_wp2_with fail
  refine (qtext_any _ p B r R H1.out.qs).mono ?_
  rintro e _ ⟨rfl, m, rfl⟩
  have H2 := RanQ.drew H1 m
  generalize w1.drewN m = w2 at *
  go_wp2_with fail
  refine (qkind_any _ r.s.hd.text).mono ?_
  rintro e w3 ⟨rfl, hx⟩
  have H3 := RanQ.ext H2 hx
  clear hx
  rw [HKN.out]
  go_wp2_with fail
  refine (qkid_any _ p B _ R (i) H3.out.qs (HI.out) (nd_le (H3.out.bound HB.out (by omega)))).mono ?_
  rintro e w4a ⟨rfl, R4a, hk, hm⟩
  have HK := Lib.hid (And.intro hk hm)
  clear hk hm
  go_wp2_with fail
  refine (qnode_kid _ p B _ R4a (i) 7 HK.out.1 (H3.out.bound HB.out (by omega))).mono ?_
  rintro e w4 ⟨rfl, hp⟩
  obtain ⟨R4, H4⟩ := RanQ.kidNode H3 HK hp
  clear hp HK
  have HN4 : Hid (r.s.nd.length < (Ps.nd (Rs.s (Rs.kidNode r (i) 7))).length) := Lib.hid (by rw [show (r.kidNode i 7).s.nd.length = r.s.nd.length + 1 from kidNode_len r.s i 7]; omega)
  have HK4 : Hid (Tok.kind (Ps.hd (Rs.s (Rs.kidNode r (i) 7))) ≠ 4) := Lib.hid (by show r.s.hd.kind ≠ 4; rw [HKD.out]; decide)
  have HLF : Hid ((Rs.adv (Rs.kidNode r (i) 7)).s.ts.length ≤ f) := Lib.hid (by have h1 := H4.out.qs.good.last.len HK4.out; have h2 : (Rs.adv (Rs.kidNode r (i) 7)).s.ts.length < r.s.ts.length := h1; omega)
  have x1 := H4.out.qs.x1
  have hf1 := H4.out.qs.blk.frozen 1
  have hfew := H4.out.qs.few
  have hpos := H4.out.qs.good.last.pos
  go_wp2_with fail
  have H5 := RanQ.adv H4 (HK4.out)
  clear x1 hf1 hfew hpos
  generalize w4.setCell ⟨p, 1, none⟩ (.int .i64 ((R4.I : Int) + 1)) = w5 at *
  generalize { R4 with I := R4.I + 1 } = R5 at *
  have HN5 : Hid (r.s.nd.length < (Ps.nd (Rs.s (Rs.adv (Rs.kidNode r (i) 7)))).length) := Lib.hid (Nat.lt_of_lt_of_le HN4.out (RLater.nd (rl_adv H4.out.qs.good (HK4.out))))
  obtain ⟨g5, hi5, hA, hgl5, hgp5⟩ := H5.out.qs.node_at (i := r.s.nd.length) (HN5.out)
  have x3 := H5.out.qs.x3 hA
  have HA5 := Lib.hid hA
  have q0 : (0 : Int) ≤ ((r.s.nd.length : Nat) : Int) := Int.natCast_nonneg _
  have q1 : ((r.s.nd.length : Nat) : Int) < (R5.nh.length : Int) := by omega
  clear hA
  go_region_held3 (fun w' => w'.cell? ⟨p, 3, none⟩ = some (.slice (some ⟨g5, 0, none⟩) R5.nh.length R5.c))
    (first
      | assumption
      | go_keep
      | exact y1s _)
    (first
      | (go_at_call 54; refine (qname_t _ p B _ R5 (H5.out.qs.ext (by first | exact Ext.refl _ | exact Below.drew (Below.refl _ _)))).mono ?_; rintro e w5b ⟨rfl, I5, hq, hm⟩; have y1 : w5b.cell? ⟨p, 3, none⟩ = some (.slice (some ⟨g5, 0, none⟩) R5.nh.length R5.c) := hq.x3 HA5.out; have HN := Lib.hid (And.intro hq hm); have c2 : w5b.cell? ⟨g5, r.s.nd.length * 5 + 2, none⟩ = some (.string (bstr (R5.nh[r.s.nd.length]'hi5).1.text)) := (hq.nodeCell _ hi5 HA5.out 2 (by decide)); have z2 : w5b.frozen? ⟨g5, r.s.nd.length * 5 + 2, none⟩ = false := hq.nthaw _ HA5.out; have y1s : ∀ u, (w5b.setCell ⟨g5, r.s.nd.length * 5 + 2, none⟩ u).cell? ⟨p, 3, none⟩ = some (.slice (some ⟨g5, 0, none⟩) R5.nh.length R5.c) := fun u => (World.cell?_of_block (w := w5b) (a := ⟨p, 3, none⟩) (Below.heap_setCell w5b ⟨g5, r.s.nd.length * 5 + 2, none⟩ u p (fun e => hgp5 e.symm))).trans y1; clear hq hm)
      | (fail))
  obtain ⟨R6, H6⟩ := RanQ.named (i := r.s.nd.length) (g := g5) H5 HN.out.1 ((Moves.ext (by first | exact Ext.refl _ | exact Below.drew (Below.refl _ _))).trans HN.out.2) hi5 HA5.out
  clear c2 z2 y1 y1s x3 q0 q1 HN
  generalize w5b.setCell ⟨g5, r.s.nd.length * 5 + 2, none⟩ (.string (bstr (Rs.nameT (Rs.adv (Rs.kidNode r (i) 7))))) = w6 at *
  have HN6 : Hid (r.s.nd.length < (Ps.nd (Rs.s (namedR (r.s.nd.length) (Rs.adv (Rs.kidNode r (i) 7))))).length) := Lib.hid (Nat.lt_of_lt_of_le HN5.out (RLater.nd (gro_named (r.s.nd.length) _ H5.out.qs.good)))
  go_wp2_with fail
  refine (qtake_any _ p B _ R6 [61] H6.out.qs).mono ?_
  rintro e w7 ⟨rfl, hp⟩
  obtain ⟨R7, H7⟩ := RanQ.go H6 (gro_take [61]) hp
  clear hp
  have HN7 : Hid (r.s.nd.length < (Ps.nd (Rs.s (takeR [61] (namedR (r.s.nd.length) (Rs.adv (Rs.kidNode r (i) 7)))))).length) := Lib.hid (Nat.lt_of_lt_of_le HN6.out (RLater.nd (gro_take [61] _ H6.out.qs.good)))
  go_wp2_with fail
  refine (qrow_any _ p B _ R7 r.s.nd.length H7.out.qs (HN7.out) (H7.out.bound HB.out (by omega))).mono ?_
  rintro e w8 ⟨rfl, hp⟩
  obtain ⟨R8, H8⟩ := RanQ.go H7 (gro_row (r.s.nd.length)) hp
  clear hp
  have HN8 : Hid (r.s.nd.length < (Ps.nd (Rs.s (rowR (r.s.nd.length) (takeR [61] (namedR (r.s.nd.length) (Rs.adv (Rs.kidNode r (i) 7))))))).length) := Lib.hid (Nat.lt_of_lt_of_le HN7.out (RLater.nd (gro_row (r.s.nd.length) _ H7.out.qs.good)))
  go_wp2_with fail
  refine (qtake_any _ p B _ R8 [46] H8.out.qs).mono ?_
  rintro e w9 ⟨rfl, hp⟩
  obtain ⟨R9, H9⟩ := RanQ.go H8 (gro_take [46]) hp
  clear hp
  have HN9 : Hid (r.s.nd.length < (Ps.nd (Rs.s (takeR [46] (rowR (r.s.nd.length) (takeR [61] (namedR (r.s.nd.length) (Rs.adv (Rs.kidNode r (i) 7)))))))).length) := Lib.hid (Nat.lt_of_lt_of_le HN8.out (RLater.nd (gro_take [46] _ H8.out.qs.good)))
  go_wp2_with fail
  refine (qword_any _ p B _ R9 r.s.nd.length H9.out.qs (HN9.out) (H9.out.bound HB.out (by omega))).mono ?_
  rintro e w10 ⟨rfl, hp⟩
  obtain ⟨R10, H10⟩ := RanQ.go H9 (gro_word (r.s.nd.length)) hp
  clear hp
  have HN10 : Hid (r.s.nd.length < (Ps.nd (Rs.s (wordR (r.s.nd.length) (takeR [46] (rowR (r.s.nd.length) (takeR [61] (namedR (r.s.nd.length) (Rs.adv (Rs.kidNode r (i) 7))))))))).length) := Lib.hid (Nat.lt_of_lt_of_le HN9.out (RLater.nd (gro_word (r.s.nd.length) _ H9.out.qs.good)))
  go_wp2_with fail
  have HRR := Lib.hid (readR_no hc)
  have HC := Lib.hid hc
  clear hc
  refine (qis_any _ p B _ R10 [102, 111, 114] false (HC) H10.out.qs).mono ?_
  rintro e _ ⟨rfl, m, rfl⟩
  have H11 := RanQ.drew H10 m
  generalize w10.drewN m = w11 at *
  have HN11 := HN10
  go_wp2_with fail
  refine (qtake_any _ p B _ R10 [59] H11.out.qs).mono ?_
  rintro e w12 ⟨rfl, hp⟩
  obtain ⟨R12, H12⟩ := RanQ.go H11 (gro_take [59]) hp
  clear hp
  have HN12 : Hid (r.s.nd.length < (Ps.nd (Rs.s (takeR [59] (wordR (r.s.nd.length) (takeR [46] (rowR (r.s.nd.length) (takeR [61] (namedR (r.s.nd.length) (Rs.adv (Rs.kidNode r (i) 7)))))))))).length) := Lib.hid (Nat.lt_of_lt_of_le HN11.out (RLater.nd (gro_take [59] _ H11.out.qs.good)))
  go_wp2_with fail
  go_end0
  rw [HSR.out, HRR.out]
  exact ⟨rfl, H12.out.post⟩
set_option maxRecDepth 100000 in
set_option maxHeartbeats 8000000 in
theorem qst_set (w : World) (p B : Nat) (r : Rs) (R : QRep) (f : Nat) (hst : CallsST f) (i : Nat) (h : QS w p B r R) (hi : i < r.s.nd.length) (hb : r.phi ≤ 1000000) (hl : r.s.ts.length ≤ f + 1) (hk : r.s.hd.kind = 1) (hf : formOf r.s.hd.text = some 8) :
    Calls Tryz.prog 87 #[.pointer (some ⟨p, 0, none⟩), .int .i64 (i : Int)] w fun e w' => e = .returned (.tuple #[]) ∧ PostQ w p B R (stmtR (f + 1) i r) w' := by
  have HB := Lib.hid hb
  have HI := Lib.hid hi
  have H0 := Lib.hid (RanQ.refl h)
  clear h hb hi
  have HKN : Hid (((kindN r.s.hd.text : Nat) : Int) = 8) := Lib.hid (by unfold kindN; rw [hf]; rfl)
  have HSR : Hid (stmtR (f + 1) i r = takeR [59] (setR (r.s.nd.length) (Rs.adv (Rs.kidNode r (i) 8)))) := Lib.hid (by rw [stmtR, if_pos hk, hf]; rfl)
  have HKD := Lib.hid hk
  have x0 := H0.out.qs.x0
  have x1 := H0.out.qs.x1
  have t0 : w.cell? ⟨R.bt, R.o0 + R.I * 5, none⟩ = some (.int .u8 (r.s.hd.kind : Int)) := H0.out.qs.tok 0 (by decide)
  have hfew := H0.out.qs.few
  have hpos := H0.out.qs.good.last.pos
  have qp := H0.out.qs.pos
  rw [hk] at t0
  clear hk hf
  go_enter Tryz.func87, Tryz.ntmps87
  go_wp2_with fail
  go_quiet (fail)
  rename_i nq
  have H1 := RanQ.drew H0 nq
  clear x0 x1 t0 hfew hpos qp
  generalize w.drewN nq = w1 at *
  go_wp2_with fail
  refine (qtext_any _ p B r R H1.out.qs).mono ?_
  rintro e _ ⟨rfl, m, rfl⟩
  have H2 := RanQ.drew H1 m
  generalize w1.drewN m = w2 at *
  go_wp2_with fail
  refine (qkind_any _ r.s.hd.text).mono ?_
  rintro e w3 ⟨rfl, hx⟩
  have H3 := RanQ.ext H2 hx
  clear hx
  rw [HKN.out]
  go_wp2_with fail
  refine (qkid_any _ p B _ R (i) H3.out.qs (HI.out) (nd_le (H3.out.bound HB.out (by omega)))).mono ?_
  rintro e w4a ⟨rfl, R4a, hk, hm⟩
  have HK := Lib.hid (And.intro hk hm)
  clear hk hm
  go_wp2_with fail
  refine (qnode_kid _ p B _ R4a (i) 8 HK.out.1 (H3.out.bound HB.out (by omega))).mono ?_
  rintro e w4 ⟨rfl, hp⟩
  obtain ⟨R4, H4⟩ := RanQ.kidNode H3 HK hp
  clear hp HK
  have HN4 : Hid (r.s.nd.length < (Ps.nd (Rs.s (Rs.kidNode r (i) 8))).length) := Lib.hid (by rw [show (r.kidNode i 8).s.nd.length = r.s.nd.length + 1 from kidNode_len r.s i 8]; omega)
  have HK4 : Hid (Tok.kind (Ps.hd (Rs.s (Rs.kidNode r (i) 8))) ≠ 4) := Lib.hid (by show r.s.hd.kind ≠ 4; rw [HKD.out]; decide)
  have HLF : Hid ((Rs.adv (Rs.kidNode r (i) 8)).s.ts.length ≤ f) := Lib.hid (by have h1 := H4.out.qs.good.last.len HK4.out; have h2 : (Rs.adv (Rs.kidNode r (i) 8)).s.ts.length < r.s.ts.length := h1; omega)
  have x1 := H4.out.qs.x1
  have hf1 := H4.out.qs.blk.frozen 1
  have hfew := H4.out.qs.few
  have hpos := H4.out.qs.good.last.pos
  go_wp2_with fail
  have H5 := RanQ.adv H4 (HK4.out)
  clear x1 hf1 hfew hpos
  generalize w4.setCell ⟨p, 1, none⟩ (.int .i64 ((R4.I : Int) + 1)) = w5 at *
  generalize { R4 with I := R4.I + 1 } = R5 at *
  have HN5 : Hid (r.s.nd.length < (Ps.nd (Rs.s (Rs.adv (Rs.kidNode r (i) 8)))).length) := Lib.hid (Nat.lt_of_lt_of_le HN4.out (RLater.nd (rl_adv H4.out.qs.good (HK4.out))))
  refine (qrow_any _ p B _ R5 r.s.nd.length H5.out.qs (HN5.out) (H5.out.bound HB.out (by omega))).mono ?_
  rintro e w6 ⟨rfl, hp⟩
  obtain ⟨R6, H6⟩ := RanQ.go H5 (gro_row (r.s.nd.length)) hp
  clear hp
  have HN6 : Hid (r.s.nd.length < (Ps.nd (Rs.s (rowR (r.s.nd.length) (Rs.adv (Rs.kidNode r (i) 8))))).length) := Lib.hid (Nat.lt_of_lt_of_le HN5.out (RLater.nd (gro_row (r.s.nd.length) _ H5.out.qs.good)))
  go_wp2_with fail
  refine (qtake_any _ p B _ R6 [46] H6.out.qs).mono ?_
  rintro e w7 ⟨rfl, hp⟩
  obtain ⟨R7, H7⟩ := RanQ.go H6 (gro_take [46]) hp
  clear hp
  have HN7 : Hid (r.s.nd.length < (Ps.nd (Rs.s (takeR [46] (rowR (r.s.nd.length) (Rs.adv (Rs.kidNode r (i) 8)))))).length) := Lib.hid (Nat.lt_of_lt_of_le HN6.out (RLater.nd (gro_take [46] _ H6.out.qs.good)))
  go_wp2_with fail
  refine (qword_any _ p B _ R7 r.s.nd.length H7.out.qs (HN7.out) (H7.out.bound HB.out (by omega))).mono ?_
  rintro e w8 ⟨rfl, hp⟩
  obtain ⟨R8, H8⟩ := RanQ.go H7 (gro_word (r.s.nd.length)) hp
  clear hp
  have HN8 : Hid (r.s.nd.length < (Ps.nd (Rs.s (wordR (r.s.nd.length) (takeR [46] (rowR (r.s.nd.length) (Rs.adv (Rs.kidNode r (i) 8))))))).length) := Lib.hid (Nat.lt_of_lt_of_le HN7.out (RLater.nd (gro_word (r.s.nd.length) _ H7.out.qs.good)))
  go_wp2_with fail
  refine (qtake_any _ p B _ R8 [61] H8.out.qs).mono ?_
  rintro e w9 ⟨rfl, hp⟩
  obtain ⟨R9, H9⟩ := RanQ.go H8 (gro_take [61]) hp
  clear hp
  have HN9 : Hid (r.s.nd.length < (Ps.nd (Rs.s (takeR [61] (wordR (r.s.nd.length) (takeR [46] (rowR (r.s.nd.length) (Rs.adv (Rs.kidNode r (i) 8)))))))).length) := Lib.hid (Nat.lt_of_lt_of_le HN8.out (RLater.nd (gro_take [61] _ H8.out.qs.good)))
  go_wp2_with fail
  refine (qexpr_any _ p B _ R9 r.s.nd.length H9.out.qs (HN9.out) (H9.out.bound HB.out (by omega))).mono ?_
  rintro e w10 ⟨rfl, hp⟩
  obtain ⟨R10, H10⟩ := RanQ.go H9 (gro_expr (r.s.nd.length)) hp
  clear hp
  have HN10 : Hid (r.s.nd.length < (Ps.nd (Rs.s (exprR (r.s.nd.length) (takeR [61] (wordR (r.s.nd.length) (takeR [46] (rowR (r.s.nd.length) (Rs.adv (Rs.kidNode r (i) 8))))))))).length) := Lib.hid (Nat.lt_of_lt_of_le HN9.out (RLater.nd (gro_expr (r.s.nd.length) _ H9.out.qs.good)))
  go_wp2_with fail
  refine (qtake_any _ p B _ R10 [59] H10.out.qs).mono ?_
  rintro e w11 ⟨rfl, hp⟩
  obtain ⟨R11, H11⟩ := RanQ.go H10 (gro_take [59]) hp
  clear hp
  have HN11 : Hid (r.s.nd.length < (Ps.nd (Rs.s (takeR [59] (exprR (r.s.nd.length) (takeR [61] (wordR (r.s.nd.length) (takeR [46] (rowR (r.s.nd.length) (Rs.adv (Rs.kidNode r (i) 8)))))))))).length) := Lib.hid (Nat.lt_of_lt_of_le HN10.out (RLater.nd (gro_take [59] _ H10.out.qs.good)))
  go_wp2_with fail
  go_end0
  rw [HSR.out]
  exact ⟨rfl, H11.out.post⟩
set_option maxRecDepth 100000 in
set_option maxHeartbeats 8000000 in
theorem qst_put (w : World) (p B : Nat) (r : Rs) (R : QRep) (f : Nat) (hst : CallsST f) (i : Nat) (h : QS w p B r R) (hi : i < r.s.nd.length) (hb : r.phi ≤ 1000000) (hl : r.s.ts.length ≤ f + 1) (hk : r.s.hd.kind = 1) (hf : formOf r.s.hd.text = some 9) :
    Calls Tryz.prog 87 #[.pointer (some ⟨p, 0, none⟩), .int .i64 (i : Int)] w fun e w' => e = .returned (.tuple #[]) ∧ PostQ w p B R (stmtR (f + 1) i r) w' := by
  have HB := Lib.hid hb
  have HI := Lib.hid hi
  have H0 := Lib.hid (RanQ.refl h)
  clear h hb hi
  have HKN : Hid (((kindN r.s.hd.text : Nat) : Int) = 9) := Lib.hid (by unfold kindN; rw [hf]; rfl)
  have HSR : Hid (stmtR (f + 1) i r = takeR [59] (upsertR (r.s.nd.length) (Rs.adv (Rs.kidNode r (i) 9)))) := Lib.hid (by rw [stmtR, if_pos hk, hf]; rfl)
  have HKD := Lib.hid hk
  have x0 := H0.out.qs.x0
  have x1 := H0.out.qs.x1
  have t0 : w.cell? ⟨R.bt, R.o0 + R.I * 5, none⟩ = some (.int .u8 (r.s.hd.kind : Int)) := H0.out.qs.tok 0 (by decide)
  have hfew := H0.out.qs.few
  have hpos := H0.out.qs.good.last.pos
  have qp := H0.out.qs.pos
  rw [hk] at t0
  clear hk hf
  go_enter Tryz.func87, Tryz.ntmps87
  go_wp2_with fail
  go_quiet (fail)
  rename_i nq
  have H1 := RanQ.drew H0 nq
  clear x0 x1 t0 hfew hpos qp
  generalize w.drewN nq = w1 at *
  go_wp2_with fail
  refine (qtext_any _ p B r R H1.out.qs).mono ?_
  rintro e _ ⟨rfl, m, rfl⟩
  have H2 := RanQ.drew H1 m
  generalize w1.drewN m = w2 at *
  go_wp2_with fail
  refine (qkind_any _ r.s.hd.text).mono ?_
  rintro e w3 ⟨rfl, hx⟩
  have H3 := RanQ.ext H2 hx
  clear hx
  rw [HKN.out]
  go_wp2_with fail
  refine (qkid_any _ p B _ R (i) H3.out.qs (HI.out) (nd_le (H3.out.bound HB.out (by omega)))).mono ?_
  rintro e w4a ⟨rfl, R4a, hk, hm⟩
  have HK := Lib.hid (And.intro hk hm)
  clear hk hm
  go_wp2_with fail
  refine (qnode_kid _ p B _ R4a (i) 9 HK.out.1 (H3.out.bound HB.out (by omega))).mono ?_
  rintro e w4 ⟨rfl, hp⟩
  obtain ⟨R4, H4⟩ := RanQ.kidNode H3 HK hp
  clear hp HK
  have HN4 : Hid (r.s.nd.length < (Ps.nd (Rs.s (Rs.kidNode r (i) 9))).length) := Lib.hid (by rw [show (r.kidNode i 9).s.nd.length = r.s.nd.length + 1 from kidNode_len r.s i 9]; omega)
  have HK4 : Hid (Tok.kind (Ps.hd (Rs.s (Rs.kidNode r (i) 9))) ≠ 4) := Lib.hid (by show r.s.hd.kind ≠ 4; rw [HKD.out]; decide)
  have HLF : Hid ((Rs.adv (Rs.kidNode r (i) 9)).s.ts.length ≤ f) := Lib.hid (by have h1 := H4.out.qs.good.last.len HK4.out; have h2 : (Rs.adv (Rs.kidNode r (i) 9)).s.ts.length < r.s.ts.length := h1; omega)
  have x1 := H4.out.qs.x1
  have hf1 := H4.out.qs.blk.frozen 1
  have hfew := H4.out.qs.few
  have hpos := H4.out.qs.good.last.pos
  go_wp2_with fail
  have H5 := RanQ.adv H4 (HK4.out)
  clear x1 hf1 hfew hpos
  generalize w4.setCell ⟨p, 1, none⟩ (.int .i64 ((R4.I : Int) + 1)) = w5 at *
  generalize { R4 with I := R4.I + 1 } = R5 at *
  have HN5 : Hid (r.s.nd.length < (Ps.nd (Rs.s (Rs.adv (Rs.kidNode r (i) 9)))).length) := Lib.hid (Nat.lt_of_lt_of_le HN4.out (RLater.nd (rl_adv H4.out.qs.good (HK4.out))))
  refine (qrow_any _ p B _ R5 r.s.nd.length H5.out.qs (HN5.out) (H5.out.bound HB.out (by omega))).mono ?_
  rintro e w6 ⟨rfl, hp⟩
  obtain ⟨R6, H6⟩ := RanQ.go H5 (gro_row (r.s.nd.length)) hp
  clear hp
  have HN6 : Hid (r.s.nd.length < (Ps.nd (Rs.s (rowR (r.s.nd.length) (Rs.adv (Rs.kidNode r (i) 9))))).length) := Lib.hid (Nat.lt_of_lt_of_le HN5.out (RLater.nd (gro_row (r.s.nd.length) _ H5.out.qs.good)))
  go_wp2_with fail
  refine (qtake_any _ p B _ R6 [40] H6.out.qs).mono ?_
  rintro e w7 ⟨rfl, hp⟩
  obtain ⟨R7, H7⟩ := RanQ.go H6 (gro_take [40]) hp
  clear hp
  have HN7 : Hid (r.s.nd.length < (Ps.nd (Rs.s (takeR [40] (rowR (r.s.nd.length) (Rs.adv (Rs.kidNode r (i) 9)))))).length) := Lib.hid (Nat.lt_of_lt_of_le HN6.out (RLater.nd (gro_take [40] _ H6.out.qs.good)))
  go_wp2_with fail
  refine (qexpr_any _ p B _ R7 r.s.nd.length H7.out.qs (HN7.out) (H7.out.bound HB.out (by omega))).mono ?_
  rintro e w8 ⟨rfl, hp⟩
  obtain ⟨R8, H8⟩ := RanQ.go H7 (gro_expr (r.s.nd.length)) hp
  clear hp
  have HN8 : Hid (r.s.nd.length < (Ps.nd (Rs.s (exprR (r.s.nd.length) (takeR [40] (rowR (r.s.nd.length) (Rs.adv (Rs.kidNode r (i) 9))))))).length) := Lib.hid (Nat.lt_of_lt_of_le HN7.out (RLater.nd (gro_expr (r.s.nd.length) _ H7.out.qs.good)))
  go_wp2_with fail
  have HJ := RanQ.le (d := 8) H8 (by decide)
  go_loopw [] (fun wr => MoreJ w p B R r (exprR (r.s.nd.length)) (exprR (r.s.nd.length) (takeR [40] (rowR (r.s.nd.length) (Rs.adv (Rs.kidNode r (i) 9))))) wr) (fun wr => lenQ p wr)
  case atStart => exact ⟨_, _, _, HJ, Lib.hid (Nat.lt_succ_self _), Lib.hid rfl, Lib.hid (Nat.le_refl _)⟩
  case round =>
    obtain ⟨q, Rq, f', Hq0, HF, HEQ, HND⟩ := hrel
    obtain ⟨wq, rfl⟩ : ∃ wa : World, wa = wr := ⟨_, rfl⟩
    obtain ⟨f'', rfl⟩ : ∃ n, f' = n + 1 := ⟨f' - 1, by have := HF.out; omega⟩
    have HLM : Hid (lenQ p wq = q.s.ts.length) := Lib.hid Hq0.out.qs.lenQ
    cases hq : q.is [44] with
    | true =>
      have HQ := Lib.hid hq
      have HQ4 := Lib.hid (ris_kind hq).1
      have HEQ2 : Hid (moreR (exprR (r.s.nd.length)) ((Ps.ts (Rs.s (exprR (r.s.nd.length) (takeR [40] (rowR (r.s.nd.length) (Rs.adv (Rs.kidNode r (i) 9))))))).length + 1) (exprR (r.s.nd.length) (takeR [40] (rowR (r.s.nd.length) (Rs.adv (Rs.kidNode r (i) 9))))) = moreR (exprR (r.s.nd.length)) f'' ((exprR (r.s.nd.length)) q.adv)) := Lib.hid (HEQ.out.trans (moreR_yes hq))
      clear hq
      go_wp2_with fail
      refine (qis_any _ p B q Rq [44] true HQ Hq0.out.qs).mono ?_
      rintro e _ ⟨rfl, m, rfl⟩
      have Hq1 := RanQ.drew Hq0 m
      generalize wq.drewN m = wq1 at *
      have x1 := Hq1.out.qs.x1
      have hf1 := Hq1.out.qs.blk.frozen 1
      have hfew := Hq1.out.qs.few
      have hpos := Hq1.out.qs.good.last.pos
      go_wp2_with fail
      have Hq2 := RanQ.adv Hq1 HQ4.out
      clear x1 hf1 hfew hpos
      generalize wq1.setCell ⟨p, 1, none⟩ (.int .i64 ((Rq.I : Int) + 1)) = wq2 at *
      generalize { Rq with I := Rq.I + 1 } = Rq2 at *
      refine (qexpr_any _ p B _ Rq2 r.s.nd.length Hq2.out.qs (Nat.lt_of_lt_of_le (HN8.out) (Nat.le_trans HND.out (Nat.le_refl _))) (Hq2.out.bound HB.out (by omega))).mono ?_
      rintro e wq3 ⟨rfl, hp⟩
      obtain ⟨Rq3, Hq3⟩ := RanQ.go Hq2 (gro_expr (r.s.nd.length)) hp
      clear hp
      have HL3 : Hid (((exprR (r.s.nd.length)) q.adv).s.ts.length < q.s.ts.length) := Lib.hid (by
        have h1 := Hq1.out.qs.good.last.len HQ4.out
        have h2 := (gro_expr (r.s.nd.length) q.adv Hq2.out.qs.good).ts
        have h3 : q.adv.s.ts.length < q.s.ts.length := h1
        omega)
      have HN3 : Hid ((Ps.nd (Rs.s (exprR (r.s.nd.length) (takeR [40] (rowR (r.s.nd.length) (Rs.adv (Rs.kidNode r (i) 9))))))).length ≤ ((exprR (r.s.nd.length)) q.adv).s.nd.length) := Lib.hid (Nat.le_trans HND.out (gro_expr (r.s.nd.length) q.adv Hq2.out.qs.good).nd)
      have HR3 := RanQ.le (d := 8) Hq3 (by decide)
      go_wp2_with fail
      go_roundw
      case rel => exact ⟨_, _, f'', HR3, Lib.hid (by have := HL3.out; have := HF.out; omega), HEQ2, HN3⟩
      case measure => rw [HLM.out, HR3.out.qs.lenQ]; exact HL3.out
    | false =>
      have HQ := Lib.hid hq
      have HLS : Hid (listR (exprR (r.s.nd.length)) (takeR [40] (rowR (r.s.nd.length) (Rs.adv (Rs.kidNode r (i) 9)))) = q) := Lib.hid (HEQ.out.trans (moreR_no hq))
      clear hq
      go_wp2_with fail
      refine (qis_any _ p B q Rq [44] false HQ Hq0.out.qs).mono ?_
      rintro e _ ⟨rfl, m, rfl⟩
      have H9 := RanQ.drew Hq0 m
      generalize wq.drewN m = w9 at *
      have HN9 : Hid (r.s.nd.length < q.s.nd.length) := Lib.hid (Nat.lt_of_lt_of_le HN8.out HND.out)
      go_wp2_with fail
      refine (qtake_any _ p B _ Rq [41] H9.out.qs).mono ?_
      rintro e w10 ⟨rfl, hp⟩
      obtain ⟨R10, H10⟩ := RanQ.go H9 (gro_take [41]) hp
      clear hp
      have HN10 : Hid (r.s.nd.length < (Ps.nd (Rs.s (takeR [41] q))).length) := Lib.hid (Nat.lt_of_lt_of_le HN9.out (RLater.nd (gro_take [41] _ H9.out.qs.good)))
      go_wp2_with fail
      refine (qtake_any _ p B _ R10 [59] H10.out.qs).mono ?_
      rintro e w11 ⟨rfl, hp⟩
      obtain ⟨R11, H11⟩ := RanQ.go H10 (gro_take [59]) hp
      clear hp
      have HN11 : Hid (r.s.nd.length < (Ps.nd (Rs.s (takeR [59] (takeR [41] q)))).length) := Lib.hid (Nat.lt_of_lt_of_le HN10.out (RLater.nd (gro_take [59] _ H10.out.qs.good)))
      go_wp2_with fail
      go_end0
      rw [HSR.out, show upsertR (r.s.nd.length) (Rs.adv (Rs.kidNode r (i) 9)) = takeR [41] (listR (exprR (r.s.nd.length)) (takeR [40] (rowR (r.s.nd.length) (Rs.adv (Rs.kidNode r (i) 9))))) from rfl, HLS.out]
      exact ⟨rfl, H11.out.post⟩
set_option maxRecDepth 100000 in
set_option maxHeartbeats 8000000 in
theorem qst_delete (w : World) (p B : Nat) (r : Rs) (R : QRep) (f : Nat) (hst : CallsST f) (i : Nat) (h : QS w p B r R) (hi : i < r.s.nd.length) (hb : r.phi ≤ 1000000) (hl : r.s.ts.length ≤ f + 1) (hk : r.s.hd.kind = 1) (hf : formOf r.s.hd.text = some 10) :
    Calls Tryz.prog 87 #[.pointer (some ⟨p, 0, none⟩), .int .i64 (i : Int)] w fun e w' => e = .returned (.tuple #[]) ∧ PostQ w p B R (stmtR (f + 1) i r) w' := by
  have HB := Lib.hid hb
  have HI := Lib.hid hi
  have H0 := Lib.hid (RanQ.refl h)
  clear h hb hi
  have HKN : Hid (((kindN r.s.hd.text : Nat) : Int) = 10) := Lib.hid (by unfold kindN; rw [hf]; rfl)
  have HSR : Hid (stmtR (f + 1) i r = takeR [59] (rowR (r.s.nd.length) (Rs.adv (Rs.kidNode r (i) 10)))) := Lib.hid (by rw [stmtR, if_pos hk, hf]; rfl)
  have HKD := Lib.hid hk
  have x0 := H0.out.qs.x0
  have x1 := H0.out.qs.x1
  have t0 : w.cell? ⟨R.bt, R.o0 + R.I * 5, none⟩ = some (.int .u8 (r.s.hd.kind : Int)) := H0.out.qs.tok 0 (by decide)
  have hfew := H0.out.qs.few
  have hpos := H0.out.qs.good.last.pos
  have qp := H0.out.qs.pos
  rw [hk] at t0
  clear hk hf
  go_enter Tryz.func87, Tryz.ntmps87
  go_wp2_with fail
  go_quiet (fail)
  rename_i nq
  have H1 := RanQ.drew H0 nq
  clear x0 x1 t0 hfew hpos qp
  generalize w.drewN nq = w1 at *
  go_wp2_with fail
  refine (qtext_any _ p B r R H1.out.qs).mono ?_
  rintro e _ ⟨rfl, m, rfl⟩
  have H2 := RanQ.drew H1 m
  generalize w1.drewN m = w2 at *
  go_wp2_with fail
  refine (qkind_any _ r.s.hd.text).mono ?_
  rintro e w3 ⟨rfl, hx⟩
  have H3 := RanQ.ext H2 hx
  clear hx
  rw [HKN.out]
  go_wp2_with fail
  refine (qkid_any _ p B _ R (i) H3.out.qs (HI.out) (nd_le (H3.out.bound HB.out (by omega)))).mono ?_
  rintro e w4a ⟨rfl, R4a, hk, hm⟩
  have HK := Lib.hid (And.intro hk hm)
  clear hk hm
  go_wp2_with fail
  refine (qnode_kid _ p B _ R4a (i) 10 HK.out.1 (H3.out.bound HB.out (by omega))).mono ?_
  rintro e w4 ⟨rfl, hp⟩
  obtain ⟨R4, H4⟩ := RanQ.kidNode H3 HK hp
  clear hp HK
  have HN4 : Hid (r.s.nd.length < (Ps.nd (Rs.s (Rs.kidNode r (i) 10))).length) := Lib.hid (by rw [show (r.kidNode i 10).s.nd.length = r.s.nd.length + 1 from kidNode_len r.s i 10]; omega)
  have HK4 : Hid (Tok.kind (Ps.hd (Rs.s (Rs.kidNode r (i) 10))) ≠ 4) := Lib.hid (by show r.s.hd.kind ≠ 4; rw [HKD.out]; decide)
  have HLF : Hid ((Rs.adv (Rs.kidNode r (i) 10)).s.ts.length ≤ f) := Lib.hid (by have h1 := H4.out.qs.good.last.len HK4.out; have h2 : (Rs.adv (Rs.kidNode r (i) 10)).s.ts.length < r.s.ts.length := h1; omega)
  have x1 := H4.out.qs.x1
  have hf1 := H4.out.qs.blk.frozen 1
  have hfew := H4.out.qs.few
  have hpos := H4.out.qs.good.last.pos
  go_wp2_with fail
  have H5 := RanQ.adv H4 (HK4.out)
  clear x1 hf1 hfew hpos
  generalize w4.setCell ⟨p, 1, none⟩ (.int .i64 ((R4.I : Int) + 1)) = w5 at *
  generalize { R4 with I := R4.I + 1 } = R5 at *
  have HN5 : Hid (r.s.nd.length < (Ps.nd (Rs.s (Rs.adv (Rs.kidNode r (i) 10)))).length) := Lib.hid (Nat.lt_of_lt_of_le HN4.out (RLater.nd (rl_adv H4.out.qs.good (HK4.out))))
  refine (qrow_any _ p B _ R5 r.s.nd.length H5.out.qs (HN5.out) (H5.out.bound HB.out (by omega))).mono ?_
  rintro e w6 ⟨rfl, hp⟩
  obtain ⟨R6, H6⟩ := RanQ.go H5 (gro_row (r.s.nd.length)) hp
  clear hp
  have HN6 : Hid (r.s.nd.length < (Ps.nd (Rs.s (rowR (r.s.nd.length) (Rs.adv (Rs.kidNode r (i) 10))))).length) := Lib.hid (Nat.lt_of_lt_of_le HN5.out (RLater.nd (gro_row (r.s.nd.length) _ H5.out.qs.good)))
  go_wp2_with fail
  refine (qtake_any _ p B _ R6 [59] H6.out.qs).mono ?_
  rintro e w7 ⟨rfl, hp⟩
  obtain ⟨R7, H7⟩ := RanQ.go H6 (gro_take [59]) hp
  clear hp
  have HN7 : Hid (r.s.nd.length < (Ps.nd (Rs.s (takeR [59] (rowR (r.s.nd.length) (Rs.adv (Rs.kidNode r (i) 10)))))).length) := Lib.hid (Nat.lt_of_lt_of_le HN6.out (RLater.nd (gro_take [59] _ H6.out.qs.good)))
  go_wp2_with fail
  go_end0
  rw [HSR.out]
  exact ⟨rfl, H7.out.post⟩
set_option maxRecDepth 100000 in
set_option maxHeartbeats 8000000 in
theorem qst_scan (w : World) (p B : Nat) (r : Rs) (R : QRep) (f : Nat) (hst : CallsST f) (i : Nat) (h : QS w p B r R) (hi : i < r.s.nd.length) (hb : r.phi ≤ 1000000) (hl : r.s.ts.length ≤ f + 1) (hk : r.s.hd.kind = 1) (hf : formOf r.s.hd.text = some 11) :
    Calls Tryz.prog 87 #[.pointer (some ⟨p, 0, none⟩), .int .i64 (i : Int)] w fun e w' => e = .returned (.tuple #[]) ∧ PostQ w p B R (stmtR (f + 1) i r) w' := by
  have HB := Lib.hid hb
  have HI := Lib.hid hi
  have H0 := Lib.hid (RanQ.refl h)
  clear h hb hi
  have HKN : Hid (((kindN r.s.hd.text : Nat) : Int) = 11) := Lib.hid (by unfold kindN; rw [hf]; rfl)
  have HSR : Hid (stmtR (f + 1) i r = takeR [59] (scanR (r.s.nd.length) (Rs.adv (Rs.kidNode r (i) 11)))) := Lib.hid (by rw [stmtR, if_pos hk, hf]; rfl)
  have HKD := Lib.hid hk
  have x0 := H0.out.qs.x0
  have x1 := H0.out.qs.x1
  have t0 : w.cell? ⟨R.bt, R.o0 + R.I * 5, none⟩ = some (.int .u8 (r.s.hd.kind : Int)) := H0.out.qs.tok 0 (by decide)
  have hfew := H0.out.qs.few
  have hpos := H0.out.qs.good.last.pos
  have qp := H0.out.qs.pos
  rw [hk] at t0
  clear hk hf
  go_enter Tryz.func87, Tryz.ntmps87
  go_wp2_with fail
  go_quiet (fail)
  rename_i nq
  have H1 := RanQ.drew H0 nq
  clear x0 x1 t0 hfew hpos qp
  generalize w.drewN nq = w1 at *
  go_wp2_with fail
  refine (qtext_any _ p B r R H1.out.qs).mono ?_
  rintro e _ ⟨rfl, m, rfl⟩
  have H2 := RanQ.drew H1 m
  generalize w1.drewN m = w2 at *
  go_wp2_with fail
  refine (qkind_any _ r.s.hd.text).mono ?_
  rintro e w3 ⟨rfl, hx⟩
  have H3 := RanQ.ext H2 hx
  clear hx
  rw [HKN.out]
  go_wp2_with fail
  refine (qkid_any _ p B _ R (i) H3.out.qs (HI.out) (nd_le (H3.out.bound HB.out (by omega)))).mono ?_
  rintro e w4a ⟨rfl, R4a, hk, hm⟩
  have HK := Lib.hid (And.intro hk hm)
  clear hk hm
  go_wp2_with fail
  refine (qnode_kid _ p B _ R4a (i) 11 HK.out.1 (H3.out.bound HB.out (by omega))).mono ?_
  rintro e w4 ⟨rfl, hp⟩
  obtain ⟨R4, H4⟩ := RanQ.kidNode H3 HK hp
  clear hp HK
  have HN4 : Hid (r.s.nd.length < (Ps.nd (Rs.s (Rs.kidNode r (i) 11))).length) := Lib.hid (by rw [show (r.kidNode i 11).s.nd.length = r.s.nd.length + 1 from kidNode_len r.s i 11]; omega)
  have HK4 : Hid (Tok.kind (Ps.hd (Rs.s (Rs.kidNode r (i) 11))) ≠ 4) := Lib.hid (by show r.s.hd.kind ≠ 4; rw [HKD.out]; decide)
  have HLF : Hid ((Rs.adv (Rs.kidNode r (i) 11)).s.ts.length ≤ f) := Lib.hid (by have h1 := H4.out.qs.good.last.len HK4.out; have h2 : (Rs.adv (Rs.kidNode r (i) 11)).s.ts.length < r.s.ts.length := h1; omega)
  have x1 := H4.out.qs.x1
  have hf1 := H4.out.qs.blk.frozen 1
  have hfew := H4.out.qs.few
  have hpos := H4.out.qs.good.last.pos
  go_wp2_with fail
  have H5 := RanQ.adv H4 (HK4.out)
  clear x1 hf1 hfew hpos
  generalize w4.setCell ⟨p, 1, none⟩ (.int .i64 ((R4.I : Int) + 1)) = w5 at *
  generalize { R4 with I := R4.I + 1 } = R5 at *
  have HN5 : Hid (r.s.nd.length < (Ps.nd (Rs.s (Rs.adv (Rs.kidNode r (i) 11)))).length) := Lib.hid (Nat.lt_of_lt_of_le HN4.out (RLater.nd (rl_adv H4.out.qs.good (HK4.out))))
  obtain ⟨g5, hi5, hA, hgl5, hgp5⟩ := H5.out.qs.node_at (i := r.s.nd.length) (HN5.out)
  have x3 := H5.out.qs.x3 hA
  have HA5 := Lib.hid hA
  have q0 : (0 : Int) ≤ ((r.s.nd.length : Nat) : Int) := Int.natCast_nonneg _
  have q1 : ((r.s.nd.length : Nat) : Int) < (R5.nh.length : Int) := by omega
  clear hA
  go_region_held3 (fun w' => w'.cell? ⟨p, 3, none⟩ = some (.slice (some ⟨g5, 0, none⟩) R5.nh.length R5.c))
    (first
      | assumption
      | go_keep
      | exact y1s _)
    (first
      | (go_at_call 54; refine (qname_t _ p B _ R5 (H5.out.qs.ext (by first | exact Ext.refl _ | exact Below.drew (Below.refl _ _)))).mono ?_; rintro e w5b ⟨rfl, I5, hq, hm⟩; have y1 : w5b.cell? ⟨p, 3, none⟩ = some (.slice (some ⟨g5, 0, none⟩) R5.nh.length R5.c) := hq.x3 HA5.out; have HN := Lib.hid (And.intro hq hm); have c2 : w5b.cell? ⟨g5, r.s.nd.length * 5 + 2, none⟩ = some (.string (bstr (R5.nh[r.s.nd.length]'hi5).1.text)) := (hq.nodeCell _ hi5 HA5.out 2 (by decide)); have z2 : w5b.frozen? ⟨g5, r.s.nd.length * 5 + 2, none⟩ = false := hq.nthaw _ HA5.out; have y1s : ∀ u, (w5b.setCell ⟨g5, r.s.nd.length * 5 + 2, none⟩ u).cell? ⟨p, 3, none⟩ = some (.slice (some ⟨g5, 0, none⟩) R5.nh.length R5.c) := fun u => (World.cell?_of_block (w := w5b) (a := ⟨p, 3, none⟩) (Below.heap_setCell w5b ⟨g5, r.s.nd.length * 5 + 2, none⟩ u p (fun e => hgp5 e.symm))).trans y1; clear hq hm)
      | (fail))
  obtain ⟨R6, H6⟩ := RanQ.named (i := r.s.nd.length) (g := g5) H5 HN.out.1 ((Moves.ext (by first | exact Ext.refl _ | exact Below.drew (Below.refl _ _))).trans HN.out.2) hi5 HA5.out
  clear c2 z2 y1 y1s x3 q0 q1 HN
  generalize w5b.setCell ⟨g5, r.s.nd.length * 5 + 2, none⟩ (.string (bstr (Rs.nameT (Rs.adv (Rs.kidNode r (i) 11))))) = w6 at *
  have HN6 : Hid (r.s.nd.length < (Ps.nd (Rs.s (namedR (r.s.nd.length) (Rs.adv (Rs.kidNode r (i) 11))))).length) := Lib.hid (Nat.lt_of_lt_of_le HN5.out (RLater.nd (gro_named (r.s.nd.length) _ H5.out.qs.good)))
  go_wp2_with fail
  refine (qtake_any _ p B _ R6 [61] H6.out.qs).mono ?_
  rintro e w7 ⟨rfl, hp⟩
  obtain ⟨R7, H7⟩ := RanQ.go H6 (gro_take [61]) hp
  clear hp
  have HN7 : Hid (r.s.nd.length < (Ps.nd (Rs.s (takeR [61] (namedR (r.s.nd.length) (Rs.adv (Rs.kidNode r (i) 11)))))).length) := Lib.hid (Nat.lt_of_lt_of_le HN6.out (RLater.nd (gro_take [61] _ H6.out.qs.good)))
  go_wp2_with fail
  refine (qword_any _ p B _ R7 r.s.nd.length H7.out.qs (HN7.out) (H7.out.bound HB.out (by omega))).mono ?_
  rintro e w8 ⟨rfl, hp⟩
  obtain ⟨R8, H8⟩ := RanQ.go H7 (gro_word (r.s.nd.length)) hp
  clear hp
  have HN8 : Hid (r.s.nd.length < (Ps.nd (Rs.s (wordR (r.s.nd.length) (takeR [61] (namedR (r.s.nd.length) (Rs.adv (Rs.kidNode r (i) 11))))))).length) := Lib.hid (Nat.lt_of_lt_of_le HN7.out (RLater.nd (gro_word (r.s.nd.length) _ H7.out.qs.good)))
  go_wp2_with fail
  refine (qtake_any _ p B _ R8 [46] H8.out.qs).mono ?_
  rintro e w9 ⟨rfl, hp⟩
  obtain ⟨R9, H9⟩ := RanQ.go H8 (gro_take [46]) hp
  clear hp
  have HN9 : Hid (r.s.nd.length < (Ps.nd (Rs.s (takeR [46] (wordR (r.s.nd.length) (takeR [61] (namedR (r.s.nd.length) (Rs.adv (Rs.kidNode r (i) 11)))))))).length) := Lib.hid (Nat.lt_of_lt_of_le HN8.out (RLater.nd (gro_take [46] _ H8.out.qs.good)))
  go_wp2_with fail
  refine (qword_any _ p B _ R9 r.s.nd.length H9.out.qs (HN9.out) (H9.out.bound HB.out (by omega))).mono ?_
  rintro e w10 ⟨rfl, hp⟩
  obtain ⟨R10, H10⟩ := RanQ.go H9 (gro_word (r.s.nd.length)) hp
  clear hp
  have HN10 : Hid (r.s.nd.length < (Ps.nd (Rs.s (wordR (r.s.nd.length) (takeR [46] (wordR (r.s.nd.length) (takeR [61] (namedR (r.s.nd.length) (Rs.adv (Rs.kidNode r (i) 11))))))))).length) := Lib.hid (Nat.lt_of_lt_of_le HN9.out (RLater.nd (gro_word (r.s.nd.length) _ H9.out.qs.good)))
  go_wp2_with fail
  refine (qtake_any _ p B _ R10 [59] H10.out.qs).mono ?_
  rintro e w11 ⟨rfl, hp⟩
  obtain ⟨R11, H11⟩ := RanQ.go H10 (gro_take [59]) hp
  clear hp
  have HN11 : Hid (r.s.nd.length < (Ps.nd (Rs.s (takeR [59] (wordR (r.s.nd.length) (takeR [46] (wordR (r.s.nd.length) (takeR [61] (namedR (r.s.nd.length) (Rs.adv (Rs.kidNode r (i) 11)))))))))).length) := Lib.hid (Nat.lt_of_lt_of_le HN10.out (RLater.nd (gro_take [59] _ H10.out.qs.good)))
  go_wp2_with fail
  go_end0
  rw [HSR.out]
  exact ⟨rfl, H11.out.post⟩
end Go.Proofs.YtcccnicldbpieaaGreatDoor
namespace Go.Proofs.YtcccnicldbpieaaGreatDoor
open Go Go.RowKit
set_option linter.unusedVariables false
set_option linter.unusedSimpArgs false
set_option maxRecDepth 100000 in
set_option maxHeartbeats 8000000 in
theorem qst_lock_true (w : World) (p B : Nat) (r : Rs) (R : QRep) (f : Nat) (hst : CallsST f) (i : Nat) (h : QS w p B r R) (hi : i < r.s.nd.length) (hb : r.phi ≤ 1000000) (hl : r.s.ts.length ≤ f + 1) (hk : r.s.hd.kind = 1) (hf : formOf r.s.hd.text = some 12) (hc : (wordR (r.s.nd.length) (Rs.adv (Rs.kidNode r (i) 12))).is [97, 108, 108] = true) :
    Calls Tryz.prog 87 #[.pointer (some ⟨p, 0, none⟩), .int .i64 (i : Int)] w fun e w' => e = .returned (.tuple #[]) ∧ PostQ w p B R (stmtR (f + 1) i r) w' := by
  have HB := Lib.hid hb
  have HI := Lib.hid hi
  have H0 := Lib.hid (RanQ.refl h)
  clear h hb hi
  have HKN : Hid (((kindN r.s.hd.text : Nat) : Int) = 12) := Lib.hid (by unfold kindN; rw [hf]; rfl)
  have HSR : Hid (stmtR (f + 1) i r = takeR [59] (lockR (r.s.nd.length) (Rs.adv (Rs.kidNode r (i) 12)))) := Lib.hid (by rw [stmtR, if_pos hk, hf]; rfl)
  have HKD := Lib.hid hk
  have x0 := H0.out.qs.x0
  have x1 := H0.out.qs.x1
  have t0 : w.cell? ⟨R.bt, R.o0 + R.I * 5, none⟩ = some (.int .u8 (r.s.hd.kind : Int)) := H0.out.qs.tok 0 (by decide)
  have hfew := H0.out.qs.few
  have hpos := H0.out.qs.good.last.pos
  have qp := H0.out.qs.pos
  rw [hk] at t0
  clear hk hf
  go_enter Tryz.func87, Tryz.ntmps87
  go_wp2_with fail
  go_quiet (fail)
  rename_i nq
  have H1 := RanQ.drew H0 nq
  clear x0 x1 t0 hfew hpos qp
  generalize w.drewN nq = w1 at *
  go_wp2_with fail
  refine (qtext_any _ p B r R H1.out.qs).mono ?_
  rintro e _ ⟨rfl, m, rfl⟩
  have H2 := RanQ.drew H1 m
  generalize w1.drewN m = w2 at *
  go_wp2_with fail
  refine (qkind_any _ r.s.hd.text).mono ?_
  rintro e w3 ⟨rfl, hx⟩
  have H3 := RanQ.ext H2 hx
  clear hx
  rw [HKN.out]
  go_wp2_with fail
  refine (qkid_any _ p B _ R (i) H3.out.qs (HI.out) (nd_le (H3.out.bound HB.out (by omega)))).mono ?_
  rintro e w4a ⟨rfl, R4a, hk, hm⟩
  have HK := Lib.hid (And.intro hk hm)
  clear hk hm
  go_wp2_with fail
  refine (qnode_kid _ p B _ R4a (i) 12 HK.out.1 (H3.out.bound HB.out (by omega))).mono ?_
  rintro e w4 ⟨rfl, hp⟩
  obtain ⟨R4, H4⟩ := RanQ.kidNode H3 HK hp
  clear hp HK
  have HN4 : Hid (r.s.nd.length < (Ps.nd (Rs.s (Rs.kidNode r (i) 12))).length) := Lib.hid (by rw [show (r.kidNode i 12).s.nd.length = r.s.nd.length + 1 from kidNode_len r.s i 12]; omega)
  have HK4 : Hid (Tok.kind (Ps.hd (Rs.s (Rs.kidNode r (i) 12))) ≠ 4) := Lib.hid (by show r.s.hd.kind ≠ 4; rw [HKD.out]; decide)
  have HLF : Hid ((Rs.adv (Rs.kidNode r (i) 12)).s.ts.length ≤ f) := Lib.hid (by have h1 := H4.out.qs.good.last.len HK4.out; have h2 : (Rs.adv (Rs.kidNode r (i) 12)).s.ts.length < r.s.ts.length := h1; omega)
  have x1 := H4.out.qs.x1
  have hf1 := H4.out.qs.blk.frozen 1
  have hfew := H4.out.qs.few
  have hpos := H4.out.qs.good.last.pos
  go_wp2_with fail
  have H5 := RanQ.adv H4 (HK4.out)
  clear x1 hf1 hfew hpos
  generalize w4.setCell ⟨p, 1, none⟩ (.int .i64 ((R4.I : Int) + 1)) = w5 at *
  generalize { R4 with I := R4.I + 1 } = R5 at *
  have HN5 : Hid (r.s.nd.length < (Ps.nd (Rs.s (Rs.adv (Rs.kidNode r (i) 12)))).length) := Lib.hid (Nat.lt_of_lt_of_le HN4.out (RLater.nd (rl_adv H4.out.qs.good (HK4.out))))
  refine (qword_any _ p B _ R5 r.s.nd.length H5.out.qs (HN5.out) (H5.out.bound HB.out (by omega))).mono ?_
  rintro e w6 ⟨rfl, hp⟩
  obtain ⟨R6, H6⟩ := RanQ.go H5 (gro_word (r.s.nd.length)) hp
  clear hp
  have HN6 : Hid (r.s.nd.length < (Ps.nd (Rs.s (wordR (r.s.nd.length) (Rs.adv (Rs.kidNode r (i) 12))))).length) := Lib.hid (Nat.lt_of_lt_of_le HN5.out (RLater.nd (gro_word (r.s.nd.length) _ H5.out.qs.good)))
  go_wp2_with fail
  have HRR := Lib.hid (lockR_yes hc)
  have HC := Lib.hid hc
  clear hc
  refine (qis_any _ p B _ R6 [97, 108, 108] true (HC) H6.out.qs).mono ?_
  rintro e _ ⟨rfl, m, rfl⟩
  have H7 := RanQ.drew H6 m
  generalize w6.drewN m = w7 at *
  have HN7 := HN6
  obtain ⟨g7, hi7, hA, hgl7, hgp7⟩ := H7.out.qs.node_at (i := r.s.nd.length) (HN7.out)
  have x3 := H7.out.qs.x3 hA
  have HA7 := Lib.hid hA
  have q0 : (0 : Int) ≤ ((r.s.nd.length : Nat) : Int) := Int.natCast_nonneg _
  have q1 : ((r.s.nd.length : Nat) : Int) < (R6.nh.length : Int) := by omega
  clear hA
  have c3 : w7.cell? ⟨g7, r.s.nd.length * 5 + 3, none⟩ = some (.int .i64 (R6.nh[r.s.nd.length]'hi7).1.num) := (H7.out.qs.nodeCell _ hi7 HA7.out 3 (by decide))
  have z3 := H7.out.qs.nthaw (r.s.nd.length * 5 + 3) HA7.out
  go_upto_region 45 with fail
  obtain ⟨R8, H8⟩ := RanQ.num (i := r.s.nd.length) (g := g7) H7 (1) hi7 HA7.out
  clear c3 z3 x3 q0 q1
  generalize w7.setCell ⟨g7, r.s.nd.length * 5 + 3, none⟩ (.int .i64 (1)) = w8 at *
  have HN8 : Hid (r.s.nd.length < (Ps.nd (Rs.s (Rs.num (wordR (r.s.nd.length) (Rs.adv (Rs.kidNode r (i) 12))) (r.s.nd.length) (1)))).length) := Lib.hid (Nat.lt_of_lt_of_le HN7.out (RLater.nd (gro_num (r.s.nd.length) (1) _ H7.out.qs.good)))
  have x1 := H8.out.qs.x1
  have hf1 := H8.out.qs.blk.frozen 1
  have hfew := H8.out.qs.few
  have hpos := H8.out.qs.good.last.pos
  go_wp2_with fail
  have H9 := RanQ.adv H8 ((ris_kind HC.out).1)
  clear x1 hf1 hfew hpos
  generalize w8.setCell ⟨p, 1, none⟩ (.int .i64 ((R8.I : Int) + 1)) = w9 at *
  generalize { R8 with I := R8.I + 1 } = R9 at *
  have HN9 : Hid (r.s.nd.length < (Ps.nd (Rs.s (Rs.adv (Rs.num (wordR (r.s.nd.length) (Rs.adv (Rs.kidNode r (i) 12))) (r.s.nd.length) (1))))).length) := Lib.hid (Nat.lt_of_lt_of_le HN8.out (RLater.nd (rl_adv H8.out.qs.good ((ris_kind HC.out).1))))
  refine (qtake_any _ p B _ R9 [59] H9.out.qs).mono ?_
  rintro e w10 ⟨rfl, hp⟩
  obtain ⟨R10, H10⟩ := RanQ.go H9 (gro_take [59]) hp
  clear hp
  have HN10 : Hid (r.s.nd.length < (Ps.nd (Rs.s (takeR [59] (Rs.adv (Rs.num (wordR (r.s.nd.length) (Rs.adv (Rs.kidNode r (i) 12))) (r.s.nd.length) (1)))))).length) := Lib.hid (Nat.lt_of_lt_of_le HN9.out (RLater.nd (gro_take [59] _ H9.out.qs.good)))
  go_wp2_with fail
  go_end0
  rw [HSR.out, HRR.out]
  exact ⟨rfl, H10.out.post⟩
set_option maxRecDepth 100000 in
set_option maxHeartbeats 8000000 in
theorem qst_lock_false (w : World) (p B : Nat) (r : Rs) (R : QRep) (f : Nat) (hst : CallsST f) (i : Nat) (h : QS w p B r R) (hi : i < r.s.nd.length) (hb : r.phi ≤ 1000000) (hl : r.s.ts.length ≤ f + 1) (hk : r.s.hd.kind = 1) (hf : formOf r.s.hd.text = some 12) (hc : (wordR (r.s.nd.length) (Rs.adv (Rs.kidNode r (i) 12))).is [97, 108, 108] = false) :
    Calls Tryz.prog 87 #[.pointer (some ⟨p, 0, none⟩), .int .i64 (i : Int)] w fun e w' => e = .returned (.tuple #[]) ∧ PostQ w p B R (stmtR (f + 1) i r) w' := by
  have HB := Lib.hid hb
  have HI := Lib.hid hi
  have H0 := Lib.hid (RanQ.refl h)
  clear h hb hi
  have HKN : Hid (((kindN r.s.hd.text : Nat) : Int) = 12) := Lib.hid (by unfold kindN; rw [hf]; rfl)
  have HSR : Hid (stmtR (f + 1) i r = takeR [59] (lockR (r.s.nd.length) (Rs.adv (Rs.kidNode r (i) 12)))) := Lib.hid (by rw [stmtR, if_pos hk, hf]; rfl)
  have HKD := Lib.hid hk
  have x0 := H0.out.qs.x0
  have x1 := H0.out.qs.x1
  have t0 : w.cell? ⟨R.bt, R.o0 + R.I * 5, none⟩ = some (.int .u8 (r.s.hd.kind : Int)) := H0.out.qs.tok 0 (by decide)
  have hfew := H0.out.qs.few
  have hpos := H0.out.qs.good.last.pos
  have qp := H0.out.qs.pos
  rw [hk] at t0
  clear hk hf
  go_enter Tryz.func87, Tryz.ntmps87
  go_wp2_with fail
  go_quiet (fail)
  rename_i nq
  have H1 := RanQ.drew H0 nq
  clear x0 x1 t0 hfew hpos qp
  generalize w.drewN nq = w1 at *
  go_wp2_with fail
  refine (qtext_any _ p B r R H1.out.qs).mono ?_
  rintro e _ ⟨rfl, m, rfl⟩
  have H2 := RanQ.drew H1 m
  generalize w1.drewN m = w2 at *
  go_wp2_with fail
  refine (qkind_any _ r.s.hd.text).mono ?_
  rintro e w3 ⟨rfl, hx⟩
  have H3 := RanQ.ext H2 hx
  clear hx
  rw [HKN.out]
  go_wp2_with fail
  refine (qkid_any _ p B _ R (i) H3.out.qs (HI.out) (nd_le (H3.out.bound HB.out (by omega)))).mono ?_
  rintro e w4a ⟨rfl, R4a, hk, hm⟩
  have HK := Lib.hid (And.intro hk hm)
  clear hk hm
  go_wp2_with fail
  refine (qnode_kid _ p B _ R4a (i) 12 HK.out.1 (H3.out.bound HB.out (by omega))).mono ?_
  rintro e w4 ⟨rfl, hp⟩
  obtain ⟨R4, H4⟩ := RanQ.kidNode H3 HK hp
  clear hp HK
  have HN4 : Hid (r.s.nd.length < (Ps.nd (Rs.s (Rs.kidNode r (i) 12))).length) := Lib.hid (by rw [show (r.kidNode i 12).s.nd.length = r.s.nd.length + 1 from kidNode_len r.s i 12]; omega)
  have HK4 : Hid (Tok.kind (Ps.hd (Rs.s (Rs.kidNode r (i) 12))) ≠ 4) := Lib.hid (by show r.s.hd.kind ≠ 4; rw [HKD.out]; decide)
  have HLF : Hid ((Rs.adv (Rs.kidNode r (i) 12)).s.ts.length ≤ f) := Lib.hid (by have h1 := H4.out.qs.good.last.len HK4.out; have h2 : (Rs.adv (Rs.kidNode r (i) 12)).s.ts.length < r.s.ts.length := h1; omega)
  have x1 := H4.out.qs.x1
  have hf1 := H4.out.qs.blk.frozen 1
  have hfew := H4.out.qs.few
  have hpos := H4.out.qs.good.last.pos
  go_wp2_with fail
  have H5 := RanQ.adv H4 (HK4.out)
  clear x1 hf1 hfew hpos
  generalize w4.setCell ⟨p, 1, none⟩ (.int .i64 ((R4.I : Int) + 1)) = w5 at *
  generalize { R4 with I := R4.I + 1 } = R5 at *
  have HN5 : Hid (r.s.nd.length < (Ps.nd (Rs.s (Rs.adv (Rs.kidNode r (i) 12)))).length) := Lib.hid (Nat.lt_of_lt_of_le HN4.out (RLater.nd (rl_adv H4.out.qs.good (HK4.out))))
  refine (qword_any _ p B _ R5 r.s.nd.length H5.out.qs (HN5.out) (H5.out.bound HB.out (by omega))).mono ?_
  rintro e w6 ⟨rfl, hp⟩
  obtain ⟨R6, H6⟩ := RanQ.go H5 (gro_word (r.s.nd.length)) hp
  clear hp
  have HN6 : Hid (r.s.nd.length < (Ps.nd (Rs.s (wordR (r.s.nd.length) (Rs.adv (Rs.kidNode r (i) 12))))).length) := Lib.hid (Nat.lt_of_lt_of_le HN5.out (RLater.nd (gro_word (r.s.nd.length) _ H5.out.qs.good)))
  go_wp2_with fail
  have HRR := Lib.hid (lockR_no hc)
  have HC := Lib.hid hc
  clear hc
  refine (qis_any _ p B _ R6 [97, 108, 108] false (HC) H6.out.qs).mono ?_
  rintro e _ ⟨rfl, m, rfl⟩
  have H7 := RanQ.drew H6 m
  generalize w6.drewN m = w7 at *
  have HN7 := HN6
  go_wp2_with fail
  refine (qtake_any _ p B _ R6 [115, 104, 97, 114, 101, 100] H7.out.qs).mono ?_
  rintro e w8 ⟨rfl, hp⟩
  obtain ⟨R8, H8⟩ := RanQ.go H7 (gro_take [115, 104, 97, 114, 101, 100]) hp
  clear hp
  have HN8 : Hid (r.s.nd.length < (Ps.nd (Rs.s (takeR [115, 104, 97, 114, 101, 100] (wordR (r.s.nd.length) (Rs.adv (Rs.kidNode r (i) 12)))))).length) := Lib.hid (Nat.lt_of_lt_of_le HN7.out (RLater.nd (gro_take [115, 104, 97, 114, 101, 100] _ H7.out.qs.good)))
  go_wp2_with fail
  refine (qtake_any _ p B _ R8 [59] H8.out.qs).mono ?_
  rintro e w9 ⟨rfl, hp⟩
  obtain ⟨R9, H9⟩ := RanQ.go H8 (gro_take [59]) hp
  clear hp
  have HN9 : Hid (r.s.nd.length < (Ps.nd (Rs.s (takeR [59] (takeR [115, 104, 97, 114, 101, 100] (wordR (r.s.nd.length) (Rs.adv (Rs.kidNode r (i) 12))))))).length) := Lib.hid (Nat.lt_of_lt_of_le HN8.out (RLater.nd (gro_take [59] _ H8.out.qs.good)))
  go_wp2_with fail
  go_end0
  rw [HSR.out, HRR.out]
  exact ⟨rfl, H9.out.post⟩
set_option maxRecDepth 100000 in
set_option maxHeartbeats 8000000 in
theorem qst_release_true (w : World) (p B : Nat) (r : Rs) (R : QRep) (f : Nat) (hst : CallsST f) (i : Nat) (h : QS w p B r R) (hi : i < r.s.nd.length) (hb : r.phi ≤ 1000000) (hl : r.s.ts.length ≤ f + 1) (hk : r.s.hd.kind = 1) (hf : formOf r.s.hd.text = some 13) (hc : (namedR ((Ps.nd (Rs.s (Rs.adv (Rs.kidNode r (i) 13)))).length) (Rs.kidNode (Rs.adv (Rs.kidNode r (i) 13)) (r.s.nd.length) 5)).is [91] = true) :
    Calls Tryz.prog 87 #[.pointer (some ⟨p, 0, none⟩), .int .i64 (i : Int)] w fun e w' => e = .returned (.tuple #[]) ∧ PostQ w p B R (stmtR (f + 1) i r) w' := by
  have HB := Lib.hid hb
  have HI := Lib.hid hi
  have H0 := Lib.hid (RanQ.refl h)
  clear h hb hi
  have HKN : Hid (((kindN r.s.hd.text : Nat) : Int) = 13) := Lib.hid (by unfold kindN; rw [hf]; rfl)
  have HSR : Hid (stmtR (f + 1) i r = takeR [59] (releaseR (r.s.nd.length) (Rs.adv (Rs.kidNode r (i) 13)))) := Lib.hid (by rw [stmtR, if_pos hk, hf]; rfl)
  have HKD := Lib.hid hk
  have x0 := H0.out.qs.x0
  have x1 := H0.out.qs.x1
  have t0 : w.cell? ⟨R.bt, R.o0 + R.I * 5, none⟩ = some (.int .u8 (r.s.hd.kind : Int)) := H0.out.qs.tok 0 (by decide)
  have hfew := H0.out.qs.few
  have hpos := H0.out.qs.good.last.pos
  have qp := H0.out.qs.pos
  rw [hk] at t0
  clear hk hf
  go_enter Tryz.func87, Tryz.ntmps87
  go_wp2_with fail
  go_quiet (fail)
  rename_i nq
  have H1 := RanQ.drew H0 nq
  clear x0 x1 t0 hfew hpos qp
  generalize w.drewN nq = w1 at *
  go_wp2_with fail
  refine (qtext_any _ p B r R H1.out.qs).mono ?_
  rintro e _ ⟨rfl, m, rfl⟩
  have H2 := RanQ.drew H1 m
  generalize w1.drewN m = w2 at *
  go_wp2_with fail
  refine (qkind_any _ r.s.hd.text).mono ?_
  rintro e w3 ⟨rfl, hx⟩
  have H3 := RanQ.ext H2 hx
  clear hx
  rw [HKN.out]
  go_wp2_with fail
  refine (qkid_any _ p B _ R (i) H3.out.qs (HI.out) (nd_le (H3.out.bound HB.out (by omega)))).mono ?_
  rintro e w4a ⟨rfl, R4a, hk, hm⟩
  have HK := Lib.hid (And.intro hk hm)
  clear hk hm
  go_wp2_with fail
  refine (qnode_kid _ p B _ R4a (i) 13 HK.out.1 (H3.out.bound HB.out (by omega))).mono ?_
  rintro e w4 ⟨rfl, hp⟩
  obtain ⟨R4, H4⟩ := RanQ.kidNode H3 HK hp
  clear hp HK
  have HN4 : Hid (r.s.nd.length < (Ps.nd (Rs.s (Rs.kidNode r (i) 13))).length) := Lib.hid (by rw [show (r.kidNode i 13).s.nd.length = r.s.nd.length + 1 from kidNode_len r.s i 13]; omega)
  have HK4 : Hid (Tok.kind (Ps.hd (Rs.s (Rs.kidNode r (i) 13))) ≠ 4) := Lib.hid (by show r.s.hd.kind ≠ 4; rw [HKD.out]; decide)
  have HLF : Hid ((Rs.adv (Rs.kidNode r (i) 13)).s.ts.length ≤ f) := Lib.hid (by have h1 := H4.out.qs.good.last.len HK4.out; have h2 : (Rs.adv (Rs.kidNode r (i) 13)).s.ts.length < r.s.ts.length := h1; omega)
  have x1 := H4.out.qs.x1
  have hf1 := H4.out.qs.blk.frozen 1
  have hfew := H4.out.qs.few
  have hpos := H4.out.qs.good.last.pos
  go_wp2_with fail
  have H5 := RanQ.adv H4 (HK4.out)
  clear x1 hf1 hfew hpos
  generalize w4.setCell ⟨p, 1, none⟩ (.int .i64 ((R4.I : Int) + 1)) = w5 at *
  generalize { R4 with I := R4.I + 1 } = R5 at *
  have HN5 : Hid (r.s.nd.length < (Ps.nd (Rs.s (Rs.adv (Rs.kidNode r (i) 13)))).length) := Lib.hid (Nat.lt_of_lt_of_le HN4.out (RLater.nd (rl_adv H4.out.qs.good (HK4.out))))
  have HRR := Lib.hid (releaseR_yes hc)
  have HC := Lib.hid hc
  clear hc
  refine (qkid_any _ p B _ R5 (r.s.nd.length) H5.out.qs (HN5.out) (nd_le (H5.out.bound HB.out (by omega)))).mono ?_
  rintro e w6a ⟨rfl, R6a, hk, hm⟩
  have HK := Lib.hid (And.intro hk hm)
  clear hk hm
  go_wp2_with fail
  refine (qnode_kid _ p B _ R6a (r.s.nd.length) 5 HK.out.1 (H5.out.bound HB.out (by omega))).mono ?_
  rintro e w6 ⟨rfl, hp⟩
  obtain ⟨R6, H6⟩ := RanQ.kidNode H5 HK hp
  clear hp HK
  have HN6 : Hid (r.s.nd.length < (Ps.nd (Rs.s (Rs.kidNode (Rs.adv (Rs.kidNode r (i) 13)) (r.s.nd.length) 5))).length) := Lib.hid (Nat.lt_of_lt_of_le HN5.out (RLater.nd (rl_kidNode H5.out.qs.good (r.s.nd.length) 5)))
  go_wp2_with fail
  have HWN : Hid ((Ps.nd (Rs.s (Rs.adv (Rs.kidNode r (i) 13)))).length < (Ps.nd (Rs.s (Rs.kidNode (Rs.adv (Rs.kidNode r (i) 13)) (r.s.nd.length) 5))).length) := Lib.hid (by rw [show (Ps.nd (Rs.s (Rs.kidNode (Rs.adv (Rs.kidNode r (i) 13)) (r.s.nd.length) 5))).length = (Ps.nd (Rs.s (Rs.adv (Rs.kidNode r (i) 13)))).length + 1 from kidNode_len _ _ _]; omega)
  obtain ⟨g6, hi6, hA, hgl6, hgp6⟩ := H6.out.qs.node_at (i := ((Ps.nd (Rs.s (Rs.adv (Rs.kidNode r (i) 13)))).length)) (HWN.out)
  have x3 := H6.out.qs.x3 hA
  have HA6 := Lib.hid hA
  have q0 : (0 : Int) ≤ ((((Ps.nd (Rs.s (Rs.adv (Rs.kidNode r (i) 13)))).length) : Nat) : Int) := Int.natCast_nonneg _
  have q1 : ((((Ps.nd (Rs.s (Rs.adv (Rs.kidNode r (i) 13)))).length) : Nat) : Int) < (R6.nh.length : Int) := by omega
  clear hA
  go_region_held3 (fun w' => w'.cell? ⟨p, 3, none⟩ = some (.slice (some ⟨g6, 0, none⟩) R6.nh.length R6.c))
    (first
      | assumption
      | go_keep
      | exact y1s _)
    (first
      | (go_at_call 54; refine (qname_t _ p B _ R6 (H6.out.qs.ext (by first | exact Ext.refl _ | exact Below.drew (Below.refl _ _)))).mono ?_; rintro e w6b ⟨rfl, I6, hq, hm⟩; have y1 : w6b.cell? ⟨p, 3, none⟩ = some (.slice (some ⟨g6, 0, none⟩) R6.nh.length R6.c) := hq.x3 HA6.out; have HN := Lib.hid (And.intro hq hm); have c2 : w6b.cell? ⟨g6, ((Ps.nd (Rs.s (Rs.adv (Rs.kidNode r (i) 13)))).length) * 5 + 2, none⟩ = some (.string (bstr (R6.nh[((Ps.nd (Rs.s (Rs.adv (Rs.kidNode r (i) 13)))).length)]'hi6).1.text)) := (hq.nodeCell _ hi6 HA6.out 2 (by decide)); have z2 : w6b.frozen? ⟨g6, ((Ps.nd (Rs.s (Rs.adv (Rs.kidNode r (i) 13)))).length) * 5 + 2, none⟩ = false := hq.nthaw _ HA6.out; have y1s : ∀ u, (w6b.setCell ⟨g6, ((Ps.nd (Rs.s (Rs.adv (Rs.kidNode r (i) 13)))).length) * 5 + 2, none⟩ u).cell? ⟨p, 3, none⟩ = some (.slice (some ⟨g6, 0, none⟩) R6.nh.length R6.c) := fun u => (World.cell?_of_block (w := w6b) (a := ⟨p, 3, none⟩) (Below.heap_setCell w6b ⟨g6, ((Ps.nd (Rs.s (Rs.adv (Rs.kidNode r (i) 13)))).length) * 5 + 2, none⟩ u p (fun e => hgp6 e.symm))).trans y1; clear hq hm)
      | (fail))
  obtain ⟨R7, H7⟩ := RanQ.named (i := ((Ps.nd (Rs.s (Rs.adv (Rs.kidNode r (i) 13)))).length)) (g := g6) H6 HN.out.1 ((Moves.ext (by first | exact Ext.refl _ | exact Below.drew (Below.refl _ _))).trans HN.out.2) hi6 HA6.out
  clear c2 z2 y1 y1s x3 q0 q1 HN
  generalize w6b.setCell ⟨g6, ((Ps.nd (Rs.s (Rs.adv (Rs.kidNode r (i) 13)))).length) * 5 + 2, none⟩ (.string (bstr (Rs.nameT (Rs.kidNode (Rs.adv (Rs.kidNode r (i) 13)) (r.s.nd.length) 5)))) = w7 at *
  go_wp2_with fail
  have HWM : Hid ((Ps.nd (Rs.s (Rs.adv (Rs.kidNode r (i) 13)))).length < (Ps.nd (Rs.s (namedR (((Ps.nd (Rs.s (Rs.adv (Rs.kidNode r (i) 13)))).length)) (Rs.kidNode (Rs.adv (Rs.kidNode r (i) 13)) (r.s.nd.length) 5)))).length) := Lib.hid (Nat.lt_of_lt_of_le HWN.out (gro_named _ _ H6.out.qs.good).nd)
  refine (qis_any _ p B _ R7 [91] true (HC) H7.out.qs).mono ?_
  rintro e _ ⟨rfl, m, rfl⟩
  have H8 := RanQ.drew H7 m
  generalize w7.drewN m = w8 at *
  obtain ⟨g8, hi8, hA, hgl8, hgp8⟩ := H8.out.qs.node_at (i := ((Ps.nd (Rs.s (Rs.adv (Rs.kidNode r (i) 13)))).length)) (HWM.out)
  have x3 := H8.out.qs.x3 hA
  have HA8 := Lib.hid hA
  have q0 : (0 : Int) ≤ ((((Ps.nd (Rs.s (Rs.adv (Rs.kidNode r (i) 13)))).length) : Nat) : Int) := Int.natCast_nonneg _
  have q1 : ((((Ps.nd (Rs.s (Rs.adv (Rs.kidNode r (i) 13)))).length) : Nat) : Int) < (R7.nh.length : Int) := by omega
  clear hA
  have c0 : w8.cell? ⟨g8, ((Ps.nd (Rs.s (Rs.adv (Rs.kidNode r (i) 13)))).length) * 5, none⟩ = some (.int .u8 ((R7.nh[((Ps.nd (Rs.s (Rs.adv (Rs.kidNode r (i) 13)))).length)]'hi8).1.kind : Int)) := (H8.out.qs.nodeCell _ hi8 HA8.out 0 (by decide))
  have z0 := H8.out.qs.nthaw (((Ps.nd (Rs.s (Rs.adv (Rs.kidNode r (i) 13)))).length) * 5) HA8.out
  go_wp2_with fail
  obtain ⟨R9, H9⟩ := RanQ.kind (i := ((Ps.nd (Rs.s (Rs.adv (Rs.kidNode r (i) 13)))).length)) (g := g8) H8 20 hi8 HA8.out
  clear c0 z0 x3 q0 q1
  generalize w8.setCell ⟨g8, ((Ps.nd (Rs.s (Rs.adv (Rs.kidNode r (i) 13)))).length) * 5, none⟩ (.int .u8 20) = w9 at *
  refine (qbracket_any _ p B _ R9 ((Ps.nd (Rs.s (Rs.adv (Rs.kidNode r (i) 13)))).length) H9.out.qs (Nat.lt_of_lt_of_le HWM.out (rl_on H8.out.qs.good ((Ps.nd (Rs.s (Rs.adv (Rs.kidNode r (i) 13)))).length) (fun n => { n with kind := 20 }) fun _ => rfl).nd) (H9.out.bound HB.out (by omega))).mono ?_
  rintro e w10 ⟨rfl, hp⟩
  obtain ⟨R10, H10⟩ := RanQ.go H9 (gro_bracket ((Ps.nd (Rs.s (Rs.adv (Rs.kidNode r (i) 13)))).length)) hp
  clear hp
  go_wp2_with fail
  refine (qtake_any _ p B _ R10 [59] H10.out.qs).mono ?_
  rintro e w11 ⟨rfl, hp⟩
  obtain ⟨R11, H11⟩ := RanQ.go H10 (gro_take [59]) hp
  clear hp
  go_wp2_with fail
  go_end0
  rw [HSR.out, HRR.out]
  exact ⟨rfl, H11.out.post⟩
set_option maxRecDepth 100000 in
set_option maxHeartbeats 8000000 in
theorem qst_release_false (w : World) (p B : Nat) (r : Rs) (R : QRep) (f : Nat) (hst : CallsST f) (i : Nat) (h : QS w p B r R) (hi : i < r.s.nd.length) (hb : r.phi ≤ 1000000) (hl : r.s.ts.length ≤ f + 1) (hk : r.s.hd.kind = 1) (hf : formOf r.s.hd.text = some 13) (hc : (namedR ((Ps.nd (Rs.s (Rs.adv (Rs.kidNode r (i) 13)))).length) (Rs.kidNode (Rs.adv (Rs.kidNode r (i) 13)) (r.s.nd.length) 5)).is [91] = false) :
    Calls Tryz.prog 87 #[.pointer (some ⟨p, 0, none⟩), .int .i64 (i : Int)] w fun e w' => e = .returned (.tuple #[]) ∧ PostQ w p B R (stmtR (f + 1) i r) w' := by
  have HB := Lib.hid hb
  have HI := Lib.hid hi
  have H0 := Lib.hid (RanQ.refl h)
  clear h hb hi
  have HKN : Hid (((kindN r.s.hd.text : Nat) : Int) = 13) := Lib.hid (by unfold kindN; rw [hf]; rfl)
  have HSR : Hid (stmtR (f + 1) i r = takeR [59] (releaseR (r.s.nd.length) (Rs.adv (Rs.kidNode r (i) 13)))) := Lib.hid (by rw [stmtR, if_pos hk, hf]; rfl)
  have HKD := Lib.hid hk
  have x0 := H0.out.qs.x0
  have x1 := H0.out.qs.x1
  have t0 : w.cell? ⟨R.bt, R.o0 + R.I * 5, none⟩ = some (.int .u8 (r.s.hd.kind : Int)) := H0.out.qs.tok 0 (by decide)
  have hfew := H0.out.qs.few
  have hpos := H0.out.qs.good.last.pos
  have qp := H0.out.qs.pos
  rw [hk] at t0
  clear hk hf
  go_enter Tryz.func87, Tryz.ntmps87
  go_wp2_with fail
  go_quiet (fail)
  rename_i nq
  have H1 := RanQ.drew H0 nq
  clear x0 x1 t0 hfew hpos qp
  generalize w.drewN nq = w1 at *
  go_wp2_with fail
  refine (qtext_any _ p B r R H1.out.qs).mono ?_
  rintro e _ ⟨rfl, m, rfl⟩
  have H2 := RanQ.drew H1 m
  generalize w1.drewN m = w2 at *
  go_wp2_with fail
  refine (qkind_any _ r.s.hd.text).mono ?_
  rintro e w3 ⟨rfl, hx⟩
  have H3 := RanQ.ext H2 hx
  clear hx
  rw [HKN.out]
  go_wp2_with fail
  refine (qkid_any _ p B _ R (i) H3.out.qs (HI.out) (nd_le (H3.out.bound HB.out (by omega)))).mono ?_
  rintro e w4a ⟨rfl, R4a, hk, hm⟩
  have HK := Lib.hid (And.intro hk hm)
  clear hk hm
  go_wp2_with fail
  refine (qnode_kid _ p B _ R4a (i) 13 HK.out.1 (H3.out.bound HB.out (by omega))).mono ?_
  rintro e w4 ⟨rfl, hp⟩
  obtain ⟨R4, H4⟩ := RanQ.kidNode H3 HK hp
  clear hp HK
  have HN4 : Hid (r.s.nd.length < (Ps.nd (Rs.s (Rs.kidNode r (i) 13))).length) := Lib.hid (by rw [show (r.kidNode i 13).s.nd.length = r.s.nd.length + 1 from kidNode_len r.s i 13]; omega)
  have HK4 : Hid (Tok.kind (Ps.hd (Rs.s (Rs.kidNode r (i) 13))) ≠ 4) := Lib.hid (by show r.s.hd.kind ≠ 4; rw [HKD.out]; decide)
  have HLF : Hid ((Rs.adv (Rs.kidNode r (i) 13)).s.ts.length ≤ f) := Lib.hid (by have h1 := H4.out.qs.good.last.len HK4.out; have h2 : (Rs.adv (Rs.kidNode r (i) 13)).s.ts.length < r.s.ts.length := h1; omega)
  have x1 := H4.out.qs.x1
  have hf1 := H4.out.qs.blk.frozen 1
  have hfew := H4.out.qs.few
  have hpos := H4.out.qs.good.last.pos
  go_wp2_with fail
  have H5 := RanQ.adv H4 (HK4.out)
  clear x1 hf1 hfew hpos
  generalize w4.setCell ⟨p, 1, none⟩ (.int .i64 ((R4.I : Int) + 1)) = w5 at *
  generalize { R4 with I := R4.I + 1 } = R5 at *
  have HN5 : Hid (r.s.nd.length < (Ps.nd (Rs.s (Rs.adv (Rs.kidNode r (i) 13)))).length) := Lib.hid (Nat.lt_of_lt_of_le HN4.out (RLater.nd (rl_adv H4.out.qs.good (HK4.out))))
  have HRR := Lib.hid (releaseR_no hc)
  have HC := Lib.hid hc
  clear hc
  refine (qkid_any _ p B _ R5 (r.s.nd.length) H5.out.qs (HN5.out) (nd_le (H5.out.bound HB.out (by omega)))).mono ?_
  rintro e w6a ⟨rfl, R6a, hk, hm⟩
  have HK := Lib.hid (And.intro hk hm)
  clear hk hm
  go_wp2_with fail
  refine (qnode_kid _ p B _ R6a (r.s.nd.length) 5 HK.out.1 (H5.out.bound HB.out (by omega))).mono ?_
  rintro e w6 ⟨rfl, hp⟩
  obtain ⟨R6, H6⟩ := RanQ.kidNode H5 HK hp
  clear hp HK
  have HN6 : Hid (r.s.nd.length < (Ps.nd (Rs.s (Rs.kidNode (Rs.adv (Rs.kidNode r (i) 13)) (r.s.nd.length) 5))).length) := Lib.hid (Nat.lt_of_lt_of_le HN5.out (RLater.nd (rl_kidNode H5.out.qs.good (r.s.nd.length) 5)))
  go_wp2_with fail
  have HWN : Hid ((Ps.nd (Rs.s (Rs.adv (Rs.kidNode r (i) 13)))).length < (Ps.nd (Rs.s (Rs.kidNode (Rs.adv (Rs.kidNode r (i) 13)) (r.s.nd.length) 5))).length) := Lib.hid (by rw [show (Ps.nd (Rs.s (Rs.kidNode (Rs.adv (Rs.kidNode r (i) 13)) (r.s.nd.length) 5))).length = (Ps.nd (Rs.s (Rs.adv (Rs.kidNode r (i) 13)))).length + 1 from kidNode_len _ _ _]; omega)
  obtain ⟨g6, hi6, hA, hgl6, hgp6⟩ := H6.out.qs.node_at (i := ((Ps.nd (Rs.s (Rs.adv (Rs.kidNode r (i) 13)))).length)) (HWN.out)
  have x3 := H6.out.qs.x3 hA
  have HA6 := Lib.hid hA
  have q0 : (0 : Int) ≤ ((((Ps.nd (Rs.s (Rs.adv (Rs.kidNode r (i) 13)))).length) : Nat) : Int) := Int.natCast_nonneg _
  have q1 : ((((Ps.nd (Rs.s (Rs.adv (Rs.kidNode r (i) 13)))).length) : Nat) : Int) < (R6.nh.length : Int) := by omega
  clear hA
  go_region_held3 (fun w' => w'.cell? ⟨p, 3, none⟩ = some (.slice (some ⟨g6, 0, none⟩) R6.nh.length R6.c))
    (first
      | assumption
      | go_keep
      | exact y1s _)
    (first
      | (go_at_call 54; refine (qname_t _ p B _ R6 (H6.out.qs.ext (by first | exact Ext.refl _ | exact Below.drew (Below.refl _ _)))).mono ?_; rintro e w6b ⟨rfl, I6, hq, hm⟩; have y1 : w6b.cell? ⟨p, 3, none⟩ = some (.slice (some ⟨g6, 0, none⟩) R6.nh.length R6.c) := hq.x3 HA6.out; have HN := Lib.hid (And.intro hq hm); have c2 : w6b.cell? ⟨g6, ((Ps.nd (Rs.s (Rs.adv (Rs.kidNode r (i) 13)))).length) * 5 + 2, none⟩ = some (.string (bstr (R6.nh[((Ps.nd (Rs.s (Rs.adv (Rs.kidNode r (i) 13)))).length)]'hi6).1.text)) := (hq.nodeCell _ hi6 HA6.out 2 (by decide)); have z2 : w6b.frozen? ⟨g6, ((Ps.nd (Rs.s (Rs.adv (Rs.kidNode r (i) 13)))).length) * 5 + 2, none⟩ = false := hq.nthaw _ HA6.out; have y1s : ∀ u, (w6b.setCell ⟨g6, ((Ps.nd (Rs.s (Rs.adv (Rs.kidNode r (i) 13)))).length) * 5 + 2, none⟩ u).cell? ⟨p, 3, none⟩ = some (.slice (some ⟨g6, 0, none⟩) R6.nh.length R6.c) := fun u => (World.cell?_of_block (w := w6b) (a := ⟨p, 3, none⟩) (Below.heap_setCell w6b ⟨g6, ((Ps.nd (Rs.s (Rs.adv (Rs.kidNode r (i) 13)))).length) * 5 + 2, none⟩ u p (fun e => hgp6 e.symm))).trans y1; clear hq hm)
      | (fail))
  obtain ⟨R7, H7⟩ := RanQ.named (i := ((Ps.nd (Rs.s (Rs.adv (Rs.kidNode r (i) 13)))).length)) (g := g6) H6 HN.out.1 ((Moves.ext (by first | exact Ext.refl _ | exact Below.drew (Below.refl _ _))).trans HN.out.2) hi6 HA6.out
  clear c2 z2 y1 y1s x3 q0 q1 HN
  generalize w6b.setCell ⟨g6, ((Ps.nd (Rs.s (Rs.adv (Rs.kidNode r (i) 13)))).length) * 5 + 2, none⟩ (.string (bstr (Rs.nameT (Rs.kidNode (Rs.adv (Rs.kidNode r (i) 13)) (r.s.nd.length) 5)))) = w7 at *
  go_wp2_with fail
  have HWM : Hid ((Ps.nd (Rs.s (Rs.adv (Rs.kidNode r (i) 13)))).length < (Ps.nd (Rs.s (namedR (((Ps.nd (Rs.s (Rs.adv (Rs.kidNode r (i) 13)))).length)) (Rs.kidNode (Rs.adv (Rs.kidNode r (i) 13)) (r.s.nd.length) 5)))).length) := Lib.hid (Nat.lt_of_lt_of_le HWN.out (gro_named _ _ H6.out.qs.good).nd)
  refine (qis_any _ p B _ R7 [91] false (HC) H7.out.qs).mono ?_
  rintro e _ ⟨rfl, m, rfl⟩
  have H8 := RanQ.drew H7 m
  generalize w7.drewN m = w8 at *
  go_wp2_with fail
  refine (qtake_any _ p B _ R7 [59] H8.out.qs).mono ?_
  rintro e w9 ⟨rfl, hp⟩
  obtain ⟨R9, H9⟩ := RanQ.go H8 (gro_take [59]) hp
  clear hp
  go_wp2_with fail
  go_end0
  rw [HSR.out, HRR.out]
  exact ⟨rfl, H9.out.post⟩
set_option maxRecDepth 100000 in
set_option maxHeartbeats 8000000 in
theorem qst_if (w : World) (p B : Nat) (r : Rs) (R : QRep) (f : Nat) (hst : CallsST f) (i : Nat) (h : QS w p B r R) (hi : i < r.s.nd.length) (hb : r.phi ≤ 1000000) (hl : r.s.ts.length ≤ f + 1) (hk : r.s.hd.kind = 1) (hf : formOf r.s.hd.text = some 14) :
    Calls Tryz.prog 87 #[.pointer (some ⟨p, 0, none⟩), .int .i64 (i : Int)] w fun e w' => e = .returned (.tuple #[]) ∧ PostQ w p B R (stmtR (f + 1) i r) w' := by
  have HB := Lib.hid hb
  have HI := Lib.hid hi
  have H0 := Lib.hid (RanQ.refl h)
  clear h hb hi
  have HKN : Hid (((kindN r.s.hd.text : Nat) : Int) = 14) := Lib.hid (by unfold kindN; rw [hf]; rfl)
  have HSR : Hid (stmtR (f + 1) i r = branchR (stmtR f) (r.s.nd.length) (Rs.adv (Rs.kidNode r (i) 14))) := Lib.hid (by rw [stmtR, if_pos hk, hf]; rfl)
  have HKD := Lib.hid hk
  have x0 := H0.out.qs.x0
  have x1 := H0.out.qs.x1
  have t0 : w.cell? ⟨R.bt, R.o0 + R.I * 5, none⟩ = some (.int .u8 (r.s.hd.kind : Int)) := H0.out.qs.tok 0 (by decide)
  have hfew := H0.out.qs.few
  have hpos := H0.out.qs.good.last.pos
  have qp := H0.out.qs.pos
  rw [hk] at t0
  clear hk hf
  go_enter Tryz.func87, Tryz.ntmps87
  go_wp2_with fail
  go_quiet (fail)
  rename_i nq
  have H1 := RanQ.drew H0 nq
  clear x0 x1 t0 hfew hpos qp
  generalize w.drewN nq = w1 at *
  go_wp2_with fail
  refine (qtext_any _ p B r R H1.out.qs).mono ?_
  rintro e _ ⟨rfl, m, rfl⟩
  have H2 := RanQ.drew H1 m
  generalize w1.drewN m = w2 at *
  go_wp2_with fail
  refine (qkind_any _ r.s.hd.text).mono ?_
  rintro e w3 ⟨rfl, hx⟩
  have H3 := RanQ.ext H2 hx
  clear hx
  rw [HKN.out]
  go_wp2_with fail
  refine (qkid_any _ p B _ R (i) H3.out.qs (HI.out) (nd_le (H3.out.bound HB.out (by omega)))).mono ?_
  rintro e w4a ⟨rfl, R4a, hk, hm⟩
  have HK := Lib.hid (And.intro hk hm)
  clear hk hm
  go_wp2_with fail
  refine (qnode_kid _ p B _ R4a (i) 14 HK.out.1 (H3.out.bound HB.out (by omega))).mono ?_
  rintro e w4 ⟨rfl, hp⟩
  obtain ⟨R4, H4⟩ := RanQ.kidNode H3 HK hp
  clear hp HK
  have HN4 : Hid (r.s.nd.length < (Ps.nd (Rs.s (Rs.kidNode r (i) 14))).length) := Lib.hid (by rw [show (r.kidNode i 14).s.nd.length = r.s.nd.length + 1 from kidNode_len r.s i 14]; omega)
  have HK4 : Hid (Tok.kind (Ps.hd (Rs.s (Rs.kidNode r (i) 14))) ≠ 4) := Lib.hid (by show r.s.hd.kind ≠ 4; rw [HKD.out]; decide)
  have HLF : Hid ((Rs.adv (Rs.kidNode r (i) 14)).s.ts.length ≤ f) := Lib.hid (by have h1 := H4.out.qs.good.last.len HK4.out; have h2 : (Rs.adv (Rs.kidNode r (i) 14)).s.ts.length < r.s.ts.length := h1; omega)
  have x1 := H4.out.qs.x1
  have hf1 := H4.out.qs.blk.frozen 1
  have hfew := H4.out.qs.few
  have hpos := H4.out.qs.good.last.pos
  go_wp2_with fail
  have H5 := RanQ.adv H4 (HK4.out)
  clear x1 hf1 hfew hpos
  generalize w4.setCell ⟨p, 1, none⟩ (.int .i64 ((R4.I : Int) + 1)) = w5 at *
  generalize { R4 with I := R4.I + 1 } = R5 at *
  have HN5 : Hid (r.s.nd.length < (Ps.nd (Rs.s (Rs.adv (Rs.kidNode r (i) 14)))).length) := Lib.hid (Nat.lt_of_lt_of_le HN4.out (RLater.nd (rl_adv H4.out.qs.good (HK4.out))))
  refine (qbranch_of _ p B _ R5 f hst (r.s.nd.length) H5.out.qs (HN5.out) (H5.out.bound HB.out (by omega)) (HLF.out)).mono ?_
  rintro e w6 ⟨rfl, hp⟩
  obtain ⟨R6, H6⟩ := RanQ.go H5 (gro_branch (gro_stmt f) (r.s.nd.length)) hp
  clear hp
  have HN6 : Hid (r.s.nd.length < (Ps.nd (Rs.s (branchR (stmtR f) (r.s.nd.length) (Rs.adv (Rs.kidNode r (i) 14))))).length) := Lib.hid (Nat.lt_of_lt_of_le HN5.out (RLater.nd (gro_branch (gro_stmt f) (r.s.nd.length) _ H5.out.qs.good)))
  go_wp2_with fail
  refine bodyPost_ret (results_none rfl _ _ _) rfl ?_
  rw [HSR.out]
  exact ⟨rfl, H6.out.post⟩
set_option maxRecDepth 100000 in
set_option maxHeartbeats 8000000 in
theorem qst_for (w : World) (p B : Nat) (r : Rs) (R : QRep) (f : Nat) (hst : CallsST f) (i : Nat) (h : QS w p B r R) (hi : i < r.s.nd.length) (hb : r.phi ≤ 1000000) (hl : r.s.ts.length ≤ f + 1) (hk : r.s.hd.kind = 1) (hf : formOf r.s.hd.text = some 15) :
    Calls Tryz.prog 87 #[.pointer (some ⟨p, 0, none⟩), .int .i64 (i : Int)] w fun e w' => e = .returned (.tuple #[]) ∧ PostQ w p B R (stmtR (f + 1) i r) w' := by
  have HB := Lib.hid hb
  have HI := Lib.hid hi
  have H0 := Lib.hid (RanQ.refl h)
  clear h hb hi
  have HKN : Hid (((kindN r.s.hd.text : Nat) : Int) = 15) := Lib.hid (by unfold kindN; rw [hf]; rfl)
  have HSR : Hid (stmtR (f + 1) i r = loopR (stmtR f) (r.s.nd.length) (Rs.adv (Rs.kidNode r (i) 15))) := Lib.hid (by rw [stmtR, if_pos hk, hf]; rfl)
  have HKD := Lib.hid hk
  have x0 := H0.out.qs.x0
  have x1 := H0.out.qs.x1
  have t0 : w.cell? ⟨R.bt, R.o0 + R.I * 5, none⟩ = some (.int .u8 (r.s.hd.kind : Int)) := H0.out.qs.tok 0 (by decide)
  have hfew := H0.out.qs.few
  have hpos := H0.out.qs.good.last.pos
  have qp := H0.out.qs.pos
  rw [hk] at t0
  clear hk hf
  go_enter Tryz.func87, Tryz.ntmps87
  go_wp2_with fail
  go_quiet (fail)
  rename_i nq
  have H1 := RanQ.drew H0 nq
  clear x0 x1 t0 hfew hpos qp
  generalize w.drewN nq = w1 at *
  go_wp2_with fail
  refine (qtext_any _ p B r R H1.out.qs).mono ?_
  rintro e _ ⟨rfl, m, rfl⟩
  have H2 := RanQ.drew H1 m
  generalize w1.drewN m = w2 at *
  go_wp2_with fail
  refine (qkind_any _ r.s.hd.text).mono ?_
  rintro e w3 ⟨rfl, hx⟩
  have H3 := RanQ.ext H2 hx
  clear hx
  rw [HKN.out]
  go_wp2_with fail
  refine (qkid_any _ p B _ R (i) H3.out.qs (HI.out) (nd_le (H3.out.bound HB.out (by omega)))).mono ?_
  rintro e w4a ⟨rfl, R4a, hk, hm⟩
  have HK := Lib.hid (And.intro hk hm)
  clear hk hm
  go_wp2_with fail
  refine (qnode_kid _ p B _ R4a (i) 15 HK.out.1 (H3.out.bound HB.out (by omega))).mono ?_
  rintro e w4 ⟨rfl, hp⟩
  obtain ⟨R4, H4⟩ := RanQ.kidNode H3 HK hp
  clear hp HK
  have HN4 : Hid (r.s.nd.length < (Ps.nd (Rs.s (Rs.kidNode r (i) 15))).length) := Lib.hid (by rw [show (r.kidNode i 15).s.nd.length = r.s.nd.length + 1 from kidNode_len r.s i 15]; omega)
  have HK4 : Hid (Tok.kind (Ps.hd (Rs.s (Rs.kidNode r (i) 15))) ≠ 4) := Lib.hid (by show r.s.hd.kind ≠ 4; rw [HKD.out]; decide)
  have HLF : Hid ((Rs.adv (Rs.kidNode r (i) 15)).s.ts.length ≤ f) := Lib.hid (by have h1 := H4.out.qs.good.last.len HK4.out; have h2 : (Rs.adv (Rs.kidNode r (i) 15)).s.ts.length < r.s.ts.length := h1; omega)
  have x1 := H4.out.qs.x1
  have hf1 := H4.out.qs.blk.frozen 1
  have hfew := H4.out.qs.few
  have hpos := H4.out.qs.good.last.pos
  go_wp2_with fail
  have H5 := RanQ.adv H4 (HK4.out)
  clear x1 hf1 hfew hpos
  generalize w4.setCell ⟨p, 1, none⟩ (.int .i64 ((R4.I : Int) + 1)) = w5 at *
  generalize { R4 with I := R4.I + 1 } = R5 at *
  have HN5 : Hid (r.s.nd.length < (Ps.nd (Rs.s (Rs.adv (Rs.kidNode r (i) 15)))).length) := Lib.hid (Nat.lt_of_lt_of_le HN4.out (RLater.nd (rl_adv H4.out.qs.good (HK4.out))))
  refine (qloop_of _ p B _ R5 f hst (r.s.nd.length) H5.out.qs (HN5.out) (H5.out.bound HB.out (by omega)) (HLF.out)).mono ?_
  rintro e w6 ⟨rfl, hp⟩
  obtain ⟨R6, H6⟩ := RanQ.go H5 (gro_loop (gro_stmt f) (r.s.nd.length)) hp
  clear hp
  have HN6 : Hid (r.s.nd.length < (Ps.nd (Rs.s (loopR (stmtR f) (r.s.nd.length) (Rs.adv (Rs.kidNode r (i) 15))))).length) := Lib.hid (Nat.lt_of_lt_of_le HN5.out (RLater.nd (gro_loop (gro_stmt f) (r.s.nd.length) _ H5.out.qs.good)))
  go_wp2_with fail
  refine bodyPost_ret (results_none rfl _ _ _) rfl ?_
  rw [HSR.out]
  exact ⟨rfl, H6.out.post⟩
set_option maxRecDepth 100000 in
set_option maxHeartbeats 8000000 in
theorem qst_let (w : World) (p B : Nat) (r : Rs) (R : QRep) (f : Nat) (hst : CallsST f) (i : Nat) (h : QS w p B r R) (hi : i < r.s.nd.length) (hb : r.phi ≤ 1000000) (hl : r.s.ts.length ≤ f + 1) (hk : r.s.hd.kind = 1) (hf : formOf r.s.hd.text = some 16) :
    Calls Tryz.prog 87 #[.pointer (some ⟨p, 0, none⟩), .int .i64 (i : Int)] w fun e w' => e = .returned (.tuple #[]) ∧ PostQ w p B R (stmtR (f + 1) i r) w' := by
  have HB := Lib.hid hb
  have HI := Lib.hid hi
  have H0 := Lib.hid (RanQ.refl h)
  clear h hb hi
  have HKN : Hid (((kindN r.s.hd.text : Nat) : Int) = 16) := Lib.hid (by unfold kindN; rw [hf]; rfl)
  have HSR : Hid (stmtR (f + 1) i r = takeR [59] (letR (r.s.nd.length) (Rs.adv (Rs.kidNode r (i) 16)))) := Lib.hid (by rw [stmtR, if_pos hk, hf]; rfl)
  have HKD := Lib.hid hk
  have x0 := H0.out.qs.x0
  have x1 := H0.out.qs.x1
  have t0 : w.cell? ⟨R.bt, R.o0 + R.I * 5, none⟩ = some (.int .u8 (r.s.hd.kind : Int)) := H0.out.qs.tok 0 (by decide)
  have hfew := H0.out.qs.few
  have hpos := H0.out.qs.good.last.pos
  have qp := H0.out.qs.pos
  rw [hk] at t0
  clear hk hf
  go_enter Tryz.func87, Tryz.ntmps87
  go_wp2_with fail
  go_quiet (fail)
  rename_i nq
  have H1 := RanQ.drew H0 nq
  clear x0 x1 t0 hfew hpos qp
  generalize w.drewN nq = w1 at *
  go_wp2_with fail
  refine (qtext_any _ p B r R H1.out.qs).mono ?_
  rintro e _ ⟨rfl, m, rfl⟩
  have H2 := RanQ.drew H1 m
  generalize w1.drewN m = w2 at *
  go_wp2_with fail
  refine (qkind_any _ r.s.hd.text).mono ?_
  rintro e w3 ⟨rfl, hx⟩
  have H3 := RanQ.ext H2 hx
  clear hx
  rw [HKN.out]
  go_wp2_with fail
  refine (qkid_any _ p B _ R (i) H3.out.qs (HI.out) (nd_le (H3.out.bound HB.out (by omega)))).mono ?_
  rintro e w4a ⟨rfl, R4a, hk, hm⟩
  have HK := Lib.hid (And.intro hk hm)
  clear hk hm
  go_wp2_with fail
  refine (qnode_kid _ p B _ R4a (i) 16 HK.out.1 (H3.out.bound HB.out (by omega))).mono ?_
  rintro e w4 ⟨rfl, hp⟩
  obtain ⟨R4, H4⟩ := RanQ.kidNode H3 HK hp
  clear hp HK
  have HN4 : Hid (r.s.nd.length < (Ps.nd (Rs.s (Rs.kidNode r (i) 16))).length) := Lib.hid (by rw [show (r.kidNode i 16).s.nd.length = r.s.nd.length + 1 from kidNode_len r.s i 16]; omega)
  have HK4 : Hid (Tok.kind (Ps.hd (Rs.s (Rs.kidNode r (i) 16))) ≠ 4) := Lib.hid (by show r.s.hd.kind ≠ 4; rw [HKD.out]; decide)
  have HLF : Hid ((Rs.adv (Rs.kidNode r (i) 16)).s.ts.length ≤ f) := Lib.hid (by have h1 := H4.out.qs.good.last.len HK4.out; have h2 : (Rs.adv (Rs.kidNode r (i) 16)).s.ts.length < r.s.ts.length := h1; omega)
  have x1 := H4.out.qs.x1
  have hf1 := H4.out.qs.blk.frozen 1
  have hfew := H4.out.qs.few
  have hpos := H4.out.qs.good.last.pos
  go_wp2_with fail
  have H5 := RanQ.adv H4 (HK4.out)
  clear x1 hf1 hfew hpos
  generalize w4.setCell ⟨p, 1, none⟩ (.int .i64 ((R4.I : Int) + 1)) = w5 at *
  generalize { R4 with I := R4.I + 1 } = R5 at *
  have HN5 : Hid (r.s.nd.length < (Ps.nd (Rs.s (Rs.adv (Rs.kidNode r (i) 16)))).length) := Lib.hid (Nat.lt_of_lt_of_le HN4.out (RLater.nd (rl_adv H4.out.qs.good (HK4.out))))
  obtain ⟨g5, hi5, hA, hgl5, hgp5⟩ := H5.out.qs.node_at (i := r.s.nd.length) (HN5.out)
  have x3 := H5.out.qs.x3 hA
  have HA5 := Lib.hid hA
  have q0 : (0 : Int) ≤ ((r.s.nd.length : Nat) : Int) := Int.natCast_nonneg _
  have q1 : ((r.s.nd.length : Nat) : Int) < (R5.nh.length : Int) := by omega
  clear hA
  go_region_held3 (fun w' => w'.cell? ⟨p, 3, none⟩ = some (.slice (some ⟨g5, 0, none⟩) R5.nh.length R5.c))
    (first
      | assumption
      | go_keep
      | exact y1s _)
    (first
      | (go_at_call 54; refine (qname_t _ p B _ R5 (H5.out.qs.ext (by first | exact Ext.refl _ | exact Below.drew (Below.refl _ _)))).mono ?_; rintro e w5b ⟨rfl, I5, hq, hm⟩; have y1 : w5b.cell? ⟨p, 3, none⟩ = some (.slice (some ⟨g5, 0, none⟩) R5.nh.length R5.c) := hq.x3 HA5.out; have HN := Lib.hid (And.intro hq hm); have c2 : w5b.cell? ⟨g5, r.s.nd.length * 5 + 2, none⟩ = some (.string (bstr (R5.nh[r.s.nd.length]'hi5).1.text)) := (hq.nodeCell _ hi5 HA5.out 2 (by decide)); have z2 : w5b.frozen? ⟨g5, r.s.nd.length * 5 + 2, none⟩ = false := hq.nthaw _ HA5.out; have y1s : ∀ u, (w5b.setCell ⟨g5, r.s.nd.length * 5 + 2, none⟩ u).cell? ⟨p, 3, none⟩ = some (.slice (some ⟨g5, 0, none⟩) R5.nh.length R5.c) := fun u => (World.cell?_of_block (w := w5b) (a := ⟨p, 3, none⟩) (Below.heap_setCell w5b ⟨g5, r.s.nd.length * 5 + 2, none⟩ u p (fun e => hgp5 e.symm))).trans y1; clear hq hm)
      | (fail))
  obtain ⟨R6, H6⟩ := RanQ.named (i := r.s.nd.length) (g := g5) H5 HN.out.1 ((Moves.ext (by first | exact Ext.refl _ | exact Below.drew (Below.refl _ _))).trans HN.out.2) hi5 HA5.out
  clear c2 z2 y1 y1s x3 q0 q1 HN
  generalize w5b.setCell ⟨g5, r.s.nd.length * 5 + 2, none⟩ (.string (bstr (Rs.nameT (Rs.adv (Rs.kidNode r (i) 16))))) = w6 at *
  have HN6 : Hid (r.s.nd.length < (Ps.nd (Rs.s (namedR (r.s.nd.length) (Rs.adv (Rs.kidNode r (i) 16))))).length) := Lib.hid (Nat.lt_of_lt_of_le HN5.out (RLater.nd (gro_named (r.s.nd.length) _ H5.out.qs.good)))
  go_wp2_with fail
  refine (qtake_any _ p B _ R6 [61] H6.out.qs).mono ?_
  rintro e w7 ⟨rfl, hp⟩
  obtain ⟨R7, H7⟩ := RanQ.go H6 (gro_take [61]) hp
  clear hp
  have HN7 : Hid (r.s.nd.length < (Ps.nd (Rs.s (takeR [61] (namedR (r.s.nd.length) (Rs.adv (Rs.kidNode r (i) 16)))))).length) := Lib.hid (Nat.lt_of_lt_of_le HN6.out (RLater.nd (gro_take [61] _ H6.out.qs.good)))
  go_wp2_with fail
  refine (qexpr_any _ p B _ R7 r.s.nd.length H7.out.qs (HN7.out) (H7.out.bound HB.out (by omega))).mono ?_
  rintro e w8 ⟨rfl, hp⟩
  obtain ⟨R8, H8⟩ := RanQ.go H7 (gro_expr (r.s.nd.length)) hp
  clear hp
  have HN8 : Hid (r.s.nd.length < (Ps.nd (Rs.s (exprR (r.s.nd.length) (takeR [61] (namedR (r.s.nd.length) (Rs.adv (Rs.kidNode r (i) 16))))))).length) := Lib.hid (Nat.lt_of_lt_of_le HN7.out (RLater.nd (gro_expr (r.s.nd.length) _ H7.out.qs.good)))
  go_wp2_with fail
  refine (qtake_any _ p B _ R8 [59] H8.out.qs).mono ?_
  rintro e w9 ⟨rfl, hp⟩
  obtain ⟨R9, H9⟩ := RanQ.go H8 (gro_take [59]) hp
  clear hp
  have HN9 : Hid (r.s.nd.length < (Ps.nd (Rs.s (takeR [59] (exprR (r.s.nd.length) (takeR [61] (namedR (r.s.nd.length) (Rs.adv (Rs.kidNode r (i) 16)))))))).length) := Lib.hid (Nat.lt_of_lt_of_le HN8.out (RLater.nd (gro_take [59] _ H8.out.qs.good)))
  go_wp2_with fail
  go_end0
  rw [HSR.out]
  exact ⟨rfl, H9.out.post⟩
set_option maxRecDepth 100000 in
set_option maxHeartbeats 8000000 in
theorem qst_emit (w : World) (p B : Nat) (r : Rs) (R : QRep) (f : Nat) (hst : CallsST f) (i : Nat) (h : QS w p B r R) (hi : i < r.s.nd.length) (hb : r.phi ≤ 1000000) (hl : r.s.ts.length ≤ f + 1) (hk : r.s.hd.kind = 1) (hf : formOf r.s.hd.text = some 17) :
    Calls Tryz.prog 87 #[.pointer (some ⟨p, 0, none⟩), .int .i64 (i : Int)] w fun e w' => e = .returned (.tuple #[]) ∧ PostQ w p B R (stmtR (f + 1) i r) w' := by
  have HB := Lib.hid hb
  have HI := Lib.hid hi
  have H0 := Lib.hid (RanQ.refl h)
  clear h hb hi
  have HKN : Hid (((kindN r.s.hd.text : Nat) : Int) = 17) := Lib.hid (by unfold kindN; rw [hf]; rfl)
  have HSR : Hid (stmtR (f + 1) i r = takeR [59] (exprR (r.s.nd.length) (Rs.adv (Rs.kidNode r (i) 17)))) := Lib.hid (by rw [stmtR, if_pos hk, hf]; rfl)
  have HKD := Lib.hid hk
  have x0 := H0.out.qs.x0
  have x1 := H0.out.qs.x1
  have t0 : w.cell? ⟨R.bt, R.o0 + R.I * 5, none⟩ = some (.int .u8 (r.s.hd.kind : Int)) := H0.out.qs.tok 0 (by decide)
  have hfew := H0.out.qs.few
  have hpos := H0.out.qs.good.last.pos
  have qp := H0.out.qs.pos
  rw [hk] at t0
  clear hk hf
  go_enter Tryz.func87, Tryz.ntmps87
  go_wp2_with fail
  go_quiet (fail)
  rename_i nq
  have H1 := RanQ.drew H0 nq
  clear x0 x1 t0 hfew hpos qp
  generalize w.drewN nq = w1 at *
  go_wp2_with fail
  refine (qtext_any _ p B r R H1.out.qs).mono ?_
  rintro e _ ⟨rfl, m, rfl⟩
  have H2 := RanQ.drew H1 m
  generalize w1.drewN m = w2 at *
  go_wp2_with fail
  refine (qkind_any _ r.s.hd.text).mono ?_
  rintro e w3 ⟨rfl, hx⟩
  have H3 := RanQ.ext H2 hx
  clear hx
  rw [HKN.out]
  go_wp2_with fail
  refine (qkid_any _ p B _ R (i) H3.out.qs (HI.out) (nd_le (H3.out.bound HB.out (by omega)))).mono ?_
  rintro e w4a ⟨rfl, R4a, hk, hm⟩
  have HK := Lib.hid (And.intro hk hm)
  clear hk hm
  go_wp2_with fail
  refine (qnode_kid _ p B _ R4a (i) 17 HK.out.1 (H3.out.bound HB.out (by omega))).mono ?_
  rintro e w4 ⟨rfl, hp⟩
  obtain ⟨R4, H4⟩ := RanQ.kidNode H3 HK hp
  clear hp HK
  have HN4 : Hid (r.s.nd.length < (Ps.nd (Rs.s (Rs.kidNode r (i) 17))).length) := Lib.hid (by rw [show (r.kidNode i 17).s.nd.length = r.s.nd.length + 1 from kidNode_len r.s i 17]; omega)
  have HK4 : Hid (Tok.kind (Ps.hd (Rs.s (Rs.kidNode r (i) 17))) ≠ 4) := Lib.hid (by show r.s.hd.kind ≠ 4; rw [HKD.out]; decide)
  have HLF : Hid ((Rs.adv (Rs.kidNode r (i) 17)).s.ts.length ≤ f) := Lib.hid (by have h1 := H4.out.qs.good.last.len HK4.out; have h2 : (Rs.adv (Rs.kidNode r (i) 17)).s.ts.length < r.s.ts.length := h1; omega)
  have x1 := H4.out.qs.x1
  have hf1 := H4.out.qs.blk.frozen 1
  have hfew := H4.out.qs.few
  have hpos := H4.out.qs.good.last.pos
  go_wp2_with fail
  have H5 := RanQ.adv H4 (HK4.out)
  clear x1 hf1 hfew hpos
  generalize w4.setCell ⟨p, 1, none⟩ (.int .i64 ((R4.I : Int) + 1)) = w5 at *
  generalize { R4 with I := R4.I + 1 } = R5 at *
  have HN5 : Hid (r.s.nd.length < (Ps.nd (Rs.s (Rs.adv (Rs.kidNode r (i) 17)))).length) := Lib.hid (Nat.lt_of_lt_of_le HN4.out (RLater.nd (rl_adv H4.out.qs.good (HK4.out))))
  refine (qexpr_any _ p B _ R5 r.s.nd.length H5.out.qs (HN5.out) (H5.out.bound HB.out (by omega))).mono ?_
  rintro e w6 ⟨rfl, hp⟩
  obtain ⟨R6, H6⟩ := RanQ.go H5 (gro_expr (r.s.nd.length)) hp
  clear hp
  have HN6 : Hid (r.s.nd.length < (Ps.nd (Rs.s (exprR (r.s.nd.length) (Rs.adv (Rs.kidNode r (i) 17))))).length) := Lib.hid (Nat.lt_of_lt_of_le HN5.out (RLater.nd (gro_expr (r.s.nd.length) _ H5.out.qs.good)))
  go_wp2_with fail
  refine (qtake_any _ p B _ R6 [59] H6.out.qs).mono ?_
  rintro e w7 ⟨rfl, hp⟩
  obtain ⟨R7, H7⟩ := RanQ.go H6 (gro_take [59]) hp
  clear hp
  have HN7 : Hid (r.s.nd.length < (Ps.nd (Rs.s (takeR [59] (exprR (r.s.nd.length) (Rs.adv (Rs.kidNode r (i) 17)))))).length) := Lib.hid (Nat.lt_of_lt_of_le HN6.out (RLater.nd (gro_take [59] _ H6.out.qs.good)))
  go_wp2_with fail
  go_end0
  rw [HSR.out]
  exact ⟨rfl, H7.out.post⟩
set_option maxRecDepth 100000 in
set_option maxHeartbeats 8000000 in
theorem qst_rollback (w : World) (p B : Nat) (r : Rs) (R : QRep) (f : Nat) (hst : CallsST f) (i : Nat) (h : QS w p B r R) (hi : i < r.s.nd.length) (hb : r.phi ≤ 1000000) (hl : r.s.ts.length ≤ f + 1) (hk : r.s.hd.kind = 1) (hf : formOf r.s.hd.text = some 18) :
    Calls Tryz.prog 87 #[.pointer (some ⟨p, 0, none⟩), .int .i64 (i : Int)] w fun e w' => e = .returned (.tuple #[]) ∧ PostQ w p B R (stmtR (f + 1) i r) w' := by
  have HB := Lib.hid hb
  have HI := Lib.hid hi
  have H0 := Lib.hid (RanQ.refl h)
  clear h hb hi
  have HKN : Hid (((kindN r.s.hd.text : Nat) : Int) = 18) := Lib.hid (by unfold kindN; rw [hf]; rfl)
  have HSR : Hid (stmtR (f + 1) i r = takeR [59] ((Rs.adv (Rs.kidNode r (i) 18)))) := Lib.hid (by rw [stmtR, if_pos hk, hf]; rfl)
  have HKD := Lib.hid hk
  have x0 := H0.out.qs.x0
  have x1 := H0.out.qs.x1
  have t0 : w.cell? ⟨R.bt, R.o0 + R.I * 5, none⟩ = some (.int .u8 (r.s.hd.kind : Int)) := H0.out.qs.tok 0 (by decide)
  have hfew := H0.out.qs.few
  have hpos := H0.out.qs.good.last.pos
  have qp := H0.out.qs.pos
  rw [hk] at t0
  clear hk hf
  go_enter Tryz.func87, Tryz.ntmps87
  go_wp2_with fail
  go_quiet (fail)
  rename_i nq
  have H1 := RanQ.drew H0 nq
  clear x0 x1 t0 hfew hpos qp
  generalize w.drewN nq = w1 at *
  go_wp2_with fail
  refine (qtext_any _ p B r R H1.out.qs).mono ?_
  rintro e _ ⟨rfl, m, rfl⟩
  have H2 := RanQ.drew H1 m
  generalize w1.drewN m = w2 at *
  go_wp2_with fail
  refine (qkind_any _ r.s.hd.text).mono ?_
  rintro e w3 ⟨rfl, hx⟩
  have H3 := RanQ.ext H2 hx
  clear hx
  rw [HKN.out]
  go_wp2_with fail
  refine (qkid_any _ p B _ R (i) H3.out.qs (HI.out) (nd_le (H3.out.bound HB.out (by omega)))).mono ?_
  rintro e w4a ⟨rfl, R4a, hk, hm⟩
  have HK := Lib.hid (And.intro hk hm)
  clear hk hm
  go_wp2_with fail
  refine (qnode_kid _ p B _ R4a (i) 18 HK.out.1 (H3.out.bound HB.out (by omega))).mono ?_
  rintro e w4 ⟨rfl, hp⟩
  obtain ⟨R4, H4⟩ := RanQ.kidNode H3 HK hp
  clear hp HK
  have HN4 : Hid (r.s.nd.length < (Ps.nd (Rs.s (Rs.kidNode r (i) 18))).length) := Lib.hid (by rw [show (r.kidNode i 18).s.nd.length = r.s.nd.length + 1 from kidNode_len r.s i 18]; omega)
  have HK4 : Hid (Tok.kind (Ps.hd (Rs.s (Rs.kidNode r (i) 18))) ≠ 4) := Lib.hid (by show r.s.hd.kind ≠ 4; rw [HKD.out]; decide)
  have HLF : Hid ((Rs.adv (Rs.kidNode r (i) 18)).s.ts.length ≤ f) := Lib.hid (by have h1 := H4.out.qs.good.last.len HK4.out; have h2 : (Rs.adv (Rs.kidNode r (i) 18)).s.ts.length < r.s.ts.length := h1; omega)
  have x1 := H4.out.qs.x1
  have hf1 := H4.out.qs.blk.frozen 1
  have hfew := H4.out.qs.few
  have hpos := H4.out.qs.good.last.pos
  go_wp2_with fail
  have H5 := RanQ.adv H4 (HK4.out)
  clear x1 hf1 hfew hpos
  generalize w4.setCell ⟨p, 1, none⟩ (.int .i64 ((R4.I : Int) + 1)) = w5 at *
  generalize { R4 with I := R4.I + 1 } = R5 at *
  have HN5 : Hid (r.s.nd.length < (Ps.nd (Rs.s (Rs.adv (Rs.kidNode r (i) 18)))).length) := Lib.hid (Nat.lt_of_lt_of_le HN4.out (RLater.nd (rl_adv H4.out.qs.good (HK4.out))))
  refine (qtake_any _ p B _ R5 [59] H5.out.qs).mono ?_
  rintro e w6 ⟨rfl, hp⟩
  obtain ⟨R6, H6⟩ := RanQ.go H5 (gro_take [59]) hp
  clear hp
  have HN6 : Hid (r.s.nd.length < (Ps.nd (Rs.s (takeR [59] (Rs.adv (Rs.kidNode r (i) 18))))).length) := Lib.hid (Nat.lt_of_lt_of_le HN5.out (RLater.nd (gro_take [59] _ H5.out.qs.good)))
  go_wp2_with fail
  go_end0
  rw [HSR.out]
  exact ⟨rfl, H6.out.post⟩
set_option maxRecDepth 100000 in
set_option maxHeartbeats 8000000 in
theorem qst_chop (w : World) (p B : Nat) (r : Rs) (R : QRep) (f : Nat) (hst : CallsST f) (i : Nat) (h : QS w p B r R) (hi : i < r.s.nd.length) (hb : r.phi ≤ 1000000) (hl : r.s.ts.length ≤ f + 1) (hk : r.s.hd.kind = 1) (hf : formOf r.s.hd.text = some 19) :
    Calls Tryz.prog 87 #[.pointer (some ⟨p, 0, none⟩), .int .i64 (i : Int)] w fun e w' => e = .returned (.tuple #[]) ∧ PostQ w p B R (stmtR (f + 1) i r) w' := by
  have HB := Lib.hid hb
  have HI := Lib.hid hi
  have H0 := Lib.hid (RanQ.refl h)
  clear h hb hi
  have HKN : Hid (((kindN r.s.hd.text : Nat) : Int) = 19) := Lib.hid (by unfold kindN; rw [hf]; rfl)
  have HSR : Hid (stmtR (f + 1) i r = takeR [59] ((Rs.adv (Rs.kidNode r (i) 19)))) := Lib.hid (by rw [stmtR, if_pos hk, hf]; rfl)
  have HKD := Lib.hid hk
  have x0 := H0.out.qs.x0
  have x1 := H0.out.qs.x1
  have t0 : w.cell? ⟨R.bt, R.o0 + R.I * 5, none⟩ = some (.int .u8 (r.s.hd.kind : Int)) := H0.out.qs.tok 0 (by decide)
  have hfew := H0.out.qs.few
  have hpos := H0.out.qs.good.last.pos
  have qp := H0.out.qs.pos
  rw [hk] at t0
  clear hk hf
  go_enter Tryz.func87, Tryz.ntmps87
  go_wp2_with fail
  go_quiet (fail)
  rename_i nq
  have H1 := RanQ.drew H0 nq
  clear x0 x1 t0 hfew hpos qp
  generalize w.drewN nq = w1 at *
  go_wp2_with fail
  refine (qtext_any _ p B r R H1.out.qs).mono ?_
  rintro e _ ⟨rfl, m, rfl⟩
  have H2 := RanQ.drew H1 m
  generalize w1.drewN m = w2 at *
  go_wp2_with fail
  refine (qkind_any _ r.s.hd.text).mono ?_
  rintro e w3 ⟨rfl, hx⟩
  have H3 := RanQ.ext H2 hx
  clear hx
  rw [HKN.out]
  go_wp2_with fail
  refine (qkid_any _ p B _ R (i) H3.out.qs (HI.out) (nd_le (H3.out.bound HB.out (by omega)))).mono ?_
  rintro e w4a ⟨rfl, R4a, hk, hm⟩
  have HK := Lib.hid (And.intro hk hm)
  clear hk hm
  go_wp2_with fail
  refine (qnode_kid _ p B _ R4a (i) 19 HK.out.1 (H3.out.bound HB.out (by omega))).mono ?_
  rintro e w4 ⟨rfl, hp⟩
  obtain ⟨R4, H4⟩ := RanQ.kidNode H3 HK hp
  clear hp HK
  have HN4 : Hid (r.s.nd.length < (Ps.nd (Rs.s (Rs.kidNode r (i) 19))).length) := Lib.hid (by rw [show (r.kidNode i 19).s.nd.length = r.s.nd.length + 1 from kidNode_len r.s i 19]; omega)
  have HK4 : Hid (Tok.kind (Ps.hd (Rs.s (Rs.kidNode r (i) 19))) ≠ 4) := Lib.hid (by show r.s.hd.kind ≠ 4; rw [HKD.out]; decide)
  have HLF : Hid ((Rs.adv (Rs.kidNode r (i) 19)).s.ts.length ≤ f) := Lib.hid (by have h1 := H4.out.qs.good.last.len HK4.out; have h2 : (Rs.adv (Rs.kidNode r (i) 19)).s.ts.length < r.s.ts.length := h1; omega)
  have x1 := H4.out.qs.x1
  have hf1 := H4.out.qs.blk.frozen 1
  have hfew := H4.out.qs.few
  have hpos := H4.out.qs.good.last.pos
  go_wp2_with fail
  have H5 := RanQ.adv H4 (HK4.out)
  clear x1 hf1 hfew hpos
  generalize w4.setCell ⟨p, 1, none⟩ (.int .i64 ((R4.I : Int) + 1)) = w5 at *
  generalize { R4 with I := R4.I + 1 } = R5 at *
  have HN5 : Hid (r.s.nd.length < (Ps.nd (Rs.s (Rs.adv (Rs.kidNode r (i) 19)))).length) := Lib.hid (Nat.lt_of_lt_of_le HN4.out (RLater.nd (rl_adv H4.out.qs.good (HK4.out))))
  refine (qtake_any _ p B _ R5 [59] H5.out.qs).mono ?_
  rintro e w6 ⟨rfl, hp⟩
  obtain ⟨R6, H6⟩ := RanQ.go H5 (gro_take [59]) hp
  clear hp
  have HN6 : Hid (r.s.nd.length < (Ps.nd (Rs.s (takeR [59] (Rs.adv (Rs.kidNode r (i) 19))))).length) := Lib.hid (Nat.lt_of_lt_of_le HN5.out (RLater.nd (gro_take [59] _ H5.out.qs.good)))
  go_wp2_with fail
  go_end0
  rw [HSR.out]
  exact ⟨rfl, H6.out.post⟩
set_option maxRecDepth 100000 in
set_option maxHeartbeats 8000000 in
theorem qst_none (w : World) (p B : Nat) (r : Rs) (R : QRep) (f : Nat) (i : Nat) (h : QS w p B r R) (hi : i < r.s.nd.length) (hb : r.phi ≤ 1000000) (hk : r.s.hd.kind = 1) (hf : formOf r.s.hd.text = none) :
    Calls Tryz.prog 87 #[.pointer (some ⟨p, 0, none⟩), .int .i64 (i : Int)] w fun e w' => e = .returned (.tuple #[]) ∧ PostQ w p B R (stmtR (f + 1) i r) w' := by
  have HB := Lib.hid hb
  have HI := Lib.hid hi
  have H0 := Lib.hid (RanQ.refl h)
  clear h hb hi
  have HSR : Hid (stmtR (f + 1) i r = r.fail 50) := Lib.hid (by rw [stmtR]; rw [if_pos hk, hf])
  have x0 := H0.out.qs.x0
  have x1 := H0.out.qs.x1
  have t0 : w.cell? ⟨R.bt, R.o0 + R.I * 5, none⟩ = some (.int .u8 (r.s.hd.kind : Int)) := H0.out.qs.tok 0 (by decide)
  have hfew := H0.out.qs.few
  have hpos := H0.out.qs.good.last.pos
  have qp := H0.out.qs.pos
  have HKN : Hid (((kindN r.s.hd.text : Nat) : Int) = 0) := Lib.hid (by unfold kindN; rw [hf]; rfl)
  rw [hk] at t0
  clear hk hf
  go_enter Tryz.func87, Tryz.ntmps87
  go_wp2_with fail
  go_quiet (fail)
  rename_i nq
  have H1 := RanQ.drew H0 nq
  clear x0 x1 t0 hfew hpos qp
  generalize w.drewN nq = w1 at *
  go_wp2_with fail
  refine (qtext_any _ p B r R H1.out.qs).mono ?_
  rintro e _ ⟨rfl, m, rfl⟩
  have H2 := RanQ.drew H1 m
  generalize w1.drewN m = w2 at *
  go_wp2_with fail
  refine (qkind_any _ r.s.hd.text).mono ?_
  rintro e w3 ⟨rfl, hx⟩
  have H3 := RanQ.ext H2 hx
  clear hx
  rw [HKN.out]
  go_wp2_with fail
  refine (qfail_any _ p B _ R 50 (by decide) H3.out.qs).mono ?_
  rintro e w4 ⟨rfl, hp⟩
  obtain ⟨R4, H4⟩ := RanQ.goL H3 (rl_fail H3.out.qs.good 50) hp
  clear hp
  go_wp2_with fail
  refine bodyPost_ret (results_none rfl _ _ _) rfl ?_
  rw [HSR.out]
  exact ⟨rfl, H4.out.post⟩
set_option maxRecDepth 100000 in
set_option maxHeartbeats 8000000 in
theorem qst_other (w : World) (p B : Nat) (r : Rs) (R : QRep) (f : Nat) (i : Nat) (h : QS w p B r R) (hi : i < r.s.nd.length) (hb : r.phi ≤ 1000000) (hk : ¬ r.s.hd.kind = 1) :
    Calls Tryz.prog 87 #[.pointer (some ⟨p, 0, none⟩), .int .i64 (i : Int)] w fun e w' => e = .returned (.tuple #[]) ∧ PostQ w p B R (stmtR (f + 1) i r) w' := by
  have HB := Lib.hid hb
  have HI := Lib.hid hi
  have H0 := Lib.hid (RanQ.refl h)
  clear h hb hi
  have HSR : Hid (stmtR (f + 1) i r = r.fail 50) := Lib.hid (by rw [stmtR]; rw [if_neg hk])
  have x0 := H0.out.qs.x0
  have x1 := H0.out.qs.x1
  have t0 : w.cell? ⟨R.bt, R.o0 + R.I * 5, none⟩ = some (.int .u8 (r.s.hd.kind : Int)) := H0.out.qs.tok 0 (by decide)
  have hfew := H0.out.qs.few
  have hpos := H0.out.qs.good.last.pos
  have qp := H0.out.qs.pos
  have n1 : ((r.s.hd.kind : Int) == 1) = false := by rw [beq_eq_false_iff_ne]; omega
  have m1 : ¬ (r.s.hd.kind : Int) = 1 := by omega
  clear hk
  go_enter Tryz.func87, Tryz.ntmps87
  go_wp2_with fail
  go_quiet (fail)
  rename_i nq
  have H1 := RanQ.drew H0 nq
  clear x0 x1 t0 hfew hpos qp
  generalize w.drewN nq = w1 at *
  go_wp2_with fail
  refine (qfail_any _ p B _ R 50 (by decide) H1.out.qs).mono ?_
  rintro e w2 ⟨rfl, hp⟩
  obtain ⟨R2, H2⟩ := RanQ.goL H1 (rl_fail H1.out.qs.good 50) hp
  clear hp
  go_wp2_with fail
  refine bodyPost_ret (results_none rfl _ _ _) rfl ?_
  rw [HSR.out]
  exact ⟨rfl, H2.out.post⟩
theorem form_cases {t : Bs} {k : Nat} (h : formOf t = some k) : k = 7 ∨ k = 8 ∨ k = 9 ∨ k = 10 ∨ k = 11 ∨ k = 12 ∨ k = 13 ∨ k = 14 ∨ k = 15 ∨ k = 16 ∨ k = 17 ∨ k = 18 ∨ k = 19 := by
  unfold formOf at h
  obtain ⟨m, hm, rfl⟩ := Option.map_eq_some_iff.1 h
  have h1 := List.mem_of_find?_eq_some hm
  have h2 : ∀ m ∈ formsL, m.2 = 7 ∨ m.2 = 8 ∨ m.2 = 9 ∨ m.2 = 10 ∨ m.2 = 11 ∨ m.2 = 12 ∨ m.2 = 13 ∨ m.2 = 14 ∨ m.2 = 15 ∨ m.2 = 16 ∨ m.2 = 17 ∨ m.2 = 18 ∨ m.2 = 19 := by decide
  exact h2 m h1
theorem qstmt_any : ∀ f, CallsST f
  | 0 => fun w p B r R i h hl hi hb => absurd h.good.last.pos (by omega)
  | f + 1 => fun w p B r R i h hl hi hb => by
    have ih := qstmt_any f
    by_cases hk : r.s.hd.kind = 1
    · cases hf : formOf r.s.hd.text with
      | none => exact qst_none w p B r R f i h hi hb hk hf
      | some k =>
        rcases form_cases hf with rfl | rfl | rfl | rfl | rfl | rfl | rfl | rfl | rfl | rfl | rfl | rfl | rfl
        · cases hc : (cellR r.s.nd.length (takeR [61] (namedR r.s.nd.length (Rs.adv (Rs.kidNode r i 7))))).is [102, 111, 114] with
          | true => exact qst_read_true w p B r R f ih i h hi hb hl hk hf hc
          | false => exact qst_read_false w p B r R f ih i h hi hb hl hk hf hc
        · exact qst_set w p B r R f ih i h hi hb hl hk hf
        · exact qst_put w p B r R f ih i h hi hb hl hk hf
        · exact qst_delete w p B r R f ih i h hi hb hl hk hf
        · exact qst_scan w p B r R f ih i h hi hb hl hk hf
        · cases hc : (wordR r.s.nd.length (Rs.adv (Rs.kidNode r i 12))).is [97, 108, 108] with
          | true => exact qst_lock_true w p B r R f ih i h hi hb hl hk hf hc
          | false => exact qst_lock_false w p B r R f ih i h hi hb hl hk hf hc
        · cases hc : (namedR (Ps.nd (Rs.s (Rs.adv (Rs.kidNode r i 13)))).length (Rs.kidNode (Rs.adv (Rs.kidNode r i 13)) r.s.nd.length 5)).is [91] with
          | true => exact qst_release_true w p B r R f ih i h hi hb hl hk hf hc
          | false => exact qst_release_false w p B r R f ih i h hi hb hl hk hf hc
        · exact qst_if w p B r R f ih i h hi hb hl hk hf
        · exact qst_for w p B r R f ih i h hi hb hl hk hf
        · exact qst_let w p B r R f ih i h hi hb hl hk hf
        · exact qst_emit w p B r R f ih i h hi hb hl hk hf
        · exact qst_rollback w p B r R f ih i h hi hb hl hk hf
        · exact qst_chop w p B r R f ih i h hi hb hl hk hf
    · exact qst_other w p B r R f i h hi hb hk
end Go.Proofs.YtcccnicldbpieaaGreatDoor
