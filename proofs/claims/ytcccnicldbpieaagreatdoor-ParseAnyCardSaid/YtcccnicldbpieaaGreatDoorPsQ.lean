/- The program's release, block, branch and loop. Condition: the nodes fit into memory. -/
import Derived.Test.YtcccnicldbpieaaGreatDoorPsP
namespace Go.Proofs.YtcccnicldbpieaaGreatDoor
open Go Go.RowKit
set_option linter.unusedVariables false
set_option linter.unusedSimpArgs false
theorem Ran.goE {α : Type} {w w1 w2 : World} {p B : Nat} {R R1 : PRep} {s s1 : Ps} {v : Value} {r : Res Unit} {whole : Res α} {f : Unit → Ps → Res α} {e : Ending} (HL : Hid (whole = r.bind f)) (h : Hid (Ran w p B R s w1 R1 s1)) (hf : FineAt s1 r) (hp : PostV w1 p B R1 v r e w2) :
    (∃ s2 R2, Hid (r = .ok () s2) ∧ Hid (whole = f () s2) ∧ e = .returned v ∧ Hid (Ran w p B R s w2 R2 s2)) ∨ (∃ er a, e = panicV er ∧ Hid (whole = .err er a) ∧ Hid (ErrP w p B R er a (panicV er) w2)) := by
  cases r with
  | ok a s2 =>
    obtain ⟨h1, R2, h2, h3⟩ := hp
    exact .inl ⟨s2, R2, Lib.hid rfl, Lib.hid HL.out, h1, Lib.hid ⟨h2, h.out.mv.trans h3, h.out.lt.trans hf⟩⟩
  | err er a =>
    obtain ⟨h1, h2⟩ := hp
    exact .inr ⟨er, a, h1, Lib.hid HL.out, Lib.hid (ErrP.trans h.out.mv ⟨rfl, h2⟩)⟩
theorem kidNode_named_idx {s s1 : Ps} {i k : Nat} (g : Good s) (h : namedP s.nd.length (s.kidNode i k) = .ok () s1) : s.nd.length < s1.nd.length := by
  have hf := fineN_named s.nd.length (kidNode_good g i k)
  rw [h] at hf
  have := hf.2.2.2.1
  rw [kidNode_len] at this
  omega
set_option maxRecDepth 100000 in
set_option maxHeartbeats 4000000 in
theorem prelease_any (w : World) (p B : Nat) (s : Ps) (R : PRep) (i : Nat) (h : PS w p B s R) (hG : Good s) (hi : i < s.nd.length) (hbig : s.phi ≤ 1000000) :
    Calls Tryz.prog 132 #[.pointer (some ⟨p, 0, none⟩), .int .i64 (i : Int)] w (PostU w p B R (releaseP i s)) := by
  have HP := Lib.hid h
  have HG := Lib.hid hG
  have HF := Lib.hid (h.fresh 90 #[.func (.func 79) #[.pointer (some ⟨p, 0, none⟩)] #[]])
  have HX : Hid (Ext w (w.alloc (.cells #[.func (.func 79) #[.pointer (some ⟨p, 0, none⟩)] #[]] 90))) := Lib.hid (Ext.alloc _ _)
  have HS0 := Lib.hid ((Ran.refl h hG).ext HX.out)
  have HI := Lib.hid hi
  have HBG := Lib.hid hbig
  obtain ⟨whole, HL0⟩ : ∃ x, Hid (x = releaseP i s) := ⟨_, Lib.hid rfl⟩
  rw [← HL0.out]
  have hm := hmf
  obtain ⟨n, HN⟩ : ∃ n, Hid (s.nd.length = n) := ⟨_, Lib.hid rfl⟩
  clear h hG hi hbig
  go_enter Tryz.func132, Tryz.ntmps132
  go_wp2_with fail
  refine (pkid_any _ p B s R i 5 _ [⟨79, #[.pointer (some ⟨p, 0, none⟩)], #[], namedP s.nd.length⟩] 1 (HP.out.ext HX.out) HI.out (by have := HBG.out; unfold Ps.phi at this; omega) (by simp) HG.out HF.out.row (fun f hf => by
    rw [List.mem_singleton.1 hf]
    exact enters_of Tryz.func79 (by kernel_rfl) rfl) (fun k hk s' wr R' h1 h2 h3 => by
    obtain rfl : k = 0 := by simp at hk; omega
    injection h1 with _ h1
    subst h1
    exact pnamed_any wr p B _ R' s.nd.length h3 (by rw [kidNode_len]; omega))).mono ?_
  intro e w1 hp
  rw [seqK_one] at hp
  rcases Ran.goE HL0 HS0 (FineN.at (i := i) (k := 5) (fineN_named _ (kidNode_good HG.out i 5))) hp with ⟨s1, R1, HE1, HL1, rfl, HS1⟩ | ⟨er, a, rfl, HX, HY⟩
  rotate_left
  · refine panics_post (P := Tryz.prog) (fn := Tryz.f132) rfl ?_
    rw [HX.out]
    exact HY.out
  clear hp
  have HIX : Hid (n < s1.nd.length) := Lib.hid (by rw [← HN.out]; exact kidNode_named_idx HG.out HE1.out)
  rw [HN.out] at HL1 ⊢
  cases hi1 : isP [91] s1 with
  | false =>
    have HI1 := Lib.hid hi1
    clear hi1
    have HL1 := Lib.hid (if_no (t := [91]) (s := s1) HL1 HI1)
    go_wp2_with fail
    refine (pis_any _ p B s1 R1 [91] false HI1 HS1.out.ps).mono ?_
    rintro e w1 ⟨rfl, hx⟩
    have HS1 := Lib.hid (HS1.out.ext hx)
    clear hx
    go_wp2_with fail
    go_end0
    rw [HL1.out]
    exact PostU.ok HS1.out.okp
  | true =>
    have HI1 := Lib.hid hi1
    clear hi1
    have HL1 := Lib.hid (if_yes (t := [91]) (s := s1) HL1 HI1)
    go_wp2_with fail
    refine (pis_any _ p B s1 R1 [91] true HI1 HS1.out.ps).mono ?_
    rintro e w1 ⟨rfl, hx⟩
    have HS1 := Lib.hid (HS1.out.ext hx)
    clear hx
    have HI2 : Hid (n < s1.nd.length) := HIX
    obtain ⟨g, hi2, hA, hgl, hgp⟩ := HS1.out.ps.node_at HI2.out
    have c0 : ∃ v, w1.cell? ⟨g, n * 5, none⟩ = some (.int .u8 v) := ⟨_, HS1.out.ps.nodeCell n hi2 hA 0 (by decide)⟩
    obtain ⟨v, c0⟩ := c0
    have z0 : w1.frozen? ⟨g, n * 5, none⟩ = false := HS1.out.ps.nthaw (n * 5) hA
    have x1 := HS1.out.ps.x1' hA
    have q0 : (n : Int) < (R1.nh.length : Int) := by omega
    have HF2 : Hid (OkP w1 p B R1 (s1.kind n 20) (w1.setCell ⟨g, n * 5, none⟩ (.int .u8 20))) := Lib.hid (HS1.out.ps.put n hi2 0 (by decide) _ (fun x => { x with kind := 20 }) (fun _ => rfl) rfl hA)
    obtain ⟨R9, hs9⟩ := HS1.out.then HF2.out (Later.kind HS1.out.lt.good n 20)
    have HS9 := Lib.hid hs9
    clear hs9 hA
    go_wp2_with fail
    clear c0 z0 x1
    have HB2 := Lib.hid (bind_last HL1.out)
    refine (pkey_any _ p B (s1.kind n 20) R9 n HS9.out.ps HS9.out.lt.good (Nat.lt_of_lt_of_le HI2.out (by show _ ≤ (s1.on n _).nd.length; rw [on_len]; exact Nat.le_refl _)) (HS9.out.phi HBG.out)).mono ?_
    intro e w2 hp
    rcases Ran.go HB2 HS9 (fine_key n _ HS9.out.lt.good) hp with ⟨s2, R2, HL2, rfl, HS2⟩ | ⟨er, a, rfl, HX, HY⟩
    rotate_left
    · refine panics_post (P := Tryz.prog) (fn := Tryz.f132) rfl ?_
      rw [HX.out]
      exact HY.out
    clear hp
    go_wp2_with fail
    go_end0
    rw [HL2.out]
    exact PostU.ok HS2.out.okp
/-! ### Blocks -/
def CallsN (F n : Nat) (m : Nat → Pm Unit) : Prop := ∀ (w : World) (p B : Nat) (s : Ps) (R : PRep) (i : Nat), PS w p B s R → Good s → i < s.nd.length → s.phi ≤ 1000000 → s.ts.length ≤ n → Calls Tryz.prog F #[.pointer (some ⟨p, 0, none⟩), .int .i64 (i : Int)] w (PostU w p B R (m i s))
/-- A statement takes a token at least. -/
def Takes1 (n : Nat) (st : Nat → Pm Unit) : Prop := ∀ i s s', Good s → s.ts.length ≤ n → st i s = .ok () s' → s'.ts.length < s.ts.length
theorem until_end {st : Nat → Pm Unit} {i f : Nat} {s : Ps} (h : isP [125] s = true) : untilP st i (f + 1) s = .ok () s := by unfold untilP; rw [if_pos h]
theorem until_more {st : Nat → Pm Unit} {i f : Nat} {s : Ps} (h : isP [125] s = false) : untilP st i (f + 1) s = (st i s).bind fun _ s => untilP st i f s := by rw [untilP, h]; rfl
set_option maxRecDepth 100000 in
set_option maxHeartbeats 4000000 in
theorem pblockD_any (n : Nat) (st : Nat → Pm Unit) (hst : CallsN 108 n st) (hfine : FineS n st) (h1 : Takes1 n st) (w : World) (p B g1 g2 : Nat) (s : Ps) (R : PRep) (i : Nat) (h : PS w p B s R) (hG : Good s) (hi : i < s.nd.length) (hbig : s.phi ≤ 1000000) (hn : s.ts.length ≤ n) (hb1 : Safe w (MineP p R) g1 55 #[.pointer (some ⟨p, 0, none⟩)]) (hb2 : Safe w (MineP p R) g2 3 #[.int .i64 (i : Int)]) :
    Calls Tryz.prog 107 #[.pointer (some ⟨g1, 0, none⟩), .pointer (some ⟨g2, 0, none⟩)] w (PostU w p B R (untilP st i (s.ts.length + 1) s)) := by
  have HS0 := Lib.hid (Ran.refl h hG)
  have HI := Lib.hid hi
  have HBG := Lib.hid hbig
  have HN := Lib.hid hn
  have HST := Lib.hid hst
  have HFS := Lib.hid hfine
  have HT1 := Lib.hid h1
  have HB1 := Lib.hid hb1
  have HB2 := Lib.hid hb2
  obtain ⟨whole, HL0⟩ : ∃ x, Hid (x = untilP st i (s.ts.length + 1) s) := ⟨_, Lib.hid rfl⟩
  rw [← HL0.out]
  clear h hG hi hbig hn hst hfine h1 hb1 hb2
  go_enter Tryz.func107, Tryz.ntmps107
  go_wp2_with fail
  go_loopw [] (fun wr => ∃ (s' : Ps) (R' : PRep) (m : Nat), Hid (Ran w p B R s wr R' s') ∧ Hid (s'.ts.length < m) ∧ Hid (whole = untilP st i m s')) (fun wr => lenAt p wr)
  case atStart => exact ⟨s, R, s.ts.length + 1, HS0, Lib.hid (Nat.lt_succ_self _), HL0⟩
  case round =>
    obtain ⟨s', R', m, HS, HM, HL⟩ := hrel
    obtain ⟨wa, rfl⟩ : ∃ wa : World, wa = wr := ⟨_, rfl⟩
    obtain ⟨m', rfl⟩ : ∃ m', m = m' + 1 := ⟨m - 1, by have := HM.out; omega⟩
    have cb1 := (HB1.out.moves HS.out.mv).1.cell 0
    have cb2 := (HB2.out.moves HS.out.mv).1.cell 0
    simp only [List.getElem?_toArray, List.getElem?_cons_zero] at cb1 cb2
    have hl1 := (HB1.out.moves HS.out.mv).1.lt
    have hl2 := (HB2.out.moves HS.out.mv).1.lt
    cases hi : isP [125] s' with
    | true =>
      have HIS := Lib.hid hi
      have HR : Hid (whole = .ok () s') := Lib.hid (by rw [HL.out, until_end hi])
      clear hi
      go_wp2_with fail
      refine (pis_any wa p B s' R' [125] true HIS HS.out.ps).mono ?_
      rintro e w2 ⟨rfl, hx⟩
      have HS2 := Lib.hid (HS.out.ext hx)
      clear hx
      go_wp2_with fail
      go_end0
      rw [HR.out]
      exact PostU.ok HS2.out.okp
    | false =>
      have HIS := Lib.hid hi
      have HQ : Hid (whole = (st i s').bind fun _ s => untilP st i m' s) := Lib.hid (by rw [HL.out, until_more hi])
      clear hi
      go_wp2_with fail
      refine (pis_any wa p B s' R' [125] false HIS HS.out.ps).mono ?_
      rintro e w2 ⟨rfl, hx⟩
      have HS2 := Lib.hid (HS.out.ext hx)
      have cc1 := ((HB1.out.moves HS2.out.mv).1.cell 0)
      have cc2 := ((HB2.out.moves HS2.out.mv).1.cell 0)
      simp only [List.getElem?_toArray, List.getElem?_cons_zero] at cc1 cc2
      clear hx cb1 cb2
      go_wp2_with fail
      refine (HST.out w2 p B s' R' i HS2.out.ps HS2.out.lt.good (HS2.out.idx HI.out) (HS2.out.phi HBG.out) (HS2.out.few HN.out)).mono ?_
      intro e w3 hp
      have hlt : ∀ s3, st i s' = .ok () s3 → s3.ts.length < s'.ts.length := fun s3 h3 => HT1.out i s' s3 HS2.out.lt.good (HS2.out.few HN.out) h3
      have hff := HFS.out i s' HS2.out.lt.good (HS2.out.few HN.out)
      cases hr : st i s' with
      | err er a =>
        rw [hr] at hp
        obtain ⟨rfl, ho⟩ := hp
        have HF : Hid (PostU w p B R whole (panicV er) w3) := Lib.hid (by rw [HQ.out, hr]; exact ErrP.trans HS2.out.mv ⟨rfl, ho⟩)
        exact panics_post (P := Tryz.prog) (fn := Tryz.f107) rfl HF.out
      | ok a s3 =>
        rw [hr] at hp hff
        obtain ⟨rfl, ho⟩ := hp
        obtain ⟨R3, hs3⟩ := HS2.out.then ho hff
        have HS3 := Lib.hid hs3
        have HLT := Lib.hid (hlt s3 hr)
        have HQ3 : Hid (whole = untilP st i m' s3) := Lib.hid (by rw [HQ.out, hr]; rfl)
        have HM3 : Hid (s3.ts.length < m') := Lib.hid (by have := HLT.out; have := HM.out; omega)
        have HLL : Hid (lenAt p w3 < lenAt p wa) := Lib.hid (by rw [HS3.out.ps.lenAt, HS.out.ps.lenAt]; exact HLT.out)
        clear hr ho hs3 hlt cc1 cc2
        go_wp2_with fail
        go_roundw
        case rel => exact ⟨s3, R3, m', HS3, HM3, HQ3⟩
        case measure => exact HLL.out
set_option maxRecDepth 100000 in
set_option maxHeartbeats 4000000 in
theorem pblockC_any (n : Nat) (st : Nat → Pm Unit) (hst : CallsN 108 n st) (hfine : FineS n st) (h1 : Takes1 n st) (w : World) (p B g1 : Nat) (s : Ps) (R : PRep) (i : Nat) (h : PS w p B s R) (hG : Good s) (hi : i < s.nd.length) (hbig : s.nd.length + 2 * (s.ts.length - 1) ≤ 1000000) (hn : s.ts.length ≤ n + 1) (hb1 : Safe w (MineP p R) g1 55 #[.pointer (some ⟨p, 0, none⟩)]) :
    Calls Tryz.prog 105 #[.int .i64 (i : Int), .pointer (some ⟨g1, 0, none⟩)] w (PostU w p B R (withinP [123] [125] (fun t => untilP st i (t.ts.length + 1) t) s)) := by
  have HP := Lib.hid h
  have HG := Lib.hid hG
  have HI := Lib.hid hi
  have HBG := Lib.hid hbig
  have HN := Lib.hid hn
  have HST := Lib.hid hst
  have HFS := Lib.hid hfine
  have HT1 := Lib.hid h1
  have HX0 : Hid (Ext w (w.alloc (.cells #[.int .i64 (i : Int)] 3))) := Lib.hid (Ext.alloc _ _)
  have HB1 := Lib.hid (hb1.ext HX0.out)
  have HB2 := Lib.hid (h.fresh 3 #[.int .i64 (i : Int)])
  have cb := HB1.out.1.cell 0
  simp only [List.getElem?_toArray, List.getElem?_cons_zero] at cb
  obtain ⟨whole, HL0⟩ : ∃ x, Hid (x = withinP [123] [125] (fun t => untilP st i (t.ts.length + 1) t) s) := ⟨_, Lib.hid rfl⟩
  rw [← HL0.out]
  have hm := hmf
  clear h hG hi hbig hn hst hfine h1 hb1
  go_enter Tryz.func105, Tryz.ntmps105
  go_upto_region 1 with fail
  generalize w.alloc (.cells #[.int .i64 (i : Int)] 3) = W0 at *
  go_wp2_with fail
  have good : isP [123] s = true → s.deep ≠ 64 → Good { s.adv with deep := s.deep + 1 } := fun hi hd => ⟨(HG.out.base.adv (isP_kind hi).1).last, by show s.deep + 1 ≤ 64; have := HG.out.deep; omega, HG.out.few⟩
  have few : s.adv.ts.length ≤ n := by have h2 := adv_len (s := s); have := HN.out; have := HG.out.pos; omega
  refine (pwithin_any noX W0 p B s R [123] [125] 107 #[] #[.pointer (some ⟨g1, 0, none⟩), .pointer (some ⟨w.heap.size, 0, none⟩)] (fun t => untilP st i (t.ts.length + 1) t) (fun _ _ _ => True) (HP.out.ext HX0.out) (enters_of Tryz.func107 (by kernel_rfl) rfl) (fun _ _ _ _ _ h _ => h) (fun hi hd x s' hr => ?_) (fun hi hd wr R' hm hp => ?_)).mono ?_
  · have hf := fine_until HFS.out i ({ s.adv with deep := s.deep + 1 } : Ps).ts.length.succ _ (good hi hd) few
    rw [show untilP st i ({ s.adv with deep := s.deep + 1 } : Ps).ts.length.succ { s.adv with deep := s.deep + 1 } = .ok x s' from hr] at hf
    exact hf.deep
  · refine (pblockD_any n st HST.out HFS.out HT1.out wr p B _ _ _ R' i hp (good hi hd) HI.out ?_ few (HB1.out.moves hm) (HB2.out.moves hm)).mono fun e w2 h => PostG.ofU h
    have h1 := HBG.out
    have h2 := adv_len (s := s)
    show s.nd.length + 2 * s.adv.ts.length ≤ 1000000
    omega
  · intro e w1 hpost
    have hu2 := PostU.trans (Moves.ext HX0.out) hpost.toU
    rcases hu2.unit with ⟨s', hr, rfl, ho⟩ | ⟨er, a, hr, he⟩
    · have HR : Hid (whole = .ok () s') := Lib.hid (HL0.out.trans hr)
      have HO := Lib.hid ho
      clear hpost hu2 hr ho good few
      go_wp2_with fail
      go_end0
      rw [HR.out]
      exact PostU.ok HO.out
    · have HE := Lib.hid he
      have HR : Hid (whole = .err er a) := Lib.hid (HL0.out.trans hr)
      obtain ⟨rfl, _⟩ := he
      refine panics_post (P := Tryz.prog) (fn := Tryz.f105) rfl ?_
      rw [HR.out]
      exact HE.out
set_option maxRecDepth 100000 in
set_option maxHeartbeats 4000000 in
theorem pblock_of (n : Nat) (st : Nat → Pm Unit) (hst : CallsN 108 n st) (hfine : FineS n st) (h1 : Takes1 n st) : CallsN 85 (n + 1) (blockOf st) := by
  intro w p B s R i h hG hi hbig hn
  have HP := Lib.hid h
  have HG := Lib.hid hG
  have HI := Lib.hid hi
  have HBG := Lib.hid hbig
  have HN := Lib.hid hn
  have HST := Lib.hid hst
  have HFS := Lib.hid hfine
  have HT1 := Lib.hid h1
  have HX1 : Hid (Ext w (w.alloc (.cells #[.pointer (some ⟨p, 0, none⟩)] 55))) := Lib.hid (Ext.alloc _ _)
  have HB0 := Lib.hid (h.fresh 55 #[.pointer (some ⟨p, 0, none⟩)])
  have HP1 := Lib.hid (h.ext HX1.out)
  have cb := HB0.out.1.cell 0
  simp only [List.getElem?_toArray, List.getElem?_cons_zero] at cb
  obtain ⟨whole, HL0⟩ : ∃ x, Hid (x = blockOf st i s) := ⟨_, Lib.hid rfl⟩
  rw [← HL0.out]
  have hm := hmf
  obtain ⟨gb, HGB⟩ : ∃ gb, Hid (w.heap.size = gb) := ⟨_, Lib.hid rfl⟩
  rw [HGB.out] at HB0 cb
  clear h hG hi hbig hn hst hfine h1
  go_enter Tryz.func85, Tryz.ntmps85
  go_upto_region 1 with fail
  rw [HGB.out]
  generalize w.alloc (.cells #[.pointer (some ⟨p, 0, none⟩)] 55) = W0 at *
  have HF := Lib.hid (HP1.out.fresh 90 #[.func (.func 105) #[] #[.pointer (some ⟨gb, 0, none⟩)]])
  have HX2 : Hid (Ext W0 (W0.alloc (.cells #[.func (.func 105) #[] #[.pointer (some ⟨gb, 0, none⟩)]] 90))) := Lib.hid (Ext.alloc _ _)
  go_wp2_with fail
  refine (pkid_any _ p B s R i 6 _ [⟨105, #[], #[.pointer (some ⟨gb, 0, none⟩)], withinP [123] [125] (fun t => untilP st s.nd.length (t.ts.length + 1) t)⟩] 1 (HP1.out.ext HX2.out) HI.out (by have := HBG.out; unfold Ps.phi at this; omega) (by simp) HG.out HF.out.row (fun f hf => by
    rw [List.mem_singleton.1 hf]
    exact enters_of Tryz.func105 (by kernel_rfl) rfl) (fun k hk s' wr R' h1 h2 h3 => by
    obtain rfl : k = 0 := by simp at hk; omega
    injection h1 with _ h1
    subst h1
    exact pblockC_any n st HST.out HFS.out HT1.out wr p B gb _ R' s.nd.length h3 (kidNode_good HG.out i 6) (by rw [kidNode_len]; omega) (by
      rw [kidNode_len, kidNode_ts]
      have h1 := HBG.out
      have h2 := HG.out.pos
      unfold Ps.phi at h1
      omega) (by rw [kidNode_ts]; exact HN.out) ((HB0.out.ext HX2.out).moves h2))).mono ?_
  intro e w1 hpost
  rw [seqK_one] at hpost
  rcases hpost.unit with ⟨s', hr, rfl, ho⟩ | ⟨er, a, hr, he⟩
  · have HR : Hid (whole = .ok () s') := Lib.hid (HL0.out.trans hr)
    have HO := Lib.hid (OkP.trans (Moves.ext (HX1.out.trans HX2.out)) ho)
    clear hpost hr ho
    go_wp2_with fail
    go_end0
    rw [HR.out]
    exact PostU.ok HO.out
  · have HE := Lib.hid (ErrP.trans (Moves.ext (HX1.out.trans HX2.out)) he)
    have HR : Hid (whole = .err er a) := Lib.hid (HL0.out.trans hr)
    obtain ⟨rfl, _⟩ := he
    refine panics_post (P := Tryz.prog) (fn := Tryz.f85) rfl ?_
    rw [HR.out]
    exact HE.out
end Go.Proofs.YtcccnicldbpieaaGreatDoor
