/- The program's key, row, cell, and the statements that hold no block. Condition: the nodes fit into memory. -/
import Derived.Test.YtcccnicldbpieaaGreatDoorPsO
namespace Go.Proofs.YtcccnicldbpieaaGreatDoor
open Go Go.RowKit
set_option linter.unusedVariables false
set_option linter.unusedSimpArgs false
theorem bind_eq {α : Type} {whole : Res α} {r r' : Res Unit} {f : Unit → Ps → Res α} (h : Hid (whole = r.bind f)) (e : r = r') : whole = r'.bind f := by rw [h.out, e]
theorem Safe.trans {w w1 : World} {M M1 : Nat → Prop} {g : Nat} {t : TypeId} {cs : Array Value} (h : Safe w M g t cs) (k : Moves w M w1 M1) : Safe w1 M1 g t cs := h.moves k
set_option maxRecDepth 100000 in
set_option maxHeartbeats 4000000 in
theorem pkeyC_any (w : World) (p B g1 g2 : Nat) (s : Ps) (R : PRep) (i : Nat) (h : PS w p B s R) (hG : Good s) (hi : i < s.nd.length) (hbig : s.phi ≤ 1000000) (h1 : Safe w (MineP p R) g1 55 #[.pointer (some ⟨p, 0, none⟩)]) (h2 : Safe w (MineP p R) g2 3 #[.int .i64 (i : Int)]) :
    Calls Tryz.prog 145 #[.pointer (some ⟨g1, 0, none⟩), .pointer (some ⟨g2, 0, none⟩)] w (PostU w p B R (exprP i s)) := by
  have HS0 := Lib.hid (Ran.refl h hG)
  have HI := Lib.hid hi
  have HBG := Lib.hid hbig
  obtain ⟨whole, HL0⟩ : ∃ x, Hid (x = exprP i s) := ⟨_, Lib.hid rfl⟩
  rw [← HL0.out]
  have c1 := h1.1.cell 0
  have c2 := h2.1.cell 0
  simp only [List.getElem?_toArray, List.getElem?_cons_zero] at c1 c2
  clear h hG hi hbig h1 h2
  go_enter Tryz.func145, Tryz.ntmps145
  have HB1 := Lib.hid (bind_last HL0.out)
  go_wp2_with fail
  refine (pexpr_any _ p B s R i HS0.out.ps HS0.out.lt.good (HS0.out.idx HI.out) (HS0.out.phi HBG.out)).mono ?_
  intro e w1 hp
  rcases Ran.go HB1 HS0 (fine_expr i _ HS0.out.lt.good) hp with ⟨s1, R1, HL1, rfl, HS1⟩ | ⟨er, a, rfl, HX, HY⟩
  rotate_left
  · refine panics_post (P := Tryz.prog) (fn := Tryz.f145) rfl ?_
    rw [HX.out]
    exact HY.out
  clear hp
  go_wp2_with fail
  go_end0
  rw [HL1.out]
  exact PostU.ok HS1.out.okp
set_option maxRecDepth 100000 in
set_option maxHeartbeats 4000000 in
theorem pkey_any (w : World) (p B : Nat) (s : Ps) (R : PRep) (i : Nat) (h : PS w p B s R) (hG : Good s) (hi : i < s.nd.length) (hbig : s.phi ≤ 1000000) :
    Calls Tryz.prog 140 #[.pointer (some ⟨p, 0, none⟩), .int .i64 (i : Int)] w (PostU w p B R (keyP i s)) := by
  have HP := Lib.hid h
  have HG := Lib.hid hG
  have HI := Lib.hid hi
  have HBG := Lib.hid hbig
  have hm := hmf
  obtain ⟨W0, HW0⟩ : ∃ W0, Hid ((w.alloc (.cells #[.pointer (some ⟨p, 0, none⟩)] 55)).alloc (.cells #[.int .i64 (i : Int)] 3) = W0) := ⟨_, Lib.hid rfl⟩
  have HX0 : Hid (Ext w W0) := Lib.hid (by rw [← HW0.out]; exact (Ext.alloc _ _).trans (Ext.alloc _ _))
  have HB0 : Hid (Safe W0 (MineP p R) w.heap.size 55 #[.pointer (some ⟨p, 0, none⟩)]) := Lib.hid (by rw [← HW0.out]; exact (h.fresh 55 _).ext (Ext.alloc _ _))
  have HE0 : Hid (Safe W0 (MineP p R) (w.heap.size + 1) 3 #[.int .i64 (i : Int)]) := Lib.hid (by
    have := (h.ext (Ext.alloc w (.cells #[.pointer (some ⟨p, 0, none⟩)] 55))).fresh 3 #[.int .i64 (i : Int)]
    rw [World.size_alloc] at this
    rw [← HW0.out]
    exact this)
  have cb := HB0.out.1.cell 0
  simp only [List.getElem?_toArray, List.getElem?_cons_zero] at cb
  clear h hG hi hbig
  go_enter Tryz.func140, Tryz.ntmps140
  go_upto_region 1 with fail
  rw [HW0.out]
  go_wp2_with fail
  have good : isP [91] s = true → Good { s.adv with deep := s.deep + 1 } ∨ s.deep = 64 := fun hi => by
    by_cases hd : s.deep = 64
    · exact .inr hd
    · exact .inl ⟨(HG.out.base.adv (isP_kind hi).1).last, by show s.deep + 1 ≤ 64; have := HG.out.deep; omega, HG.out.few⟩
  refine (pwithin_any noX W0 p B s R [91] [93] 145 #[] #[.pointer (some ⟨w.heap.size, 0, none⟩), .pointer (some ⟨w.heap.size + 1, 0, none⟩)] (exprP i) (fun _ _ _ => True) (HP.out.ext HX0.out) (enters_of Tryz.func145 (by kernel_rfl) rfl) (fun _ _ _ _ _ h _ => h) (fun hi hd x s' hr => ?_) (fun hi hd wr R' hm hp => ?_)).mono ?_
  · have hg2 := (good hi).resolve_right hd
    have hf := fine_expr i _ hg2
    rw [hr] at hf
    exact hf.deep
  · have hg2 := (good hi).resolve_right hd
    refine (pkeyC_any wr p B _ _ _ R' i hp hg2 HI.out ?_ (HB0.out.moves hm) (HE0.out.moves hm)).mono fun e w2 h => PostG.ofU h
    have h1 := HBG.out
    have h2 := adv_len (s := s)
    show s.nd.length + 2 * s.adv.ts.length ≤ 1000000
    unfold Ps.phi at h1
    omega
  · intro e w1 hpost
    have hu : PostU W0 p B R (keyP i s) e w1 := hpost.toU
    have hu2 := PostU.trans (Moves.ext HX0.out) hu
    rcases hu2.unit with ⟨s', hr, rfl, ho⟩ | ⟨er, a, hr, he⟩
    · have HR : Hid (keyP i s = .ok () s') := Lib.hid hr
      have HO := Lib.hid ho
      clear hpost hu hu2 hr ho good
      go_wp2_with fail
      go_end0
      rw [HR.out]
      exact PostU.ok HO.out
    · have HE := Lib.hid he
      have HR : Hid (keyP i s = .err er a) := Lib.hid hr
      obtain ⟨rfl, _⟩ := he
      refine panics_post (P := Tryz.prog) (fn := Tryz.f140) rfl ?_
      rw [HR.out]
      exact HE.out
theorem kidNode_phi (s : Ps) (i k : Nat) : (s.kidNode i k).phi = s.phi + 1 := by
  unfold Ps.phi
  rw [kidNode_len, kidNode_ts]
  omega
set_option maxRecDepth 100000 in
set_option maxHeartbeats 4000000 in
theorem prow_any (w : World) (p B : Nat) (s : Ps) (R : PRep) (i : Nat) (h : PS w p B s R) (hG : Good s) (hi : i < s.nd.length) (hbig : s.phi ≤ 1000000) :
    Calls Tryz.prog 129 #[.pointer (some ⟨p, 0, none⟩), .int .i64 (i : Int)] w (PostU w p B R (rowP i s)) := by
  have HP := Lib.hid h
  have HG := Lib.hid hG
  have HF := Lib.hid (h.fresh 90 #[.func (.func 79) #[.pointer (some ⟨p, 0, none⟩)] #[], .func (.func 140) #[.pointer (some ⟨p, 0, none⟩)] #[]])
  have HX : Hid (Ext w (w.alloc (.cells #[.func (.func 79) #[.pointer (some ⟨p, 0, none⟩)] #[], .func (.func 140) #[.pointer (some ⟨p, 0, none⟩)] #[]] 90))) := Lib.hid (Ext.alloc _ _)
  have HI := Lib.hid hi
  have HBG := Lib.hid hbig
  have HQ : Hid (seqK [⟨79, #[.pointer (some ⟨p, 0, none⟩)], #[], namedP s.nd.length⟩, ⟨140, #[.pointer (some ⟨p, 0, none⟩)], #[], keyP s.nd.length⟩] (s.kidNode i 20) = rowP i s) := Lib.hid (by
    show ((namedP s.nd.length (s.kidNode i 20)).bind fun _ t => (keyP s.nd.length t).bind fun _ u => .ok () u) = (namedP s.nd.length (s.kidNode i 20)).bind fun _ t => keyP s.nd.length t
    cases namedP s.nd.length (s.kidNode i 20) with
    | ok a t => exact bind_unit _
    | err e q => rfl)
  have hm := hmf
  clear h hG hi hbig
  go_enter Tryz.func129, Tryz.ntmps129
  go_wp2_with fail
  refine (pkid_any _ p B s R i 20 _ [⟨79, #[.pointer (some ⟨p, 0, none⟩)], #[], namedP s.nd.length⟩, ⟨140, #[.pointer (some ⟨p, 0, none⟩)], #[], keyP s.nd.length⟩] 2 (HP.out.ext HX.out) HI.out (by have := HBG.out; unfold Ps.phi at this; omega) (by simp) HG.out HF.out.row (fun f hf => by
    simp only [List.mem_cons, List.not_mem_nil, or_false] at hf
    rcases hf with rfl | rfl
    · exact enters_of Tryz.func79 (by kernel_rfl) rfl
    · exact enters_of Tryz.func140 (by kernel_rfl) rfl) (fun k hk s' wr R' h1 h2 h3 => by
    have hk' : k < 2 := hk
    match k, hk' with
    | 0, _ =>
      injection h1 with _ h1
      subst h1
      exact pnamed_any wr p B _ R' s.nd.length h3 (by rw [kidNode_len]; omega)
    | 1, _ =>
      have h1' : seqK [⟨79, #[.pointer (some ⟨p, 0, none⟩)], #[], namedP s.nd.length⟩] (s.kidNode i 20) = .ok () s' := h1
      rw [seqK_one] at h1'
      have hf := fineN_named s.nd.length (kidNode_good HG.out i 20)
      have h1'' : namedP s.nd.length (s.kidNode i 20) = .ok () s' := h1'
      rw [h1''] at hf
      obtain ⟨f1, f2, f3, f4, f5⟩ := hf
      rw [kidNode_phi] at f2
      rw [kidNode_len] at f4
      exact pkey_any wr p B s' R' s.nd.length h3 f1 (by omega) (by have := HBG.out; omega))).mono ?_
  intro e w1 hpost
  rw [HQ.out] at hpost
  rcases hpost.unit with ⟨s', hr, rfl, ho⟩ | ⟨er, a, hr, he⟩
  · have HR : Hid (rowP i s = .ok () s') := Lib.hid hr
    have HO := Lib.hid (OkP.trans (Moves.ext HX.out) ho)
    clear hpost hr ho
    go_wp2_with fail
    go_end0
    rw [HR.out]
    exact PostU.ok HO.out
  · have HE := Lib.hid (ErrP.trans (Moves.ext HX.out) he)
    have HR : Hid (rowP i s = .err er a) := Lib.hid hr
    obtain ⟨rfl, _⟩ := he
    refine panics_post (P := Tryz.prog) (fn := Tryz.f129) rfl ?_
    rw [HR.out]
    exact HE.out
set_option maxRecDepth 100000 in
set_option maxHeartbeats 4000000 in
theorem pcell_any (w : World) (p B : Nat) (s : Ps) (R : PRep) (i : Nat) (h : PS w p B s R) (hG : Good s) (hi : i < s.nd.length) (hbig : s.phi ≤ 1000000) :
    Calls Tryz.prog 139 #[.pointer (some ⟨p, 0, none⟩), .int .i64 (i : Int)] w (PostU w p B R (cellP i s)) := by
  have HS0 := Lib.hid (Ran.refl h hG)
  have HI := Lib.hid hi
  have HBG := Lib.hid hbig
  obtain ⟨whole, HL0⟩ : ∃ x, Hid (x = cellP i s) := ⟨_, Lib.hid rfl⟩
  rw [← HL0.out]
  have hm := hmf
  clear h hG hi hbig
  go_enter Tryz.func139, Tryz.ntmps139
  go_wp2_with fail
  refine (prow_any _ p B s R i HS0.out.ps HS0.out.lt.good (HS0.out.idx HI.out) (HS0.out.phi HBG.out)).mono ?_
  intro e w2 hp
  rcases Ran.go HL0 HS0 (fine_row i _ HS0.out.lt.good) hp with ⟨s2, R2, HL2, rfl, HS2⟩ | ⟨er, a, rfl, HX, HY⟩
  rotate_left
  · refine panics_post (P := Tryz.prog) (fn := Tryz.f139) rfl ?_
    rw [HX.out]
    exact HY.out
  clear hp
  go_wp2_with fail
  refine (ptake_any _ p B s2 R2 [46] HS2.out.ps).mono ?_
  intro e w3 hp
  rcases Ran.go HL2 HS2 (fine_take _ _ HS2.out.lt.good) hp with ⟨s3, R3, HL3, rfl, HS3⟩ | ⟨er, a, rfl, HX, HY⟩
  rotate_left
  · refine panics_post (P := Tryz.prog) (fn := Tryz.f139) rfl ?_
    rw [HX.out]
    exact HY.out
  clear hp
  have HB4 := Lib.hid (bind_last HL3.out)
  go_wp2_with fail
  refine (pword_any _ p B s3 R3 i HS3.out.ps HS3.out.lt.good (HS3.out.idx HI.out) (HS3.out.nd HBG.out)).mono ?_
  intro e w4 hp
  rcases Ran.go HB4 HS3 (fine_word i _ HS3.out.lt.good) hp with ⟨s4, R4, HL4, rfl, HS4⟩ | ⟨er, a, rfl, HX, HY⟩
  rotate_left
  · refine panics_post (P := Tryz.prog) (fn := Tryz.f139) rfl ?_
    rw [HX.out]
    exact HY.out
  clear hp
  go_wp2_with fail
  go_end0
  rw [HL4.out]
  exact PostU.ok HS4.out.okp
set_option maxRecDepth 100000 in
set_option maxHeartbeats 4000000 in
theorem pread_any (w : World) (p B : Nat) (s : Ps) (R : PRep) (i : Nat) (h : PS w p B s R) (hG : Good s) (hi : i < s.nd.length) (hbig : s.phi ≤ 1000000) :
    Calls Tryz.prog 126 #[.pointer (some ⟨p, 0, none⟩), .int .i64 (i : Int)] w (PostU w p B R (readP i s)) := by
  have HS0 := Lib.hid (Ran.refl h hG)
  have HI := Lib.hid hi
  have HBG := Lib.hid hbig
  obtain ⟨whole, HL0⟩ : ∃ x, Hid (x = readP i s) := ⟨_, Lib.hid rfl⟩
  rw [← HL0.out]
  have hm := hmf
  clear h hG hi hbig
  go_enter Tryz.func126, Tryz.ntmps126
  go_wp2_with fail
  refine (pnamed_any _ p B s R i HS0.out.ps (HS0.out.idx HI.out)).mono ?_
  intro e w5 hp
  rcases Ran.go HL0 HS0 (fine_named i _ HS0.out.lt.good) hp with ⟨s5, R5, HL5, rfl, HS5⟩ | ⟨er, a, rfl, HX, HY⟩
  rotate_left
  · refine panics_post (P := Tryz.prog) (fn := Tryz.f126) rfl ?_
    rw [HX.out]
    exact HY.out
  clear hp
  go_wp2_with fail
  refine (ptake_any _ p B s5 R5 [61] HS5.out.ps).mono ?_
  intro e w6 hp
  rcases Ran.go HL5 HS5 (fine_take _ _ HS5.out.lt.good) hp with ⟨s6, R6, HL6, rfl, HS6⟩ | ⟨er, a, rfl, HX, HY⟩
  rotate_left
  · refine panics_post (P := Tryz.prog) (fn := Tryz.f126) rfl ?_
    rw [HX.out]
    exact HY.out
  clear hp
  go_wp2_with fail
  refine (pcell_any _ p B s6 R6 i HS6.out.ps HS6.out.lt.good (HS6.out.idx HI.out) (HS6.out.phi HBG.out)).mono ?_
  intro e w7 hp
  rcases Ran.go HL6 HS6 (fine_cell i _ HS6.out.lt.good) hp with ⟨s7, R7, HL7, rfl, HS7⟩ | ⟨er, a, rfl, HX, HY⟩
  rotate_left
  · refine panics_post (P := Tryz.prog) (fn := Tryz.f126) rfl ?_
    rw [HX.out]
    exact HY.out
  clear hp
  cases hi8 : isP [102, 111, 114] s7 with
  | false =>
    have HI8 := Lib.hid hi8
    clear hi8
    have HL8 := Lib.hid (if_no (t := [102, 111, 114]) (s := s7) HL7 HI8)
    go_wp2_with fail
    refine (pskip_no _ p B s7 R7 [102, 111, 114] HI8 HS7.out.ps).mono ?_
    rintro e w8 ⟨rfl, hx⟩
    have HS8 := Lib.hid (HS7.out.ext hx)
    clear hx
    go_wp2_with fail
    go_end0
    rw [HL8.out]
    exact PostU.ok HS8.out.okp
  | true =>
    have HI8 := Lib.hid hi8
    clear hi8
    have HL8 := Lib.hid (if_yes (t := [102, 111, 114]) (s := s7) HL7 HI8)
    go_wp2_with fail
    refine (pskip_yes _ p B s7 R7 [102, 111, 114] HI8 HS7.out.ps).mono ?_
    rintro e w8 ⟨rfl, ho⟩
    obtain ⟨R8, hs⟩ := HS7.out.then ho (later_skip HS7.out.lt.good HI8)
    have HS8 := Lib.hid hs
    clear ho hs
    go_wp2_with fail
    refine (ptake_any _ p B s7.adv R8 [117, 112, 100, 97, 116, 101] HS8.out.ps).mono ?_
    intro e w9 hp
    rcases Ran.go HL8 HS8 (fine_take _ _ HS8.out.lt.good) hp with ⟨s9, R9, HL9, rfl, HS9⟩ | ⟨er, a, rfl, HX, HY⟩
    rotate_left
    · refine panics_post (P := Tryz.prog) (fn := Tryz.f126) rfl ?_
      rw [HX.out]
      exact HY.out
    clear hp
    have HB10 := Lib.hid (bind_last HL9.out)
    go_wp2_with fail
    refine (pmarked_any _ p B s9 R9 i HS9.out.ps (HS9.out.idx HI.out)).mono ?_
    intro e w10 hp
    rcases Ran.go HB10 HS9 (Later.num HS9.out.lt.good i 1) hp with ⟨s10, R10, HL10, rfl, HS10⟩ | ⟨er, a, rfl, HX, HY⟩
    rotate_left
    · refine panics_post (P := Tryz.prog) (fn := Tryz.f126) rfl ?_
      rw [HX.out]
      exact HY.out
    clear hp
    go_wp2_with fail
    go_end0
    rw [HL10.out]
    exact PostU.ok HS10.out.okp
set_option maxRecDepth 100000 in
set_option maxHeartbeats 4000000 in
theorem pset_any (w : World) (p B : Nat) (s : Ps) (R : PRep) (i : Nat) (h : PS w p B s R) (hG : Good s) (hi : i < s.nd.length) (hbig : s.phi ≤ 1000000) :
    Calls Tryz.prog 127 #[.pointer (some ⟨p, 0, none⟩), .int .i64 (i : Int)] w (PostU w p B R (setP i s)) := by
  have HS0 := Lib.hid (Ran.refl h hG)
  have HI := Lib.hid hi
  have HBG := Lib.hid hbig
  obtain ⟨whole, HL0⟩ : ∃ x, Hid (x = setP i s) := ⟨_, Lib.hid rfl⟩
  rw [← HL0.out]
  have hm := hmf
  clear h hG hi hbig
  go_enter Tryz.func127, Tryz.ntmps127
  go_wp2_with fail
  refine (pcell_any _ p B s R i HS0.out.ps HS0.out.lt.good (HS0.out.idx HI.out) (HS0.out.phi HBG.out)).mono ?_
  intro e w11 hp
  rcases Ran.go HL0 HS0 (fine_cell i _ HS0.out.lt.good) hp with ⟨s11, R11, HL11, rfl, HS11⟩ | ⟨er, a, rfl, HX, HY⟩
  rotate_left
  · refine panics_post (P := Tryz.prog) (fn := Tryz.f127) rfl ?_
    rw [HX.out]
    exact HY.out
  clear hp
  go_wp2_with fail
  refine (ptake_any _ p B s11 R11 [61] HS11.out.ps).mono ?_
  intro e w12 hp
  rcases Ran.go HL11 HS11 (fine_take _ _ HS11.out.lt.good) hp with ⟨s12, R12, HL12, rfl, HS12⟩ | ⟨er, a, rfl, HX, HY⟩
  rotate_left
  · refine panics_post (P := Tryz.prog) (fn := Tryz.f127) rfl ?_
    rw [HX.out]
    exact HY.out
  clear hp
  have HB13 := Lib.hid (bind_last HL12.out)
  go_wp2_with fail
  refine (pexpr_any _ p B s12 R12 i HS12.out.ps HS12.out.lt.good (HS12.out.idx HI.out) (HS12.out.phi HBG.out)).mono ?_
  intro e w13 hp
  rcases Ran.go HB13 HS12 (fine_expr i _ HS12.out.lt.good) hp with ⟨s13, R13, HL13, rfl, HS13⟩ | ⟨er, a, rfl, HX, HY⟩
  rotate_left
  · refine panics_post (P := Tryz.prog) (fn := Tryz.f127) rfl ?_
    rw [HX.out]
    exact HY.out
  clear hp
  go_wp2_with fail
  go_end0
  rw [HL13.out]
  exact PostU.ok HS13.out.okp
set_option maxRecDepth 100000 in
set_option maxHeartbeats 4000000 in
theorem pupsert_any (w : World) (p B : Nat) (s : Ps) (R : PRep) (i : Nat) (h : PS w p B s R) (hG : Good s) (hi : i < s.nd.length) (hbig : s.phi ≤ 1000000) :
    Calls Tryz.prog 128 #[.pointer (some ⟨p, 0, none⟩), .int .i64 (i : Int)] w (PostU w p B R (upsertP i s)) := by
  have HS0 := Lib.hid (Ran.refl h hG)
  have HI := Lib.hid hi
  have HBG := Lib.hid hbig
  obtain ⟨whole, HL0⟩ : ∃ x, Hid (x = upsertP i s) := ⟨_, Lib.hid rfl⟩
  rw [← HL0.out]
  have hm := hmf
  clear h hG hi hbig
  go_enter Tryz.func128, Tryz.ntmps128
  go_wp2_with fail
  refine (prow_any _ p B s R i HS0.out.ps HS0.out.lt.good (HS0.out.idx HI.out) (HS0.out.phi HBG.out)).mono ?_
  intro e w14 hp
  rcases Ran.go HL0 HS0 (fine_row i _ HS0.out.lt.good) hp with ⟨s14, R14, HL14, rfl, HS14⟩ | ⟨er, a, rfl, HX, HY⟩
  rotate_left
  · refine panics_post (P := Tryz.prog) (fn := Tryz.f128) rfl ?_
    rw [HX.out]
    exact HY.out
  clear hp
  go_wp2_with fail
  refine (ptake_any _ p B s14 R14 [40] HS14.out.ps).mono ?_
  intro e w15 hp
  rcases Ran.go HL14 HS14 (fine_take _ _ HS14.out.lt.good) hp with ⟨s15, R15, HL15, rfl, HS15⟩ | ⟨er, a, rfl, HX, HY⟩
  rotate_left
  · refine panics_post (P := Tryz.prog) (fn := Tryz.f128) rfl ?_
    rw [HX.out]
    exact HY.out
  clear hp
  go_wp2_with fail
  refine (plist_any _ p B s15 R15 i ⟨136, #[.pointer (some ⟨p, 0, none⟩)], #[], exprP i⟩ HS15.out.ps HS15.out.lt.good (enters_of Tryz.func136 (by kernel_rfl) rfl) (fine_expr i) (fun wr s9 R9 hl9 hm9 hp9 => pexpr_any wr p B s9 R9 i hp9 hl9.good (Nat.lt_of_lt_of_le (HS15.out.idx HI.out) hl9.nd) (Nat.le_trans hl9.phi (HS15.out.phi HBG.out)))).mono ?_
  intro e w16 hp
  rcases Ran.go HL15 HS15 (fine_list (fine_expr i) _ HS15.out.lt.good) hp with ⟨s16, R16, HL16, rfl, HS16⟩ | ⟨er, a, rfl, HX, HY⟩
  rotate_left
  · refine panics_post (P := Tryz.prog) (fn := Tryz.f128) rfl ?_
    rw [HX.out]
    exact HY.out
  clear hp
  have HB17 := Lib.hid (bind_last HL16.out)
  go_wp2_with fail
  refine (ptake_any _ p B s16 R16 [41] HS16.out.ps).mono ?_
  intro e w17 hp
  rcases Ran.go HB17 HS16 (fine_take _ _ HS16.out.lt.good) hp with ⟨s17, R17, HL17, rfl, HS17⟩ | ⟨er, a, rfl, HX, HY⟩
  rotate_left
  · refine panics_post (P := Tryz.prog) (fn := Tryz.f128) rfl ?_
    rw [HX.out]
    exact HY.out
  clear hp
  go_wp2_with fail
  go_end0
  rw [HL17.out]
  exact PostU.ok HS17.out.okp
set_option maxRecDepth 100000 in
set_option maxHeartbeats 4000000 in
theorem pscan_any (w : World) (p B : Nat) (s : Ps) (R : PRep) (i : Nat) (h : PS w p B s R) (hG : Good s) (hi : i < s.nd.length) (hbig : s.phi ≤ 1000000) :
    Calls Tryz.prog 130 #[.pointer (some ⟨p, 0, none⟩), .int .i64 (i : Int)] w (PostU w p B R (scanP i s)) := by
  have HS0 := Lib.hid (Ran.refl h hG)
  have HI := Lib.hid hi
  have HBG := Lib.hid hbig
  obtain ⟨whole, HL0⟩ : ∃ x, Hid (x = scanP i s) := ⟨_, Lib.hid rfl⟩
  rw [← HL0.out]
  have hm := hmf
  clear h hG hi hbig
  go_enter Tryz.func130, Tryz.ntmps130
  go_wp2_with fail
  refine (pnamed_any _ p B s R i HS0.out.ps (HS0.out.idx HI.out)).mono ?_
  intro e w18 hp
  rcases Ran.go HL0 HS0 (fine_named i _ HS0.out.lt.good) hp with ⟨s18, R18, HL18, rfl, HS18⟩ | ⟨er, a, rfl, HX, HY⟩
  rotate_left
  · refine panics_post (P := Tryz.prog) (fn := Tryz.f130) rfl ?_
    rw [HX.out]
    exact HY.out
  clear hp
  go_wp2_with fail
  refine (ptake_any _ p B s18 R18 [61] HS18.out.ps).mono ?_
  intro e w19 hp
  rcases Ran.go HL18 HS18 (fine_take _ _ HS18.out.lt.good) hp with ⟨s19, R19, HL19, rfl, HS19⟩ | ⟨er, a, rfl, HX, HY⟩
  rotate_left
  · refine panics_post (P := Tryz.prog) (fn := Tryz.f130) rfl ?_
    rw [HX.out]
    exact HY.out
  clear hp
  go_wp2_with fail
  refine (pword_any _ p B s19 R19 i HS19.out.ps HS19.out.lt.good (HS19.out.idx HI.out) (HS19.out.nd HBG.out)).mono ?_
  intro e w20 hp
  rcases Ran.go HL19 HS19 (fine_word i _ HS19.out.lt.good) hp with ⟨s20, R20, HL20, rfl, HS20⟩ | ⟨er, a, rfl, HX, HY⟩
  rotate_left
  · refine panics_post (P := Tryz.prog) (fn := Tryz.f130) rfl ?_
    rw [HX.out]
    exact HY.out
  clear hp
  go_wp2_with fail
  refine (ptake_any _ p B s20 R20 [46] HS20.out.ps).mono ?_
  intro e w21 hp
  rcases Ran.go HL20 HS20 (fine_take _ _ HS20.out.lt.good) hp with ⟨s21, R21, HL21, rfl, HS21⟩ | ⟨er, a, rfl, HX, HY⟩
  rotate_left
  · refine panics_post (P := Tryz.prog) (fn := Tryz.f130) rfl ?_
    rw [HX.out]
    exact HY.out
  clear hp
  have HB22 := Lib.hid (bind_last HL21.out)
  go_wp2_with fail
  refine (pword_any _ p B s21 R21 i HS21.out.ps HS21.out.lt.good (HS21.out.idx HI.out) (HS21.out.nd HBG.out)).mono ?_
  intro e w22 hp
  rcases Ran.go HB22 HS21 (fine_word i _ HS21.out.lt.good) hp with ⟨s22, R22, HL22, rfl, HS22⟩ | ⟨er, a, rfl, HX, HY⟩
  rotate_left
  · refine panics_post (P := Tryz.prog) (fn := Tryz.f130) rfl ?_
    rw [HX.out]
    exact HY.out
  clear hp
  go_wp2_with fail
  go_end0
  rw [HL22.out]
  exact PostU.ok HS22.out.okp
set_option maxRecDepth 100000 in
set_option maxHeartbeats 4000000 in
theorem plock_any (w : World) (p B : Nat) (s : Ps) (R : PRep) (i : Nat) (h : PS w p B s R) (hG : Good s) (hi : i < s.nd.length) (hbig : s.phi ≤ 1000000) :
    Calls Tryz.prog 131 #[.pointer (some ⟨p, 0, none⟩), .int .i64 (i : Int)] w (PostU w p B R (lockP i s)) := by
  have HS0 := Lib.hid (Ran.refl h hG)
  have HI := Lib.hid hi
  have HBG := Lib.hid hbig
  obtain ⟨whole, HL0⟩ : ∃ x, Hid (x = lockP i s) := ⟨_, Lib.hid rfl⟩
  rw [← HL0.out]
  have hm := hmf
  clear h hG hi hbig
  go_enter Tryz.func131, Tryz.ntmps131
  go_wp2_with fail
  refine (pword_any _ p B s R i HS0.out.ps HS0.out.lt.good (HS0.out.idx HI.out) (HS0.out.nd HBG.out)).mono ?_
  intro e w23 hp
  rcases Ran.go HL0 HS0 (fine_word i _ HS0.out.lt.good) hp with ⟨s23, R23, HL23, rfl, HS23⟩ | ⟨er, a, rfl, HX, HY⟩
  rotate_left
  · refine panics_post (P := Tryz.prog) (fn := Tryz.f131) rfl ?_
    rw [HX.out]
    exact HY.out
  clear hp
  cases hi24 : isP [97, 108, 108] s23 with
  | false =>
    have HI24 := Lib.hid hi24
    clear hi24
    have HL24 := Lib.hid (if_no (t := [97, 108, 108]) (s := s23) HL23 HI24)
    go_wp2_with fail
    refine (pskip_no _ p B s23 R23 [97, 108, 108] HI24 HS23.out.ps).mono ?_
    rintro e w24 ⟨rfl, hx⟩
    have HS24 := Lib.hid (HS23.out.ext hx)
    clear hx
    have HB25 := Lib.hid (bind_last HL24.out)
    go_wp2_with fail
    refine (ptake_any _ p B s23 R23 [115, 104, 97, 114, 101, 100] HS24.out.ps).mono ?_
    intro e w25 hp
    rcases Ran.go HB25 HS24 (fine_take _ _ HS24.out.lt.good) hp with ⟨s25, R25, HL25, rfl, HS25⟩ | ⟨er, a, rfl, HX, HY⟩
    rotate_left
    · refine panics_post (P := Tryz.prog) (fn := Tryz.f131) rfl ?_
      rw [HX.out]
      exact HY.out
    clear hp
    go_wp2_with fail
    go_end0
    rw [HL25.out]
    exact PostU.ok HS25.out.okp
  | true =>
    have HI24 := Lib.hid hi24
    clear hi24
    have HL24 := Lib.hid (if_yes (t := [97, 108, 108]) (s := s23) HL23 HI24)
    go_wp2_with fail
    refine (pskip_yes _ p B s23 R23 [97, 108, 108] HI24 HS23.out.ps).mono ?_
    rintro e w24 ⟨rfl, ho⟩
    obtain ⟨R24, hs⟩ := HS23.out.then ho (later_skip HS23.out.lt.good HI24)
    have HS24 := Lib.hid hs
    clear ho hs
    have HB26 := Lib.hid (bind_last HL24.out)
    go_wp2_with fail
    refine (pmarked_any _ p B s23.adv R24 i HS24.out.ps (HS24.out.idx HI.out)).mono ?_
    intro e w26 hp
    rcases Ran.go HB26 HS24 (Later.num HS24.out.lt.good i 1) hp with ⟨s26, R26, HL26, rfl, HS26⟩ | ⟨er, a, rfl, HX, HY⟩
    rotate_left
    · refine panics_post (P := Tryz.prog) (fn := Tryz.f131) rfl ?_
      rw [HX.out]
      exact HY.out
    clear hp
    go_wp2_with fail
    refine bodyPost_ret (v := .tuple #[]) (by simp [results, Tryz.results131, go_sem]) rfl ?_
    rw [HL26.out]
    exact PostU.ok HS26.out.okp
set_option maxRecDepth 100000 in
set_option maxHeartbeats 4000000 in
theorem plet_any (w : World) (p B : Nat) (s : Ps) (R : PRep) (i : Nat) (h : PS w p B s R) (hG : Good s) (hi : i < s.nd.length) (hbig : s.phi ≤ 1000000) :
    Calls Tryz.prog 135 #[.pointer (some ⟨p, 0, none⟩), .int .i64 (i : Int)] w (PostU w p B R (letP i s)) := by
  have HS0 := Lib.hid (Ran.refl h hG)
  have HI := Lib.hid hi
  have HBG := Lib.hid hbig
  obtain ⟨whole, HL0⟩ : ∃ x, Hid (x = letP i s) := ⟨_, Lib.hid rfl⟩
  rw [← HL0.out]
  have hm := hmf
  clear h hG hi hbig
  go_enter Tryz.func135, Tryz.ntmps135
  go_wp2_with fail
  refine (pnamed_any _ p B s R i HS0.out.ps (HS0.out.idx HI.out)).mono ?_
  intro e w27 hp
  rcases Ran.go HL0 HS0 (fine_named i _ HS0.out.lt.good) hp with ⟨s27, R27, HL27, rfl, HS27⟩ | ⟨er, a, rfl, HX, HY⟩
  rotate_left
  · refine panics_post (P := Tryz.prog) (fn := Tryz.f135) rfl ?_
    rw [HX.out]
    exact HY.out
  clear hp
  go_wp2_with fail
  refine (ptake_any _ p B s27 R27 [61] HS27.out.ps).mono ?_
  intro e w28 hp
  rcases Ran.go HL27 HS27 (fine_take _ _ HS27.out.lt.good) hp with ⟨s28, R28, HL28, rfl, HS28⟩ | ⟨er, a, rfl, HX, HY⟩
  rotate_left
  · refine panics_post (P := Tryz.prog) (fn := Tryz.f135) rfl ?_
    rw [HX.out]
    exact HY.out
  clear hp
  have HB29 := Lib.hid (bind_last HL28.out)
  go_wp2_with fail
  refine (pexpr_any _ p B s28 R28 i HS28.out.ps HS28.out.lt.good (HS28.out.idx HI.out) (HS28.out.phi HBG.out)).mono ?_
  intro e w29 hp
  rcases Ran.go HB29 HS28 (fine_expr i _ HS28.out.lt.good) hp with ⟨s29, R29, HL29, rfl, HS29⟩ | ⟨er, a, rfl, HX, HY⟩
  rotate_left
  · refine panics_post (P := Tryz.prog) (fn := Tryz.f135) rfl ?_
    rw [HX.out]
    exact HY.out
  clear hp
  go_wp2_with fail
  go_end0
  rw [HL29.out]
  exact PostU.ok HS29.out.okp
set_option maxHeartbeats 1000000 in
theorem pnone_any (w : World) (p B : Nat) (s : Ps) (R : PRep) (i : Nat) (h : PS w p B s R) :
    Calls Tryz.prog 137 #[.pointer (some ⟨p, 0, none⟩), .int .i64 (i : Int)] w (PostU w p B R (noneP s)) := by
  have HP := Lib.hid h
  clear h
  go_enter Tryz.func137, Tryz.ntmps137
  go_wp2
  go_end0
  exact PostU.ok ⟨R, HP.out, Moves.refl _ _⟩
end Go.Proofs.YtcccnicldbpieaaGreatDoor
