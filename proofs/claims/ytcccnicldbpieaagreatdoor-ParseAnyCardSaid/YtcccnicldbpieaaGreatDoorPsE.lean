/- The program's word, number, list, within. Condition: the nodes fit into memory. -/
import Derived.Test.YtcccnicldbpieaaGreatDoorPsD
namespace Go.Proofs.YtcccnicldbpieaaGreatDoor
open Go Go.RowKit
set_option linter.unusedVariables false
set_option linter.unusedSimpArgs false
theorem PS.mine_lt {w : World} {p B : Nat} {s : Ps} {R : PRep} (h : PS w p B s R) {b : Nat} (hb : MineP p R b) : b < w.heap.size := by
  rcases hb with rfl | hb
  · exact h.blk.lt
  · exact (h.ns.mine_lt hb).2
theorem PS.fresh {w : World} {p B : Nat} {s : Ps} {R : PRep} (h : PS w p B s R) (t : TypeId) (cs : Array Value) : Safe (w.alloc (.cells cs t)) (MineP p R) w.heap.size t cs := ⟨Blk.new _ _ _, fun hb => by have := h.mine_lt hb; omega⟩
theorem Safe.row {w : World} {M : Nat → Prop} {g : Nat} {t : TypeId} {cs : Array Value} (h : Safe w M g t cs) : SafeC w M (some ⟨g, 0, none⟩) cs.toList :=
  .inr ⟨g, 0, rfl, h.1.lt, h.2, fun k hk => by rw [Nat.zero_add, h.1.cell k]; simp⟩
theorem bind_unit (r : Res Unit) : (r.bind fun _ s => .ok () s) = r := by cases r <;> rfl
theorem seqK_one (f : KF) (s : Ps) : seqK [f] s = f.m s := bind_unit _
theorem PostV.unit {w : World} {p B : Nat} {R : PRep} {v : Value} {r : Res Unit} {e : Ending} {w' : World} (h : PostV w p B R v r e w') : (∃ s', r = .ok () s' ∧ e = .returned v ∧ OkP w p B R s' w') ∨ (∃ er a, r = .err er a ∧ ErrP w p B R er a e w') := by
  cases r with
  | ok a s' => exact .inl ⟨s', rfl, h.1, h.2⟩
  | err er a => exact .inr ⟨er, a, rfl, h⟩
theorem PostU.unit {w : World} {p B : Nat} {R : PRep} {r : Res Unit} {e : Ending} {w' : World} (h : PostU w p B R r e w') : (∃ s', r = .ok () s' ∧ e = .returned (.tuple #[]) ∧ OkP w p B R s' w') ∨ (∃ er a, r = .err er a ∧ ErrP w p B R er a e w') := by
  cases r with
  | ok a s' => exact .inl ⟨s', rfl, h.1, h.2⟩
  | err er a => exact .inr ⟨er, a, rfl, h⟩
theorem hmf (fn : Fn) (first cap : Array Value) (w : World) : (Instr.makeFunc fn first cap).run Tryz.prog w = .ok (.func fn first cap) w := rfl
set_option maxRecDepth 100000 in
set_option maxHeartbeats 4000000 in
theorem pword_any (w : World) (p B : Nat) (s : Ps) (R : PRep) (i : Nat) (h : PS w p B s R) (hG : Good s) (hi : i < s.nd.length) (hbig : s.nd.length ≤ 1000000) :
    Calls Tryz.prog 81 #[.pointer (some ⟨p, 0, none⟩), .int .i64 (i : Int)] w (PostU w p B R (wordP i s)) := by
  have HP := Lib.hid h
  have HG := Lib.hid hG
  have HF := Lib.hid (h.fresh 90 #[.func (.func 79) #[.pointer (some ⟨p, 0, none⟩)] #[]])
  have HX : Hid (Ext w (w.alloc (.cells #[.func (.func 79) #[.pointer (some ⟨p, 0, none⟩)] #[]] 90))) := Lib.hid (Ext.alloc _ _)
  have HI := Lib.hid hi
  have hm := hmf
  clear h hG hi
  go_enter Tryz.func81, Tryz.ntmps81
  go_wp2_with fail
  refine (pkid_any _ p B s R i 5 _ [⟨79, #[.pointer (some ⟨p, 0, none⟩)], #[], namedP s.nd.length⟩] 1 (HP.out.ext HX.out) HI.out hbig (by simp) HG.out HF.out.row (fun f hf => by
    rw [List.mem_singleton.1 hf]
    exact enters_of Tryz.func79 (by kernel_rfl) rfl) (fun k hk s' wr R' h1 h2 h3 => by
    obtain rfl : k = 0 := by simp at hk; omega
    injection h1 with _ h1
    subst h1
    exact pnamed_any wr p B _ R' s.nd.length h3 (by rw [kidNode_len]; omega))).mono ?_
  intro e w1 hpost
  rw [seqK_one] at hpost
  rcases hpost.unit with ⟨s', hr, rfl, ho⟩ | ⟨er, a, hr, he⟩
  · have HR : Hid (wordP i s = .ok () s') := Lib.hid hr
    have HO := Lib.hid (OkP.trans (Moves.ext HX.out) ho)
    clear hpost hr ho
    go_wp2_with fail
    go_end0
    rw [HR.out]
    exact PostU.ok HO.out
  · have HE := Lib.hid (ErrP.trans (Moves.ext HX.out) he)
    have HR : Hid (wordP i s = .err er a) := Lib.hid hr
    obtain ⟨rfl, _⟩ := he
    refine panics_post (P := Tryz.prog) (fn := Tryz.f81) rfl ?_
    rw [HR.out]
    exact HE.out
set_option maxRecDepth 100000 in
set_option maxHeartbeats 4000000 in
theorem pnumber_any (w : World) (p B : Nat) (s : Ps) (R : PRep) (i : Nat) (h : PS w p B s R) (hG : Good s) (hi : i < s.nd.length) (hbig : s.nd.length ≤ 1000000) :
    Calls Tryz.prog 141 #[.pointer (some ⟨p, 0, none⟩), .int .i64 (i : Int)] w (PostU w p B R (numberP i s)) := by
  have HP := Lib.hid h
  have HG := Lib.hid hG
  have hb := h.fresh 55 #[.pointer (some ⟨p, 0, none⟩)]
  have h1 := h.ext (Ext.alloc w (.cells #[.pointer (some ⟨p, 0, none⟩)] 55))
  have hf := h1.fresh 90 #[.func (.func 146) #[] #[.pointer (some ⟨w.heap.size, 0, none⟩)]]
  have HB := Lib.hid (hb.moves (Moves.ext (M := MineP p R) (Ext.alloc (w.alloc (.cells #[.pointer (some ⟨p, 0, none⟩)] 55)) (.cells #[.func (.func 146) #[] #[.pointer (some ⟨w.heap.size, 0, none⟩)]] 90))))
  rw [World.size_alloc] at hf
  have HF := Lib.hid hf
  have HX : Hid (Ext w ((w.alloc (.cells #[.pointer (some ⟨p, 0, none⟩)] 55)).alloc (.cells #[.func (.func 146) #[] #[.pointer (some ⟨w.heap.size, 0, none⟩)]] 90))) := Lib.hid ((Ext.alloc _ _).trans (Ext.alloc _ _))
  have HI := Lib.hid hi
  have hm := hmf
  clear h hG hi hb h1 hf
  go_enter Tryz.func141, Tryz.ntmps141
  go_wp2_with fail
  refine (pkid_any _ p B s R i 21 _ [⟨146, #[], #[.pointer (some ⟨w.heap.size, 0, none⟩)], numAtP s.nd.length⟩] 1 (HP.out.ext HX.out) HI.out hbig (by simp) HG.out HF.out.row (fun f hf => by
    rw [List.mem_singleton.1 hf]
    exact enters_of Tryz.func146 (by kernel_rfl) rfl) (fun k hk s' wr R' h1 h2 h3 => by
    obtain rfl : k = 0 := by simp at hk; omega
    injection h1 with _ h1
    subst h1
    exact pnumAt_any wr p B _ R' s.nd.length w.heap.size h3 (by rw [kidNode_len]; omega) (HB.out.moves h2))).mono ?_
  intro e w1 hpost
  rw [seqK_one] at hpost
  rcases hpost.unit with ⟨s', hr, rfl, ho⟩ | ⟨er, a, hr, he⟩
  · have HR : Hid (numberP i s = .ok () s') := Lib.hid hr
    have HO := Lib.hid (OkP.trans (Moves.ext HX.out) ho)
    clear hpost hr ho
    go_wp2_with fail
    go_end0
    rw [HR.out]
    exact PostU.ok HO.out
  · have HE := Lib.hid (ErrP.trans (Moves.ext HX.out) he)
    have HR : Hid (numberP i s = .err er a) := Lib.hid hr
    obtain ⟨rfl, _⟩ := he
    refine panics_post (P := Tryz.prog) (fn := Tryz.f141) rfl ?_
    rw [HR.out]
    exact HE.out
/-- How many tokens are left, read off memory. -/
def lenAt (p : Nat) (w : World) : Nat := match w.cell? ⟨p, 0, none⟩ with
  | some (.slice _ n _) => n
  | _ => 0
theorem PS.lenAt {w : World} {p B : Nat} {s : Ps} {R : PRep} (h : PS w p B s R) : lenAt p w = s.ts.length := by unfold Proofs.YtcccnicldbpieaaGreatDoor.lenAt; rw [h.x0]
theorem moreP_no (one : Pm Unit) (f : Nat) (s : Ps) (h : isP [44] s = false) : moreP one (f + 1) s = .ok () s := by unfold moreP; rw [h]; rfl
theorem moreP_yes (one : Pm Unit) (f : Nat) (s : Ps) (h : isP [44] s = true) : moreP one (f + 1) s = (one s.adv).bind fun _ s => moreP one f s := by rw [moreP, if_pos h]
set_option maxRecDepth 100000 in
set_option maxHeartbeats 4000000 in
theorem plist_any (w : World) (p B : Nat) (s : Ps) (R : PRep) (i : Nat) (f : KF) (h : PS w p B s R) (hG : Good s) (he : ∀ args w, (callFunc f.K args).run Tryz.prog w = .ok (.enter f.K args) w) (hfine : Fine f.m)
    (hone : ∀ (wr : World) (s' : Ps) (R' : PRep), Later s s' → Moves w (MineP p R) wr (MineP p R') → PS wr p B s' R' → Calls Tryz.prog f.K (f.first.push (.int .i64 (i : Int)) ++ f.cap) wr (PostU wr p B R' (f.m s'))) :
    Calls Tryz.prog 80 #[.pointer (some ⟨p, 0, none⟩), .int .i64 (i : Int), .func (.func f.K) f.first f.cap] w (PostU w p B R (listP f.m s)) := by
  have HP := Lib.hid h
  have HG := Lib.hid hG
  have HO := Lib.hid hone
  have HFI := Lib.hid hfine
  obtain ⟨K, first, capt, m⟩ := f
  simp only at he HO HFI ⊢
  have HE := Lib.hid he
  clear h hG hone hfine he
  have hfm := HFI.out s HG.out
  cases hr : m s with
  | err er a =>
    have HC : Hid (PostU w p B R (m s) = PostU w p B R (.err er a)) := Lib.hid (by rw [hr])
    have HL : Hid (listP m s = .err er a) := Lib.hid (by unfold listP; rw [hr]; rfl)
    clear hr hfm
    have he := HE.out
    go_enter Tryz.func80, Tryz.ntmps80
    go_wp2_with fail
    refine (HO.out w s R (Later.refl HG.out) (Moves.refl _ _) HP.out).mono ?_
    rw [HC.out]
    rintro e w1 ⟨rfl, ho⟩
    refine panics_post (P := Tryz.prog) (fn := Tryz.f80) rfl ?_
    rw [HL.out]
    exact ⟨rfl, ho⟩
  | ok a s1 =>
    rw [hr] at hfm
    have HF1 : Hid (Later s s1) := Lib.hid hfm
    have HC : Hid (PostU w p B R (m s) = PostU w p B R (.ok a s1)) := Lib.hid (by rw [hr])
    have HL : Hid (listP m s = moreP m (s1.ts.length + 1) s1) := Lib.hid (by unfold listP; rw [hr]; rfl)
    clear hr hfm
    have he := HE.out
    go_enter Tryz.func80, Tryz.ntmps80
    go_wp2_with fail
    refine (HO.out w s R (Later.refl HG.out) (Moves.refl _ _) HP.out).mono ?_
    rw [HC.out]
    rintro e w1 ⟨rfl, ho⟩
    have HO1 := Lib.hid ho
    clear ho he
    go_wp2_with fail
    go_loopw [] (fun wr => ∃ (s' : Ps) (n : Nat), Hid (Later s s') ∧ Hid (s'.ts.length < n) ∧ Hid (listP m s = moreP m n s') ∧ Hid (OkP w p B R s' wr)) (fun wr => lenAt p wr)
    case atStart => exact ⟨s1, s1.ts.length + 1, HF1, Lib.hid (Nat.lt_succ_self _), HL, HO1⟩
    case round =>
      obtain ⟨s', n, HLT, HN, HEQ, HOK⟩ := hrel
      obtain ⟨wa, rfl⟩ : ∃ wa : World, wa = wr := ⟨_, rfl⟩
      obtain ⟨R', hps, hmv⟩ := HOK.out
      have HPS := Lib.hid hps
      have HMV := Lib.hid hmv
      obtain ⟨n', rfl⟩ : ∃ n', n = n' + 1 := ⟨n - 1, by have := HN.out; omega⟩
      clear hps hmv
      cases hi : isP [44] s' with
      | false =>
        have HI := Lib.hid hi
        have HR : Hid (listP m s = .ok () s') := Lib.hid (by rw [HEQ.out, moreP_no m n' s' hi])
        clear hi
        go_wp2_with fail
        refine (pskip_no wa p B s' R' [44] HI HPS.out).mono ?_
        rintro e w2 ⟨rfl, hx⟩
        have HOF := Lib.hid (OkP.trans HMV.out (HPS.out.okp hx))
        clear hx
        go_wp2_with fail
        go_end0
        rw [HR.out]
        exact PostU.ok HOF.out
      | true =>
        have HI := Lib.hid hi
        have hk4 := (isP_kind hi).1
        have hla := later_adv HLT.out.good hk4
        have HLA := Lib.hid (HLT.out.trans hla)
        have HLN : Hid (s'.adv.ts.length < s'.ts.length ∧ s'.adv.ts.length < n') := Lib.hid (by
          have h1 := adv_len (s := s')
          have h2 := HLT.out.good.pos
          have h3 := HN.out
          omega)
        have HQ : Hid (listP m s = (m s'.adv).bind fun _ s => moreP m n' s) := Lib.hid (by rw [HEQ.out, moreP_yes m n' s' hi])
        have hfm := HFI.out s'.adv hla.good
        clear hi hk4 hla
        cases hr : m s'.adv with
        | err er a =>
          have HC : Hid (m s'.adv = .err er a) := Lib.hid hr
          clear hr hfm
          have he := HE.out
          go_wp2_with fail
          refine (pskip_yes wa p B s' R' [44] HI HPS.out).mono ?_
          rintro e w2 ⟨rfl, ho⟩
          obtain ⟨R2, hps2, hmv2⟩ := ho
          have HPS2 := Lib.hid hps2
          have HMV2 := Lib.hid (HMV.out.trans hmv2)
          clear hps2 hmv2
          go_wp2_with fail
          refine (HO.out w2 s'.adv R2 HLA.out HMV2.out HPS2.out).mono ?_
          intro e w3 hp
          rw [HC.out] at hp
          have HP3 : Hid (PostU w p B R (listP m s) (panicV er) w3) := Lib.hid (by rw [HQ.out, HC.out]; obtain ⟨_, h⟩ := hp; exact ErrP.trans HMV2.out ⟨rfl, h⟩)
          obtain ⟨rfl, _⟩ := hp
          exact panics_post (P := Tryz.prog) (fn := Tryz.f80) rfl HP3.out
        | ok a s2 =>
          rw [hr] at hfm
          have HF2 : Hid (Later s'.adv s2) := Lib.hid hfm
          have HC : Hid (m s'.adv = .ok a s2) := Lib.hid hr
          clear hr hfm
          have he := HE.out
          go_wp2_with fail
          refine (pskip_yes wa p B s' R' [44] HI HPS.out).mono ?_
          rintro e w2 ⟨rfl, ho⟩
          obtain ⟨R2, hps2, hmv2⟩ := ho
          have HPS2 := Lib.hid hps2
          have HMV2 := Lib.hid (HMV.out.trans hmv2)
          clear hps2 hmv2
          go_wp2_with fail
          refine (HO.out w2 s'.adv R2 HLA.out HMV2.out HPS2.out).mono ?_
          intro e w3 hp
          rw [HC.out] at hp
          obtain ⟨rfl, ho3⟩ := hp
          have HO3 := Lib.hid (OkP.trans HMV2.out ho3)
          have HLT2 := Lib.hid (HLA.out.trans HF2.out)
          have HN2 : Hid (s2.ts.length < n') := Lib.hid (by have := HF2.out.ts; have := HLN.out; omega)
          have HEQ2 : Hid (listP m s = moreP m n' s2) := Lib.hid (by rw [HQ.out, HC.out]; rfl)
          have HLL : Hid (lenAt p w3 < lenAt p wa) := Lib.hid (by
            obtain ⟨R3, hps3, _⟩ := HO3.out
            rw [hps3.lenAt, HPS.out.lenAt]
            have := HF2.out.ts
            have := HLN.out
            omega)
          clear ho3 he
          go_wp2_with fail
          go_roundw
          case rel => exact ⟨s2, n', HLT2, HN2, HEQ2, HO3⟩
          case measure => exact HLL.out
end Go.Proofs.YtcccnicldbpieaaGreatDoor
