/- The program's chain: parts with marks between them. No condition. -/
import Derived.Test.YtcccnicldbpieaaGreatDoorPsI
import Derived.ScopeJumps
import Derived.WalkMore
namespace Go.Proofs.YtcccnicldbpieaaGreatDoor
open Go Go.RowKit
set_option linter.unusedVariables false
set_option linter.unusedSimpArgs false
theorem bstr_len (l : Bs) : (bstr l).size = l.length := by simp [bstr, ByteArray.size]
theorem EX.weaken {w : World} {M M' : Nat → Prop} (k : ∀ b, b < w.heap.size → M' b → M b) : ∀ {e : Ex} {cs : List Value}, EX w M e cs → EX w M' e cs
  | .leaf .., _, h => h
  | .neg .., _, ⟨g, ca, h1, h2, h3⟩ => ⟨g, ca, h1, ⟨h2.1, fun h => h2.2 (k g h2.1.lt h)⟩, EX.weaken k h3⟩
  | .bin .., _, ⟨g, ca, cb, h1, h2, h3, h4⟩ => ⟨g, ca, cb, h1, ⟨h2.1, fun h => h2.2 (k g h2.1.lt h)⟩, EX.weaken k h3, EX.weaken k h4⟩
theorem Touch.moves {g : Nat} {w w' : World} (h : Touch g w w') {N : Nat → Prop} (hg : N g) : Moves w N w' N :=
  ⟨h.os, h.tape, h.output, by rw [h.size]; exact Nat.le_refl _, fun b hb hN => h.other b fun e => hN (by rw [e]; exact hg), fun b hb => .inl hb⟩
theorem Touch.ps {g p B : Nat} {w w' : World} {s : Ps} {R : PRep} (h : Touch g w w') (k : PS w p B s R) (hB : B ≤ g) (hM : ¬ MineP p R g) : PS w' p B s R :=
  k.keep fun b hb => h.other b fun e => by
    subst e
    rcases hb with hb | hb
    · omega
    · exact hM hb
theorem Touch.safe {g g' : Nat} {w w' : World} {M : Nat → Prop} {t : TypeId} {cs : Array Value} (h : Touch g w w') (k : Safe w M g' t cs) (hn : g' ≠ g) : Safe w' M g' t cs := ⟨(h.other g' hn).trans k.1, k.2⟩
theorem Moves.touch {g : Nat} {w w1 w2 : World} {M M1 : Nat → Prop} (k : Moves w M w1 M1) (h : Touch g w1 w2) (hg : w.heap.size ≤ g) : Moves w M w2 M1 :=
  ⟨h.os.trans k.os, h.tape.trans k.tape, h.output.trans k.output, by rw [h.size]; exact k.size, fun b hb hM => (h.other b (by omega)).trans (k.keep b hb hM), k.mine⟩
/-- Below a world's end. -/
def under (w : World) (b : Nat) : Prop := b < w.heap.size
def PostE (w : World) (p B : Nat) (R : PRep) (r : Res Ex) (e : Ending) (w' : World) : Prop :=
  match r with
  | .ok x s' => ∃ cs R', e = .returned (.agg cs.toArray) ∧ PS w' p B s' R' ∧ Moves w (MineP p R) w' (MineP p R') ∧ EX w' (Or (MineP p R') (under w)) x cs
  | .err er a => ErrP w p B R er a e w'
theorem wp_scope_label {P : Program} {a : Act} {w : World} {Q : Exit → Act → World → Prop} {x rest : Code} (l : Nat) (J : Act → World → Prop) (μ : Act → World → Nat) (hf : findLabel x l = none)
    (first : x.wp P (Exit.then J (Exit.noGoto Q)) a w) (pass : ∀ a w, J a w → rest.wp P (Exit.jump l (fun a' w' => J a' w' ∧ μ a' w' < μ a w) Q) a w) : (Code.scope (x.seq ((Code.label l).seq rest))).wp P Q a w := by
  refine wp_scope_jumps (rest := .seq .skip rest) l J μ (by simp [findLabel, hf]) ?_ (fun a w h => wp_seq (wp_skip (pass a w h)))
  apply wp_seq
  refine wp_mono first ?_
  intro e a w h
  cases e with
  | normal =>
    refine wp_seq (wp_label (wp_mono (pass a w h) ?_))
    intro e a w h
    cases e with
    | goto l' => exact ⟨h.1, h.2.1⟩
    | normal => exact h
    | exit id => exact h
    | ret => exact h
    | panic ch => exact h
    | outgrown => exact h
  | goto l' => exact h.elim
  | exit id => exact h
  | ret => exact h
  | panic ch => exact h
  | outgrown => exact h
theorem chainL_none {ms : List (Bs × Nat)} {part : Pm Ex} {f : Nat} {e : Ex} {s : Ps} (h : markM ms s = none) : chainL ms part (f + 1) e s = .ok e s := by rw [chainL, h]
theorem chainL_some {ms : List (Bs × Nat)} {part : Pm Ex} {f k : Nat} {e : Ex} {s : Ps} (h : markM ms s = some k) : chainL ms part (f + 1) e s = (part s.adv).bind fun r s => chainL ms part f (.bin k e.pos e r) s := by rw [chainL, h]
theorem markM_none {ms : List (Bs × Nat)} {s : Ps} (h : ∀ m ∈ ms, isP m.1 s = false) : markM ms s = none := by
  unfold markM
  rw [List.find?_eq_none.2 (fun m hm => by rw [h m hm]; simp)]
  rfl
theorem markM_some : ∀ {ms : List (Bs × Nat)} {s : Ps} (k : Nat) (hk : k < ms.length), (∀ j (hj : j < ms.length), j < k → isP ms[j].1 s = false) → isP ms[k].1 s = true → markM ms s = some ms[k].2
  | m :: ms, s, 0, _, _, hi => by
    have hi' : isP m.1 s = true := hi
    unfold markM
    simp [List.find?_cons, hi']
  | m :: ms, s, k + 1, hk, h, hi => by
    have h0 : isP m.1 s = false := h 0 (by simp) (by omega)
    have ih := markM_some (ms := ms) (s := s) k (by simpa using hk) (fun j hj hjk => h (j + 1) (by simpa using hj) (by omega)) hi
    unfold markM at ih ⊢
    rw [List.find?_cons, h0]
    exact ih
theorem flat_one : ∀ (ms : List (Bs × Nat)), (∀ m ∈ ms, m.1.length = 1) → (ms.map Prod.fst).flatten.length = ms.length ∧ ∀ k (hk : k < ms.length), ((ms.map Prod.fst).flatten.drop k).take 1 = ms[k].1
  | [], _ => ⟨rfl, fun k hk => by cases hk⟩
  | m :: ms, h => by
    obtain ⟨h1, h2⟩ := flat_one ms (fun x hx => h x (List.mem_cons_of_mem _ hx))
    obtain ⟨c, hc⟩ := List.length_eq_one_iff.1 (h m (List.mem_cons_self ..))
    refine ⟨by rw [List.map_cons, List.flatten_cons, List.length_append, h1, h m (List.mem_cons_self ..), List.length_cons]; omega, fun k hk => ?_⟩
    rw [List.map_cons, List.flatten_cons, hc]
    match k, hk with
    | 0, _ => rw [List.getElem_cons_zero, hc]; rfl
    | k + 1, hk => exact h2 k (by simpa using hk)
theorem bstr_extract (L : Bs) (i j : Nat) : (bstr L).extract i j = bstr ((L.drop i).take (j - i)) := by
  apply ByteArray.ext
  rw [ByteArray.data_extract]
  show (L.toArray).extract i j = ((L.drop i).take (j - i)).toArray
  apply Array.ext'
  simp [List.extract_eq_take_drop, List.take_drop]
  try omega
def ChX (w : World) (g g0 b : Nat) : Prop := under w b ∨ b = g ∨ b = g0
/-- What holds at the label. -/
def ChainJ (n : Nat) (ms : List (Bs × Nat)) (part : Pm Ex) (K : Nat) (first cap : Array Value) (A : Option Addr) (kc : Nat) (w : World) (p B : Nat) (s : Ps) (R : PRep) (g0 : Nat) (a' : Act) (w' : World) : Prop :=
  ∃ (g : Nat) (s' : Ps) (R' : PRep) (x : Ex) (cs : List Value) (f : Nat) (u10 u11 u12 u13 u14 u15 u16 u17 u18 u19 u20 u21 u22 u23 u24 u25 u26 u27 u28 u29 u30 u31 u32 u33 u34 u35 u36 u37 u38 u39 u40 u41 : Value),
    a' = { tmps := #[.pointer (some ⟨p, 0, none⟩), .func (.func K) first cap, .string (bstr (ms.map Prod.fst).flatten), .slice A ms.length kc, undef, undef, undef, undef, .pointer (some ⟨g0, 0, none⟩), .pointer (some ⟨g, 0, none⟩), u10, u11, u12, u13, u14, u15, u16, u17, u18, u19, u20, u21, u22, u23, u24, u25, u26, u27, u28, u29, u30, u31, u32, u33, u34, u35, u36, u37, u38, u39, u40, u41], defers := [] } ∧
    Hid (PS w' p B s' R') ∧ Hid (Moves w (MineP p R) w' (MineP p R')) ∧ Hid (Good s') ∧ Hid (s'.ts.length ≤ n) ∧ Hid (s'.ts.length < f) ∧ Hid (chainP ms part s = chainL ms part f x s') ∧
    Hid (Safe w' (MineP p R') g 171 cs.toArray) ∧ Hid (w.heap.size ≤ g ∧ w.heap.size ≤ g0 ∧ g ≠ g0 ∧ B ≤ w.heap.size) ∧ Hid (EX w' (Or (MineP p R') (ChX w g g0)) x cs) ∧ Hid (Safe w' (MineP p R') g0 171 #[.int .u8 0, .int .i64 0, .string ⟨#[]⟩, .int .i64 0, .slice none 0 0, .slice none 0 0])
set_option maxRecDepth 100000 in
set_option maxHeartbeats 4000000 in
theorem pchain_any (n : Nat) (ms : List (Bs × Nat)) (part : Pm Ex) (K : Nat) (first cap : Array Value) (A : Option Addr) (kc : Nat) (w : World) (p B : Nat) (s : Ps) (R : PRep) (h : PS w p B s R) (hG : Good s) (hn : s.ts.length ≤ n)
    (h1 : ∀ m ∈ ms, m.1.length = 1) (h2 : ms.length ≤ 100) (hk : SafeC w (MineP p R) A (ms.map fun m => .int .u8 (m.2 : Int)))
    (hfine : ∀ t, Good t → t.ts.length ≤ n → FineE t (part t)) (he : ∀ args w, (callFunc K args).run Tryz.prog w = .ok (.enter K args) w)
    (hcall : ∀ (wr : World) (s' : Ps) (R' : PRep), Moves w (MineP p R) wr (MineP p R') → PS wr p B s' R' → Good s' → s'.ts.length ≤ n → Calls Tryz.prog K (first ++ cap) wr (PostE wr p B R' (part s'))) :
    Calls Tryz.prog 147 #[.pointer (some ⟨p, 0, none⟩), .func (.func K) first cap, .string (bstr (ms.map Prod.fst).flatten), .slice A ms.length kc] w (PostE w p B R (chainP ms part s)) := by
  have HP := Lib.hid h
  have HFI := Lib.hid hfine
  have HC := Lib.hid hcall
  have HK := Lib.hid hk
  have HE := Lib.hid he
  have HG := Lib.hid hG
  have HN := Lib.hid hn
  have H1 := Lib.hid h1
  have hff := hfine s hG hn
  have HZ := Lib.hid (h.fresh 171 #[.int .u8 0, .int .i64 0, .string ⟨#[]⟩, .int .i64 0, .slice none 0 0, .slice none 0 0])
  have HX0 : Hid (Ext w (w.alloc (.cells #[.int .u8 0, .int .i64 0, .string ⟨#[]⟩, .int .i64 0, .slice none 0 0, .slice none 0 0] 171))) := Lib.hid (Ext.alloc _ _)
  obtain ⟨g0, HG0⟩ : ∃ g0, Hid (w.heap.size = g0) := ⟨_, Lib.hid rfl⟩
  clear h hfine hcall hk hG hn h1
  go_enter Tryz.func147, Tryz.ntmps147
  go_wp2_with fail
  generalize w.alloc (.cells #[.int .u8 0, .int .i64 0, .string ⟨#[]⟩, .int .i64 0, .slice none 0 0, .slice none 0 0] 171) = w0 at *
  rw [HG0.out]
  rw [HG0.out] at HZ
  refine wp_scope_label 0 (ChainJ n ms part K first cap A kc w p B s R g0) (fun _ w => lenAt p w) rfl ?_ ?_
  · go_wp2_with fail
    refine (HC.out w0 s R (Moves.ext HX0.out) (HP.out.ext HX0.out) HG.out HN.out).mono ?_
    intro e w1 hpost
    cases hr : part s with
    | err er a =>
      rw [hr] at hpost
      obtain ⟨rfl, ho⟩ := hpost
      have HF : Hid (PostE w p B R (chainP ms part s) (panicV er) w1) := Lib.hid (by
        unfold chainP
        rw [hr]
        exact ErrP.trans (Moves.ext HX0.out) ⟨rfl, ho⟩)
      exact panics_post (P := Tryz.prog) (fn := Tryz.f147) rfl HF.out
    | ok x s1 =>
      rw [hr] at hpost hff
      obtain ⟨cs, R1, rfl, hp1, hm1, hx1⟩ := hpost
      obtain ⟨hg1, hl1, _, _⟩ := hff
      have HCH : Hid (chainP ms part s = chainL ms part (s1.ts.length + 1) x s1) := Lib.hid (by unfold chainP; rw [hr]; rfl)
      obtain ⟨A1, c1, f1, hcs, _⟩ := hx1.open
      have HX1 := Lib.hid hx1
      have HP1 := Lib.hid hp1
      have HM1 := Lib.hid hm1
      have HZ1 := Lib.hid (HZ.out.moves hm1)
      have HG1 := Lib.hid hg1
      have HL1 : Hid (s1.ts.length ≤ n) := Lib.hid (by have := HN.out; omega)
      have HCS := Lib.hid hcs
      have HFR := Lib.hid (hp1.fresh 171 cs.toArray)
      have HBD : Hid (w.heap.size ≤ w1.heap.size ∧ w.heap.size ≤ g0 ∧ w1.heap.size ≠ g0 ∧ B ≤ w.heap.size) := Lib.hid (by
        have h1 := HX0.out.size
        have h2 := hm1.size
        have h3 := HG0.out
        have h4 := HZ1.out.1.lt
        have h5 := HP.out.pB
        have h6 := HP.out.blk.lt
        omega)
      have HWK : Hid (∀ b, b < w1.heap.size → Or (MineP p R1) (ChX w w1.heap.size g0) b → Or (MineP p R1) (under w0) b) := Lib.hid fun b hb h => by
        rcases h with h | h | h | h
        · exact .inl h
        · exact .inr (Nat.lt_of_lt_of_le h HX0.out.size)
        · omega
        · subst h; exact .inr (HZ.out.1.lt)
      clear hr hx1 hp1 hm1 hg1 hl1
      subst hcs
      unfold ehead
      generalize x.parts.length = xm at *
      generalize HY : x.node = y at *
      obtain ⟨yk, yp, yt, yn, yks⟩ := y
      simp only
      go_wp2_with fail
      have HEXT : Hid (Ext w1 (w1.alloc (.cells (ehead ⟨yk, yp, yt, yn, yks⟩ A1 xm c1).toArray 171))) := Lib.hid (Ext.alloc _ _)
      exact ⟨w1.heap.size, s1, R1, x, ehead ⟨yk, yp, yt, yn, yks⟩ A1 xm c1, s1.ts.length + 1, _, _, _, _, _, _, _, _, _, _, _, _, _, _, _, _, _, _, _, _, _, _, _, _, _, _, _, _, _, _, _, _, rfl, Lib.hid (HP1.out.ext HEXT.out), Lib.hid (((Moves.ext HX0.out).trans HM1.out).trans (Moves.ext HEXT.out)), HG1, HL1, Lib.hid (Nat.lt_succ_self _), HCH, HFR, HBD, Lib.hid ((HX1.out.weaken HWK.out).moves ((Moves.ext HEXT.out).or _)), Lib.hid (HZ1.out.moves (Moves.ext HEXT.out))⟩
  · rintro a1 w1 ⟨g, s', R', x, cs, f, u10, u11, u12, u13, u14, u15, u16, u17, u18, u19, u20, u21, u22, u23, u24, u25, u26, u27, u28, u29, u30, u31, u32, u33, u34, u35, u36, u37, u38, u39, u40, u41, rfl, HP1, HM1, HG1, HN1, HF1, HCH, HGX, HBD, HEX, HZ1⟩
    obtain ⟨f', rfl⟩ : ∃ f', f = f' + 1 := ⟨f - 1, by have := HF1.out; omega⟩
    have hfl : (bstr (ms.map Prod.fst).flatten).size = ms.length := by rw [bstr_len]; exact (flat_one ms H1.out).1
    have HLA : Hid (lenAt p w1 = s'.ts.length) := Lib.hid HP1.out.lenAt
    rw [HLA.out]
    go_wp2_with fail
    go_loopw [17] (fun i' wr => ∃ (k : Nat), k ≤ ms.length ∧ i' = .int .i64 k ∧ Hid (∀ j (hj : j < ms.length), j < k → isP ms[j].1 s' = false) ∧ Hid (Ext w1 wr)) (fun i' _ => ms.length - (intOf i').toNat)
    case atStart => exact ⟨0, Nat.zero_le _, rfl, Lib.hid (fun j hj h => absurd h (by omega)), Lib.hid (Ext.refl _)⟩
    case round =>
      obtain ⟨k, hk, rfl, HNO, HXR⟩ := hrel
      obtain ⟨wa, rfl⟩ : ∃ wa : World, wa = wr := ⟨_, rfl⟩
      have HPA := Lib.hid (HP1.out.ext HXR.out)
      by_cases hlt : k < ms.length
      · have d0 : decide ((k : Int) < (ms.length : Int)) = true := decide_eq_true (by omega)
        have q1 : (k : Int) < (ms.length : Int) := by omega
        obtain ⟨b, off, rfl, hb, hcc⟩ := ((HK.out.moves HM1.out).moves (Moves.ext HXR.out)).cells.at_ (by simp; omega)
        have e0 : wa.cell? ⟨b, off + k, none⟩ = some (.int .u8 (ms[k].2 : Int)) := by rw [hcc k (by simpa using hlt)]; simp [hlt]
        have HE0 := Lib.hid e0
        have HFL : Hid ((bstr (ms.map Prod.fst).flatten).extract k (k + 1) = bstr ms[k].1) := Lib.hid (by rw [bstr_extract, show k + 1 - k = 1 by omega, (flat_one ms H1.out).2 k hlt])
        clear hcc
        cases hi : isP ms[k].1 s' with
        | false =>
          have HI := Lib.hid hi
          clear hi
          go_wp2_with fail
          rw [HFL.out]
          refine (pskip_no wa p B s' R' ms[k].1 HI HPA.out).mono ?_
          rintro e w2 ⟨rfl, hx2⟩
          have HX2 := Lib.hid (HXR.out.trans hx2)
          clear hx2
          go_wp2_with fail
          go_roundw
          case rel => exact ⟨k + 1, by omega, by go_num, Lib.hid (fun j hj hjk => by
            rcases Nat.lt_or_ge j k with h | h
            · exact HNO.out j hj h
            · obtain rfl : j = k := by omega
              exact HI.out), HX2⟩
          case measure => simp [intOf]; omega
        | true =>
          have HI := Lib.hid hi
          have HMK := Lib.hid (markM_some k hlt HNO.out hi)
          have HK4 := Lib.hid (isP_kind hi).1
          clear hi
          have HGA := Lib.hid (HG1.out.adv HK4.out)
          have HLN : Hid (s'.adv.ts.length < s'.ts.length) := Lib.hid (by
            have h1 := adv_len (s := s')
            have h2 := HG1.out.pos
            omega)
          have HNA : Hid (s'.adv.ts.length ≤ n) := Lib.hid (by have := HLN.out; have := HN1.out; omega)
          have HQ : Hid (chainP ms part s = (part s'.adv).bind fun r s => chainL ms part f' (.bin ms[k].2 x.pos x r) s) := Lib.hid (by rw [HCH.out, chainL_some HMK.out])
          go_wp2_with fail
          rw [HFL.out]
          refine (pskip_yes wa p B s' R' ms[k].1 HI HPA.out).mono ?_
          rintro e w2 ⟨rfl, R2, hp2, hm2⟩
          have HP2 := Lib.hid hp2
          have HM2 := Lib.hid (((HM1.out.trans (Moves.ext HXR.out))).trans hm2)
          have HT2 := Lib.hid ((Moves.ext (M := MineP p R') HXR.out).trans hm2)
          clear hp2 hm2
          go_wp2_with fail
          refine (HC.out w2 s'.adv R2 HM2.out HP2.out HGA.out HNA.out).mono ?_
          intro e w3 hpost
          have hff := HFI.out s'.adv HGA.out HNA.out
          cases hr : part s'.adv with
          | err er a =>
            rw [hr] at hpost
            obtain ⟨rfl, ho⟩ := hpost
            have HF : Hid (PostE w p B R (chainP ms part s) (panicV er) w3) := Lib.hid (by
              rw [HQ.out, hr]
              exact ErrP.trans HM2.out ⟨rfl, ho⟩)
            exact panics_post (P := Tryz.prog) (fn := Tryz.f147) rfl HF.out
          | ok r s3 =>
            rw [hr] at hpost hff
            obtain ⟨cs3, R3, rfl, hp3, hm3, hx3⟩ := hpost
            obtain ⟨hg3, hl3, _, _⟩ := hff
            have HBX3 := Lib.hid ((HGX.out.moves HT2.out).moves hm3)
            have HZ3 := Lib.hid ((HZ1.out.moves HT2.out).moves hm3)
            have HEX3 := Lib.hid ((HEX.out.moves (HT2.out.or _)).moves (hm3.or _))
            obtain ⟨A1, c1, f1, hcs, _⟩ := HEX3.out.open
            obtain ⟨A3, c3, f3, hcs3, _⟩ := hx3.open
            have HR3 : Hid (EX w3 (Or (MineP p R3) (ChX w g g0)) r cs3) := Lib.hid (hx3.weaken fun b hb h => by
              rcases h with h | h
              · exact .inl h
              · refine .inr ?_
                have h1 := HM2.out.size
                have h2 := (HGX.out.moves HT2.out).1.lt
                have h3 := (HZ1.out.moves HT2.out).1.lt
                unfold under
                rcases h with h | h | h
                · unfold under at h; omega
                · omega
                · omega)
            have HP3 := Lib.hid hp3
            have HM3 := Lib.hid (HM2.out.trans hm3)
            have HG3 := Lib.hid hg3
            have HL3 : Hid (s3.ts.length ≤ n ∧ s3.ts.length < s'.ts.length) := Lib.hid (by have := HNA.out; have := HLN.out; omega)
            have HQ3 : Hid (chainP ms part s = chainL ms part f' (.bin ms[k].2 x.pos x r) s3) := Lib.hid (by rw [HQ.out, hr]; rfl)
            have HCS := Lib.hid hcs
            have HCS3 := Lib.hid hcs3
            have hps := x.node_pos
            clear hr hp3 hm3 hx3 hg3 hl3
            subst hcs hcs3
            unfold ehead
            have ee0 := HBX3.out.1.cell 0
            have ee1 := HBX3.out.1.cell 1
            have ee2 := HBX3.out.1.cell 2
            have ee3 := HBX3.out.1.cell 3
            have ee4 := HBX3.out.1.cell 4
            have ee5 := HBX3.out.1.cell 5
            simp only [ehead, List.getElem?_toArray, List.getElem?_cons_zero, List.getElem?_cons_succ] at ee0 ee1 ee2 ee3 ee4 ee5
            have hgl := HBX3.out.1.lt
            rw [hps] at ee1
            clear hps
            generalize x.parts.length = xm at *
            generalize r.parts.length = rm at *
            generalize HY : x.node = y at *
            generalize HYR : r.node = yr at *
            obtain ⟨yk, yp, yt, yn, yks⟩ := y
            obtain ⟨rk, rp, rt, rn, rks⟩ := yr
            simp only at ee0 ee1 ee2 ee3 ee4 ee5 ⊢
            have HE45 : Hid (Ext w3 ((w3.alloc (.cells #[.int .u8 (rk : Int), .int .i64 (rp : Int), .string (bstr rt), .int .i64 rn, .slice none 0 0, .slice A3 rm c3] 171)).alloc (.cells #[.int .u8 (yk : Int), .int .i64 (x.pos : Int), .string (bstr yt), .int .i64 yn, .slice none 0 0, .slice A1 xm c1, .int .u8 (rk : Int), .int .i64 (rp : Int), .string (bstr rt), .int .i64 rn, .slice none 0 0, .slice A3 rm c3] 171))) := Lib.hid ((Ext.alloc _ _).trans (Ext.alloc _ _))
            have HGS := Lib.hid ((HP3.out.ext (Ext.alloc w3 (.cells #[.int .u8 (rk : Int), .int .i64 (rp : Int), .string (bstr rt), .int .i64 rn, .slice none 0 0, .slice A3 rm c3] 171))).fresh 171 #[.int .u8 (yk : Int), .int .i64 (x.pos : Int), .string (bstr yt), .int .i64 yn, .slice none 0 0, .slice A1 xm c1, .int .u8 (rk : Int), .int .i64 (rp : Int), .string (bstr rt), .int .i64 rn, .slice none 0 0, .slice A3 rm c3])
            have HSZ : Hid ((w3.alloc (.cells #[.int .u8 (rk : Int), .int .i64 (rp : Int), .string (bstr rt), .int .i64 rn, .slice none 0 0, .slice A3 rm c3] 171)).heap.size = w3.heap.size + 1) := Lib.hid (World.size_alloc _ _)
            rw [HSZ.out] at HGS
            go_wp2_with (refine wpList_put rfl 171 (.tmp 9) (.tmp 39) rfl g #[.int .u8 (ms[k].2 : Int), .int .i64 (x.pos : Int), .string ⟨#[]⟩, .int .i64 0, .slice none 0 0, .slice (some ⟨w3.heap.size + 1, 0, none⟩) 2 2] (by rfl) (by rfl) 171 _ (HBX3.out.1.ext HE45.out) (by kernel_rfl) rfl rfl ?_; intro w6 ht6 hb6)
            have hyp : yp = x.pos := by have := x.node_pos; rw [HY] at this; exact this
            have HY2 := Lib.hid hyp
            have HP6 := Lib.hid (ht6.ps (HP3.out.ext HE45.out) (Nat.le_trans HBD.out.2.2.2 HBD.out.1) HBX3.out.2)
            have HM6 := Lib.hid ((HM3.out.trans (Moves.ext HE45.out)).touch ht6 HBD.out.1)
            have HN6 : Hid (Moves w3 (Or (MineP p R3) (ChX w g g0)) w6 (Or (MineP p R3) (ChX w g g0))) := Lib.hid (((Moves.ext HE45.out).or _).trans (ht6.moves (.inr (.inr (.inl rfl)))))
            have HS6 : Hid (Safe w6 (Or (MineP p R3) (ChX w g g0)) (w3.heap.size + 1) 171 (ehead ⟨yk, yp, yt, yn, yks⟩ A1 xm c1 ++ ehead ⟨rk, rp, rt, rn, rks⟩ A3 rm c3).toArray) := Lib.hid (by
              have h1 := HBX3.out.1.lt
              have h2 := HZ3.out.1.lt
              have h3 := HM3.out.size
              have hs : Safe _ (Or (MineP p R3) (ChX w g g0)) (w3.heap.size + 1) 171 _ := ⟨HGS.out.1, fun h => by
                rcases h with h | h | h | h
                · exact HGS.out.2 h
                · unfold under at h; omega
                · omega
                · omega⟩
              rw [hyp]
              exact ht6.safe hs (by omega))
            have HZ6 := Lib.hid (ht6.safe (HZ3.out.moves (Moves.ext HE45.out)) (Ne.symm HBD.out.2.2.1))
            have HB6 := Lib.hid hb6
            have HX6 : Hid (EX w6 (Or (MineP p R3) (ChX w g g0)) (.bin ms[k].2 x.pos x r) (ehead ⟨ms[k].2, x.pos, [], 0, []⟩ (some ⟨w3.heap.size + 1, 0, none⟩) 2 2)) := Lib.hid ⟨_, _, _, rfl, HS6.out, HEX3.out.moves HN6.out, HR3.out.moves HN6.out⟩
            have HF6 : Hid (s3.ts.length < f') := Lib.hid (by have := HF1.out; have := HL3.out; omega)
            clear ht6 hb6 hyp
            apply wp_goto
            refine (show (0 = 0 ∧ ChainJ n ms part K first cap (some ⟨b, off, none⟩) kc w p B s R g0 _ w6 ∧ lenAt p w6 < s'.ts.length) from ⟨rfl, ⟨g, s3, R3, .bin ms[k].2 x.pos x r, ehead ⟨ms[k].2, x.pos, [], 0, []⟩ (some ⟨w3.heap.size + 1, 0, none⟩) 2 2, f', _, _, _, _, _, _, _, _, _, _, _, _, _, _, _, _, _, _, _, _, _, _, _, _, _, _, _, _, _, _, _, _, rfl, HP6, HM6, HG3, Lib.hid HL3.out.1, HF6, HQ3, Lib.hid ⟨HB6.out, HBX3.out.2⟩, HBD, HX6, HZ6⟩, by rw [HP6.out.lenAt]; exact HL3.out.2⟩)
      · obtain rfl : k = ms.length := by omega
        have d0 : decide ((ms.length : Int) < (ms.length : Int)) = false := by simp
        have d1 : decide (ms.length < ms.length) = false := by simp
        have HRES : Hid (chainP ms part s = .ok x s') := Lib.hid (by rw [HCH.out, chainL_none (markM_none fun m hm => by
          obtain ⟨j, hj, rfl⟩ := List.mem_iff_getElem.1 hm
          exact HNO.out j hj hj)])
        have HBA := Lib.hid (HGX.out.moves (Moves.ext HXR.out))
        have HZA := Lib.hid (HZ1.out.moves (Moves.ext HXR.out))
        have HXA := Lib.hid (HEX.out.moves ((Moves.ext HXR.out).or _))
        obtain ⟨A1, c1, f1, hcs, _⟩ := HXA.out.open
        have ee0 := HBA.out.1.cell 0
        have ee1 := HBA.out.1.cell 1
        have ee2 := HBA.out.1.cell 2
        have ee3 := HBA.out.1.cell 3
        have ee4 := HBA.out.1.cell 4
        have ee5 := HBA.out.1.cell 5
        subst hcs
        simp only [ehead, List.getElem?_toArray, List.getElem?_cons_zero, List.getElem?_cons_succ] at ee0 ee1 ee2 ee3 ee4 ee5
        generalize x.parts.length = xm at *
        generalize HY : x.node = y at *
        obtain ⟨yk, yp, yt, yn, yks⟩ := y
        simp only at ee0 ee1 ee2 ee3 ee4 ee5
        go_wp2_with (refine wpList_put rfl 171 (.tmp 8) (.tmp 41) rfl g0 #[.int .u8 (yk : Int), .int .i64 (yp : Int), .string (bstr yt), .int .i64 yn, .slice none 0 0, .slice A1 xm c1] (by rfl) (by rfl) 171 _ HZA.out.1 (by kernel_rfl) rfl rfl ?_; intro w6 ht6 hb6)
        have HN6 : Hid (Moves wa (Or (MineP p R') (ChX w g g0)) w6 (Or (MineP p R') (ChX w g g0))) := Lib.hid (ht6.moves (.inr (.inr (.inr rfl))))
        have HF6 : Hid (PostE w p B R (chainP ms part s) (.returned (.agg (ehead ⟨yk, yp, yt, yn, yks⟩ A1 xm c1).toArray)) w6) := Lib.hid (by
          rw [HRES.out]
          exact ⟨_, R', rfl, ht6.ps HPA.out (Nat.le_trans HBD.out.2.2.2 HBD.out.2.1) HZA.out.2, (HM1.out.trans (Moves.ext HXR.out)).touch ht6 HBD.out.2.1, (HXA.out.moves HN6.out).weaken (fun b hb h => by
            rcases h with h | h
            · exact .inl h
            · exact .inr (.inl h))⟩)
        have HB6 := Lib.hid hb6
        clear ht6 hb6
        go_wp2_with fail
        exact ret_row g0 171 _ _ Tryz.results147 rfl rfl HB6.out Tryz.underlying171 rfl (by kernel_rfl) HF6.out
end Go.Proofs.YtcccnicldbpieaaGreatDoor
