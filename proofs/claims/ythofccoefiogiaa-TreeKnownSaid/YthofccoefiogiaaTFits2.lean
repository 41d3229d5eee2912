/- (form).fits, walked. -/
import Derived.Test.YthofccoefiogiaaTF0
import Derived.Laws.EntriesVeiled
import Derived.WalkLawsBesides
namespace Go.Proofs.Ythofccoefiogiaa
open Go Go.RowKit
set_option linter.unusedVariables false
set_option linter.unusedSimpArgs false
theorem kid_nil_nil (w : World) : (binOp .eql 147 .nilFunc .nilFunc).run Try.prog w = .ok (.bool true) w := by kernel_rfl
theorem kid_func_nil (w : World) (f : Fn) (b lb : Array Value) : (binOp .eql 147 (.func f b lb) .nilFunc).run Try.prog w = .ok (.bool false) w := by kernel_rfl
def bcells (l : List Int) : List Value := l.map (Value.int .u8)
theorem bcells_len (l : List Int) : (bcells l).length = l.length := by simp [bcells]
theorem bcells_at (l : List Int) (k : Nat) (h : k < l.length) : (bcells l)[k]? = some (.int .u8 l[k]) := by simp [bcells, h]
theorem bytes_at {w : World} {A : Option Addr} {l : List Int} (h : Cells w A (bcells l)) (k : Nat) (hk : k < l.length) : ∃ b off, A = some ⟨b, off, none⟩ ∧ b < w.heap.size ∧ w.cell? ⟨b, off + k, none⟩ = some (.int .u8 l[k]) := by
  obtain ⟨b, off, hA, hb, hcc⟩ := h.at_ (by rw [bcells_len]; omega)
  exact ⟨b, off, hA, hb, (hcc k (by rw [bcells_len]; exact hk)).trans (bcells_at l k hk)⟩
theorem KidsV.open_ {w : World} {ps : List PredD} {v : Value} (h : KidsV w ps v) : ∃ A c, v = .slice A ps.length c ∧ ∀ i (hi : i < ps.length), ∃ g u, A = some ⟨g, 0, none⟩ ∧ w.cell? ⟨g, i, none⟩ = some u ∧ KidV w ps[i] u := by
  rcases h with ⟨h1, h2⟩ | ⟨g, vs, h1, h2, h3⟩
  · subst h1; exact ⟨none, 0, h2, fun i hi => by simp at hi⟩
  · refine ⟨_, _, h1, fun i hi => ?_⟩
    obtain ⟨u, hu, hk⟩ := h3.get i hi
    exact ⟨g, u, rfl, by rw [h2.cell]; simpa using hu, hk⟩
theorem hu' {w wa : World} {g i : Nat} {u : Value} (h : w.cell? ⟨g, i, none⟩ = some u) (hx : Ext w wa) : wa.cell? ⟨g, i, none⟩ = some u := (hx.cell (World.block_lt_of_cell? w _ h)).trans h
theorem fits_yes {f : FormD} {ls : List Int} (h1 : ¬ ls.length < f.kids.length) (h2 : ¬ (f.kids.length < ls.length ∧ f.more.isNone = true)) (h : ∀ j, j < ls.length → wantOk (f.want j) (ls.getD j 0) = true) : f.fits ls = true := by
  unfold FormD.fits
  rw [if_neg (fun hh => hh.elim h1 h2), List.all_eq_true]
  intro j hj
  exact h j (by simpa using hj)
theorem fits_no {f : FormD} {ls : List Int} (j : Nat) (hj : j < ls.length) (h : wantOk (f.want j) (ls.getD j 0) = false) : f.fits ls = false := by
  unfold FormD.fits
  split
  · rfl
  · rw [Bool.eq_false_iff]
    intro hh
    rw [List.all_eq_true] at hh
    have := hh j (by simpa using hj)
    rw [h] at this
    cases this
theorem fits_short {f : FormD} {ls : List Int} (h : ls.length < f.kids.length) : f.fits ls = false := by unfold FormD.fits; rw [if_pos (.inl h)]
theorem fits_long {f : FormD} {ls : List Int} (h : f.kids.length < ls.length) (hn : f.more = none) : f.fits ls = false := by unfold FormD.fits; rw [if_pos (.inr ⟨h, by rw [hn]; rfl⟩)]
set_option maxRecDepth 100000 in
set_option maxHeartbeats 8000000 in
theorem ffits_any (f : FormD) (cs : List Value) (L : Option Addr) (ls : List Int) (n lc : Nat) (w : World) (hn : n = ls.length) (hf : FormV w f cs) (hl : Cells w L (bcells ls)) (hlen : ls.length ≤ 1000) :
    Calls Try.prog 101 #[.agg (Array.mk cs), .slice L n lc] w fun e w' => e = .returned (.bool (f.fits ls)) ∧ Ext w w' := by
  subst hn
  obtain ⟨ks, mv, rfl, hks, hmv⟩ := hf
  obtain ⟨KA, kc, rfl, hkid⟩ := hks.open_
  have HKID := Lib.hid hkid
  have HL := Lib.hid hl
  have HMV := Lib.hid hmv
  clear hkid hl hks hmv
  obtain ⟨kn, HKN⟩ : ∃ kn, Hid (f.kids.length = kn) := ⟨_, Lib.hid rfl⟩
  rw [HKN.out]
  by_cases h1 : ls.length < kn
  · have HR : Hid (f.fits ls = false) := Lib.hid (fits_short (by rw [HKN.out]; exact h1))
    have d1 : decide ((ls.length : Int) < (kn : Int)) = true := decide_eq_true (by omega)
    go_enter Try.func101, Try.ntmps101
    go_wp2_with fail
    go_ret
    exact ⟨ret_b HR.out.symm, (by show Below w.heap.size w _; go_grown)⟩
  · have d1 : decide ((ls.length : Int) < (kn : Int)) = false := decide_eq_false (by omega)
    by_cases hlong : kn < ls.length ∧ f.more = none
    · have HR : Hid (f.fits ls = false) := Lib.hid (fits_long (by rw [HKN.out]; exact hlong.1) hlong.2)
      have hm := HMV.out
      rw [hlong.2] at hm
      have hm' : mv = .nilFunc := hm
      subst hm'
      have hkl : kn < ls.length := hlong.1
      have hkg : ls.length > kn := hlong.1
      have d2 : decide ((kn : Int) < (ls.length : Int)) = true := decide_eq_true (by omega)
      clear hm hlong
      have q1 := kid_nil_nil
      go_enter Try.func101, Try.ntmps101
      go_wp2_with fail
      go_ret
      exact ⟨ret_b HR.out.symm, (by show Below w.heap.size w _; go_grown)⟩
    · have hshort : ¬ ls.length < f.kids.length := by rw [HKN.out]; exact h1
      have hnl : ¬ (f.kids.length < ls.length ∧ f.more.isNone = true) := by
        rintro ⟨ha, hb⟩
        rw [HKN.out] at ha
        exact hlong ⟨ha, by simpa using hb⟩
      have HYES : Hid ((∀ j, j < ls.length → wantOk (f.want j) (ls.getD j 0) = true) → f.fits ls = true) := Lib.hid (fits_yes hshort hnl)
      have HB : Hid (∀ i, kn ≤ i → i < ls.length → ∃ p, f.more = some p) := Lib.hid (by
        intro i h2 h3
        cases hm : f.more with
        | none => exact absurd ⟨by omega, hm⟩ hlong
        | some p => exact ⟨p, rfl⟩)
      have HW : Hid (∀ i, f.want i = if i < kn then f.kids[i]? else f.more) := Lib.hid (by intro i; unfold FormD.want; rw [HKN.out])
      have q1 := kid_nil_nil
      have q2 := kid_func_nil
      have hmf : (mv = .nilFunc ∧ (kn < ls.length → False)) ∨ ∃ fm lm, mv = .func (.func fm) #[] lm := by
        have hm := HMV.out
        cases hmm : f.more with
        | none => rw [hmm] at hm; exact .inl ⟨hm, fun h => hlong ⟨h, hmm⟩⟩
        | some p => rw [hmm] at hm; obtain ⟨fm, lm, h3, _⟩ := KidV.form hm; exact .inr ⟨fm, lm, h3⟩
      clear hshort hnl hlong
      have hcase : (kn < ls.length ∧ ∃ fm lm, mv = .func (.func fm) #[] lm) ∨ (ls.length = kn ∧ (mv = .nilFunc ∨ ∃ fm lm, mv = .func (.func fm) #[] lm)) := by
        rcases hmf with ⟨h2, h3⟩ | h2
        · exact .inr ⟨by rcases Nat.lt_or_ge kn ls.length with h | h; exact (h3 h).elim; omega, .inl h2⟩
        · rcases Nat.lt_or_ge kn ls.length with h | h
          · exact .inl ⟨h, h2⟩
          · exact .inr ⟨by omega, .inr h2⟩
      clear hmf h1
      rcases hcase with ⟨hkl, fm, lm, rfl⟩ | ⟨hkl, rfl | ⟨fm, lm, rfl⟩⟩
      · have hkge : ¬ ls.length < kn := by omega
        have d2 : decide ((kn : Int) < (ls.length : Int)) = true := decide_eq_true (by omega)
        go_enter Try.func101, Try.ntmps101
        go_wp2_with fail
        have hbx := Blk.new w 149 #[.slice KA kn kc, .func (.func fm) #[] lm, .bool f.named, .int .i64 f.most]
        have hxa := Ext.alloc w (.cells #[.slice KA kn kc, .func (.func fm) #[] lm, .bool f.named, .int .i64 f.most] 149)
        generalize w.alloc (.cells #[.slice KA kn kc, .func (.func fm) #[] lm, .bool f.named, .int .i64 f.most] 149) = wa at *
        generalize w.heap.size = ga at *
        have x0 := hbx.cell 0
        have x1 := hbx.cell 1
        have HX := Lib.hid hxa
        have HMVA : Hid (MoreV wa f.more (.func (.func fm) #[] lm)) := Lib.hid (HMV.out.kept (Kept.of_ext hxa))
        have HLA := Lib.hid (HL.out.ext hxa)
        clear hbx hxa HL HMV
        go_loop [29] (fun i => ∃ k : Nat, k ≤ ls.length ∧ i = .int .i64 k ∧ Hid (∀ j, j < k → wantOk (f.want j) (ls.getD j 0) = true)) (fun i => ls.length - (intOf i).toNat)
        case atStart => exact ⟨0, Nat.zero_le _, rfl, Lib.hid fun j hj => by omega⟩
        case round =>
          obtain ⟨k, hk, rfl, HR⟩ := hrel
          by_cases hlt : k < ls.length
          · have d0 : decide ((k : Int) < (ls.length : Int)) = true := decide_eq_true (by omega)
            obtain ⟨b, off, rfl, hb, hcl⟩ := bytes_at HLA.out k hlt
            have HG : Hid (ls.getD k 0 = ls[k]) := Lib.hid (by rw [List.getD_eq_getElem?_getD, List.getElem?_eq_getElem hlt]; rfl)
            generalize ls[k] = c at *
            by_cases hkk : k < kn
            · have d3 : decide ((k : Int) < (kn : Int)) = true := decide_eq_true (by omega)
              obtain ⟨g, u, rfl, hu, hkv⟩ := HKID.out k (by rw [HKN.out]; exact hkk)
              have hu' : wa.cell? ⟨g, k, none⟩ = some u := hu' hu HX.out
              have HKV := Lib.hid (hkv.ext HX.out)
              have HWK : Hid (wantOk (f.want k) (ls.getD k 0) = (f.kids[k]'(by rw [HKN.out]; exact hkk)).holds c) := Lib.hid (by rw [HW.out, if_pos hkk, List.getElem?_eq_getElem (by rw [HKN.out]; exact hkk), HG.out]; rfl)
              clear hu hkv
              generalize (f.kids[k]'(by rw [HKN.out]; exact hkk)) = p at *
              cases p with
              | just j =>
                obtain ⟨gj, rfl, hgj⟩ := HKV.out
                have HGJ := Lib.hid hgj
                clear hgj
                cases hh : (PredD.just j).holds c with
                | true =>
                  have HH := Lib.hid hh
                  clear hh
                  go_wp2_with (refine (just1_any c j gj _ HGJ.out).mono ?_; rintro e w' ⟨rfl, rfl⟩; simp only [show (c == j) = true from HH.out])
                  go_round
                  case rel => exact ⟨k + 1, by omega, by go_num, Lib.hid fun j hj => by
                    by_cases hjk : j = k
                    · subst hjk; rw [HWK.out]; exact HH.out
                    · exact HR.out j (by omega)⟩
                  case measure => simp [intOf]; omega
                | false =>
                  have HH := Lib.hid hh
                  have HNO : Hid (f.fits ls = false) := Lib.hid (fits_no k hlt (by rw [HWK.out]; exact hh))
                  clear hh
                  go_wp2_with (refine (just1_any c j gj _ HGJ.out).mono ?_; rintro e w' ⟨rfl, rfl⟩; simp only [show (c == j) = false from HH.out])
                  go_ret
                  exact ⟨ret_b HNO.out.symm, HX.out⟩
              | expr =>
                have he := HKV.out
                cases he
                cases hh : (PredD.expr).holds c with
                | true =>
                  have HH := Lib.hid hh
                  clear hh
                  go_wp2_with (refine (expr_any c _).mono ?_; rintro e w' ⟨rfl, rfl⟩; simp only [show exprB c = true from HH.out])
                  go_round
                  case rel => exact ⟨k + 1, by omega, by go_num, Lib.hid fun j hj => by
                    by_cases hjk : j = k
                    · subst hjk; rw [HWK.out]; exact HH.out
                    · exact HR.out j (by omega)⟩
                  case measure => simp [intOf]; omega
                | false =>
                  have HH := Lib.hid hh
                  have HNO : Hid (f.fits ls = false) := Lib.hid (fits_no k hlt (by rw [HWK.out]; exact hh))
                  clear hh
                  go_wp2_with (refine (expr_any c _).mono ?_; rintro e w' ⟨rfl, rfl⟩; simp only [show exprB c = false from HH.out])
                  go_ret
                  exact ⟨ret_b HNO.out.symm, HX.out⟩
              | stmt =>
                have he := HKV.out
                cases he
                cases hh : (PredD.stmt).holds c with
                | true =>
                  have HH := Lib.hid hh
                  clear hh
                  go_wp2_with (refine (stmt_any c _).mono ?_; rintro e w' ⟨rfl, rfl⟩; simp only [show stmtB c = true from HH.out])
                  go_round
                  case rel => exact ⟨k + 1, by omega, by go_num, Lib.hid fun j hj => by
                    by_cases hjk : j = k
                    · subst hjk; rw [HWK.out]; exact HH.out
                    · exact HR.out j (by omega)⟩
                  case measure => simp [intOf]; omega
                | false =>
                  have HH := Lib.hid hh
                  have HNO : Hid (f.fits ls = false) := Lib.hid (fits_no k hlt (by rw [HWK.out]; exact hh))
                  clear hh
                  go_wp2_with (refine (stmt_any c _).mono ?_; rintro e w' ⟨rfl, rfl⟩; simp only [show stmtB c = false from HH.out])
                  go_ret
                  exact ⟨ret_b HNO.out.symm, HX.out⟩
              | part =>
                have he := HKV.out
                cases he
                cases hh : (PredD.part).holds c with
                | true =>
                  have HH := Lib.hid hh
                  clear hh
                  go_wp2_with (refine (part_any c _).mono ?_; rintro e w' ⟨rfl, rfl⟩; simp only [show partB c = true from HH.out])
                  go_round
                  case rel => exact ⟨k + 1, by omega, by go_num, Lib.hid fun j hj => by
                    by_cases hjk : j = k
                    · subst hjk; rw [HWK.out]; exact HH.out
                    · exact HR.out j (by omega)⟩
                  case measure => simp [intOf]; omega
                | false =>
                  have HH := Lib.hid hh
                  have HNO : Hid (f.fits ls = false) := Lib.hid (fits_no k hlt (by rw [HWK.out]; exact hh))
                  clear hh
                  go_wp2_with (refine (part_any c _).mono ?_; rintro e w' ⟨rfl, rfl⟩; simp only [show partB c = false from HH.out])
                  go_ret
                  exact ⟨ret_b HNO.out.symm, HX.out⟩
            · have d3 : decide ((k : Int) < (kn : Int)) = false := decide_eq_false (by omega)
              obtain ⟨p, hp⟩ := HB.out k (by omega) hlt
              have HMP : Hid (KidV wa p (.func (.func fm) #[] lm)) := Lib.hid (by have h := HMVA.out; rw [hp] at h; exact h)
              have HWK : Hid (wantOk (f.want k) (ls.getD k 0) = p.holds c) := Lib.hid (by rw [HW.out, if_neg hkk, hp, HG.out]; rfl)
              clear hp
              cases p with
              | just j =>
                obtain ⟨gj, hfm, hgj⟩ := HMP.out
                injection hfm with hfm _ hlm
                injection hfm with hfm
                subst hfm hlm
                have HGJ := Lib.hid hgj
                clear hgj
                cases hh : (PredD.just j).holds c with
                | true =>
                  have HH := Lib.hid hh
                  clear hh
                  go_wp2_with (refine (just1_any c j gj _ HGJ.out).mono ?_; rintro e w' ⟨rfl, rfl⟩; simp only [show (c == j) = true from HH.out])
                  go_round
                  case rel => exact ⟨k + 1, by omega, by go_num, Lib.hid fun j hj => by
                    by_cases hjk : j = k
                    · subst hjk; rw [HWK.out]; exact HH.out
                    · exact HR.out j (by omega)⟩
                  case measure => simp [intOf]; omega
                | false =>
                  have HH := Lib.hid hh
                  have HNO : Hid (f.fits ls = false) := Lib.hid (fits_no k hlt (by rw [HWK.out]; exact hh))
                  clear hh
                  go_wp2_with (refine (just1_any c j gj _ HGJ.out).mono ?_; rintro e w' ⟨rfl, rfl⟩; simp only [show (c == j) = false from HH.out])
                  go_ret
                  exact ⟨ret_b HNO.out.symm, HX.out⟩
              | expr =>
                have hfm := HMP.out
                injection hfm with hfm _ hlm
                injection hfm with hfm
                subst hfm hlm
                cases hh : (PredD.expr).holds c with
                | true =>
                  have HH := Lib.hid hh
                  clear hh
                  go_wp2_with (refine (expr_any c _).mono ?_; rintro e w' ⟨rfl, rfl⟩; simp only [show exprB c = true from HH.out])
                  go_round
                  case rel => exact ⟨k + 1, by omega, by go_num, Lib.hid fun j hj => by
                    by_cases hjk : j = k
                    · subst hjk; rw [HWK.out]; exact HH.out
                    · exact HR.out j (by omega)⟩
                  case measure => simp [intOf]; omega
                | false =>
                  have HH := Lib.hid hh
                  have HNO : Hid (f.fits ls = false) := Lib.hid (fits_no k hlt (by rw [HWK.out]; exact hh))
                  clear hh
                  go_wp2_with (refine (expr_any c _).mono ?_; rintro e w' ⟨rfl, rfl⟩; simp only [show exprB c = false from HH.out])
                  go_ret
                  exact ⟨ret_b HNO.out.symm, HX.out⟩
              | stmt =>
                have hfm := HMP.out
                injection hfm with hfm _ hlm
                injection hfm with hfm
                subst hfm hlm
                cases hh : (PredD.stmt).holds c with
                | true =>
                  have HH := Lib.hid hh
                  clear hh
                  go_wp2_with (refine (stmt_any c _).mono ?_; rintro e w' ⟨rfl, rfl⟩; simp only [show stmtB c = true from HH.out])
                  go_round
                  case rel => exact ⟨k + 1, by omega, by go_num, Lib.hid fun j hj => by
                    by_cases hjk : j = k
                    · subst hjk; rw [HWK.out]; exact HH.out
                    · exact HR.out j (by omega)⟩
                  case measure => simp [intOf]; omega
                | false =>
                  have HH := Lib.hid hh
                  have HNO : Hid (f.fits ls = false) := Lib.hid (fits_no k hlt (by rw [HWK.out]; exact hh))
                  clear hh
                  go_wp2_with (refine (stmt_any c _).mono ?_; rintro e w' ⟨rfl, rfl⟩; simp only [show stmtB c = false from HH.out])
                  go_ret
                  exact ⟨ret_b HNO.out.symm, HX.out⟩
              | part =>
                have hfm := HMP.out
                injection hfm with hfm _ hlm
                injection hfm with hfm
                subst hfm hlm
                cases hh : (PredD.part).holds c with
                | true =>
                  have HH := Lib.hid hh
                  clear hh
                  go_wp2_with (refine (part_any c _).mono ?_; rintro e w' ⟨rfl, rfl⟩; simp only [show partB c = true from HH.out])
                  go_round
                  case rel => exact ⟨k + 1, by omega, by go_num, Lib.hid fun j hj => by
                    by_cases hjk : j = k
                    · subst hjk; rw [HWK.out]; exact HH.out
                    · exact HR.out j (by omega)⟩
                  case measure => simp [intOf]; omega
                | false =>
                  have HH := Lib.hid hh
                  have HNO : Hid (f.fits ls = false) := Lib.hid (fits_no k hlt (by rw [HWK.out]; exact hh))
                  clear hh
                  go_wp2_with (refine (part_any c _).mono ?_; rintro e w' ⟨rfl, rfl⟩; simp only [show partB c = false from HH.out])
                  go_ret
                  exact ⟨ret_b HNO.out.symm, HX.out⟩
          · obtain rfl : k = ls.length := by omega
            have d0 : decide ((ls.length : Int) < (ls.length : Int)) = false := by simp
            go_wp2_with fail
            go_ret
            exact ⟨ret_b (HYES.out HR.out).symm, HX.out⟩
      · have hkge : ¬ ls.length < kn := by omega
        have hkge2 : ¬ kn < ls.length := by omega
        have d2 : decide ((kn : Int) < (ls.length : Int)) = false := decide_eq_false (by omega)
        go_enter Try.func101, Try.ntmps101
        go_wp2_with fail
        have hbx := Blk.new w 149 #[.slice KA kn kc, .nilFunc, .bool f.named, .int .i64 f.most]
        have hxa := Ext.alloc w (.cells #[.slice KA kn kc, .nilFunc, .bool f.named, .int .i64 f.most] 149)
        generalize w.alloc (.cells #[.slice KA kn kc, .nilFunc, .bool f.named, .int .i64 f.most] 149) = wa at *
        generalize w.heap.size = ga at *
        have x0 := hbx.cell 0
        have x1 := hbx.cell 1
        have HX := Lib.hid hxa
        have HMVA : Hid (MoreV wa f.more (.nilFunc)) := Lib.hid (HMV.out.kept (Kept.of_ext hxa))
        have HLA := Lib.hid (HL.out.ext hxa)
        clear hbx hxa HL HMV
        go_loop [29] (fun i => ∃ k : Nat, k ≤ ls.length ∧ i = .int .i64 k ∧ Hid (∀ j, j < k → wantOk (f.want j) (ls.getD j 0) = true)) (fun i => ls.length - (intOf i).toNat)
        case atStart => exact ⟨0, Nat.zero_le _, rfl, Lib.hid fun j hj => by omega⟩
        case round =>
          obtain ⟨k, hk, rfl, HR⟩ := hrel
          by_cases hlt : k < ls.length
          · have d0 : decide ((k : Int) < (ls.length : Int)) = true := decide_eq_true (by omega)
            obtain ⟨b, off, rfl, hb, hcl⟩ := bytes_at HLA.out k hlt
            have HG : Hid (ls.getD k 0 = ls[k]) := Lib.hid (by rw [List.getD_eq_getElem?_getD, List.getElem?_eq_getElem hlt]; rfl)
            generalize ls[k] = c at *
            by_cases hkk : k < kn
            · have d3 : decide ((k : Int) < (kn : Int)) = true := decide_eq_true (by omega)
              obtain ⟨g, u, rfl, hu, hkv⟩ := HKID.out k (by rw [HKN.out]; exact hkk)
              have hu' : wa.cell? ⟨g, k, none⟩ = some u := hu' hu HX.out
              have HKV := Lib.hid (hkv.ext HX.out)
              have HWK : Hid (wantOk (f.want k) (ls.getD k 0) = (f.kids[k]'(by rw [HKN.out]; exact hkk)).holds c) := Lib.hid (by rw [HW.out, if_pos hkk, List.getElem?_eq_getElem (by rw [HKN.out]; exact hkk), HG.out]; rfl)
              clear hu hkv
              generalize (f.kids[k]'(by rw [HKN.out]; exact hkk)) = p at *
              cases p with
              | just j =>
                obtain ⟨gj, rfl, hgj⟩ := HKV.out
                have HGJ := Lib.hid hgj
                clear hgj
                cases hh : (PredD.just j).holds c with
                | true =>
                  have HH := Lib.hid hh
                  clear hh
                  go_wp2_with (refine (just1_any c j gj _ HGJ.out).mono ?_; rintro e w' ⟨rfl, rfl⟩; simp only [show (c == j) = true from HH.out])
                  go_round
                  case rel => exact ⟨k + 1, by omega, by go_num, Lib.hid fun j hj => by
                    by_cases hjk : j = k
                    · subst hjk; rw [HWK.out]; exact HH.out
                    · exact HR.out j (by omega)⟩
                  case measure => simp [intOf]; omega
                | false =>
                  have HH := Lib.hid hh
                  have HNO : Hid (f.fits ls = false) := Lib.hid (fits_no k hlt (by rw [HWK.out]; exact hh))
                  clear hh
                  go_wp2_with (refine (just1_any c j gj _ HGJ.out).mono ?_; rintro e w' ⟨rfl, rfl⟩; simp only [show (c == j) = false from HH.out])
                  go_ret
                  exact ⟨ret_b HNO.out.symm, HX.out⟩
              | expr =>
                have he := HKV.out
                cases he
                cases hh : (PredD.expr).holds c with
                | true =>
                  have HH := Lib.hid hh
                  clear hh
                  go_wp2_with (refine (expr_any c _).mono ?_; rintro e w' ⟨rfl, rfl⟩; simp only [show exprB c = true from HH.out])
                  go_round
                  case rel => exact ⟨k + 1, by omega, by go_num, Lib.hid fun j hj => by
                    by_cases hjk : j = k
                    · subst hjk; rw [HWK.out]; exact HH.out
                    · exact HR.out j (by omega)⟩
                  case measure => simp [intOf]; omega
                | false =>
                  have HH := Lib.hid hh
                  have HNO : Hid (f.fits ls = false) := Lib.hid (fits_no k hlt (by rw [HWK.out]; exact hh))
                  clear hh
                  go_wp2_with (refine (expr_any c _).mono ?_; rintro e w' ⟨rfl, rfl⟩; simp only [show exprB c = false from HH.out])
                  go_ret
                  exact ⟨ret_b HNO.out.symm, HX.out⟩
              | stmt =>
                have he := HKV.out
                cases he
                cases hh : (PredD.stmt).holds c with
                | true =>
                  have HH := Lib.hid hh
                  clear hh
                  go_wp2_with (refine (stmt_any c _).mono ?_; rintro e w' ⟨rfl, rfl⟩; simp only [show stmtB c = true from HH.out])
                  go_round
                  case rel => exact ⟨k + 1, by omega, by go_num, Lib.hid fun j hj => by
                    by_cases hjk : j = k
                    · subst hjk; rw [HWK.out]; exact HH.out
                    · exact HR.out j (by omega)⟩
                  case measure => simp [intOf]; omega
                | false =>
                  have HH := Lib.hid hh
                  have HNO : Hid (f.fits ls = false) := Lib.hid (fits_no k hlt (by rw [HWK.out]; exact hh))
                  clear hh
                  go_wp2_with (refine (stmt_any c _).mono ?_; rintro e w' ⟨rfl, rfl⟩; simp only [show stmtB c = false from HH.out])
                  go_ret
                  exact ⟨ret_b HNO.out.symm, HX.out⟩
              | part =>
                have he := HKV.out
                cases he
                cases hh : (PredD.part).holds c with
                | true =>
                  have HH := Lib.hid hh
                  clear hh
                  go_wp2_with (refine (part_any c _).mono ?_; rintro e w' ⟨rfl, rfl⟩; simp only [show partB c = true from HH.out])
                  go_round
                  case rel => exact ⟨k + 1, by omega, by go_num, Lib.hid fun j hj => by
                    by_cases hjk : j = k
                    · subst hjk; rw [HWK.out]; exact HH.out
                    · exact HR.out j (by omega)⟩
                  case measure => simp [intOf]; omega
                | false =>
                  have HH := Lib.hid hh
                  have HNO : Hid (f.fits ls = false) := Lib.hid (fits_no k hlt (by rw [HWK.out]; exact hh))
                  clear hh
                  go_wp2_with (refine (part_any c _).mono ?_; rintro e w' ⟨rfl, rfl⟩; simp only [show partB c = false from HH.out])
                  go_ret
                  exact ⟨ret_b HNO.out.symm, HX.out⟩
            · omega
          · obtain rfl : k = ls.length := by omega
            have d0 : decide ((ls.length : Int) < (ls.length : Int)) = false := by simp
            go_wp2_with fail
            go_ret
            exact ⟨ret_b (HYES.out HR.out).symm, HX.out⟩
      · have hkge : ¬ ls.length < kn := by omega
        have hkge2 : ¬ kn < ls.length := by omega
        have d2 : decide ((kn : Int) < (ls.length : Int)) = false := decide_eq_false (by omega)
        go_enter Try.func101, Try.ntmps101
        go_wp2_with fail
        have hbx := Blk.new w 149 #[.slice KA kn kc, .func (.func fm) #[] lm, .bool f.named, .int .i64 f.most]
        have hxa := Ext.alloc w (.cells #[.slice KA kn kc, .func (.func fm) #[] lm, .bool f.named, .int .i64 f.most] 149)
        generalize w.alloc (.cells #[.slice KA kn kc, .func (.func fm) #[] lm, .bool f.named, .int .i64 f.most] 149) = wa at *
        generalize w.heap.size = ga at *
        have x0 := hbx.cell 0
        have x1 := hbx.cell 1
        have HX := Lib.hid hxa
        have HMVA : Hid (MoreV wa f.more (.func (.func fm) #[] lm)) := Lib.hid (HMV.out.kept (Kept.of_ext hxa))
        have HLA := Lib.hid (HL.out.ext hxa)
        clear hbx hxa HL HMV
        go_loop [29] (fun i => ∃ k : Nat, k ≤ ls.length ∧ i = .int .i64 k ∧ Hid (∀ j, j < k → wantOk (f.want j) (ls.getD j 0) = true)) (fun i => ls.length - (intOf i).toNat)
        case atStart => exact ⟨0, Nat.zero_le _, rfl, Lib.hid fun j hj => by omega⟩
        case round =>
          obtain ⟨k, hk, rfl, HR⟩ := hrel
          by_cases hlt : k < ls.length
          · have d0 : decide ((k : Int) < (ls.length : Int)) = true := decide_eq_true (by omega)
            obtain ⟨b, off, rfl, hb, hcl⟩ := bytes_at HLA.out k hlt
            have HG : Hid (ls.getD k 0 = ls[k]) := Lib.hid (by rw [List.getD_eq_getElem?_getD, List.getElem?_eq_getElem hlt]; rfl)
            generalize ls[k] = c at *
            by_cases hkk : k < kn
            · have d3 : decide ((k : Int) < (kn : Int)) = true := decide_eq_true (by omega)
              obtain ⟨g, u, rfl, hu, hkv⟩ := HKID.out k (by rw [HKN.out]; exact hkk)
              have hu' : wa.cell? ⟨g, k, none⟩ = some u := hu' hu HX.out
              have HKV := Lib.hid (hkv.ext HX.out)
              have HWK : Hid (wantOk (f.want k) (ls.getD k 0) = (f.kids[k]'(by rw [HKN.out]; exact hkk)).holds c) := Lib.hid (by rw [HW.out, if_pos hkk, List.getElem?_eq_getElem (by rw [HKN.out]; exact hkk), HG.out]; rfl)
              clear hu hkv
              generalize (f.kids[k]'(by rw [HKN.out]; exact hkk)) = p at *
              cases p with
              | just j =>
                obtain ⟨gj, rfl, hgj⟩ := HKV.out
                have HGJ := Lib.hid hgj
                clear hgj
                cases hh : (PredD.just j).holds c with
                | true =>
                  have HH := Lib.hid hh
                  clear hh
                  go_wp2_with (refine (just1_any c j gj _ HGJ.out).mono ?_; rintro e w' ⟨rfl, rfl⟩; simp only [show (c == j) = true from HH.out])
                  go_round
                  case rel => exact ⟨k + 1, by omega, by go_num, Lib.hid fun j hj => by
                    by_cases hjk : j = k
                    · subst hjk; rw [HWK.out]; exact HH.out
                    · exact HR.out j (by omega)⟩
                  case measure => simp [intOf]; omega
                | false =>
                  have HH := Lib.hid hh
                  have HNO : Hid (f.fits ls = false) := Lib.hid (fits_no k hlt (by rw [HWK.out]; exact hh))
                  clear hh
                  go_wp2_with (refine (just1_any c j gj _ HGJ.out).mono ?_; rintro e w' ⟨rfl, rfl⟩; simp only [show (c == j) = false from HH.out])
                  go_ret
                  exact ⟨ret_b HNO.out.symm, HX.out⟩
              | expr =>
                have he := HKV.out
                cases he
                cases hh : (PredD.expr).holds c with
                | true =>
                  have HH := Lib.hid hh
                  clear hh
                  go_wp2_with (refine (expr_any c _).mono ?_; rintro e w' ⟨rfl, rfl⟩; simp only [show exprB c = true from HH.out])
                  go_round
                  case rel => exact ⟨k + 1, by omega, by go_num, Lib.hid fun j hj => by
                    by_cases hjk : j = k
                    · subst hjk; rw [HWK.out]; exact HH.out
                    · exact HR.out j (by omega)⟩
                  case measure => simp [intOf]; omega
                | false =>
                  have HH := Lib.hid hh
                  have HNO : Hid (f.fits ls = false) := Lib.hid (fits_no k hlt (by rw [HWK.out]; exact hh))
                  clear hh
                  go_wp2_with (refine (expr_any c _).mono ?_; rintro e w' ⟨rfl, rfl⟩; simp only [show exprB c = false from HH.out])
                  go_ret
                  exact ⟨ret_b HNO.out.symm, HX.out⟩
              | stmt =>
                have he := HKV.out
                cases he
                cases hh : (PredD.stmt).holds c with
                | true =>
                  have HH := Lib.hid hh
                  clear hh
                  go_wp2_with (refine (stmt_any c _).mono ?_; rintro e w' ⟨rfl, rfl⟩; simp only [show stmtB c = true from HH.out])
                  go_round
                  case rel => exact ⟨k + 1, by omega, by go_num, Lib.hid fun j hj => by
                    by_cases hjk : j = k
                    · subst hjk; rw [HWK.out]; exact HH.out
                    · exact HR.out j (by omega)⟩
                  case measure => simp [intOf]; omega
                | false =>
                  have HH := Lib.hid hh
                  have HNO : Hid (f.fits ls = false) := Lib.hid (fits_no k hlt (by rw [HWK.out]; exact hh))
                  clear hh
                  go_wp2_with (refine (stmt_any c _).mono ?_; rintro e w' ⟨rfl, rfl⟩; simp only [show stmtB c = false from HH.out])
                  go_ret
                  exact ⟨ret_b HNO.out.symm, HX.out⟩
              | part =>
                have he := HKV.out
                cases he
                cases hh : (PredD.part).holds c with
                | true =>
                  have HH := Lib.hid hh
                  clear hh
                  go_wp2_with (refine (part_any c _).mono ?_; rintro e w' ⟨rfl, rfl⟩; simp only [show partB c = true from HH.out])
                  go_round
                  case rel => exact ⟨k + 1, by omega, by go_num, Lib.hid fun j hj => by
                    by_cases hjk : j = k
                    · subst hjk; rw [HWK.out]; exact HH.out
                    · exact HR.out j (by omega)⟩
                  case measure => simp [intOf]; omega
                | false =>
                  have HH := Lib.hid hh
                  have HNO : Hid (f.fits ls = false) := Lib.hid (fits_no k hlt (by rw [HWK.out]; exact hh))
                  clear hh
                  go_wp2_with (refine (part_any c _).mono ?_; rintro e w' ⟨rfl, rfl⟩; simp only [show partB c = false from HH.out])
                  go_ret
                  exact ⟨ret_b HNO.out.symm, HX.out⟩
            · omega
          · obtain rfl : k = ls.length := by omega
            have d0 : decide ((ls.length : Int) < (ls.length : Int)) = false := by simp
            go_wp2_with fail
            go_ret
            exact ⟨ret_b (HYES.out HR.out).symm, HX.out⟩

end Go.Proofs.Ythofccoefiogiaa
