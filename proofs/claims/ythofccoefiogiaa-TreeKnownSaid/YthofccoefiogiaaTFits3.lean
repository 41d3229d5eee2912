/- The closure of tree.fits, walked. -/
import Derived.Test.YthofccoefiogiaaTFits2
import Derived.Test.YthofccoefiogiaaTIsName
namespace Go.Proofs.Ythofccoefiogiaa
open Go Go.RowKit
set_option linter.unusedVariables false
set_option linter.unusedSimpArgs false
theorem ffits_v (f : FormD) (cs : List Value) (L : Option Addr) (ls : List Int) (n lc : Nat) (w : World) (hn : n = ls.length) (hf : FormV w f cs) (hl : Cells w L (bcells ls)) (hlen : ls.length ≤ 1000) (b : Bool) (hb : f.fits ls = b) :
    Calls Try.prog 101 #[.agg (Array.mk cs), .slice L n lc] w fun e w' => e = .returned (.bool b) ∧ Ext w w' := by
  subst hb
  exact ffits_any f cs L ls n lc w hn hf hl hlen
theorem isName_v (s : ByteArray) (w : World) (hs : s.size ≤ 1000) (b : Bool) (hb : isNameN s.data.toList = b) : Calls Try.prog 102 #[.string s] w fun e w' => e = .returned (.bool b) ∧ Ext w w' := by
  subst hb
  exact isName_any s w hs
set_option maxRecDepth 100000 in
set_option maxHeartbeats 8000000 in
theorem fits1_any (f : FormD) (cs : List Value) (L : Option Addr) (ls : List Int) (n lc gk gn : Nat) (x : NodeM) (w : World) (hn : n = ls.length) (hf : FormV w f cs) (hl : Cells w L (bcells ls)) (hlen : ls.length ≤ 1000) (hx : x.text.size ≤ 1000)
    (hgk : Blk w gk 80 #[.slice L n lc]) (hgn : Blk w gn 73 (Array.mk x.cells)) :
    Calls Try.prog 100 #[.agg (Array.mk cs), .pointer (some ⟨gk, 0, none⟩), .pointer (some ⟨gn, 0, none⟩)] w fun e w' => e = .returned (.bool (formOk f x.num x.text.data.toList ls)) ∧ Ext w w' := by
  subst hn
  obtain ⟨kind, pos, text, num, kA, kc, kids⟩ := x
  obtain ⟨ks, mv, rfl, hks, hmv⟩ := hf
  have hform : FormV w f [ks, mv, .bool f.named, .int .i64 f.most] := ⟨ks, mv, rfl, hks, hmv⟩
  obtain ⟨KA, kcc, rfl, -⟩ := hks.open_
  have hmf : mv = .nilFunc ∨ ∃ fm lm, mv = .func (.func fm) #[] lm := by
    cases hm : f.more with
    | none => rw [hm] at hmv; exact .inl hmv
    | some q => rw [hm] at hmv; obtain ⟨fm, lm, h3, _⟩ := KidV.form hmv; exact .inr ⟨fm, lm, h3⟩
  simp only at hx
  unfold NodeM.cells at hgn
  simp only at hgn
  have HF := Lib.hid hform
  have HL := Lib.hid hl
  have HGK := Lib.hid hgk
  have HGN := Lib.hid hgn
  clear hks hmv hform hl hgk hgn
  obtain ⟨nm, HNM⟩ : ∃ nm, Hid (f.named = nm) := ⟨_, Lib.hid rfl⟩
  obtain ⟨mo, HMO⟩ : ∃ mo, Hid (f.most = mo) := ⟨_, Lib.hid rfl⟩
  have HOK : Hid (formOk f num text.data.toList ls = (f.fits ls && (decide (0 ≤ num) && (decide (num ≤ mo) && ((nm && isNameN text.data.toList) || (!nm && text.data.toList.isEmpty)))))) := Lib.hid (by rw [← HNM.out, ← HMO.out]; rfl)
  show Calls Try.prog 100 #[.agg #[.slice KA f.kids.length kcc, mv, .bool f.named, .int .i64 f.most], .pointer (some ⟨gk, 0, none⟩), .pointer (some ⟨gn, 0, none⟩)] w fun e w' => e = .returned (.bool (formOk f num text.data.toList ls)) ∧ Ext w w'
  rw [HNM.out, HMO.out] at HF ⊢
  have HT : Hid (text.toList = text.data.toList) := Lib.hid (ByteArray.toList_eq _)
  cases hF : f.fits ls
  case false =>
    have HR : Hid (formOk f num text.data.toList ls = false) := Lib.hid (by rw [HOK.out]; rw [hF]; rfl)
    have hF := Lib.hid hF
    rcases hmf with rfl | ⟨fm, lm, rfl⟩
    · have hbx := Blk.new w 149 #[.slice KA f.kids.length kcc, .nilFunc, .bool nm, .int .i64 mo]
      have hxa := Ext.alloc w (.cells #[.slice KA f.kids.length kcc, .nilFunc, .bool nm, .int .i64 mo] 149)
      have HBX := Lib.hid hbx
      have HXA := Lib.hid hxa
      clear hbx hxa
      go_enter Try.func100, Try.ntmps100
      have c0 := (HGK.out.ext HXA.out).cell 0
      go_wp2_with fail
      refine (ffits_v f _ L ls _ lc _ rfl (HF.out.kept (Kept.of_ext HXA.out)) (HL.out.ext HXA.out) hlen false hF.out).mono ?_
      rintro e w1 ⟨rfl, hx1⟩
      have hB1 := HBX.out.ext hx1
      have hN1 := HGN.out.ext (HXA.out.trans hx1)
      have HB1 := Lib.hid hB1
      have HN1 := Lib.hid hN1
      have HX1 : Hid (Ext w w1) := Lib.hid (HXA.out.trans hx1)
      clear hx1 hB1 hN1 c0
      generalize w.heap.size = ga at *
      have b2 := HB1.out.cell 2
      have b3 := HB1.out.cell 3
      have n2 := HN1.out.cell 2
      have n3 := HN1.out.cell 3
      go_wp2_with fail
      go_ret
      exact ⟨ret_b HR.out.symm, HX1.out⟩
    · have hbx := Blk.new w 149 #[.slice KA f.kids.length kcc, (.func (.func fm) #[] lm), .bool nm, .int .i64 mo]
      have hxa := Ext.alloc w (.cells #[.slice KA f.kids.length kcc, (.func (.func fm) #[] lm), .bool nm, .int .i64 mo] 149)
      have HBX := Lib.hid hbx
      have HXA := Lib.hid hxa
      clear hbx hxa
      go_enter Try.func100, Try.ntmps100
      have c0 := (HGK.out.ext HXA.out).cell 0
      go_wp2_with fail
      refine (ffits_v f _ L ls _ lc _ rfl (HF.out.kept (Kept.of_ext HXA.out)) (HL.out.ext HXA.out) hlen false hF.out).mono ?_
      rintro e w1 ⟨rfl, hx1⟩
      have hB1 := HBX.out.ext hx1
      have hN1 := HGN.out.ext (HXA.out.trans hx1)
      have HB1 := Lib.hid hB1
      have HN1 := Lib.hid hN1
      have HX1 : Hid (Ext w w1) := Lib.hid (HXA.out.trans hx1)
      clear hx1 hB1 hN1 c0
      generalize w.heap.size = ga at *
      have b2 := HB1.out.cell 2
      have b3 := HB1.out.cell 3
      have n2 := HN1.out.cell 2
      have n3 := HN1.out.cell 3
      go_wp2_with fail
      go_ret
      exact ⟨ret_b HR.out.symm, HX1.out⟩
  case true =>
    by_cases h1 : 0 ≤ num
    case neg =>
      have d1 : decide (0 ≤ num) = false := decide_eq_false h1
      have HR : Hid (formOk f num text.data.toList ls = false) := Lib.hid (by rw [HOK.out]; rw [hF, d1]; rfl)
      have hF := Lib.hid hF
      rcases hmf with rfl | ⟨fm, lm, rfl⟩
      · have hbx := Blk.new w 149 #[.slice KA f.kids.length kcc, .nilFunc, .bool nm, .int .i64 mo]
        have hxa := Ext.alloc w (.cells #[.slice KA f.kids.length kcc, .nilFunc, .bool nm, .int .i64 mo] 149)
        have HBX := Lib.hid hbx
        have HXA := Lib.hid hxa
        clear hbx hxa
        go_enter Try.func100, Try.ntmps100
        have c0 := (HGK.out.ext HXA.out).cell 0
        go_wp2_with fail
        refine (ffits_v f _ L ls _ lc _ rfl (HF.out.kept (Kept.of_ext HXA.out)) (HL.out.ext HXA.out) hlen true hF.out).mono ?_
        rintro e w1 ⟨rfl, hx1⟩
        have hB1 := HBX.out.ext hx1
        have hN1 := HGN.out.ext (HXA.out.trans hx1)
        have HB1 := Lib.hid hB1
        have HN1 := Lib.hid hN1
        have HX1 : Hid (Ext w w1) := Lib.hid (HXA.out.trans hx1)
        clear hx1 hB1 hN1 c0
        generalize w.heap.size = ga at *
        have b2 := HB1.out.cell 2
        have b3 := HB1.out.cell 3
        have n2 := HN1.out.cell 2
        have n3 := HN1.out.cell 3
        go_wp2_with fail
        go_ret
        exact ⟨ret_b HR.out.symm, HX1.out⟩
      · have hbx := Blk.new w 149 #[.slice KA f.kids.length kcc, (.func (.func fm) #[] lm), .bool nm, .int .i64 mo]
        have hxa := Ext.alloc w (.cells #[.slice KA f.kids.length kcc, (.func (.func fm) #[] lm), .bool nm, .int .i64 mo] 149)
        have HBX := Lib.hid hbx
        have HXA := Lib.hid hxa
        clear hbx hxa
        go_enter Try.func100, Try.ntmps100
        have c0 := (HGK.out.ext HXA.out).cell 0
        go_wp2_with fail
        refine (ffits_v f _ L ls _ lc _ rfl (HF.out.kept (Kept.of_ext HXA.out)) (HL.out.ext HXA.out) hlen true hF.out).mono ?_
        rintro e w1 ⟨rfl, hx1⟩
        have hB1 := HBX.out.ext hx1
        have hN1 := HGN.out.ext (HXA.out.trans hx1)
        have HB1 := Lib.hid hB1
        have HN1 := Lib.hid hN1
        have HX1 : Hid (Ext w w1) := Lib.hid (HXA.out.trans hx1)
        clear hx1 hB1 hN1 c0
        generalize w.heap.size = ga at *
        have b2 := HB1.out.cell 2
        have b3 := HB1.out.cell 3
        have n2 := HN1.out.cell 2
        have n3 := HN1.out.cell 3
        go_wp2_with fail
        go_ret
        exact ⟨ret_b HR.out.symm, HX1.out⟩
    case pos =>
      have d1 : decide (0 ≤ num) = true := decide_eq_true h1
      by_cases h2 : num ≤ mo
      case neg =>
        have d2 : decide (num ≤ mo) = false := decide_eq_false h2
        have HR : Hid (formOk f num text.data.toList ls = false) := Lib.hid (by rw [HOK.out]; rw [hF, d1, d2]; rfl)
        have hF := Lib.hid hF
        rcases hmf with rfl | ⟨fm, lm, rfl⟩
        · have hbx := Blk.new w 149 #[.slice KA f.kids.length kcc, .nilFunc, .bool nm, .int .i64 mo]
          have hxa := Ext.alloc w (.cells #[.slice KA f.kids.length kcc, .nilFunc, .bool nm, .int .i64 mo] 149)
          have HBX := Lib.hid hbx
          have HXA := Lib.hid hxa
          clear hbx hxa
          go_enter Try.func100, Try.ntmps100
          have c0 := (HGK.out.ext HXA.out).cell 0
          go_wp2_with fail
          refine (ffits_v f _ L ls _ lc _ rfl (HF.out.kept (Kept.of_ext HXA.out)) (HL.out.ext HXA.out) hlen true hF.out).mono ?_
          rintro e w1 ⟨rfl, hx1⟩
          have hB1 := HBX.out.ext hx1
          have hN1 := HGN.out.ext (HXA.out.trans hx1)
          have HB1 := Lib.hid hB1
          have HN1 := Lib.hid hN1
          have HX1 : Hid (Ext w w1) := Lib.hid (HXA.out.trans hx1)
          clear hx1 hB1 hN1 c0
          generalize w.heap.size = ga at *
          have b2 := HB1.out.cell 2
          have b3 := HB1.out.cell 3
          have n2 := HN1.out.cell 2
          have n3 := HN1.out.cell 3
          go_wp2_with fail
          go_ret
          exact ⟨ret_b HR.out.symm, HX1.out⟩
        · have hbx := Blk.new w 149 #[.slice KA f.kids.length kcc, (.func (.func fm) #[] lm), .bool nm, .int .i64 mo]
          have hxa := Ext.alloc w (.cells #[.slice KA f.kids.length kcc, (.func (.func fm) #[] lm), .bool nm, .int .i64 mo] 149)
          have HBX := Lib.hid hbx
          have HXA := Lib.hid hxa
          clear hbx hxa
          go_enter Try.func100, Try.ntmps100
          have c0 := (HGK.out.ext HXA.out).cell 0
          go_wp2_with fail
          refine (ffits_v f _ L ls _ lc _ rfl (HF.out.kept (Kept.of_ext HXA.out)) (HL.out.ext HXA.out) hlen true hF.out).mono ?_
          rintro e w1 ⟨rfl, hx1⟩
          have hB1 := HBX.out.ext hx1
          have hN1 := HGN.out.ext (HXA.out.trans hx1)
          have HB1 := Lib.hid hB1
          have HN1 := Lib.hid hN1
          have HX1 : Hid (Ext w w1) := Lib.hid (HXA.out.trans hx1)
          clear hx1 hB1 hN1 c0
          generalize w.heap.size = ga at *
          have b2 := HB1.out.cell 2
          have b3 := HB1.out.cell 3
          have n2 := HN1.out.cell 2
          have n3 := HN1.out.cell 3
          go_wp2_with fail
          go_ret
          exact ⟨ret_b HR.out.symm, HX1.out⟩
      case pos =>
        have d2 : decide (num ≤ mo) = true := decide_eq_true h2
        cases nm with
        | true =>
          cases hI : isNameN text.data.toList with
          | true =>
            have HR : Hid (formOk f num text.data.toList ls = true) := Lib.hid (by rw [HOK.out]; rw [hF, d1, d2, hI]; rfl)
            have hF := Lib.hid hF
            have hI := Lib.hid hI
            rcases hmf with rfl | ⟨fm, lm, rfl⟩
            · have hbx := Blk.new w 149 #[.slice KA f.kids.length kcc, .nilFunc, .bool true, .int .i64 mo]
              have hxa := Ext.alloc w (.cells #[.slice KA f.kids.length kcc, .nilFunc, .bool true, .int .i64 mo] 149)
              have HBX := Lib.hid hbx
              have HXA := Lib.hid hxa
              clear hbx hxa
              go_enter Try.func100, Try.ntmps100
              have c0 := (HGK.out.ext HXA.out).cell 0
              go_wp2_with fail
              refine (ffits_v f _ L ls _ lc _ rfl (HF.out.kept (Kept.of_ext HXA.out)) (HL.out.ext HXA.out) hlen true hF.out).mono ?_
              rintro e w1 ⟨rfl, hx1⟩
              have hB1 := HBX.out.ext hx1
              have hN1 := HGN.out.ext (HXA.out.trans hx1)
              have HB1 := Lib.hid hB1
              have HN1 := Lib.hid hN1
              have HX1 : Hid (Ext w w1) := Lib.hid (HXA.out.trans hx1)
              clear hx1 hB1 hN1 c0
              generalize w.heap.size = ga at *
              have b2 := HB1.out.cell 2
              have b3 := HB1.out.cell 3
              have n2 := HN1.out.cell 2
              have n3 := HN1.out.cell 3
              go_wp2_with fail
              refine (isName_v text _ hx true hI.out).mono ?_
              rintro e w2 ⟨rfl, hx2⟩
              have HX2 : Hid (Ext w w2) := Lib.hid (HX1.out.trans hx2)
              have hB2 := HB1.out.ext hx2
              have hN2 := HN1.out.ext hx2
              have HB2 := Lib.hid hB2
              have HN2 := Lib.hid hN2
              clear hx2 hB2 hN2 b2 b3 n2 n3
              have b2 := HB2.out.cell 2
              have b3 := HB2.out.cell 3
              have n2 := HN2.out.cell 2
              have n3 := HN2.out.cell 3
              go_wp2_with fail
              go_ret
              exact ⟨ret_b HR.out.symm, HX2.out⟩
            · have hbx := Blk.new w 149 #[.slice KA f.kids.length kcc, (.func (.func fm) #[] lm), .bool true, .int .i64 mo]
              have hxa := Ext.alloc w (.cells #[.slice KA f.kids.length kcc, (.func (.func fm) #[] lm), .bool true, .int .i64 mo] 149)
              have HBX := Lib.hid hbx
              have HXA := Lib.hid hxa
              clear hbx hxa
              go_enter Try.func100, Try.ntmps100
              have c0 := (HGK.out.ext HXA.out).cell 0
              go_wp2_with fail
              refine (ffits_v f _ L ls _ lc _ rfl (HF.out.kept (Kept.of_ext HXA.out)) (HL.out.ext HXA.out) hlen true hF.out).mono ?_
              rintro e w1 ⟨rfl, hx1⟩
              have hB1 := HBX.out.ext hx1
              have hN1 := HGN.out.ext (HXA.out.trans hx1)
              have HB1 := Lib.hid hB1
              have HN1 := Lib.hid hN1
              have HX1 : Hid (Ext w w1) := Lib.hid (HXA.out.trans hx1)
              clear hx1 hB1 hN1 c0
              generalize w.heap.size = ga at *
              have b2 := HB1.out.cell 2
              have b3 := HB1.out.cell 3
              have n2 := HN1.out.cell 2
              have n3 := HN1.out.cell 3
              go_wp2_with fail
              refine (isName_v text _ hx true hI.out).mono ?_
              rintro e w2 ⟨rfl, hx2⟩
              have HX2 : Hid (Ext w w2) := Lib.hid (HX1.out.trans hx2)
              have hB2 := HB1.out.ext hx2
              have hN2 := HN1.out.ext hx2
              have HB2 := Lib.hid hB2
              have HN2 := Lib.hid hN2
              clear hx2 hB2 hN2 b2 b3 n2 n3
              have b2 := HB2.out.cell 2
              have b3 := HB2.out.cell 3
              have n2 := HN2.out.cell 2
              have n3 := HN2.out.cell 3
              go_wp2_with fail
              go_ret
              exact ⟨ret_b HR.out.symm, HX2.out⟩
          | false =>
            have HR : Hid (formOk f num text.data.toList ls = false) := Lib.hid (by rw [HOK.out]; rw [hF, d1, d2, hI]; rfl)
            have hF := Lib.hid hF
            have hI := Lib.hid hI
            rcases hmf with rfl | ⟨fm, lm, rfl⟩
            · have hbx := Blk.new w 149 #[.slice KA f.kids.length kcc, .nilFunc, .bool true, .int .i64 mo]
              have hxa := Ext.alloc w (.cells #[.slice KA f.kids.length kcc, .nilFunc, .bool true, .int .i64 mo] 149)
              have HBX := Lib.hid hbx
              have HXA := Lib.hid hxa
              clear hbx hxa
              go_enter Try.func100, Try.ntmps100
              have c0 := (HGK.out.ext HXA.out).cell 0
              go_wp2_with fail
              refine (ffits_v f _ L ls _ lc _ rfl (HF.out.kept (Kept.of_ext HXA.out)) (HL.out.ext HXA.out) hlen true hF.out).mono ?_
              rintro e w1 ⟨rfl, hx1⟩
              have hB1 := HBX.out.ext hx1
              have hN1 := HGN.out.ext (HXA.out.trans hx1)
              have HB1 := Lib.hid hB1
              have HN1 := Lib.hid hN1
              have HX1 : Hid (Ext w w1) := Lib.hid (HXA.out.trans hx1)
              clear hx1 hB1 hN1 c0
              generalize w.heap.size = ga at *
              have b2 := HB1.out.cell 2
              have b3 := HB1.out.cell 3
              have n2 := HN1.out.cell 2
              have n3 := HN1.out.cell 3
              go_wp2_with fail
              refine (isName_v text _ hx false hI.out).mono ?_
              rintro e w2 ⟨rfl, hx2⟩
              have HX2 : Hid (Ext w w2) := Lib.hid (HX1.out.trans hx2)
              have hB2 := HB1.out.ext hx2
              have hN2 := HN1.out.ext hx2
              have HB2 := Lib.hid hB2
              have HN2 := Lib.hid hN2
              clear hx2 hB2 hN2 b2 b3 n2 n3
              have b2 := HB2.out.cell 2
              have b3 := HB2.out.cell 3
              have n2 := HN2.out.cell 2
              have n3 := HN2.out.cell 3
              go_wp2_with fail
              go_ret
              exact ⟨ret_b HR.out.symm, HX2.out⟩
            · have hbx := Blk.new w 149 #[.slice KA f.kids.length kcc, (.func (.func fm) #[] lm), .bool true, .int .i64 mo]
              have hxa := Ext.alloc w (.cells #[.slice KA f.kids.length kcc, (.func (.func fm) #[] lm), .bool true, .int .i64 mo] 149)
              have HBX := Lib.hid hbx
              have HXA := Lib.hid hxa
              clear hbx hxa
              go_enter Try.func100, Try.ntmps100
              have c0 := (HGK.out.ext HXA.out).cell 0
              go_wp2_with fail
              refine (ffits_v f _ L ls _ lc _ rfl (HF.out.kept (Kept.of_ext HXA.out)) (HL.out.ext HXA.out) hlen true hF.out).mono ?_
              rintro e w1 ⟨rfl, hx1⟩
              have hB1 := HBX.out.ext hx1
              have hN1 := HGN.out.ext (HXA.out.trans hx1)
              have HB1 := Lib.hid hB1
              have HN1 := Lib.hid hN1
              have HX1 : Hid (Ext w w1) := Lib.hid (HXA.out.trans hx1)
              clear hx1 hB1 hN1 c0
              generalize w.heap.size = ga at *
              have b2 := HB1.out.cell 2
              have b3 := HB1.out.cell 3
              have n2 := HN1.out.cell 2
              have n3 := HN1.out.cell 3
              go_wp2_with fail
              refine (isName_v text _ hx false hI.out).mono ?_
              rintro e w2 ⟨rfl, hx2⟩
              have HX2 : Hid (Ext w w2) := Lib.hid (HX1.out.trans hx2)
              have hB2 := HB1.out.ext hx2
              have hN2 := HN1.out.ext hx2
              have HB2 := Lib.hid hB2
              have HN2 := Lib.hid hN2
              clear hx2 hB2 hN2 b2 b3 n2 n3
              have b2 := HB2.out.cell 2
              have b3 := HB2.out.cell 3
              have n2 := HN2.out.cell 2
              have n3 := HN2.out.cell 3
              go_wp2_with fail
              go_ret
              exact ⟨ret_b HR.out.symm, HX2.out⟩
        | false =>
          by_cases h3 : text.data.toList = []
          case pos =>
            have HR0 : text.data.toList.isEmpty = true := by rw [h3]; rfl
            have e3 : text.toList = [] := by rw [HT.out]; exact h3
            have HR : Hid (formOk f num text.data.toList ls = true) := Lib.hid (by rw [HOK.out]; rw [hF, d1, d2, HR0]; rfl)
            have hF := Lib.hid hF
            have H3 := Lib.hid h3
            clear h3 HR0
            rcases hmf with rfl | ⟨fm, lm, rfl⟩
            · have hbx := Blk.new w 149 #[.slice KA f.kids.length kcc, .nilFunc, .bool false, .int .i64 mo]
              have hxa := Ext.alloc w (.cells #[.slice KA f.kids.length kcc, .nilFunc, .bool false, .int .i64 mo] 149)
              have HBX := Lib.hid hbx
              have HXA := Lib.hid hxa
              clear hbx hxa
              go_enter Try.func100, Try.ntmps100
              have c0 := (HGK.out.ext HXA.out).cell 0
              go_wp2_with fail
              refine (ffits_v f _ L ls _ lc _ rfl (HF.out.kept (Kept.of_ext HXA.out)) (HL.out.ext HXA.out) hlen true hF.out).mono ?_
              rintro e w1 ⟨rfl, hx1⟩
              have hB1 := HBX.out.ext hx1
              have hN1 := HGN.out.ext (HXA.out.trans hx1)
              have HB1 := Lib.hid hB1
              have HN1 := Lib.hid hN1
              have HX1 : Hid (Ext w w1) := Lib.hid (HXA.out.trans hx1)
              clear hx1 hB1 hN1 c0
              generalize w.heap.size = ga at *
              have b2 := HB1.out.cell 2
              have b3 := HB1.out.cell 3
              have n2 := HN1.out.cell 2
              have n3 := HN1.out.cell 3
              go_wp2_with fail
              go_ret
              exact ⟨ret_b HR.out.symm, HX1.out⟩
            · have hbx := Blk.new w 149 #[.slice KA f.kids.length kcc, (.func (.func fm) #[] lm), .bool false, .int .i64 mo]
              have hxa := Ext.alloc w (.cells #[.slice KA f.kids.length kcc, (.func (.func fm) #[] lm), .bool false, .int .i64 mo] 149)
              have HBX := Lib.hid hbx
              have HXA := Lib.hid hxa
              clear hbx hxa
              go_enter Try.func100, Try.ntmps100
              have c0 := (HGK.out.ext HXA.out).cell 0
              go_wp2_with fail
              refine (ffits_v f _ L ls _ lc _ rfl (HF.out.kept (Kept.of_ext HXA.out)) (HL.out.ext HXA.out) hlen true hF.out).mono ?_
              rintro e w1 ⟨rfl, hx1⟩
              have hB1 := HBX.out.ext hx1
              have hN1 := HGN.out.ext (HXA.out.trans hx1)
              have HB1 := Lib.hid hB1
              have HN1 := Lib.hid hN1
              have HX1 : Hid (Ext w w1) := Lib.hid (HXA.out.trans hx1)
              clear hx1 hB1 hN1 c0
              generalize w.heap.size = ga at *
              have b2 := HB1.out.cell 2
              have b3 := HB1.out.cell 3
              have n2 := HN1.out.cell 2
              have n3 := HN1.out.cell 3
              go_wp2_with fail
              go_ret
              exact ⟨ret_b HR.out.symm, HX1.out⟩
          case neg =>
            have HR0 : text.data.toList.isEmpty = false := by simpa using h3
            have e3 : ¬ text.toList = [] := by rw [HT.out]; exact h3
            have e4 : text.toList.isEmpty = false := by simpa using e3
            have HR : Hid (formOk f num text.data.toList ls = false) := Lib.hid (by rw [HOK.out]; rw [hF, d1, d2, HR0]; rfl)
            have hF := Lib.hid hF
            have H3 := Lib.hid h3
            clear h3 HR0
            rcases hmf with rfl | ⟨fm, lm, rfl⟩
            · have hbx := Blk.new w 149 #[.slice KA f.kids.length kcc, .nilFunc, .bool false, .int .i64 mo]
              have hxa := Ext.alloc w (.cells #[.slice KA f.kids.length kcc, .nilFunc, .bool false, .int .i64 mo] 149)
              have HBX := Lib.hid hbx
              have HXA := Lib.hid hxa
              clear hbx hxa
              go_enter Try.func100, Try.ntmps100
              have c0 := (HGK.out.ext HXA.out).cell 0
              go_wp2_with fail
              refine (ffits_v f _ L ls _ lc _ rfl (HF.out.kept (Kept.of_ext HXA.out)) (HL.out.ext HXA.out) hlen true hF.out).mono ?_
              rintro e w1 ⟨rfl, hx1⟩
              have hB1 := HBX.out.ext hx1
              have hN1 := HGN.out.ext (HXA.out.trans hx1)
              have HB1 := Lib.hid hB1
              have HN1 := Lib.hid hN1
              have HX1 : Hid (Ext w w1) := Lib.hid (HXA.out.trans hx1)
              clear hx1 hB1 hN1 c0
              generalize w.heap.size = ga at *
              have b2 := HB1.out.cell 2
              have b3 := HB1.out.cell 3
              have n2 := HN1.out.cell 2
              have n3 := HN1.out.cell 3
              go_wp2_with fail
              go_ret
              exact ⟨ret_b HR.out.symm, HX1.out⟩
            · have hbx := Blk.new w 149 #[.slice KA f.kids.length kcc, (.func (.func fm) #[] lm), .bool false, .int .i64 mo]
              have hxa := Ext.alloc w (.cells #[.slice KA f.kids.length kcc, (.func (.func fm) #[] lm), .bool false, .int .i64 mo] 149)
              have HBX := Lib.hid hbx
              have HXA := Lib.hid hxa
              clear hbx hxa
              go_enter Try.func100, Try.ntmps100
              have c0 := (HGK.out.ext HXA.out).cell 0
              go_wp2_with fail
              refine (ffits_v f _ L ls _ lc _ rfl (HF.out.kept (Kept.of_ext HXA.out)) (HL.out.ext HXA.out) hlen true hF.out).mono ?_
              rintro e w1 ⟨rfl, hx1⟩
              have hB1 := HBX.out.ext hx1
              have hN1 := HGN.out.ext (HXA.out.trans hx1)
              have HB1 := Lib.hid hB1
              have HN1 := Lib.hid hN1
              have HX1 : Hid (Ext w w1) := Lib.hid (HXA.out.trans hx1)
              clear hx1 hB1 hN1 c0
              generalize w.heap.size = ga at *
              have b2 := HB1.out.cell 2
              have b3 := HB1.out.cell 3
              have n2 := HN1.out.cell 2
              have n3 := HN1.out.cell 3
              go_wp2_with fail
              go_ret
              exact ⟨ret_b HR.out.symm, HX1.out⟩
end Go.Proofs.Ythofccoefiogiaa
