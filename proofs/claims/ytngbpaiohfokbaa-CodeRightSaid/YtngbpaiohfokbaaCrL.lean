/- code.Same$1 and slices.EqualFunc of rows of rows of terms, walked. -/
import Derived.Test.YtngbpaiohfokbaaCrG
import Derived.Test.YtngbpaiohfokbaaCrK
namespace Go.Proofs.Ytngbpaiohfokbaa
open Go Go.RowKit
set_option linter.unusedVariables false
set_option linter.unusedSimpArgs false
theorem mapL_no {α β : Type} (q : α → β) {l m : List α} (k : Nat) (h1 : k < l.length) (h2 : k < m.length) (h : q l[k] ≠ q m[k]) : l.map q ≠ m.map q := fun e => by
  have := congrArg (fun x => x[k]?) e
  simp [h1, h2] at this
  exact h this
theorem mapL_yes {α β : Type} (q : α → β) {l m : List α} (hl : l.length = m.length) (h : ∀ k (h1 : k < l.length) (h2 : k < m.length), q l[k] = q m[k]) : l.map q = m.map q := by
  apply List.ext_getElem
  · simpa using hl
  · intro k h1 h2
    simpa using h k (by simpa using h1) (by simpa using h2)
set_option maxRecDepth 100000 in
set_option maxHeartbeats 4000000 in
theorem sameC_any (A B : Option Addr) (l m : List TermD) (n n2 c d : Nat) (w : World) (hn : n = l.length) (hm : n2 = m.length) (hbig : l.length * 24 ≤ 140737488355000) (hA : Cells w A (tcells l)) (hB : Cells w B (tcells m)) (b : Bool) (hb : Hid (decide (l = m) = b)) :
    Calls Try.prog 36 #[.slice A n c, .slice B n2 d] w fun e w' => e = .returned (.bool b) ∧ Ext w w' := by
  have HE := Lib.hid (equalT_any A B l m n n2 c d w hn hm hbig hA hB b hb)
  clear hn hm hbig hA hB hb
  go_enter Try.func36, Try.ntmps36
  go_wp2_with fail
  refine HE.out.mono ?_
  rintro e w2 ⟨rfl, hx2⟩
  have HX2 := Lib.hid hx2
  clear hx2 HE
  go_wp2_with fail
  go_ret
  exact ⟨rfl, HX2.out⟩
set_option maxRecDepth 100000 in
set_option maxHeartbeats 8000000 in
theorem eqFn_any (w : World) (A B : Option Addr) (vp vq : List (HeadD × List TermD)) (c d : Nat) (hlen : vp.length ≤ 900) (hc : Cells w A (pcells vp)) (hd : Cells w B (pcells vq)) (he : ∀ p ∈ vp, Shows w p.1 p.2) (he2 : ∀ p ∈ vq, Shows w p.1 p.2) (hf : ∀ p ∈ vp, p.2.length ≤ 900) (b : Bool) (hb : Hid (decide (vp.map Prod.snd = vq.map Prod.snd) = b)) :
    Calls Try.prog 40 #[.slice A vp.length c, .slice B vq.length d, .func (.func 36) #[] #[]] w fun e w' => e = .returned (.bool b) ∧ Ext w w' := by
  have HC := Lib.hid hc
  have HD := Lib.hid hd
  have HS := Lib.hid he
  have HS2 := Lib.hid he2
  have HF := Lib.hid hf
  have HE : Hid (∀ args w, (callFunc 36 args).run Try.prog w = .ok (.enter 36 args) w) := Lib.hid (enters_of Try.func36 (by kernel_rfl) rfl)
  clear hc hd he he2 hf
  by_cases hlw : vp.length = vq.length
  rotate_left
  · have e0 : ((vp.length : Int) == (vq.length : Int)) = false := by rw [beq_eq_false_iff_ne]; omega
    have e1 : ((vp.length : Int) != (vq.length : Int)) = true := by rw [bne, e0]; rfl
    have HBF : Hid (b = false) := Lib.hid (by rw [← hb.out]; apply decide_eq_false; intro h; exact hlw (by have := congrArg List.length h; simpa using this))
    clear hlw hb
    go_enter Try.func40, Try.ntmps40
    go_wp2_with fail
    go_ret
    exact ⟨ret_bool HBF.out.symm, Ext.refl _⟩
  have e0 : ((vp.length : Int) == (vq.length : Int)) = true := by rw [hlw]; simp
  have e1 : ((vp.length : Int) != (vq.length : Int)) = false := by rw [hlw]; simp
  have HLW := Lib.hid hlw
  clear hlw
  go_enter Try.func40, Try.ntmps40
  go_wp2_with fail
  go_loopw [17] (fun i wr => ∃ k : Nat, k ≤ vp.length ∧ i = .int .i64 k ∧ Hid (Ext w wr) ∧ Hid (∀ j (h1 : j < vp.length) (h2 : j < vq.length), j < k → vp[j].2 = vq[j].2)) (fun i _ => vp.length - (intOf i).toNat)
  case atStart => exact ⟨0, Nat.zero_le _, rfl, Lib.hid (Ext.refl _), Lib.hid fun j h1 h2 h => by omega⟩
  case round =>
    obtain ⟨k, hk, rfl, HX, HQ⟩ := hrel
    obtain ⟨wa, rfl⟩ : ∃ wa : World, wa = wr := ⟨_, rfl⟩
    by_cases hlt : k < vp.length
    · have d0 : decide ((k : Int) < (vp.length : Int)) = true := decide_eq_true (by omega)
      have hlt2 : k < vq.length := by have := HLW.out; omega
      have q1 : (k : Int) < (vp.length : Int) := by omega
      have q2 : (k : Int) < (vq.length : Int) := by omega
      obtain ⟨b1, off, rfl, hb1, hcc⟩ := (HC.out.ext HX.out).at_ (by rw [pcells_len]; omega)
      obtain ⟨b2, off2, rfl, hb2, hcc2⟩ := (HD.out.ext HX.out).at_ (by rw [pcells_len]; omega)
      have v0 := (hcc k (by rw [pcells_len]; omega)).trans (pcells_at vp k hlt)
      have v1 := (hcc2 k (by rw [pcells_len]; omega)).trans (pcells_at vq k hlt2)
      have hsh := HS.out _ (List.getElem_mem hlt)
      have hsh2 := HS2.out _ (List.getElem_mem hlt2)
      have hfl := HF.out _ (List.getElem_mem hlt)
      have HYES : Hid (vp[k].2 = vq[k].2 → ∀ j (h1 : j < vp.length) (h2 : j < vq.length), j < k + 1 → vp[j].2 = vq[j].2) := Lib.hid fun h j h1 h2 hj => by
        by_cases e : j = k
        · subst e; exact h
        · exact HQ.out j h1 h2 (by omega)
      have HNO : Hid (vp[k].2 ≠ vq[k].2 → b = false) := Lib.hid fun h => by
        rw [← hb.out]
        exact decide_eq_false (mapL_no Prod.snd k hlt hlt2 h)
      clear hcc hcc2
      generalize vp[k] = pv at *
      generalize vq[k] = pw at *
      obtain ⟨⟨pa, pn, pc⟩, ts⟩ := pv
      obtain ⟨⟨pa2, pn2, pc2⟩, us⟩ := pw
      obtain ⟨r1, r2, r3⟩ := hsh
      obtain ⟨s1, s2, s3⟩ := hsh2
      simp only [hd] at r1 r3 v0 s1 s3 v1 hfl
      subst r1 s1
      obtain ⟨t, ht⟩ : ∃ t, Hid (decide (ts = us) = t) := ⟨_, Lib.hid rfl⟩
      have HR3 := Lib.hid r3
      have HS3 := Lib.hid s3
      have HFL := Lib.hid hfl
      clear r2 r3 s2 s3 hfl
      have he := HE.out
      go_wp2_with fail
      refine (sameC_any pa pa2 ts us ts.length us.length pc pc2 wa rfl rfl (by have := HFL.out; omega) (HR3.out.ext HX.out) (HS3.out.ext HX.out) t ht).mono ?_
      rintro e w2 ⟨rfl, hx2⟩
      have HX2 := Lib.hid (HX.out.trans hx2)
      clear hx2 v0 v1 he
      cases t with
      | false =>
        have HBF := Lib.hid (HNO.out (of_decide_eq_false ht.out))
        go_wp2_with fail
        go_ret
        exact ⟨ret_bool HBF.out.symm, HX2.out⟩
      | true =>
        have HQ2 := Lib.hid (HYES.out (of_decide_eq_true ht.out))
        go_wp2_with fail
        go_roundw
        case rel => exact ⟨k + 1, by omega, by go_num, HX2, HQ2⟩
        case measure => simp [intOf]; omega
    · obtain rfl : k = vp.length := by omega
      have d0 : decide ((vp.length : Int) < (vp.length : Int)) = false := by simp
      have d1 : decide (vp.length < vp.length) = false := by simp
      have HBT : Hid (b = true) := Lib.hid (by
        rw [← hb.out]
        exact decide_eq_true (mapL_yes Prod.snd HLW.out fun j h1 h2 => HQ.out j h1 h2 h1))
      go_wp2_with fail
      go_ret
      exact ⟨ret_bool HBT.out.symm, HX.out⟩
end Go.Proofs.Ytngbpaiohfokbaa
