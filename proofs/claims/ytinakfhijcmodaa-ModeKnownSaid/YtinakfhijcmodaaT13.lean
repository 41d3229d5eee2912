/- Chapter 01, modes: walks of the program and of its reference, function by function: what each call returns, for every input of its kind and in whatever memory; what was in memory stays. -/
import Derived.Test.YtinakfhijcmodaaT12
import Derived.OwnWalk
import Derived.Laws.AppendOwn
import Derived.Laws.OwnMore
namespace Go.Proofs.Ytinakfhijcmodaa
open Go.RowKit
set_option linter.unusedVariables false
set_option linter.unusedSimpArgs false
theorem info31 : (Try.prog.info? 31).map (fun i => (i.zero, i.size, i.bytes)) = some (some (.int .u8 0), 1, 1) := by kernel_rfl
def oth (l : List Int) (t k : Nat) : List Int := (List.range k).map fun q => l.getD ((l.length - 1 - q + t) % l.length) 0
theorem oth_succ (l : List Int) (t k : Nat) : oth l t (k + 1) = oth l t k ++ [l.getD ((l.length - 1 - k + t) % l.length) 0] := by
  unfold oth; rw [List.range_succ, List.map_append]; rfl
theorem row8_own {w : World} {base : Nat} {v : Value} {l : List Int} (h : w.ownsRow base 31 1 v l.length (l.map (Value.int .u8))) (hn : 0 < l.length) :
    ∃ g cap, v = .slice (some ⟨g, 0, none⟩) l.length cap ∧ Row8 w (some ⟨g, 0, none⟩) l := by
  obtain ⟨g, cap, hv, hlt⟩ : ∃ g cap, v = .slice (some ⟨g, 0, none⟩) l.length cap ∧ g < w.heap.size := by
    rcases h.2 with ⟨_, h0⟩ | ⟨g, cap, cur, hv, _, hg, _⟩
    · omega
    · exact ⟨g, cap, hv, (Array.getElem?_eq_some_iff.1 hg).1⟩
  subst hv
  refine ⟨g, cap, rfl, .inr ⟨g, 0, rfl, hlt, fun k hk => ?_⟩⟩
  rw [Nat.zero_add, h.cellAt k (by omega)]
  simp [List.getElem?_map, hk]
theorem oth_len (l : List Int) (t k : Nat) : (oth l t k).length = k := by simp [oth]
theorem mod_back (n t j : Nat) (h : j < n) : ∃ i, i < n ∧ (i + t) % n = j := by
  refine ⟨(j + (n - t % n)) % n, Nat.mod_lt _ (by omega), ?_⟩
  have h1 : t % n < n := Nat.mod_lt _ (by omega)
  rw [Nat.mod_add_mod]
  have h2 : j + (n - t % n) + t = j + n * (1 + t / n) := by
    have := Nat.mod_add_div t n
    rw [Nat.mul_add, Nat.mul_one]
    omega
  rw [h2, Nat.add_mul_mod_self_left, Nat.mod_eq_of_lt h]
theorem allC_mem {l l' : List Int} (h : ∀ x, x ∈ l ↔ x ∈ l') (m : Int) : allC m l = allC m l' := by
  unfold allC
  rw [Bool.eq_iff_iff, List.all_eq_true, List.all_eq_true]
  exact ⟨fun k x hx => k x ((h x).2 hx), fun k x hx => k x ((h x).1 hx)⟩
theorem join_mem {l l' : List Int} (h : ∀ x, x ∈ l ↔ x ∈ l') : joinN l = joinN l' := by
  rw [← join_eq, ← join_eq]
  unfold refJoinN
  have : (fun m : Nat => allC (m : Nat) l) = fun m : Nat => allC (m : Nat) l' := by funext m; exact allC_mem h m
  rw [this]
theorem oth_mem (l : List Int) (t : Nat) (x : Int) : x ∈ oth l t l.length ↔ x ∈ l := by
  unfold oth
  simp only [List.mem_map, List.mem_range]
  constructor
  · rintro ⟨q, hq, rfl⟩
    have hlt : (l.length - 1 - q + t) % l.length < l.length := Nat.mod_lt _ (by omega)
    simp [List.getD, hlt]
  · intro hx
    obtain ⟨j, hj, rfl⟩ := List.mem_iff_getElem.1 hx
    obtain ⟨i, hi, he⟩ := mod_back l.length t j hj
    refine ⟨l.length - 1 - i, by omega, ?_⟩
    rw [show l.length - 1 - (l.length - 1 - i) = i from by omega, he]
    simp [List.getD, hj]
theorem oth_join (l : List Int) (t : Nat) : joinN (oth l t l.length) = joinN l := join_mem (oth_mem l t)
set_option maxHeartbeats 4000000 in
theorem joins_some (b off : Nat) (l : List Int) (c : Nat) (t : Nat) (w : World) (hlen : 0 < l.length) (hl : l.length ≤ 50) (hb : b < w.heap.size) (hc : ∀ k, k < l.length → w.cell? ⟨b, off + k, none⟩ = some (.int .u8 (l.getD k 0)))
    (hm : ∀ k, 0 ≤ l.getD k 0 ∧ l.getD k 0 < 256) (ht : t < 256) :
    Calls Try.prog 5 #[.slice (some ⟨b, off, none⟩) l.length c, .int .u8 t] w fun e w' => e = .returned (.bool true) ∧ Ext w w' := by
  obtain ⟨i0, hi, hz0, hz1, hz2⟩ := info_parts info31
  have hR : Hid (Row8 w (some ⟨b, off, none⟩) l) := .inr ⟨b, off, rfl, hb, hc⟩
  have HM := Lib.hid hm
  have HC := Lib.hid hc
  have bj := join_bd l
  obtain ⟨j, HJ⟩ : ∃ v, Hid (joinN l = v) := ⟨_, Lib.hid rfl⟩
  rw [HJ.out] at bj
  have HCV := Lib.hid (fun k hk => join_covers l k hk)
  rw [HJ.out] at HCV
  clear hm hc
  go_enter Try.func5, Try.ntmps5
  go_wp2_with fail
  refine (join_at _ l _ _ j _ rfl (by omega) hR.out HM.out HJ).mono ?_
  rintro e w' ⟨rfl, rfl⟩
  go_wp2_with fail
  go_loopw [6, 7] (fun v i wr => ∃ r : Nat, r ≤ l.length ∧ i = .int .i64 ((r : Int) - 1) ∧ wr.ownsRow w.heap.size 31 1 v (l.length - r) ((oth l t (l.length - r)).map (Value.int .u8)) ∧ Hid (Ext w wr)) (fun _ i _ => ((intOf i) + 1).toNat)
  case atStart => exact ⟨l.length, Nat.le_refl _, rfl, by simpa [oth] using World.ownsRow_nil w w.heap.size 31 1, Ext.refl _⟩
  case round =>
    obtain ⟨r, hr, rfl, hown, HX⟩ := hrel
    by_cases hr0 : 0 < r
    · obtain ⟨i, rfl⟩ : ∃ i, r = i + 1 := ⟨r - 1, by omega⟩
      rw [show ((i + 1 : Nat) : Int) - 1 = (i : Int) from by omega]
      have hq0 : (0 : Int) ≤ ((i : Int) + (t : Int)) % (l.length : Int) := Int.emod_nonneg _ (by omega)
      have hq1 : ((i : Int) + (t : Int)) % (l.length : Int) < (l.length : Int) := Int.emod_lt_of_pos _ (by omega)
      have hcell : wr.cell? ⟨b, off + (i + t) % l.length, none⟩ = some (.int .u8 (l.getD ((i + t) % l.length) 0)) := by
        rw [(HX.out.cell (p := ⟨b, _, none⟩) hb)]
        exact HC.out _ (Nat.mod_lt _ hlen)
      have HO := Lib.hid (oth_succ l t (l.length - (i + 1)))
      have HI : Hid (l.length - 1 - (l.length - (i + 1)) = i) := Lib.hid (by omega)
      rw [HI.out] at HO
      generalize l.getD ((i + t) % l.length) 0 = x at *
      go_wp2_with (at_builtin; refine wpList_append_own _ rfl _ _ 36 rfl w.heap.size 31 i0 (.int .u8 0) 1 1 Try.underlying36 hi hz0 hz1 hz2 rfl (by decide) _ _ _ rfl (hown.alloc _) ⟨wr.heap.size, 0, none⟩ 1 1 [.int .u8 x] rfl rfl ?c1 ?c2 ?c3 ?c4 ?c5 ?_)
      case c1 =>
        intro j u hj
        match j, hj with
        | 0, hj => simp at hj; subst hj; simp [Addr.add]
      case c2 => intro u hu; simp at hu; subst hu; rfl
      case c3 => unfold maxLen; omega
      case c4 => omega
      case c5 => have := HX.out.size; simp; omega
      intro v' w1 hown1 hgrow _
      have HLT := Lib.hid hown.lt
      have HG := Lib.hid hgrow
      clear hgrow hown
      have HOW := Lib.hid hown1
      clear hown1
      go_wp2_with fail
      go_roundw
      case rel =>
        refine ⟨i, by omega, rfl, ?_, ?_⟩
        · have := HOW.out
          rw [show l.length - i = l.length - (i + 1) + 1 from by omega, HO.out, List.map_append]
          exact this
        · exact Below.grown (Below.alloc HX.out HX.out.size _) HG.out (by have := HX.out.size; go_size) fun k hk => (HLT.out k hk).1
      case measure => simp [intOf]
    · have hr0 : r = 0 := by omega
      subst hr0
      have hown2 : wr.ownsRow w.heap.size 31 1 u6 (oth l t l.length).length ((oth l t l.length).map (Value.int .u8)) := by rw [oth_len]; simpa using hown
      obtain ⟨g, cap, rfl, hrow⟩ := row8_own hown2 (by rw [oth_len]; exact hlen)
      have HROW := Lib.hid hrow
      rw [oth_len, show ((0 : Nat) : Int) - 1 = -1 from rfl]
      clear hown hown2 hrow hr
      go_wp2_with fail
      go_loop [8] (fun i => ∃ k : Nat, k ≤ l.length ∧ i = .int .i64 k) (fun i => l.length - (intOf i).toNat)
      case atStart => exact ⟨0, by omega, rfl⟩
      case round =>
        obtain ⟨k, hk, rfl⟩ := hrel
        by_cases hkl : k < l.length
        · have hcell : wr.cell? ⟨b, off + k, none⟩ = some (.int .u8 (l.getD k 0)) := (HX.out.cell (p := ⟨b, _, none⟩) hb).trans (HC.out k hkl)
          have hbk := HM.out k
          have HCK := Lib.hid (HCV.out k hkl)
          generalize l.getD k 0 = x at *
          go_wp2_with fail
          refine (covers_at j x _ _ (by omega) (by omega) (by omega) (by omega) HCK).mono ?_
          rintro e w' ⟨rfl, rfl⟩
          go_wp2_with fail
          go_round
          case rel => exact ⟨k + 1, by omega, by go_num⟩
          case measure => simp [intOf]; omega
        · have hk2 : k = l.length := by omega
          subst hk2
          go_wp2_with fail
          refine (refjoin_at _ l _ _ j _ rfl (by omega) (hR.out.ext HX.out) HM.out HJ).mono ?_
          rintro e w2 ⟨rfl, hx2⟩
          have HX2 := Lib.hid hx2
          clear hx2
          go_wp2_with fail
          refine (join_at _ (oth l t l.length) _ _ j _ (oth_len l t l.length).symm (by rw [oth_len]; omega) (HROW.out.ext HX2.out) ?_ (Lib.hid ((oth_join l t).trans HJ.out))).mono ?_
          · intro k
            unfold oth
            simp only [List.getD_eq_getElem?_getD, List.getElem?_map]
            cases (List.range l.length)[k]? with
            | none => simp
            | some q => exact HM.out _
          rintro e w' ⟨rfl, rfl⟩
          go_wp2_with fail
          refine (works_ext _).mono ?_
          rintro e w3 ⟨rfl, hx3⟩
          have HX3 := Lib.hid hx3
          clear hx3
          go_wp2_with fail
          go_ret
          exact ⟨rfl, Ext.trans HX.out (Ext.trans HX2.out HX3.out)⟩
theorem joins_long (A : Option Addr) (n c : Nat) (t : Int) (w : World) (hl : 50 < n) :
    Calls Try.prog 5 #[.slice A n c, .int .u8 t] w fun e w' => e = .returned (.bool true) ∧ Ext w w' := by
  go_enter Try.func5, Try.ntmps5
  go_wp2_with fail
  refine (works_ext _).mono ?_
  rintro e w3 ⟨rfl, hx3⟩
  have HX3 := Lib.hid hx3
  clear hx3
  go_wp2_with fail
  go_ret
  exact ⟨rfl, HX3.out⟩
set_option maxHeartbeats 1000000 in
theorem joins_none (A : Option Addr) (c : Nat) (t : Int) (w : World) :
    Calls Try.prog 5 #[.slice A 0 c, .int .u8 t] w fun e w' => e = .returned (.bool true) ∧ Ext w w' := by
  go_enter Try.func5, Try.ntmps5
  go_wp2_with fail
  refine (join_at _ [] _ _ 0 _ rfl (by decide) (.inl rfl) (by simp) (Lib.hid (by decide +kernel))).mono ?_
  rintro e w' ⟨rfl, rfl⟩
  go_wp2_with fail
  refine wp_loop_rounds 1 ?_
  rw [rounds_succ]
  go_wp2_with fail
  refine wp_loop_rounds 1 ?_
  rw [rounds_succ]
  go_wp2_with fail
  refine (refjoin_at _ [] _ _ 0 _ rfl (by decide) (.inl rfl) (by simp) (Lib.hid (by decide +kernel))).mono ?_
  rintro e w2 ⟨rfl, hx2⟩
  have HX2 := Lib.hid hx2
  clear hx2
  go_wp2_with fail
  refine (join_at _ [] _ _ 0 _ rfl (by decide) (.inl rfl) (by simp) (Lib.hid (by decide +kernel))).mono ?_
  rintro e w' ⟨rfl, rfl⟩
  go_wp2_with fail
  refine (works_ext _).mono ?_
  rintro e w3 ⟨rfl, hx3⟩
  have HX3 := Lib.hid hx3
  clear hx3
  go_wp2_with fail
  go_ret
  exact ⟨rfl, Ext.trans HX2.out HX3.out⟩
theorem joins_any (A : Option Addr) (l : List Int) (c : Nat) (t : Int) (w : World) (hr : Row8 w A l) (hm : ∀ k, 0 ≤ l.getD k 0 ∧ l.getD k 0 < 256) (h0 : 0 ≤ t) (h1 : t < 256) :
    Calls Try.prog 5 #[.slice A l.length c, .int .u8 t] w fun e w' => e = .returned (.bool true) ∧ Ext w w' := by
  obtain ⟨tn, rfl⟩ := Int.eq_ofNat_of_zero_le h0
  by_cases hl : 50 < l.length
  · exact joins_long A l.length c _ w hl
  · rcases hr with rfl | ⟨b, off, rfl, hb, hc⟩
    · exact joins_none A c _ w
    · by_cases hn : 0 < l.length
      · exact joins_some b off l c tn w hn (by omega) hb hc hm (by omega)
      · rw [show l.length = 0 from by omega]
        exact joins_none _ c _ w
end Go.Proofs.Ytinakfhijcmodaa
