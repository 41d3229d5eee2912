/- bytes.Count at one byte, bytes.LastIndexByte, diag.New, walked. Condition: the source's cells are known; New's number is not 0. -/
import Derived.Test.YtcccnicldbpieaaGreatDoorLxE
import Derived.Shelf.Bytes.SlCountOne
import Derived.IntWalk
namespace Go.Proofs.YtcccnicldbpieaaGreatDoor
open Go Go.RowKit
set_option linter.unusedVariables false
set_option linter.unusedSimpArgs false
theorem cells_add {w : World} {a : Addr} {l : Bs} (h : Cells w (some a) (bcells l)) : ∀ i, i < l.length → w.cell? (a.add i) = some (.int .u8 ((bnums l).getD i 0)) := by
  intro i hi
  obtain ⟨b, off, e, hb, hc⟩ := h.at_ (by rw [bcells_len]; omega)
  injection e with e
  subst e
  rw [bnums_at l i hi, show (⟨b, off, none⟩ : Addr).add i = ⟨b, off + i, none⟩ from by unfold Addr.add; split <;> simp_all, hc i (by rw [bcells_len]; exact hi), bcells_at l i hi]
theorem run_count {w : World} {A : Option Addr} {l : Bs} {n c : Nat} (hn : n = l.length) (h : Cells w A (bcells l)) :
    (Extern.BytealgCount.count #[.slice A n c, .int .u8 10]).run Tryz.prog w = .ok (.int .i64 ((l.count 10 : Nat) : Int)) w := by
  subst hn
  cases A with
  | none =>
    have h0 : l = [] := by
      rcases h with h | ⟨b, off, e, _⟩
      · have : (bcells l).length = 0 := by rw [h]; rfl
        rw [bcells_len] at this
        exact List.eq_nil_of_length_eq_zero this
      · cases e
    subst h0
    exact Lib.run_countNil w _ c 10
  | some a =>
    have h1 := Lib.run_countAt (P := Tryz.prog) w a l.length c (bnums l) (bnums_len l) (cells_add h) 10
    rw [bytesOf_bnums] at h1
    exact h1
set_option maxHeartbeats 2000000 in
set_option maxRecDepth 100000 in
theorem count_any (A : Option Addr) (l : Bs) (n c g d : Nat) (w : World) (hn : n = l.length) (h : Cells w A (bcells l)) (hg : w.cell? ⟨g, 0, none⟩ = some (.int .u8 10)) :
    Calls Tryz.prog 39 #[.slice A n c, .slice (some ⟨g, 0, none⟩) 1 d] w fun e w' => e = .returned (.int .i64 ((l.count 10 : Nat) : Int)) ∧ w' = w := by
  have hr := run_count (n := n) (c := c) hn h
  clear h hn
  generalize ((l.count 10 : Nat) : Int) = z at *
  go_enter Tryz.func39, Tryz.ntmps39
  go_wp2
  rw [run_callFunc_extern Tryz.func74 (by kernel_rfl) (by kernel_rfl) (by kernel_rfl) (e := Extern.BytealgCount.count) (by kernel_rfl), hr]
  simp only [Result.andThen]
  rw [Oper.upon_value]
  go_wp2
  go_ret
  exact ⟨rfl, rfl⟩
def lastTo (l : Bs) : Nat → Int
  | 0 => -1
  | k + 1 => if l.getD k 0 == 10 then (k : Int) else lastTo l k
theorem lastTo_bd (l : Bs) : ∀ k : Nat, -1 ≤ lastTo l k ∧ lastTo l k < k
  | 0 => by simp [lastTo]
  | k + 1 => by
    unfold lastTo
    have := lastTo_bd l k
    split <;> omega
set_option maxHeartbeats 2000000 in
set_option maxRecDepth 100000 in
theorem baLast_any (A : Option Addr) (l : Bs) (n c : Nat) (w : World) (hn : n = l.length) (hbig : l.length ≤ 140737488355328) (h : Cells w A (bcells l)) (z : Int) (hz : Hid (lastTo l l.length = z)) :
    Calls Tryz.prog 76 #[.slice A n c, .int .u8 10] w fun e w' => e = .returned (.int .i64 z) ∧ w' = w := by
  subst hn
  have HC := Lib.hid h
  clear h
  go_enter Tryz.func76, Tryz.ntmps76
  go_wp2_with fail
  go_loop [5] (fun i => ∃ k : Nat, k ≤ l.length ∧ i = .int .i64 ((k : Int) - 1) ∧ Hid (lastTo l k = z)) (fun i => (intOf i + 1).toNat)
  case atStart => exact ⟨l.length, Nat.le_refl _, rfl, hz⟩
  case round =>
    obtain ⟨k, hk, rfl, HZ⟩ := hrel
    cases k with
    | zero =>
      have HE : Hid (z = -1) := Lib.hid (by rw [← HZ.out]; rfl)
      go_wp2_with fail
      go_ret
      exact ⟨ret_int HE.out.symm, rfl⟩
    | succ k =>
      rw [show (((k + 1 : Nat) : Int) - 1) = (k : Int) from by omega]
      have hkl : k < l.length := by omega
      obtain ⟨b, off, hA, hb, hcc⟩ := HC.out.at_ (by rw [bcells_len]; omega)
      subst hA
      have e0 : w.cell? ⟨b, off + k, none⟩ = some (.int .u8 (l[k].toNat : Int)) := by rw [hcc k (by rw [bcells_len]; omega), bcells_at l k hkl]
      have hzz := HZ.out
      unfold lastTo at hzz
      rw [show l.getD k 0 = l[k] from by simp [hkl]] at hzz
      have HZZ := Lib.hid hzz
      clear hcc hzz HZ
      have q0 : (k : Int) < (l.length : Int) := by omega
      generalize l[k] = x at *
      by_cases hx : x = 10
      · subst hx
        have e0' : w.cell? ⟨b, off + k, none⟩ = some (.int .u8 10) := e0
        clear e0
        have HE : Hid (z = (k : Int)) := Lib.hid (by rw [← HZZ.out]; rfl)
        go_wp2_with fail
        go_ret
        exact ⟨ret_int HE.out.symm, rfl⟩
      · have d1 : ((x.toNat : Int) == 10) = false := by
          rw [beq_eq_false_iff_ne]
          intro h
          apply hx
          have : x.toNat = 10 := by omega
          exact UInt8.toNat_inj.1 this
        have HE : Hid (lastTo l k = z) := Lib.hid (by rw [← HZZ.out, if_neg (by simpa using hx)])
        go_wp2_with fail
        go_round
        case rel => exact ⟨k, by omega, rfl, HE⟩
        case measure => simp [intOf]
theorem last_any (A : Option Addr) (l : Bs) (n c : Nat) (w : World) (hn : n = l.length) (hbig : l.length ≤ 140737488355328) (h : Cells w A (bcells l)) (z : Int) (hz : Hid (lastTo l l.length = z)) :
    Calls Tryz.prog 40 #[.slice A n c, .int .u8 10] w fun e w' => e = .returned (.int .i64 z) ∧ w' = w := by
  have H := Lib.hid (baLast_any A l n c w hn hbig h z hz)
  clear h hn hz
  go_enter Tryz.func40, Tryz.ntmps40
  go_wp2_with fail
  refine H.out.mono ?_
  rintro e w' ⟨rfl, rfl⟩
  go_wp2_with fail
  go_ret
  exact ⟨rfl, rfl⟩
theorem Blk.newAt2 {w : World} {t : TypeId} {cs : Array Value} {g : Nat} (hg : w.heap.size = g) : Blk (w.alloc (.cells cs t)) g t cs := by subst hg; exact Blk.new _ _ _
def atN (at_ : Int) (n : Nat) : Nat := (max 0 (min at_ (n : Int))).toNat
theorem atN_le (at_ : Int) (n : Nat) : atN at_ n ≤ n := by unfold atN; omega
def lineN (l : Bs) (k : Nat) : Int := ((l.take k).count 10 : Nat) + 1
def colN (l : Bs) (k : Nat) : Int := (k : Int) - lastTo (l.take k) k
set_option maxHeartbeats 2000000 in
set_option maxRecDepth 100000 in
theorem new_any (A : Option Addr) (l : Bs) (n c : Nat) (at_ er : Int) (w : World) (hn : n = l.length) (hbig : l.length ≤ 140737488355328) (hcap : l.length ≤ c) (hat1 : -9223372036854775808 ≤ at_) (hat2 : at_ ≤ 9223372036854775807) (h : Cells w A (bcells l)) (her : er ≠ 0) :
    Calls Tryz.prog 21 #[.slice A n c, .int .i64 at_, .int .i64 er] w fun e w' => ∃ g, e = .returned (.iface 70 (.pointer (some ⟨g, 0, none⟩))) ∧ w.heap.size ≤ g ∧ Blk w' g 74 #[.int .i64 (atN at_ l.length : Int), .int .i64 (lineN l (atN at_ l.length)), .int .i64 (colN l (atN at_ l.length)), .int .i64 er] ∧ Ext w w' := by
  subst hn
  have HC := Lib.hid h
  clear h
  have d0 : (er == 0) = false := by rw [beq_eq_false_iff_ne]; exact her
  go_enter Tryz.func21, Tryz.ntmps21
  go_wp2_with fail
  have hq : max 0 (min at_ (l.length : Int)) = ((atN at_ l.length : Nat) : Int) := by unfold atN; omega
  have hql := atN_le at_ l.length
  rw [hq, Int.toNat_natCast]
  clear hq
  generalize hqe : atN at_ l.length = q at *
  have HQE := Lib.hid hqe
  clear hqe
  have hcs : Cells w A (bcells (l.take q)) := by
    have h := cells_cut HC.out hcap 0 q
    rw [List.drop_zero] at h
    unfold cutA at h
    split at h
    · exact h
    · cases A with
      | none => exact h
      | some x => exact h
  have htl : (l.take q).length = q := by simp; omega
  have HTL := Lib.hid htl
  have HCS := Lib.hid (hcs.ext (Ext.alloc w (.cells #[.int .u8 10] 5)))
  obtain ⟨cn, HCN⟩ : ∃ cn : Nat, Hid ((l.take q).count 10 = cn) := ⟨_, Lib.hid rfl⟩
  have hcn : cn ≤ 140737488355328 := by
    have := List.count_le_length (a := (10 : UInt8)) (l := l.take q)
    rw [HCN.out] at this
    omega
  obtain ⟨z, HZ⟩ : ∃ z, Hid (lastTo (l.take q) q = z) := ⟨_, Lib.hid rfl⟩
  have hz := lastTo_bd (l.take q) q
  rw [HZ.out] at hz
  obtain ⟨hz1, hz2⟩ := hz
  clear hcs htl
  refine (count_any A (l.take q) q c w.heap.size 1 _ (by rw [HTL.out]) HCS.out (by simp)).mono ?_
  rintro e w' ⟨rfl, rfl⟩
  rw [HCN.out]
  go_wp2_with fail
  refine (last_any A (l.take q) q c _ (by rw [HTL.out]) (by rw [HTL.out]; omega) HCS.out z (by rw [HTL.out]; exact HZ)).mono ?_
  rintro e w' ⟨rfl, rfl⟩
  go_wp2_with fail
  go_ret
  have h1 : lineN l q = (cn : Int) + 1 := by unfold lineN; rw [HCN.out]
  have h2 : colN l q = (q : Int) - z := by unfold colN; rw [HZ.out]
  rw [HQE.out, h1, h2]
  exact ⟨_, rfl, by simp, Blk.newAt2 (by simp), (Ext.alloc _ _).trans (Ext.alloc _ _)⟩
end Go.Proofs.YtcccnicldbpieaaGreatDoor
