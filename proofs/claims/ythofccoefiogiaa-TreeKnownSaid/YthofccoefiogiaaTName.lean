/- Names, told by the program and by the document. -/
import Derived.Test.YthofccoefiogiaaTPreds
import Derived.Lib.Bytealg
import Derived.Deep.LoopGhost
import Derived.RegionTactic
import Derived.Laws.Externs
import Derived.Laws.IdiomStrings
namespace Go.Proofs.Ythofccoefiogiaa
open Go Go.RowKit
set_option linter.unusedVariables false
set_option linter.unusedSimpArgs false
def idxB (s : ByteArray) (c : Int) : Int := Lib.indexByte s.data.toList c.toNat.toUInt8
theorem ext_run (s : ByteArray) (c : Int) (w : World) : (callFunc 132 #[.string s, .int .u8 c]).run Try.prog w = .ok (.value (.int .i64 (idxB s c))) w := by
  rw [run_callFunc_extern Try.func132 (by kernel_rfl) (by kernel_rfl) (by kernel_rfl) (e := Extern.BytealgIndexByte.indexByte) (by kernel_rfl), Lib.run_indexByteString]
  rfl
set_option maxRecDepth 100000 in
theorem lIndexByte_any (s : ByteArray) (c : Int) (w : World) : Calls Try.prog 130 #[.string s, .int .u8 c] w fun e w' => e = .returned (.int .i64 (idxB s c)) ∧ w' = w := by
  have he := ext_run
  go_enter Try.func130, Try.ntmps130
  go_wp2
  go_ret
  exact ⟨rfl, rfl⟩
theorem IndexByte_any (s : ByteArray) (c : Int) (w : World) : Calls Try.prog 121 #[.string s, .int .u8 c] w fun e w' => e = .returned (.int .i64 (idxB s c)) ∧ w' = w := by
  go_enter Try.func121, Try.ntmps121
  go_wp2_with (refine (lIndexByte_any _ _ _).mono ?_; rintro e w' ⟨rfl, rfl⟩)
  go_ret
  exact ⟨rfl, rfl⟩
theorem IndexByte_v (s : ByteArray) (c v : Int) (h : Hid (idxB s c = v)) (w : World) : Calls Try.prog 121 #[.string s, .int .u8 c] w fun e w' => e = .returned (.int .i64 v) ∧ w' = w := by
  rw [← h.out]
  exact IndexByte_any s c w
def scells (l : List UInt8) : List Value := l.map fun b => Value.int .u8 (b.toNat : Int)
theorem scells_len (l : List UInt8) : (scells l).length = l.length := by simp [scells]
theorem scells_at (l : List UInt8) (k : Nat) (h : k < l.length) : (scells l)[k]? = some (.int .u8 (l[k].toNat : Int)) := by simp [scells, h]
/-- How far bytes of a set go on. -/
def scan (p : UInt8 → Bool) (l : List UInt8) : Nat := (l.takeWhile p).length
theorem scan_le (p : UInt8 → Bool) (l : List UInt8) : scan p l ≤ l.length := by
  unfold scan
  exact (List.takeWhile_sublist p).length_le
theorem scan_yes {p : UInt8 → Bool} {l : List UInt8} {k : Nat} (hk : k < l.length) (h : p l[k] = true) : scan p (l.drop k) = scan p (l.drop (k + 1)) + 1 := by
  unfold scan
  rw [List.drop_eq_getElem_cons hk, List.takeWhile_cons, if_pos h]
  rfl
theorem scan_no {p : UInt8 → Bool} {l : List UInt8} {k : Nat} (hk : k < l.length) (h : p l[k] = false) : scan p (l.drop k) = 0 := by
  unfold scan
  rw [List.drop_eq_getElem_cons hk, List.takeWhile_cons, if_neg (by rw [h]; exact Bool.false_ne_true)]
  rfl
theorem scan_end (p : UInt8 → Bool) (l : List UInt8) : scan p (l.drop l.length) = 0 := by simp [scan]
theorem src_far {w : World} {g b off n c at_ : Nat} {A : Option Addr} {l : List UInt8} (hg : Blk w g 169 #[.slice A n c, .int .i64 at_]) (k : Nat) (hk : k < l.length) (hs : Cells w (some ⟨b, off, none⟩) (scells l)) : b ≠ g := by
  rintro rfl
  obtain ⟨b', off', hA, _, hc⟩ := hs.at_ (by rw [scells_len]; omega)
  injection hA with hA
  injection hA with h1 h2
  subst h1 h2
  have h0 := (hc k (by rw [scells_len]; exact hk)).trans (scells_at l k hk)
  rw [hg.cell] at h0
  match h : off + k with
  | 0 => rw [h] at h0; simp at h0
  | 1 => rw [h] at h0; simp at h0
  | n + 2 => rw [h] at h0; simp at h0
theorem touch_trans {g : Nat} {a b c : World} (h : Touch g a b) (k : Touch g b c) : Touch g a c :=
  ⟨k.os.trans h.os, k.tape.trans h.tape, k.output.trans h.output, k.size.trans h.size, fun i hi => (k.other i hi).trans (h.other i hi)⟩
theorem touch_refl (g : Nat) (a : World) : Touch g a a := ⟨rfl, rfl, rfl, rfl, fun _ _ => rfl⟩
theorem touch_drew (g : Nat) (a : World) (n : Nat) : Touch g a (a.drewN n) := by
  induction n with
  | zero => exact touch_refl g a
  | succ n ih => exact touch_trans ih ⟨rfl, rfl, rfl, rfl, fun _ _ => rfl⟩
theorem touch_set {g i : Nat} (a : World) (u : Value) : Touch g a (a.setCell ⟨g, i, none⟩ u) := ⟨rfl, rfl, rfl, by simp [World.setCell], fun k hk => Below.heap_setCell a _ u k hk⟩
theorem blk_drew {w : World} {g : Nat} {t : TypeId} {cs : Array Value} (h : Blk w g t cs) (n : Nat) : Blk (w.drewN n) g t cs := by
  induction n with
  | zero => exact h
  | succ n ih => exact ih
/-- What a set of bytes is: the test of being in it. -/
def IsSet (set : ByteArray) (p : UInt8 → Bool) : Prop := ∀ c : UInt8, ((0 ≤ idxB set (c.toNat : Int)) ↔ p c = true)
theorem touch_cell {w w' : World} {g b off n c at_ : Nat} {A : Option Addr} {l : List UInt8} (hg : Blk w g 169 #[.slice A n c, .int .i64 at_]) (hs : Cells w (some ⟨b, off, none⟩) (scells l)) (ht : Touch g w w') (k : Nat) (hk : k < l.length) :
    w'.cell? ⟨b, off + k, none⟩ = some (.int .u8 (l[k].toNat : Int)) := by
  have hbg : b ≠ g := src_far hg k hk hs
  obtain ⟨b', off', hA, _, hcc⟩ := (ht.cells hs (by rintro _ _ ⟨⟩; exact hbg)).at_ (by rw [scells_len]; omega)
  injection hA with hA
  injection hA with h1 h2
  subst h1 h2
  exact (hcc k (by rw [scells_len]; exact hk)).trans (scells_at l k hk)
theorem conv_cut {w w' : World} {g b off n c at_ : Nat} {A : Option Addr} {l : List UInt8} (hg : Blk w g 169 #[.slice A n c, .int .i64 at_]) (hs : Cells w (some ⟨b, off, none⟩) (scells l)) (ht : Touch g w w') (i k cap : Nat) (hik : i ≤ k) (hk : k ≤ l.length) :
    (convert 80 9 (.slice (some ⟨b, off + i, none⟩) (k - i) cap)).run Try.prog w' = .ok (.string ⟨((l.drop i).take (k - i)).toArray⟩) w' := by
  have h := run_convert_bytes_back (P := Try.prog) w' 80 9 5 ⟨b, off + i, none⟩ cap ((l.drop i).take (k - i)) Try.underlying80 Try.underlying5 Try.underlying9 (fun j hj => by
    have hj' : j < k - i := by simp at hj; omega
    have := touch_cell hg hs ht (i + j) (by omega)
    unfold Addr.add
    by_cases h0 : j = 0
    · subst h0; simpa using this
    · simp only [h0, if_false]; rw [Nat.add_assoc, this]; simp)
  have hl : ((l.drop i).take (k - i)).length = k - i := by simp; omega
  rw [hl] at h
  exact h
set_option maxRecDepth 100000 in
set_option maxHeartbeats 8000000 in
theorem while_any (set : ByteArray) (p : UInt8 → Bool) (hp : IsSet set p) (g b off n c at_ : Nat) (l : List UInt8) (w : World) (hn : n = l.length) (hc : n ≤ c) (hlen : l.length ≤ 4611686018427387904) (hat : at_ ≤ l.length)
    (hg : Blk w g 169 #[.slice (some ⟨b, off, none⟩) n c, .int .i64 at_]) (hs : Cells w (some ⟨b, off, none⟩) (scells l)) :
    Calls Try.prog 122 #[.pointer (some ⟨g, 0, none⟩), .string set] w fun e w' => e = .returned (.string ⟨((l.drop at_).take (scan p (l.drop at_))).toArray⟩) ∧ Touch g w w' ∧ Blk w' g 169 #[.slice (some ⟨b, off, none⟩) n c, .int .i64 ((at_ + scan p (l.drop at_) : Nat) : Int)] := by
  subst hn
  have HP := Lib.hid hp
  have HS := Lib.hid hs
  have HG := Lib.hid hg
  have x0 := hg.cell 0
  have x1 := hg.cell 1
  clear hp hs hg
  go_enter Try.func122, Try.ntmps122
  go_wp2_with fail
  clear x0 x1
  go_loopg [] (l.length - at_) (fun m wr => ∃ k : Nat, at_ ≤ k ∧ k ≤ l.length ∧ m = l.length - k ∧ Hid (k + scan p (l.drop k) = at_ + scan p (l.drop at_)) ∧ Hid (Touch g w wr) ∧ Hid (Blk wr g 169 #[.slice (some ⟨b, off, none⟩) l.length c, .int .i64 k]))
  case atStart => exact ⟨at_, Nat.le_refl _, hat, rfl, Lib.hid rfl, Lib.hid (touch_refl _ _), HG⟩
  case round =>
    obtain ⟨k, hk0, hk, hm, HK, HT, HB⟩ := hrel
    have HM := Lib.hid hm
    clear hm
    have x0 := HB.out.cell 0
    have x1 := HB.out.cell 1
    have y0 := HB.out.frozen 1
    by_cases hlt : k < l.length
    · have d0 : decide ((k : Int) < (l.length : Int)) = true := decide_eq_true (by omega)
      have hcell : wr.cell? ⟨b, off + k, none⟩ = some (.int .u8 (l[k].toNat : Int)) := touch_cell HG.out HS.out HT.out k hlt
      obtain ⟨v, HV⟩ : ∃ v, Hid (idxB set (l[k].toNat : Int) = v) := ⟨_, Lib.hid rfl⟩
      have q0 : (k : Int) < (l.length : Int) := by omega
      by_cases hpk : p l[k] = true
      · have hv0 : 0 ≤ v := by rw [← HV.out]; exact (HP.out _).2 hpk
        have d1 : decide (0 ≤ v) = true := decide_eq_true hv0
        have HK1 : Hid (k + 1 + scan p (l.drop (k + 1)) = at_ + scan p (l.drop at_)) := Lib.hid (by rw [← HK.out, scan_yes hlt hpk]; omega)
        have HQ := Lib.hid hpk
        clear hpk
        go_wp2_with fail
        go_quiet ((go_at_call 121; exact Calls.quiet_of_same (IndexByte_v set _ v HV _)))
        rename_i nq
        have HT1 : Hid (Touch g w (wr.drewN nq)) := Lib.hid (touch_trans HT.out (touch_drew g wr nq))
        have HB1 := Lib.hid (blk_drew HB.out nq)
        clear HT HB x0 x1 y0 hcell
        generalize wr.drewN nq = wd at *
        have x0 := HB1.out.cell 0
        have x1 := HB1.out.cell 1
        have y0 := HB1.out.frozen 1
        go_wp2_with fail
        go_roundg (l.length - (k + 1))
        case measure => have := HM.out; omega
        case rel => 
          exact ⟨k + 1, by omega, by omega, rfl, HK1, Lib.hid (touch_trans HT1.out (touch_set _ _)), Lib.hid (HB1.out.put 1 _)⟩
      · have hv0 : v < 0 := by
          have := (HP.out l[k])
          rw [HV.out] at this
          by_cases h : 0 ≤ v
          · exact absurd (this.1 h) hpk
          · omega
        have d1 : decide (0 ≤ v) = false := decide_eq_false (by omega)
        have HE : Hid (k = at_ + scan p (l.drop at_)) := Lib.hid (by rw [← HK.out]; rw [scan_no hlt (by simpa using hpk)]; rfl)
        have HR : Hid (((l.drop at_).take (k - at_)).toArray = ((l.drop at_).take (scan p (l.drop at_))).toArray) := Lib.hid (by rw [show k - at_ = scan p (l.drop at_) from by have := HE.out; omega])
        have hw : IntKind.i64.wrap ((k : Int) - (at_ : Int)) = (k : Int) - (at_ : Int) := by rw [IntKind.wrap_i64]; omega
        clear hpk hv0
        go_wp2_with fail
        go_quiet ((go_at_call 121; exact Calls.quiet_of_same (IndexByte_v set _ v HV _)))
        rename_i nq
        have HT1 : Hid (Touch g w (wr.drewN nq)) := Lib.hid (touch_trans HT.out (touch_drew g wr nq))
        have HB1 := Lib.hid (blk_drew HB.out nq)
        clear HT HB x0 x1 y0
        generalize wr.drewN nq = wd at *
        have x0 := HB1.out.cell 0
        have x1 := HB1.out.cell 1
        have hconv : ∀ q, (convert 80 9 (.slice (some ⟨b, off + at_, none⟩) (k - at_) (c - at_))).run Try.prog (wd.drewN q) = .ok (.string ⟨((l.drop at_).take (k - at_)).toArray⟩) (wd.drewN q) := fun q => conv_cut HG.out HS.out (touch_trans HT1.out (touch_drew g wd q)) at_ k (c - at_) hk0 hk
        go_wp2_with fail
        go_quiet (fail)
        go_wp2_with fail
        go_ret
        have HEo := HE.out
        refine ⟨by rw [← HR.out]; rfl, touch_trans HT1.out (touch_drew g wd _), ?_⟩
        rw [← HEo]
        exact blk_drew HB1.out _
    · obtain rfl : k = l.length := by omega
      have d0 : decide ((l.length : Int) < (l.length : Int)) = false := by simp
      by_cases hac : at_ < c
      · have HE : Hid (l.length = at_ + scan p (l.drop at_)) := Lib.hid (by rw [← HK.out, scan_end]; rfl)
        have HR : Hid (((l.drop at_).take (l.length - at_)).toArray = ((l.drop at_).take (scan p (l.drop at_))).toArray) := Lib.hid (by rw [show l.length - at_ = scan p (l.drop at_) from by have := HE.out; omega])
        have hw : IntKind.i64.wrap ((l.length : Int) - (at_ : Int)) = (l.length : Int) - (at_ : Int) := by rw [IntKind.wrap_i64]; omega
        go_wp2_with fail
        go_quiet (fail)
        rename_i nq
        have HT1 : Hid (Touch g w (wr.drewN nq)) := Lib.hid (touch_trans HT.out (touch_drew g wr nq))
        have HB1 := Lib.hid (blk_drew HB.out nq)
        clear HT HB x0 x1 y0
        generalize wr.drewN nq = wd at *
        have x0 := HB1.out.cell 0
        have x1 := HB1.out.cell 1
        have hconv : ∀ q, (convert 80 9 (.slice (some ⟨b, off + at_, none⟩) (l.length - at_) (c - at_))).run Try.prog (wd.drewN q) = .ok (.string ⟨((l.drop at_).take (l.length - at_)).toArray⟩) (wd.drewN q) := fun q => conv_cut HG.out HS.out (touch_trans HT1.out (touch_drew g wd q)) at_ l.length (c - at_) hk0 hk
        go_wp2_with fail
        go_quiet (fail)
        go_wp2_with fail
        go_ret
        have HEo := HE.out
        refine ⟨by rw [← HR.out]; rfl, touch_trans HT1.out (touch_drew g wd _), ?_⟩
        rw [← HEo]
        exact blk_drew HB1.out _
      · obtain rfl : at_ = l.length := by omega
        obtain rfl : c = l.length := by omega
        have HZ : Hid (scan p (l.drop l.length) = 0) := Lib.hid (scan_end p l)
        have hw : IntKind.i64.wrap ((l.length : Int) - (l.length : Int)) = (l.length : Int) - (l.length : Int) := by rw [IntKind.wrap_i64]; omega
        have hconv : ∀ W, (convert 80 9 (.slice (some ⟨b, off, none⟩) 0 0)).run Try.prog W = .ok (.string ⟨#[]⟩) W := fun W => run_convert_bytes_back (P := Try.prog) W 80 9 5 ⟨b, off, none⟩ 0 [] Try.underlying80 Try.underlying5 Try.underlying9 (fun j hj => by simp at hj)
        go_wp2_with fail
        go_quiet (fail)
        rename_i nq
        have HT1 : Hid (Touch g w (wr.drewN nq)) := Lib.hid (touch_trans HT.out (touch_drew g wr nq))
        have HB1 := Lib.hid (blk_drew HB.out nq)
        clear HT HB x0 x1 y0
        generalize wr.drewN nq = wd at *
        have x0 := HB1.out.cell 0
        have x1 := HB1.out.cell 1
        go_wp2_with fail
        go_quiet (fail)
        go_wp2_with fail
        go_ret
        refine ⟨by rw [HZ.out]; rfl, touch_trans HT1.out (touch_drew g wd _), ?_⟩
        rw [HZ.out]
        exact blk_drew HB1.out _
end Go.Proofs.Ythofccoefiogiaa
