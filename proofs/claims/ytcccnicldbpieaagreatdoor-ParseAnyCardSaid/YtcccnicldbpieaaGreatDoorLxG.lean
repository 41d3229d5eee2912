/- lex.Lex, walked. Condition: the source's cells are known. -/
import Derived.Test.YtcccnicldbpieaaGreatDoorLxF
import Derived.Test.YtcccnicldbpieaaGreatDoorDgA
namespace Go.Proofs.YtcccnicldbpieaaGreatDoor
open Go Go.RowKit
set_option linter.unusedVariables false
set_option linter.unusedSimpArgs false
def kcell (t : Tok) : List Value := [.int .u8 (t.kind : Int), .int .i64 (t.at_ : Int), .int .i64 (t.en : Int), .string (bstr t.text), .int .i64 t.n]
def kcells (l : List Tok) : List Value := l.flatMap kcell
theorem kcells_len (l : List Tok) : (kcells l).length = l.length * 5 := by
  unfold kcells
  induction l with
  | nil => rfl
  | cons t l ih => rw [List.flatMap_cons, List.length_append, ih, List.length_cons]; show 5 + _ = _; omega
theorem kcells_snoc (l : List Tok) (t : Tok) : kcells (l ++ [t]) = kcells l ++ kcell t := by simp [kcells]
def lexS (l : Bs) : LexR := if 65536 < l.length then .err 0 3 else lexL 0 l
def LexPost (l : Bs) (w : World) (r : LexR) (e : Ending) (w' : World) : Prop := Ext w w' ∧ match r with
  | .ok ts => ∃ A' c', e = .returned (.tuple #[.slice A' ts.length c', .nilIface]) ∧ (A' = none → c' = 0) ∧ w'.ownsRow w.heap.size 46 5 (.slice A' ts.length c') ts.length (kcells ts)
  | .err a er => ∃ g, e = .returned (.tuple #[.slice none 0 0, .iface 70 (.pointer (some ⟨g, 0, none⟩))]) ∧ w.heap.size ≤ g ∧ Blk w' g 74 #[.int .i64 (a : Int), .int .i64 (lineN l a), .int .i64 (colN l a), .int .i64 er]
theorem infoToken : (Tryz.prog.info? 46).map (fun i => (i.zero, i.size, i.bytes)) = some (some (.agg #[.int .u8 0, .int .i64 0, .int .i64 0, .string ⟨#[]⟩, .int .i64 0]), 5, 48) := by kernel_rfl
theorem cells_block {w : World} {A : Option Addr} {cs : List Value} (h : Cells w A cs) (h0 : 0 < cs.length) (b off : Nat) (e : A = some ⟨b, off, none⟩) : b < w.heap.size := by
  obtain ⟨b', off', e', hb, _⟩ := h.at_ h0
  rw [e] at e'
  injection e' with e'
  injection e' with e'
  subst e'
  exact hb
theorem ends5 {t : Tok} : ∀ u ∈ kcell t, u.oneCell' = true := by
  intro u hu
  simp only [kcell, List.mem_cons, List.not_mem_nil, or_false] at hu
  rcases hu with rfl | rfl | rfl | rfl | rfl <;> rfl
theorem Cells.newAt {w : World} {t : TypeId} {cs : Array Value} {g : Nat} {l : List Value} (hg : w.heap.size = g) (hl : cs.toList = l := by rfl) : Cells (w.alloc (.cells cs t)) (some ⟨g, 0, none⟩) l := by subst hg hl; exact Cells.new _ _ _
theorem atN_nat (k n : Nat) (h : k ≤ n) : atN (k : Int) n = k := by unfold atN; omega
set_option maxHeartbeats 4000000 in
set_option maxRecDepth 100000 in
theorem lex_limit (A : Option Addr) (l : Bs) (n c : Nat) (w : World) (hn : n = l.length) (hbig : l.length ≤ 140737488355328) (hcap : l.length ≤ c) (h : Cells w A (bcells l)) (hlim : 65536 < l.length) :
    Calls Tryz.prog 15 #[.slice A n c] w (LexPost l w (lexS l)) := by
  subst hn
  have HC := Lib.hid h
  clear h
  have HS : Hid (lexS l = .err 0 3) := Lib.hid (by unfold lexS; rw [if_pos hlim])
  go_enter Tryz.func15, Tryz.ntmps15
  go_wp2_with fail
  refine (new_any A l l.length c 0 3 w rfl hbig hcap (by omega) (by omega) HC.out (by decide)).mono ?_
  rintro e w' ⟨g, rfl, hg, hb, hx⟩
  rw [show atN 0 l.length = 0 from by unfold atN; omega] at hb
  go_wp2_with fail
  go_ret2
  rw [HS.out]
  exact ⟨hx, g, rfl, hg, hb⟩
set_option maxHeartbeats 8000000 in
set_option maxRecDepth 100000 in
theorem lex_in (A : Option Addr) (l : Bs) (n c : Nat) (w : World) (hn : n = l.length) (hcap : l.length ≤ c) (hnil : A = none → c = 0) (h : Cells w A (bcells l)) (hlim : l.length ≤ 65536) :
    Calls Tryz.prog 15 #[.slice A n c] w (LexPost l w (lexS l)) := by
  subst hn
  obtain ⟨i0, hi, hz0, hz1, hz2⟩ := info_parts infoToken
  have HC := Lib.hid h
  have HN := Lib.hid hnil
  have HS : Hid (lexS l = lexL 0 l) := Lib.hid (by unfold lexS; rw [if_neg (by omega)])
  have HX0 : Hid (Ext w (w.alloc (.cells #[.slice A l.length c, .int .i64 0] 80))) := Lib.hid (Ext.alloc _ _)
  have HR0 : Hid (Rd (w.alloc (.cells #[.slice A l.length c, .int .i64 0] 80)) w.heap.size A l c 0) := Lib.hid ⟨Blk.new _ _ _, h.ext (Ext.alloc _ _), fun h0 b off e => by
    have := cells_block h (by rw [bcells_len]; exact h0) b off e
    omega, Nat.zero_le _, hcap, hnil, by omega⟩
  clear h hnil
  go_enter Tryz.func15, Tryz.ntmps15
  go_wp2_with fail
  refine (skip_any w.heap.size A l c 0 _ HR0.out).mono ?_
  rintro e w1 ⟨rfl, k1, _, hm1, hr1, hl1, hh1⟩
  rw [List.drop_zero] at hl1
  have HX1 := Lib.hid (hm1.ext HX0.out (Nat.le_refl _))
  have HR1 := Lib.hid hr1
  have HL1 := Lib.hid hl1
  have HH1 := Lib.hid hh1
  clear HX0 HR0 hm1 hr1 hl1 hh1
  obtain ⟨g, hg⟩ : ∃ g, w.heap.size = g := ⟨_, rfl⟩
  rw [hg] at HR1 ⊢
  have HG := Lib.hid hg
  clear hg
  go_wp2_with fail
  go_loopg [5] (l.length - k1) (fun gk out wr => ∃ (k : Nat) (lo : List Tok) (A' : Option Addr) (c' : Nat), k ≤ l.length ∧ gk = l.length - k ∧ lo.length ≤ k ∧ out = .slice A' lo.length c' ∧ Hid ((A' = none → c' = 0) ∧ wr.ownsRow w.heap.size 46 5 (.slice A' lo.length c') lo.length (kcells lo) ∧ Rd wr g A l c k ∧ Ext w wr ∧ lexL 0 l = (lexL k (l.drop k)).pre lo ∧ ∀ x, (l.drop k).head? = some x → blankB x = false ∧ (x == 35) = false))
  case atStart => exact ⟨k1, [], none, 0, HR1.out.le, rfl, Nat.zero_le _, rfl, Lib.hid ⟨fun _ => rfl, World.ownsRow_nil _ _ _ _, HR1.out, HX1.out, by rw [pre_nil]; exact HL1.out, HH1.out⟩⟩
  case round =>
    obtain ⟨k, lo, A', c', hk, rfl, hlo, rfl, HW⟩ := hrel
    obtain ⟨wa, rfl⟩ : ∃ wa : World, wa = wr := ⟨_, rfl⟩
    have b1 : wa.cell? ⟨g, 1, none⟩ = some (.int .i64 (k : Int)) := HW.out.2.2.1.blk.cell 1
    by_cases hlt : k < l.length
    · have d0 : decide ((k : Int) < (l.length : Int)) = true := decide_eq_true (by omega)
      have hhd := HW.out.2.2.2.2.2 l[k] (by rw [List.drop_eq_getElem_cons hlt]; rfl)
      go_wp2_with fail
      refine (next_any g A l c k wa HW.out.2.2.1 hlt hhd.1 hhd.2).mono ?_
      rintro e w2 ⟨hm, ⟨kd, j, n, hst, rfl, hrd⟩ | ⟨er, kd, en, x, n, hst, her, rfl⟩⟩
      · have HST := Lib.hid (lexL_tok (p := k) hst)
        have hj : 1 ≤ j := by
          have hw := step_wide (l.drop k)
          rw [hst] at hw
          exact hw.1
        have HO2 := Lib.hid (hm.own HW.out.2.1 (own_differ HW.out.2.1 HW.out.2.2.1.blk (by decide)))
        have HX2 := Lib.hid (hm.ext HW.out.2.2.2.1 (by rw [HG.out]; exact Nat.le_refl _))
        have HR2 := Lib.hid hrd
        have HA2 := Lib.hid HW.out.1
        have HLX := Lib.hid HW.out.2.2.2.2.1
        have hkj := hrd.le
        obtain ⟨tx, HTX⟩ : ∃ tx, Hid ((l.drop k).take j = tx) := ⟨_, Lib.hid rfl⟩
        rw [HTX.out] at HST
        rw [HTX.out]
        dsimp only [tokV]
        obtain ⟨en, HEN⟩ : ∃ en, Hid (k + j = en) := ⟨_, Lib.hid rfl⟩
        have hen : k + 1 ≤ en := by have := HEN.out; omega
        rw [HEN.out] at HST HR2 hkj ⊢
        clear hst hm hrd HW b1 hhd
        go_wp2_with (at_builtin; refine wpList_grow rfl (.tmp 39) (.tmp 41) 41 rfl w.heap.size 46 i0 _ 5 48 Tryz.underlying41 hi hz0 hz1 hz2 rfl (by decide) _ _ _ rfl ((HO2.out.alloc _).alloc _) _ 1 1 (kcell ⟨kd, k, en, tx, n⟩) rfl (by simp) rfl (by exact (Cells.newAt (by simp))) ends5 (by unfold maxLen; omega) (by omega) (by have := HX2.out.size; simp; omega) ?_; intro A4 c4 w4 z4 hown4 hg4)
        have hown4' : w4.ownsRow w.heap.size 46 5 (.slice A4 (lo ++ [(⟨kd, k, en, tx, n⟩ : Tok)]).length c4) (lo ++ [(⟨kd, k, en, tx, n⟩ : Tok)]).length (kcells (lo ++ [(⟨kd, k, en, tx, n⟩ : Tok)])) := by rw [kcells_snoc, List.length_append]; exact hown4
        have hx4 : Ext w w4 := Below.grown ((HX2.out.trans (Ext.alloc _ _)).trans (Ext.alloc _ _)) hg4 (by have := HX2.out.size; simp; omega) (fun q hq => (HO2.out.lt q hq).1)
        have hb4 : Blk w4 g 80 #[.slice A l.length c, .int .i64 (en : Int)] := (((HR2.out.blk.alloc _).alloc _)).grown hg4 (fun e => own_differ HO2.out HR2.out.blk (by decide) e.symm)
        have HR4 : Hid (Rd w4 g A l c en) := Lib.hid ⟨hb4, HC.out.ext hx4, HR2.out.far, hkj, hcap, HR2.out.nil_, by omega⟩
        have HO4 := Lib.hid hown4'
        have HX4 := Lib.hid hx4
        clear hown4 hown4' hx4 hb4 hg4 HO2 HX2 HR2
        go_wp2_with fail
        refine (skip_any g A l c en w4 HR4.out).mono ?_
        rintro e w5 ⟨rfl, k3, hk3, hm5, hr5, hl5, hh5⟩
        have HO5 := Lib.hid (hm5.own HO4.out (own_differ HO4.out HR4.out.blk (by decide)))
        have HX5 := Lib.hid (hm5.ext HX4.out (by rw [HG.out]; exact Nat.le_refl _))
        have HR5 := Lib.hid hr5
        have HL5 := Lib.hid hl5
        have HH5 := Lib.hid hh5
        have hk5 := hr5.le
        clear hm5 hr5 hl5 hh5
        go_wp2_with fail
        go_roundg (l.length - k3)
        case measure => omega
        case rel =>
          refine ⟨k3, lo ++ [⟨kd, k, en, tx, n⟩], A4, c4, hk5, rfl, by simp; omega, by simp, Lib.hid ⟨z4, HO5.out, HR5.out, HX5.out, ?_, HH5.out⟩⟩
          rw [HLX.out, HST.out, pre_snoc, List.drop_drop, HEN.out, HL5.out]
      · have HR := Lib.hid (lexL_bad (p := k) hst)
        dsimp only [tokV]
        have d1 : (er != 0) = true := by rw [bne_iff_ne]; exact her
        have HX2 := Lib.hid (hm.ext HW.out.2.2.2.1 (by rw [HG.out]; exact Nat.le_refl _))
        have HX3 : Hid (Ext w (w2.alloc (.cells #[.int .u8 (kd : Int), .int .i64 (k : Int), .int .i64 (en : Int), .string (bstr x), .int .i64 n] 46))) := Lib.hid (HX2.out.trans (Ext.alloc _ _))
        clear hst her hm
        go_wp2_with fail
        refine (new_any A l l.length c (k : Int) er _ rfl (by omega) hcap (by omega) (by omega) (HC.out.ext HX3.out) (by simpa using d1)).mono ?_
        rintro e w' ⟨g2, rfl, hg2, hb2, hx2⟩
        rw [atN_nat k _ hk] at hb2
        go_wp2_with fail
        go_ret2
        rw [HS.out, HW.out.2.2.2.2.1, HR.out]
        exact ⟨HX3.out.trans hx2, g2, rfl, Nat.le_trans HX3.out.size hg2, hb2⟩
    · obtain rfl : k = l.length := by omega
      have d0 : decide ((l.length : Int) < (l.length : Int)) = false := by simp
      have HO2 := Lib.hid HW.out.2.1
      have HX2 := Lib.hid HW.out.2.2.2.1
      have HLX := Lib.hid HW.out.2.2.2.2.1
      clear HW
      go_wp2_with (at_builtin; refine wpList_grow rfl (.tmp 43) (.tmp 49) 41 rfl w.heap.size 46 i0 _ 5 48 Tryz.underlying41 hi hz0 hz1 hz2 rfl (by decide) _ _ _ rfl (HO2.out.alloc _) _ 1 1 (kcell ⟨4, l.length, l.length, [], 0⟩) rfl (by simp) rfl (by exact (Cells.newAt rfl)) ends5 (by unfold maxLen; omega) (by omega) (by have := HX2.out.size; simp; omega) ?_; intro A4 c4 w4 z4 hown4 hg4)
      have hown4' : w4.ownsRow w.heap.size 46 5 (.slice A4 (lo ++ [(⟨4, l.length, l.length, [], 0⟩ : Tok)]).length c4) (lo ++ [(⟨4, l.length, l.length, [], 0⟩ : Tok)]).length (kcells (lo ++ [(⟨4, l.length, l.length, [], 0⟩ : Tok)])) := by rw [kcells_snoc, List.length_append]; exact hown4
      have HX4 : Hid (Ext w w4) := Lib.hid (Below.grown (HX2.out.trans (Ext.alloc _ _)) hg4 (by have := HX2.out.size; simp; omega) (fun q hq => (HO2.out.lt q hq).1))
      have HO4 := Lib.hid hown4'
      clear hown4 hown4' hg4
      go_wp2_with fail
      go_ret2
      rw [HS.out, HLX.out, List.drop_eq_nil_of_le (Nat.le_refl _), lexL_fin]
      exact ⟨HX4.out, A4, c4, by simp, z4, HO4.out⟩
theorem lex_any (A : Option Addr) (l : Bs) (n c : Nat) (w : World) (hn : n = l.length) (hbig : l.length ≤ 140737488355328) (hcap : l.length ≤ c) (hnil : A = none → c = 0) (h : Cells w A (bcells l)) :
    Calls Tryz.prog 15 #[.slice A n c] w (LexPost l w (lexS l)) := by
  by_cases hlim : 65536 < l.length
  · exact lex_limit A l n c w hn hbig hcap h hlim
  · exact lex_in A l n c w hn hcap hnil h (by omega)
end Go.Proofs.YtcccnicldbpieaaGreatDoor
