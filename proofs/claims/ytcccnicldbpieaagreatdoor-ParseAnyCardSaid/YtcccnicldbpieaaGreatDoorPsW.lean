/- The program's Parse: what it does behind a panic, and behind none. Condition: the source's cells are known. -/
import Derived.Test.YtcccnicldbpieaaGreatDoorPsV
import Derived.Test.YtcccnicldbpieaaGreatDoorPsN
import Derived.Recover
import Derived.Defers
namespace Go.Proofs.YtcccnicldbpieaaGreatDoor
open Go Go.RowKit
set_option linter.unusedVariables false
set_option linter.unusedSimpArgs false
/-! ### Tokens -/
theorem lexF_last : ∀ (f p : Nat) (s : Bs) (l : List Tok), lexF f p s = .ok l → ∃ m e, l = m ++ [e] ∧ e.kind = 4
  | 0, p, s, l, h => by cases h
  | f + 1, p, s, l, h => by
    unfold lexF at h
    split at h
    · injection h with h
      subst h
      exact ⟨[], _, rfl, rfl⟩
    · exact lexF_last f _ _ l h
    · rename_i kd k n hs
      cases hr : lexF f (p + k) (s.drop k) with
      | err a e => rw [hr] at h; cases h
      | ok m =>
        rw [hr] at h
        obtain ⟨m', e, rfl, he⟩ := lexF_last f _ _ m hr
        injection h with h
        subst h
        exact ⟨_ :: m', e, rfl, he⟩
    · cases h
theorem lexF_high : ∀ (f p : Nat) (s : Bs) (l : List Tok), s.length < f → lexF f p s = .ok l → l.length ≤ s.length + 1 ∧ ∀ t ∈ l, t.at_ ≤ p + s.length
  | 0, p, s, l, hf, h => by cases h
  | f + 1, p, s, l, hf, h => by
    have hw := step_wide s
    unfold lexF at h
    split at h
    · injection h with h
      subst h
      refine ⟨by simp, fun t ht => ?_⟩
      rw [List.mem_singleton.1 ht]
      simp
    · rename_i k hs
      rw [hs] at hw
      obtain ⟨h1, h2⟩ : 1 ≤ k ∧ k ≤ s.length := hw
      have hl : (s.drop k).length = s.length - k := List.length_drop
      obtain ⟨r1, r2⟩ := lexF_high f _ _ l (by omega) h
      exact ⟨by omega, fun t ht => by have := r2 t ht; omega⟩
    · rename_i kd k n hs
      rw [hs] at hw
      obtain ⟨h1, h2⟩ : 1 ≤ k ∧ k ≤ s.length := hw
      have hl : (s.drop k).length = s.length - k := List.length_drop
      cases hr : lexF f (p + k) (s.drop k) with
      | err a e => rw [hr] at h; cases h
      | ok m =>
        rw [hr] at h
        injection h with h
        subst h
        obtain ⟨r1, r2⟩ := lexF_high f _ _ m (by omega) hr
        refine ⟨by simp only [List.length_cons]; omega, fun t ht => ?_⟩
        rcases List.mem_cons.1 ht with rfl | ht
        · show p ≤ p + s.length; omega
        · have := r2 t ht; omega
    · cases h
theorem lexL_toks {l : Bs} {ts : List Tok} (h : lexL 0 l = .ok ts) : (∃ m e, ts = m ++ [e] ∧ e.kind = 4) ∧ ts.length ≤ l.length + 1 ∧ ∀ t ∈ ts, t.at_ ≤ l.length := by
  obtain ⟨h1, h2⟩ := lexF_high _ 0 l ts (Nat.lt_succ_self _) h
  exact ⟨lexF_last _ 0 l ts h, h1, fun t ht => by have := h2 t ht; omega⟩
theorem atN_same {a n : Nat} (h : a ≤ n) : atN a n = a := by unfold atN; omega
theorem asserts_errno (v : Value) (w : World) : (Instr.typeAssert (.iface 32 v) 20 32 false).run Tryz.prog w = .ok v w := by kernel_rfl
/-! ### The deferred function -/
theorem Lst.good0 {s : Ps} (h : Lst s) (hd : s.deep ≤ 64) : Good0 s := ⟨h, hd⟩
set_option maxRecDepth 100000 in
set_option maxHeartbeats 8000000 in
theorem catch_panic (w : World) (p gs gp gt ge : Nat) (l : Bs) (A : Option Addr) (c : Nat) (s : Ps) (R : PRep) (er : Int) (her : er ≠ 0) (hbig : l.length ≤ 140737488355328) (hcap : l.length ≤ c) (hC : Cells w A (bcells l)) (hT : TS w p s R) (hat : s.hd.at_ ≤ l.length)
    (hs : Blk w gs 22 #[.slice A l.length c]) (hp : Blk w gp 55 #[.pointer (some ⟨p, 0, none⟩)]) (ht : Blk w gt 26 #[.slice none 0 0]) (he : Blk w ge 28 #[.nilIface]) (hne : gt ≠ ge) :
    CallsD Tryz.prog 20 #[.pointer (some ⟨gs, 0, none⟩), .pointer (some ⟨gp, 0, none⟩), .pointer (some ⟨gt, 0, none⟩), .pointer (some ⟨ge, 0, none⟩)] (.panicking ({ v := .iface 32 (.int .i64 er), recovered := false } :: [])) w fun e u' w' =>
      e = .returned (.tuple #[]) ∧ u' = .panicking ({ v := .iface 32 (.int .i64 er), recovered := true } :: []) ∧ ∃ g w1, Ext w w1 ∧ w.heap.size ≤ g ∧ Blk w1 g 74 #[.int .i64 (s.hd.at_ : Int), .int .i64 (lineN l s.hd.at_), .int .i64 (colN l s.hd.at_), .int .i64 er] ∧ w' = (w1.setCell ⟨gt, 0, none⟩ (.slice none 0 0)).setCell ⟨ge, 0, none⟩ (.iface 70 (.pointer (some ⟨g, 0, none⟩))) := by
  have HT := Lib.hid hT
  have HC := Lib.hid hC
  have HAT := Lib.hid hat
  have HS := Lib.hid hs
  have HP := Lib.hid hp
  have HTR := Lib.hid ht
  have HER := Lib.hid he
  have HN := Lib.hid her
  have HBG := Lib.hid hbig
  have HCP := Lib.hid hcap
  have hf1 := tokField1
  have hta := asserts_errno
  clear hT hC hat hs hp ht he her hbig hcap
  refine callsD_of_wpS Tryz.func20 rfl fun c₀ cs hu => ?_
  apply wpS_seq
  apply wpS_region
  simp [wpOpsS, go_sem, recoverD, hu, Tryz.ntmps20, Exit.thenS]
  refine wpS_of_wp ?_
  simp [Array.replicate]
  go_upto_region 2 with fail
  have hsl := HS.out.lt
  have hpl := HP.out.lt
  have HTS : Hid (∀ w', Ext w w' → TS w' p s R) := Lib.hid fun w' hx => ⟨HT.out.blk.ext hx, fun j hj => (hx.cell (p := ⟨R.bt, R.ot + j, none⟩) HT.out.btl).trans (HT.out.tok j hj), Nat.lt_of_lt_of_le HT.out.btl hx.size, HT.out.pos⟩
  apply wp_region_ext_tail 8 (by kernel_rfl) (by kernel_rfl) (by kernel_rfl)
  dsimp only [List.take_succ_cons, List.take_zero, List.drop_succ_cons, List.drop_zero]
  apply step_det (.agg #[.slice none 0 0]) rfl rfl rfl
  · intro w' hw' hH
    clear hH hw'
    simp [YieldsF, go_sem]
    exact Ext.refl _
  apply step_det (.slice A l.length c) rfl rfl rfl
  · intro w' hw' hH
    have cc := (hw'.cell (p := ⟨gs, 0, none⟩) hsl).trans (HS.out.cell 0)
    clear hH hw'
    simp [YieldsF, go_sem, cc]
    exact Ext.refl _
  apply step_det (.pointer (some ⟨p, 0, none⟩)) rfl rfl rfl
  · intro w' hw' hH
    have cc := (hw'.cell (p := ⟨gp, 0, none⟩) hpl).trans (HP.out.cell 0)
    clear hH hw'
    simp [YieldsF, go_sem, cc]
    exact Ext.refl _
  simp only [Act.put, List.setIfInBounds_toArray, List.set_cons_succ, List.set_cons_zero]
  apply step_det (.agg (kcell s.hd).toArray) rfl rfl rfl
  · intro w' hw' hH
    have ht := HTS.out w' hw'
    clear hH
    simp [YieldsF, go_sem]
    refine (pnext_any w' p s R ht).mono ?_
    rintro e w2 ⟨rfl, hx⟩
    exact ⟨_, rfl, rfl, hx⟩
  apply step_det (.int .i64 (s.hd.at_ : Int)) rfl rfl rfl
  · intro w' hw' hH
    clear hH hw'
    unfold kcell
    simp [YieldsF, go_sem, hf1]
    exact Ext.refl _
  apply step_det (.iface 32 (.int .i64 er)) rfl rfl rfl
  · intro w' hw' hH
    clear hH hw'
    simp [YieldsF, go_sem]
    exact Ext.refl _
  simp only [Act.put, List.setIfInBounds_toArray, List.set_cons_succ, List.set_cons_zero]
  apply step_det (.int .i64 er) rfl rfl rfl
  · intro w' hw' hH
    clear hH hw'
    simp [YieldsF, go_sem, hta]
    exact Ext.refl _
  simp only [Act.put, List.setIfInBounds_toArray, List.set_cons_succ, List.set_cons_zero]
  apply step_fact (fun v w' => ∃ g, v = .iface 70 (.pointer (some ⟨g, 0, none⟩)) ∧ w.heap.size ≤ g ∧ Blk w' g 74 #[.int .i64 (s.hd.at_ : Int), .int .i64 (lineN l s.hd.at_), .int .i64 (colN l s.hd.at_), .int .i64 er]) (fun v w w' h hx => let ⟨g, a, b, c⟩ := h; ⟨g, a, b, c.ext hx⟩) rfl rfl rfl
  · intro w' hw' hH
    have hcc := HC.out.ext hw'
    have hsz := hw'.size
    have hat := HAT.out
    have hbg := HBG.out
    clear hH
    simp [YieldsF, go_sem]
    refine (new_any A l l.length c (s.hd.at_ : Int) er w' rfl HBG.out HCP.out (by omega) (by omega) hcc HN.out).mono ?_
    rintro e w2 ⟨g, rfl, hg, hb, hx⟩
    rw [atN_same HAT.out] at hb
    exact ⟨_, rfl, ⟨g, rfl, Nat.le_trans hsz hg, hb⟩, hx⟩
  intro v15
  simp only [Act.put, List.setIfInBounds_toArray, List.set_cons_succ, List.set_cons_zero]
  apply WalkF_nil
  intro w2 hw2 hH
  obtain ⟨g, rfl, hg, hb⟩ := hH _ (List.mem_cons_self ..)
  have HX2 := Lib.hid hw2
  have HB2 := Lib.hid hb
  have HG2 := Lib.hid hg
  have ct := (HTR.out.ext hw2).cell 0
  have zt := (HTR.out.ext hw2).frozen 0
  have ce := (HER.out.ext hw2).cell 0
  have ze := (HER.out.ext hw2).frozen 0
  simp only [List.getElem?_toArray, List.getElem?_cons_zero] at ct ce
  clear hH hb hg hw2
  go_wp2_with fail
  simp [bodyPostS, results, Tryz.results20]
  exact ⟨g, w2, HX2.out, HG2.out, HB2.out, rfl⟩
theorem catch_idle (w : World) (args : Array Value) (h4 : args.size = 4) :
    CallsD Tryz.prog 20 args .returning w fun e u' w' => e = .returned (.tuple #[]) ∧ u' = .returning ∧ w' = w := by
  refine callsD_of_wpS Tryz.func20 rfl fun c₀ cs hu => ?_
  obtain ⟨l, rfl⟩ : ∃ l : List Value, args = l.toArray := ⟨args.toList, by simp⟩
  obtain ⟨a, b, c, d, rfl⟩ : ∃ a b c d, l = [a, b, c, d] := by
    match l, h4 with
    | [a, b, c, d], _ => exact ⟨a, b, c, d, rfl⟩
  apply wpS_seq
  apply wpS_region
  simp [wpOpsS, go_sem, recoverD, hu, Tryz.ntmps20, Exit.thenS]
  refine wpS_of_wp ?_
  simp [Array.replicate]
  go_wp2_with fail
  cases c₀
  simp_all [bodyPostS, results, Tryz.results20]
/-! ### Parse -/
def parseS (l : Bs) : ParseR := match lexS l with
  | .ok ts => parseT ts
  | .err p e => .err p e
def ParsePost (l : Bs) (w : World) (r : ParseR) (e : Ending) (w' : World) : Prop := Ext w w' ∧ match r with
  | .ok nd => ∃ A c nh, e = .returned (.tuple #[.agg #[.slice A nh.length c], .nilIface]) ∧ nd = nh.map Prod.fst ∧ NS w' w.heap.size 50 3 A c nh
  | .err a er => ∃ g, e = .returned (.tuple #[.agg #[.slice none 0 0], .iface 70 (.pointer (some ⟨g, 0, none⟩))]) ∧ w.heap.size ≤ g ∧ Blk w' g 74 #[.int .i64 (a : Int), .int .i64 (lineN l a), .int .i64 (colN l a), .int .i64 er]
theorem NS.nil (w : World) (B : Nat) (tn ti : TypeId) : NS w B tn ti none 0 [] := ⟨World.ownsRow_nil _ _ _ _, fun x hx => (by cases hx), fun i j hi => (by cases hi), fun _ => rfl, fun x hx => (by cases hx)⟩
theorem Ext.set {w w1 : World} (h : Ext w w1) {g i : Nat} {u : Value} (hg : w.heap.size ≤ g) : Ext w (w1.setCell ⟨g, i, none⟩ u) :=
  ⟨h.os, h.tape, h.output, by have := h.size; simp [World.setCell]; omega, fun b hb => (Below.heap_setCell w1 ⟨g, i, none⟩ u b (fun e => by subst e; exact absurd hb (Nat.not_lt.2 hg))).trans (h.block b hb)⟩
set_option maxRecDepth 100000 in
set_option maxHeartbeats 8000000 in
theorem parse_lexerr (A : Option Addr) (l : Bs) (n c : Nat) (w : World) (hn : n = l.length) (hbig : l.length ≤ 140737488355328) (hcap : l.length ≤ c) (hnil : A = none → c = 0) (h : Cells w A (bcells l)) (a : Nat) (er : Int) (hl : lexS l = .err a er) :
    Calls Tryz.prog 9 #[.slice A n c] w (ParsePost l w (.err a er)) := by
  subst hn
  have HC := Lib.hid h
  have HL := Lib.hid hl
  obtain ⟨W0, HW0⟩ : ∃ W0, Hid (((w.alloc (.cells #[.slice A l.length c] 22)).alloc (.cells #[.slice none 0 0] 26)).alloc (.cells #[.nilIface] 28) = W0) := ⟨_, Lib.hid rfl⟩
  have HX0 : Hid (Ext w W0) := Lib.hid (by rw [← HW0.out]; exact ((Ext.alloc _ _).trans (Ext.alloc _ _)).trans (Ext.alloc _ _))
  have HS0 : Hid (Blk W0 w.heap.size 22 #[.slice A l.length c]) := Lib.hid (by rw [← HW0.out]; exact ((Blk.new _ _ _).alloc _).alloc _)
  have HT0 : Hid (Blk W0 (w.heap.size + 1) 26 #[.slice none 0 0]) := Lib.hid (by
    have := (Blk.new (w.alloc (.cells #[.slice A l.length c] 22)) 26 #[.slice none 0 0]).alloc (.cells #[.nilIface] 28)
    rw [← HW0.out]
    simpa using this)
  have HE0 : Hid (Blk W0 (w.heap.size + 1 + 1) 28 #[.nilIface]) := Lib.hid (by
    have := Blk.new ((w.alloc (.cells #[.slice A l.length c] 22)).alloc (.cells #[.slice none 0 0] 26)) 28 #[.nilIface]
    rw [← HW0.out]
    simpa using this)
  have HLX := Lib.hid (lex_any A l l.length c W0 rfl hbig hcap hnil (h.ext HX0.out))
  clear h hl
  go_enter_defers Tryz.func9, Tryz.ntmps9
  have cs0 : W0.cell? ⟨w.heap.size, 0, none⟩ = some (.slice A l.length c) := HS0.out.cell 0
  go_upto_region 1 with fail
  rw [HW0.out]
  go_wp2_with fail
  refine HLX.out.mono ?_
  rw [HL.out]
  rintro e w1 ⟨hx1, g, rfl, hg, hb⟩
  have HX1 := Lib.hid (HX0.out.trans hx1)
  have HB1 := Lib.hid hb
  have HG1 := Lib.hid (Nat.le_trans HX0.out.size hg)
  have HT1 := Lib.hid (HT0.out.ext hx1)
  have HE1 := Lib.hid (HE0.out.ext hx1)
  have c1 : w1.cell? ⟨w.heap.size + 1, 0, none⟩ = some (.slice none 0 0) := HT1.out.cell 0
  have z1 := HT1.out.frozen 0
  have c2 : w1.cell? ⟨w.heap.size + 1 + 1, 0, none⟩ = some .nilIface := HE1.out.cell 0
  have z2 := HE1.out.frozen 0
  have HGL := Lib.hid (Nat.lt_of_lt_of_le HE0.out.lt (Nat.le_refl _))
  have HNG : Hid (g ≠ w.heap.size + 1 ∧ g ≠ w.heap.size + 1 + 1) := Lib.hid (by have h1 := HE0.out.lt; omega)
  clear hx1 hb hg cs0
  go_wp2_with fail
  go_region
  go_wp2_with fail
  have HXA := Lib.hid ((((HX1.out.set (u := .iface 70 (.pointer (some ⟨g, 0, none⟩))) (i := 0) (g := w.heap.size + 1 + 1) (by omega)).set (u := .slice none 0 0) (i := 0) (g := w.heap.size + 1) (by omega)).set (u := .iface 70 (.pointer (some ⟨g, 0, none⟩))) (i := 0) (g := w.heap.size + 1 + 1) (by omega)).trans (Below.drew (Below.refl _ _)))
  have hE := (((HE1.out.put 0 (.iface 70 (.pointer (some ⟨g, 0, none⟩)))).far (p := ⟨w.heap.size + 1, 0, none⟩) (by simp) (.slice none 0 0)).put 0 (.iface 70 (.pointer (some ⟨g, 0, none⟩)))).ext (Below.drew (Below.refl _ _))
  have hT := (((HT1.out.far (p := ⟨w.heap.size + 1 + 1, 0, none⟩) (by simp) (.iface 70 (.pointer (some ⟨g, 0, none⟩)))).put 0 (.slice none 0 0)).far (p := ⟨w.heap.size + 1 + 1, 0, none⟩) (by simp) (.iface 70 (.pointer (some ⟨g, 0, none⟩)))).ext (Below.drew (Below.refl _ _))
  have hB := (((HB1.out.far (p := ⟨w.heap.size + 1 + 1, 0, none⟩) HNG.out.2 (.iface 70 (.pointer (some ⟨g, 0, none⟩)))).far (p := ⟨w.heap.size + 1, 0, none⟩) HNG.out.1 (.slice none 0 0)).far (p := ⟨w.heap.size + 1 + 1, 0, none⟩) HNG.out.2 (.iface 70 (.pointer (some ⟨g, 0, none⟩)))).ext (Below.drew (Below.refl _ _))
  generalize (((w1.setCell ⟨w.heap.size + 1 + 1, 0, none⟩ (.iface 70 (.pointer (some ⟨g, 0, none⟩)))).setCell ⟨w.heap.size + 1, 0, none⟩ (.slice none 0 0)).setCell ⟨w.heap.size + 1 + 1, 0, none⟩ (.iface 70 (.pointer (some ⟨g, 0, none⟩)))).drew = W at *
  have e0 : W.cell? ⟨w.heap.size + 1 + 1, 0, none⟩ = some (.iface 70 (.pointer (some ⟨g, 0, none⟩))) := hE.cell 0
  have t0 : W.cell? ⟨w.heap.size + 1, 0, none⟩ = some (.slice none 0 0) := hT.cell 0
  exact ⟨.tuple #[.agg #[.slice none 0 0], .iface 70 (.pointer (some ⟨g, 0, none⟩))], by simp [results, Tryz.results9, go_sem, e0, t0], HXA.out, g, rfl, HG1.out, hB⟩
theorem own_lower {w : World} {B N : Nat} {t : TypeId} {sz n : Nat} {v : Value} {xs : List Value} (h : w.ownsRow B t sz v n xs) (hN : N ≤ B) : w.ownsRow N t sz v n xs := by
  refine ⟨h.1, ?_⟩
  rcases h.2 with hn | ⟨g, cap, cur, hv, hb, r⟩
  · exact .inl hn
  · exact .inr ⟨g, cap, cur, hv, Nat.le_trans hN hb, r⟩
theorem NS.lower {w : World} {B N : Nat} {tn ti : TypeId} {A : Option Addr} {c : Nat} {nh : List (Nd × Hd2)} (h : NS w B tn ti A c nh) (hN : N ≤ B) : NS w N tn ti A c nh := ⟨own_lower h.row hN, fun x hx => own_lower (h.kids x hx) hN, h.apart, h.rz, h.kz⟩
theorem belowMono {w w' : World} {N M : Nat} (h : Below N w w') (hM : M ≤ N) : Below M w w' := ⟨h.os, h.tape, h.output, h.size, fun b hb => h.block b (Nat.lt_of_lt_of_le hb hM)⟩
theorem belowBlk {w w' : World} {N g : Nat} {t : TypeId} {cs : Array Value} (h : Below N w w') (hg : g < N) (hb : Blk w g t cs) : Blk w' g t cs := (h.block g hg).trans hb
set_option maxRecDepth 100000 in
set_option maxHeartbeats 8000000 in
theorem parse_in (A : Option Addr) (l : Bs) (n c : Nat) (w : World) (hn : n = l.length) (hbig : l.length ≤ 65536) (hcap : l.length ≤ c) (hnil : A = none → c = 0) (h : Cells w A (bcells l)) (ts : List Tok) (hl : lexS l = .ok ts) (hl2 : lexL 0 l = .ok ts) :
    Calls Tryz.prog 9 #[.slice A n c] w (ParsePost l w (parseT ts)) := by
  subst hn
  have HC := Lib.hid h
  have HL := Lib.hid hl
  have HTK := Lib.hid (lexL_toks hl2)
  have HBG := Lib.hid hbig
  have HCP := Lib.hid hcap
  obtain ⟨W0, HW0⟩ : ∃ W0, Hid (((w.alloc (.cells #[.slice A l.length c] 22)).alloc (.cells #[.slice none 0 0] 26)).alloc (.cells #[.nilIface] 28) = W0) := ⟨_, Lib.hid rfl⟩
  have HX0 : Hid (Ext w W0) := Lib.hid (by rw [← HW0.out]; exact ((Ext.alloc _ _).trans (Ext.alloc _ _)).trans (Ext.alloc _ _))
  have HS0 : Hid (Blk W0 w.heap.size 22 #[.slice A l.length c]) := Lib.hid (by rw [← HW0.out]; exact ((Blk.new _ _ _).alloc _).alloc _)
  have HT0 : Hid (Blk W0 (w.heap.size + 1) 26 #[.slice none 0 0]) := Lib.hid (by
    have := (Blk.new (w.alloc (.cells #[.slice A l.length c] 22)) 26 #[.slice none 0 0]).alloc (.cells #[.nilIface] 28)
    rw [← HW0.out]
    simpa using this)
  have HE0 : Hid (Blk W0 (w.heap.size + 1 + 1) 28 #[.nilIface]) := Lib.hid (by
    have := Blk.new ((w.alloc (.cells #[.slice A l.length c] 22)).alloc (.cells #[.slice none 0 0] 26)) 28 #[.nilIface]
    rw [← HW0.out]
    simpa using this)
  have HLX := Lib.hid (lex_any A l l.length c W0 rfl (by omega) hcap hnil (h.ext HX0.out))
  have hm := hmf
  clear h hl hl2 hnil hcap hbig
  go_enter_defers Tryz.func9, Tryz.ntmps9
  have cs0 : W0.cell? ⟨w.heap.size, 0, none⟩ = some (.slice A l.length c) := HS0.out.cell 0
  go_upto_region 1 with fail
  rw [HW0.out]
  obtain ⟨g0, HG0⟩ : ∃ g0, Hid (w.heap.size = g0) := ⟨_, Lib.hid rfl⟩
  rw [HG0.out] at cs0 HS0 HT0 HE0 ⊢
  go_wp2_with fail
  refine HLX.out.mono ?_
  rw [HL.out]
  rintro e w1 ⟨hx1, A', c', rfl, hz, hr⟩
  have hpos : 0 < ts.length := by
    obtain ⟨⟨m, e, hm, _⟩, _⟩ := HTK.out
    rw [hm]
    simp
  obtain ⟨bt, rfl⟩ : ∃ bt, A' = some ⟨bt, 0, none⟩ := by
    rcases own_zero hr with e | e
    · exfalso
      rw [e] at hr
      rcases hr.2 with ⟨_, h0⟩ | ⟨g, _, _, hv, _⟩
      · omega
      · cases hv
    · exact e
  have hbt := own_lt hr rfl
  have HBT := Lib.hid hbt
  have HR := Lib.hid hr
  have hcc : ts.length ≤ c' := by
    rcases hr.2 with ⟨hv, _⟩ | ⟨g, cap, cur, hv, _, _, hle, _⟩
    · cases hv
    · injection hv with _ _ e; omega
  have HCC := Lib.hid hcc
  have HX1 := Lib.hid (HX0.out.trans hx1)
  have HX01 := Lib.hid hx1
  have HS1 := Lib.hid (HS0.out.ext hx1)
  have HT1 := Lib.hid (HT0.out.ext hx1)
  have HE1 := Lib.hid (HE0.out.ext hx1)
  have HSZ : Hid (g0 + 1 + 1 < W0.heap.size ∧ W0.heap.size ≤ w1.heap.size) := Lib.hid ⟨HE0.out.lt, hx1.size⟩
  have c2 : w1.cell? ⟨g0 + 1 + 1, 0, none⟩ = some .nilIface := HE1.out.cell 0
  have z2 := HE1.out.frozen 0
  have gl2 := HE1.out.lt
  clear hx1 hr hz hbt hcc hpos cs0
  go_wp2_with fail
  obtain ⟨wS, HWS⟩ : ∃ wS, Hid (w1.setCell ⟨g0 + 1 + 1, 0, none⟩ .nilIface = wS) := ⟨_, Lib.hid rfl⟩
  have hss : wS.heap.size = w1.heap.size := by rw [← HWS.out]; simp [World.setCell]
  have hso : ∀ b, b ≠ g0 + 1 + 1 → wS.heap[b]? = w1.heap[b]? := fun b hb => by rw [← HWS.out]; exact Below.heap_setCell w1 ⟨g0 + 1 + 1, 0, none⟩ _ b hb
  have hES : Blk wS (g0 + 1 + 1) 28 #[.nilIface] := by rw [← HWS.out]; exact HE1.out.put 0 .nilIface
  have hXS : Ext w wS := by rw [← HWS.out]; exact HX1.out.set (by have := HG0.out; omega)
  rw [HWS.out]
  obtain ⟨W4, HW4⟩ : ∃ W4, Hid ((wS.alloc (.cells #[.slice (some ⟨bt, 0, none⟩) ts.length c', .slice none 0 0, .int .i64 0] 57)).alloc (.cells #[.pointer (some ⟨w1.heap.size, 0, none⟩)] 55) = W4) := ⟨_, Lib.hid rfl⟩
  have HX4 : Hid (Ext wS W4) := Lib.hid (by rw [← HW4.out]; exact (Ext.alloc _ _).trans (Ext.alloc _ _))
  have hPB : Blk W4 w1.heap.size 57 #[.slice (some ⟨bt, 0, none⟩) ts.length c', .slice none 0 0, .int .i64 0] := by
    have := (Blk.new wS 57 #[.slice (some ⟨bt, 0, none⟩) ts.length c', .slice none 0 0, .int .i64 0]).alloc (.cells #[.pointer (some ⟨w1.heap.size, 0, none⟩)] 55)
    rw [← HW4.out, ← hss]
    rw [← hss] at this
    exact this
  have hGP : Blk W4 (w1.heap.size + 1) 55 #[.pointer (some ⟨w1.heap.size, 0, none⟩)] := by
    have := Blk.new (wS.alloc (.cells #[.slice (some ⟨bt, 0, none⟩) ts.length c', .slice none 0 0, .int .i64 0] 57)) 55 #[.pointer (some ⟨w1.heap.size, 0, none⟩)]
    rw [← HW4.out]
    simpa [hss] using this
  have hg0 := HG0.out
  have hb1 := HBT.out
  have hb2 := HSZ.out
  have hS4 : Blk W4 g0 22 #[.slice A l.length c] := Blk.ext ((hso g0 (by omega)).trans HS1.out) HX4.out
  have hT4 : Blk W4 (g0 + 1) 26 #[.slice none 0 0] := Blk.ext ((hso (g0 + 1) (by omega)).trans HT1.out) HX4.out
  have hE4 : Blk W4 (g0 + 1 + 1) 28 #[.nilIface] := hES.ext HX4.out
  have hXW : Ext w W4 := hXS.trans HX4.out
  have hPS : PS W4 w1.heap.size w1.heap.size ⟨ts, [], 0⟩ ⟨bt, 0, c', none, 0, []⟩ := by
    refine ⟨hPB, fun k hk => ?_, HCC.out, hb1.2, rfl, NS.nil _ _ _ _, Nat.le_refl _, ⟨HTK.out.1, Nat.zero_le _⟩⟩
    have h1 := HR.out.cellAt k (by exact hk)
    rw [← h1, Nat.zero_add]
    refine World.cell?_of_block (w := w1) (a := ⟨bt, k, none⟩) ((HX4.out.block bt ?_).trans (hso bt ?_))
    · rw [hss]; exact hb1.2
    · show bt ≠ _; omega
  have hgood : Good ⟨ts, [], 0⟩ := ⟨HTK.out.1, Nat.zero_le _, fun n hn => by cases hn⟩
  have hphi : (⟨ts, [], 0⟩ : Ps).phi ≤ 999999 := by
    have h1 := HTK.out.2.1
    have h2 := HBG.out
    show 0 + 2 * ts.length ≤ _
    omega
  have HPC := Lib.hid (pprogram_any W4 w1.heap.size w1.heap.size ⟨ts, [], 0⟩ ⟨bt, 0, c', none, 0, []⟩ hPS hgood rfl hphi)
  have HSUB := Lib.hid (sub_program (s := ⟨ts, [], 0⟩) HTK.out.1)
  have HS4 := Lib.hid hS4
  have HT4 := Lib.hid hT4
  have HE4 := Lib.hid hE4
  have HGP := Lib.hid hGP
  have HXW := Lib.hid hXW
  have HPL : Hid (w1.heap.size < W4.heap.size) := Lib.hid hPB.lt
  have HNUM : Hid (w.heap.size = g0 ∧ g0 + 1 + 1 < w1.heap.size) := Lib.hid ⟨hg0, by omega⟩
  have HMV : Hid (∀ w' R', Moves W4 (MineP w1.heap.size ⟨bt, 0, c', none, 0, []⟩) w' (MineP w1.heap.size R') → Below w1.heap.size W4 w' ∧ w'.heap[w1.heap.size + 1]? = W4.heap[w1.heap.size + 1]?) := Lib.hid fun w' R' h => by
    have hm : ∀ b, MineP w1.heap.size ⟨bt, 0, c', none, 0, []⟩ b → b = w1.heap.size := fun b hb => by
      rcases hb with hb | hb | hb
      · exact hb
      · cases hb
      · cases hb
    exact ⟨⟨h.os, h.tape, h.output, h.size, fun b hb => h.keep b (by have := HPL.out; omega) (fun k => by have := hm b k; omega)⟩, h.keep _ hGP.lt (fun k => by have := hm _ k; omega)⟩
  rw [HW4.out]
  clear hXS hES hso hss hPB hGP hS4 hT4 hE4 hXW hPS hgood hphi HWS HW4 HX4 c2 z2 gl2 hg0 hb1 hb2
  generalize hpp : w1.heap.size = p at *
  clear hpp
  refine HPC.out.mono ?_
  intro e w5 hpost
  cases hq : programP ⟨ts, [], 0⟩ with
  | ok a s5 =>
    have HPT : Hid (parseT ts = .ok s5.nd) := Lib.hid (by unfold parseT; rw [hq])
    rw [hq] at hpost
    obtain ⟨rfl, R5, hp5, hm5⟩ := hpost
    obtain ⟨hb5, hk5⟩ := HMV.out _ _ hm5
    have HP5 := Lib.hid hp5
    have HB5 := Lib.hid hb5
    have cg : w5.cell? ⟨p + 1, 0, none⟩ = some (.pointer (some ⟨p, 0, none⟩)) := Blk.cell (show Blk w5 (p + 1) 55 _ from hk5.trans HGP.out) 0
    have x1 := hp5.x1
    have hT5 := belowBlk hb5 (by have := HNUM.out; omega) HT4.out
    have hE5 := belowBlk hb5 (by have := HNUM.out; omega) HE4.out
    have HT5 := Lib.hid hT5
    have HE5 := Lib.hid hE5
    have t0 : w5.cell? ⟨g0 + 1, 0, none⟩ = some (.slice none 0 0) := hT5.cell 0
    have e0 : w5.cell? ⟨g0 + 1 + 1, 0, none⟩ = some .nilIface := hE5.cell 0
    have tz := hT5.frozen 0
    have ez := hE5.frozen 0
    have hpl := hp5.blk.lt
    clear hq hp5 hm5 hb5 hk5 hT5 hE5
    go_wp2_with fail
    have HX6 : Hid (Ext w ((w5.setCell ⟨g0 + 1, 0, none⟩ (.slice R5.A R5.nh.length R5.c)).setCell ⟨g0 + 1 + 1, 0, none⟩ .nilIface)) := Lib.hid (((show Ext w w5 from Below.trans HXW.out (belowMono HB5.out (by have := HNUM.out; omega))).set (by have := HNUM.out; omega)).set (by have := HNUM.out; omega))
    have HN6 : Hid (NS ((w5.setCell ⟨g0 + 1, 0, none⟩ (.slice R5.A R5.nh.length R5.c)).setCell ⟨g0 + 1 + 1, 0, none⟩ .nilIface) w.heap.size 50 3 R5.A R5.c R5.nh) := Lib.hid ((HP5.out.ns.keep fun b hb => by
      have h1 := (HP5.out.ns.mine_lt hb).1
      have h2 := HNUM.out
      rw [Below.heap_setCell _ ⟨g0 + 1 + 1, 0, none⟩ _ b (by show b ≠ g0 + 1 + 1; omega), Below.heap_setCell _ ⟨g0 + 1, 0, none⟩ _ b (by show b ≠ g0 + 1; omega)]).lower (by have := HNUM.out; omega))
    have hT6 := (HT5.out.put 0 (.slice R5.A R5.nh.length R5.c)).far (p := ⟨g0 + 1 + 1, 0, none⟩) (by simp) .nilIface
    have hE6 := (HE5.out.far (p := ⟨g0 + 1, 0, none⟩) (by simp) (.slice R5.A R5.nh.length R5.c)).put 0 .nilIface
    generalize (w5.setCell ⟨g0 + 1, 0, none⟩ (.slice R5.A R5.nh.length R5.c)).setCell ⟨g0 + 1 + 1, 0, none⟩ .nilIface = W6 at *
    have t6 : W6.cell? ⟨g0 + 1, 0, none⟩ = some (.slice R5.A R5.nh.length R5.c) := hT6.cell 0
    have e6 : W6.cell? ⟨g0 + 1 + 1, 0, none⟩ = some .nilIface := hE6.cell 0
    refine leaves_cons (f := 20) (args := #[.pointer (some ⟨g0, 0, none⟩), .pointer (some ⟨p + 1, 0, none⟩), .pointer (some ⟨g0 + 1, 0, none⟩), .pointer (some ⟨g0 + 1 + 1, 0, none⟩)]) (by simp) (by simp [go_sem]) ?_
    refine (catch_idle W6 _ rfl).mono ?_
    rintro e u' w'' ⟨rfl, rfl, rfl⟩
    refine ⟨.tuple #[.agg #[.slice R5.A R5.nh.length R5.c], .nilIface], by simp [results, Tryz.results9, go_sem, t6, e6], ?_⟩
    rw [HPT.out]
    exact ⟨HX6.out, R5.A, R5.c, R5.nh, rfl, HP5.out.nodes, HN6.out⟩
  | err er a =>
    have HPT : Hid (parseT ts = .err a er) := Lib.hid (by unfold parseT; rw [hq])
    have hsub := HSUB.out
    rw [hq] at hpost hsub
    obtain ⟨rfl, s6, hat, R6, hp6, hm6⟩ := hpost
    obtain ⟨her, t, ht, hta⟩ := hsub
    obtain ⟨hb5, hk5⟩ := HMV.out _ _ hm6
    have hal : a ≤ l.length := by rw [← hta.1]; exact HTK.out.2.2 t ht
    have hn0 : er ≠ 0 := by rcases her with h | h <;> (rw [h]; decide)
    have hT5 := belowBlk hb5 (by have := HNUM.out; omega) HT4.out
    have hE5 := belowBlk hb5 (by have := HNUM.out; omega) HE4.out
    have hS5 := belowBlk hb5 (by have := HNUM.out; omega) HS4.out
    have hG5 : Blk w5 (p + 1) 55 #[.pointer (some ⟨p, 0, none⟩)] := hk5.trans HGP.out
    have hxw := HXW.out.size
    have hnum := HNUM.out
    have hX5 : Ext w w5 := Below.trans HXW.out (belowMono hb5 (by omega))
    refine leaves_cons (f := 20) (args := #[.pointer (some ⟨g0, 0, none⟩), .pointer (some ⟨p + 1, 0, none⟩), .pointer (some ⟨g0 + 1, 0, none⟩), .pointer (some ⟨g0 + 1 + 1, 0, none⟩)]) (by simp) (by simp [go_sem]) ?_
    refine (catch_panic w5 p g0 (p + 1) (g0 + 1) (g0 + 1 + 1) l A c s6 R6 er hn0 (by have := HBG.out; omega) HCP.out (HC.out.ext hX5) hp6.ts (by rw [hat]; exact hal) hS5 hG5 hT5 hE5 (by omega)).mono ?_
    rintro e u' w'' ⟨rfl, rfl, g, w6, hx6, hg, hbe, rfl⟩
    rw [hat] at hbe
    have h1 := hx6.size
    have h2 := hX5.size
    have h3 := hT5.lt
    have h4 := hE5.lt
    have hT6 := ((hT5.ext hx6).put 0 (.slice none 0 0)).far (p := ⟨g0 + 1 + 1, 0, none⟩) (by simp) (.iface 70 (.pointer (some ⟨g, 0, none⟩)))
    have hE6 := ((hE5.ext hx6).far (p := ⟨g0 + 1, 0, none⟩) (by simp) (.slice none 0 0)).put 0 (.iface 70 (.pointer (some ⟨g, 0, none⟩)))
    have hB6 := (hbe.far (p := ⟨g0 + 1, 0, none⟩) (by show g ≠ g0 + 1; omega) (.slice none 0 0)).far (p := ⟨g0 + 1 + 1, 0, none⟩) (by show g ≠ g0 + 1 + 1; omega) (.iface 70 (.pointer (some ⟨g, 0, none⟩)))
    have hX6 := ((hX5.trans hx6).set (u := .slice none 0 0) (i := 0) (g := g0 + 1) (by omega)).set (u := .iface 70 (.pointer (some ⟨g, 0, none⟩))) (i := 0) (g := g0 + 1 + 1) (by omega)
    generalize (w6.setCell ⟨g0 + 1, 0, none⟩ (.slice none 0 0)).setCell ⟨g0 + 1 + 1, 0, none⟩ (.iface 70 (.pointer (some ⟨g, 0, none⟩))) = W6 at *
    have t6 : W6.cell? ⟨g0 + 1, 0, none⟩ = some (.slice none 0 0) := hT6.cell 0
    have e6 : W6.cell? ⟨g0 + 1 + 1, 0, none⟩ = some (.iface 70 (.pointer (some ⟨g, 0, none⟩))) := hE6.cell 0
    refine ⟨.tuple #[.agg #[.slice none 0 0], .iface 70 (.pointer (some ⟨g, 0, none⟩))], by simp [results, Tryz.results9, go_sem, t6, e6], ?_⟩
    rw [HPT.out]
    exact ⟨hX6, g, rfl, by omega, hB6⟩
theorem parse_any (A : Option Addr) (l : Bs) (n c : Nat) (w : World) (hn : n = l.length) (hbig : l.length ≤ 140737488355328) (hcap : l.length ≤ c) (hnil : A = none → c = 0) (h : Cells w A (bcells l)) :
    Calls Tryz.prog 9 #[.slice A n c] w (ParsePost l w (parseS l)) := by
  cases hl : lexS l with
  | err a er =>
    have := parse_lexerr A l n c w hn hbig hcap hnil h a er hl
    unfold parseS
    rw [hl]
    exact this
  | ok ts =>
    have hlim : l.length ≤ 65536 := by
      unfold lexS at hl
      split at hl
      · cases hl
      · omega
    have hl2 : lexL 0 l = .ok ts := by
      unfold lexS at hl
      rw [if_neg (by omega)] at hl
      exact hl
    have := parse_in A l n c w hn hlim hcap hnil h ts hl hl2
    unfold parseS
    rw [hl]
    exact this
end Go.Proofs.YtcccnicldbpieaaGreatDoor
