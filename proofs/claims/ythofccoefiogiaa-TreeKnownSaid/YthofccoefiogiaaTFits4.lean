/- tree.fits, walked. -/
import Derived.Test.YthofccoefiogiaaTIdx
import Derived.Test.YthofccoefiogiaaTForms
import Derived.Test.YthofccoefiogiaaTRight
namespace Go.Proofs.Ythofccoefiogiaa
open Go Go.RowKit
set_option linter.unusedVariables false
set_option linter.unusedSimpArgs false
theorem infoU8 : (Try.prog.info? 5).map (fun i => (i.zero, i.size, i.bytes)) = some (some (.int .u8 0), 1, 1) := by kernel_rfl
theorem bcells_snoc (l : List Int) (x : Int) : bcells (l ++ [x]) = bcells l ++ [.int .u8 x] := by simp [bcells]
/-- The state of the row of kinds, which lies in a variable of its own. -/
structure KSt (w0 W : World) (gt gn gk : Nat) (tv : Value) (nc : Array Value) (ls : List Int) (A : Option Addr) (c : Nat) : Prop where
  t : Blk W gt 62 #[tv]
  n : Blk W gn 73 nc
  k : Blk W gk 80 #[.slice A ls.length c]
  own : W.ownsRow w0.heap.size 5 1 (.slice A ls.length c) ls.length (bcells ls)
  ext : Ext w0 W
  low : w0.heap.size ≤ gk
  nil : A = none → c = 0
theorem KSt.mono {w0 W W' : World} {gt gn gk : Nat} {tv : Value} {nc : Array Value} {ls : List Int} {A : Option Addr} {c : Nat} (h : KSt w0 W gt gn gk tv nc ls A c) (hx : Ext W W') : KSt w0 W' gt gn gk tv nc ls A c :=
  ⟨h.t.ext hx, h.n.ext hx, h.k.ext hx, own_ext h.own hx, h.ext.trans hx, h.low, h.nil⟩
theorem own_base {W : World} {b : Nat} {e : TypeId} {size n : Nat} {v : Value} {xs : List Value} (h : W.ownsRow b e size v n xs) : ∀ k, v.ownBlock = some k → b ≤ k := by
  intro k hk
  rcases h.2 with ⟨rfl, _⟩ | ⟨g', cap, cur, rfl, hb, hh, _⟩
  · simp [Value.ownBlock] at hk
  · simp [Value.ownBlock] at hk
    omega
theorem own_cong {W : World} {b : Nat} {e : TypeId} {v : Value} {n m : Nat} {xs ys : List Value} (h : W.ownsRow b e 1 v n xs) (hn : n = m) (hx : xs = ys) : W.ownsRow b e 1 v m ys := by subst hn hx; exact h
theorem KSt.step {w0 W W' : World} {gt gn gk : Nat} {tv : Value} {nc : Array Value} {ls : List Int} {A A' : Option Addr} {c c' : Nat} {x : Int} (h : KSt w0 W gt gn gk tv nc ls A c)
    (ho : W'.ownsRow w0.heap.size 5 1 (.slice A' (ls.length + 1) c') (ls.length + 1) (bcells ls ++ [.int .u8 x])) (hg : W.grownBy W' (Value.slice A ls.length c).ownBlock) (hn : A' = none → c' = 0) :
    KSt w0 (W'.setCell ⟨gk, 0, none⟩ (.slice A' (ls.length + 1) c')) gt gn gk tv nc (ls ++ [x]) A' c' := by
  have d1 : (Value.slice A ls.length c).ownBlock ≠ some gt := own_differ h.own h.t (by decide)
  have d2 : (Value.slice A ls.length c).ownBlock ≠ some gn := own_differ h.own h.n (by decide)
  have d3 : (Value.slice A ls.length c).ownBlock ≠ some gk := own_differ h.own h.k (by decide)
  have t1 := h.t.grown hg (Ne.symm d1)
  have n1 := h.n.grown hg (Ne.symm d2)
  have k1 := h.k.grown hg (Ne.symm d3)
  have e1 : gt ≠ gk := h.t.differ h.k (by decide)
  have e2 : gn ≠ gk := h.n.differ h.k (by decide)
  have hl : (ls ++ [x]).length = ls.length + 1 := by simp
  refine ⟨t1.far e1 _, n1.far e2 _, ?_, ?_, ?_, h.low, hn⟩
  · rw [hl]; exact k1.put 0 _
  · rw [hl]
    have d4 : (Value.slice A' (ls.length + 1) c').ownBlock ≠ some gk := own_differ ho k1 (by decide)
    exact own_cong (own_far ho (p := ⟨gk, 0, none⟩) d4 _) rfl (bcells_snoc ls x).symm
  · have hb : Below w0.heap.size w0 W' := Below.grown h.ext hg h.ext.size (own_base h.own)
    exact hb.setCell (p := ⟨gk, 0, none⟩) h.low _
theorem formsN_len (k : Int) : (formsN k).length ≤ 10 := by
  by_cases hk : 1 ≤ k ∧ k ≤ 26
  · have hc : k = 1 ∨ k = 2 ∨ k = 3 ∨ k = 4 ∨ k = 5 ∨ k = 6 ∨ k = 7 ∨ k = 8 ∨ k = 9 ∨ k = 10 ∨ k = 11 ∨ k = 12 ∨ k = 13 ∨ k = 14 ∨ k = 15 ∨ k = 16 ∨ k = 17 ∨ k = 18 ∨ k = 19 ∨ k = 20 ∨ k = 21 ∨ k = 22 ∨ k = 23 ∨ k = 24 ∨ k = 25 ∨ k = 26 := by omega
    rcases hc with rfl | rfl | rfl | rfl | rfl | rfl | rfl | rfl | rfl | rfl | rfl | rfl | rfl | rfl | rfl | rfl | rfl | rfl | rfl | rfl | rfl | rfl | rfl | rfl | rfl | rfl <;> decide
  · have h0 : formsN k = [] := by
      unfold formsN
      repeat (rw [if_neg (by omega)])
    rw [h0]
    decide
set_option maxRecDepth 100000 in
set_option maxHeartbeats 8000000 in
theorem tfits_any (l : List NodeM) (A : Option Addr) (n c : Nat) (x : NodeM) (w : World) (hn : n = l.length) (ht : TreeM w A l) (hlen : l.length ≤ 1000) (hx : x.text.size ≤ 1000) (hkl : x.kids.length ≤ 1000) (hxo : NodeOk w x) (hin : InRange l x.kids) :
    Calls Try.prog 67 #[.agg #[.slice A n c], .agg (Array.mk x.cells)] w fun e w' => e = .returned (.bool (fitsN x.kind x.num x.text.data.toList (kindsOf l x.kids))) ∧ Ext w w' := by
  subst hn
  obtain ⟨i0, hi, hz0, hz1, hz2⟩ := info_parts infoU8
  have HT := Lib.hid ht
  have HXO := Lib.hid hxo
  have HIN := Lib.hid hin
  clear ht hxo hin
  obtain ⟨kind, pos, text, num, kA, kc, kids⟩ := x
  simp only at hx hkl
  obtain ⟨fs, hfs⟩ : ∃ fs, formsN kind = fs := ⟨_, rfl⟩
  have HFL : Hid (fs.length ≤ 10) := Lib.hid (by rw [← hfs]; exact formsN_len kind)
  have HFIT : Hid (fitsN kind num text.data.toList (kindsOf l kids) = fs.any fun f => formOk f num text.data.toList (kindsOf l kids)) := Lib.hid (by unfold fitsN; rw [hfs])
  have HFS := Lib.hid hfs
  clear hfs
  show Calls Try.prog 67 #[.agg #[.slice A l.length c], .agg #[.int .u8 kind, .int .i64 pos, .string text, .int .i64 num, .slice kA kids.length kc]] w fun e w' => e = .returned (.bool (fitsN kind num text.data.toList (kindsOf l kids))) ∧ Ext w w'
  have HS0 : Hid (KSt w (((w.alloc (.cells #[.slice A l.length c] 62)).alloc (.cells #[.int .u8 kind, .int .i64 pos, .string text, .int .i64 num, .slice kA kids.length kc] 73)).alloc (.cells #[.slice none 0 0] 80)) w.heap.size (w.heap.size + 1) (w.heap.size + 1 + 1) (.slice A l.length c) #[.int .u8 kind, .int .i64 pos, .string text, .int .i64 num, .slice kA kids.length kc] [] none 0) :=
    Lib.hid ⟨((Blk.newAt rfl).alloc _).alloc _, (Blk.newAt (by simp)).alloc _, Blk.newAt (by simp), World.ownsRow_nil _ _ _ _, ((Ext.alloc _ _).trans (Ext.alloc _ _)).trans (Ext.alloc _ _), by omega, fun _ => rfl⟩
  go_enter Try.func67, Try.ntmps67
  have y0 := HS0.out.n.cell 4
  go_wp2_with fail
  clear y0
  generalize ((w.alloc (.cells #[.slice A l.length c] 62)).alloc (.cells #[.int .u8 kind, .int .i64 pos, .string text, .int .i64 num, .slice kA kids.length kc] 73)).alloc (.cells #[.slice none 0 0] 80) = wz at *
  generalize w.heap.size + 1 + 1 = gk at *
  generalize w.heap.size + 1 = gn at *
  obtain ⟨gt, hgt⟩ : ∃ gt, gt = w.heap.size := ⟨_, rfl⟩
  rw [← hgt] at HS0 ⊢
  have HGT := Lib.hid hgt
  clear hgt
  go_loopw [11] (fun i wr => ∃ (k : Nat) (A' : Option Addr) (c' : Nat), k ≤ kids.length ∧ i = .int .i64 k ∧ Hid (KSt w wr gt gn gk (.slice A l.length c) #[.int .u8 kind, .int .i64 pos, .string text, .int .i64 num, .slice kA kids.length kc] (kindsOf l (kids.take k)) A' c')) (fun i _ => kids.length - (intOf i).toNat)
  case atStart => exact ⟨0, none, 0, Nat.zero_le _, rfl, HS0⟩
  case round =>
    obtain ⟨k, A', c', hk, rfl, HS⟩ := hrel
    obtain ⟨wa, rfl⟩ : ∃ wa : World, wa = wr := ⟨_, rfl⟩
    by_cases hlt : k < kids.length
    · have d0 : decide ((k : Int) < (kids.length : Int)) = true := decide_eq_true (by omega)
      obtain ⟨b, off, rfl, hb, hcl⟩ := kids_at (HXO.out.kids.ext HS.out.ext) k hlt
      obtain ⟨a, ha, hal⟩ := HIN.out kids[k] (List.getElem_mem hlt)
      have HKS : Hid (kindsOf l (kids.take (k + 1)) = kindsOf l (kids.take k) ++ [l[a].kind]) := Lib.hid (by
        unfold kindsOf
        rw [List.take_succ_eq_append_getElem hlt, List.map_append, ha]
        simp only [List.map_cons, List.map_nil]
        rw [kindAt_eq hal])
      rw [ha] at hcl
      clear ha
      go_upto_region 5 with fail
      obtain ⟨b2, off2, rfl, hb2, hc2⟩ := (HT.out.ext HS.out.ext).at_ a hal
      have hk0 : wa.cell? ⟨b2, off2 + a * 5, none⟩ = some (.int .u8 l[a].kind) := hc2 0 (by omega)
      have HKC := Lib.hid hk0
      clear hk0 hc2 hcl
      have hkn : (kindsOf l (kids.take k)).length = k := by simp [kindsOf]; omega
      generalize kindsOf l (kids.take k) = ls at *
      generalize l[a].kind = ka at *
      have q0 : (0 : Int) ≤ (a : Int) := by omega
      have q1 : (a : Int) < (l.length : Int) := by omega
      apply wp_region_ext_tail 8 (by kernel_rfl) (by kernel_rfl) (by kernel_rfl)
      dsimp only [List.take_succ_cons, List.take_zero, List.drop_succ_cons, List.drop_zero]
      apply step_det (.slice A' ls.length c') rfl rfl rfl
      · intro w' hw' hH
        clear hH
        have c0 := (HS.out.k.ext hw').cell 0
        simp [YieldsF, go_sem, c0]
        exact Ext.refl _
      apply step_det (.pointer (some ⟨gt, 0, none⟩)) rfl rfl rfl
      · intro w' hw' hH
        clear hH
        simp [YieldsF, go_sem]
        exact Ext.refl _
      apply step_det (.slice (some ⟨b2, off2, none⟩) l.length c) rfl rfl rfl
      · intro w' hw' hH
        clear hH
        have c0 := (HS.out.t.ext hw').cell 0
        simp [YieldsF, go_sem, c0]
        exact Ext.refl _
      apply step_det (.int .i64 (a : Int)) rfl rfl rfl
      · intro w' hw' hH
        clear hH
        simp [YieldsF, go_sem]
        exact Ext.refl _
      apply step_det (.pointer (some ⟨b2, off2 + a * 5, none⟩)) rfl rfl rfl
      · intro w' hw' hH
        clear hH
        simp [YieldsF, go_sem, q0, q1]
        exact Ext.refl _
      apply step_det (.pointer (some ⟨b2, off2 + a * 5, none⟩)) rfl rfl rfl
      · intro w' hw' hH
        clear hH
        simp [YieldsF, go_sem]
        exact Ext.refl _
      apply step_det (.int .u8 ka) rfl rfl rfl
      · intro w' hw' hH
        clear hH
        have c0 := (hw'.cell (p := ⟨b2, off2 + a * 5, none⟩) hb2).trans HKC.out
        simp [YieldsF, go_sem, c0]
        exact Ext.refl _
      apply step_fact (IsLit 5 #[.int .u8 ka]) (fun v a b h k => IsLit.ext v a b h k) rfl rfl rfl
      · intro w' hw' hH
        clear hH
        simp [YieldsF, go_sem]
        exact ⟨⟨_, rfl, Blk.new _ _ _⟩, Ext.alloc _ _⟩
      intro vl
      apply WalkF_nil
      intro w2 hw2 hH
      have hlit := hH _ (List.mem_cons_self)
      obtain ⟨gl, hvl, hgl⟩ := hlit
      subst hvl
      clear hH
      have hS2 := HS.out.mono hw2
      have HS2 := Lib.hid hS2
      have HGL := Lib.hid hgl
      have HX2 := Lib.hid hw2
      clear hS2 hgl hw2
      try simp only [Act.put]
      refine wpList_grow rfl (.tmp 15) (.tmp 22) 80 rfl w.heap.size 5 i0 (.int .u8 0) 1 1 Try.underlying80 hi hz0 hz1 hz2 rfl (by decide) (.slice A' ls.length c') ls.length (bcells ls) (by kernel_rfl) HS2.out.own (some ⟨gl, 0, none⟩) 1 1 [.int .u8 ka] (by kernel_rfl) (fun h => by cases h) rfl ?c1 ?c2 ?c3 ?c4 ?c5 ?_
      case c1 => exact .inr ⟨gl, 0, rfl, HGL.out.lt, fun j hj => by
        have : j = 0 := by simp at hj; omega
        subst this
        exact (HGL.out.cell 0)⟩
      case c2 => intro u hu; simp at hu; subst hu; rfl
      case c3 => unfold maxLen; omega
      case c4 => omega
      case c5 => exact HS2.out.ext.size
      intro A3 c3 w3 hn3 ho3 hg3
      have HS3 := Lib.hid (HS2.out.step ho3 hg3 hn3)
      have hk3 : Blk w3 gk 80 #[.slice A' ls.length c'] := HS2.out.k.grown hg3 (Ne.symm (own_differ HS2.out.own HS2.out.k (by decide)))
      have y0 := hk3.cell 0
      have y1 := hk3.frozen 0
      clear ho3 hg3 hn3 hk3
      try simp only [Act.put]
      go_wp2_with fail
      go_roundw
      case rel => exact ⟨k + 1, A3, c3, by omega, by go_num, Lib.hid (by rw [HKS.out]; have := HS3.out; rw [hkn] at this; exact this)⟩
      case measure => simp [intOf]; omega
    · obtain rfl : k = kids.length := by omega
      have d0 : decide ((kids.length : Int) < (kids.length : Int)) = false := by simp
      have HSK : Hid (KSt w wa gt gn gk (.slice A l.length c) #[.int .u8 kind, .int .i64 pos, .string text, .int .i64 num, .slice kA kids.length kc] (kindsOf l kids) A' c') := Lib.hid (by have := HS.out; rw [List.take_length] at this; exact this)
      clear HS
      have y0 := HSK.out.n.cell 0
      go_wp2_with fail
      refine (forms_any kind wa).mono ?_
      rintro e w2 ⟨v, rfl, hv, hx2⟩
      have HS2 := Lib.hid (HSK.out.mono hx2)
      have HV := Lib.hid hv
      clear hv hx2 y0
      go_wp2_with fail
      have hkn : (kindsOf l kids).length ≤ 1000 := by simp [kindsOf]; omega
      have hv2 := HV.out
      rw [HFS.out] at hv2
      have hn2 : Blk w2 gn 73 (Array.mk (NodeM.cells ⟨kind, pos, text, num, kA, kc, kids⟩)) := HS2.out.n
      have hcall := contForm_any fs v A' (kindsOf l kids) c' gk gn ⟨kind, pos, text, num, kA, kc, kids⟩ w2 hv2 HFL.out (Cells.own HS2.out.own) hkn hx HS2.out.k hn2
      rw [show (fs.any fun f => formOk f (NodeM.mk kind pos text num kA kc kids).num (NodeM.mk kind pos text num kA kc kids).text.data.toList (kindsOf l kids)) = fitsN kind num text.data.toList (kindsOf l kids) from HFIT.out.symm] at hcall
      obtain ⟨res, HRES⟩ : ∃ r, Hid (fitsN kind num text.data.toList (kindsOf l kids) = r) := ⟨_, Lib.hid rfl⟩
      rw [HRES.out] at hcall
      refine hcall.mono ?_
      clear hcall
      rintro e w3 ⟨rfl, hx3⟩
      have HX3 : Hid (Ext w w3) := Lib.hid (HS2.out.ext.trans hx3)
      clear hx3
      go_wp2_with fail
      go_ret
      exact ⟨ret_b HRES.out.symm, HX3.out⟩
end Go.Proofs.Ythofccoefiogiaa
