/- code.Right, walked: whether instructions are right. Condition: few instructions, terms, values, variables. -/
import Derived.Test.YtngbpaiohfokbaaCrP
import Derived.Test.YtngbpaiohfokbaaCrE
import Derived.Test.YtngbpaiohfokbaaOpenC
import Derived.Test.YtngbpaiohfokbaaCrQ
namespace Go.Proofs.Ytngbpaiohfokbaa
open Go Go.RowKit
set_option linter.unusedVariables false
set_option linter.unusedSimpArgs false
def loQ (i : Nat) (t : Int) : Nat := if (i : Int) < t then i else t.toNat
def hiQ (i : Nat) (t : Int) : Nat := if (i : Int) < t then t.toNat else i + 1
def pieceIn (l : List FullI) (i : Nat) (t : Int) : Bool := ((l.drop (loQ i t)).take (hiQ i t - loQ i t)).any fun f => f.x.op == 15
def okP1F (l : List FullI) (tables : List Int) (v i : Nat) (f : FullI) : Bool := oneP f tables v l.length && ((f.x.op == 16) == decide (i + 1 = l.length))
def okP1 (l : List FullI) (tables : List Int) (v i : Nat) : Bool := match l[i]? with
  | none => true
  | some f => okP1F l tables v i f
def okP2 (l : List FullI) (i : Nat) : Bool := match l[i]? with
  | none => true
  | some f => !(decide (10 ≤ f.x.op) && decide (f.x.op ≤ 13)) || !pieceIn l i f.x.goes
def rightP (l : List FullI) (tables : List Int) (vars : Int) : Bool := decide (0 < l.length) && (decide (0 ≤ vars) && ((List.range l.length).all (okP1 l tables vars.toNat) && (List.range l.length).all (okP2 l)))
theorem idx_has {α : Type} (p : α → Bool) (l : List α) : decide (0 ≤ idxQ (l.findIdx? p)) = l.any p := by
  have h := idx_any (fun x => !p x) l
  simp only [Bool.not_not] at h
  rw [h, ← List.not_any_eq_all_not]
  simp
theorem goes_in {f : FullI} {tables : List Int} {v size : Nat} (h : oneP f tables v size = true) (h10 : 10 ≤ f.x.op) (h13 : f.x.op ≤ 13) : 0 ≤ f.x.goes ∧ f.x.goes < (size : Int) := by
  unfold oneP at h
  split at h
  · cases h
  split at h
  · cases h
  split at h
  · cases h
  split at h
  · cases h
  rename_i hv
  unfold varP at hv
  rw [decide_eq_true h10, decide_eq_true h13] at hv
  cases hg : inP f.x.goes (size : Int) with
  | true => exact in_yes hg
  | false => rw [hg] at hv; simp at hv
theorem cells_sub {w : World} {b off : Nat} {l : List FullI} (h : Cells w (some ⟨b, off, none⟩) (fcells l)) (lo n : Nat) (hlo : lo + n ≤ l.length) : Cells w (some ⟨b, off + lo * 13, none⟩) (fcells ((l.drop lo).take n)) := by
  by_cases h0 : n = 0
  · subst h0; exact .inl rfl
  obtain ⟨b', o', hA, hb, hcc⟩ := h.at_ (by rw [fcells_len]; omega)
  injection hA with hA
  injection hA with h1 h2
  subst h1 h2
  refine .inr ⟨b, off + lo * 13, rfl, hb, fun k hk => ?_⟩
  rw [fcells_len, List.length_take, List.length_drop] at hk
  have hk2 : k / 13 < n := by omega
  have e : k = (k / 13) * 13 + k % 13 := by omega
  have hm : k % 13 < 13 := Nat.mod_lt _ (by decide)
  generalize k / 13 = q at *
  generalize k % 13 = r at *
  subst e
  rw [fcells_at _ q r (by rw [List.length_take, List.length_drop]; omega) hm]
  rw [show off + lo * 13 + (q * 13 + r) = off + ((lo + q) * 13 + r) by omega, hcc _ (by rw [fcells_len]; omega), fcells_at l (lo + q) r (by omega) hm]
  congr 2
  simp
theorem size_instr : ∀ w, (Go.sizeOf 49).run Try.prog w = .ok 13 w := fun w => by kernel_rfl
theorem cut_instr (W : World) (b off n c lo hi : Nat) (h : lo < hi) (hc : hi ≤ c) : (Instr.slice 22 (.slice (some ⟨b, off, none⟩) n c) (some (.int .i64 (lo : Int))) (some (.int .i64 (hi : Int))) none).run Try.prog W = .ok (.slice (some ⟨b, off + lo * 13, none⟩) (hi - lo) (c - lo)) W := by
  have ht : Try.prog.underlying 22 = some (.slice (Try.prog.elem 22)) := by simp [Program.elem, Try.underlying22]
  have he : Try.prog.elem 22 = 49 := by simp [Program.elem, Try.underlying22]
  rw [run_slice_lh W 22 _ _ _ ht .i64 .i64 _ _ (by omega) (by omega) (by omega), he, size_instr]
  simp [Result.andThen, sliced, Addr.add]
  rw [if_neg (by omega)]
  split
  · rename_i hz; rw [hz]; rfl
  · rfl
set_option maxRecDepth 100000 in
set_option maxHeartbeats 32000000 in
theorem pright_any (A tA : Option Addr) (l : List FullI) (tables : List Int) (n c tn tc : Nat) (vars : Int) (w : World) (hn : n = l.length) (htn : tn = tables.length) (hl : l.length ≤ 900) (hcap : l.length ≤ c) (htl : tables.length ≤ 1000) (hvars : vars ≤ 900) (hop : ∀ f ∈ l, 0 ≤ f.x.op ∧ f.x.op < 256) (hf : ∀ f ∈ l, f.few) (hok : ∀ f ∈ l, f.tok) (hA : Row w A l) (hT : Cells w tA (ncells tables)) :
    Calls Try.prog 17 #[.slice A n c, .slice tA tn tc, .int .i64 vars] w fun e w' => e = .returned (.bool (rightP l tables vars)) ∧ Ext w w' := by
  subst hn htn
  obtain ⟨bb, HO⟩ : ∃ bb, Hid (rightP l tables vars = bb) := ⟨_, Lib.hid rfl⟩
  rw [HO.out]
  unfold rightP at HO
  by_cases h0 : l.length = 0
  · have HF : Hid (bb = false) := Lib.hid (by rw [← HO.out, decide_eq_false (by omega)]; rfl)
    have hz : l = [] := List.eq_nil_of_length_eq_zero h0
    subst hz
    clear hA hT HO hop hf
    go_enter Try.func17, Try.ntmps17
    go_wp2_with fail
    go_ret
    rw [HF.out]
    exact ⟨rfl, Ext.refl _⟩
  have d0 : ((l.length : Int) == 0) = false := beq_eq_false_iff_ne.2 (by omega)
  rw [decide_eq_true (by omega : 0 < l.length), Bool.true_and] at HO
  by_cases hv0 : vars < 0
  · have HF : Hid (bb = false) := Lib.hid (by rw [← HO.out, decide_eq_false (by omega)]; rfl)
    have d1 : decide (vars < 0) = true := decide_eq_true hv0
    clear hA hT HO hop hf hv0 h0 hcap
    generalize l.length = n at *
    go_enter Try.func17, Try.ntmps17
    go_wp2_with fail
    go_ret
    rw [HF.out]
    exact ⟨rfl, Ext.refl _⟩
  obtain ⟨v, rfl⟩ : ∃ v : Nat, vars = (v : Int) := ⟨vars.toNat, by omega⟩
  have d1 : decide ((v : Int) < 0) = false := decide_eq_false hv0
  rw [decide_eq_true (by omega : (0 : Int) ≤ (v : Int)), Bool.true_and, Int.toNat_natCast] at HO
  obtain ⟨b, off, rfl, hb⟩ := row_block hA (by omega)
  have HA := Lib.hid hA
  have HON : Hid (∀ k (hk : k < l.length) w', Ext w w' → Calls Try.prog 30 #[aggI l[k].x, .slice tA tables.length tc, .int .i64 (v : Int), .int .i64 (l.length : Int)] w' fun e w'' => e = .returned (.bool (oneP l[k] tables v l.length)) ∧ Ext w' w'') := Lib.hid fun k hk w' hx =>
    pone_any l[k] tA tables tables.length tc v l.length w' rfl htl (hop _ (List.getElem_mem hk)) (hf _ (List.getElem_mem hk)) (by omega) (by omega) ((hA.2 _ (List.getElem_mem hk)).ext hx) (hT.ext hx) (hok _ (List.getElem_mem hk)).1 (hok _ (List.getElem_mem hk)).2
  have HL := Lib.hid hl
  have HCP := Lib.hid hcap
  have HL0 := Lib.hid (show 0 < l.length by omega)
  clear hA hT hop hf hok hv0 h0 htl hvars hl hcap hb
  unfold aggI at HON
  obtain ⟨B1, HB1⟩ : ∃ b, Hid ((List.range l.length).all (okP1 l tables v) = b) := ⟨_, Lib.hid rfl⟩
  obtain ⟨B2, HB2⟩ : ∃ b, Hid ((List.range l.length).all (okP2 l) = b) := ⟨_, Lib.hid rfl⟩
  rw [HB1.out, HB2.out] at HO
  go_enter Try.func17, Try.ntmps17
  go_wp2_with fail
  clear d0 d1
  go_loopw [22] (fun i wr => ∃ k : Nat, k ≤ l.length ∧ i = .int .i64 k ∧ Hid (Ext w wr) ∧ Hid (∀ j, j < k → okP1 l tables v j = true)) (fun i _ => l.length - (intOf i).toNat)
  case atStart => exact ⟨0, Nat.zero_le _, rfl, Lib.hid (Ext.refl _), Lib.hid fun j h => by omega⟩
  case round =>
    obtain ⟨k, hk, rfl, HX, HJ⟩ := hrel
    obtain ⟨wa, rfl⟩ : ∃ wa : World, wa = wr := ⟨_, rfl⟩
    have hl := HL.out
    by_cases hlt : k < l.length
    rotate_left
    · obtain rfl : k = l.length := by omega
      have d2 : decide ((l.length : Int) < (l.length : Int)) = false := by simp
      have d3 : decide (l.length < l.length) = false := by simp
      have HB1T : Hid (B1 = true) := Lib.hid (by rw [← HB1.out]; exact range_yes fun j hj => HJ.out j hj)
      have HO2 : Hid (B2 = bb) := Lib.hid (by rw [← HO.out, HB1T.out]; simp)
      clear HO hk hlt
      go_wp2_with fail
      clear d2 d3
      have hl := HL.out
      go_loopw [48] (fun i wr => ∃ k : Nat, k ≤ l.length ∧ i = .int .i64 k ∧ Hid (Ext w wr) ∧ Hid (∀ j, j < k → okP2 l j = true)) (fun i _ => l.length - (intOf i).toNat)
      case atStart => exact ⟨0, Nat.zero_le _, rfl, HX, Lib.hid fun j h => by omega⟩
      case round =>
        clear HX
        obtain ⟨k, hk, rfl, HX, HQ⟩ := hrel
        obtain ⟨wa, rfl⟩ : ∃ wa : World, wa = wr := ⟨_, rfl⟩
        by_cases hlt : k < l.length
        rotate_left
        · obtain rfl : k = l.length := by omega
          have d2 : decide ((l.length : Int) < (l.length : Int)) = false := by simp
          have d3 : decide (l.length < l.length) = false := by simp
          have HBT : Hid (bb = true) := Lib.hid (by rw [← HO2.out, ← HB2.out]; exact range_yes fun j hj => HQ.out j hj)
          go_wp2_with fail
          go_ret
          rw [HBT.out]
          exact ⟨rfl, HX.out⟩
        have d2 : decide ((k : Int) < (l.length : Int)) = true := decide_eq_true (by omega)
        have d3 : decide (k < l.length) = true := decide_eq_true hlt
        have q0 : (k : Int) < (l.length : Int) := by omega
        have hx := row_cell (HA.out.ext HX.out) k hlt
        have HFD : Hid ((!(decide (10 ≤ l[k].x.op) && decide (l[k].x.op ≤ 13)) || !pieceIn l k l[k].x.goes) = false → bb = false) := Lib.hid fun h => by
          rw [← HO2.out, ← HB2.out]; exact range_no hlt (by unfold okP2; rw [List.getElem?_eq_getElem hlt]; exact h)
        have HTD : Hid ((!(decide (10 ≤ l[k].x.op) && decide (l[k].x.op ≤ 13)) || !pieceIn l k l[k].x.goes) = true → ∀ j, j < k + 1 → okP2 l j = true) := Lib.hid fun h j hj => by
          by_cases e : j = k
          · subst e; unfold okP2; rw [List.getElem?_eq_getElem hlt]; exact h
          · exact HQ.out j (by omega)
        have HGI : Hid (10 ≤ l[k].x.op → l[k].x.op ≤ 13 → 0 ≤ l[k].x.goes ∧ l[k].x.goes < (l.length : Int)) := Lib.hid fun h1 h2 => by
          have := HJ.out k hlt
          unfold okP1 at this
          rw [List.getElem?_eq_getElem hlt] at this
          exact goes_in (Bool.and_eq_true _ _ ▸ this : _ ∧ _).1 h1 h2
        generalize l[k] = f at *
        have x0 : wa.cell? ⟨b, off + k * 13, none⟩ = some (.int .u8 f.x.op) := hx 0 (by decide)
        have x1 : wa.cell? ⟨b, off + k * 13 + 1, none⟩ = some (.int .i64 f.x.node) := hx 1 (by decide)
        have x2 : wa.cell? ⟨b, off + k * 13 + 2, none⟩ = some (.int .u8 f.x.mode) := hx 2 (by decide)
        have x3 : wa.cell? ⟨b, off + k * 13 + 3, none⟩ = some (.int .i64 f.x.table) := hx 3 (by decide)
        have x4 : wa.cell? ⟨b, off + k * 13 + 4, none⟩ = some (.bool f.x.row) := hx 4 (by decide)
        have x5 : wa.cell? ⟨b, off + k * 13 + 5, none⟩ = some (.int .i64 f.x.col) := hx 5 (by decide)
        have x6 : wa.cell? ⟨b, off + k * 13 + 6, none⟩ = some (.int .i64 f.x.var) := hx 6 (by decide)
        have x7 : wa.cell? ⟨b, off + k * 13 + 7, none⟩ = some (.int .i64 f.x.goes) := hx 7 (by decide)
        have x8 : wa.cell? ⟨b, off + k * 13 + 8, none⟩ = some (.bool f.x.eq) := hx 8 (by decide)
        have x9 : wa.cell? ⟨b, off + k * 13 + 9, none⟩ = some (.int .i64 f.x.frm) := hx 9 (by decide)
        have x10 : wa.cell? ⟨b, off + k * 13 + 10, none⟩ = some (.int .i64 f.x.upto) := hx 10 (by decide)
        have x11 : wa.cell? ⟨b, off + k * 13 + 11, none⟩ = some (.slice f.x.key.1 f.x.key.2.1 f.x.key.2.2) := hx 11 (by decide)
        have x12 : wa.cell? ⟨b, off + k * 13 + 12, none⟩ = some (.slice f.x.vals.1 f.x.vals.2.1 f.x.vals.2.2) := hx 12 (by decide)
        clear hx
        go_wp2_with (refine wpList_put rfl 49 _ _ rfl wa.heap.size #[.int .u8 f.x.op, .int .i64 f.x.node, .int .u8 f.x.mode, .int .i64 f.x.table, .bool f.x.row, .int .i64 f.x.col, .int .i64 f.x.var, .int .i64 f.x.goes, .bool f.x.eq, .int .i64 f.x.frm, .int .i64 f.x.upto, .slice f.x.key.1 f.x.key.2.1 f.x.key.2.2, .slice f.x.vals.1 f.x.vals.2.1 f.x.vals.2.2] (by kernel_rfl) (by kernel_rfl) 49 _ (Blk.new _ _ _) (by kernel_rfl) rfl rfl ?_)
        intro w1 ht1 hb1
        have HX1 : Hid (Ext w w1) := Lib.hid (HX.out.trans (ht1.ext (Ext.alloc wa _) (Nat.le_refl _)))
        have HB := Lib.hid hb1
        clear ht1 hb1 x0 x1 x2 x3 x4 x5 x6 x7 x8 x9 x10 x11 x12
        generalize wa.heap.size = ga at *
        have y0 : w1.cell? ⟨ga, 0, none⟩ = some (.int .u8 f.x.op) := HB.out.cell 0
        have y7 : w1.cell? ⟨ga, 7, none⟩ = some (.int .i64 f.x.goes) := HB.out.cell 7
        have HLT := Lib.hid HB.out.lt
        generalize f.x.op = op at *
        generalize f.x.goes = goes at *
        by_cases h10 : op < 10
        · have d4 : decide (op < 10) = true := decide_eq_true h10
          have HN := Lib.hid (HTD.out (by rw [decide_eq_false (by omega)]; rfl))
          clear h10 HGI
          go_wp2_with fail
          go_roundw
          case rel => exact ⟨k + 1, by omega, by go_num, HX1, HN⟩
          case measure => simp [intOf]; omega
        have d4 : decide (op < 10) = false := decide_eq_false h10
        by_cases h13 : 13 < op
        · have d5 : decide (op > 13) = true := decide_eq_true h13
          have d5' : decide (13 < op) = true := d5
          have HN := Lib.hid (HTD.out (by rw [decide_eq_false (show ¬ op ≤ 13 by omega)]; simp))
          clear h10 h13 HGI
          go_wp2_with fail
          go_roundw
          case rel => exact ⟨k + 1, by omega, by go_num, HX1, HN⟩
          case measure => simp [intOf]; omega
        have d5 : decide (op > 13) = false := decide_eq_false h13
        have d5' : decide (13 < op) = false := d5
        obtain ⟨hg0, hg1⟩ := HGI.out (by omega) (by omega)
        rw [decide_eq_true (show 10 ≤ op by omega), decide_eq_true (show op ≤ 13 by omega)] at HFD HTD
        obtain ⟨t, rfl⟩ : ∃ t : Nat, goes = (t : Int) := ⟨goes.toNat, by omega⟩
        obtain ⟨pb, HPB⟩ : ∃ pb, Hid (pieceIn l k (t : Int) = pb) := ⟨_, Lib.hid rfl⟩
        rw [HPB.out] at HFD HTD
        have HFD := Lib.hid (fun h : pb = true => HFD.out (by rw [h]; rfl))
        have HTD := Lib.hid (fun h : pb = false => HTD.out (by rw [h]; rfl))
        unfold pieceIn loQ hiQ at HPB
        rw [← idx_has] at HPB
        clear h10 h13 HGI hg0
        by_cases hup : k < t
        · have e0 : decide ((t : Int) < (k : Int)) = false := decide_eq_false (by omega)
          have e1 : decide ((t : Int) > (k : Int)) = true := decide_eq_true (by omega)
          have e1' : decide ((k : Int) < (t : Int)) = true := e1
          have e2 : ¬ (t : Int) < (k : Int) := by omega
          have e3 : (k : Int) < (t : Int) := by omega
          rw [if_pos e3, if_pos e3, Int.toNat_natCast] at HPB
          have qw : IntKind.wrap .i64 ((t : Int) - 1) = (t : Int) - 1 := by rw [IntKind.wrap_i64]; omega
          have qv : IntKind.wrap .i64 ((t : Int) - 1 + 1) = (t : Int) := by rw [IntKind.wrap_i64]; omega
          have HSL : Hid (∀ W, (Instr.slice 22 (.slice (some ⟨b, off, none⟩) l.length c) (some (.int .i64 (k : Int))) (some (.int .i64 (t : Int))) none).run Try.prog W = .ok (.slice (some ⟨b, off + k * 13, none⟩) ((t) - k) (c - k)) W) := Lib.hid fun W => by
            have := cut_instr W b off l.length c k (t) (by omega) (by have := HCP.out; omega)
            exact this
          have HCL : Hid (Cells w1 (some ⟨b, off + k * 13, none⟩) (fcells ((l.drop k).take (t - k)))) := Lib.hid (cells_sub (HA.out.ext HX1.out).1 _ _ (by omega))
          have HLN : Hid (((l.drop k).take (t - k)).length = t - k) := Lib.hid (by rw [List.length_take, List.length_drop]; omega)
          generalize (l.drop k).take (t - k) = sub at *
          go_upto_region 13 with fail
          apply wp_region_ext (by kernel_rfl) (by kernel_rfl) (by kernel_rfl)
          apply step_det (.int .i64 (k : Int)) rfl rfl rfl
          · intro w' hw' hH
            clear hH
            simp [YieldsF, go_sem]
            exact Ext.refl _
          apply step_det (.pointer (some ⟨ga, 7, none⟩)) rfl rfl rfl
          · intro w' hw' hH
            clear hH
            simp [YieldsF, go_sem]
            exact Ext.refl _
          apply step_det (.int .i64 (t : Int)) rfl rfl rfl
          · intro w' hw' hH
            clear hH
            have z7 := (hw'.cell (p := ⟨ga, 7, none⟩) HLT.out).trans y7
            simp [YieldsF, go_sem, z7]
            exact Ext.refl _
          apply step_det (.int .i64 (k : Int)) rfl rfl rfl
          · intro w' hw' hH
            clear hH
            have hm : (if (t : Int) < (k : Int) then (t : Int) else (k : Int)) = (k : Int) := by split <;> omega
            simp [YieldsF, go_sem, execOp, Builtin.min_, Builtin.min2, hm]
            first | exact Ext.refl _ | exact ⟨hm, Ext.refl _⟩ | exact ⟨by omega, Ext.refl _⟩
          apply step_det (.int .i64 (k : Int)) rfl rfl rfl
          · intro w' hw' hH
            clear hH
            simp [YieldsF, go_sem]
            exact Ext.refl _
          apply step_det (.pointer (some ⟨ga, 7, none⟩)) rfl rfl rfl
          · intro w' hw' hH
            clear hH
            simp [YieldsF, go_sem]
            exact Ext.refl _
          apply step_det (.int .i64 (t : Int)) rfl rfl rfl
          · intro w' hw' hH
            clear hH
            have z7 := (hw'.cell (p := ⟨ga, 7, none⟩) HLT.out).trans y7
            simp [YieldsF, go_sem, z7]
            exact Ext.refl _
          apply step_det (.int .i64 (t : Int)) rfl rfl rfl
          · intro w' hw' hH
            clear hH
            have hm : (if (k : Int) < (t : Int) then (t : Int) else (k : Int)) = (t : Int) := by split <;> omega
            simp [YieldsF, go_sem, execOp, Builtin.max_, Builtin.max2, hm]
            first | exact Ext.refl _ | exact ⟨hm, Ext.refl _⟩ | exact ⟨by omega, Ext.refl _⟩
          apply step_det (.int .i64 (k : Int)) rfl rfl rfl
          · intro w' hw' hH
            clear hH
            simp [YieldsF, go_sem]
            exact Ext.refl _
          apply step_det (.int .i64 (t : Int)) rfl rfl rfl
          · intro w' hw' hH
            clear hH
            simp [YieldsF, go_sem]
            exact Ext.refl _
          apply WalkF_nil
          intro w2 hx2 hH
          clear hH
          try simp only [Act.put, List.setIfInBounds_toArray, List.set_cons_zero, List.set_cons_succ]
          have HX2 := Lib.hid (HX1.out.trans hx2)
          have HCL2 := Lib.hid (HCL.out.ext hx2)
          have z7 := (hx2.cell (p := ⟨ga, 7, none⟩) HLT.out).trans y7
          clear hx2 y0 y7 HCL HX1
          have hsl := HSL.out
          go_wp2_with fail
          refine (contI_any w2 _ sub _ _ HLN.out.symm (by have := HLN.out; omega) HCL2.out pb HPB).mono ?_
          rintro e w3 ⟨rfl, hx3⟩
          have HX3 := Lib.hid (HX2.out.trans hx3)
          clear hx3 z7
          cases pb with
          | true =>
            have HBF := Lib.hid (HFD.out rfl)
            go_wp2_with fail
            go_ret
            rw [HBF.out]
            exact ⟨rfl, HX3.out⟩
          | false =>
            have HN := Lib.hid (HTD.out rfl)
            clear hup hsl
            go_wp2_with fail
            go_roundw
            case rel => exact ⟨k + 1, by omega, by go_num, HX3, HN⟩
            case measure => simp [intOf]; omega
        · have e1 : decide ((t : Int) > (k : Int)) = false := decide_eq_false (by omega)
          have e1' : decide ((k : Int) < (t : Int)) = false := e1
          have e3 : ¬ (k : Int) < (t : Int) := by omega
          rw [if_neg e3, if_neg e3, Int.toNat_natCast] at HPB
          have qv : IntKind.wrap .i64 ((k : Int) + 1) = (k : Int) + 1 := by rw [IntKind.wrap_i64]; omega
          have HSL : Hid (∀ W, (Instr.slice 22 (.slice (some ⟨b, off, none⟩) l.length c) (some (.int .i64 (t : Int))) (some (.int .i64 ((k : Int) + 1))) none).run Try.prog W = .ok (.slice (some ⟨b, off + t * 13, none⟩) ((k + 1) - t) (c - t)) W) := Lib.hid fun W => by
            have := cut_instr W b off l.length c t (k + 1) (by omega) (by have := HCP.out; omega)
            exact this
          have HCL : Hid (Cells w1 (some ⟨b, off + t * 13, none⟩) (fcells ((l.drop t).take ((k + 1) - t)))) := Lib.hid (cells_sub (HA.out.ext HX1.out).1 _ _ (by omega))
          have HLN : Hid (((l.drop t).take ((k + 1) - t)).length = (k + 1) - t) := Lib.hid (by rw [List.length_take, List.length_drop]; omega)
          generalize (l.drop t).take ((k + 1) - t) = sub at *
          go_upto_region 13 with fail
          apply wp_region_ext (by kernel_rfl) (by kernel_rfl) (by kernel_rfl)
          apply step_det (.int .i64 (k : Int)) rfl rfl rfl
          · intro w' hw' hH
            clear hH
            simp [YieldsF, go_sem]
            exact Ext.refl _
          apply step_det (.pointer (some ⟨ga, 7, none⟩)) rfl rfl rfl
          · intro w' hw' hH
            clear hH
            simp [YieldsF, go_sem]
            exact Ext.refl _
          apply step_det (.int .i64 (t : Int)) rfl rfl rfl
          · intro w' hw' hH
            clear hH
            have z7 := (hw'.cell (p := ⟨ga, 7, none⟩) HLT.out).trans y7
            simp [YieldsF, go_sem, z7]
            exact Ext.refl _
          apply step_det (.int .i64 (t : Int)) rfl rfl rfl
          · intro w' hw' hH
            clear hH
            have hm : (if (t : Int) < (k : Int) then (t : Int) else (k : Int)) = (t : Int) := by split <;> omega
            simp [YieldsF, go_sem, execOp, Builtin.min_, Builtin.min2, hm]
            first | exact Ext.refl _ | exact ⟨hm, Ext.refl _⟩ | exact ⟨by omega, Ext.refl _⟩
          apply step_det (.int .i64 (k : Int)) rfl rfl rfl
          · intro w' hw' hH
            clear hH
            simp [YieldsF, go_sem]
            exact Ext.refl _
          apply step_det (.pointer (some ⟨ga, 7, none⟩)) rfl rfl rfl
          · intro w' hw' hH
            clear hH
            simp [YieldsF, go_sem]
            exact Ext.refl _
          apply step_det (.int .i64 (t : Int)) rfl rfl rfl
          · intro w' hw' hH
            clear hH
            have z7 := (hw'.cell (p := ⟨ga, 7, none⟩) HLT.out).trans y7
            simp [YieldsF, go_sem, z7]
            exact Ext.refl _
          apply step_det (.int .i64 (k : Int)) rfl rfl rfl
          · intro w' hw' hH
            clear hH
            have hm : (if (k : Int) < (t : Int) then (t : Int) else (k : Int)) = (k : Int) := by split <;> omega
            simp [YieldsF, go_sem, execOp, Builtin.max_, Builtin.max2, hm]
            first | exact Ext.refl _ | exact ⟨hm, Ext.refl _⟩ | exact ⟨by omega, Ext.refl _⟩
          apply step_det (.int .i64 (t : Int)) rfl rfl rfl
          · intro w' hw' hH
            clear hH
            simp [YieldsF, go_sem]
            exact Ext.refl _
          apply step_det (.int .i64 (k : Int)) rfl rfl rfl
          · intro w' hw' hH
            clear hH
            simp [YieldsF, go_sem]
            exact Ext.refl _
          apply WalkF_nil
          intro w2 hx2 hH
          clear hH
          try simp only [Act.put, List.setIfInBounds_toArray, List.set_cons_zero, List.set_cons_succ]
          have HX2 := Lib.hid (HX1.out.trans hx2)
          have HCL2 := Lib.hid (HCL.out.ext hx2)
          have z7 := (hx2.cell (p := ⟨ga, 7, none⟩) HLT.out).trans y7
          clear hx2 y0 y7 HCL HX1
          have hsl := HSL.out
          go_wp2_with fail
          refine (contI_any w2 _ sub _ _ HLN.out.symm (by have := HLN.out; omega) HCL2.out pb HPB).mono ?_
          rintro e w3 ⟨rfl, hx3⟩
          have HX3 := Lib.hid (HX2.out.trans hx3)
          clear hx3 z7
          cases pb with
          | true =>
            have HBF := Lib.hid (HFD.out rfl)
            go_wp2_with fail
            go_ret
            rw [HBF.out]
            exact ⟨rfl, HX3.out⟩
          | false =>
            have HN := Lib.hid (HTD.out rfl)
            clear hup hsl
            go_wp2_with fail
            go_roundw
            case rel => exact ⟨k + 1, by omega, by go_num, HX3, HN⟩
            case measure => simp [intOf]; omega
    have d2 : decide ((k : Int) < (l.length : Int)) = true := decide_eq_true (by omega)
    have d3 : decide (k < l.length) = true := decide_eq_true hlt
    have q0 : (k : Int) < (l.length : Int) := by omega
    have hx := row_cell (HA.out.ext HX.out) k hlt
    have hone := HON.out k hlt
    have HFD : Hid (okP1F l tables v k l[k] = false → bb = false) := Lib.hid fun h => by
      have : B1 = false := by rw [← HB1.out]; exact range_no hlt (by unfold okP1; rw [List.getElem?_eq_getElem hlt]; exact h)
      rw [← HO.out, this]; rfl
    have HTD : Hid (okP1F l tables v k l[k] = true → ∀ j, j < k + 1 → okP1 l tables v j = true) := Lib.hid fun h j hj => by
      by_cases e : j = k
      · subst e; unfold okP1; rw [List.getElem?_eq_getElem hlt]; exact h
      · exact HJ.out j (by omega)
    unfold okP1F at HFD HTD
    generalize l[k] = f at *
    have x0 : wa.cell? ⟨b, off + k * 13, none⟩ = some (.int .u8 f.x.op) := hx 0 (by decide)
    have x1 : wa.cell? ⟨b, off + k * 13 + 1, none⟩ = some (.int .i64 f.x.node) := hx 1 (by decide)
    have x2 : wa.cell? ⟨b, off + k * 13 + 2, none⟩ = some (.int .u8 f.x.mode) := hx 2 (by decide)
    have x3 : wa.cell? ⟨b, off + k * 13 + 3, none⟩ = some (.int .i64 f.x.table) := hx 3 (by decide)
    have x4 : wa.cell? ⟨b, off + k * 13 + 4, none⟩ = some (.bool f.x.row) := hx 4 (by decide)
    have x5 : wa.cell? ⟨b, off + k * 13 + 5, none⟩ = some (.int .i64 f.x.col) := hx 5 (by decide)
    have x6 : wa.cell? ⟨b, off + k * 13 + 6, none⟩ = some (.int .i64 f.x.var) := hx 6 (by decide)
    have x7 : wa.cell? ⟨b, off + k * 13 + 7, none⟩ = some (.int .i64 f.x.goes) := hx 7 (by decide)
    have x8 : wa.cell? ⟨b, off + k * 13 + 8, none⟩ = some (.bool f.x.eq) := hx 8 (by decide)
    have x9 : wa.cell? ⟨b, off + k * 13 + 9, none⟩ = some (.int .i64 f.x.frm) := hx 9 (by decide)
    have x10 : wa.cell? ⟨b, off + k * 13 + 10, none⟩ = some (.int .i64 f.x.upto) := hx 10 (by decide)
    have x11 : wa.cell? ⟨b, off + k * 13 + 11, none⟩ = some (.slice f.x.key.1 f.x.key.2.1 f.x.key.2.2) := hx 11 (by decide)
    have x12 : wa.cell? ⟨b, off + k * 13 + 12, none⟩ = some (.slice f.x.vals.1 f.x.vals.2.1 f.x.vals.2.2) := hx 12 (by decide)
    have HONE : Hid (∀ w', Ext w w' → Calls Try.prog 30 #[.agg #[.int .u8 f.x.op, .int .i64 f.x.node, .int .u8 f.x.mode, .int .i64 f.x.table, .bool f.x.row, .int .i64 f.x.col, .int .i64 f.x.var, .int .i64 f.x.goes, .bool f.x.eq, .int .i64 f.x.frm, .int .i64 f.x.upto, .slice f.x.key.1 f.x.key.2.1 f.x.key.2.2, .slice f.x.vals.1 f.x.vals.2.1 f.x.vals.2.2], .slice tA tables.length tc, .int .i64 (v : Int), .int .i64 (l.length : Int)] w' fun e w'' => e = .returned (.bool (oneP f tables v l.length)) ∧ Ext w' w'') := Lib.hid hone
    clear hx hone
    obtain ⟨t1, HT1⟩ : ∃ t1, Hid (oneP f tables v l.length = t1) := ⟨_, Lib.hid rfl⟩
    rw [HT1.out] at HONE HFD HTD
    go_wp2_with (refine wpList_put rfl 49 _ _ rfl wa.heap.size #[.int .u8 f.x.op, .int .i64 f.x.node, .int .u8 f.x.mode, .int .i64 f.x.table, .bool f.x.row, .int .i64 f.x.col, .int .i64 f.x.var, .int .i64 f.x.goes, .bool f.x.eq, .int .i64 f.x.frm, .int .i64 f.x.upto, .slice f.x.key.1 f.x.key.2.1 f.x.key.2.2, .slice f.x.vals.1 f.x.vals.2.1 f.x.vals.2.2] (by kernel_rfl) (by kernel_rfl) 49 _ (Blk.new _ _ _) (by kernel_rfl) rfl rfl ?_)
    intro w1 ht1 hb1
    have HX1 : Hid (Ext wa w1) := Lib.hid (ht1.ext (Ext.alloc wa _) (Nat.le_refl _))
    have HB := Lib.hid hb1
    clear ht1 hb1 x0 x1 x2 x3 x4 x5 x6 x7 x8 x9 x10 x11 x12
    generalize wa.heap.size = ga at *
    have y0 : w1.cell? ⟨ga, 0, none⟩ = some (.int .u8 f.x.op) := HB.out.cell 0
    have y1 : w1.cell? ⟨ga, 1, none⟩ = some (.int .i64 f.x.node) := HB.out.cell 1
    have y2 : w1.cell? ⟨ga, 2, none⟩ = some (.int .u8 f.x.mode) := HB.out.cell 2
    have y3 : w1.cell? ⟨ga, 3, none⟩ = some (.int .i64 f.x.table) := HB.out.cell 3
    have y4 : w1.cell? ⟨ga, 4, none⟩ = some (.bool f.x.row) := HB.out.cell 4
    have y5 : w1.cell? ⟨ga, 5, none⟩ = some (.int .i64 f.x.col) := HB.out.cell 5
    have y6 : w1.cell? ⟨ga, 6, none⟩ = some (.int .i64 f.x.var) := HB.out.cell 6
    have y7 : w1.cell? ⟨ga, 7, none⟩ = some (.int .i64 f.x.goes) := HB.out.cell 7
    have y8 : w1.cell? ⟨ga, 8, none⟩ = some (.bool f.x.eq) := HB.out.cell 8
    have y9 : w1.cell? ⟨ga, 9, none⟩ = some (.int .i64 f.x.frm) := HB.out.cell 9
    have y10 : w1.cell? ⟨ga, 10, none⟩ = some (.int .i64 f.x.upto) := HB.out.cell 10
    have y11 : w1.cell? ⟨ga, 11, none⟩ = some (.slice f.x.key.1 f.x.key.2.1 f.x.key.2.2) := HB.out.cell 11
    have y12 : w1.cell? ⟨ga, 12, none⟩ = some (.slice f.x.vals.1 f.x.vals.2.1 f.x.vals.2.2) := HB.out.cell 12
    go_wp2_with fail
    refine (HONE.out w1 (HX.out.trans HX1.out)).mono ?_
    rintro e w2 ⟨rfl, hx2⟩
    have HX2 := Lib.hid (HX.out.trans (HX1.out.trans hx2))
    have HC2 := Lib.hid (HB.out.ext hx2)
    clear hx2 y0 y1 y2 y3 y4 y5 y6 y7 y8 y9 y10 y11 y12 HONE HT1 HB HX1
    cases t1 with
    | false =>
      have HBF := Lib.hid (HFD.out rfl)
      go_wp2_with fail
      go_ret
      rw [HBF.out]
      exact ⟨rfl, HX2.out⟩
    | true =>
    have y0 : w2.cell? ⟨ga, 0, none⟩ = some (.int .u8 f.x.op) := HC2.out.cell 0
    have qs : IntKind.wrap .i64 ((l.length : Int) - 1) = (l.length : Int) - 1 := by rw [IntKind.wrap_i64]; omega
    obtain ⟨t16, ht16⟩ : ∃ t : Bool, (f.x.op == 16) = t := ⟨_, rfl⟩
    obtain ⟨tl, htl⟩ : ∃ t : Bool, ((k : Int) == (l.length : Int) - 1) = t := ⟨_, rfl⟩
    have HTL : Hid (decide (k + 1 = l.length) = tl) := Lib.hid (by rw [← htl, Bool.eq_iff_iff, decide_eq_true_iff, beq_iff_eq]; omega)
    rw [ht16, HTL.out] at HFD HTD
    generalize f.x.op = op at *
    by_cases hne : t16 = tl
    rotate_left
    · have g0 : (t16 != tl) = true := bne_iff_ne.2 hne
      have g0x : (t16 == tl) = false := beq_eq_false_iff_ne.2 hne
      have HBF := Lib.hid (HFD.out (by rw [beq_eq_false_iff_ne.2 hne]; rfl))
      clear hne HFD HTD
      go_wp2_with fail
      go_ret
      rw [HBF.out]
      exact ⟨rfl, HX2.out⟩
    have g0 : (t16 != tl) = false := by rw [hne]; simp
    have g0x : (t16 == tl) = true := beq_iff_eq.2 hne
    have HTD := Lib.hid (HTD.out (by rw [hne]; simp))
    clear hne HTL HFD
    go_wp2_with fail
    go_roundw
    case rel => exact ⟨k + 1, by omega, by go_num, HX2, HTD⟩
    case measure => simp [intOf]; omega
end Go.Proofs.Ytngbpaiohfokbaa
