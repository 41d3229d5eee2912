/- The program's term, sum and factor: an expression read. No condition. -/
import Derived.Test.YtcccnicldbpieaaGreatDoorPsJ
namespace Go.Proofs.YtcccnicldbpieaaGreatDoor
open Go Go.RowKit
set_option linter.unusedVariables false
set_option linter.unusedSimpArgs false
def CallsE (F f : Nat) (m : Pm Ex) : Prop := ∀ (w : World) (p B : Nat) (s : Ps) (R : PRep), PS w p B s R → Good s → s.ts.length ≤ f → Calls Tryz.prog F #[.pointer (some ⟨p, 0, none⟩)] w (PostE w p B R (m s))
theorem EX.moved {w w1 w2 : World} {M1 M2 : Nat → Prop} {c : Nat → Prop} {x : Ex} {cs : List Value} (h : EX w1 (Or M1 c) x cs) (hm : Moves w1 M1 w2 M2) (c' : Nat → Prop) (hc : ∀ b, c' b → c b) : EX w2 (Or M2 c') x cs :=
  (h.moves (hm.or c)).weaken fun b _ k => by
    rcases k with k | k
    · exact .inl k
    · exact .inr (hc b k)
def ezero : Array Value := #[.int .u8 0, .int .i64 0, .string ⟨#[]⟩, .int .i64 0, .slice none 0 0, .slice none 0 0]
set_option maxRecDepth 100000 in
set_option maxHeartbeats 4000000 in
theorem pterm_of (f : Nat) (part : Pm Ex) (hpart : CallsE 149 f part) (hfine : ∀ t, Good t → t.ts.length ≤ f → FineE t (part t)) : CallsE 148 f (chainP starM part) := by
  intro w p B s R h hG hl
  have HP := Lib.hid h
  have HG := Lib.hid hG
  have HPA := Lib.hid hpart
  have HFI := Lib.hid hfine
  have HL := Lib.hid hl
  have hm := hmf
  have HX1 : Hid (Ext w (w.alloc (.cells ezero 171))) := Lib.hid (Ext.alloc _ _)
  have HX2 : Hid (Ext w ((w.alloc (.cells ezero 171)).alloc (.cells #[.int .u8 25] 5))) := Lib.hid ((Ext.alloc _ _).trans (Ext.alloc _ _))
  have HZ : Hid (Safe ((w.alloc (.cells ezero 171)).alloc (.cells #[.int .u8 25] 5)) (MineP p R) w.heap.size 171 ezero) := Lib.hid ((h.fresh 171 ezero).moves (Moves.ext (M := MineP p R) (Ext.alloc _ _)))
  have hk := (h.ext HX1.out).fresh 5 #[.int .u8 25]
  rw [World.size_alloc] at hk
  have HK := Lib.hid hk
  have HBW : Hid (B ≤ w.heap.size) := Lib.hid (Nat.le_trans h.pB (Nat.le_of_lt h.blk.lt))
  clear h hG hpart hfine hl hk
  go_enter Tryz.func148, Tryz.ntmps148
  go_wp2_with fail
  refine (pchain_any f starM part 149 #[.pointer (some ⟨p, 0, none⟩)] #[] (some ⟨w.heap.size + 1, 0, none⟩) 1 _ p B s R (HP.out.ext HX2.out) HG.out HL.out (by intro m hm; simp only [starM, List.mem_cons, List.not_mem_nil, or_false] at hm; rw [hm]; rfl) (by decide) HK.out.row HFI.out (enters_of Tryz.func149 (by kernel_rfl) rfl) (fun wr s' R' hm hp hg hn => HPA.out wr p B s' R' hp hg hn)).mono ?_
  intro e w1 hpost
  cases hr : chainP starM part s with
  | err er a =>
    rw [hr] at hpost
    obtain ⟨rfl, ho⟩ := hpost
    have HF : Hid (PostE w p B R (Res.err er a) (panicV er) w1) := Lib.hid (ErrP.trans (Moves.ext HX2.out) ⟨rfl, ho⟩)
    exact panics_post (P := Tryz.prog) (fn := Tryz.f148) rfl HF.out
  | ok x s1 =>
    rw [hr] at hpost
    obtain ⟨cs, R1, rfl, hp1, hm1, hx1⟩ := hpost
    obtain ⟨A1, c1, f1, hcs, _⟩ := hx1.open
    have HP1 := Lib.hid hp1
    have HM1 := Lib.hid ((Moves.ext (M := MineP p R) HX2.out).trans hm1)
    have HZ1 := Lib.hid (HZ.out.moves hm1)
    have HE1 := Lib.hid hx1
    have HR := Lib.hid hr
    clear hr hp1 hm1 hx1
    subst hcs
    unfold ehead
    generalize x.parts.length = xm at *
    generalize HY : x.node = y at *
    obtain ⟨yk, yp, yt, yn, yks⟩ := y
    simp only
    go_wp2_with (refine wpList_put rfl 171 (.tmp 2) (.tmp 7) rfl w.heap.size #[.int .u8 (yk : Int), .int .i64 (yp : Int), .string (bstr yt), .int .i64 yn, .slice none 0 0, .slice A1 xm c1] (by rfl) (by rfl) 171 _ HZ1.out.1 (by kernel_rfl) rfl rfl ?_; intro w6 ht6 hb6)
    have HF6 : Hid (PostE w p B R (chainP starM part s) (.returned (.agg (ehead ⟨yk, yp, yt, yn, yks⟩ A1 xm c1).toArray)) w6) := Lib.hid (by rw [HR.out]; exact ⟨_, R1, rfl, ht6.ps HP1.out HBW.out HZ1.out.2, HM1.out.touch ht6 (Nat.le_refl _), ((HE1.out.weaken (M' := Or (MineP p R1) (fun b => under w b ∨ b = w.heap.size)) fun b hb k => by
      rcases k with k | k | k
      · exact .inl k
      · exact .inr (Nat.lt_of_lt_of_le k HX2.out.size)
      · subst k; exact .inr HZ.out.1.lt).moves (ht6.moves (.inr (.inr rfl)))).weaken fun b hb k => by
      rcases k with k | k
      · exact .inl k
      · exact .inr (.inl k)⟩)
    have HB6 := Lib.hid hb6
    clear ht6 hb6
    go_wp2_with fail
    exact ret_row w.heap.size 171 _ _ Tryz.results148 rfl rfl HB6.out Tryz.underlying171 rfl (by kernel_rfl) HF6.out
set_option maxRecDepth 100000 in
set_option maxHeartbeats 4000000 in
theorem psum_of (f : Nat) (part : Pm Ex) (hpart : CallsE 148 f part) (hfine : ∀ t, Good t → t.ts.length ≤ f → FineE t (part t)) : CallsE 143 f (chainP plusM part) := by
  intro w p B s R h hG hl
  have HP := Lib.hid h
  have HG := Lib.hid hG
  have HPA := Lib.hid hpart
  have HFI := Lib.hid hfine
  have HL := Lib.hid hl
  have hm := hmf
  have HX1 : Hid (Ext w (w.alloc (.cells ezero 171))) := Lib.hid (Ext.alloc _ _)
  have HX2 : Hid (Ext w ((w.alloc (.cells ezero 171)).alloc (.cells #[.int .u8 23, .int .u8 24] 5))) := Lib.hid ((Ext.alloc _ _).trans (Ext.alloc _ _))
  have HZ : Hid (Safe ((w.alloc (.cells ezero 171)).alloc (.cells #[.int .u8 23, .int .u8 24] 5)) (MineP p R) w.heap.size 171 ezero) := Lib.hid ((h.fresh 171 ezero).moves (Moves.ext (M := MineP p R) (Ext.alloc _ _)))
  have hk := (h.ext HX1.out).fresh 5 #[.int .u8 23, .int .u8 24]
  rw [World.size_alloc] at hk
  have HK := Lib.hid hk
  have HBW : Hid (B ≤ w.heap.size) := Lib.hid (Nat.le_trans h.pB (Nat.le_of_lt h.blk.lt))
  clear h hG hpart hfine hl hk
  go_enter Tryz.func143, Tryz.ntmps143
  go_wp2_with fail
  refine (pchain_any f plusM part 148 #[.pointer (some ⟨p, 0, none⟩)] #[] (some ⟨w.heap.size + 1, 0, none⟩) 2 _ p B s R (HP.out.ext HX2.out) HG.out HL.out (by intro m hm; simp only [plusM, List.mem_cons, List.not_mem_nil, or_false] at hm; rcases hm with rfl | rfl <;> rfl) (by decide) HK.out.row HFI.out (enters_of Tryz.func148 (by kernel_rfl) rfl) (fun wr s' R' hm hp hg hn => HPA.out wr p B s' R' hp hg hn)).mono ?_
  intro e w1 hpost
  cases hr : chainP plusM part s with
  | err er a =>
    rw [hr] at hpost
    obtain ⟨rfl, ho⟩ := hpost
    have HF : Hid (PostE w p B R (Res.err er a) (panicV er) w1) := Lib.hid (ErrP.trans (Moves.ext HX2.out) ⟨rfl, ho⟩)
    exact panics_post (P := Tryz.prog) (fn := Tryz.f143) rfl HF.out
  | ok x s1 =>
    rw [hr] at hpost
    obtain ⟨cs, R1, rfl, hp1, hm1, hx1⟩ := hpost
    obtain ⟨A1, c1, f1, hcs, _⟩ := hx1.open
    have HP1 := Lib.hid hp1
    have HM1 := Lib.hid ((Moves.ext (M := MineP p R) HX2.out).trans hm1)
    have HZ1 := Lib.hid (HZ.out.moves hm1)
    have HE1 := Lib.hid hx1
    have HR := Lib.hid hr
    clear hr hp1 hm1 hx1
    subst hcs
    unfold ehead
    generalize x.parts.length = xm at *
    generalize HY : x.node = y at *
    obtain ⟨yk, yp, yt, yn, yks⟩ := y
    simp only
    go_wp2_with (refine wpList_put rfl 171 (.tmp 2) (.tmp 7) rfl w.heap.size #[.int .u8 (yk : Int), .int .i64 (yp : Int), .string (bstr yt), .int .i64 yn, .slice none 0 0, .slice A1 xm c1] (by rfl) (by rfl) 171 _ HZ1.out.1 (by kernel_rfl) rfl rfl ?_; intro w6 ht6 hb6)
    have HF6 : Hid (PostE w p B R (chainP plusM part s) (.returned (.agg (ehead ⟨yk, yp, yt, yn, yks⟩ A1 xm c1).toArray)) w6) := Lib.hid (by rw [HR.out]; exact ⟨_, R1, rfl, ht6.ps HP1.out HBW.out HZ1.out.2, HM1.out.touch ht6 (Nat.le_refl _), ((HE1.out.weaken (M' := Or (MineP p R1) (fun b => under w b ∨ b = w.heap.size)) fun b hb k => by
      rcases k with k | k | k
      · exact .inl k
      · exact .inr (Nat.lt_of_lt_of_le k HX2.out.size)
      · subst k; exact .inr HZ.out.1.lt).moves (ht6.moves (.inr (.inr rfl)))).weaken fun b hb k => by
      rcases k with k | k
      · exact .inl k
      · exact .inr (.inl k)⟩)
    have HB6 := Lib.hid hb6
    clear ht6 hb6
    go_wp2_with fail
    exact ret_row w.heap.size 171 _ _ Tryz.results143 rfl rfl HB6.out Tryz.underlying171 rfl (by kernel_rfl) HF6.out
theorem psum_fac (f : Nat) (part : Pm Ex) (hpart : CallsE 149 f part) (hfine : ∀ t, Good t → t.ts.length ≤ f → FineE t (part t)) : CallsE 143 f (sumOf part) :=
  psum_of f (termOf part) (pterm_of f part hpart hfine) (fineE_chain f hfine)
/-- Where an expression is to lie; which blocks it must not use. -/
def EAt (w : World) (g p pos : Nat) (neg : Bool) (a : Ex) (R' : PRep) (w' : World) : Prop := ∃ cs, Safe w' (MineP p R') g 171 cs.toArray ∧ EX w' (Or (MineP p R') (fun b => under w b ∨ b = g)) (if neg then .neg pos a else a) cs
theorem EAt.moves {w : World} {g p pos : Nat} {neg : Bool} {a : Ex} {R1 R2 : PRep} {w1 w2 : World} (h : EAt w g p pos neg a R1 w1) (k : Moves w1 (MineP p R1) w2 (MineP p R2)) : EAt w g p pos neg a R2 w2 := let ⟨cs, h1, h2⟩ := h; ⟨cs, h1.moves k, h2.moves (k.or _)⟩
set_option maxRecDepth 100000 in
set_option maxHeartbeats 4000000 in
theorem pfacA_any (w0 w : World) (p B gb g f pos : Nat) (s : Ps) (R : PRep) (part : Pm Ex) (hpart : CallsE 149 f part) (h : PS w p B s R) (hG : Good s) (hl : s.ts.length ≤ f) (hb : Safe w (MineP p R) gb 55 #[.pointer (some ⟨p, 0, none⟩)]) (hg : Safe w (MineP p R) g 171 (ehead ⟨26, pos, [], 0, []⟩ none 0 0).toArray) (hB : B ≤ g) (hw0 : w0.heap.size ≤ w.heap.size) :
    Calls Tryz.prog 150 #[.pointer (some ⟨gb, 0, none⟩), .pointer (some ⟨g, 0, none⟩)] w (PostG (fun b => b = g) w p B R (part s) (EAt w0 g p pos true)) := by
  have HP := Lib.hid h
  have HPA := Lib.hid (hpart w p B s R h hG hl)
  have HGX := Lib.hid hg
  have HB := Lib.hid hB
  have HW0 := Lib.hid hw0
  have cb := hb.1.cell 0
  simp only [List.getElem?_toArray, List.getElem?_cons_zero] at cb
  clear h hpart hG hl hb hg hB hw0
  go_enter Tryz.func150, Tryz.ntmps150
  go_wp2_with fail
  refine HPA.out.mono ?_
  intro e w1 hpost
  cases hr : part s with
  | err er a =>
    rw [hr] at hpost
    obtain ⟨rfl, s1, hat, R1, hp1, hm1⟩ := hpost
    have HF : Hid (PostG (fun b => b = g) w p B R (part s) (EAt w0 g p pos true) (panicV er) w1) := Lib.hid (by rw [hr]; exact ⟨rfl, s1, R1, hat, hp1, hm1.or _⟩)
    exact panics_post (P := Tryz.prog) (fn := Tryz.f150) rfl HF.out
  | ok x s1 =>
    rw [hr] at hpost
    obtain ⟨cs, R1, rfl, hp1, hm1, hx1⟩ := hpost
    obtain ⟨A1, c1, f1, hcs, _⟩ := hx1.open
    have HG1 := Lib.hid (HGX.out.moves hm1)
    have HM1 := Lib.hid hm1
    have HP1 := Lib.hid hp1
    have HE1 := Lib.hid hx1
    have HS1 := Lib.hid (hp1.fresh 171 cs.toArray)
    have HCS := Lib.hid hcs
    have HR := Lib.hid hr
    clear hr hp1 hm1 hx1
    subst hcs
    have c5 := HG1.out.1.cell 5
    have z5 := HG1.out.1.frozen 5
    have hgl := HG1.out.1.lt
    simp only [ehead, List.getElem?_toArray, List.getElem?_cons_zero, List.getElem?_cons_succ] at c5
    unfold ehead
    generalize x.parts.length = xm at *
    generalize HY : x.node = y at *
    obtain ⟨yk, yp, yt, yn, yks⟩ := y
    simp only
    go_wp2_with fail
    go_end0
    rw [HR.out]
    obtain ⟨W, hW⟩ : ∃ W, w1.setCell ⟨g, 5, none⟩ (.slice (some ⟨w1.heap.size, 0, none⟩) 1 1) = W := ⟨_, rfl⟩
    have hsz : W.heap.size = w1.heap.size := by rw [← hW]; simp [World.setCell]
    have hoth : ∀ b, b ≠ g → W.heap[b]? = w1.heap[b]? := fun b hb => by rw [← hW]; exact Below.heap_setCell w1 ⟨g, 5, none⟩ _ b hb
    have hset : ∀ {N : Nat → Prop}, N g → Moves w1 N W N := fun h => by rw [← hW]; exact Moves.set h
    have hx2 : Ext W (W.alloc (.cells (ehead ⟨yk, yp, yt, yn, yks⟩ A1 xm c1).toArray 171)) := Ext.alloc _ _
    have hne : g ≠ w1.heap.size := Nat.ne_of_lt hgl
    have hbg := HG1.out.1.put 5 (.slice (some ⟨w1.heap.size, 0, none⟩) 1 1)
    rw [hW] at hbg ⊢
    have hnew := Blk.new W 171 (ehead ⟨yk, yp, yt, yn, yks⟩ A1 xm c1).toArray
    rw [hsz] at hnew
    have ht : ∀ {N : Nat → Prop}, N g → Moves w1 N (W.alloc (.cells (ehead ⟨yk, yp, yt, yn, yks⟩ A1 xm c1).toArray 171)) N := fun h => (hset h).trans (Moves.ext hx2)
    refine ⟨rfl, R1, ⟨?_, ?_⟩, ?_⟩
    · refine PS.ext (HP1.out.keep fun b hb => hoth b fun e => ?_) hx2
      subst e
      rcases hb with hb | hb
      · have := HB.out; omega
      · exact HG1.out.2 hb
    · exact (HM1.out.or _).trans (ht (.inr rfl))
    · refine ⟨ehead ⟨26, pos, [], 0, []⟩ (some ⟨w1.heap.size, 0, none⟩) 1 1, ⟨?_, HG1.out.2⟩, ⟨w1.heap.size, ehead ⟨yk, yp, yt, yn, yks⟩ A1 xm c1, rfl, ⟨hnew, fun k => ?_⟩, ?_⟩⟩
      · have := hbg.ext hx2
        simpa [ehead] using this
      · rcases k with k | k | k
        · exact HS1.out.2 k
        · have h1 := HW0.out
          have h2 := HM1.out.size
          unfold under at k
          omega
        · exact hne k.symm
      · refine ((HE1.out.weaken (M' := Or (MineP p R1) (fun b => under w0 b ∨ b = g)) fun b hb k => ?_).moves (ht (.inr (.inr rfl))))
        rcases k with k | k | k
        · exact .inl k
        · exact .inr (Nat.lt_of_lt_of_le k HW0.out)
        · subst k; exact .inr HGX.out.1.lt
set_option maxRecDepth 100000 in
set_option maxHeartbeats 4000000 in
theorem pfacB_any (w0 w : World) (p B gb g f pos : Nat) (s : Ps) (R : PRep) (part : Pm Ex) (hpart : CallsE 143 f part) (h : PS w p B s R) (hG : Good s) (hl : s.ts.length ≤ f) (hb : Safe w (MineP p R) gb 55 #[.pointer (some ⟨p, 0, none⟩)]) (cs0 : List Value) (h6 : cs0.length = 6) (hg : Safe w (MineP p R) g 171 cs0.toArray) (hB : B ≤ g) (hw0 : w0.heap.size ≤ w.heap.size) :
    Calls Tryz.prog 151 #[.pointer (some ⟨gb, 0, none⟩), .pointer (some ⟨g, 0, none⟩)] w (PostG (fun b => b = g) w p B R (part s) (EAt w0 g p pos false)) := by
  have HP := Lib.hid h
  have HPA := Lib.hid (hpart w p B s R h hG hl)
  have HGX := Lib.hid hg
  have HB := Lib.hid hB
  have HW0 := Lib.hid hw0
  have H6 := Lib.hid h6
  have cb := hb.1.cell 0
  simp only [List.getElem?_toArray, List.getElem?_cons_zero] at cb
  clear h hpart hG hl hb hg hB hw0 h6
  go_enter Tryz.func151, Tryz.ntmps151
  go_wp2_with fail
  refine HPA.out.mono ?_
  intro e w1 hpost
  cases hr : part s with
  | err er a =>
    rw [hr] at hpost
    obtain ⟨rfl, s1, hat, R1, hp1, hm1⟩ := hpost
    have HF : Hid (PostG (fun b => b = g) w p B R (part s) (EAt w0 g p pos false) (panicV er) w1) := Lib.hid (by rw [hr]; exact ⟨rfl, s1, R1, hat, hp1, hm1.or _⟩)
    exact panics_post (P := Tryz.prog) (fn := Tryz.f151) rfl HF.out
  | ok x s1 =>
    rw [hr] at hpost
    obtain ⟨cs, R1, rfl, hp1, hm1, hx1⟩ := hpost
    obtain ⟨A1, c1, f1, hcs, _⟩ := hx1.open
    have HG1 := Lib.hid (HGX.out.moves hm1)
    have HM1 := Lib.hid hm1
    have HP1 := Lib.hid hp1
    have HE1 := Lib.hid hx1
    have HR := Lib.hid hr
    clear hr hp1 hm1 hx1
    subst hcs
    unfold ehead
    generalize x.parts.length = xm at *
    generalize HY : x.node = y at *
    obtain ⟨yk, yp, yt, yn, yks⟩ := y
    simp only
    go_wp2_with (refine wpList_put rfl 171 (.tmp 1) (.tmp 3) rfl g #[.int .u8 (yk : Int), .int .i64 (yp : Int), .string (bstr yt), .int .i64 yn, .slice none 0 0, .slice A1 xm c1] (by rfl) (by rfl) 171 _ HG1.out.1 (by kernel_rfl) (by have := H6.out; simpa using this) rfl ?_; intro w6 ht6 hb6)
    have HF6 : Hid (PostG (fun b => b = g) w p B R (part s) (EAt w0 g p pos false) (.returned (.tuple #[])) w6) := Lib.hid (by rw [HR.out]; exact ⟨rfl, R1, ⟨ht6.ps HP1.out HB.out HG1.out.2, (HM1.out.or _).trans (ht6.moves (.inr rfl))⟩, ehead ⟨yk, yp, yt, yn, yks⟩ A1 xm c1, ⟨hb6, HG1.out.2⟩, (HE1.out.weaken (M' := Or (MineP p R1) (fun b => under w0 b ∨ b = g)) fun b hb k => by
      rcases k with k | k | k
      · exact .inl k
      · exact .inr (Nat.lt_of_lt_of_le k HW0.out)
      · subst k; exact .inr HGX.out.1.lt).moves (ht6.moves (.inr (.inr rfl)))⟩)
    clear ht6 hb6
    go_wp2_with fail
    go_end0
    exact HF6.out
end Go.Proofs.YtcccnicldbpieaaGreatDoor
