/- interlocklaw05.ParseBlanks: blanks between tokens change nothing but places (plain); walked: always true. Condition: errors.errorType reads as the program's text lays it. -/
import Derived.Test.YtcccnicldbpieaaGreatDoorPgE
import Derived.Test.YtcccnicldbpieaaGreatDoorPwB
import Derived.Test.YtcccnicldbpieaaGreatDoorSmA
import Derived.Lib.AppendStr
import Derived.Deep.Cut
import Derived.Deep.QuietTactic
namespace Go.Proofs.YtcccnicldbpieaaGreatDoor
open Go Go.RowKit
set_option linter.unusedVariables false
set_option linter.unusedSimpArgs false
theorem fine_whole : ∀ f, Fine (wholeL f)
  | 0 => fun s _ => by unfold wholeL; trivial
  | f + 1 => fun s h => by
    unfold wholeL
    split
    · exact Later.refl h
    · split
      · exact (fine_table 0 s h).bind fun _ t _ ht => fine_whole f t ht
      · split
        · exact (fine_proc 0 s h).bind fun _ t _ ht => fine_whole f t ht
        · trivial
theorem nodes_few {l : Bs} {y : List Nd} (h : parseS l = .ok y) : y.length ≤ 2 * l.length + 3 ∧ ∀ n ∈ y, n.kids.length ≤ 2 * l.length + 3 := by
  obtain ⟨ts, h1, h2, _⟩ := parseS_ok h
  obtain ⟨_, hlen, _⟩ := lexL_toks h1
  have hw := fine_whole (ts.length + 1) _ (root_good (lexL_ends h1))
  rw [parseT_eq] at h2
  cases hq : wholeL (ts.length + 1) ⟨ts, [rootN ts], 0⟩ with
  | err e p => rw [hq] at h2; cases h2
  | ok a s =>
    rw [hq] at h2 hw
    injection h2 with h2
    subst h2
    have hp := hw.phi
    unfold Ps.phi at hp
    simp only [List.length_cons, List.length_nil] at hp
    exact ⟨by omega, fun n hn => by have := hw.good.few n hn; omega⟩
structure SepG (sp : Bs) : Prop where
  skip : ∀ (q : Nat) (b : Bs), lexL q (sp ++ b) = lexL (q + sp.length) b
  head : ∃ x r, sp = x :: r ∧ wordB x = false ∧ digitB x = false ∧ (x == 61) = false
theorem lexL_blank {c : UInt8} (h : blankB c = true) (q : Nat) (b : Bs) : lexL q (c :: b) = lexL (q + 1) b := lexL_skip (by show stepC c b = _; unfold stepC; rw [if_pos h])
theorem sepG_1 {c : UInt8} (h : blankB c = true) (h2 : wordB c = false ∧ digitB c = false ∧ (c == 61) = false) : SepG [c] := ⟨fun q b => lexL_blank h q b, c, [], rfl, h2⟩
theorem sepG_x : SepG [35, 32, 120, 10] := by
  refine ⟨fun q b => ?_, 35, [32, 120, 10], rfl, by decide, by decide, by decide⟩
  have h : step (35 :: 32 :: 120 :: 10 :: b) = .skip 3 := rfl
  show lexL q (35 :: 32 :: 120 :: 10 :: b) = _
  rw [lexL_skip h]
  show lexL (q + 3) (10 :: b) = _
  rw [lexL_blank rfl]
  rfl
theorem tok_sepG {s sp b : Bs} {kd k : Nat} {n : Int} (hs : step s = .tok kd k n) (hp : SepG sp) : step (s.take k ++ (sp ++ b)) = .tok kd k n := by
  obtain ⟨x, sr, rfl, hx1, hx2, hx3⟩ := hp.head
  cases s with
  | nil => cases hs
  | cons c r =>
    have hs' : stepC c r = .tok kd k n := hs
    unfold stepC at hs'
    split at hs'
    · cases hs'
    · rename_i h1
      split at hs'
      · cases hs'
      · rename_i h2
        split at hs'
        · rename_i h3
          injection hs' with e1 e2 e3
          subst e1 e2 e3
          rw [Nat.add_comm 1, List.take_succ_cons, take_tw]
          show stepC c (r.takeWhile wordB ++ x :: (sr ++ b)) = _
          unfold stepC
          rw [if_neg h1, if_neg h2, if_pos h3, tw_tw hx1, Nat.add_comm]
        · rename_i h3
          split at hs'
          · rename_i h4
            unfold stepD at hs'
            split at hs'
            · cases hs'
            · rename_i v hv
              injection hs' with e1 e2 e3
              subst e1 e2 e3
              rw [Nat.add_comm 1, List.take_succ_cons, take_tw]
              show stepC c (r.takeWhile digitB ++ x :: (sr ++ b)) = _
              unfold stepC
              rw [if_neg h1, if_neg h2, if_neg h3, if_pos h4]
              unfold stepD
              rw [tw_tw hx2, hv, Nat.add_comm]
          · rename_i h4
            split at hs'
            · rename_i h5
              injection hs' with e1 e2 e3
              subst e1 e2 e3
              cases r with
              | nil => simp at h5
              | cons d r =>
                simp at h5
                obtain ⟨rfl, rfl⟩ := h5
                rfl
            · rename_i h5
              split at hs'
              · rename_i h6
                injection hs' with e1 e2 e3
                subst e1 e2 e3
                show stepC c (x :: (sr ++ b)) = _
                unfold stepC
                rw [if_neg h1, if_neg h2, if_neg h3, if_neg h4, if_neg (by simp only [List.head?_cons, Bool.and_eq_true, beq_iff_eq, Option.some.injEq, not_and]; intro _ e; subst e; simp at hx3), if_pos h6]
              · cases hs'
theorem lexL_againG : ∀ (l : List Tok) (p q : Nat) (s : Bs) (seps : List Bs), lexL p s = .ok l → seps.length = l.length → (∀ sp ∈ seps, SepG sp) → ∃ m, lexL q (again l seps) = .ok m ∧ m.map Tok.word = l.map Tok.word
  | [], p, q, s, seps, h, _, _ => absurd rfl (lexL_ne h)
  | t :: l, p, q, s, [], h, hl, _ => by simp at hl
  | t :: l, p, q, s, sp :: seps, h, hl, hsep => by
    have hsp := hsep sp (List.mem_cons_self ..)
    obtain ⟨m, a1, a2, a3, a4, a5, a6, a7⟩ := lexL_next 0 h
    rcases a7 with ⟨b1, b2, b3, b4, b5⟩ | ⟨b1, b2, b3, b4⟩
    · subst b2
      have hs0 : seps = [] := List.eq_nil_of_length_eq_zero (by simpa using hl)
      subst hs0
      refine ⟨[⟨4, q + sp.length, q + sp.length, [], 0⟩], ?_, ?_⟩
      · show lexL q (t.text ++ (sp ++ [])) = _
        rw [b4, List.nil_append, hsp.skip, lexL_fin]
      · simp [Tok.word, b1, b4, b5]
    · obtain ⟨m2, c1, c2⟩ := lexL_againG l t.en (q + (t.en - t.at_) + sp.length) _ seps b3 (by simpa using hl) (fun x hx => hsep x (List.mem_cons_of_mem _ hx))
      have hst := tok_sepG (b := again l seps) b4 hsp
      rw [← a5] at hst
      have htl : t.text.length = t.en - t.at_ := by
        have hw := step_wide (s.drop m)
        rw [b4] at hw
        have : t.en - t.at_ ≤ (s.drop m).length := hw.2
        rw [a5, List.length_take]
        omega
      refine ⟨⟨t.kind, q, q + (t.en - t.at_), t.text, t.n⟩ :: m2, ?_, ?_⟩
      · show lexL q (t.text ++ (sp ++ again l seps)) = _
        rw [lexL_tok hst, List.drop_append_of_le_length (by omega), List.drop_eq_nil_of_le (by omega), List.nil_append, hsp.skip, c1, List.take_append_of_le_length (by omega), List.take_of_length_le (by omega)]
        rfl
      · simp [c2, Tok.word]
def sepP (k : Nat) : Bs := if k % 4 = 0 then [32] else if k % 4 = 1 then [10] else if k % 4 = 2 then [9] else [35, 32, 120, 10]
theorem sepP_sep (k : Nat) : SepG (sepP k) := by
  unfold sepP
  repeat' split
  · exact sepG_1 rfl ⟨rfl, rfl, rfl⟩
  · exact sepG_1 rfl ⟨rfl, rfl, rfl⟩
  · exact sepG_1 rfl ⟨rfl, rfl, rfl⟩
  · exact sepG_x
theorem sepP_len (k : Nat) : (sepP k).length ≤ 8 := by
  unfold sepP
  repeat' split
  all_goals decide
def whP (wh : Bs) (i : Nat) : Nat := if h : i < wh.length then wh[i].toNat else 0
def againP (wh : Bs) : Nat → List Tok → Bs
  | _, [] => []
  | i, t :: r => t.text ++ (sepP (whP wh i) ++ againP wh (i + 1) r)
theorem againP_again (wh : Bs) : ∀ (r : List Tok) (i : Nat), againP wh i r = again r ((List.range' i r.length).map fun j => sepP (whP wh j))
  | [], _ => rfl
  | t :: r, i => by
    show t.text ++ (sepP (whP wh i) ++ againP wh (i + 1) r) = t.text ++ (sepP (whP wh i) ++ again r _)
    rw [againP_again wh r (i + 1)]
theorem againP_facts {wh l : Bs} {ts : List Tok} (h : lexL 0 l = .ok ts) (hl : l.length ≤ 1000) : (againP wh 0 ts).length ≤ 10000 ∧ ∃ m, lexL 0 (againP wh 0 ts) = .ok m ∧ m.map Tok.word = ts.map Tok.word := by
  have hs := lexL_size ts 0 l h
  have hsep : ∀ sp ∈ (List.range' 0 ts.length).map (fun j => sepP (whP wh j)), SepG sp ∧ sp.length ≤ 8 := fun sp hsp => by
    rw [List.mem_map] at hsp
    obtain ⟨j, _, rfl⟩ := hsp
    exact ⟨sepP_sep _, sepP_len _⟩
  rw [againP_again]
  refine ⟨?_, lexL_againG ts 0 0 l _ h (by simp) fun sp hsp => (hsep sp hsp).1⟩
  have := hs.2 _ fun sp hsp => (hsep sp hsp).2
  have h1 := hs.1
  omega
/-! ### Places left out -/
def Tok.bare (t : Tok) : Tok := ⟨t.kind, 0, 0, t.text, t.n⟩
def Nd.bare (n : Nd) : Nd := { n with pos := 0 }
theorem bare_words {l m : List Tok} (h : l.map Tok.word = m.map Tok.word) : l.map Tok.bare = m.map Tok.bare := by
  have e : ∀ t : Tok, t.bare = ⟨t.word.1, 0, 0, t.word.2.1, t.word.2.2⟩ := fun _ => rfl
  have e2 : ∀ l : List Tok, l.map Tok.bare = (l.map Tok.word).map fun p => ⟨p.1, 0, 0, p.2.1, p.2.2⟩ := fun l => by rw [List.map_map]; rfl
  rw [e2, e2, h]
theorem bare_ends {ts : List Tok} (h : Ends ts) : Ends (ts.map Tok.bare) := by
  obtain ⟨m, e, rfl, h2, h3⟩ := h
  refine ⟨m.map Tok.bare, e.bare, by simp, h2, fun t ht => ?_⟩
  obtain ⟨x, hx, rfl⟩ := List.mem_map.1 ht
  exact h3 x hx
theorem parseT_bare {ts : List Tok} (hb : Ends ts) : match parseT ts with
    | .ok y => parseT (ts.map Tok.bare) = .ok (y.map Nd.bare)
    | .err p e => parseT (ts.map Tok.bare) = .err 0 e := by
  obtain ⟨c, hc⟩ : ∃ c : Cx, c = ⟨fun _ => 0, [], [], rootN (ts.map Tok.bare), [], []⟩ := ⟨_, rfl⟩
  have hV : c.V = [] := by rw [hc]
  have hV' : c.V' = [] := by rw [hc]
  have hφ : ∀ p, c.φ p = 0 := fun p => by rw [hc]
  have hι : ∀ i, c.ι i = i := fun i => by rw [hc]; unfold Cx.ι; split <;> simp_all
  have hp : ∀ l : List Tok, Pw c l (l.map Tok.bare) := by
    intro l
    induction l with
    | nil => exact .nil
    | cons t l ih => exact .cons ⟨rfl, rfl, rfl, (hφ _).symm⟩ ih
  have hbb := bare_ends hb
  have hr : Rel c ⟨ts, [rootN ts], 0⟩ ⟨ts.map Tok.bare, [rootN (ts.map Tok.bare)], 0⟩ := ⟨⟨ts, _, by rw [hV, List.append_nil], by rw [hV', List.append_nil], hp ts⟩, by simp, by rw [hc]; rfl, rfl, ends_lst hb, ends_lst hbb⟩
  have hw := whole_run c (ts.length + 1) ((ts.map Tok.bare).length + 1) _ _ hr (root_good hb) (Nat.lt_succ_self _) (Nat.lt_succ_self _)
  have hself := fun y h => parseT_self (y := y) hb (fun p => p) (fun _ _ => rfl) h
  rw [parseT_eq (ts.map Tok.bare)]
  cases hw with
  | seam u u' f f' r e e' l l' h h' d g =>
    exfalso
    have := r.lst.pos
    rw [e, hV] at this
    simp at this
  | done u u' r h h' k t n =>
    have hy : parseT ts = .ok u.nd := by rw [parseT_eq, h]
    obtain ⟨y0, Y, e1, e2, _⟩ := hself _ hy
    rw [hy, h']
    show ParseR.ok u'.nd = _
    rw [r.nd, e1]
    have e3 : c.emb (y0 :: Y) = { c.R0 with kids := c.K ++ y0.kids.map c.ι } :: (c.A ++ Y.map c.mv) := rfl
    have hk : ∀ n : Nd, n.kids.map c.ι = n.kids := fun n => by
      conv => rhs; rw [← List.map_id n.kids]
      exact List.map_congr_left fun i _ => hι i
    have hm : Y.map c.mv = Y.map Nd.bare := List.map_congr_left fun n _ => by
      unfold Cx.mv Nd.bare
      rw [hφ, hk]
    have e4 : c.R0 = rootN (ts.map Tok.bare) := by rw [hc]
    have e5 : c.K = [] := by rw [hc]
    have e6 : c.A = [] := by rw [hc]
    have e7 : (rootN (ts.map Tok.bare)).pos = 0 := by
      unfold rootN
      cases ts with
      | nil => obtain ⟨m, x, h0, _⟩ := hb; simp at h0
      | cons t ts => rfl
    rw [e3, hm, hk, e4, e5, e6, List.nil_append, List.nil_append, List.map_cons]
    congr 2
    rw [e2]
    unfold Nd.bare rootN at *
    simp only at e7 ⊢
    rw [e7]
  | fail e p h h' =>
    have hy : parseT ts = .err p e := by rw [parseT_eq, h]
    rw [hy, h', hφ]
  | past y y' k k' i i' h h' =>
    exfalso
    cases hy : y with
    | err e p => rw [hy, hV] at i; obtain ⟨_, t, ht, _⟩ := i; cases ht
    | ok b t =>
      rw [hy, hV] at i
      obtain ⟨l1, pre, l2, _⟩ := i
      have := l1.pos
      have h3 := congrArg List.length l2
      rw [List.length_append] at h3
      simp at h3
      omega
/-- The same words at other places. -/
theorem blanks_plain {l l2 : Bs} {ts ms : List Tok} (h : lexS l = .ok ts) (h2 : lexS l2 = .ok ms) (hw : ms.map Tok.word = ts.map Tok.word) : match parseS l with
    | .ok y => ∃ y2, parseS l2 = .ok y2 ∧ y2.map Nd.bare = y.map Nd.bare
    | .err p e => ∃ p2, parseS l2 = .err p2 e := by
  have h1 : parseS l = parseT ts := by unfold parseS; rw [h]
  have h3 : parseS l2 = parseT ms := by unfold parseS; rw [h2]
  have hb1 := parseT_bare (lexL_ends (lexS_toks h).1)
  have hb2 := parseT_bare (lexL_ends (lexS_toks h2).1)
  rw [bare_words hw] at hb2
  rw [h1, h3]
  cases hp : parseT ts with
  | ok y =>
    rw [hp] at hb1
    cases hq : parseT ms with
    | ok y2 =>
      rw [hq] at hb2
      refine ⟨y2, rfl, ?_⟩
      rw [hb1] at hb2
      injection hb2 with hb2
      exact hb2.symm
    | err p e =>
      rw [hq] at hb2
      rw [hb1] at hb2
      cases hb2
  | err p e =>
    rw [hp] at hb1
    cases hq : parseT ms with
    | ok y2 =>
      rw [hq] at hb2
      rw [hb1] at hb2
      cases hb2
    | err p2 e2 =>
      rw [hq] at hb2
      rw [hb1] at hb2
      injection hb2 with _ hb2
      subst hb2
      exact ⟨p2, rfl⟩
theorem kcells_atK (l : List Tok) (k : Nat) (h : k < l.length) : ∀ j, j < 5 → (kcells l)[k * 5 + j]? = (kcell l[k])[j]? := by
  induction l generalizing k with
  | nil => simp at h
  | cons t l ih =>
    intro j hj
    show (kcell t ++ kcells l)[k * 5 + j]? = _
    cases k with
    | zero => rw [List.getElem?_append_left (by show 0 * 5 + j < 5; omega)]; simp
    | succ k =>
      rw [List.getElem?_append_right (by show 5 ≤ _; omega)]
      have := ih k (by simpa using h) j hj
      rw [show (k + 1) * 5 + j - (kcell t).length = k * 5 + j from by show _ - 5 = _; omega]
      simpa using this
theorem own_form {w : World} {base : Nat} {e : TypeId} {v : Value} {n : Nat} {xs : List Value} (h : w.ownsRow base e 1 v n xs) : ∃ A c, v = .slice A n c ∧ (A = none → c = 0) ∧ n ≤ c := by
  rcases h.2 with ⟨hv, hn⟩ | ⟨g, cap, cur, hv, _, _, hnc, _⟩
  · exact ⟨none, 0, by rw [hv, hn], fun _ => rfl, by omega⟩
  · exact ⟨some ⟨g, 0, none⟩, cap, hv, (fun h => by cases h), hnc⟩
theorem infoU8 : (Tryz.prog.info? 5).map (fun i => (i.zero, i.size, i.bytes)) = some (some (.int .u8 0), 1, 1) := by kernel_rfl
theorem bcells_app (a b : Bs) : bcells (a ++ b) = bcells a ++ bcells b := by simp [bcells]
theorem bstr_size (l : Bs) : (bstr l).size = l.length := by simp [bstr, ByteArray.size]
theorem own_empty (w : World) : TR w none [] := ⟨.inl rfl, fun x hx => by cases hx⟩
set_option maxHeartbeats 8000000 in
set_option maxRecDepth 100000 in
theorem parseBlanks_any (A B : Option Addr) (l wh : Bs) (n m c d : Nat) (w : World) (hG : GT w) (hn : n = l.length) (hm : m = wh.length) (hcap : l.length ≤ c) (hnil : A = none → c = 0) (h : Cells w A (bcells l)) (hB : Cells w B (bcells wh)) :
    Calls Tryz.prog 6 #[.slice A n c, .slice B m d] w fun e w' => e = .returned (.bool true) ∧ Ext w w' := by
  subst hn hm
  obtain ⟨i0, hi, hz0, hz1, hz2⟩ := info_parts infoU8
  have HG := Lib.hid hG
  have HC := Lib.hid h
  have HB := Lib.hid hB
  clear hG h hB
  by_cases h600 : 1000 < l.length
  · have d0 : decide ((1000 : Int) < (l.length : Int)) = true := decide_eq_true (by omega)
    go_enter Tryz.func6, Tryz.ntmps6
    go_wp2_with fail
    refine (works5_any w HG.out).mono ?_
    rintro e w' ⟨rfl, hx⟩
    go_wp2_with fail
    go_ret
    exact ⟨rfl, hx⟩
  · have d0 : decide ((1000 : Int) < (l.length : Int)) = false := decide_eq_false (by omega)
    have hbig : l.length ≤ 140737488355328 := by omega
    have HL : Hid (lexS l = lexL 0 l) := Lib.hid (by unfold lexS; rw [if_neg (by omega)])
    go_enter Tryz.func6, Tryz.ntmps6
    go_wp2_with fail
    refine (lex_any A l l.length c w rfl hbig hcap hnil HC.out).mono ?_
    cases hr : lexS l with
    | err a er =>
      rintro e w2 ⟨hx2, g2, rfl, _, hb2⟩
      have HX2 := Lib.hid hx2
      clear hx2 hb2 hr
      go_wp2_with fail
      refine (works5_any w2 (HG.out.ext HX2.out)).mono ?_
      rintro e w5 ⟨rfl, hx5⟩
      go_wp2_with fail
      go_ret
      exact ⟨rfl, HX2.out.trans hx5⟩
    | ok ts =>
      rintro e w2 ⟨hx2, A2, c2, rfl, _, ho2⟩
      have HX2 := Lib.hid hx2
      have HR := Lib.hid (HL.out.symm.trans hr)
      have htl := (lexL_size ts 0 l HR.out).1
      have HC2 := Lib.hid (Cells.own ho2)
      obtain ⟨hal, ms, hms, hmw⟩ := againP_facts (wh := wh) HR.out (by omega)
      have HMS : Hid (lexS (againP wh 0 ts) = .ok ms) := Lib.hid (by unfold lexS; rw [if_neg (by omega), hms])
      have HBL := Lib.hid (blanks_plain hr HMS.out hmw)
      have HWX := Lib.hid (HB.out.ext hx2)
      have HCX := Lib.hid hx2.size
      clear hx2 ho2 hr hms hmw
      go_wp2_with fail
      go_loopw [7, 8] (fun out i wr => ∃ (k : Nat) (acc : Bs) (A' : Option Addr) (c' : Nat), k ≤ ts.length ∧ i = .int .i64 k ∧ out = .slice A' acc.length c' ∧ Hid (wr.ownsRow w2.heap.size 5 1 (.slice A' acc.length c') acc.length (bcells acc)) ∧ Hid (Ext w2 wr) ∧ Hid (againP wh 0 ts = acc ++ againP wh k (ts.drop k))) (fun _ i _ => ts.length - (intOf i).toNat)
      case atStart => exact ⟨0, [], none, 0, Nat.zero_le _, rfl, rfl, Lib.hid (World.ownsRow_nil _ _ _ _), Lib.hid (Ext.refl _), Lib.hid rfl⟩
      case round =>
        obtain ⟨k, acc, A', c', hk, rfl, rfl, HO, HX, HK⟩ := hrel
        obtain ⟨wa, rfl⟩ : ∃ wa : World, wa = wr := ⟨_, rfl⟩
        by_cases hlt : k < ts.length
        · have d1 : decide ((k : Int) < (ts.length : Int)) = true := decide_eq_true (by omega)
          obtain ⟨b, off, hA, hbs, hc⟩ := (HC2.out.ext HX.out).at_ (by rw [kcells_len]; omega)
          subst hA
          have c3 : wa.cell? ⟨b, off + k * 5 + 3, none⟩ = some (.string (bstr ts[k].text)) := by
            rw [Nat.add_assoc, hc _ (by rw [kcells_len]; omega)]
            exact kcells_atK ts k hlt 3 (by omega)
          have hk2 := HK.out
          rw [List.drop_eq_getElem_cons hlt] at hk2
          have hk3 : againP wh 0 ts = (acc ++ ts[k].text) ++ (sepP (whP wh k) ++ againP wh (k + 1) (ts.drop (k + 1))) := by rw [hk2]; show _ ++ (_ ++ _) = _; simp
          generalize ts[k].text = tx at *
          have hle : (acc ++ tx ++ sepP (whP wh k)).length ≤ 10000 := by
            have h1 := congrArg List.length hk3
            simp only [List.length_append] at h1 ⊢
            omega
          have hle2 : acc.length + tx.length ≤ 10000 := by simp only [List.length_append] at hle; omega
          have HK3 : Hid (againP wh 0 ts = (acc ++ tx ++ sepP (whP wh k)) ++ againP wh (k + 1) (ts.drop (k + 1))) := Lib.hid (by rw [hk3]; simp)
          have q0 : (k : Int) < (ts.length : Int) := by omega
          have hsx := bstr_size tx
          have hsz := HX.out.size
          clear hk2 hk3 HK hc
          go_upto_region 11 with (at_builtin; refine Lib.wpList_append_own_string _ rfl (.tmp 32) (.tmp 37) 22 9 rfl w2.heap.size 5 i0 Tryz.underlying22 Tryz.underlying9 hi hz0 hz1 hz2 _ _ _ rfl HO.out (bstr tx) rfl (by rw [hsx]; unfold maxLen; omega) (by rw [hsx]; omega) hsz ?_; intro v4 w4 hown4 hg4 _; obtain ⟨A4, c4, rfl, z4, hc4⟩ := own_form hown4)
          have HO4 : Hid (w4.ownsRow w2.heap.size 5 1 (.slice A4 (acc ++ tx).length c4) (acc ++ tx).length (bcells (acc ++ tx))) := Lib.hid (by rw [List.length_append, bcells_app]; rw [hsx] at hown4; exact hown4)
          have HX4 : Hid (Ext w2 w4) := Lib.hid (Below.grown HX.out hg4 hsz (fun q hq => (HO.out.lt q hq).1))
          rw [← List.length_append]
          rw [← List.length_append] at hle2
          clear hown4 hg4 c3 hsx hsz HO HX
          generalize acc ++ tx = ac2 at *
          obtain ⟨kv, HKV⟩ : ∃ kv, Hid (whP wh k = kv) := ⟨_, Lib.hid rfl⟩
          obtain ⟨sp, HSP⟩ : ∃ sp, Hid (sepP kv = sp) := ⟨_, Lib.hid rfl⟩
          have hlk : [Value.string ⟨#[32]⟩, Value.string ⟨#[10]⟩, Value.string ⟨#[9]⟩, Value.string ⟨#[35, 32, 120, 10]⟩][kv % 4]? = some (.string (bstr sp)) := by
            rw [← HSP.out]
            have : kv % 4 = 0 ∨ kv % 4 = 1 ∨ kv % 4 = 2 ∨ kv % 4 = 3 := by omega
            unfold sepP
            rcases this with h | h | h | h <;> rw [h] <;> rfl
          rw [HKV.out, HSP.out] at HK3 hle
          rw [List.length_append] at hle
          have hsp := bstr_size sp
          have hsz4 := HX4.out.size
          by_cases hkw : k < wh.length
          · have d2 : decide ((k : Int) < (wh.length : Int)) = true := decide_eq_true (by omega)
            obtain ⟨b3, o3, hB3, hb3, hk3⟩ := (HWX.out.ext HX4.out).at_ (by rw [bcells_len]; omega)
            subst hB3
            have k3 : w4.cell? ⟨b3, o3 + k, none⟩ = some (.int .u8 (kv : Int)) := by
              rw [hk3 k (by rw [bcells_len]; exact hkw), bcells_at wh k hkw, ← HKV.out]
              unfold whP
              rw [dif_pos hkw]
            have q1 : (k : Int) < (wh.length : Int) := by omega
            clear hk3 HKV
            go_wp2_with (at_builtin; refine Lib.wpList_append_own_string _ rfl (.tmp 47) (.tmp 52) 22 9 rfl w2.heap.size 5 i0 Tryz.underlying22 Tryz.underlying9 hi hz0 hz1 hz2 _ _ _ rfl (HO4.out.alloc _) (bstr sp) rfl (by rw [hsp]; unfold maxLen; omega) (by rw [hsp]; omega) (by simp; omega) ?_; intro v6 w6 hown6 hg6 _; obtain ⟨A6, c6, rfl, z6, hc6⟩ := own_form hown6)
            have HO6 : Hid (w6.ownsRow w2.heap.size 5 1 (.slice A6 (ac2 ++ sp).length c6) (ac2 ++ sp).length (bcells (ac2 ++ sp))) := Lib.hid (by rw [List.length_append, bcells_app]; rw [hsp] at hown6; exact hown6)
            have HX6 : Hid (Ext w2 w6) := Lib.hid (Below.grown (HX4.out.trans (Ext.alloc _ _)) hg6 (by simp; omega) (fun q hq => (HO4.out.lt q hq).1))
            clear hown6 hg6
            go_round
            case rel => exact ⟨k + 1, ac2 ++ sp, A6, c6, by omega, by go_num, by simp, HO6, HX6, HK3⟩
            case measure => simp [intOf]; omega
          · have d2 : decide ((k : Int) < (wh.length : Int)) = false := decide_eq_false (by omega)
            obtain rfl : kv = 0 := by rw [← HKV.out]; unfold whP; rw [dif_neg hkw]
            obtain rfl : sp = [32] := by rw [← HSP.out]; rfl
            clear HKV
            go_wp2_with (at_builtin; refine Lib.wpList_append_own_string _ rfl (.tmp 47) (.tmp 52) 22 9 rfl w2.heap.size 5 i0 Tryz.underlying22 Tryz.underlying9 hi hz0 hz1 hz2 _ _ _ rfl (HO4.out.alloc _) (bstr [32]) rfl (by rw [hsp]; unfold maxLen; omega) (by rw [hsp]; omega) (by simp; omega) ?_; intro v6 w6 hown6 hg6 _; obtain ⟨A6, c6, rfl, z6, hc6⟩ := own_form hown6)
            have HO6 : Hid (w6.ownsRow w2.heap.size 5 1 (.slice A6 (ac2 ++ [32]).length c6) (ac2 ++ [32]).length (bcells (ac2 ++ [32]))) := Lib.hid (by rw [List.length_append, bcells_app]; rw [hsp] at hown6; exact hown6)
            have HX6 : Hid (Ext w2 w6) := Lib.hid (Below.grown (HX4.out.trans (Ext.alloc _ _)) hg6 (by simp; omega) (fun q hq => (HO4.out.lt q hq).1))
            clear hown6 hg6
            go_round
            case rel => exact ⟨k + 1, ac2 ++ [32], A6, c6, by omega, by go_num, by simp, HO6, HX6, HK3⟩
            case measure => simp [intOf]; omega
        · obtain rfl : k = ts.length := by omega
          have hacc : againP wh 0 ts = acc := by have := HK.out; rw [List.drop_eq_nil_of_le (Nat.le_refl _)] at this; simpa [againP] using this
          have d1 : decide ((ts.length : Int) < (ts.length : Int)) = false := by simp
          rw [hacc] at HBL hal
          have hc5 : acc.length ≤ c' ∧ (A' = none → c' = 0) := by
            obtain ⟨A5, c5, e, z, h⟩ := own_form HO.out
            injection e with e1 e2 e3
            subst e1 e3
            exact ⟨h, z⟩
          obtain ⟨hc51, hc52⟩ := hc5
          have HCA := Lib.hid (Cells.own HO.out)
          have HXA := Lib.hid (HX2.out.trans HX.out)
          clear hacc HK HO HX HMS HR HL HC2 HWX HCX
          have hbl := HBL.out
          cases hp : parseS l with
          | err p er =>
            rw [hp] at hbl
            obtain ⟨p2, hp2⟩ := hbl
            have HP := Lib.hid hp
            have HP2 := Lib.hid hp2
            clear hp hp2 HBL
            go_wp2_with fail
            refine (parse_err A l l.length c wa rfl hbig hcap hnil (HC.out.ext HXA.out) p er HP.out).mono ?_
            rintro e w3a ⟨g3, rfl, _, hb3, hx3⟩
            have HX3a := Lib.hid (HXA.out.trans hx3)
            have HB3 := Lib.hid hb3
            have HCA := Lib.hid (HCA.out.ext hx3)
            clear hx3 hb3
            go_upto_region 16 with fail
            have hxt : Ext w3a (w3a.alloc (.cells #[.slice none 0 0] 26)) := Ext.alloc _ _
            have HX3 := Lib.hid (HX3a.out.trans hxt)
            have HT3 := Lib.hid (Blk.new w3a 26 #[.slice none 0 0])
            have HB3 := Lib.hid (HB3.out.ext hxt)
            have HCA := Lib.hid (HCA.out.ext hxt)
            clear hxt
            generalize w3a.alloc (.cells #[.slice none 0 0] 26) = w3 at *
            go_wp2_with fail
            refine (parse_err A' acc acc.length c' w3 rfl (by omega) hc51 hc52 HCA.out p2 er HP2.out).mono ?_
            rintro e w4a ⟨g4, rfl, _, hb4, hx4⟩
            have HX4a := Lib.hid (HX3.out.trans hx4)
            have HB4 := Lib.hid hb4
            have HB3 := Lib.hid (HB3.out.ext hx4)
            have HT3 := Lib.hid (HT3.out.ext hx4)
            clear hx4 hb4
            go_upto_region 17 with fail
            have hxt : Ext w4a (w4a.alloc (.cells #[.slice none 0 0] 26)) := Ext.alloc _ _
            have HX4 := Lib.hid (HX4a.out.trans hxt)
            have HT4 := Lib.hid (Blk.new w4a 26 #[.slice none 0 0])
            have HB3 := Lib.hid (HB3.out.ext hxt)
            have HB4 := Lib.hid (HB4.out.ext hxt)
            have HT3 := Lib.hid (HT3.out.ext hxt)
            clear hxt
            generalize w4a.alloc (.cells #[.slice none 0 0] 26) = w4 at *
            go_wp2_with fail
            refine (code_at g3 (p : Int) _ _ er w4 (HG.out.ext HX4.out) HB3.out).mono ?_
            rintro e w5 ⟨rfl, hx5⟩
            have HX5 := Lib.hid (HX4.out.trans hx5)
            have HB4 := Lib.hid (HB4.out.ext hx5)
            have HT3 := Lib.hid (HT3.out.ext hx5)
            have HT4 := Lib.hid (HT4.out.ext hx5)
            clear hx5
            go_wp2_with fail
            refine (code_at g4 (p2 : Int) _ _ er w5 (HG.out.ext HX5.out) HB4.out).mono ?_
            rintro e w6 ⟨rfl, hx6⟩
            have HX6 := Lib.hid (HX5.out.trans hx6)
            have HT3 := Lib.hid (HT3.out.ext hx6)
            have HT4 := Lib.hid (HT4.out.ext hx6)
            clear hx6
            have t3 : w6.cell? ⟨w3a.heap.size, 0, none⟩ = some (.slice none 0 0) := HT3.out.cell 0
            have t4 : w6.cell? ⟨w4a.heap.size, 0, none⟩ = some (.slice none 0 0) := HT4.out.cell 0
            go_wp2_with fail
            refine (same_tr [] [] none none 0 0 0 0 w6 rfl rfl (own_empty w6) (own_empty w6) (by simp) (by simp) (fun x hx => by cases hx) (fun x hx => by cases hx) rfl).mono ?_
            rintro e w7 ⟨rfl, hx7⟩
            have HX7 := Lib.hid (HX6.out.trans hx7)
            clear hx7 t3 t4
            go_wp2_with fail
            refine (works5_any w7 (HG.out.ext HX7.out)).mono ?_
            rintro e w8 ⟨rfl, hx8⟩
            go_wp2_with fail
            go_ret
            exact ⟨rfl, HX7.out.trans hx8⟩
          | ok y =>
            rw [hp] at hbl
            obtain ⟨y2, hp2, hbare⟩ := hbl
            have HP := Lib.hid hp
            have HP2 := Lib.hid hp2
            have HBR := Lib.hid hbare
            have HF := Lib.hid (nodes_few hp)
            have hyl : y2.length = y.length := by have := congrArg List.length hbare; simpa using this
            have hyk : ∀ n ∈ y2, n.kids.length ≤ 2 * l.length + 3 := by
              intro n hn
              have h1 : n.bare ∈ y.map Nd.bare := by rw [← hbare]; exact List.mem_map_of_mem hn
              obtain ⟨n', hn', e⟩ := List.mem_map.1 h1
              have h2 := HF.out.2 n' hn'
              have h3 : n'.kids = n.kids := by have := congrArg Nd.kids e; exact this
              rw [← h3]
              exact h2
            have HYL := Lib.hid hyl
            have HYK := Lib.hid hyk
            clear hp hp2 hbare hyl hyk HBL
            go_wp2_with fail
            refine (parse_ok A l l.length c wa rfl hbig hcap hnil (HC.out.ext HXA.out) y HP.out).mono ?_
            rintro e w3a ⟨A3, c3, nh3, rfl, hn3, hs3, hx3⟩
            have HX3a := Lib.hid (HXA.out.trans hx3)
            have HN3 := Lib.hid hn3
            have HT3 := Lib.hid hs3.tr
            have HCA := Lib.hid (HCA.out.ext hx3)
            clear hx3 hn3 hs3
            go_upto_region 16 with fail
            have hxt : Ext w3a (w3a.alloc (.cells #[.slice A3 nh3.length c3] 26)) := Ext.alloc _ _
            have HX3 := Lib.hid (HX3a.out.trans hxt)
            have HB3 := Lib.hid (Blk.new w3a 26 #[.slice A3 nh3.length c3])
            have HT3 := Lib.hid (HT3.out.ext hxt)
            have HCA := Lib.hid (HCA.out.ext hxt)
            clear hxt
            generalize w3a.alloc (.cells #[.slice A3 nh3.length c3] 26) = w3 at *
            go_wp2_with fail
            refine (parse_ok A' acc acc.length c' w3 rfl (by omega) hc51 hc52 HCA.out y2 HP2.out).mono ?_
            rintro e w4a ⟨A4, c4, nh4, rfl, hn4, hs4, hx4⟩
            have HX4a := Lib.hid (HX3.out.trans hx4)
            have HN4 := Lib.hid hn4
            have HT4 := Lib.hid hs4.tr
            have HT3 := Lib.hid (HT3.out.ext hx4)
            have HB3 := Lib.hid (HB3.out.ext hx4)
            clear hx4 hn4 hs4
            go_upto_region 17 with fail
            have hxt : Ext w4a (w4a.alloc (.cells #[.slice A4 nh4.length c4] 26)) := Ext.alloc _ _
            have HX4 := Lib.hid (HX4a.out.trans hxt)
            have HB4 := Lib.hid (Blk.new w4a 26 #[.slice A4 nh4.length c4])
            have HT3 := Lib.hid (HT3.out.ext hxt)
            have HT4 := Lib.hid (HT4.out.ext hxt)
            have HB3 := Lib.hid (HB3.out.ext hxt)
            clear hxt
            generalize w4a.alloc (.cells #[.slice A4 nh4.length c4] 26) = w4 at *
            go_wp2_with fail
            refine (code_nil w4).mono ?_
            rintro e w5 ⟨rfl, rfl⟩
            go_wp2_with fail
            refine (code_nil w4).mono ?_
            rintro e w5 ⟨rfl, rfl⟩
            have t3 : w4.cell? ⟨w3a.heap.size, 0, none⟩ = some (.slice A3 nh3.length c3) := HB3.out.cell 0
            have t4 : w4.cell? ⟨w4a.heap.size, 0, none⟩ = some (.slice A4 nh4.length c4) := HB4.out.cell 0
            go_wp2_with fail
            have hl3 : nh3.length = y.length := by rw [HN3.out, List.length_map]
            have hl4 : nh4.length = y.length := by rw [← HYL.out, HN4.out, List.length_map]
            have hf := HF.out.1
            refine (same_tr nh3 nh4 A3 A4 _ c3 _ c4 w4 rfl rfl HT3.out HT4.out (by omega) (by omega) (fun x hx => ?_) (fun x hx => ?_) ?_).mono ?_
            · have := HF.out.2 x.1 (by rw [HN3.out]; exact List.mem_map_of_mem hx)
              omega
            · have := HYK.out x.1 (by rw [HN4.out]; exact List.mem_map_of_mem hx)
              omega
            · rw [← HN3.out, ← HN4.out]
              exact HBR.out.symm
            rintro e w7 ⟨rfl, hx7⟩
            have HX7 := Lib.hid (HX4.out.trans hx7)
            clear hx7 t3 t4 hl3 hl4 hf
            go_wp2_with fail
            refine (works5_any w7 (HG.out.ext HX7.out)).mono ?_
            rintro e w8 ⟨rfl, hx8⟩
            go_wp2_with fail
            go_ret
            exact ⟨rfl, HX7.out.trans hx8⟩
end Go.Proofs.YtcccnicldbpieaaGreatDoor
