/- LexBlanks, walked: always true. Condition: errors.errorType reads as the program's text lays it. -/
import Derived.Test.YtjjeebocebhhaaaDoorLxRises
import Derived.Lib.AppendStr
import Derived.Deep.Cut
namespace Go.Proofs.YtjjeebocebhhaaaDoor
open Go Go.RowKit
set_option linter.unusedVariables false
set_option linter.unusedSimpArgs false
theorem word_parts {t u : Tok} (h : t.word = u.word) : u.kind = t.kind ∧ u.text = t.text ∧ u.n = t.n := by
  unfold Tok.word at h
  injection h with h1 h2
  injection h2 with h2 h3
  exact ⟨h1.symm, h2.symm, h3.symm⟩
set_option maxHeartbeats 8000000 in
set_option maxRecDepth 4000 in
theorem words_any (A B : Option Addr) (l l' : List Tok) (n m c d : Nat) (w : World) (hn : n = l.length) (hm : m = l.length) (hlen : l.length ≤ 100000) (hw : l'.map Tok.word = l.map Tok.word) (hA : Cells w A (kcells l)) (hB : Cells w B (kcells l')) :
    Calls Tryd.prog 22 #[.slice A n c, .slice B m d] w fun e w' => e = .returned (.bool true) ∧ Ext w w' := by
  subst hn hm
  have hll : l'.length = l.length := by have := congrArg List.length hw; simpa using this
  have HA := Lib.hid hA
  have HB := Lib.hid hB
  have HW : Hid (∀ k (h : k < l.length) (h' : k < l'.length), l'[k].word = l[k].word) := Lib.hid fun k h h' => by
    have h1 : (l'.map Tok.word)[k]? = (l.map Tok.word)[k]? := by rw [hw]
    rw [List.getElem?_map, List.getElem?_map, List.getElem?_eq_getElem h, List.getElem?_eq_getElem h'] at h1
    simpa using h1
  have HLL := Lib.hid hll
  clear hA hB hw hll
  have e1 : ((l.length : Int) != (l.length : Int)) = false := by simp
  go_enter Tryd.func22, Tryd.ntmps22
  go_wp2_with fail
  go_loopw [5] (fun i wr => ∃ k : Nat, k ≤ l.length ∧ i = .int .i64 k ∧ Hid (Ext w wr)) (fun i _ => l.length - (intOf i).toNat)
  case atStart => exact ⟨0, Nat.zero_le _, rfl, Lib.hid (Ext.refl _)⟩
  case round =>
    obtain ⟨k, hk, rfl, HX⟩ := hrel
    obtain ⟨wa, rfl⟩ : ∃ wa : World, wa = wr := ⟨_, rfl⟩
    by_cases hlt : k < l.length
    · have d0 : decide ((k : Int) < (l.length : Int)) = true := decide_eq_true (by omega)
      have hlt' : k < l'.length := by have := HLL.out; omega
      obtain ⟨b, off, hA, hbs, hc⟩ := (HA.out.ext HX.out).at_ (by rw [kcells_len]; omega)
      subst hA
      obtain ⟨b2, off2, hB, hbs2, hc2⟩ := (HB.out.ext HX.out).at_ (by rw [kcells_len]; omega)
      subst hB
      have hcl : ∀ j, j < 5 → wa.cell? ⟨b, off + k * 5 + j, none⟩ = (kcell l[k])[j]? := fun j hj => by
        rw [Nat.add_assoc, hc _ (by rw [kcells_len]; omega)]
        exact kcells_at l k hlt j hj
      have hcl2 : ∀ j, j < 5 → wa.cell? ⟨b2, off2 + k * 5 + j, none⟩ = (kcell l'[k])[j]? := fun j hj => by
        rw [Nat.add_assoc, hc2 _ (by rw [kcells_len]; omega)]
        exact kcells_at l' k hlt' j hj
      have hwk := HW.out k hlt hlt'
      obtain ⟨h1, h2, h3⟩ := word_parts hwk.symm
      generalize l[k] = t at *
      generalize l'[k] = u at *
      obtain ⟨kd', ta', te', tx', tn'⟩ := t
      obtain ⟨kd, ta, te, tx, tn⟩ := u
      dsimp only at h1 h2 h3
      subst h1 h2 h3
      have c0' : wa.cell? ⟨b, off + k * 5, none⟩ = some (.int .u8 (kd : Int)) := hcl 0 (by omega)
      have c3' : wa.cell? ⟨b, off + k * 5 + 3, none⟩ = some (.string (bstr tx)) := hcl 3 (by omega)
      have c4' : wa.cell? ⟨b, off + k * 5 + 4, none⟩ = some (.int .i64 tn) := hcl 4 (by omega)
      have e0' : wa.cell? ⟨b2, off2 + k * 5, none⟩ = some (.int .u8 (kd : Int)) := hcl2 0 (by omega)
      have e3' : wa.cell? ⟨b2, off2 + k * 5 + 3, none⟩ = some (.string (bstr tx)) := hcl2 3 (by omega)
      have e4' : wa.cell? ⟨b2, off2 + k * 5 + 4, none⟩ = some (.int .i64 tn) := hcl2 4 (by omega)
      have q0 : (k : Int) < (l.length : Int) := by omega
      clear hcl hc hcl2 hc2 e1 hwk
      go_wp2_with fail
      go_quiet (fail)
      go_wp2_with fail
      go_roundw
      case rel => exact ⟨k + 1, by omega, by go_num, Lib.hid (Below.trans HX.out ⟨rfl, rfl, rfl, Nat.le_refl _, fun _ _ => rfl⟩)⟩
      case measure => simp [intOf]; omega
    · obtain rfl : k = l.length := by omega
      have d0 : decide ((l.length : Int) < (l.length : Int)) = false := by simp
      go_wp2_with fail
      go_ret
      exact ⟨rfl, HX.out⟩
/-! ### The words again -/
def sepK (k : Nat) : Bs := if k % 4 = 0 then [32] else if k % 4 = 1 then [10] else if k % 4 = 2 then [9, 13] else [35, 32, 97, 49, 32, 61, 61, 10]
theorem sepK_sep (k : Nat) : IsSep (sepK k) := by
  unfold sepK IsSep
  repeat' split
  · exact .inl rfl
  · exact .inr (.inl rfl)
  · exact .inr (.inr (.inl rfl))
  · exact .inr (.inr (.inr rfl))
theorem sepK_len (k : Nat) : (sepK k).length ≤ 8 := by
  unfold sepK
  repeat' split
  all_goals decide
def whK (wh : Bs) (i : Nat) : Nat := if h : i < wh.length then wh[i].toNat else 0
def againFrom (wh : Bs) : Nat → List Tok → Bs
  | _, [] => []
  | i, t :: r => t.text ++ (sepK (whK wh i) ++ againFrom wh (i + 1) r)
theorem againFrom_again (wh : Bs) : ∀ (r : List Tok) (i : Nat), againFrom wh i r = again r ((List.range' i r.length).map fun j => sepK (whK wh j))
  | [], _ => rfl
  | t :: r, i => by
    show t.text ++ (sepK (whK wh i) ++ againFrom wh (i + 1) r) = t.text ++ (sepK (whK wh i) ++ again r _)
    rw [againFrom_again wh r (i + 1)]
theorem again_facts {wh l : Bs} {ts : List Tok} (h : lexL 0 l = .ok ts) (hl : l.length ≤ 600) : (againFrom wh 0 ts).length ≤ 6000 ∧ ∃ m, lexL 0 (againFrom wh 0 ts) = .ok m ∧ m.map Tok.word = ts.map Tok.word := by
  have hs := lexL_size ts 0 l h
  have hsep : ∀ sp ∈ (List.range' 0 ts.length).map (fun j => sepK (whK wh j)), IsSep sp ∧ sp.length ≤ 8 := fun sp hsp => by
    rw [List.mem_map] at hsp
    obtain ⟨j, _, rfl⟩ := hsp
    exact ⟨sepK_sep _, sepK_len _⟩
  rw [againFrom_again]
  refine ⟨?_, lexL_again ts 0 0 l _ h (by simp) fun sp hsp => (hsep sp hsp).1⟩
  have := hs.2 _ fun sp hsp => (hsep sp hsp).2
  have h1 := hs.1
  omega
theorem own_form {w : World} {base : Nat} {e : TypeId} {v : Value} {n : Nat} {xs : List Value} (h : w.ownsRow base e 1 v n xs) : ∃ A c, v = .slice A n c ∧ (A = none → c = 0) ∧ n ≤ c := by
  rcases h.2 with ⟨hv, hn⟩ | ⟨g, cap, cur, hv, _, _, hnc, _⟩
  · exact ⟨none, 0, by rw [hv, hn], fun _ => rfl, by omega⟩
  · exact ⟨some ⟨g, 0, none⟩, cap, hv, (fun h => by cases h), hnc⟩
theorem infoU8 : (Tryd.prog.info? 5).map (fun i => (i.zero, i.size, i.bytes)) = some (some (.int .u8 0), 1, 1) := by kernel_rfl
theorem bcells_app (a b : Bs) : bcells (a ++ b) = bcells a ++ bcells b := by simp [bcells]
theorem bstr_size (l : Bs) : (bstr l).size = l.length := by simp [bstr, ByteArray.size]
set_option maxHeartbeats 8000000 in
set_option maxRecDepth 10000 in
theorem lexBlanks_any (A B : Option Addr) (l wh : Bs) (n m c d : Nat) (w : World) (hG : GT w) (hn : n = l.length) (hm : m = wh.length) (hcap : l.length ≤ c) (hnil : A = none → c = 0) (h : Cells w A (bcells l)) (hB : Cells w B (bcells wh)) :
    Calls Tryd.prog 6 #[.slice A n c, .slice B m d] w fun e w' => e = .returned (.bool true) ∧ Ext w w' := by
  subst hn hm
  obtain ⟨i0, hi, hz0, hz1, hz2⟩ := info_parts infoU8
  have HG := Lib.hid hG
  have HC := Lib.hid h
  have HB := Lib.hid hB
  clear hG h hB
  by_cases h600 : 600 < l.length
  · have d0 : decide ((600 : Int) < (l.length : Int)) = true := decide_eq_true (by omega)
    go_enter Tryd.func6, Tryd.ntmps6
    go_wp2_with fail
    refine (works3_any w HG.out).mono ?_
    rintro e w' ⟨rfl, hx⟩
    go_wp2_with fail
    go_ret
    exact ⟨rfl, hx⟩
  · have d0 : decide ((600 : Int) < (l.length : Int)) = false := decide_eq_false (by omega)
    have hbig : l.length ≤ 140737488355328 := by omega
    have HL : Hid (lexS l = lexL 0 l) := Lib.hid (by unfold lexS; rw [if_neg (by omega)])
    go_enter Tryd.func6, Tryd.ntmps6
    go_wp2_with fail
    refine (lex_any A l l.length c w rfl hbig hcap hnil HC.out).mono ?_
    cases hr : lexS l with
    | err a er =>
      rintro e w2 ⟨hx2, g2, rfl, _, hb2⟩
      have HX2 := Lib.hid hx2
      clear hx2 hb2 hr
      go_wp2_with fail
      refine (works3_any w2 (HG.out.ext HX2.out)).mono ?_
      rintro e w5 ⟨rfl, hx5⟩
      go_wp2_with fail
      go_ret
      exact ⟨rfl, HX2.out.trans hx5⟩
    | ok ts =>
      rintro e w2 ⟨hx2, A2, c2, rfl, _, ho2⟩
      have htl := lexS_len hr
      have HX2 := Lib.hid hx2
      have HR := Lib.hid (HL.out.symm.trans hr)
      have HC2 := Lib.hid (Cells.own ho2)
      obtain ⟨hal, ms, hms, hmw⟩ := again_facts (wh := wh) HR.out (by omega)
      have HMS : Hid (lexS (againFrom wh 0 ts) = .ok ms) := Lib.hid (by unfold lexS; rw [if_neg (by omega), hms])
      have HMW := Lib.hid hmw
      have HWX := Lib.hid (HB.out.ext hx2)
      have HCX := Lib.hid hx2.size
      clear hx2 ho2 hr hms hmw
      go_wp2_with fail
      go_loopw [7, 8] (fun out i wr => ∃ (k : Nat) (acc : Bs) (A' : Option Addr) (c' : Nat), k ≤ ts.length ∧ i = .int .i64 k ∧ out = .slice A' acc.length c' ∧ Hid (wr.ownsRow w2.heap.size 5 1 (.slice A' acc.length c') acc.length (bcells acc)) ∧ Hid (Ext w2 wr) ∧ Hid (againFrom wh 0 ts = acc ++ againFrom wh k (ts.drop k))) (fun _ i _ => ts.length - (intOf i).toNat)
      case atStart => exact ⟨0, [], none, 0, Nat.zero_le _, rfl, rfl, Lib.hid (World.ownsRow_nil _ _ _ _), Lib.hid (Ext.refl _), Lib.hid rfl⟩
      case round =>
        obtain ⟨k, acc, A', c', hk, rfl, rfl, HO, HX, HK⟩ := hrel
        obtain ⟨wa, rfl⟩ : ∃ wa : World, wa = wr := ⟨_, rfl⟩
        by_cases hlt : k < ts.length
        · have d1 : decide ((k : Int) < (ts.length : Int)) = true := decide_eq_true (by omega)
          obtain ⟨b, off, hA, hbs, hc⟩ := (HC2.out.ext HX.out).at_ (by rw [kcells_len]; omega)
          subst hA
          have c3 : wa.cell? ⟨b, off + k * 5 + 3, none⟩ = some (.string (bstr ts[k].text)) := by
            rw [Nat.add_assoc, hc _ (by rw [kcells_len]; omega)]
            exact kcells_at ts k hlt 3 (by omega)
          have hk2 := HK.out
          rw [List.drop_eq_getElem_cons hlt] at hk2
          have hk3 : againFrom wh 0 ts = (acc ++ ts[k].text) ++ (sepK (whK wh k) ++ againFrom wh (k + 1) (ts.drop (k + 1))) := by rw [hk2]; show _ ++ (_ ++ _) = _; simp
          generalize ts[k].text = tx at *
          have hle : (acc ++ tx ++ sepK (whK wh k)).length ≤ 6000 := by
            have h1 := congrArg List.length hk3
            simp only [List.length_append] at h1 ⊢
            omega
          have hle2 : acc.length + tx.length ≤ 6000 := by simp only [List.length_append] at hle; omega
          have HK3 : Hid (againFrom wh 0 ts = (acc ++ tx ++ sepK (whK wh k)) ++ againFrom wh (k + 1) (ts.drop (k + 1))) := Lib.hid (by rw [hk3]; simp)
          have q0 : (k : Int) < (ts.length : Int) := by omega
          have hsx := bstr_size tx
          have hsz := HX.out.size
          clear hk2 hk3 HK hc
          go_upto_region 11 with (at_builtin; refine Lib.wpList_append_own_string _ rfl (.tmp 30) (.tmp 35) 22 9 rfl w2.heap.size 5 i0 Tryd.underlying22 Tryd.underlying9 hi hz0 hz1 hz2 _ _ _ rfl HO.out (bstr tx) rfl (by rw [hsx]; unfold maxLen; omega) (by rw [hsx]; omega) hsz ?_; intro v4 w4 hown4 hg4 _; obtain ⟨A4, c4, rfl, z4, hc4⟩ := own_form hown4)
          have HO4 : Hid (w4.ownsRow w2.heap.size 5 1 (.slice A4 (acc ++ tx).length c4) (acc ++ tx).length (bcells (acc ++ tx))) := Lib.hid (by rw [List.length_append, bcells_app]; rw [hsx] at hown4; exact hown4)
          have HX4 : Hid (Ext w2 w4) := Lib.hid (Below.grown HX.out hg4 hsz (fun q hq => (HO.out.lt q hq).1))
          rw [← List.length_append]
          rw [← List.length_append] at hle2
          clear hown4 hg4 c3 hsx hsz HO HX
          generalize acc ++ tx = ac2 at *
          obtain ⟨kv, HKV⟩ : ∃ kv, Hid (whK wh k = kv) := ⟨_, Lib.hid rfl⟩
          obtain ⟨sp, HSP⟩ : ∃ sp, Hid (sepK kv = sp) := ⟨_, Lib.hid rfl⟩
          have hlk : [Value.string ⟨#[32]⟩, Value.string ⟨#[10]⟩, Value.string ⟨#[9, 13]⟩, Value.string ⟨#[35, 32, 97, 49, 32, 61, 61, 10]⟩][kv % 4]? = some (.string (bstr sp)) := by
            rw [← HSP.out]
            have : kv % 4 = 0 ∨ kv % 4 = 1 ∨ kv % 4 = 2 ∨ kv % 4 = 3 := by omega
            unfold sepK
            rcases this with h | h | h | h <;> rw [h] <;> rfl
          rw [HKV.out, HSP.out] at HK3 hle
          rw [List.length_append] at hle
          have hsp := bstr_size sp
          have hsz4 := HX4.out.size
          by_cases hkw : k < wh.length
          · have d2 : decide ((k : Int) < (wh.length : Int)) = true := decide_eq_true (by omega)
            obtain ⟨b3, o3, hB3, hb3, hk3⟩ := (HWX.out.ext HX4.out).at_ (by rw [bcells_len]; omega)
            subst hB3
            have k3 : w4.cell? ⟨b3, o3 + k, none⟩ = some (.int .u8 (kv : Int)) := by
              rw [hk3 k (by rw [bcells_len]; exact hkw), bcells_at wh k hkw, ← HKV.out]
              unfold whK
              rw [dif_pos hkw]
            have q1 : (k : Int) < (wh.length : Int) := by omega
            clear hk3 HKV
            go_wp2_with (at_builtin; refine Lib.wpList_append_own_string _ rfl (.tmp 45) (.tmp 50) 22 9 rfl w2.heap.size 5 i0 Tryd.underlying22 Tryd.underlying9 hi hz0 hz1 hz2 _ _ _ rfl (HO4.out.alloc _) (bstr sp) rfl (by rw [hsp]; unfold maxLen; omega) (by rw [hsp]; omega) (by simp; omega) ?_; intro v6 w6 hown6 hg6 _; obtain ⟨A6, c6, rfl, z6, hc6⟩ := own_form hown6)
            have HO6 : Hid (w6.ownsRow w2.heap.size 5 1 (.slice A6 (ac2 ++ sp).length c6) (ac2 ++ sp).length (bcells (ac2 ++ sp))) := Lib.hid (by rw [List.length_append, bcells_app]; rw [hsp] at hown6; exact hown6)
            have HX6 : Hid (Ext w2 w6) := Lib.hid (Below.grown (HX4.out.trans (Ext.alloc _ _)) hg6 (by simp; omega) (fun q hq => (HO4.out.lt q hq).1))
            clear hown6 hg6
            go_round
            case rel => exact ⟨k + 1, ac2 ++ sp, A6, c6, by omega, by go_num, by simp, HO6, HX6, HK3⟩
            case measure => simp [intOf]; omega
          · have d2 : decide ((k : Int) < (wh.length : Int)) = false := decide_eq_false (by omega)
            obtain rfl : kv = 0 := by rw [← HKV.out]; unfold whK; rw [dif_neg hkw]
            obtain rfl : sp = [32] := by rw [← HSP.out]; rfl
            clear HKV
            go_wp2_with (at_builtin; refine Lib.wpList_append_own_string _ rfl (.tmp 45) (.tmp 50) 22 9 rfl w2.heap.size 5 i0 Tryd.underlying22 Tryd.underlying9 hi hz0 hz1 hz2 _ _ _ rfl (HO4.out.alloc _) (bstr [32]) rfl (by rw [hsp]; unfold maxLen; omega) (by rw [hsp]; omega) (by simp; omega) ?_; intro v6 w6 hown6 hg6 _; obtain ⟨A6, c6, rfl, z6, hc6⟩ := own_form hown6)
            have HO6 : Hid (w6.ownsRow w2.heap.size 5 1 (.slice A6 (ac2 ++ [32]).length c6) (ac2 ++ [32]).length (bcells (ac2 ++ [32]))) := Lib.hid (by rw [List.length_append, bcells_app]; rw [hsp] at hown6; exact hown6)
            have HX6 : Hid (Ext w2 w6) := Lib.hid (Below.grown (HX4.out.trans (Ext.alloc _ _)) hg6 (by simp; omega) (fun q hq => (HO4.out.lt q hq).1))
            clear hown6 hg6
            go_round
            case rel => exact ⟨k + 1, ac2 ++ [32], A6, c6, by omega, by go_num, by simp, HO6, HX6, HK3⟩
            case measure => simp [intOf]; omega
        · obtain rfl : k = ts.length := by omega
          have hacc : againFrom wh 0 ts = acc := by have := HK.out; rw [List.drop_eq_nil_of_le (Nat.le_refl _)] at this; simpa [againFrom] using this
          have d1 : decide ((ts.length : Int) < (ts.length : Int)) = false := by simp
          rw [hacc] at HMS hal
          have hc5 : acc.length ≤ c' ∧ (A' = none → c' = 0) := by
            obtain ⟨A5, c5, e, z, h⟩ := own_form HO.out
            injection e with e1 e2 e3
            subst e1 e3
            exact ⟨h, z⟩
          obtain ⟨hc51, hc52⟩ := hc5
          clear hacc HK
          go_wp2_with fail
          refine (lex_any A' acc acc.length c' wa rfl (by omega) hc51 hc52 (Cells.own HO.out)).mono ?_
          rw [HMS.out]
          rintro e w5 ⟨hx5, A5, c5, rfl, _, ho5⟩
          have HX5 := Lib.hid (HX.out.trans hx5)
          have HC5 := Lib.hid (Cells.own ho5)
          clear hx5 ho5
          go_wp2_with fail
          refine (words_any A2 A5 ts ms ts.length ms.length c2 c5 w5 rfl (by have := congrArg List.length HMW.out; simpa using this) (by omega) HMW.out (HC2.out.ext HX5.out) HC5.out).mono ?_
          rintro e w6 ⟨rfl, hx6⟩
          have HX6 := Lib.hid ((HX2.out.trans HX5.out).trans hx6)
          clear hx6
          go_wp2_with fail
          refine (works3_any w6 (HG.out.ext HX6.out)).mono ?_
          rintro e w7 ⟨rfl, hx7⟩
          go_wp2_with fail
          go_ret
          exact ⟨rfl, HX6.out.trans hx7⟩
end Go.Proofs.YtjjeebocebhhaaaDoor
