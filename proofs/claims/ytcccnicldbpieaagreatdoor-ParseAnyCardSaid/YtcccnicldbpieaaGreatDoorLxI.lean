/- interlockref03.Lex, walked. Condition: the source's cells are known. -/
import Derived.Test.YtcccnicldbpieaaGreatDoorLxH
import Derived.Test.YtcccnicldbpieaaGreatDoorLxG
namespace Go.Proofs.YtcccnicldbpieaaGreatDoor
open Go Go.RowKit
set_option linter.unusedVariables false
set_option linter.unusedSimpArgs false
def RLexPost (l : Bs) (w : World) (r : LexR) (e : Ending) (w' : World) : Prop := Ext w w' ∧ match r with
  | .ok ts => ∃ A' c', e = .returned (.tuple #[.slice A' ts.length c', .int .i64 0, .int .i64 0]) ∧ (A' = none → c' = 0) ∧ w'.ownsRow w.heap.size 67 5 (.slice A' ts.length c') ts.length (kcells ts)
  | .err a er => e = .returned (.tuple #[.slice none 0 0, .int .i64 (a : Int), .int .i64 er])
theorem infoRTok : (Tryz.prog.info? 67).map (fun i => (i.zero, i.size, i.bytes)) = some (some (.agg #[.int .u8 0, .int .i64 0, .int .i64 0, .string ⟨#[]⟩, .int .i64 0]), 5, 48) := by kernel_rfl
theorem tw_end {p : UInt8 → Bool} {l : Bs} {k : Nat} (h : k < l.length) (hp : p l[k] = false) : (l.drop k).takeWhile p = [] := by rw [tw_step h, hp]; rfl
theorem tw_more {p : UInt8 → Bool} {l : Bs} {k : Nat} (h : k < l.length) (hp : p l[k] = true) : ((l.drop k).takeWhile p).length = 1 + ((l.drop (k + 1)).takeWhile p).length := by rw [tw_step h, hp]; simp [Nat.add_comm]
theorem tw_none {p : UInt8 → Bool} {l : Bs} {k : Nat} (h : l.length ≤ k) : (l.drop k).takeWhile p = [] := by rw [List.drop_eq_nil_of_le h]; rfl
theorem step_blank {x : UInt8} {r : Bs} (h : blankB x = true) : stepC x r = .skip 1 := by unfold stepC; rw [if_pos h]
theorem step_letter {x : UInt8} {r : Bs} (hb : blankB x = false) (hh : (x == 35) = false) (h : letterB x = true) : stepC x r = .tok 1 (1 + (r.takeWhile wordB).length) 0 := by
  unfold stepC; rw [hb, hh, h]; rfl
theorem step_digit {x : UInt8} {r : Bs} (hb : blankB x = false) (hh : (x == 35) = false) (hl : letterB x = false) (h : digitB x = true) : stepC x r = stepD r x := by
  unfold stepC; rw [hb, hh, hl, h]; rfl
theorem step_rest {x : UInt8} {r : Bs} (hb : blankB x = false) (hh : (x == 35) = false) (hl : letterB x = false) (h : digitB x = false) : stepC x r = if x == 61 && r.head? == some 61 then .tok 3 2 0 else if markB x then .tok 3 1 0 else .bad 30 := by
  unfold stepC; rw [hb, hh, hl, h]; rfl
def numStep (j : Nat) : Option Int → Step
  | none => .bad 31
  | some m => .tok 2 j m
theorem head_drop {l : Bs} {k : Nat} (h : k < l.length) : (l.drop k).head? = some l[k] := by rw [List.drop_eq_getElem_cons h]; rfl
set_option maxHeartbeats 2000000 in
set_option maxRecDepth 100000 in
theorem rlex_limit (A : Option Addr) (l : Bs) (n c : Nat) (w : World) (hn : n = l.length) (hbig : l.length ≤ 140737488355328) (hlim : 65536 < l.length) :
    Calls Tryz.prog 24 #[.slice A n c] w (RLexPost l w (lexS l)) := by
  subst hn
  have HS : Hid (lexS l = .err 0 3) := Lib.hid (by unfold lexS; rw [if_pos hlim])
  go_enter Tryz.func24, Tryz.ntmps24
  go_wp2_with fail
  refine bodyPost_ret (v := .tuple #[.slice none 0 0, .int .i64 0, .int .i64 3]) (by simp [results, Tryz.results24, go_sem]) rfl ?_
  rw [HS.out]
  exact ⟨Ext.refl _, rfl⟩
set_option maxHeartbeats 40000000 in
set_option maxRecDepth 100000 in
theorem rlex_in (A : Option Addr) (l : Bs) (n c : Nat) (w : World) (hn : n = l.length) (hcap : l.length ≤ c) (h : Cells w A (bcells l)) (hlim : l.length ≤ 65536) :
    Calls Tryz.prog 24 #[.slice A n c] w (RLexPost l w (lexS l)) := by
  subst hn
  obtain ⟨i0, hi, hz0, hz1, hz2⟩ := info_parts infoRTok
  have HC := Lib.hid h
  have HS : Hid (lexS l = lexL 0 l) := Lib.hid (by unfold lexS; rw [if_neg (by omega)])
  clear h
  go_enter Tryz.func24, Tryz.ntmps24
  go_wp2_with fail
  go_loopg [5, 6] (l.length) (fun gk out i wr => ∃ (k : Nat) (lo : List Tok) (A' : Option Addr) (c' : Nat), k ≤ l.length ∧ gk = l.length - k ∧ lo.length ≤ k ∧ i = .int .i64 (k : Int) ∧ out = .slice A' lo.length c' ∧ Hid ((A' = none → c' = 0) ∧ wr.ownsRow w.heap.size 67 5 (.slice A' lo.length c') lo.length (kcells lo) ∧ Ext w wr ∧ lexL 0 l = (lexL k (l.drop k)).pre lo))
  case atStart => exact ⟨0, [], none, 0, Nat.zero_le _, rfl, Nat.zero_le _, rfl, rfl, Lib.hid ⟨fun _ => rfl, World.ownsRow_nil _ _ _ _, Ext.refl _, by rw [pre_nil]; rfl⟩⟩
  case round =>
    obtain ⟨k, lo, A', c', hk, rfl, hlo, rfl, rfl, HW⟩ := hrel
    obtain ⟨wa, rfl⟩ : ∃ wa : World, wa = wr := ⟨_, rfl⟩
    by_cases hlt : k < l.length
    · have d0 : decide ((k : Int) < (l.length : Int)) = true := decide_eq_true (by omega)
      have hcw := HC.out.ext HW.out.2.2.1
      obtain ⟨b, off, hA, hbw, hcc⟩ := hcw.at_ (by rw [bcells_len]; omega)
      have hby : ∀ i (hi : i < l.length), wa.cell? ⟨b, off + i, none⟩ = some (.int .u8 (l[i].toNat : Int)) := fun i hi => by rw [hcc i (by rw [bcells_len]; exact hi), bcells_at l i hi]
      subst hA
      have HB := Lib.hid hby
      have HCW := Lib.hid hcw
      have e0 := hby k hlt
      have q0 : (k : Int) < (l.length : Int) := by omega
      have HDR := Lib.hid (List.drop_eq_getElem_cons hlt)
      have HSTEP : Hid (step (l.drop k) = stepC l[k] (l.drop (k + 1))) := Lib.hid (by rw [List.drop_eq_getElem_cons hlt]; rfl)
      have hsl : ∀ (en : Nat), k ≤ en → en ≤ l.length → ∀ W, (Instr.slice 22 (.slice (some ⟨b, off, none⟩) l.length c) (some (.int .i64 (k : Int))) (some (.int .i64 (en : Int))) none).run Tryz.prog W = .ok (.slice (some ⟨b, off + k, none⟩) (en - k) (c - k)) W := fun en h1 h2 W => by
        have h := run_cut W _ _ Tryz.underlying22 size_u8 (some ⟨b, off, none⟩) l.length c k en h1 (by omega)
        rw [cutA_lt (by omega)] at h
        exact h
      have hcv : ∀ (en : Nat) (tx : Bs), k ≤ en → en ≤ l.length → (l.drop k).take (en - k) = tx → (convert 22 9 (.slice (some ⟨b, off + k, none⟩) (en - k) (c - k))).run Tryz.prog wa = .ok (.string (bstr tx)) wa := fun en tx h1 h2 h3 => by
        subst h3
        have h := cells_cut HCW.out hcap k (en - k)
        rw [cutA_lt (by omega)] at h
        exact run_bytes_str Tryz.underlying22 Tryz.underlying5 Tryz.underlying9 (by simp; omega) h
      have HSL := Lib.hid hsl
      have HCV := Lib.hid hcv
      clear hsl hcv hby hcc hcw
      generalize l[k] = x at *
      cases hbl : blankB x with
      | true =>
        have HBL := Lib.hid hbl
        have HL := Lib.hid (lexL_skip (p := k) (HSTEP.out.trans (step_blank hbl)))
        clear hbl
        go_wp2_with (go_at_call 47; refine (blank_v x true HBL _).mono ?_; rintro e w' ⟨rfl, rfl⟩)
        go_roundg (l.length - (k + 1))
        case measure => omega
        case rel =>
          refine ⟨k + 1, lo, A', c', by omega, rfl, by omega, by go_num, rfl, Lib.hid ⟨HW.out.1, HW.out.2.1, HW.out.2.2.1, ?_⟩⟩
          rw [HW.out.2.2.2, HL.out, List.drop_drop]
      | false =>
        have HBL := Lib.hid hbl
        clear hbl
        by_cases h35 : x = 35
        · subst h35
          have e0' : wa.cell? ⟨b, off + k, none⟩ = some (.int .u8 35) := e0
          clear e0
          have hcb : ∀ W, Calls Tryz.prog 47 #[.int .u8 35] W fun e w' => e = .returned (.bool false) ∧ W = w' := fun W => blank_v 35 false (Lib.hid (by decide)) W
          have HCB := Lib.hid hcb
          clear hcb
          obtain ⟨en, HEN⟩ : ∃ en, Hid (k + 1 + ((l.drop (k + 1)).takeWhile fun x => x != 10).length = en) := ⟨_, Lib.hid rfl⟩
          have hen1 : k + 1 ≤ en := by have := HEN.out; omega
          have hen2 : en ≤ l.length := by
            have := tw_le (fun x : UInt8 => x != 10) (l.drop (k + 1))
            rw [List.length_drop] at this
            have := HEN.out
            omega
          have HL := Lib.hid (lexL_skip (p := k) (HSTEP.out.trans (show stepC 35 (l.drop (k + 1)) = .skip (1 + ((l.drop (k + 1)).takeWhile fun x => x != 10).length) from rfl)))
          go_wp2_with (go_at_call 47; refine (HCB.out _).mono ?_; rintro e w' ⟨rfl, rfl⟩)
          go_loop [8] (fun kk => ∃ k2 : Nat, k + 1 ≤ k2 ∧ k2 ≤ l.length ∧ kk = .int .i64 (k2 : Int) ∧ Hid (k2 + ((l.drop k2).takeWhile fun x => x != 10).length = en)) (fun kk => l.length - (intOf kk).toNat)
          case atStart => exact ⟨k + 1, Nat.le_refl _, by omega, by go_num, HEN⟩
          case round =>
            obtain ⟨k2, h21, h22, rfl, HK⟩ := hrel
            by_cases hlt2 : k2 < l.length
            · have f0 := HB.out k2 hlt2
              have q2 : (k2 : Int) < (l.length : Int) := by omega
              have d2 : decide ((k2 : Int) < (l.length : Int)) = true := decide_eq_true (by omega)
              by_cases hy : l[k2] = 10
              · have HE : Hid (k2 = en) := Lib.hid (by have h := HK.out; rw [tw_end hlt2 (by rw [hy]; rfl)] at h; simpa using h)
                rw [hy] at f0
                have f0' : wa.cell? ⟨b, off + k2, none⟩ = some (.int .u8 10) := f0
                clear f0 hy
                go_wp2_with fail
                go_roundg (l.length - k2)
                case measure => omega
                case rel =>
                  refine ⟨k2, lo, A', c', by omega, rfl, by omega, rfl, rfl, Lib.hid ⟨HW.out.1, HW.out.2.1, HW.out.2.2.1, ?_⟩⟩
                  rw [HW.out.2.2.2, HL.out, List.drop_drop, show k + (1 + ((l.drop (k + 1)).takeWhile fun x => x != 10).length) = k2 from by have := HEN.out; have := HE.out; omega]
              · have HE : Hid (k2 + 1 + ((l.drop (k2 + 1)).takeWhile fun x => x != 10).length = en) := Lib.hid (by have h := HK.out; rw [tw_more hlt2 (by simpa using hy)] at h; omega)
                have d3 := toNat_ne hy
                have d4 : ((l[k2].toNat : Int) != 10) = true := by rw [bne]; exact congrArg not d3
                generalize l[k2] = y at *
                clear d3 hy
                go_wp2_with fail
                go_round
                case rel => exact ⟨k2 + 1, by omega, by omega, by go_num, HE⟩
                case measure => simp [intOf]; omega
            · have HE : Hid (k2 = en) := Lib.hid (by have h := HK.out; rw [tw_none (by omega)] at h; simpa using h)
              have d2 : decide ((k2 : Int) < (l.length : Int)) = false := decide_eq_false (by omega)
              go_wp2_with fail
              go_roundg (l.length - k2)
              case measure => omega
              case rel =>
                refine ⟨k2, lo, A', c', by omega, rfl, by omega, rfl, rfl, Lib.hid ⟨HW.out.1, HW.out.2.1, HW.out.2.2.1, ?_⟩⟩
                rw [HW.out.2.2.2, HL.out, List.drop_drop, show k + (1 + ((l.drop (k + 1)).takeWhile fun x => x != 10).length) = k2 from by have := HEN.out; have := HE.out; omega]
        · have HH : Hid ((x == 35) = false) := Lib.hid (by simpa using h35)
          have d35 : ((x.toNat : Int) == 35) = false := toNat_ne h35
          clear h35
          cases hle : letterB x with
          | true =>
            have HLE := Lib.hid hle
            have HST := Lib.hid (HSTEP.out.trans (step_letter HBL.out HH.out hle))
            clear hle
            obtain ⟨en, HEN⟩ : ∃ en, Hid (k + 1 + ((l.drop (k + 1)).takeWhile wordB).length = en) := ⟨_, Lib.hid rfl⟩
            have hen1 : k + 1 ≤ en := by have := HEN.out; omega
            have hen2 : en ≤ l.length := by
              have := tw_le wordB (l.drop (k + 1))
              rw [List.length_drop] at this
              have := HEN.out
              omega
            obtain ⟨tx, HTX⟩ : ∃ tx, Hid ((l.drop k).take (en - k) = tx) := ⟨_, Lib.hid rfl⟩
            go_wp2_with (first
              | (go_at_call 47; refine (blank_v x false HBL _).mono ?_; rintro e w' ⟨rfl, rfl⟩)
              | (go_at_call 48; refine (letter_v x _ HLE _).mono ?_; rintro e w' ⟨rfl, rfl⟩))
            go_loop [8] (fun kk => ∃ k2 : Nat, k + 1 ≤ k2 ∧ k2 ≤ l.length ∧ kk = .int .i64 (k2 : Int) ∧ Hid (k2 + ((l.drop k2).takeWhile wordB).length = en)) (fun kk => l.length - (intOf kk).toNat)
            case atStart => exact ⟨k + 1, Nat.le_refl _, by omega, by go_num, HEN⟩
            case round =>
              obtain ⟨k2, h21, h22, rfl, HK⟩ := hrel
              by_cases hlt2 : k2 < l.length
              · have f0 := HB.out k2 hlt2
                have q2 : (k2 : Int) < (l.length : Int) := by omega
                have d2 : decide ((k2 : Int) < (l.length : Int)) = true := decide_eq_true (by omega)
                have HMORE : Hid (wordB l[k2] = true → k2 + 1 + ((l.drop (k2 + 1)).takeWhile wordB).length = en) := Lib.hid (fun hp => by have h := HK.out; rw [tw_more hlt2 hp] at h; omega)
                have HEND : Hid (wordB l[k2] = false → k2 = en) := Lib.hid (fun hp => by have h := HK.out; rw [tw_end hlt2 hp] at h; simpa using h)
                generalize l[k2] = y at *
                cases hly : letterB y with
                | true =>
                  have HLY := Lib.hid hly
                  have HE := Lib.hid (HMORE.out (by unfold wordB; rw [hly]; rfl))
                  clear hly
                  go_wp2_with (go_at_call 48; refine (letter_v y _ HLY _).mono ?_; rintro e w' ⟨rfl, rfl⟩)
                  go_round
                  case rel => exact ⟨k2 + 1, by omega, by omega, by go_num, HE⟩
                  case measure => simp [intOf]; omega
                | false =>
                  have HLY := Lib.hid hly
                  cases hdy : digitB y with
                  | true =>
                    have HDY := Lib.hid hdy
                    have HE := Lib.hid (HMORE.out (by unfold wordB; rw [hdy]; simp))
                    clear hly hdy
                    go_wp2_with (first | (go_at_call 48; refine (letter_v y _ HLY _).mono ?_; rintro e w' ⟨rfl, rfl⟩) | (go_at_call 49; refine (digit_v y _ HDY _).mono ?_; rintro e w' ⟨rfl, rfl⟩))
                    go_round
                    case rel => exact ⟨k2 + 1, by omega, by omega, by go_num, HE⟩
                    case measure => simp [intOf]; omega
                  | false =>
                    have HDY := Lib.hid hdy
                    by_cases hy : y = 95
                    · subst hy
                      have HE := Lib.hid (HMORE.out (by decide))
                      have f0' : wa.cell? ⟨b, off + k2, none⟩ = some (.int .u8 95) := f0
                      have hcl : ∀ W, Calls Tryz.prog 48 #[.int .u8 95] W fun e w' => e = .returned (.bool false) ∧ W = w' := fun W => letter_v 95 false HLY W
                      have hcd : ∀ W, Calls Tryz.prog 49 #[.int .u8 95] W fun e w' => e = .returned (.bool false) ∧ W = w' := fun W => digit_v 95 false HDY W
                      have HCL := Lib.hid hcl
                      have HCD := Lib.hid hcd
                      clear hly hdy f0 hcl hcd
                      go_wp2_with (first | (go_at_call 48; refine (HCL.out _).mono ?_; rintro e w' ⟨rfl, rfl⟩) | (go_at_call 49; refine (HCD.out _).mono ?_; rintro e w' ⟨rfl, rfl⟩))
                      go_round
                      case rel => exact ⟨k2 + 1, by omega, by omega, by go_num, HE⟩
                      case measure => simp [intOf]; omega
                    · have HE := Lib.hid (HEND.out (by unfold wordB; rw [hly, hdy]; simpa using hy))
                      have d4 : ((y.toNat : Int) == 95) = false := toNat_ne hy
                      clear hly hdy hy
                      have hke : k2 = en := HE.out
                      subst hke
                      have HSLx := Lib.hid (HSL.out k2 (by omega) (by omega))
                      have hslx := HSLx.out
                      have hcvx := HCV.out k2 tx (by omega) (by omega) HTX.out
                      go_wp2_with (first
                        | (go_at_call 48; refine (letter_v y _ HLY _).mono ?_; rintro e w' ⟨rfl, rfl⟩)
                        | (go_at_call 49; refine (digit_v y _ HDY _).mono ?_; rintro e w' ⟨rfl, rfl⟩)
                        | (at_builtin; refine wpList_grow rfl (.tmp 77) (.tmp 86) 60 rfl w.heap.size 67 i0 _ 5 48 Tryz.underlying60 hi hz0 hz1 hz2 rfl (by decide) _ _ _ rfl (HW.out.2.1.alloc _) _ 1 1 (kcell ⟨1, k, k2, tx, 0⟩) rfl (by simp) rfl (by exact (Cells.newAt rfl (by first | rfl | (simp [kcell, bstr]; done) | (simp [kcell, bstr]; omega)))) ends5 (by unfold maxLen; omega) (by omega) (by have := HW.out.2.2.1.size; simp; omega) ?_; intro A4 c4 w4 z4 hown4 hg4))
                      have HO4 : Hid (w4.ownsRow w.heap.size 67 5 (.slice A4 (lo ++ [(⟨1, k, k2, tx, 0⟩ : Tok)]).length c4) (lo ++ [(⟨1, k, k2, tx, 0⟩ : Tok)]).length (kcells (lo ++ [(⟨1, k, k2, tx, 0⟩ : Tok)]))) := Lib.hid (by rw [kcells_snoc, List.length_append]; exact hown4)
                      have HX4 : Hid (Ext w w4) := Lib.hid (Below.grown (HW.out.2.2.1.trans (Ext.alloc _ _)) hg4 (by have := HW.out.2.2.1.size; simp; omega) (fun q hq => (HW.out.2.1.lt q hq).1))
                      clear hown4 hg4
                      clear hslx hcvx
                      go_wp2_with fail
                      go_roundg (l.length - (k2))
                      case measure => omega
                      case rel =>
                        refine ⟨k2, lo ++ [⟨1, k, k2, tx, 0⟩], A4, c4, by omega, rfl, by simp; omega, by first | rfl | go_num, by simp, Lib.hid ⟨z4, HO4.out, HX4.out, ?_⟩⟩
                        rw [HW.out.2.2.2, lexL_tok HST.out, pre_snoc, List.drop_drop]
                        have e1 : 1 + ((l.drop (k + 1)).takeWhile wordB).length = k2 - k := by have := HEN.out; omega
                        rw [e1, show k + (k2 - k) = k2 from by omega, HTX.out]
              · have HE : Hid (k2 = en) := Lib.hid (by have h := HK.out; rw [tw_none (by omega)] at h; simpa using h)
                have d2 : decide ((k2 : Int) < (l.length : Int)) = false := decide_eq_false (by omega)
                have hke : k2 = en := HE.out
                subst hke
                have HSLx := Lib.hid (HSL.out k2 (by omega) (by omega))
                have hslx := HSLx.out
                have hcvx := HCV.out k2 tx (by omega) (by omega) HTX.out
                go_wp2_with (first
                  | (at_builtin; refine wpList_grow rfl (.tmp 77) (.tmp 86) 60 rfl w.heap.size 67 i0 _ 5 48 Tryz.underlying60 hi hz0 hz1 hz2 rfl (by decide) _ _ _ rfl (HW.out.2.1.alloc _) _ 1 1 (kcell ⟨1, k, k2, tx, 0⟩) rfl (by simp) rfl (by exact (Cells.newAt rfl (by first | rfl | (simp [kcell, bstr]; done) | (simp [kcell, bstr]; omega)))) ends5 (by unfold maxLen; omega) (by omega) (by have := HW.out.2.2.1.size; simp; omega) ?_; intro A4 c4 w4 z4 hown4 hg4))
                have HO4 : Hid (w4.ownsRow w.heap.size 67 5 (.slice A4 (lo ++ [(⟨1, k, k2, tx, 0⟩ : Tok)]).length c4) (lo ++ [(⟨1, k, k2, tx, 0⟩ : Tok)]).length (kcells (lo ++ [(⟨1, k, k2, tx, 0⟩ : Tok)]))) := Lib.hid (by rw [kcells_snoc, List.length_append]; exact hown4)
                have HX4 : Hid (Ext w w4) := Lib.hid (Below.grown (HW.out.2.2.1.trans (Ext.alloc _ _)) hg4 (by have := HW.out.2.2.1.size; simp; omega) (fun q hq => (HW.out.2.1.lt q hq).1))
                clear hown4 hg4
                clear hslx hcvx
                go_wp2_with fail
                go_roundg (l.length - (k2))
                case measure => omega
                case rel =>
                  refine ⟨k2, lo ++ [⟨1, k, k2, tx, 0⟩], A4, c4, by omega, rfl, by simp; omega, by first | rfl | go_num, by simp, Lib.hid ⟨z4, HO4.out, HX4.out, ?_⟩⟩
                  rw [HW.out.2.2.2, lexL_tok HST.out, pre_snoc, List.drop_drop]
                  have e1 : 1 + ((l.drop (k + 1)).takeWhile wordB).length = k2 - k := by have := HEN.out; omega
                  rw [e1, show k + (k2 - k) = k2 from by omega, HTX.out]
          | false =>
            have HLE := Lib.hid hle
            cases hdi : digitB x with
            | true =>
              have HDI := Lib.hid hdi
              have HST := Lib.hid (HSTEP.out.trans (step_digit HBL.out HH.out hle hdi))
              clear hle hdi
              obtain ⟨en, HEN⟩ : ∃ en, Hid (k + 1 + ((l.drop (k + 1)).takeWhile digitB).length = en) := ⟨_, Lib.hid rfl⟩
              have hen1 : k + 1 ≤ en := by have := HEN.out; omega
              have hen2 : en ≤ l.length := by
                have := tw_le digitB (l.drop (k + 1))
                rw [List.length_drop] at this
                have := HEN.out
                omega
              obtain ⟨tx, HTX⟩ : ∃ tx, Hid ((l.drop k).take (en - k) = tx) := ⟨_, Lib.hid rfl⟩
              go_wp2_with (first
                | (go_at_call 47; refine (blank_v x false HBL _).mono ?_; rintro e w' ⟨rfl, rfl⟩)
                | (go_at_call 48; refine (letter_v x _ HLE _).mono ?_; rintro e w' ⟨rfl, rfl⟩)
                | (go_at_call 49; refine (digit_v x _ HDI _).mono ?_; rintro e w' ⟨rfl, rfl⟩))
              go_loop [8] (fun kk => ∃ k2 : Nat, k + 1 ≤ k2 ∧ k2 ≤ l.length ∧ kk = .int .i64 (k2 : Int) ∧ Hid (k2 + ((l.drop k2).takeWhile digitB).length = en)) (fun kk => l.length - (intOf kk).toNat)
              case atStart => exact ⟨k + 1, Nat.le_refl _, by omega, by go_num, HEN⟩
              case round =>
                obtain ⟨k2, h21, h22, rfl, HK⟩ := hrel
                by_cases hlt2 : k2 < l.length
                · have f0 := HB.out k2 hlt2
                  have q2 : (k2 : Int) < (l.length : Int) := by omega
                  have d2 : decide ((k2 : Int) < (l.length : Int)) = true := decide_eq_true (by omega)
                  have HMORE : Hid (digitB l[k2] = true → k2 + 1 + ((l.drop (k2 + 1)).takeWhile digitB).length = en) := Lib.hid (fun hp => by have h := HK.out; rw [tw_more hlt2 hp] at h; omega)
                  have HEND : Hid (digitB l[k2] = false → k2 = en) := Lib.hid (fun hp => by have h := HK.out; rw [tw_end hlt2 hp] at h; simpa using h)
                  generalize l[k2] = y at *
                  cases hdy : digitB y with
                  | true =>
                    have HDY := Lib.hid hdy
                    have HE := Lib.hid (HMORE.out hdy)
                    clear hdy
                    go_wp2_with (go_at_call 49; refine (digit_v y _ HDY _).mono ?_; rintro e w' ⟨rfl, rfl⟩)
                    go_round
                    case rel => exact ⟨k2 + 1, by omega, by omega, by go_num, HE⟩
                    case measure => simp [intOf]; omega
                  | false =>
                    have HDY := Lib.hid hdy
                    have HE := Lib.hid (HEND.out hdy)
                    clear hdy
                    have hke : k2 = en := HE.out
                    subst hke
                    have HTD : Hid (tx = x :: (l.drop (k + 1)).takeWhile digitB) := Lib.hid (by
                      rw [← HTX.out, HDR.out, show k2 - k = ((l.drop (k + 1)).takeWhile digitB).length + 1 from by have := HEN.out; omega, List.take_succ_cons, take_tw])
                    obtain ⟨r, HRN⟩ : ∃ r, Hid (numTo 0 tx = r) := ⟨_, Lib.hid rfl⟩
                    have HTA : Hid (∀ q ∈ tx, digitB q = true) := Lib.hid (by
                      rw [HTD.out]
                      intro q hq
                      rcases List.mem_cons.1 hq with rfl | hq
                      · exact HDI.out
                      · exact all_tw (p := digitB) ((l.drop (k + 1)).takeWhile digitB) (by have h := tw_take (p := digitB) (l.drop (k + 1)) _ (Nat.le_refl _); rw [take_tw] at h; exact h) q hq)
                    have htl : tx.length ≤ 140737488355328 := by
                      have h : tx.length ≤ l.length := by rw [← HTX.out, List.length_take, List.length_drop]; omega
                      omega
                    have HSLx := Lib.hid (HSL.out k2 (by omega) (by omega))
                    have hslx := HSLx.out
                    have hcvx := HCV.out k2 tx (by omega) (by omega) HTX.out
                    have HNU := Lib.hid (rnumber_any tx HTA.out htl wa r HRN)
                    have HSR : Hid (step (l.drop k) = numStep (k2 - k) r) := Lib.hid (by
                      rw [HST.out]
                      unfold stepD
                      rw [← HTD.out, HRN.out, show 1 + ((l.drop (k + 1)).takeWhile digitB).length = k2 - k from by have := HEN.out; omega]
                      cases r <;> rfl)
                    cases r with
                    | none =>
                      have HBAD := Lib.hid (lexL_bad (p := k) HSR.out)
                      have HNU' : Hid (Calls Tryz.prog 50 #[.string (bstr tx)] wa fun e w' => e = .returned (.tuple #[.int .i64 0, .bool false]) ∧ wa = w') := HNU
                      go_wp2_with (first
                        | (go_at_call 49; refine (digit_v y _ HDY _).mono ?_; rintro e w' ⟨rfl, rfl⟩)
                        | (go_at_call 50; refine (HNU'.out).mono ?_; rintro e w' ⟨rfl, rfl⟩))
                      refine bodyPost_ret (v := .tuple #[.slice none 0 0, .int .i64 (k : Int), .int .i64 31]) (by simp [results, Tryz.results24, go_sem]) rfl ?_
                      rw [HS.out, HW.out.2.2.2, HBAD.out]
                      exact ⟨HW.out.2.2.1, rfl⟩
                    | some m =>
                      have HST2 := Lib.hid (lexL_tok (p := k) HSR.out)
                      have HNU' : Hid (Calls Tryz.prog 50 #[.string (bstr tx)] wa fun e w' => e = .returned (.tuple #[.int .i64 m, .bool true]) ∧ wa = w') := HNU
                      go_wp2_with (first
                        | (go_at_call 49; refine (digit_v y _ HDY _).mono ?_; rintro e w' ⟨rfl, rfl⟩)
                        | (go_at_call 50; refine (HNU'.out).mono ?_; rintro e w' ⟨rfl, rfl⟩)
                        | (at_builtin; refine wpList_grow rfl (.tmp 116) (.tmp 126) 60 rfl w.heap.size 67 i0 _ 5 48 Tryz.underlying60 hi hz0 hz1 hz2 rfl (by decide) _ _ _ rfl (HW.out.2.1.alloc _) _ 1 1 (kcell ⟨2, k, k2, tx, m⟩) rfl (by simp) rfl (by exact (Cells.newAt rfl (by first | rfl | (simp [kcell, bstr]; done) | (simp [kcell, bstr]; omega)))) ends5 (by unfold maxLen; omega) (by omega) (by have := HW.out.2.2.1.size; simp; omega) ?_; intro A4 c4 w4 z4 hown4 hg4))
                      have HO4 : Hid (w4.ownsRow w.heap.size 67 5 (.slice A4 (lo ++ [(⟨2, k, k2, tx, m⟩ : Tok)]).length c4) (lo ++ [(⟨2, k, k2, tx, m⟩ : Tok)]).length (kcells (lo ++ [(⟨2, k, k2, tx, m⟩ : Tok)]))) := Lib.hid (by rw [kcells_snoc, List.length_append]; exact hown4)
                      have HX4 : Hid (Ext w w4) := Lib.hid (Below.grown (HW.out.2.2.1.trans (Ext.alloc _ _)) hg4 (by have := HW.out.2.2.1.size; simp; omega) (fun q hq => (HW.out.2.1.lt q hq).1))
                      clear hown4 hg4 hslx hcvx
                      go_wp2_with fail
                      go_roundg (l.length - (k2))
                      case measure => omega
                      case rel =>
                        refine ⟨k2, lo ++ [⟨2, k, k2, tx, m⟩], A4, c4, by omega, rfl, by simp; omega, by first | rfl | go_num, by simp, Lib.hid ⟨z4, HO4.out, HX4.out, ?_⟩⟩
                        rw [HW.out.2.2.2, HST2.out, pre_snoc, List.drop_drop, show k + (k2 - k) = k2 from by omega, HTX.out]
                · have HE : Hid (k2 = en) := Lib.hid (by have h := HK.out; rw [tw_none (by omega)] at h; simpa using h)
                  have d2 : decide ((k2 : Int) < (l.length : Int)) = false := decide_eq_false (by omega)
                  have hke : k2 = en := HE.out
                  subst hke
                  have HTD : Hid (tx = x :: (l.drop (k + 1)).takeWhile digitB) := Lib.hid (by
                    rw [← HTX.out, HDR.out, show k2 - k = ((l.drop (k + 1)).takeWhile digitB).length + 1 from by have := HEN.out; omega, List.take_succ_cons, take_tw])
                  obtain ⟨r, HRN⟩ : ∃ r, Hid (numTo 0 tx = r) := ⟨_, Lib.hid rfl⟩
                  have HTA : Hid (∀ q ∈ tx, digitB q = true) := Lib.hid (by
                    rw [HTD.out]
                    intro q hq
                    rcases List.mem_cons.1 hq with rfl | hq
                    · exact HDI.out
                    · exact all_tw (p := digitB) ((l.drop (k + 1)).takeWhile digitB) (by have h := tw_take (p := digitB) (l.drop (k + 1)) _ (Nat.le_refl _); rw [take_tw] at h; exact h) q hq)
                  have htl : tx.length ≤ 140737488355328 := by
                    have h : tx.length ≤ l.length := by rw [← HTX.out, List.length_take, List.length_drop]; omega
                    omega
                  have HSLx := Lib.hid (HSL.out k2 (by omega) (by omega))
                  have hslx := HSLx.out
                  have hcvx := HCV.out k2 tx (by omega) (by omega) HTX.out
                  have HNU := Lib.hid (rnumber_any tx HTA.out htl wa r HRN)
                  have HSR : Hid (step (l.drop k) = numStep (k2 - k) r) := Lib.hid (by
                    rw [HST.out]
                    unfold stepD
                    rw [← HTD.out, HRN.out, show 1 + ((l.drop (k + 1)).takeWhile digitB).length = k2 - k from by have := HEN.out; omega]
                    cases r <;> rfl)
                  cases r with
                  | none =>
                    have HBAD := Lib.hid (lexL_bad (p := k) HSR.out)
                    have HNU' : Hid (Calls Tryz.prog 50 #[.string (bstr tx)] wa fun e w' => e = .returned (.tuple #[.int .i64 0, .bool false]) ∧ wa = w') := HNU
                    go_wp2_with (first
                      | (go_at_call 50; refine (HNU'.out).mono ?_; rintro e w' ⟨rfl, rfl⟩))
                    refine bodyPost_ret (v := .tuple #[.slice none 0 0, .int .i64 (k : Int), .int .i64 31]) (by simp [results, Tryz.results24, go_sem]) rfl ?_
                    rw [HS.out, HW.out.2.2.2, HBAD.out]
                    exact ⟨HW.out.2.2.1, rfl⟩
                  | some m =>
                    have HST2 := Lib.hid (lexL_tok (p := k) HSR.out)
                    have HNU' : Hid (Calls Tryz.prog 50 #[.string (bstr tx)] wa fun e w' => e = .returned (.tuple #[.int .i64 m, .bool true]) ∧ wa = w') := HNU
                    go_wp2_with (first
                      | (go_at_call 50; refine (HNU'.out).mono ?_; rintro e w' ⟨rfl, rfl⟩)
                      | (at_builtin; refine wpList_grow rfl (.tmp 116) (.tmp 126) 60 rfl w.heap.size 67 i0 _ 5 48 Tryz.underlying60 hi hz0 hz1 hz2 rfl (by decide) _ _ _ rfl (HW.out.2.1.alloc _) _ 1 1 (kcell ⟨2, k, k2, tx, m⟩) rfl (by simp) rfl (by exact (Cells.newAt rfl (by first | rfl | (simp [kcell, bstr]; done) | (simp [kcell, bstr]; omega)))) ends5 (by unfold maxLen; omega) (by omega) (by have := HW.out.2.2.1.size; simp; omega) ?_; intro A4 c4 w4 z4 hown4 hg4))
                    have HO4 : Hid (w4.ownsRow w.heap.size 67 5 (.slice A4 (lo ++ [(⟨2, k, k2, tx, m⟩ : Tok)]).length c4) (lo ++ [(⟨2, k, k2, tx, m⟩ : Tok)]).length (kcells (lo ++ [(⟨2, k, k2, tx, m⟩ : Tok)]))) := Lib.hid (by rw [kcells_snoc, List.length_append]; exact hown4)
                    have HX4 : Hid (Ext w w4) := Lib.hid (Below.grown (HW.out.2.2.1.trans (Ext.alloc _ _)) hg4 (by have := HW.out.2.2.1.size; simp; omega) (fun q hq => (HW.out.2.1.lt q hq).1))
                    clear hown4 hg4 hslx hcvx
                    go_wp2_with fail
                    go_roundg (l.length - (k2))
                    case measure => omega
                    case rel =>
                      refine ⟨k2, lo ++ [⟨2, k, k2, tx, m⟩], A4, c4, by omega, rfl, by simp; omega, by first | rfl | go_num, by simp, Lib.hid ⟨z4, HO4.out, HX4.out, ?_⟩⟩
                      rw [HW.out.2.2.2, HST2.out, pre_snoc, List.drop_drop, show k + (k2 - k) = k2 from by omega, HTX.out]
            | false =>
              have HDI := Lib.hid hdi
              have HST := Lib.hid (HSTEP.out.trans (step_rest HBL.out HH.out hle hdi))
              clear hle hdi
              by_cases h61 : x = 61
              · subst h61
                have e0' : wa.cell? ⟨b, off + k, none⟩ = some (.int .u8 61) := e0
                have hcb : ∀ W, Calls Tryz.prog 47 #[.int .u8 61] W fun e w' => e = .returned (.bool false) ∧ W = w' := fun W => blank_v 61 false HBL W
                have hcl : ∀ W, Calls Tryz.prog 48 #[.int .u8 61] W fun e w' => e = .returned (.bool false) ∧ W = w' := fun W => letter_v 61 false HLE W
                have hcd : ∀ W, Calls Tryz.prog 49 #[.int .u8 61] W fun e w' => e = .returned (.bool false) ∧ W = w' := fun W => digit_v 61 false HDI W
                have hco : ∀ W, Calls Tryz.prog 51 #[.int .u8 61] W fun e w' => e = .returned (.bool true) ∧ Ext W w' := fun W => one_v 61 true (Lib.hid (by decide)) W
                have HCB := Lib.hid hcb
                have HCL := Lib.hid hcl
                have HCD := Lib.hid hcd
                have HCO := Lib.hid hco
                clear e0 hcb hcl hcd hco d35
                obtain ⟨tx, HTX⟩ : ∃ tx, Hid ((l.drop k).take (k + 1 - k) = tx) := ⟨_, Lib.hid rfl⟩
                by_cases hnx : k + 1 < l.length
                · have f0 := HB.out (k + 1) hnx
                  have q2 : (k : Int) + 1 < (l.length : Int) := by omega
                  have d2 : decide ((k : Int) + 1 < (l.length : Int)) = true := decide_eq_true (by omega)
                  have HHD := Lib.hid (head_drop hnx)
                  generalize l[k + 1] = y at *
                  by_cases hy : y = 61
                  · subst hy
                    have f0' : wa.cell? ⟨b, off + (k + 1), none⟩ = some (.int .u8 61) := f0
                    have HST1 : Hid (step (l.drop k) = .tok 3 2 0) := Lib.hid (by rw [HST.out, HHD.out]; rfl)
                    have HT2 : Hid ((l.drop k).take 2 = [61, 61]) := Lib.hid (by
                      rw [HDR.out]
                      have h := HHD.out
                      cases hd : l.drop (k + 1) with
                      | nil => rw [hd] at h; cases h
                      | cons z r' => rw [hd] at h; injection h with h; subst h; rfl)
                    clear f0
                    go_wp2_with (first
                      | (go_at_call 47; refine (HCB.out _).mono ?_; rintro e w' ⟨rfl, rfl⟩)
                      | (go_at_call 48; refine (HCL.out _).mono ?_; rintro e w' ⟨rfl, rfl⟩)
                      | (go_at_call 49; refine (HCD.out _).mono ?_; rintro e w' ⟨rfl, rfl⟩)
                      | (at_builtin; refine wpList_grow rfl (.tmp 146) (.tmp 150) 60 rfl w.heap.size 67 i0 _ 5 48 Tryz.underlying60 hi hz0 hz1 hz2 rfl (by decide) _ _ _ rfl (HW.out.2.1.alloc _) _ 1 1 (kcell ⟨3, k, k + 2, [61, 61], 0⟩) rfl (by simp) rfl (by exact (Cells.newAt rfl (by first | rfl | (simp [kcell, bstr]; done) | (simp [kcell, bstr]; omega)))) ends5 (by unfold maxLen; omega) (by omega) (by have := HW.out.2.2.1.size; simp; omega) ?_; intro A4 c4 w4 z4 hown4 hg4))
                    have HO4 : Hid (w4.ownsRow w.heap.size 67 5 (.slice A4 (lo ++ [(⟨3, k, k + 2, [61, 61], 0⟩ : Tok)]).length c4) (lo ++ [(⟨3, k, k + 2, [61, 61], 0⟩ : Tok)]).length (kcells (lo ++ [(⟨3, k, k + 2, [61, 61], 0⟩ : Tok)]))) := Lib.hid (by rw [kcells_snoc, List.length_append]; exact hown4)
                    have HX4 : Hid (Ext w w4) := Lib.hid (Below.grown (HW.out.2.2.1.trans (Ext.alloc _ _)) hg4 (by have := HW.out.2.2.1.size; simp; omega) (fun q hq => (HW.out.2.1.lt q hq).1))
                    clear hown4 hg4
                    go_wp2_with fail
                    go_roundg (l.length - (k + 2))
                    case measure => omega
                    case rel =>
                      refine ⟨k + 2, lo ++ [⟨3, k, k + 2, [61, 61], 0⟩], A4, c4, by omega, rfl, by simp; omega, by first | rfl | go_num, by simp, Lib.hid ⟨z4, HO4.out, HX4.out, ?_⟩⟩
                      rw [HW.out.2.2.2, lexL_tok HST1.out, pre_snoc, List.drop_drop, HT2.out]
                  · have HNE : Hid (((l.drop (k + 1)).head? == some 61) = false) := Lib.hid (by rw [HHD.out]; simpa using hy)
                    have d4 : ((y.toNat : Int) == 61) = false := toNat_ne hy
                    clear hy
                    have HST1 : Hid (step (l.drop k) = .tok 3 1 0) := Lib.hid (by rw [HST.out, HNE.out]; rfl)
                    go_wp2_with (first
                      | (go_at_call 47; refine (HCB.out _).mono ?_; rintro e w' ⟨rfl, rfl⟩)
                      | (go_at_call 48; refine (HCL.out _).mono ?_; rintro e w' ⟨rfl, rfl⟩)
                      | (go_at_call 49; refine (HCD.out _).mono ?_; rintro e w' ⟨rfl, rfl⟩))
                    refine (HCO.out _).mono ?_
                    rintro e w9 ⟨rfl, hx9⟩
                    have HO9 := Lib.hid (own_ext HW.out.2.1 hx9)
                    have HX9 := Lib.hid (HW.out.2.2.1.trans hx9)
                    have HC9 := Lib.hid (HCW.out.ext hx9)
                    have HLX := Lib.hid HW.out.2.2.2
                    have HZ9 := Lib.hid HW.out.1
                    clear hx9
                    have hslx : ∀ W, (Instr.slice 22 (.slice (some ⟨b, off, none⟩) l.length c) (some (.int .i64 (k : Int))) (some (.int .i64 ((k : Int) + 1))) none).run Tryz.prog W = .ok (.slice (some ⟨b, off + k, none⟩) 1 (c - k)) W := fun W => by
                      have h := HSL.out (k + 1) (by omega) (by omega) W
                      rw [show k + 1 - k = 1 from by omega] at h
                      exact h
                    have hcvx : (convert 22 9 (.slice (some ⟨b, off + k, none⟩) 1 (c - k))).run Tryz.prog w9 = .ok (.string (bstr tx)) w9 := by
                      have h := cells_cut HC9.out hcap k (k + 1 - k)
                      rw [cutA_lt (by omega), HTX.out] at h
                      exact run_bytes_str Tryz.underlying22 Tryz.underlying5 Tryz.underlying9 (by rw [← HTX.out, List.length_take, List.length_drop]; omega) h
                    go_wp2_with (first
                      | (at_builtin; refine wpList_grow rfl (.tmp 155) (.tmp 164) 60 rfl w.heap.size 67 i0 _ 5 48 Tryz.underlying60 hi hz0 hz1 hz2 rfl (by decide) _ _ _ rfl (HO9.out.alloc _) _ 1 1 (kcell ⟨3, k, k + 1, tx, 0⟩) rfl (by simp) rfl (by exact (Cells.newAt rfl (by first | rfl | (simp [kcell, bstr]; done) | (simp [kcell, bstr]; omega)))) ends5 (by unfold maxLen; omega) (by omega) (by have := HX9.out.size; simp; omega) ?_; intro A4 c4 w4 z4 hown4 hg4))
                    have HO4 : Hid (w4.ownsRow w.heap.size 67 5 (.slice A4 (lo ++ [(⟨3, k, k + 1, tx, 0⟩ : Tok)]).length c4) (lo ++ [(⟨3, k, k + 1, tx, 0⟩ : Tok)]).length (kcells (lo ++ [(⟨3, k, k + 1, tx, 0⟩ : Tok)]))) := Lib.hid (by rw [kcells_snoc, List.length_append]; exact hown4)
                    have HX4 : Hid (Ext w w4) := Lib.hid (Below.grown (HX9.out.trans (Ext.alloc _ _)) hg4 (by have := HX9.out.size; simp; omega) (fun q hq => (HO9.out.lt q hq).1))
                    clear hown4 hg4 hslx hcvx
                    go_wp2_with fail
                    go_roundg (l.length - (k + 1))
                    case measure => omega
                    case rel =>
                      refine ⟨k + 1, lo ++ [⟨3, k, k + 1, tx, 0⟩], A4, c4, by omega, rfl, by simp; omega, by first | rfl | go_num, by simp, Lib.hid ⟨z4, HO4.out, HX4.out, ?_⟩⟩
                      rw [HLX.out, lexL_tok HST1.out, pre_snoc, List.drop_drop]
                      rw [show k + 1 - k = 1 from by omega] at HTX
                      rw [HTX.out]
                · have HNE : Hid (((l.drop (k + 1)).head? == some 61) = false) := Lib.hid (by rw [List.drop_eq_nil_of_le (by omega)]; rfl)
                  have d2 : decide ((k : Int) + 1 < (l.length : Int)) = false := decide_eq_false (by omega)
                  have HST1 : Hid (step (l.drop k) = .tok 3 1 0) := Lib.hid (by rw [HST.out, HNE.out]; rfl)
                  go_wp2_with (first
                    | (go_at_call 47; refine (HCB.out _).mono ?_; rintro e w' ⟨rfl, rfl⟩)
                    | (go_at_call 48; refine (HCL.out _).mono ?_; rintro e w' ⟨rfl, rfl⟩)
                    | (go_at_call 49; refine (HCD.out _).mono ?_; rintro e w' ⟨rfl, rfl⟩))
                  refine (HCO.out _).mono ?_
                  rintro e w9 ⟨rfl, hx9⟩
                  have HO9 := Lib.hid (own_ext HW.out.2.1 hx9)
                  have HX9 := Lib.hid (HW.out.2.2.1.trans hx9)
                  have HC9 := Lib.hid (HCW.out.ext hx9)
                  have HLX := Lib.hid HW.out.2.2.2
                  have HZ9 := Lib.hid HW.out.1
                  clear hx9
                  have hslx : ∀ W, (Instr.slice 22 (.slice (some ⟨b, off, none⟩) l.length c) (some (.int .i64 (k : Int))) (some (.int .i64 ((k : Int) + 1))) none).run Tryz.prog W = .ok (.slice (some ⟨b, off + k, none⟩) 1 (c - k)) W := fun W => by
                    have h := HSL.out (k + 1) (by omega) (by omega) W
                    rw [show k + 1 - k = 1 from by omega] at h
                    exact h
                  have hcvx : (convert 22 9 (.slice (some ⟨b, off + k, none⟩) 1 (c - k))).run Tryz.prog w9 = .ok (.string (bstr tx)) w9 := by
                    have h := cells_cut HC9.out hcap k (k + 1 - k)
                    rw [cutA_lt (by omega), HTX.out] at h
                    exact run_bytes_str Tryz.underlying22 Tryz.underlying5 Tryz.underlying9 (by rw [← HTX.out, List.length_take, List.length_drop]; omega) h
                  go_wp2_with (first
                    | (at_builtin; refine wpList_grow rfl (.tmp 155) (.tmp 164) 60 rfl w.heap.size 67 i0 _ 5 48 Tryz.underlying60 hi hz0 hz1 hz2 rfl (by decide) _ _ _ rfl (HO9.out.alloc _) _ 1 1 (kcell ⟨3, k, k + 1, tx, 0⟩) rfl (by simp) rfl (by exact (Cells.newAt rfl (by first | rfl | (simp [kcell, bstr]; done) | (simp [kcell, bstr]; omega)))) ends5 (by unfold maxLen; omega) (by omega) (by have := HX9.out.size; simp; omega) ?_; intro A4 c4 w4 z4 hown4 hg4))
                  have HO4 : Hid (w4.ownsRow w.heap.size 67 5 (.slice A4 (lo ++ [(⟨3, k, k + 1, tx, 0⟩ : Tok)]).length c4) (lo ++ [(⟨3, k, k + 1, tx, 0⟩ : Tok)]).length (kcells (lo ++ [(⟨3, k, k + 1, tx, 0⟩ : Tok)]))) := Lib.hid (by rw [kcells_snoc, List.length_append]; exact hown4)
                  have HX4 : Hid (Ext w w4) := Lib.hid (Below.grown (HX9.out.trans (Ext.alloc _ _)) hg4 (by have := HX9.out.size; simp; omega) (fun q hq => (HO9.out.lt q hq).1))
                  clear hown4 hg4 hslx hcvx
                  go_wp2_with fail
                  go_roundg (l.length - (k + 1))
                  case measure => omega
                  case rel =>
                    refine ⟨k + 1, lo ++ [⟨3, k, k + 1, tx, 0⟩], A4, c4, by omega, rfl, by simp; omega, by first | rfl | go_num, by simp, Lib.hid ⟨z4, HO4.out, HX4.out, ?_⟩⟩
                    rw [HLX.out, lexL_tok HST1.out, pre_snoc, List.drop_drop]
                    rw [show k + 1 - k = 1 from by omega] at HTX
                    rw [HTX.out]
              · have d61 : ((x.toNat : Int) == 61) = false := toNat_ne h61
                have H61 : Hid ((x == 61) = false) := Lib.hid (by simpa using h61)
                clear h61
                obtain ⟨tx, HTX⟩ : ∃ tx, Hid ((l.drop k).take (k + 1 - k) = tx) := ⟨_, Lib.hid rfl⟩
                cases hmk : markB x with
                | true =>
                  have HMK := Lib.hid hmk
                  clear hmk
                  have HST1 : Hid (step (l.drop k) = .tok 3 1 0) := Lib.hid (by rw [HST.out, H61.out, HMK.out]; rfl)
                  go_wp2_with (first
                    | (go_at_call 47; refine (blank_v x false HBL _).mono ?_; rintro e w' ⟨rfl, rfl⟩)
                    | (go_at_call 48; refine (letter_v x _ HLE _).mono ?_; rintro e w' ⟨rfl, rfl⟩)
                    | (go_at_call 49; refine (digit_v x _ HDI _).mono ?_; rintro e w' ⟨rfl, rfl⟩))
                  refine (one_v x true HMK _).mono ?_
                  rintro e w9 ⟨rfl, hx9⟩
                  have HO9 := Lib.hid (own_ext HW.out.2.1 hx9)
                  have HX9 := Lib.hid (HW.out.2.2.1.trans hx9)
                  have HC9 := Lib.hid (HCW.out.ext hx9)
                  have HLX := Lib.hid HW.out.2.2.2
                  have HZ9 := Lib.hid HW.out.1
                  clear hx9
                  have hslx : ∀ W, (Instr.slice 22 (.slice (some ⟨b, off, none⟩) l.length c) (some (.int .i64 (k : Int))) (some (.int .i64 ((k : Int) + 1))) none).run Tryz.prog W = .ok (.slice (some ⟨b, off + k, none⟩) 1 (c - k)) W := fun W => by
                    have h := HSL.out (k + 1) (by omega) (by omega) W
                    rw [show k + 1 - k = 1 from by omega] at h
                    exact h
                  have hcvx : (convert 22 9 (.slice (some ⟨b, off + k, none⟩) 1 (c - k))).run Tryz.prog w9 = .ok (.string (bstr tx)) w9 := by
                    have h := cells_cut HC9.out hcap k (k + 1 - k)
                    rw [cutA_lt (by omega), HTX.out] at h
                    exact run_bytes_str Tryz.underlying22 Tryz.underlying5 Tryz.underlying9 (by rw [← HTX.out, List.length_take, List.length_drop]; omega) h
                  go_wp2_with (first
                    | (at_builtin; refine wpList_grow rfl (.tmp 155) (.tmp 164) 60 rfl w.heap.size 67 i0 _ 5 48 Tryz.underlying60 hi hz0 hz1 hz2 rfl (by decide) _ _ _ rfl (HO9.out.alloc _) _ 1 1 (kcell ⟨3, k, k + 1, tx, 0⟩) rfl (by simp) rfl (by exact (Cells.newAt rfl (by first | rfl | (simp [kcell, bstr]; done) | (simp [kcell, bstr]; omega)))) ends5 (by unfold maxLen; omega) (by omega) (by have := HX9.out.size; simp; omega) ?_; intro A4 c4 w4 z4 hown4 hg4))
                  have HO4 : Hid (w4.ownsRow w.heap.size 67 5 (.slice A4 (lo ++ [(⟨3, k, k + 1, tx, 0⟩ : Tok)]).length c4) (lo ++ [(⟨3, k, k + 1, tx, 0⟩ : Tok)]).length (kcells (lo ++ [(⟨3, k, k + 1, tx, 0⟩ : Tok)]))) := Lib.hid (by rw [kcells_snoc, List.length_append]; exact hown4)
                  have HX4 : Hid (Ext w w4) := Lib.hid (Below.grown (HX9.out.trans (Ext.alloc _ _)) hg4 (by have := HX9.out.size; simp; omega) (fun q hq => (HO9.out.lt q hq).1))
                  clear hown4 hg4 hslx hcvx
                  go_wp2_with fail
                  go_roundg (l.length - (k + 1))
                  case measure => omega
                  case rel =>
                    refine ⟨k + 1, lo ++ [⟨3, k, k + 1, tx, 0⟩], A4, c4, by omega, rfl, by simp; omega, by first | rfl | go_num, by simp, Lib.hid ⟨z4, HO4.out, HX4.out, ?_⟩⟩
                    rw [HLX.out, lexL_tok HST1.out, pre_snoc, List.drop_drop]
                    rw [show k + 1 - k = 1 from by omega] at HTX
                    rw [HTX.out]
                | false =>
                  have HMK := Lib.hid hmk
                  have HBAD := Lib.hid (lexL_bad (p := k) (HST.out.trans (by rw [H61.out, hmk]; rfl)))
                  clear hmk
                  go_wp2_with (first
                    | (go_at_call 47; refine (blank_v x false HBL _).mono ?_; rintro e w' ⟨rfl, rfl⟩)
                    | (go_at_call 48; refine (letter_v x _ HLE _).mono ?_; rintro e w' ⟨rfl, rfl⟩)
                    | (go_at_call 49; refine (digit_v x _ HDI _).mono ?_; rintro e w' ⟨rfl, rfl⟩)
                    | (go_at_call 51; refine (one_v x false HMK _).mono ?_; rintro e w9 ⟨rfl, hx9⟩))
                  refine bodyPost_ret (v := .tuple #[.slice none 0 0, .int .i64 (k : Int), .int .i64 30]) (by simp [results, Tryz.results24, go_sem]) rfl ?_
                  rw [HS.out, HW.out.2.2.2, HBAD.out]
                  exact ⟨HW.out.2.2.1.trans hx9, rfl⟩
    · obtain rfl : k = l.length := by omega
      have d0 : decide ((l.length : Int) < (l.length : Int)) = false := by simp
      have HO2 := Lib.hid HW.out.2.1
      have HX2 := Lib.hid HW.out.2.2.1
      have HLX := Lib.hid HW.out.2.2.2
      clear HW
      go_wp2_with (at_builtin; refine wpList_grow rfl (.tmp 167) (.tmp 173) 60 rfl w.heap.size 67 i0 _ 5 48 Tryz.underlying60 hi hz0 hz1 hz2 rfl (by decide) _ _ _ rfl (HO2.out.alloc _) _ 1 1 (kcell ⟨4, l.length, l.length, [], 0⟩) rfl (by simp) rfl (by exact (Cells.newAt rfl)) ends5 (by unfold maxLen; omega) (by omega) (by have := HX2.out.size; simp; omega) ?_; intro A4 c4 w4 z4 hown4 hg4)
      have hown4' : w4.ownsRow w.heap.size 67 5 (.slice A4 (lo ++ [(⟨4, l.length, l.length, [], 0⟩ : Tok)]).length c4) (lo ++ [(⟨4, l.length, l.length, [], 0⟩ : Tok)]).length (kcells (lo ++ [(⟨4, l.length, l.length, [], 0⟩ : Tok)])) := by rw [kcells_snoc, List.length_append]; exact hown4
      have HX4 : Hid (Ext w w4) := Lib.hid (Below.grown (HX2.out.trans (Ext.alloc _ _)) hg4 (by have := HX2.out.size; simp; omega) (fun q hq => (HO2.out.lt q hq).1))
      have HO4 := Lib.hid hown4'
      clear hown4 hown4' hg4
      go_wp2_with fail
      refine bodyPost_ret (v := .tuple #[.slice A4 (lo.length + 1) c4, .int .i64 0, .int .i64 0]) (by simp [results, Tryz.results24, go_sem]) rfl ?_
      rw [HS.out, HLX.out, List.drop_eq_nil_of_le (Nat.le_refl _), lexL_fin]
      exact ⟨HX4.out, A4, c4, by simp, z4, HO4.out⟩
theorem rlex_any (A : Option Addr) (l : Bs) (n c : Nat) (w : World) (hn : n = l.length) (hbig : l.length ≤ 140737488355328) (hcap : l.length ≤ c) (h : Cells w A (bcells l)) :
    Calls Tryz.prog 24 #[.slice A n c] w (RLexPost l w (lexS l)) := by
  by_cases hlim : 65536 < l.length
  · exact rlex_limit A l n c w hn hbig hlim
  · exact rlex_in A l n c w hn hcap h (by omega)
end Go.Proofs.YtcccnicldbpieaaGreatDoor
