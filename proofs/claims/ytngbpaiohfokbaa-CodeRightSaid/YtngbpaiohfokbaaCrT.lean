/- What code.Right and code.Same answer is what the document's Right and Same answer. No condition. -/
import Derived.Test.YtngbpaiohfokbaaCrS
import Derived.Test.YtngbpaiohfokbaaCrHS
namespace Go.Proofs.Ytngbpaiohfokbaa
open Go Go.RowKit
set_option linter.unusedVariables false
set_option linter.unusedSimpArgs false
theorem sameI_law (f g : FullI) : sameI f g = sameP f g := by
  unfold sameI sameFl sameP samePl
  by_cases h : f.vp.map Prod.snd = g.vp.map Prod.snd
  · have hl : f.vp.length = g.vp.length := by have := congrArg List.length h; simpa using this
    simp [h, hl]
  · simp [h]
theorem sameR_law : ∀ l m : List FullI, all2 sameP l m = sameR l m
  | [], [] => rfl
  | [], _ :: _ => rfl
  | _ :: _, [] => rfl
  | x :: l, y :: m => by rw [sameR_cons, all2_cons, sameI_law, sameR_law l m]
theorem nil_len {α : Type} (l : List α) : decide (l = []) = ((l.length : Int) == 0) := by
  cases l with
  | nil => rfl
  | cons x l =>
    rw [decide_eq_false (by simp)]
    symm
    rw [beq_eq_false_iff_ne]
    simp only [List.length_cons]
    omega
theorem nil_map {α β : Type} (q : α → β) (l : List α) : decide (l.map q = []) = ((l.length : Int) == 0) := by
  rw [nil_len, List.length_map]
theorem pos_len (n : Nat) : decide (0 < (n : Int)) = !((n : Int) == 0) := by
  cases n with
  | zero => rfl
  | succ n =>
    rw [decide_eq_true (by omega)]
    symm
    rw [Bool.not_eq_true', beq_eq_false_iff_ne]
    omega
theorem ite_no (b x : Bool) : (if b = true then false else x) = (!b && x) := by cases b <;> rfl
theorem inP_not (i n : Int) : inP i n = !(decide (i < 0) || decide (n ≤ i)) := by
  unfold inP
  by_cases h0 : 0 ≤ i <;> by_cases h1 : i < n <;> simp [h0, h1] <;> omega

set_option maxHeartbeats 4000000 in
theorem one_law1 (f : FullI) (tables : List Int) (v size : Nat) (h : f.x.op = 1) : oneP f tables v size = oneR f tables v size := by
  obtain ⟨⟨op, node, mode, table, row, col, var, goes, eq, frm, upto, key, vals⟩, kt, vp⟩ := f
  simp only at h
  subst h
  have hs : sameB ⟨⟨1, node, mode, table, row, col, var, goes, eq, frm, upto, key, vals⟩, kt, vp⟩ = ((col == 0) && ((var == 0) && ((goes == 0) && ((!eq) && ((frm == 0) && ((upto == 0) && ((vp.length : Int) == 0))))))) := by
    unfold sameB
    simp only [all2, Bool.and_true, sameP, samePl, bareU, bareF, opU]
    simp [nil_len, nil_map, Bool.and_assoc]
  unfold oneP oneR colP varP modeP keyQ
  rw [hs]
  simp only [ite_no]
  simp only [show hasP 1 116 = true from by decide, show hasP 1 107 = true from by decide, show hasP 1 114 = false from by decide, show hasP 1 109 = true from by decide, show hasP 1 99 = false from by decide, show hasP 1 118 = false from by decide, show hasP 1 111 = false from by decide, show hasP 1 101 = false from by decide, show hasP 1 102 = false from by decide, show hasP 1 117 = false from by decide, show hasP 1 49 = false from by decide, show hasP 1 50 = false from by decide, show hasP 1 110 = false from by decide, keyR, wantR, valsB, keyedP, valuesP, inP_not, pos_len, Bool.not_not]
  simp only [Int.reduceLT, Int.reduceLE, Int.reduceEq, decide_true, decide_false, Int.reduceBEq, or_self, ite_no, if_false, if_true, Bool.true_and, Bool.false_and, Bool.true_or, Bool.false_or, Bool.and_true, Bool.and_false, Bool.or_false, Bool.or_true, Bool.not_true, Bool.not_false, bne, ite_false, ite_true, false_or, or_false, true_or, or_true, Bool.false_eq_true]
  generalize goodR v kt = G
  generalize allGood v vp = A
  generalize ((kt.length : Int) == 0) = K
  generalize (decide (table < 0) || decide ((tables.length : Int) ≤ table)) = TT
  generalize (decide (col < 0) || decide (tabAt tables table ≤ col)) = CC
  generalize (decide (var < 0) || decide ((v : Int) ≤ var)) = VV
  generalize (decide (goes < 0) || decide ((size : Int) ≤ goes)) = OO
  generalize (col == 0) = Zcol
  generalize (var == 0) = Zvar
  generalize (goes == 0) = Zgoes
  generalize (frm == 0) = Zfrm
  generalize (upto == 0) = Zupto
  generalize ((vp.length : Int) == 0) = V0
  cases Zcol with
  | false => simp
  | true =>
  cases Zvar with
  | false => simp
  | true =>
  cases Zgoes with
  | false => simp
  | true =>
  cases Zfrm with
  | false => simp
  | true =>
  cases Zupto with
  | false => simp
  | true =>
  cases eq with
  | true => simp
  | false =>
  cases V0 with
  | false => simp
  | true =>
  cases TT with
  | true => simp
  | false =>
  generalize (mode == 3) = M3
  generalize (mode == 5) = M5
  generalize (mode == 1) = M1
  generalize (mode == 2) = M2
  cases M3 <;> cases M5 <;> cases M1 <;> cases M2 <;> cases K <;> cases G <;> cases A <;> cases row <;> simp
set_option maxHeartbeats 4000000 in
theorem one_law2 (f : FullI) (tables : List Int) (v size : Nat) (h : f.x.op = 2) : oneP f tables v size = oneR f tables v size := by
  obtain ⟨⟨op, node, mode, table, row, col, var, goes, eq, frm, upto, key, vals⟩, kt, vp⟩ := f
  simp only at h
  subst h
  have hs : sameB ⟨⟨2, node, mode, table, row, col, var, goes, eq, frm, upto, key, vals⟩, kt, vp⟩ = ((mode == 0) && ((col == 0) && ((var == 0) && ((goes == 0) && ((!eq) && ((frm == 0) && ((upto == 0) && ((vp.length : Int) == 0)))))))) := by
    unfold sameB
    simp only [all2, Bool.and_true, sameP, samePl, bareU, bareF, opU]
    simp [nil_len, nil_map, Bool.and_assoc]
  unfold oneP oneR colP varP modeP keyQ
  rw [hs]
  simp only [ite_no]
  simp only [show hasP 2 116 = true from by decide, show hasP 2 107 = true from by decide, show hasP 2 114 = false from by decide, show hasP 2 109 = false from by decide, show hasP 2 99 = false from by decide, show hasP 2 118 = false from by decide, show hasP 2 111 = false from by decide, show hasP 2 101 = false from by decide, show hasP 2 102 = false from by decide, show hasP 2 117 = false from by decide, show hasP 2 49 = false from by decide, show hasP 2 50 = false from by decide, show hasP 2 110 = false from by decide, keyR, wantR, valsB, keyedP, valuesP, inP_not, pos_len, Bool.not_not]
  simp only [Int.reduceLT, Int.reduceLE, Int.reduceEq, decide_true, decide_false, Int.reduceBEq, or_self, ite_no, if_false, if_true, Bool.true_and, Bool.false_and, Bool.true_or, Bool.false_or, Bool.and_true, Bool.and_false, Bool.or_false, Bool.or_true, Bool.not_true, Bool.not_false, bne, ite_false, ite_true, false_or, or_false, true_or, or_true, Bool.false_eq_true]
  generalize goodR v kt = G
  generalize allGood v vp = A
  generalize ((kt.length : Int) == 0) = K
  generalize (decide (table < 0) || decide ((tables.length : Int) ≤ table)) = TT
  generalize (decide (col < 0) || decide (tabAt tables table ≤ col)) = CC
  generalize (decide (var < 0) || decide ((v : Int) ≤ var)) = VV
  generalize (decide (goes < 0) || decide ((size : Int) ≤ goes)) = OO
  generalize (mode == 0) = Zmode
  generalize (col == 0) = Zcol
  generalize (var == 0) = Zvar
  generalize (goes == 0) = Zgoes
  generalize (frm == 0) = Zfrm
  generalize (upto == 0) = Zupto
  generalize ((vp.length : Int) == 0) = V0
  cases Zmode with
  | false => simp
  | true =>
  cases Zcol with
  | false => simp
  | true =>
  cases Zvar with
  | false => simp
  | true =>
  cases Zgoes with
  | false => simp
  | true =>
  cases Zfrm with
  | false => simp
  | true =>
  cases Zupto with
  | false => simp
  | true =>
  cases eq with
  | true => simp
  | false =>
  cases V0 with
  | false => simp
  | true =>
  cases TT with
  | true => simp
  | false =>
  cases K <;> cases G <;> cases A <;> cases row <;> simp
set_option maxHeartbeats 4000000 in
theorem one_law3 (f : FullI) (tables : List Int) (v size : Nat) (h : f.x.op = 3) : oneP f tables v size = oneR f tables v size := by
  obtain ⟨⟨op, node, mode, table, row, col, var, goes, eq, frm, upto, key, vals⟩, kt, vp⟩ := f
  simp only at h
  subst h
  have hs : sameB ⟨⟨3, node, mode, table, row, col, var, goes, eq, frm, upto, key, vals⟩, kt, vp⟩ = ((mode == 0) && ((!row) && ((goes == 0) && ((!eq) && ((frm == 0) && ((upto == 0) && ((vp.length : Int) == 0))))))) := by
    unfold sameB
    simp only [all2, Bool.and_true, sameP, samePl, bareU, bareF, opU]
    simp [nil_len, nil_map, Bool.and_assoc]
  unfold oneP oneR colP varP modeP keyQ
  rw [hs]
  simp only [ite_no]
  simp only [show hasP 3 116 = true from by decide, show hasP 3 107 = false from by decide, show hasP 3 114 = true from by decide, show hasP 3 109 = false from by decide, show hasP 3 99 = true from by decide, show hasP 3 118 = true from by decide, show hasP 3 111 = false from by decide, show hasP 3 101 = false from by decide, show hasP 3 102 = false from by decide, show hasP 3 117 = false from by decide, show hasP 3 49 = false from by decide, show hasP 3 50 = false from by decide, show hasP 3 110 = false from by decide, keyR, wantR, valsB, keyedP, valuesP, inP_not, pos_len, Bool.not_not]
  simp only [Int.reduceLT, Int.reduceLE, Int.reduceEq, decide_true, decide_false, Int.reduceBEq, or_self, ite_no, if_false, if_true, Bool.true_and, Bool.false_and, Bool.true_or, Bool.false_or, Bool.and_true, Bool.and_false, Bool.or_false, Bool.or_true, Bool.not_true, Bool.not_false, bne, ite_false, ite_true, false_or, or_false, true_or, or_true, Bool.false_eq_true]
  generalize goodR v kt = G
  generalize allGood v vp = A
  generalize ((kt.length : Int) == 0) = K
  generalize (decide (table < 0) || decide ((tables.length : Int) ≤ table)) = TT
  generalize (decide (col < 0) || decide (tabAt tables table ≤ col)) = CC
  generalize (decide (var < 0) || decide ((v : Int) ≤ var)) = VV
  generalize (decide (goes < 0) || decide ((size : Int) ≤ goes)) = OO
  generalize (mode == 0) = Zmode
  generalize (goes == 0) = Zgoes
  generalize (frm == 0) = Zfrm
  generalize (upto == 0) = Zupto
  generalize ((vp.length : Int) == 0) = V0
  cases Zmode with
  | false => simp
  | true =>
  cases Zgoes with
  | false => simp
  | true =>
  cases Zfrm with
  | false => simp
  | true =>
  cases Zupto with
  | false => simp
  | true =>
  cases eq with
  | true => simp
  | false =>
  cases row with
  | true => simp
  | false =>
  cases V0 with
  | false => simp
  | true =>
  cases TT with
  | true => simp
  | false =>
  cases CC with
  | true => simp
  | false =>
  cases VV with
  | true => simp
  | false =>
  cases K <;> cases G <;> cases A <;> simp
set_option maxHeartbeats 4000000 in
theorem one_law4 (f : FullI) (tables : List Int) (v size : Nat) (h : f.x.op = 4) : oneP f tables v size = oneR f tables v size := by
  obtain ⟨⟨op, node, mode, table, row, col, var, goes, eq, frm, upto, key, vals⟩, kt, vp⟩ := f
  simp only at h
  subst h
  have hs : sameB ⟨⟨4, node, mode, table, row, col, var, goes, eq, frm, upto, key, vals⟩, kt, vp⟩ = ((mode == 0) && ((!row) && ((var == 0) && ((goes == 0) && ((!eq) && ((frm == 0) && (upto == 0))))))) := by
    unfold sameB
    simp only [all2, Bool.and_true, sameP, samePl, bareU, bareF, opU]
    simp [nil_len, nil_map, Bool.and_assoc]
  unfold oneP oneR colP varP modeP keyQ
  rw [hs]
  simp only [ite_no]
  simp only [show hasP 4 116 = true from by decide, show hasP 4 107 = false from by decide, show hasP 4 114 = true from by decide, show hasP 4 109 = false from by decide, show hasP 4 99 = true from by decide, show hasP 4 118 = false from by decide, show hasP 4 111 = false from by decide, show hasP 4 101 = false from by decide, show hasP 4 102 = false from by decide, show hasP 4 117 = false from by decide, show hasP 4 49 = true from by decide, show hasP 4 50 = false from by decide, show hasP 4 110 = false from by decide, keyR, wantR, valsB, keyedP, valuesP, inP_not, pos_len, Bool.not_not]
  simp only [Int.reduceLT, Int.reduceLE, Int.reduceEq, decide_true, decide_false, Int.reduceBEq, or_self, ite_no, if_false, if_true, Bool.true_and, Bool.false_and, Bool.true_or, Bool.false_or, Bool.and_true, Bool.and_false, Bool.or_false, Bool.or_true, Bool.not_true, Bool.not_false, bne, ite_false, ite_true, false_or, or_false, true_or, or_true, Bool.false_eq_true]
  generalize goodR v kt = G
  generalize allGood v vp = A
  generalize ((kt.length : Int) == 0) = K
  generalize (decide (table < 0) || decide ((tables.length : Int) ≤ table)) = TT
  generalize (decide (col < 0) || decide (tabAt tables table ≤ col)) = CC
  generalize (decide (var < 0) || decide ((v : Int) ≤ var)) = VV
  generalize (decide (goes < 0) || decide ((size : Int) ≤ goes)) = OO
  generalize (mode == 0) = Zmode
  generalize (var == 0) = Zvar
  generalize (goes == 0) = Zgoes
  generalize (frm == 0) = Zfrm
  generalize (upto == 0) = Zupto
  cases Zmode with
  | false => simp
  | true =>
  cases Zvar with
  | false => simp
  | true =>
  cases Zgoes with
  | false => simp
  | true =>
  cases Zfrm with
  | false => simp
  | true =>
  cases Zupto with
  | false => simp
  | true =>
  cases eq with
  | true => simp
  | false =>
  cases row with
  | true => simp
  | false =>
  cases TT with
  | true => simp
  | false =>
  cases CC with
  | true => simp
  | false =>
  cases K <;> cases G <;> cases A <;> simp
set_option maxHeartbeats 4000000 in
theorem one_law5 (f : FullI) (tables : List Int) (v size : Nat) (h : f.x.op = 5) : oneP f tables v size = oneR f tables v size := by
  obtain ⟨⟨op, node, mode, table, row, col, var, goes, eq, frm, upto, key, vals⟩, kt, vp⟩ := f
  simp only at h
  subst h
  have hs : sameB ⟨⟨5, node, mode, table, row, col, var, goes, eq, frm, upto, key, vals⟩, kt, vp⟩ = ((mode == 0) && ((!row) && ((col == 0) && ((var == 0) && ((goes == 0) && ((!eq) && ((frm == 0) && (upto == 0)))))))) := by
    unfold sameB
    simp only [all2, Bool.and_true, sameP, samePl, bareU, bareF, opU]
    simp [nil_len, nil_map, Bool.and_assoc]
  unfold oneP oneR colP varP modeP keyQ
  rw [hs]
  simp only [ite_no]
  simp only [show hasP 5 116 = true from by decide, show hasP 5 107 = false from by decide, show hasP 5 114 = true from by decide, show hasP 5 109 = false from by decide, show hasP 5 99 = false from by decide, show hasP 5 118 = false from by decide, show hasP 5 111 = false from by decide, show hasP 5 101 = false from by decide, show hasP 5 102 = false from by decide, show hasP 5 117 = false from by decide, show hasP 5 49 = false from by decide, show hasP 5 50 = false from by decide, show hasP 5 110 = true from by decide, keyR, wantR, valsB, keyedP, valuesP, inP_not, pos_len, Bool.not_not]
  simp only [Int.reduceLT, Int.reduceLE, Int.reduceEq, decide_true, decide_false, Int.reduceBEq, or_self, ite_no, if_false, if_true, Bool.true_and, Bool.false_and, Bool.true_or, Bool.false_or, Bool.and_true, Bool.and_false, Bool.or_false, Bool.or_true, Bool.not_true, Bool.not_false, bne, ite_false, ite_true, false_or, or_false, true_or, or_true, Bool.false_eq_true]
  generalize goodR v kt = G
  generalize allGood v vp = A
  generalize ((kt.length : Int) == 0) = K
  generalize (decide (table < 0) || decide ((tables.length : Int) ≤ table)) = TT
  generalize (decide (col < 0) || decide (tabAt tables table ≤ col)) = CC
  generalize (decide (var < 0) || decide ((v : Int) ≤ var)) = VV
  generalize (decide (goes < 0) || decide ((size : Int) ≤ goes)) = OO
  generalize (mode == 0) = Zmode
  generalize (col == 0) = Zcol
  generalize (var == 0) = Zvar
  generalize (goes == 0) = Zgoes
  generalize (frm == 0) = Zfrm
  generalize (upto == 0) = Zupto
  cases Zmode with
  | false => simp
  | true =>
  cases Zcol with
  | false => simp
  | true =>
  cases Zvar with
  | false => simp
  | true =>
  cases Zgoes with
  | false => simp
  | true =>
  cases Zfrm with
  | false => simp
  | true =>
  cases Zupto with
  | false => simp
  | true =>
  cases eq with
  | true => simp
  | false =>
  cases row with
  | true => simp
  | false =>
  cases TT with
  | true => simp
  | false =>
  cases K <;> cases G <;> cases A <;> simp
set_option maxHeartbeats 4000000 in
theorem one_law6 (f : FullI) (tables : List Int) (v size : Nat) (h : f.x.op = 6) : oneP f tables v size = oneR f tables v size := by
  obtain ⟨⟨op, node, mode, table, row, col, var, goes, eq, frm, upto, key, vals⟩, kt, vp⟩ := f
  simp only at h
  subst h
  have hs : sameB ⟨⟨6, node, mode, table, row, col, var, goes, eq, frm, upto, key, vals⟩, kt, vp⟩ = ((mode == 0) && ((!row) && ((col == 0) && ((var == 0) && ((goes == 0) && ((!eq) && ((frm == 0) && ((upto == 0) && ((vp.length : Int) == 0))))))))) := by
    unfold sameB
    simp only [all2, Bool.and_true, sameP, samePl, bareU, bareF, opU]
    simp [nil_len, nil_map, Bool.and_assoc]
  unfold oneP oneR colP varP modeP keyQ
  rw [hs]
  simp only [ite_no]
  simp only [show hasP 6 116 = true from by decide, show hasP 6 107 = false from by decide, show hasP 6 114 = true from by decide, show hasP 6 109 = false from by decide, show hasP 6 99 = false from by decide, show hasP 6 118 = false from by decide, show hasP 6 111 = false from by decide, show hasP 6 101 = false from by decide, show hasP 6 102 = false from by decide, show hasP 6 117 = false from by decide, show hasP 6 49 = false from by decide, show hasP 6 50 = false from by decide, show hasP 6 110 = false from by decide, keyR, wantR, valsB, keyedP, valuesP, inP_not, pos_len, Bool.not_not]
  simp only [Int.reduceLT, Int.reduceLE, Int.reduceEq, decide_true, decide_false, Int.reduceBEq, or_self, ite_no, if_false, if_true, Bool.true_and, Bool.false_and, Bool.true_or, Bool.false_or, Bool.and_true, Bool.and_false, Bool.or_false, Bool.or_true, Bool.not_true, Bool.not_false, bne, ite_false, ite_true, false_or, or_false, true_or, or_true, Bool.false_eq_true]
  generalize goodR v kt = G
  generalize allGood v vp = A
  generalize ((kt.length : Int) == 0) = K
  generalize (decide (table < 0) || decide ((tables.length : Int) ≤ table)) = TT
  generalize (decide (col < 0) || decide (tabAt tables table ≤ col)) = CC
  generalize (decide (var < 0) || decide ((v : Int) ≤ var)) = VV
  generalize (decide (goes < 0) || decide ((size : Int) ≤ goes)) = OO
  generalize (mode == 0) = Zmode
  generalize (col == 0) = Zcol
  generalize (var == 0) = Zvar
  generalize (goes == 0) = Zgoes
  generalize (frm == 0) = Zfrm
  generalize (upto == 0) = Zupto
  generalize ((vp.length : Int) == 0) = V0
  cases Zmode with
  | false => simp
  | true =>
  cases Zcol with
  | false => simp
  | true =>
  cases Zvar with
  | false => simp
  | true =>
  cases Zgoes with
  | false => simp
  | true =>
  cases Zfrm with
  | false => simp
  | true =>
  cases Zupto with
  | false => simp
  | true =>
  cases eq with
  | true => simp
  | false =>
  cases row with
  | true => simp
  | false =>
  cases V0 with
  | false => simp
  | true =>
  cases TT with
  | true => simp
  | false =>
  cases K <;> cases G <;> cases A <;> simp
set_option maxHeartbeats 4000000 in
theorem one_law7 (f : FullI) (tables : List Int) (v size : Nat) (h : f.x.op = 7) : oneP f tables v size = oneR f tables v size := by
  obtain ⟨⟨op, node, mode, table, row, col, var, goes, eq, frm, upto, key, vals⟩, kt, vp⟩ := f
  simp only at h
  subst h
  have hs : sameB ⟨⟨7, node, mode, table, row, col, var, goes, eq, frm, upto, key, vals⟩, kt, vp⟩ = ((mode == 0) && ((!row) && ((goes == 0) && ((!eq) && ((frm == 0) && ((upto == 0) && (((kt.length : Int) == 0) && ((vp.length : Int) == 0)))))))) := by
    unfold sameB
    simp only [all2, Bool.and_true, sameP, samePl, bareU, bareF, opU]
    simp [nil_len, nil_map, Bool.and_assoc]
  unfold oneP oneR colP varP modeP keyQ
  rw [hs]
  simp only [ite_no]
  simp only [show hasP 7 116 = true from by decide, show hasP 7 107 = false from by decide, show hasP 7 114 = false from by decide, show hasP 7 109 = false from by decide, show hasP 7 99 = true from by decide, show hasP 7 118 = true from by decide, show hasP 7 111 = false from by decide, show hasP 7 101 = false from by decide, show hasP 7 102 = false from by decide, show hasP 7 117 = false from by decide, show hasP 7 49 = false from by decide, show hasP 7 50 = false from by decide, show hasP 7 110 = false from by decide, keyR, wantR, valsB, keyedP, valuesP, inP_not, pos_len, Bool.not_not]
  simp only [Int.reduceLT, Int.reduceLE, Int.reduceEq, decide_true, decide_false, Int.reduceBEq, or_self, ite_no, if_false, if_true, Bool.true_and, Bool.false_and, Bool.true_or, Bool.false_or, Bool.and_true, Bool.and_false, Bool.or_false, Bool.or_true, Bool.not_true, Bool.not_false, bne, ite_false, ite_true, false_or, or_false, true_or, or_true, Bool.false_eq_true]
  generalize goodR v kt = G
  generalize allGood v vp = A
  generalize ((kt.length : Int) == 0) = K
  generalize (decide (table < 0) || decide ((tables.length : Int) ≤ table)) = TT
  generalize (decide (col < 0) || decide (tabAt tables table ≤ col)) = CC
  generalize (decide (var < 0) || decide ((v : Int) ≤ var)) = VV
  generalize (decide (goes < 0) || decide ((size : Int) ≤ goes)) = OO
  generalize (mode == 0) = Zmode
  generalize (goes == 0) = Zgoes
  generalize (frm == 0) = Zfrm
  generalize (upto == 0) = Zupto
  generalize ((vp.length : Int) == 0) = V0
  cases Zmode with
  | false => simp
  | true =>
  cases Zgoes with
  | false => simp
  | true =>
  cases Zfrm with
  | false => simp
  | true =>
  cases Zupto with
  | false => simp
  | true =>
  cases eq with
  | true => simp
  | false =>
  cases row with
  | true => simp
  | false =>
  cases V0 with
  | false => simp
  | true =>
  cases K with
  | false => simp
  | true =>
  cases TT with
  | true => simp
  | false =>
  cases CC with
  | true => simp
  | false =>
  cases VV with
  | true => simp
  | false =>
  cases G <;> cases A <;> simp
set_option maxHeartbeats 4000000 in
theorem one_law8 (f : FullI) (tables : List Int) (v size : Nat) (h : f.x.op = 8) : oneP f tables v size = oneR f tables v size := by
  obtain ⟨⟨op, node, mode, table, row, col, var, goes, eq, frm, upto, key, vals⟩, kt, vp⟩ := f
  simp only at h
  subst h
  have hs : sameB ⟨⟨8, node, mode, table, row, col, var, goes, eq, frm, upto, key, vals⟩, kt, vp⟩ = ((mode == 0) && ((table == 0) && ((!row) && ((col == 0) && ((goes == 0) && ((!eq) && ((frm == 0) && ((upto == 0) && ((kt.length : Int) == 0))))))))) := by
    unfold sameB
    simp only [all2, Bool.and_true, sameP, samePl, bareU, bareF, opU]
    simp [nil_len, nil_map, Bool.and_assoc]
  unfold oneP oneR colP varP modeP keyQ
  rw [hs]
  simp only [ite_no]
  simp only [show hasP 8 116 = false from by decide, show hasP 8 107 = false from by decide, show hasP 8 114 = false from by decide, show hasP 8 109 = false from by decide, show hasP 8 99 = false from by decide, show hasP 8 118 = true from by decide, show hasP 8 111 = false from by decide, show hasP 8 101 = false from by decide, show hasP 8 102 = false from by decide, show hasP 8 117 = false from by decide, show hasP 8 49 = true from by decide, show hasP 8 50 = false from by decide, show hasP 8 110 = false from by decide, keyR, wantR, valsB, keyedP, valuesP, inP_not, pos_len, Bool.not_not]
  simp only [Int.reduceLT, Int.reduceLE, Int.reduceEq, decide_true, decide_false, Int.reduceBEq, or_self, ite_no, if_false, if_true, Bool.true_and, Bool.false_and, Bool.true_or, Bool.false_or, Bool.and_true, Bool.and_false, Bool.or_false, Bool.or_true, Bool.not_true, Bool.not_false, bne, ite_false, ite_true, false_or, or_false, true_or, or_true, Bool.false_eq_true]
  generalize goodR v kt = G
  generalize allGood v vp = A
  generalize ((kt.length : Int) == 0) = K
  generalize (decide (table < 0) || decide ((tables.length : Int) ≤ table)) = TT
  generalize (decide (col < 0) || decide (tabAt tables table ≤ col)) = CC
  generalize (decide (var < 0) || decide ((v : Int) ≤ var)) = VV
  generalize (decide (goes < 0) || decide ((size : Int) ≤ goes)) = OO
  generalize (mode == 0) = Zmode
  generalize (table == 0) = Ztable
  generalize (col == 0) = Zcol
  generalize (goes == 0) = Zgoes
  generalize (frm == 0) = Zfrm
  generalize (upto == 0) = Zupto
  cases Zmode with
  | false => simp
  | true =>
  cases Ztable with
  | false => simp
  | true =>
  cases Zcol with
  | false => simp
  | true =>
  cases Zgoes with
  | false => simp
  | true =>
  cases Zfrm with
  | false => simp
  | true =>
  cases Zupto with
  | false => simp
  | true =>
  cases eq with
  | true => simp
  | false =>
  cases row with
  | true => simp
  | false =>
  cases K with
  | false => simp
  | true =>
  cases VV with
  | true => simp
  | false =>
  cases G <;> cases A <;> simp
set_option maxHeartbeats 4000000 in
theorem one_law9 (f : FullI) (tables : List Int) (v size : Nat) (h : f.x.op = 9) : oneP f tables v size = oneR f tables v size := by
  obtain ⟨⟨op, node, mode, table, row, col, var, goes, eq, frm, upto, key, vals⟩, kt, vp⟩ := f
  simp only at h
  subst h
  have hs : sameB ⟨⟨9, node, mode, table, row, col, var, goes, eq, frm, upto, key, vals⟩, kt, vp⟩ = ((mode == 0) && ((table == 0) && ((!row) && ((col == 0) && ((var == 0) && ((goes == 0) && ((!eq) && ((frm == 0) && ((upto == 0) && ((kt.length : Int) == 0)))))))))) := by
    unfold sameB
    simp only [all2, Bool.and_true, sameP, samePl, bareU, bareF, opU]
    simp [nil_len, nil_map, Bool.and_assoc]
  unfold oneP oneR colP varP modeP keyQ
  rw [hs]
  simp only [ite_no]
  simp only [show hasP 9 116 = false from by decide, show hasP 9 107 = false from by decide, show hasP 9 114 = false from by decide, show hasP 9 109 = false from by decide, show hasP 9 99 = false from by decide, show hasP 9 118 = false from by decide, show hasP 9 111 = false from by decide, show hasP 9 101 = false from by decide, show hasP 9 102 = false from by decide, show hasP 9 117 = false from by decide, show hasP 9 49 = true from by decide, show hasP 9 50 = false from by decide, show hasP 9 110 = false from by decide, keyR, wantR, valsB, keyedP, valuesP, inP_not, pos_len, Bool.not_not]
  simp only [Int.reduceLT, Int.reduceLE, Int.reduceEq, decide_true, decide_false, Int.reduceBEq, or_self, ite_no, if_false, if_true, Bool.true_and, Bool.false_and, Bool.true_or, Bool.false_or, Bool.and_true, Bool.and_false, Bool.or_false, Bool.or_true, Bool.not_true, Bool.not_false, bne, ite_false, ite_true, false_or, or_false, true_or, or_true, Bool.false_eq_true]
  generalize goodR v kt = G
  generalize allGood v vp = A
  generalize ((kt.length : Int) == 0) = K
  generalize (decide (table < 0) || decide ((tables.length : Int) ≤ table)) = TT
  generalize (decide (col < 0) || decide (tabAt tables table ≤ col)) = CC
  generalize (decide (var < 0) || decide ((v : Int) ≤ var)) = VV
  generalize (decide (goes < 0) || decide ((size : Int) ≤ goes)) = OO
  generalize (mode == 0) = Zmode
  generalize (table == 0) = Ztable
  generalize (col == 0) = Zcol
  generalize (var == 0) = Zvar
  generalize (goes == 0) = Zgoes
  generalize (frm == 0) = Zfrm
  generalize (upto == 0) = Zupto
  cases Zmode with
  | false => simp
  | true =>
  cases Ztable with
  | false => simp
  | true =>
  cases Zcol with
  | false => simp
  | true =>
  cases Zvar with
  | false => simp
  | true =>
  cases Zgoes with
  | false => simp
  | true =>
  cases Zfrm with
  | false => simp
  | true =>
  cases Zupto with
  | false => simp
  | true =>
  cases eq with
  | true => simp
  | false =>
  cases row with
  | true => simp
  | false =>
  cases K with
  | false => simp
  | true =>
  cases G <;> cases A <;> simp
set_option maxHeartbeats 4000000 in
theorem one_law10 (f : FullI) (tables : List Int) (v size : Nat) (h : f.x.op = 10) : oneP f tables v size = oneR f tables v size := by
  obtain ⟨⟨op, node, mode, table, row, col, var, goes, eq, frm, upto, key, vals⟩, kt, vp⟩ := f
  simp only at h
  subst h
  have hs : sameB ⟨⟨10, node, mode, table, row, col, var, goes, eq, frm, upto, key, vals⟩, kt, vp⟩ = ((mode == 0) && ((table == 0) && ((!row) && ((col == 0) && ((var == 0) && ((!eq) && ((frm == 0) && ((upto == 0) && (((kt.length : Int) == 0) && ((vp.length : Int) == 0)))))))))) := by
    unfold sameB
    simp only [all2, Bool.and_true, sameP, samePl, bareU, bareF, opU]
    simp [nil_len, nil_map, Bool.and_assoc]
  unfold oneP oneR colP varP modeP keyQ
  rw [hs]
  simp only [ite_no]
  simp only [show hasP 10 116 = false from by decide, show hasP 10 107 = false from by decide, show hasP 10 114 = false from by decide, show hasP 10 109 = false from by decide, show hasP 10 99 = false from by decide, show hasP 10 118 = false from by decide, show hasP 10 111 = true from by decide, show hasP 10 101 = false from by decide, show hasP 10 102 = false from by decide, show hasP 10 117 = false from by decide, show hasP 10 49 = false from by decide, show hasP 10 50 = false from by decide, show hasP 10 110 = false from by decide, keyR, wantR, valsB, keyedP, valuesP, inP_not, pos_len, Bool.not_not]
  simp only [Int.reduceLT, Int.reduceLE, Int.reduceEq, decide_true, decide_false, Int.reduceBEq, or_self, ite_no, if_false, if_true, Bool.true_and, Bool.false_and, Bool.true_or, Bool.false_or, Bool.and_true, Bool.and_false, Bool.or_false, Bool.or_true, Bool.not_true, Bool.not_false, bne, ite_false, ite_true, false_or, or_false, true_or, or_true, Bool.false_eq_true]
  generalize goodR v kt = G
  generalize allGood v vp = A
  generalize ((kt.length : Int) == 0) = K
  generalize (decide (table < 0) || decide ((tables.length : Int) ≤ table)) = TT
  generalize (decide (col < 0) || decide (tabAt tables table ≤ col)) = CC
  generalize (decide (var < 0) || decide ((v : Int) ≤ var)) = VV
  generalize (decide (goes < 0) || decide ((size : Int) ≤ goes)) = OO
  generalize (mode == 0) = Zmode
  generalize (table == 0) = Ztable
  generalize (col == 0) = Zcol
  generalize (var == 0) = Zvar
  generalize (frm == 0) = Zfrm
  generalize (upto == 0) = Zupto
  generalize ((vp.length : Int) == 0) = V0
  cases Zmode with
  | false => simp
  | true =>
  cases Ztable with
  | false => simp
  | true =>
  cases Zcol with
  | false => simp
  | true =>
  cases Zvar with
  | false => simp
  | true =>
  cases Zfrm with
  | false => simp
  | true =>
  cases Zupto with
  | false => simp
  | true =>
  cases eq with
  | true => simp
  | false =>
  cases row with
  | true => simp
  | false =>
  cases V0 with
  | false => simp
  | true =>
  cases K with
  | false => simp
  | true =>
  cases OO with
  | true => simp
  | false =>
  cases G <;> cases A <;> simp
set_option maxHeartbeats 4000000 in
theorem one_law11 (f : FullI) (tables : List Int) (v size : Nat) (h : f.x.op = 11) : oneP f tables v size = oneR f tables v size := by
  obtain ⟨⟨op, node, mode, table, row, col, var, goes, eq, frm, upto, key, vals⟩, kt, vp⟩ := f
  simp only at h
  subst h
  have hs : sameB ⟨⟨11, node, mode, table, row, col, var, goes, eq, frm, upto, key, vals⟩, kt, vp⟩ = ((mode == 0) && ((table == 0) && ((!row) && ((col == 0) && ((var == 0) && ((frm == 0) && ((upto == 0) && ((kt.length : Int) == 0)))))))) := by
    unfold sameB
    simp only [all2, Bool.and_true, sameP, samePl, bareU, bareF, opU]
    simp [nil_len, nil_map, Bool.and_assoc]
  unfold oneP oneR colP varP modeP keyQ
  rw [hs]
  simp only [ite_no]
  simp only [show hasP 11 116 = false from by decide, show hasP 11 107 = false from by decide, show hasP 11 114 = false from by decide, show hasP 11 109 = false from by decide, show hasP 11 99 = false from by decide, show hasP 11 118 = false from by decide, show hasP 11 111 = true from by decide, show hasP 11 101 = true from by decide, show hasP 11 102 = false from by decide, show hasP 11 117 = false from by decide, show hasP 11 49 = false from by decide, show hasP 11 50 = true from by decide, show hasP 11 110 = false from by decide, keyR, wantR, valsB, keyedP, valuesP, inP_not, pos_len, Bool.not_not]
  simp only [Int.reduceLT, Int.reduceLE, Int.reduceEq, decide_true, decide_false, Int.reduceBEq, or_self, ite_no, if_false, if_true, Bool.true_and, Bool.false_and, Bool.true_or, Bool.false_or, Bool.and_true, Bool.and_false, Bool.or_false, Bool.or_true, Bool.not_true, Bool.not_false, bne, ite_false, ite_true, false_or, or_false, true_or, or_true, Bool.false_eq_true]
  generalize goodR v kt = G
  generalize allGood v vp = A
  generalize ((kt.length : Int) == 0) = K
  generalize (decide (table < 0) || decide ((tables.length : Int) ≤ table)) = TT
  generalize (decide (col < 0) || decide (tabAt tables table ≤ col)) = CC
  generalize (decide (var < 0) || decide ((v : Int) ≤ var)) = VV
  generalize (decide (goes < 0) || decide ((size : Int) ≤ goes)) = OO
  generalize (mode == 0) = Zmode
  generalize (table == 0) = Ztable
  generalize (col == 0) = Zcol
  generalize (var == 0) = Zvar
  generalize (frm == 0) = Zfrm
  generalize (upto == 0) = Zupto
  cases Zmode with
  | false => simp
  | true =>
  cases Ztable with
  | false => simp
  | true =>
  cases Zcol with
  | false => simp
  | true =>
  cases Zvar with
  | false => simp
  | true =>
  cases Zfrm with
  | false => simp
  | true =>
  cases Zupto with
  | false => simp
  | true =>
  cases row with
  | true => simp
  | false =>
  cases K with
  | false => simp
  | true =>
  cases OO with
  | true => simp
  | false =>
  cases G <;> cases A <;> simp
set_option maxHeartbeats 4000000 in
theorem one_law12 (f : FullI) (tables : List Int) (v size : Nat) (h : f.x.op = 12) : oneP f tables v size = oneR f tables v size := by
  obtain ⟨⟨op, node, mode, table, row, col, var, goes, eq, frm, upto, key, vals⟩, kt, vp⟩ := f
  simp only at h
  subst h
  have hs : sameB ⟨⟨12, node, mode, table, row, col, var, goes, eq, frm, upto, key, vals⟩, kt, vp⟩ = ((mode == 0) && ((table == 0) && ((!row) && ((col == 0) && ((!eq) && (((kt.length : Int) == 0) && ((vp.length : Int) == 0))))))) := by
    unfold sameB
    simp only [all2, Bool.and_true, sameP, samePl, bareU, bareF, opU]
    simp [nil_len, nil_map, Bool.and_assoc]
  unfold oneP oneR colP varP modeP keyQ
  rw [hs]
  simp only [ite_no]
  simp only [show hasP 12 116 = false from by decide, show hasP 12 107 = false from by decide, show hasP 12 114 = false from by decide, show hasP 12 109 = false from by decide, show hasP 12 99 = false from by decide, show hasP 12 118 = true from by decide, show hasP 12 111 = true from by decide, show hasP 12 101 = false from by decide, show hasP 12 102 = true from by decide, show hasP 12 117 = true from by decide, show hasP 12 49 = false from by decide, show hasP 12 50 = false from by decide, show hasP 12 110 = false from by decide, keyR, wantR, valsB, keyedP, valuesP, inP_not, pos_len, Bool.not_not]
  simp only [Int.reduceLT, Int.reduceLE, Int.reduceEq, decide_true, decide_false, Int.reduceBEq, or_self, ite_no, if_false, if_true, Bool.true_and, Bool.false_and, Bool.true_or, Bool.false_or, Bool.and_true, Bool.and_false, Bool.or_false, Bool.or_true, Bool.not_true, Bool.not_false, bne, ite_false, ite_true, false_or, or_false, true_or, or_true, Bool.false_eq_true]
  generalize goodR v kt = G
  generalize allGood v vp = A
  generalize ((kt.length : Int) == 0) = K
  generalize (decide (table < 0) || decide ((tables.length : Int) ≤ table)) = TT
  generalize (decide (col < 0) || decide (tabAt tables table ≤ col)) = CC
  generalize (decide (var < 0) || decide ((v : Int) ≤ var)) = VV
  generalize (decide (goes < 0) || decide ((size : Int) ≤ goes)) = OO
  generalize (mode == 0) = Zmode
  generalize (table == 0) = Ztable
  generalize (col == 0) = Zcol
  generalize ((vp.length : Int) == 0) = V0
  cases Zmode with
  | false => simp
  | true =>
  cases Ztable with
  | false => simp
  | true =>
  cases Zcol with
  | false => simp
  | true =>
  cases eq with
  | true => simp
  | false =>
  cases row with
  | true => simp
  | false =>
  cases V0 with
  | false => simp
  | true =>
  cases K with
  | false => simp
  | true =>
  cases VV with
  | true => simp
  | false =>
  cases OO with
  | true => simp
  | false =>
  cases G <;> cases A <;> simp
set_option maxHeartbeats 4000000 in
theorem one_law13 (f : FullI) (tables : List Int) (v size : Nat) (h : f.x.op = 13) : oneP f tables v size = oneR f tables v size := by
  obtain ⟨⟨op, node, mode, table, row, col, var, goes, eq, frm, upto, key, vals⟩, kt, vp⟩ := f
  simp only at h
  subst h
  have hs : sameB ⟨⟨13, node, mode, table, row, col, var, goes, eq, frm, upto, key, vals⟩, kt, vp⟩ = ((mode == 0) && ((table == 0) && ((!row) && ((col == 0) && ((!eq) && ((frm == 0) && (((kt.length : Int) == 0) && ((vp.length : Int) == 0)))))))) := by
    unfold sameB
    simp only [all2, Bool.and_true, sameP, samePl, bareU, bareF, opU]
    simp [nil_len, nil_map, Bool.and_assoc]
  unfold oneP oneR colP varP modeP keyQ
  rw [hs]
  simp only [ite_no]
  simp only [show hasP 13 116 = false from by decide, show hasP 13 107 = false from by decide, show hasP 13 114 = false from by decide, show hasP 13 109 = false from by decide, show hasP 13 99 = false from by decide, show hasP 13 118 = true from by decide, show hasP 13 111 = true from by decide, show hasP 13 101 = false from by decide, show hasP 13 102 = false from by decide, show hasP 13 117 = true from by decide, show hasP 13 49 = false from by decide, show hasP 13 50 = false from by decide, show hasP 13 110 = false from by decide, keyR, wantR, valsB, keyedP, valuesP, inP_not, pos_len, Bool.not_not]
  simp only [Int.reduceLT, Int.reduceLE, Int.reduceEq, decide_true, decide_false, Int.reduceBEq, or_self, ite_no, if_false, if_true, Bool.true_and, Bool.false_and, Bool.true_or, Bool.false_or, Bool.and_true, Bool.and_false, Bool.or_false, Bool.or_true, Bool.not_true, Bool.not_false, bne, ite_false, ite_true, false_or, or_false, true_or, or_true, Bool.false_eq_true]
  generalize goodR v kt = G
  generalize allGood v vp = A
  generalize ((kt.length : Int) == 0) = K
  generalize (decide (table < 0) || decide ((tables.length : Int) ≤ table)) = TT
  generalize (decide (col < 0) || decide (tabAt tables table ≤ col)) = CC
  generalize (decide (var < 0) || decide ((v : Int) ≤ var)) = VV
  generalize (decide (goes < 0) || decide ((size : Int) ≤ goes)) = OO
  generalize (mode == 0) = Zmode
  generalize (table == 0) = Ztable
  generalize (col == 0) = Zcol
  generalize (frm == 0) = Zfrm
  generalize ((vp.length : Int) == 0) = V0
  cases Zmode with
  | false => simp
  | true =>
  cases Ztable with
  | false => simp
  | true =>
  cases Zcol with
  | false => simp
  | true =>
  cases Zfrm with
  | false => simp
  | true =>
  cases eq with
  | true => simp
  | false =>
  cases row with
  | true => simp
  | false =>
  cases V0 with
  | false => simp
  | true =>
  cases K with
  | false => simp
  | true =>
  cases VV with
  | true => simp
  | false =>
  cases OO with
  | true => simp
  | false =>
  cases G <;> cases A <;> simp
set_option maxHeartbeats 4000000 in
theorem one_law14 (f : FullI) (tables : List Int) (v size : Nat) (h : f.x.op = 14) : oneP f tables v size = oneR f tables v size := by
  obtain ⟨⟨op, node, mode, table, row, col, var, goes, eq, frm, upto, key, vals⟩, kt, vp⟩ := f
  simp only at h
  subst h
  have hs : sameB ⟨⟨14, node, mode, table, row, col, var, goes, eq, frm, upto, key, vals⟩, kt, vp⟩ = ((mode == 0) && ((table == 0) && ((!row) && ((col == 0) && ((var == 0) && ((goes == 0) && ((!eq) && ((frm == 0) && ((upto == 0) && (((kt.length : Int) == 0) && ((vp.length : Int) == 0))))))))))) := by
    unfold sameB
    simp only [all2, Bool.and_true, sameP, samePl, bareU, bareF, opU]
    simp [nil_len, nil_map, Bool.and_assoc]
  unfold oneP oneR colP varP modeP keyQ
  rw [hs]
  simp only [ite_no]
  simp only [show hasP 14 116 = false from by decide, show hasP 14 107 = false from by decide, show hasP 14 114 = false from by decide, show hasP 14 109 = false from by decide, show hasP 14 99 = false from by decide, show hasP 14 118 = false from by decide, show hasP 14 111 = false from by decide, show hasP 14 101 = false from by decide, show hasP 14 102 = false from by decide, show hasP 14 117 = false from by decide, show hasP 14 49 = false from by decide, show hasP 14 50 = false from by decide, show hasP 14 110 = false from by decide, keyR, wantR, valsB, keyedP, valuesP, inP_not, pos_len, Bool.not_not]
  simp only [Int.reduceLT, Int.reduceLE, Int.reduceEq, decide_true, decide_false, Int.reduceBEq, or_self, ite_no, if_false, if_true, Bool.true_and, Bool.false_and, Bool.true_or, Bool.false_or, Bool.and_true, Bool.and_false, Bool.or_false, Bool.or_true, Bool.not_true, Bool.not_false, bne, ite_false, ite_true, false_or, or_false, true_or, or_true, Bool.false_eq_true]
  generalize goodR v kt = G
  generalize allGood v vp = A
  generalize ((kt.length : Int) == 0) = K
  generalize (decide (table < 0) || decide ((tables.length : Int) ≤ table)) = TT
  generalize (decide (col < 0) || decide (tabAt tables table ≤ col)) = CC
  generalize (decide (var < 0) || decide ((v : Int) ≤ var)) = VV
  generalize (decide (goes < 0) || decide ((size : Int) ≤ goes)) = OO
  generalize (mode == 0) = Zmode
  generalize (table == 0) = Ztable
  generalize (col == 0) = Zcol
  generalize (var == 0) = Zvar
  generalize (goes == 0) = Zgoes
  generalize (frm == 0) = Zfrm
  generalize (upto == 0) = Zupto
  generalize ((vp.length : Int) == 0) = V0
  cases Zmode with
  | false => simp
  | true =>
  cases Ztable with
  | false => simp
  | true =>
  cases Zcol with
  | false => simp
  | true =>
  cases Zvar with
  | false => simp
  | true =>
  cases Zgoes with
  | false => simp
  | true =>
  cases Zfrm with
  | false => simp
  | true =>
  cases Zupto with
  | false => simp
  | true =>
  cases eq with
  | true => simp
  | false =>
  cases row with
  | true => simp
  | false =>
  cases V0 with
  | false => simp
  | true =>
  cases K with
  | false => simp
  | true =>
  cases G <;> cases A <;> simp
set_option maxHeartbeats 4000000 in
theorem one_law15 (f : FullI) (tables : List Int) (v size : Nat) (h : f.x.op = 15) : oneP f tables v size = oneR f tables v size := by
  obtain ⟨⟨op, node, mode, table, row, col, var, goes, eq, frm, upto, key, vals⟩, kt, vp⟩ := f
  simp only at h
  subst h
  have hs : sameB ⟨⟨15, node, mode, table, row, col, var, goes, eq, frm, upto, key, vals⟩, kt, vp⟩ = ((mode == 0) && ((table == 0) && ((!row) && ((col == 0) && ((var == 0) && ((goes == 0) && ((!eq) && ((frm == 0) && ((upto == 0) && (((kt.length : Int) == 0) && ((vp.length : Int) == 0))))))))))) := by
    unfold sameB
    simp only [all2, Bool.and_true, sameP, samePl, bareU, bareF, opU]
    simp [nil_len, nil_map, Bool.and_assoc]
  unfold oneP oneR colP varP modeP keyQ
  rw [hs]
  simp only [ite_no]
  simp only [show hasP 15 116 = false from by decide, show hasP 15 107 = false from by decide, show hasP 15 114 = false from by decide, show hasP 15 109 = false from by decide, show hasP 15 99 = false from by decide, show hasP 15 118 = false from by decide, show hasP 15 111 = false from by decide, show hasP 15 101 = false from by decide, show hasP 15 102 = false from by decide, show hasP 15 117 = false from by decide, show hasP 15 49 = false from by decide, show hasP 15 50 = false from by decide, show hasP 15 110 = false from by decide, keyR, wantR, valsB, keyedP, valuesP, inP_not, pos_len, Bool.not_not]
  simp only [Int.reduceLT, Int.reduceLE, Int.reduceEq, decide_true, decide_false, Int.reduceBEq, or_self, ite_no, if_false, if_true, Bool.true_and, Bool.false_and, Bool.true_or, Bool.false_or, Bool.and_true, Bool.and_false, Bool.or_false, Bool.or_true, Bool.not_true, Bool.not_false, bne, ite_false, ite_true, false_or, or_false, true_or, or_true, Bool.false_eq_true]
  generalize goodR v kt = G
  generalize allGood v vp = A
  generalize ((kt.length : Int) == 0) = K
  generalize (decide (table < 0) || decide ((tables.length : Int) ≤ table)) = TT
  generalize (decide (col < 0) || decide (tabAt tables table ≤ col)) = CC
  generalize (decide (var < 0) || decide ((v : Int) ≤ var)) = VV
  generalize (decide (goes < 0) || decide ((size : Int) ≤ goes)) = OO
  generalize (mode == 0) = Zmode
  generalize (table == 0) = Ztable
  generalize (col == 0) = Zcol
  generalize (var == 0) = Zvar
  generalize (goes == 0) = Zgoes
  generalize (frm == 0) = Zfrm
  generalize (upto == 0) = Zupto
  generalize ((vp.length : Int) == 0) = V0
  cases Zmode with
  | false => simp
  | true =>
  cases Ztable with
  | false => simp
  | true =>
  cases Zcol with
  | false => simp
  | true =>
  cases Zvar with
  | false => simp
  | true =>
  cases Zgoes with
  | false => simp
  | true =>
  cases Zfrm with
  | false => simp
  | true =>
  cases Zupto with
  | false => simp
  | true =>
  cases eq with
  | true => simp
  | false =>
  cases row with
  | true => simp
  | false =>
  cases V0 with
  | false => simp
  | true =>
  cases K with
  | false => simp
  | true =>
  cases G <;> cases A <;> simp
set_option maxHeartbeats 4000000 in
theorem one_law16 (f : FullI) (tables : List Int) (v size : Nat) (h : f.x.op = 16) : oneP f tables v size = oneR f tables v size := by
  obtain ⟨⟨op, node, mode, table, row, col, var, goes, eq, frm, upto, key, vals⟩, kt, vp⟩ := f
  simp only at h
  subst h
  have hs : sameB ⟨⟨16, node, mode, table, row, col, var, goes, eq, frm, upto, key, vals⟩, kt, vp⟩ = ((mode == 0) && ((table == 0) && ((!row) && ((col == 0) && ((var == 0) && ((goes == 0) && ((!eq) && ((frm == 0) && ((upto == 0) && (((kt.length : Int) == 0) && ((vp.length : Int) == 0))))))))))) := by
    unfold sameB
    simp only [all2, Bool.and_true, sameP, samePl, bareU, bareF, opU]
    simp [nil_len, nil_map, Bool.and_assoc]
  unfold oneP oneR colP varP modeP keyQ
  rw [hs]
  simp only [ite_no]
  simp only [show hasP 16 116 = false from by decide, show hasP 16 107 = false from by decide, show hasP 16 114 = false from by decide, show hasP 16 109 = false from by decide, show hasP 16 99 = false from by decide, show hasP 16 118 = false from by decide, show hasP 16 111 = false from by decide, show hasP 16 101 = false from by decide, show hasP 16 102 = false from by decide, show hasP 16 117 = false from by decide, show hasP 16 49 = false from by decide, show hasP 16 50 = false from by decide, show hasP 16 110 = false from by decide, keyR, wantR, valsB, keyedP, valuesP, inP_not, pos_len, Bool.not_not]
  simp only [Int.reduceLT, Int.reduceLE, Int.reduceEq, decide_true, decide_false, Int.reduceBEq, or_self, ite_no, if_false, if_true, Bool.true_and, Bool.false_and, Bool.true_or, Bool.false_or, Bool.and_true, Bool.and_false, Bool.or_false, Bool.or_true, Bool.not_true, Bool.not_false, bne, ite_false, ite_true, false_or, or_false, true_or, or_true, Bool.false_eq_true]
  generalize goodR v kt = G
  generalize allGood v vp = A
  generalize ((kt.length : Int) == 0) = K
  generalize (decide (table < 0) || decide ((tables.length : Int) ≤ table)) = TT
  generalize (decide (col < 0) || decide (tabAt tables table ≤ col)) = CC
  generalize (decide (var < 0) || decide ((v : Int) ≤ var)) = VV
  generalize (decide (goes < 0) || decide ((size : Int) ≤ goes)) = OO
  generalize (mode == 0) = Zmode
  generalize (table == 0) = Ztable
  generalize (col == 0) = Zcol
  generalize (var == 0) = Zvar
  generalize (goes == 0) = Zgoes
  generalize (frm == 0) = Zfrm
  generalize (upto == 0) = Zupto
  generalize ((vp.length : Int) == 0) = V0
  cases Zmode with
  | false => simp
  | true =>
  cases Ztable with
  | false => simp
  | true =>
  cases Zcol with
  | false => simp
  | true =>
  cases Zvar with
  | false => simp
  | true =>
  cases Zgoes with
  | false => simp
  | true =>
  cases Zfrm with
  | false => simp
  | true =>
  cases Zupto with
  | false => simp
  | true =>
  cases eq with
  | true => simp
  | false =>
  cases row with
  | true => simp
  | false =>
  cases V0 with
  | false => simp
  | true =>
  cases K with
  | false => simp
  | true =>
  cases G <;> cases A <;> simp

theorem one_law (f : FullI) (tables : List Int) (v size : Nat) : oneP f tables v size = oneR f tables v size := by
  by_cases h : f.x.op < 1 ∨ 16 < f.x.op
  · unfold oneP oneR
    rw [if_pos h, if_pos h]
  · rcases ops16 (op := f.x.op) (by omega) (by omega) with h | h | h | h | h | h | h | h | h | h | h | h | h | h | h | h
    · exact one_law1 f tables v size h
    · exact one_law2 f tables v size h
    · exact one_law3 f tables v size h
    · exact one_law4 f tables v size h
    · exact one_law5 f tables v size h
    · exact one_law6 f tables v size h
    · exact one_law7 f tables v size h
    · exact one_law8 f tables v size h
    · exact one_law9 f tables v size h
    · exact one_law10 f tables v size h
    · exact one_law11 f tables v size h
    · exact one_law12 f tables v size h
    · exact one_law13 f tables v size h
    · exact one_law14 f tables v size h
    · exact one_law15 f tables v size h
    · exact one_law16 f tables v size h
theorem jump_o (op : Int) : hasP op 111 = (decide (10 ≤ op) && decide (op ≤ 13)) := by
  by_cases h : op < 1 ∨ 16 < op
  · have : partS op = ⟨#[]⟩ := by
      unfold partS
      by_cases h0 : op < 1
      · by_cases h1 : op.toNat = 0
        · rw [h1]; rfl
        · omega
      · rw [List.getD_eq_getElem?_getD, List.getElem?_eq_none (by show 17 ≤ _; omega)]; rfl
    unfold hasP
    rw [this]
    symm
    rw [show hasB ⟨#[]⟩ 111 = false from rfl, Bool.and_eq_false_iff, decide_eq_false_iff_not, decide_eq_false_iff_not]
    omega
  · rcases ops16 (op := op) (by omega) (by omega) with rfl | rfl | rfl | rfl | rfl | rfl | rfl | rfl | rfl | rfl | rfl | rfl | rfl | rfl | rfl | rfl <;> decide
theorem all_range {n : Nat} {p : Nat → Bool} : (List.range n).all p = true ↔ ∀ k, k < n → p k = true := by
  rw [List.all_eq_true]
  exact ⟨fun h k hk => h k (List.mem_range.2 hk), fun h k hk => h k (List.mem_range.1 hk)⟩
/-- Which instructions a jump goes over. -/
theorem piece_iff (l : List FullI) (i : Nat) (t : Int) (hi : i < l.length) (h0 : 0 ≤ t) (h1 : t < (l.length : Int)) : pieceIn l i t = true ↔ ∃ k, ∃ hk : k < l.length, l[k].x.op = 15 ∧ ((i ≤ k ∧ (k : Int) < t) ∨ (t ≤ (k : Int) ∧ k ≤ i)) := by
  obtain ⟨t, rfl⟩ : ∃ n : Nat, t = (n : Int) := ⟨t.toNat, by omega⟩
  unfold pieceIn loQ hiQ
  rw [List.any_eq_true]
  constructor
  · rintro ⟨f, hf, hb⟩
    obtain ⟨j, hj, rfl⟩ := List.getElem_of_mem hf
    rw [List.length_take, List.length_drop] at hj
    rw [List.getElem_take, List.getElem_drop, beq_iff_eq] at hb
    refine ⟨_, _, hb, ?_⟩
    split at hj <;> split <;> simp only [Int.toNat_natCast] at * <;> omega
  · rintro ⟨k, hk, h15, h⟩
    by_cases hit : (i : Int) < (t : Int)
    · rw [if_pos hit, if_pos hit, Int.toNat_natCast]
      have hm : k - i < ((l.drop i).take (t - i)).length := by rw [List.length_take, List.length_drop]; omega
      refine ⟨_, List.getElem_mem hm, ?_⟩
      rw [List.getElem_take, List.getElem_drop, beq_iff_eq]
      have e : i + (k - i) = k := by omega
      simp only [e]
      exact h15
    · rw [if_neg hit, if_neg hit, Int.toNat_natCast]
      have hm : k - t < ((l.drop t).take (i + 1 - t)).length := by rw [List.length_take, List.length_drop]; omega
      refine ⟨_, List.getElem_mem hm, ?_⟩
      rw [List.getElem_take, List.getElem_drop, beq_iff_eq]
      have e : t + (k - t) = k := by omega
      simp only [e]
      exact h15
theorem right_law (l : List FullI) (tables : List Int) (vars : Int) : rightP l tables vars = rightD l tables vars := by
  unfold rightP rightD
  congr 1
  congr 1
  rw [Bool.eq_iff_iff, Bool.and_eq_true, all_range, all_range, all_range]
  constructor
  · rintro ⟨hA, hB⟩ k hk
    have hk1 := hA k hk
    unfold okD
    unfold okP1 at hk1
    rw [List.getElem?_eq_getElem hk] at hk1 ⊢
    dsimp only at hk1 ⊢
    unfold okP1F at hk1
    unfold okF
    rw [one_law, Bool.and_eq_true] at hk1
    rw [hk1.1, hk1.2]
    simp only [Bool.true_and, Bool.or_eq_true, Bool.not_eq_true', beq_eq_false_iff_ne, all_range]
    by_cases h15 : l[k].x.op = 15
    · refine .inr fun j hj => ?_
      unfold crossD
      rw [List.getElem?_eq_getElem hj]
      dsimp only
      unfold crossG
      rw [jump_o]
      have hj1 := hA j hj
      have hj2 := hB j hj
      unfold okP1 at hj1
      unfold okP2 at hj2
      rw [List.getElem?_eq_getElem hj] at hj1 hj2
      dsimp only at hj1 hj2
      unfold okP1F at hj1
      rw [Bool.and_eq_true] at hj1
      by_cases hb : 10 ≤ l[j].x.op ∧ l[j].x.op ≤ 13
      · have hg := goes_in hj1.1 hb.1 hb.2
        rw [decide_eq_true hb.1, decide_eq_true hb.2] at hj2 ⊢
        simp only [Bool.and_self, Bool.not_true, Bool.false_or, Bool.not_eq_true', Bool.true_and] at hj2 ⊢
        have hn := mt (piece_iff l j l[j].x.goes hj hg.1 hg.2).2 (by rw [hj2]; exact Bool.false_ne_true)
        rw [Bool.or_eq_false_iff, Bool.and_eq_false_iff, Bool.and_eq_false_iff, decide_eq_false_iff_not, decide_eq_false_iff_not, decide_eq_false_iff_not, decide_eq_false_iff_not]
        refine ⟨?_, ?_⟩
        · by_cases a : j < k
          · exact .inr fun b => hn ⟨k, hk, h15, .inl ⟨by omega, b⟩⟩
          · exact .inl a
        · by_cases a : k < j
          · exact .inr fun b => hn ⟨k, hk, h15, .inr ⟨b, by omega⟩⟩
          · exact .inl a
      · have : (decide (10 ≤ l[j].x.op) && decide (l[j].x.op ≤ 13)) = false := by
          rw [Bool.and_eq_false_iff, decide_eq_false_iff_not, decide_eq_false_iff_not]; omega
        rw [this]
        rfl
    · exact .inl h15
  · intro h
    have h1 : ∀ k, k < l.length → okP1 l tables vars.toNat k = true := fun k hk => by
      have hk1 := h k hk
      unfold okD at hk1
      unfold okP1
      rw [List.getElem?_eq_getElem hk] at hk1 ⊢
      dsimp only at hk1 ⊢
      unfold okF at hk1
      unfold okP1F
      rw [Bool.and_eq_true, Bool.and_eq_true] at hk1
      rw [one_law, hk1.1, hk1.2.1]
      rfl
    refine ⟨h1, fun j hj => ?_⟩
    have hj1 := h1 j hj
    unfold okP1 at hj1
    unfold okP2
    rw [List.getElem?_eq_getElem hj] at hj1 ⊢
    dsimp only at hj1 ⊢
    unfold okP1F at hj1
    rw [Bool.and_eq_true] at hj1
    by_cases hb : 10 ≤ l[j].x.op ∧ l[j].x.op ≤ 13
    · have hg := goes_in hj1.1 hb.1 hb.2
      rw [decide_eq_true hb.1, decide_eq_true hb.2]
      simp only [Bool.and_self, Bool.not_true, Bool.false_or, Bool.not_eq_true']
      rw [← Bool.not_eq_true]
      intro hp
      obtain ⟨k, hk, h15, hc⟩ := (piece_iff l j l[j].x.goes hj hg.1 hg.2).1 hp
      have hk1 := h k hk
      unfold okD at hk1
      rw [List.getElem?_eq_getElem hk] at hk1
      dsimp only at hk1
      unfold okF at hk1
      rw [Bool.and_eq_true, Bool.and_eq_true] at hk1
      have hk2 := hk1.2.2
      rw [h15] at hk2
      simp only [beq_self_eq_true, Bool.not_true, Bool.false_or, all_range] at hk2
      have hx := hk2 j hj
      unfold crossD at hx
      rw [List.getElem?_eq_getElem hj] at hx
      dsimp only at hx
      unfold crossG at hx
      rw [jump_o, decide_eq_true hb.1, decide_eq_true hb.2] at hx
      simp only [Bool.and_self, Bool.true_and, Bool.not_eq_true'] at hx
      rw [Bool.or_eq_false_iff, Bool.and_eq_false_iff, Bool.and_eq_false_iff, decide_eq_false_iff_not, decide_eq_false_iff_not, decide_eq_false_iff_not, decide_eq_false_iff_not] at hx
      have hne : k ≠ j := fun e => by subst e; omega
      rcases hc with ⟨a, b⟩ | ⟨a, b⟩
      · rcases hx.1 with c | c
        · omega
        · exact c b
      · rcases hx.2 with c | c
        · omega
        · exact c a
    · have : (decide (10 ≤ l[j].x.op) && decide (l[j].x.op ≤ 13)) = false := by
        rw [Bool.and_eq_false_iff, decide_eq_false_iff_not, decide_eq_false_iff_not]; omega
      rw [this]
      rfl
end Go.Proofs.Ytngbpaiohfokbaa
