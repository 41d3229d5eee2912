/- What a source's tree is, as plain Lean: a reading of tokens, with nodes as they come; one reading for the program and for the document. No condition. -/
import Derived.Test.YtcccnicldbpieaaGreatDoorLxL
namespace Go.Proofs.YtcccnicldbpieaaGreatDoor
set_option linter.unusedVariables false
set_option linter.unusedSimpArgs false
structure Nd where
  kind : Nat
  pos : Nat
  text : Bs
  num : Int
  kids : List Nat
  deriving DecidableEq
structure Ps where
  ts : List Tok
  nd : List Nd
  deep : Nat
  deriving DecidableEq
inductive Res (α : Type) where
  | ok (a : α) (s : Ps)
  | err (e : Int) (at_ : Nat)
  deriving DecidableEq
def Res.bind {α β : Type} : Res α → (α → Ps → Res β) → Res β
  | .ok a s, f => f a s
  | .err e p, _ => .err e p
theorem bind_ok {α β : Type} (a : α) (s : Ps) (f : α → Ps → Res β) : (Res.ok a s).bind f = f a s := rfl
theorem bind_err {α β : Type} (e : Int) (p : Nat) (f : α → Ps → Res β) : (Res.err e p).bind f = .err e p := rfl
abbrev Pm (α : Type) := Ps → Res α
def endTok : Tok := ⟨4, 0, 0, [], 0⟩
def Ps.hd (s : Ps) : Tok := s.ts.headD endTok
def Ps.adv (s : Ps) : Ps := { s with ts := s.ts.tail }
def isP (t : Bs) (s : Ps) : Bool := (s.hd.kind != 4 && s.hd.kind != 2) && s.hd.text == t
def failP {α : Type} (e : Int) : Pm α := fun s => .err e s.hd.at_
def takeP (t : Bs) : Pm Unit := fun s => if isP t s = true then .ok () s.adv else .err 50 s.hd.at_
def ofP (k : Nat) : Pm Tok := fun s => if s.hd.kind = k then .ok s.hd s.adv else .err 50 s.hd.at_
def Ps.add (s : Ps) (n : Nd) : Ps := { s with nd := s.nd ++ [n] }
def Ps.on (s : Ps) (i : Nat) (f : Nd → Nd) : Ps := { s with nd := s.nd.modify i f }
def Ps.kid (s : Ps) (i : Nat) : Ps := s.on i fun n => { n with kids := n.kids ++ [s.nd.length] }
def Ps.node (s : Ps) (k : Nat) : Ps := s.add ⟨k, s.hd.at_, [], 0, []⟩
def Ps.text (s : Ps) (i : Nat) (t : Bs) : Ps := s.on i fun n => { n with text := t }
def Ps.num (s : Ps) (i : Nat) (x : Int) : Ps := s.on i fun n => { n with num := x }
def Ps.kind (s : Ps) (i : Nat) (k : Nat) : Ps := s.on i fun n => { n with kind := k }
def Ps.kidNode (s : Ps) (i k : Nat) : Ps := (s.kid i).node k
def namedP (i : Nat) : Pm Unit := fun s => (ofP 1 s).bind fun t s => .ok () (s.text i t.text)
def wordP (i : Nat) : Pm Unit := fun s => namedP s.nd.length (s.kidNode i 5)
def numAtP (i : Nat) : Pm Unit := fun s => (ofP 2 s).bind fun t s => .ok () (s.num i t.n)
def numberP (i : Nat) : Pm Unit := fun s => numAtP s.nd.length (s.kidNode i 21)
def withinP {α : Type} (a z : Bs) (body : Pm α) : Pm α := fun s =>
  if isP a s = true then
    if s.deep = 64 then .err 51 s.hd.at_
    else (body { s.adv with deep := s.deep + 1 }).bind fun x s =>
      if z = [] then .ok x { s with deep := s.deep - 1 }
      else (takeP z s).bind fun _ s => .ok x { s with deep := s.deep - 1 }
  else .err 50 s.hd.at_
/-! ### Expressions -/
inductive Ex where
  | leaf (kind pos : Nat) (text : Bs) (num : Int)
  | neg (pos : Nat) (a : Ex)
  | bin (kind pos : Nat) (a b : Ex)
  deriving DecidableEq
def Ex.pos : Ex → Nat
  | .leaf _ p _ _ => p
  | .neg p _ => p
  | .bin _ p _ _ => p
def starM : List (Bs × Nat) := [([42], 25)]
def plusM : List (Bs × Nat) := [([43], 23), ([45], 24)]
def markM (ms : List (Bs × Nat)) (s : Ps) : Option Nat := (ms.find? fun m => isP m.1 s).map Prod.snd
def chainL (ms : List (Bs × Nat)) (part : Pm Ex) : Nat → Ex → Pm Ex
  | 0, _, _ => .err 0 0
  | f + 1, e, s => match markM ms s with
    | none => .ok e s
    | some k => (part s.adv).bind fun r s => chainL ms part f (.bin k e.pos e r) s
def chainP (ms : List (Bs × Nat)) (part : Pm Ex) : Pm Ex := fun s => (part s).bind fun e s => chainL ms part (s.ts.length + 1) e s
def termOf (part : Pm Ex) : Pm Ex := chainP starM part
def sumOf (part : Pm Ex) : Pm Ex := chainP plusM (termOf part)
def factorP : Nat → Pm Ex
  | 0, _ => .err 0 0
  | f + 1, s =>
    if s.hd.kind = 1 then .ok (.leaf 22 s.hd.at_ s.hd.text 0) s.adv
    else if s.hd.kind = 2 then .ok (.leaf 21 s.hd.at_ [] s.hd.n) s.adv
    else if isP [45] s = true then (withinP [45] [] (factorP f) s).bind fun a t => .ok (.neg s.hd.at_ a) t
    else withinP [40] [41] (sumOf (factorP f)) s
def sumP : Pm Ex := fun s => sumOf (factorP s.ts.length) s
def putP (i : Nat) : Ex → Ps → Ps
  | .leaf k p t n, s => (s.kid i).add ⟨k, p, t, n, []⟩
  | .neg p a, s => putP s.nd.length a ((s.kid i).add ⟨26, p, [], 0, []⟩)
  | .bin k p a b, s => putP s.nd.length b (putP s.nd.length a ((s.kid i).add ⟨k, p, [], 0, []⟩))
def exprP (i : Nat) : Pm Unit := fun s => (sumP s).bind fun e s => .ok () (putP i e s)
/-! ### Statements -/
def moreP (one : Pm Unit) : Nat → Pm Unit
  | 0, _ => .err 0 0
  | f + 1, s => if isP [44] s = true then (one s.adv).bind fun _ s => moreP one f s else .ok () s
def listP (one : Pm Unit) : Pm Unit := fun s => (one s).bind fun _ s => moreP one (s.ts.length + 1) s
def keyP (i : Nat) : Pm Unit := withinP [91] [93] (exprP i)
def rowP (i : Nat) : Pm Unit := fun s => (namedP s.nd.length (s.kidNode i 20)).bind fun _ t => keyP s.nd.length t
def cellP (i : Nat) : Pm Unit := fun s => (rowP i s).bind fun _ s => (takeP [46] s).bind fun _ s => wordP i s
def untilP (st : Nat → Pm Unit) (i : Nat) : Nat → Pm Unit
  | 0, _ => .err 0 0
  | f + 1, s => if isP [125] s = true then .ok () s else (st i s).bind fun _ s => untilP st i f s
def blockOf (st : Nat → Pm Unit) (i : Nat) : Pm Unit := fun s => withinP [123] [125] (fun t => untilP st s.nd.length (t.ts.length + 1) t) (s.kidNode i 6)
def readP (i : Nat) : Pm Unit := fun s => (namedP i s).bind fun _ s => (takeP [61] s).bind fun _ s => (cellP i s).bind fun _ s =>
  if isP [102, 111, 114] s = true then (takeP [117, 112, 100, 97, 116, 101] s.adv).bind fun _ s => .ok () (s.num i 1) else .ok () s
def setP (i : Nat) : Pm Unit := fun s => (cellP i s).bind fun _ s => (takeP [61] s).bind fun _ s => exprP i s
def upsertP (i : Nat) : Pm Unit := fun s => (rowP i s).bind fun _ s => (takeP [40] s).bind fun _ s => (listP (exprP i) s).bind fun _ s => takeP [41] s
def scanP (i : Nat) : Pm Unit := fun s => (namedP i s).bind fun _ s => (takeP [61] s).bind fun _ s => (wordP i s).bind fun _ s => (takeP [46] s).bind fun _ s => wordP i s
def lockP (i : Nat) : Pm Unit := fun s => (wordP i s).bind fun _ s => if isP [97, 108, 108] s = true then .ok () (s.adv.num i 1) else takeP [115, 104, 97, 114, 101, 100] s
def releaseP (i : Nat) : Pm Unit := fun s => (namedP s.nd.length (s.kidNode i 5)).bind fun _ t => if isP [91] t = true then keyP s.nd.length (t.kind s.nd.length 20) else .ok () t
def lessP (i : Nat) : Pm Unit := fun s => if isP [61, 61] s = true then .ok () (s.adv.num i 1) else takeP [60] s
def elseOf (st : Nat → Pm Unit) (i : Nat) : Pm Unit := fun s => if isP [101, 108, 115, 101] s = true then blockOf st i s.adv else .ok () s
def branchOf (st : Nat → Pm Unit) (i : Nat) : Pm Unit := fun s => (exprP i s).bind fun _ s => (lessP i s).bind fun _ s => (exprP i s).bind fun _ s => (blockOf st i s).bind fun _ s => elseOf st i s
def loopOf (st : Nat → Pm Unit) (i : Nat) : Pm Unit := fun s => (namedP i s).bind fun _ s => (takeP [61] s).bind fun _ s => (numberP i s).bind fun _ s => (takeP [116, 111] s).bind fun _ s => (numberP i s).bind fun _ s => blockOf st i s
def letP (i : Nat) : Pm Unit := fun s => (namedP i s).bind fun _ s => (takeP [61] s).bind fun _ s => exprP i s
def noneP : Pm Unit := fun s => .ok () s
def formsL : List (Bs × Nat) := [([114, 101, 97, 100], 7), ([115, 101, 116], 8), ([112, 117, 116], 9), ([100, 101, 108, 101, 116, 101], 10), ([115, 99, 97, 110], 11), ([108, 111, 99, 107], 12), ([114, 101, 108, 101, 97, 115, 101], 13), ([105, 102], 14), ([102, 111, 114], 15), ([108, 101, 116], 16), ([101, 109, 105, 116], 17), ([114, 111, 108, 108, 98, 97, 99, 107], 18), ([99, 104, 111, 112], 19)]
def formOf (t : Bs) : Option Nat := (formsL.find? fun m => m.1 == t).map Prod.snd
def readsOf (st : Nat → Pm Unit) (k i : Nat) : Pm Unit :=
  if k = 7 then readP i else if k = 8 then setP i else if k = 9 then upsertP i else if k = 10 then rowP i else if k = 11 then scanP i
  else if k = 12 then lockP i else if k = 13 then releaseP i else if k = 14 then branchOf st i else if k = 15 then loopOf st i else if k = 16 then letP i
  else if k = 17 then exprP i else noneP
def stmtP : Nat → Nat → Pm Unit
  | 0, _, _ => .err 0 0
  | f + 1, i, s => match (if s.hd.kind = 1 then formOf s.hd.text else none) with
    | none => .err 50 s.hd.at_
    | some k => (readsOf (stmtP f) k s.nd.length (s.kidNode i k).adv).bind fun _ s => if k = 14 ∨ k = 15 then .ok () s else takeP [59] s
def blockP (i : Nat) : Pm Unit := fun s => blockOf (stmtP s.ts.length) i s
def tableP (i : Nat) : Pm Unit := fun s => (takeP [116, 97, 98, 108, 101] (s.kidNode i 2)).bind fun _ t => (namedP s.nd.length t).bind fun _ t => (takeP [40] t).bind fun _ t => (listP (wordP s.nd.length) t).bind fun _ t => (takeP [41] t).bind fun _ t => takeP [59] t
def namesP (i : Nat) : Pm Unit := fun s => let n := s.nd.length; let t := s.kidNode i 4; if isP [41] t = true then .ok () t else listP (wordP n) t
def singleP (i : Nat) : Pm Unit := fun s => if isP [115, 105, 110, 103, 108, 101] s = true then .ok () (s.adv.num i 1) else .ok () s
def procP (i : Nat) : Pm Unit := fun s => (takeP [112, 114, 111, 99] (s.kidNode i 3)).bind fun _ t => (namedP s.nd.length t).bind fun _ t => (takeP [40] t).bind fun _ t => (namesP s.nd.length t).bind fun _ t => (takeP [41] t).bind fun _ t =>
  (singleP s.nd.length t).bind fun _ t => blockP s.nd.length t
def wholeL : Nat → Pm Unit
  | 0, _ => .err 0 0
  | f + 1, s => if s.hd.kind = 4 then .ok () s
    else if isP [116, 97, 98, 108, 101] s = true then (tableP 0 s).bind fun _ s => wholeL f s
    else if isP [112, 114, 111, 99] s = true then (procP 0 s).bind fun _ s => wholeL f s
    else .err 50 s.hd.at_
def programP : Pm Unit := fun s => wholeL (s.ts.length + 1) (s.node 1)
inductive ParseR where
  | ok (l : List Nd)
  | err (at_ : Nat) (e : Int)
  deriving DecidableEq
def parseT (ts : List Tok) : ParseR := match programP ⟨ts, [], 0⟩ with
  | .ok _ s => .ok s.nd
  | .err e p => .err p e
def parseL (src : Bs) : ParseR := match (if 65536 < src.length then .err 0 3 else lexL 0 src : LexR) with
  | .ok ts => parseT ts
  | .err p e => .err p e
end Go.Proofs.YtcccnicldbpieaaGreatDoor
