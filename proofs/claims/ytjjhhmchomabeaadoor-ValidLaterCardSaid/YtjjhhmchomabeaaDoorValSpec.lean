/- What package valid reckons, told plainly: a function's check as a step over what lies on the stack and which blocks are open. -/
import Derived.Test.YtjjhhmchomabeaaDoorNestS
import Derived.Test.YtjjhhmchomabeaaDoorArity
namespace Go.Proofs.YtjjhhmchomabeaaDoor.Valid
open Go.RowKit Go.Proofs.YtjjhhmchomabeaaDoorW.PrintWords Go.Proofs.YtjjhhmchomabeaaDoorW.PrintLast Go.Proofs.YtjjhhmchomabeaaDoor.Mem Go.Proofs.YtjjhhmchomabeaaDoor.Nest
set_option linter.unusedVariables false
set_option linter.unusedSimpArgs false

abbrev Sg := List Int × List Int
abbrev Fn := Int × Bool × List Int × List T3
def zF : Fn := (0, false, [], [])
def zS : Sg := ([], [])
structure Md where
  sigs : List Sg
  imports : List Int
  funcs : List Fn
  m0 : Int
  m1 : Int
  globals : List (Int × Int)
  data : List (Int × Int × ByteArray)

def right (t : Int) : Bool := decide (0 ≤ t) && decide (t ≤ 3)
def wide (t : Int) : Bool := t == 1 || t == 3
def secret (t : Int) : Bool := t == 2 || t == 3
def ofL (w s : Bool) : Int := (if w then 1 else 0) + (if s then 2 else 0)
def flows (a b : Int) : Bool := right a && right b && (wide a == wide b) && (secret b || !secret a)
def joinL (a b : Int) : Int × Bool := if right a && right b && (wide a == wide b) then (ofL (wide a) (secret a || secret b), true) else (0, false)
def firstL (l : List Int) : Int := if l.length = 0 then -1 else rd l 0

/-- whose signature a call's number names: its place, whether it is the host's, whether it is trusted -/
def calleeN (M : Md) (n : Int) : Int × Bool × Bool :=
  if n < 0 ∨ (M.imports.length : Int) + M.funcs.length ≤ n then (-1, false, false)
  else if n < M.imports.length then (rd M.imports n, true, false)
  else ((M.funcs.getD (n - M.imports.length).toNat zF).1, false, (M.funcs.getD (n - M.imports.length).toNat zF).2.1)
def callee (M : Md) (n : Int) : Sg × Bool × Bool × Bool :=
  if (calleeN M n).1 < 0 ∨ (M.sigs.length : Int) ≤ (calleeN M n).1 then (zS, false, false, false)
  else (M.sigs.getD (calleeN M n).1.toNat zS, (calleeN M n).2.1, (calleeN M n).2.2, true)

structure Fr where
  op : Int
  brings : Int
  high : Int
  dead : Bool
  asleep : Bool
  other : Bool
deriving DecidableEq
def zFr : Fr := ⟨0, 0, 0, false, false, false⟩
structure Ck where
  st : List Int
  fr : List Fr
def Ck.top (s : Ck) : Fr := s.fr.getD (s.fr.length - 1) zFr
def Ck.setTop (s : Ck) (f : Fr) : Ck := ⟨s.st, s.fr.set (s.fr.length - 1) f⟩

def push (t : Int) (s : Ck) : Except Int Ck := if s.st.length + 1 > 16 then .error 1 else .ok ⟨s.st ++ [t], s.fr⟩
def pop (s : Ck) : Except Int (Int × Ck) :=
  if (s.st.length : Int) = s.top.high then (if s.top.dead then .ok (-1, s) else .error 3)
  else .ok (s.st.getD (s.st.length - 1) 0, ⟨s.st.take (s.st.length - 1), s.fr⟩)
def want (u : Int) (s : Ck) : Except Int Ck :=
  match pop s with
  | .error e => .error e
  | .ok (t, s') => if t = -1 ∨ flows t u = true then .ok s' else .error 3
def take (t : Int) (s : Ck) : Except Int Ck := if t = -1 then .ok s else want t s
def give (t : Int) (s : Ck) : Except Int Ck := if t = -1 then .ok s else push t s
def die (s : Ck) : Ck := ⟨s.st.take s.top.high.toNat, s.fr.set (s.fr.length - 1) { s.top with dead := true }⟩
def taken (d : Int) (s : Ck) : Except Int Int :=
  if d < s.fr.length then (if (s.fr.getD ((s.fr.length : Int) - 1 - d).toNat zFr).op = 3 then .ok (-1) else .ok (s.fr.getD ((s.fr.length : Int) - 1 - d).toNat zFr).brings) else .error 3
def close (s : Ck) : Except Int Ck :=
  match take s.top.brings s with
  | .error e => .error e
  | .ok s' => if (s'.st.length : Int) = s'.top.high then .ok s' else .error 3
/-- a function on its way: its module, whether it is trusted, its locals' types, what it brings -/
structure Env where
  M : Md
  tr : Bool
  locals : List Int
  result : Int
def cellT (E : Env) (op n : Int) : Except Int Int :=
  if op = 35 ∨ op = 36 then (if n < E.M.globals.length then .ok (E.M.globals.getD n.toNat (0, 0)).1 else .error 3)
  else (if n < E.locals.length then .ok (rd E.locals n) else .error 3)
def mixT (a b : Int) : Except Int Int := if a = -1 then .ok b else if b ≠ -1 then (if (joinL a b).2 = true then .ok (joinL a b).1 else .error 3) else .ok a
def tintT (how a : Int) : Int := if a ≠ -1 ∧ how ≠ -1 then ofL (wide a) (secret a || secret how) else a
def choose (s : Ck) : Except Int Ck :=
  match pop s with
  | .error e => .error e
  | .ok (how, s1) =>
    if how = -1 ∨ wide how = false then
      match pop s1 with
      | .error e => .error e
      | .ok (b, s2) => match pop s2 with
        | .error e => .error e
        | .ok (a, s3) => match mixT a b with
          | .error e => .error e
          | .ok t => push (tintT how t) s3
    else .error 3
def pubOp (op : Int) : Bool := (decide (109 ≤ op) && decide (op ≤ 112)) || (decide (127 ≤ op) && decide (op ≤ 130))
def reckonN (w pub : Bool) : Nat → Bool → Ck → Except Int (Bool × Ck)
  | 0, sec, s => .ok (sec, s)
  | k + 1, sec, s =>
    match pop s with
    | .error e => .error e
    | .ok (t, s1) =>
      if t = -1 then reckonN w pub k sec s1
      else if (wide t == w) && !(pub && secret t) then reckonN w pub k (sec || secret t) s1
      else .error 3
def reckon (op : Int) (s : Ck) : Except Int Ck :=
  if (Word.arity op).2.2.2 then
    match reckonN ((Word.arity op).2.1 == 1) (pubOp op) (Word.arity op).1.toNat false s with
    | .error e => .error e
    | .ok (sec, s1) => push (ofL ((Word.arity op).2.2.1 == 1) sec) s1
  else .error 3
/-- what is taken for a call: the last parameter first -/
def wants : List Int → Ck → Except Int Ck
  | [], s => .ok s
  | t :: l, s => match want t s with
    | .error e => .error e
    | .ok s1 => wants l s1
def callT (E : Env) (n : Int) (s : Ck) : Except Int Ck :=
  if (callee E.M n).2.2.2 && (E.tr || !(callee E.M n).2.2.1) then
    match wants (callee E.M n).1.1.reverse s with
    | .error e => .error e
    | .ok s1 => give (firstL (callee E.M n).1.2) s1
  else .error 3
def memOf (M : Md) (k : Int) : Int := if k = 0 then M.m0 else M.m1
def openT (x : T3) (s : Ck) : Ck := ⟨s.st, s.fr ++ [⟨x.1, x.2.2 - 1, s.st.length, false, s.top.dead || s.top.asleep, false⟩]⟩
def bnd {α β : Type} (r : Except Int α) (f : α → Except Int β) : Except Int β :=
  match r with
  | .error e => .error e
  | .ok a => f a
def endT (s : Ck) : Except Int Ck :=
  if s.top.op ≠ 4 ∨ s.top.other = true ∨ s.top.brings = -1 then
    (if s.fr.length - 1 > 0 then give s.top.brings ⟨s.st, s.fr.take (s.fr.length - 1)⟩ else .ok ⟨s.st, s.fr.take (s.fr.length - 1)⟩)
  else .error 3
def elseT (s : Ck) : Ck := s.setTop { s.top with dead := false, other := true }
def see (E : Env) (x : T3) (s : Ck) : Except Int Ck :=
  if x.1 = 1 then .ok s
  else if x.1 = 0 then .ok (die s)
  else if x.1 = 4 then bnd (want 0 s) fun s1 => .ok (openT x s1)
  else if x.1 = 2 ∨ x.1 = 3 then .ok (openT x s)
  else if x.1 = 5 then bnd (close s) fun s1 => .ok (elseT s1)
  else if x.1 = 11 then bnd (close s) endT
  else if x.1 = 12 then bnd (taken x.2.1 s) fun t => bnd (take t s) fun s1 => .ok (die s1)
  else if x.1 = 13 then bnd (want 0 s) fun s1 => bnd (taken x.2.1 s1) fun t => bnd (take t s1) fun s2 => give t s2
  else if x.1 = 15 then bnd (take E.result s) fun s1 => .ok (die s1)
  else if x.1 = 16 then callT E x.2.1 s
  else if x.1 = 26 then bnd (pop s) fun r => .ok r.2
  else if x.1 = 27 then choose s
  else if x.1 = 32 ∨ x.1 = 35 then bnd (cellT E x.1 x.2.1) fun t => push t s
  else if x.1 = 33 ∨ x.1 = 36 then bnd (cellT E x.1 x.2.1) fun t => want t s
  else if x.1 = 34 then bnd (cellT E x.1 x.2.1) fun t => bnd (want t s) fun s1 => push t s1
  else if x.1 = 40 ∨ x.1 = 41 then (if memOf E.M x.2.2 ≠ 0 then bnd (want 0 s) fun s1 => push (ofL (x.1 == 41) (x.2.2 == 1)) s1 else .error 3)
  else if x.1 = 54 ∨ x.1 = 55 then (if memOf E.M x.2.2 ≠ 0 then bnd (want (ofL (x.1 == 55) (x.2.2 == 1)) s) fun s1 => want 0 s1 else .error 3)
  else if x.1 = 65 ∨ x.1 = 66 then push (ofL (x.1 == 66) false) s
  else if x.1 = 240 ∨ x.1 = 241 then (if x.1 = 241 ∧ E.tr = false then .error 3 else bnd (pop s) fun r => push (if r.1 ≠ -1 then ofL (wide r.1) (x.1 == 240) else r.1) r.2)
  else reckon x.1 s
def awake (s : Ck) : Int := if s.top.dead || s.top.asleep then -1 else s.st.length
/-- from the place at_ on: the heights so far and the rest's; or the error and its place -/
def run (E : Env) : List T3 → Int → List Int → Ck → Except (Int × Int) (List Int)
  | [], _, out, _ => .ok out
  | x :: l, at_, out, s => match see E x s with
    | .error e => .error (e, at_)
    | .ok s1 => run E l (at_ + 1) (out ++ [awake s]) s1
def envOf (M : Md) (f : Fn) : Env := ⟨M, f.2.1, (M.sigs.getD f.1.toNat zS).1 ++ f.2.2.1, firstL (M.sigs.getD f.1.toNat zS).2⟩
def startOf (E : Env) : Ck := ⟨[], [⟨2, E.result, 0, false, false, false⟩]⟩
/-- a function's heights, or the error and its place -/
def oneT (M : Md) (k : Nat) : Except (Int × Int) (List Int) :=
  let f := M.funcs.getD k zF
  if (wkAll f.2.2.2).2.1 ≠ 0 then .error ((wkAll f.2.2.2).2.1, 1000 * k)
  else match run (envOf M f) f.2.2.2 0 [] (startOf (envOf M f)) with
    | .error (e, a) => .error (e, 1000 * k + a)
    | .ok out => .ok out
end Go.Proofs.YtjjhhmchomabeaaDoor.Valid
