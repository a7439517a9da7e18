/- The document's answer for writing scripts and telling answers, as plain functions on rows of bytes. No program in sight. -/
import Derived.Test.YtlibjfmafpiopaaGreatDoorSpec
import Derived.Lib.ItoaNum
namespace Go.Proofs.YtlibjfmafpiopaaGreatDoor.Scr

/-- Words, each behind a blank. -/
def tail32 (L : List Bs) : Bs := L.flatMap fun w => 32 :: w

theorem tail32_nil : tail32 [] = [] := rfl
theorem tail32_cons (w : Bs) (L : List Bs) : tail32 (w :: L) = 32 :: (w ++ tail32 L) := by simp [tail32]
theorem tail32_append (A B : List Bs) : tail32 (A ++ B) = tail32 A ++ tail32 B := by simp [tail32]

/-- The numbers that a command's line has. -/
def numsR (k : Int) (form : Bs) (c : Cmd) : List Int := if form = [42] ∨ k = 14 then c.keep else if form.getLast? = some 110 then [c.n] else []

/-- The words behind the first. -/
def restR (k : Int) (form : Bs) (c : Cmd) : List Bs :=
  (if form.head? = some 105 then [c.id] else []) ++ (if form = [105, 104] then [hex c.bytes] else []) ++ (numsR k form c).map Lib.itoa

/-- A command's line, or what is wrong. -/
def lineR (c : Cmd) : Except Int Bs :=
  if (kindR c.word).1 = 0 then .error 221
  else if c.kind ≠ (kindR c.word).1 ∨ ((kindR c.word).1 = 14 ∧ c.keep.length ≠ 4) then .error 223
  else if (kindR c.word).2.head? = some 105 ∧ isId c.id = false then .error 223
  else if (numsR (kindR c.word).1 (kindR c.word).2 c).all may = true then .ok (c.word ++ tail32 (restR (kindR c.word).1 (kindR c.word).2 c) ++ [10])
  else .error 223

/-- All lines. -/
def linesP : List Cmd → Except Int Bs
  | [] => .ok []
  | c :: r => match lineR c with
    | .error e => .error e
    | .ok s => (linesP r).map fun t => s ++ t

/-- Commands as a script; the error. -/
def printR (l : List Cmd) : Bs × Int := match linesP l with
  | .error e => ([], e)
  | .ok s => if 65536 < s.length ∨ 4096 < l.length + 1 then ([], 220) else (s, 0)

/-- An answer. -/
structure Ans where
  code : Int
  bytes : List Int
  length : Int
  root : List Int
  index : Int
  expiry : Int
  hold : Bool
  gone : Bool
  ids : List Bs
  hsize : Int
  hroot : List Int
  num : Int
  proof : List (List Int)

def bit (b : Bool) : Bs := if b then [49] else [48]

/-- An answer as words; none: it is told as ok. -/
def tellW (k : Int) (a : Ans) : Option (Bs × List Bs) :=
  if k = 2 then some (hex a.bytes, [])
  else if k = 3 then some (Lib.itoa a.length, [hex a.root, Lib.itoa a.index, Lib.itoa a.expiry, bit a.hold, bit a.gone])
  else if k = 9 then some (Lib.itoa a.hsize, [hex a.hroot])
  else if k = 15 ∨ k = 11 ∨ k = 14 then some (Lib.itoa a.num, [])
  else if k = 7 ∨ k = 8 then some (Lib.itoa a.ids.length, a.ids)
  else if k = 16 then some (Lib.itoa a.num, a.proof.map hex)
  else none

def tellR (k : Int) (a : Ans) : Bs :=
  if a.code ≠ 0 then [101, 114, 114, 111, 114, 32] ++ Lib.itoa a.code
  else match tellW k a with
    | some (w, L) => w ++ tail32 L
    | none => [111, 107]
end Go.Proofs.YtlibjfmafpiopaaGreatDoor.Scr
