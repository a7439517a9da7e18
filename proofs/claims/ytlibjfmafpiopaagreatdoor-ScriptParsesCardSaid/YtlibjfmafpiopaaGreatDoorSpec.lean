/- The document's answer for scripts, as plain functions on rows of bytes. No program in sight. -/
import Init
namespace Go.Proofs.YtlibjfmafpiopaaGreatDoor.Scr

abbrev Bs := List UInt8

/-- A piece that has begun, ahead of pieces. -/
def glue (cur : Bs) : List Bs → List Bs
  | [] => [cur]
  | y :: ys => (cur ++ y) :: ys

/-- The pieces between bytes of a kind. -/
def split (c : UInt8) : Bs → List Bs
  | [] => [[]]
  | x :: xs => if x = c then [] :: split c xs else glue [x] (split c xs)

theorem split_ne (c : UInt8) : ∀ s : Bs, split c s ≠ []
  | [] => by simp [split]
  | x :: xs => by
    unfold split
    split
    · simp
    · unfold glue
      split <;> simp

theorem glue_nil {L : List Bs} (h : L ≠ []) : glue [] L = L := by
  cases L with
  | nil => exact absurd rfl h
  | cons y ys => simp [glue]

theorem glue_glue (a b : Bs) (L : List Bs) : glue a (glue b L) = glue (a ++ b) L := by
  cases L <;> simp [glue]

theorem split_step_hit {c : UInt8} {s : Bs} {i : Nat} (h : i < s.length) (hx : s[i] = c) (cur : Bs) : glue cur (split c (s.drop i)) = cur :: split c (s.drop (i + 1)) := by
  rw [List.drop_eq_getElem_cons h]
  simp [split, hx, glue]

theorem split_step_miss {c : UInt8} {s : Bs} {i : Nat} (h : i < s.length) (hx : s[i] ≠ c) (cur : Bs) : glue cur (split c (s.drop i)) = glue (cur ++ [s[i]]) (split c (s.drop (i + 1))) := by
  rw [List.drop_eq_getElem_cons h]
  simp [split, hx, glue_glue]

theorem split_step_end {c : UInt8} {s : Bs} (cur : Bs) : glue cur (split c (s.drop s.length)) = [cur] := by
  simp [split, glue]

theorem split_len (c : UInt8) : ∀ s : Bs, (split c s).length ≤ s.length + 1
  | [] => by simp [split]
  | x :: xs => by
    have := split_len c xs
    have hne := split_ne c xs
    unfold split
    split
    · simp; omega
    · cases h : split c xs with
      | nil => exact absurd h hne
      | cons y ys => rw [h] at this; simp [glue] at this ⊢; omega

theorem split_total (c : UInt8) : ∀ s : Bs, ∀ p ∈ split c s, p.length ≤ s.length
  | [], p, hp => by simp [split] at hp; subst hp; simp
  | x :: xs, p, hp => by
    have ih := split_total c xs
    unfold split at hp
    split at hp
    · rcases List.mem_cons.1 hp with rfl | hp
      · simp
      · have := ih p hp; simp; omega
    · cases h : split c xs with
      | nil => exact absurd h (split_ne c xs)
      | cons y ys =>
        rw [h] at hp ih
        simp only [glue, List.mem_cons] at hp
        rcases hp with rfl | hp
        · have := ih y (by simp); simp; omega
        · have := ih p (by simp [hp]); simp; omega

/-- A line's words. -/
def words (s : Bs) : List Bs := (split 32 s).filter fun w => !w.isEmpty

/-- An ID. -/
def isId (s : Bs) : Bool := decide (1 ≤ s.length) && decide (s.length ≤ 64) && s.all fun c => decide (33 ≤ c.toNat) && decide (c.toNat ≤ 126)

/-- A HEX digit's number; -1: it is none. -/
def digit (c : UInt8) : Int := if 48 ≤ c.toNat ∧ c.toNat ≤ 57 then (c.toNat : Int) - 48 else if 97 ≤ c.toNat ∧ c.toNat ≤ 102 then (c.toNat : Int) - 97 + 10 else -1

/-- Pairs of HEX digits. -/
def unhexP : Bs → Option (List Int)
  | [] => some []
  | [_] => none
  | a :: b :: r => if digit a < 0 ∨ digit b < 0 then none else (unhexP r).map fun l => (16 * digit a + digit b) :: l

def unhex (s : Bs) : Option (List Int) := if s = [45] then some [] else if s.length = 0 ∨ s.length % 2 ≠ 0 then none else unhexP s

/-- The byte of a HEX digit. -/
def hexd (n : Nat) : UInt8 := if n < 10 then UInt8.ofNat (48 + n) else UInt8.ofNat (87 + n)

def hexP : List Int → Bs
  | [] => []
  | b :: r => hexd (b.toNat / 16) :: hexd (b.toNat % 16) :: hexP r

def hex (b : List Int) : Bs := if b.length = 0 then [45] else hexP b

/-- A number's digits, from the front on. -/
def digitsP (n : Int) : Bs → Option Int
  | [] => some n
  | c :: r => if c.toNat < 48 ∨ 57 < c.toNat then none else digitsP (10 * n + ((c.toNat : Int) - 48)) r

/-- What stands behind a sign. -/
def numberU (minus : Bool) (s : Bs) : Option Int :=
  if s.length < 1 ∨ 13 < s.length ∨ (s.head? = some 48 ∧ (1 < s.length ∨ minus = true)) then none
  else (digitsP 0 s).map fun n => if minus then 0 - n else n

/-- A NUMBER. -/
def number (s : Bs) : Option Int := match s with
  | [] => none
  | 45 :: r => numberU true r
  | _ => numberU false s

/-- Whether a number may be written. -/
def may (n : Int) : Bool := decide (-9999999999999 ≤ n) && decide (n ≤ 9999999999999)
/-- Which operation a word is, and its form, as the program has it. -/
def kindS (w : Bs) : Int × Bs :=
  if (w == [112, 117, 116]) = true then (1, [105, 104]) else
  if (w == [103, 101, 116]) = true then (2, [105]) else
  if (w == [115, 116, 97, 116]) = true then (3, [105]) else
  if (w == [100, 101, 108, 101, 116, 101]) = true then (6, [105]) else
  if (w == [99, 111, 112, 105, 101, 115]) = true then (15, [105]) else
  if (w == [112, 114, 111, 118, 101]) = true then (16, [105]) else
  if (w == [108, 111, 99, 107]) = true then (4, [105, 110]) else
  if (w == [104, 111, 108, 100]) = true then (5, [105, 110]) else
  if (w == [105, 100, 115]) = true then (7, []) else
  if (w == [100, 117, 101]) = true then (8, []) else
  if (w == [104, 101, 97, 100]) = true then (9, []) else
  if (w == [116, 105, 99, 107]) = true then (10, [110]) else
  if (w == [115, 116, 101, 112]) = true then (11, [110]) else
  if (w == [102, 117, 115, 101]) = true then (12, [110]) else
  if (w == [98, 111, 111, 116]) = true then (13, [42]) else
  if (w == [114, 111, 116]) = true then (14, [107, 107, 107, 107]) else
  (0, [])

/-- The same as the document has it. -/
def kindR (w : Bs) : Int × Bs :=
  if (w == [112, 117, 116]) = true then (1, [105, 104]) else
  if (w == [103, 101, 116]) = true then (2, [105]) else
  if (w == [115, 116, 97, 116]) = true then (3, [105]) else
  if (w == [100, 101, 108, 101, 116, 101]) = true then (6, [105]) else
  if (w == [99, 111, 112, 105, 101, 115]) = true then (15, [105]) else
  if (w == [112, 114, 111, 118, 101]) = true then (16, [105]) else
  if (w == [108, 111, 99, 107]) = true then (4, [105, 110]) else
  if (w == [104, 111, 108, 100]) = true then (5, [105, 110]) else
  if (w == [105, 100, 115]) = true then (7, []) else
  if (w == [100, 117, 101]) = true then (8, []) else
  if (w == [104, 101, 97, 100]) = true then (9, []) else
  if (w == [116, 105, 99, 107]) = true then (10, [110]) else
  if (w == [115, 116, 101, 112]) = true then (11, [110]) else
  if (w == [102, 117, 115, 101]) = true then (12, [110]) else
  if (w == [98, 111, 111, 116]) = true then (13, [42]) else
  if (w == [114, 111, 116]) = true then (14, [110, 110, 110, 110]) else
  (0, [])

/-- A command. -/
structure Cmd where
  word : Bs
  kind : Int
  id : Bs
  bytes : List Int
  n : Int
  keep : List Int

/-- One word behind the first. -/
def stepR (k : Int) (f : Int) (c : Cmd) (w : Bs) : Option Cmd :=
  if f = 105 then (if isId w = true then some { c with id := w } else none)
  else if f = 104 then (unhex w).map fun b => { c with bytes := b }
  else (number w).map fun n => if f = 42 ∨ k = 14 then { c with keep := c.keep ++ [n] } else { c with n := n }

/-- What a form asks for at a place. -/
def formAt (form : Bs) (i : Nat) : Int := if form = [42] then 42 else ((form.getD i 0).toNat : Int)

def argsR (k : Int) (form : Bs) : Nat → List Bs → Cmd → Option Cmd
  | _, [], c => some c
  | i, w :: r, c => (stepR k (formAt form i) c w).bind fun c' => argsR k form (i + 1) r c'

def cmd0 (word : Bs) (k : Int) : Cmd := { word := word, kind := k, id := [], bytes := [], n := 0, keep := [] }

/-- A line's words as a command, or what is wrong. -/
def readR : List Bs → Except Int Cmd
  | [] => .error 0
  | h :: r =>
    if (kindR h).1 = 0 then .error 221
    else if (kindR h).2 ≠ [42] ∧ r.length + 1 ≠ (kindR h).2.length + 1 then .error 222
    else match argsR (kindR h).1 (kindR h).2 0 r (cmd0 h (kindR h).1) with
      | some c => .ok c
      | none => .error 223

/-- All lines, from a number on. -/
def linesR : Nat → List Bs → List Cmd → List Cmd × Int × Int
  | _, [], out => (out, 0, 0)
  | i, l :: r, out =>
    match words l with
    | [] => linesR (i + 1) r out
    | h :: t => if h.head? = some 35 then linesR (i + 1) r out else
      match readR (h :: t) with
      | .ok c => linesR (i + 1) r (out ++ [c])
      | .error e => ([], (i : Int) + 1, e)

/-- A script as its commands; the line that is wrong; the error. -/
def parseR (s : Bs) : List Cmd × Int × Int :=
  if 65536 < s.length then ([], 0, 220) else if 4096 < (split 10 s).length then ([], 0, 220) else linesR 0 (split 10 s) []
end Go.Proofs.YtlibjfmafpiopaaGreatDoor.Scr
