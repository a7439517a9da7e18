/- The program's way of writing a command, in plain words, and that it is the document's. -/
import Derived.Test.YtlibjfmafpiopaaGreatDoorSpecC
import Derived.Lib.SlTrimSet
namespace Go.Proofs.YtlibjfmafpiopaaGreatDoor.Scr

/-- What a letter of the form writes; whether it may. -/
def wOf (c : Cmd) (f : UInt8) : Bs := if f = 105 then c.id else if f = 104 then hex c.bytes else Lib.itoa c.n
def okOf (c : Cmd) (f : UInt8) : Bool := if f = 105 then isId c.id else if f = 104 then true else may c.n

/-- The form's letters; the numbers behind them. -/
def lettersS (form : Bs) : Bs := Lib.trimLeftS form [42, 107]
def numsS (form : Bs) (c : Cmd) : List Int := if Lib.trimS form [42, 107] ≠ form then c.keep else []

def restS (form : Bs) (c : Cmd) : List Bs := (lettersS form).map (wOf c) ++ (numsS form c).map Lib.itoa
def okS (form : Bs) (c : Cmd) : Bool := (lettersS form).all (okOf c) && (numsS form c).all may

def lineS (c : Cmd) : Except Int Bs :=
  if (kindS c.word).1 = 0 then .error 221
  else if c.kind ≠ (kindS c.word).1 ∨ ((kindS c.word).1 = 14 ∧ c.keep.length ≠ (kindS c.word).2.length) then .error 223
  else if okS (kindS c.word).2 c = true then .ok (c.word ++ tail32 (restS (kindS c.word).2 c) ++ [10])
  else .error 223

theorem letters_of (form : Bs) (h : form ∈ [[105, 104], [105], [105, 110], [], [110], [42], [107, 107, 107, 107]]) :
    (lettersS form = if form = [42] ∨ form = [107, 107, 107, 107] then [] else form) ∧ (Lib.trimS form [42, 107] = if form = [42] ∨ form = [107, 107, 107, 107] then [] else form) := by
  simp only [List.mem_cons, List.mem_nil_iff, or_false] at h
  rcases h with rfl | rfl | rfl | rfl | rfl | rfl | rfl <;> exact ⟨by decide, by decide⟩

theorem form_in (h : Bs) : (kindS h).2 ∈ [[105, 104], [105], [105, 110], [], [110], [42], [107, 107, 107, 107]] := by
  obtain ⟨_, hrel⟩ := kind_rel h
  rcases hrel with ⟨hs, _⟩ | ⟨_, _, hm⟩
  · rw [hs]
    simp
  · simp only [List.mem_cons, List.mem_nil_iff, or_false] at hm ⊢
    rcases hm with h | h | h | h | h | h <;> simp [h]

theorem letters_in (h : Bs) : ∀ f ∈ lettersS (kindS h).2, f = 105 ∨ f = 104 ∨ f = 110 := by
  have hk := form_in h
  generalize (kindS h).2 = form at hk
  obtain ⟨l1, _⟩ := letters_of form hk
  rw [l1]
  simp only [List.mem_cons, List.mem_nil_iff, or_false] at hk
  rcases hk with rfl | rfl | rfl | rfl | rfl | rfl | rfl <;> decide

theorem take_words {T : Bs} {p : Nat} {f : UInt8} (h : T[p]? = some f) (c : Cmd) : (T.take (p + 1)).map (wOf c) = (T.take p).map (wOf c) ++ [wOf c f] ∧ (T.take (p + 1)).all (okOf c) = ((T.take p).all (okOf c) && okOf c f) := by
  have hp := (List.getElem?_eq_some_iff.1 h).1
  have e : T.take (p + 1) = T.take p ++ [f] := by rw [List.take_succ_eq_append_getElem hp, (List.getElem?_eq_some_iff.1 h).2]
  rw [e]
  simp

theorem lineS_eq (c : Cmd) : lineS c = lineR c := by
  obtain ⟨e1, hrel⟩ := kind_rel c.word
  unfold lineS lineR
  rw [← e1]
  by_cases h0 : (kindS c.word).1 = 0
  · rw [if_pos h0, if_pos h0]
  · rw [if_neg h0, if_neg h0]
    rcases hrel with ⟨hs, hr⟩ | ⟨hf, h14, hm⟩
    · rw [hs, hr]
      show (if c.kind ≠ 14 ∨ (14 : Int) = 14 ∧ c.keep.length ≠ 4 then Except.error (223 : Int) else if okS [107, 107, 107, 107] c = true then Except.ok (c.word ++ tail32 (restS [107, 107, 107, 107] c) ++ [10]) else Except.error 223) =
        (if c.kind ≠ 14 ∨ (14 : Int) = 14 ∧ c.keep.length ≠ 4 then Except.error (223 : Int) else if ([110, 110, 110, 110] : Bs).head? = some 105 ∧ isId c.id = false then Except.error 223 else if (numsR 14 [110, 110, 110, 110] c).all may = true then Except.ok (c.word ++ tail32 (restR 14 [110, 110, 110, 110] c) ++ [10]) else Except.error 223)
      by_cases hm : c.kind ≠ 14 ∨ (14 : Int) = 14 ∧ c.keep.length ≠ 4
      · rw [if_pos hm, if_pos hm]
      · rw [if_neg hm, if_neg hm, if_neg (show ¬ (([110, 110, 110, 110] : Bs).head? = some 105 ∧ isId c.id = false) from by simp)]
        obtain ⟨l1, l2⟩ := letters_of [107, 107, 107, 107] (by simp)
        have ok1 : okS [107, 107, 107, 107] c = c.keep.all may := by unfold okS numsS; rw [l1, l2]; simp
        have r1 : restS [107, 107, 107, 107] c = c.keep.map Lib.itoa := by unfold restS numsS; rw [l1, l2]; simp
        have n1 : numsR 14 [110, 110, 110, 110] c = c.keep := by unfold numsR; simp
        have r2 : restR 14 [110, 110, 110, 110] c = c.keep.map Lib.itoa := by unfold restR; rw [n1]; simp
        rw [ok1, r1, n1, r2]
    · rw [← hf]
      have hmm : (c.kind ≠ (kindS c.word).1 ∨ (kindS c.word).1 = 14 ∧ c.keep.length ≠ (kindS c.word).2.length) ↔ (c.kind ≠ (kindS c.word).1 ∨ (kindS c.word).1 = 14 ∧ c.keep.length ≠ 4) := by
        constructor <;> rintro (h | h) <;> first | exact .inl h | exact absurd h.1 h14
      by_cases hk : c.kind ≠ (kindS c.word).1 ∨ (kindS c.word).1 = 14 ∧ c.keep.length ≠ 4
      · rw [if_pos (hmm.2 hk), if_pos hk]
      · rw [if_neg (fun e => hk (hmm.1 e)), if_neg hk]
        generalize (kindS c.word).1 = k at h14
        generalize (kindS c.word).2 = form at hm
        obtain ⟨l1, l2⟩ := letters_of form (by simp only [List.mem_cons, List.mem_nil_iff, or_false] at hm ⊢; rcases hm with h | h | h | h | h | h <;> simp [h])
        simp only [List.mem_cons, List.mem_nil_iff, or_false] at hm
        rcases hm with rfl | rfl | rfl | rfl | rfl | rfl
        · have ok1 : okS [105, 104] c = isId c.id := by unfold okS numsS; rw [l1, l2]; simp [okOf]
          have r1 : restS [105, 104] c = restR k [105, 104] c := by unfold restS restR numsS numsR; rw [l1, l2]; simp [wOf, h14]
          have n1 : numsR k [105, 104] c = [] := by unfold numsR; simp [h14]
          rw [ok1, r1, n1]
          cases isId c.id <;> simp
        · have ok1 : okS [105] c = isId c.id := by unfold okS numsS; rw [l1, l2]; simp [okOf]
          have r1 : restS [105] c = restR k [105] c := by unfold restS restR numsS numsR; rw [l1, l2]; simp [wOf, h14]
          have n1 : numsR k [105] c = [] := by unfold numsR; simp [h14]
          rw [ok1, r1, n1]
          cases isId c.id <;> simp
        · have ok1 : okS [105, 110] c = (isId c.id && may c.n) := by unfold okS numsS; rw [l1, l2]; simp [okOf]
          have r1 : restS [105, 110] c = restR k [105, 110] c := by unfold restS restR numsS numsR; rw [l1, l2]; simp [wOf, h14]
          have n1 : numsR k [105, 110] c = [c.n] := by unfold numsR; simp [h14]
          rw [ok1, r1, n1]
          cases isId c.id <;> simp
        · have ok1 : okS [] c = true := by unfold okS numsS; rw [l1, l2]; simp
          have r1 : restS [] c = restR k [] c := by unfold restS restR numsS numsR; rw [l1, l2]; simp [h14]
          have n1 : numsR k [] c = [] := by unfold numsR; simp [h14]
          rw [ok1, r1, n1]
          simp
        · have ok1 : okS [110] c = may c.n := by unfold okS numsS; rw [l1, l2]; simp [okOf]
          have r1 : restS [110] c = restR k [110] c := by unfold restS restR numsS numsR; rw [l1, l2]; simp [wOf, h14]
          have n1 : numsR k [110] c = [c.n] := by unfold numsR; simp [h14]
          rw [ok1, r1, n1]
          simp
        · have ok1 : okS [42] c = c.keep.all may := by unfold okS numsS; rw [l1, l2]; simp
          have r1 : restS [42] c = restR k [42] c := by unfold restS restR numsS numsR; rw [l1, l2]; simp
          have n1 : numsR k [42] c = c.keep := by unfold numsR; simp
          rw [ok1, r1, n1]
          simp
end Go.Proofs.YtlibjfmafpiopaaGreatDoor.Scr
