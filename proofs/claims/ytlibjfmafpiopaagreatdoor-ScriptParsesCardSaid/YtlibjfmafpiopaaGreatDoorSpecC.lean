/- The program's way of reading a line, in plain words, and that it is the document's. -/
import Derived.Test.YtlibjfmafpiopaaGreatDoorSpecB
namespace Go.Proofs.YtlibjfmafpiopaaGreatDoor.Scr

/-- One word behind the first, as the program takes it. -/
def stepS (f : Int) (c : Cmd) (w : Bs) : Option Cmd :=
  if f = 105 then (if isId w = true then some { c with id := w } else none)
  else if f = 104 then (unhex w).map fun b => { c with bytes := b }
  else if f = 110 then (number w).map fun n => { c with n := n }
  else (number w).map fun n => { c with keep := c.keep ++ [n] }

def argsS : Bs → List Bs → Cmd → Option Cmd
  | f :: fs, w :: ws, c => (stepS (f.toNat : Int) c w).bind (argsS fs ws)
  | _, _, c => some c

/-- The form, a place for each word. -/
def formS (h : Bs) (n : Nat) : Bs := if (kindS h).2 = [42] then List.replicate n 107 else (kindS h).2

/-- A line's words as a command, or what is wrong. -/
def readS : List Bs → Except Int Cmd
  | [] => .error 0
  | h :: r =>
    if (kindS h).1 = 0 then .error 221
    else if r.length + 1 ≠ (formS h r.length).length + 1 then .error 222
    else match argsS (formS h r.length) r (cmd0 h (kindS h).1) with
      | some c => .ok c
      | none => .error 223

theorem readS_bad {h : Bs} {r : List Bs} (h0 : (kindS h).1 = 0) : readS (h :: r) = .error 221 := by
  unfold readS
  dsimp only
  rw [if_pos h0]

theorem readS_len {h : Bs} {r : List Bs} (h0 : (kindS h).1 ≠ 0) (hl : r.length ≠ (formS h r.length).length) : readS (h :: r) = .error 222 := by
  unfold readS
  dsimp only
  rw [if_neg h0, if_pos (by omega)]

theorem readS_some {h : Bs} {r : List Bs} {c : Cmd} (h0 : (kindS h).1 ≠ 0) (hl : r.length = (formS h r.length).length) (ha : argsS (formS h r.length) r (cmd0 h (kindS h).1) = some c) : readS (h :: r) = .ok c := by
  unfold readS
  dsimp only
  rw [if_neg h0, if_neg (by omega), ha]

theorem readS_none {h : Bs} {r : List Bs} (h0 : (kindS h).1 ≠ 0) (hl : r.length = (formS h r.length).length) (ha : argsS (formS h r.length) r (cmd0 h (kindS h).1) = none) : readS (h :: r) = .error 223 := by
  unfold readS
  dsimp only
  rw [if_neg h0, if_neg (by omega), ha]

theorem argsS_step {F : Bs} {r : List Bs} {j : Nat} {f : UInt8} {w : Bs} (hf : F[j]? = some f) (hw : r[j]? = some w) (c : Cmd) : argsS (F.drop j) (r.drop j) c = (stepS (f.toNat : Int) c w).bind (argsS (F.drop (j + 1)) (r.drop (j + 1))) := by
  have h1 := (List.getElem?_eq_some_iff.1 hf)
  have h2 := (List.getElem?_eq_some_iff.1 hw)
  rw [List.drop_eq_getElem_cons h1.1, List.drop_eq_getElem_cons h2.1, h1.2, h2.2]
  rfl

theorem argsS_end (F : Bs) (c : Cmd) : argsS F [] c = some c := by cases F <;> rfl

theorem kindS_len (w : Bs) : (kindS w).2.length ≤ 4 := by
  have : ∀ {c : Prop} [Decidable c] {a b : Int × Bs}, a.2.length ≤ 4 → b.2.length ≤ 4 → (if c then a else b).2.length ≤ 4 := fun ha hb => by split <;> assumption
  unfold kindS
  repeat' (refine this (by decide) ?_)
  decide

def KRel (s r : Int × Bs) : Prop := s.1 = r.1 ∧ ((s = (14, [107, 107, 107, 107]) ∧ r = (14, [110, 110, 110, 110])) ∨ (s.2 = r.2 ∧ s.1 ≠ 14 ∧ s.2 ∈ [[105, 104], [105], [105, 110], [], [110], [42]]))

theorem ite_rel {c : Prop} [Decidable c] {a b a' b' : Int × Bs} (h1 : KRel a b) (h2 : KRel a' b') : KRel (if c then a else a') (if c then b else b') := by split <;> assumption

theorem kind_rel (h : Bs) : KRel (kindS h) (kindR h) := by
  unfold kindS kindR
  repeat' (refine ite_rel (by unfold KRel; decide) ?_)
  unfold KRel
  decide

theorem argsS_eq (k : Int) (form : Bs) : ∀ (ws : List Bs) (F : Bs) (i : Nat) (c : Cmd), ws.length ≤ F.length → (∀ j, j < ws.length → stepR k (formAt form (i + j)) = stepS (((F.getD j 0).toNat : Nat) : Int)) → argsR k form i ws c = argsS F ws c
  | [], F, i, c, _, _ => by cases F <;> rfl
  | w :: ws, [], i, c, hl, _ => by simp at hl
  | w :: ws, f :: fs, i, c, hl, h => by
    have h0 := h 0 (by simp)
    simp only [Nat.add_zero, List.getD_cons_zero] at h0
    simp only [argsR, argsS]
    rw [h0]
    congr 1
    funext c'
    refine argsS_eq k form ws fs (i + 1) c' (by simpa using hl) fun j hj => ?_
    have := h (j + 1) (by simpa using hj)
    rw [show i + 1 + j = i + (j + 1) by omega]
    simpa using this

theorem step_same {k : Int} {f : Int} (hk : k ≠ 14) (hf : f = 105 ∨ f = 104 ∨ f = 110) : stepR k f = stepS f := by
  funext c w
  unfold stepR stepS
  rcases hf with rfl | rfl | rfl
  · simp
  · simp
  · simp [hk]

theorem step_keep {k : Int} {f : Int} (hf : f = 42 ∨ (k = 14 ∧ f = 110)) : stepR k f = stepS 107 := by
  funext c w
  unfold stepR stepS
  rcases hf with rfl | ⟨rfl, rfl⟩
  · simp
  · simp

theorem formAt_plain {form : Bs} (h : form ≠ [42]) (i : Nat) : formAt form i = ((form.getD i 0).toNat : Int) := by unfold formAt; rw [if_neg h]

theorem readS_eq (W : List Bs) : readS W = readR W := by
  cases W with
  | nil => rfl
  | cons h r =>
    obtain ⟨e1, hrel⟩ := kind_rel h
    unfold readS readR
    dsimp only
    rw [← e1]
    by_cases h0 : (kindS h).1 = 0
    · rw [if_pos h0, if_pos h0]
    · rw [if_neg h0, if_neg h0]
      rcases hrel with ⟨hs, hr⟩ | ⟨hf, h14, hm⟩
      · have hF : formS h r.length = [107, 107, 107, 107] := by unfold formS; rw [hs]; rfl
        rw [hF, hr]
        by_cases hlen : r.length + 1 = 5
        · have hlen2 : ¬ (r.length + 1 ≠ [107, 107, 107, 107].length + 1) := by simpa using hlen
          have hlen3 : ¬ ([110, 110, 110, 110] ≠ [42] ∧ r.length + 1 ≠ [110, 110, 110, 110].length + 1) := by simp at hlen ⊢; omega
          rw [if_neg (by simp; omega), if_neg (by simp; omega)]
          have : argsR (kindS h).1 [110, 110, 110, 110] 0 r (cmd0 h (kindS h).1) = argsS [107, 107, 107, 107] r (cmd0 h (kindS h).1) := by
            refine argsS_eq _ _ r _ 0 _ (by simp; omega) fun j hj => ?_
            have e4 : j = 0 ∨ j = 1 ∨ j = 2 ∨ j = 3 := by omega
            rw [hs]
            rcases e4 with rfl | rfl | rfl | rfl <;> exact step_keep (.inr ⟨rfl, by decide⟩)
          rw [this]
          cases argsS [107, 107, 107, 107] r (cmd0 h (kindS h).1) <;> rfl
        · rw [if_pos (by simp; omega), if_pos (by simp; omega)]
      · rw [← hf]
        by_cases h42 : (kindS h).2 = [42]
        · have hF : formS h r.length = List.replicate r.length 107 := by unfold formS; rw [if_pos h42]
          rw [hF, h42, if_neg (by simp), if_neg (by simp)]
          have : argsR (kindS h).1 [42] 0 r (cmd0 h (kindS h).1) = argsS (List.replicate r.length 107) r (cmd0 h (kindS h).1) := by
            refine argsS_eq _ _ r _ 0 _ (by simp) fun j hj => ?_
            have e5 : (List.replicate r.length (107 : UInt8)).getD j 0 = 107 := by
              rw [List.getD_eq_getElem?_getD, List.getElem?_replicate, if_pos hj]
              rfl
            rw [e5]
            exact step_keep (.inl (by simp [formAt]))
          rw [this]
          cases argsS (List.replicate r.length 107) r (cmd0 h (kindS h).1) <;> rfl
        · have hF : formS h r.length = (kindS h).2 := by unfold formS; rw [if_neg h42]
          rw [hF]
          by_cases hlen : r.length + 1 = (kindS h).2.length + 1
          · rw [if_neg (by simpa using hlen), if_neg (by rintro ⟨_, h2⟩; exact h2 hlen)]
            have : argsR (kindS h).1 (kindS h).2 0 r (cmd0 h (kindS h).1) = argsS (kindS h).2 r (cmd0 h (kindS h).1) := by
              refine argsS_eq _ _ r _ 0 _ (by omega) fun j hj => ?_
              rw [formAt_plain h42, Nat.zero_add]
              refine step_same h14 ?_
              have hj2 : j < (kindS h).2.length := by omega
              generalize (kindS h).2 = F at hm hj2 h42
              simp only [List.mem_cons, List.mem_nil_iff, or_false] at hm
              rcases hm with rfl | rfl | rfl | rfl | rfl | rfl
              · rcases (by simp at hj2; omega : j = 0 ∨ j = 1) with rfl | rfl
                · left; decide
                · right; left; decide
              · obtain rfl : j = 0 := by simp at hj2; omega
                left; decide
              · rcases (by simp at hj2; omega : j = 0 ∨ j = 1) with rfl | rfl
                · left; decide
                · right; right; decide
              · simp at hj2
              · obtain rfl : j = 0 := by simp at hj2; omega
                right; right; decide
              · exact absurd rfl h42
            rw [this]
            cases argsS (kindS h).2 r (cmd0 h (kindS h).1) <;> rfl
          · rw [if_pos (by simpa using hlen), if_pos ⟨h42, by simpa using hlen⟩]
end Go.Proofs.YtlibjfmafpiopaaGreatDoor.Scr
