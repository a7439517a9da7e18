/- Whole texts: what is written of commands is read as these; what is read of a text is written, and read as the same; lines one behind the other. No program in sight. -/
import Derived.Test.YtlibjfmafpiopaaGreatDoorSpecE
namespace Go.Proofs.YtlibjfmafpiopaaGreatDoor.Scr

/-- What a line says: nothing, a command, or what is wrong. -/
def says (l : Bs) : Option (Except Int Cmd) := match words l with
  | [] => none
  | h :: t => if h.head? = some 35 then none else some (readR (h :: t))

theorem linesR_cons (i : Nat) (l : Bs) (r : List Bs) (out : List Cmd) : linesR i (l :: r) out = match says l with
    | none => linesR (i + 1) r out
    | some (.ok c) => linesR (i + 1) r (out ++ [c])
    | some (.error e) => ([], (i : Int) + 1, e) := by
  unfold says
  rw [linesR]
  split
  · rename_i h; rw [h]
  · rename_i h t h1
    rw [h1]
    dsimp only
    split
    · rfl
    · split <;> rename_i h2 <;> rw [h2]

/-- Lines that are well read: their commands. -/
theorem linesR_ok : ∀ (S : List Bs) (i : Nat) (out L : List Cmd), linesR i S out = (L, 0, 0) → ∃ M, L = out ++ M ∧ ∀ T j o2, linesR j (S ++ T) o2 = linesR (j + S.length) T (o2 ++ M)
  | [], i, out, L, h => by
    rw [linesR] at h
    cases h
    exact ⟨[], by simp, fun T j o2 => by simp⟩
  | l :: r, i, out, L, h => by
    rw [linesR_cons] at h
    split at h
    · rename_i hs
      obtain ⟨M, h1, h2⟩ := linesR_ok r _ _ _ h
      refine ⟨M, h1, fun T j o2 => ?_⟩
      rw [List.cons_append, linesR_cons, hs]
      dsimp only
      rw [h2, List.length_cons, show j + 1 + r.length = j + (r.length + 1) from by omega]
    · rename_i c hs
      obtain ⟨M, h1, h2⟩ := linesR_ok r _ _ _ h
      refine ⟨c :: M, by rw [h1]; simp, fun T j o2 => ?_⟩
      rw [List.cons_append, linesR_cons, hs]
      dsimp only
      rw [h2, List.length_cons, show j + 1 + r.length = j + (r.length + 1) from by omega]
      simp
    · have h2 := congrArg (fun p => p.2.1) h
      simp only at h2
      omega

/-- An error's line and number: the error is none of no error. -/
theorem readR_err {W : List Bs} {e : Int} (hne : W ≠ []) (h : readR W = .error e) : e = 221 ∨ e = 222 ∨ e = 223 := by
  cases W with
  | nil => exact absurd rfl hne
  | cons x r =>
    unfold readR at h
    dsimp only at h
    split at h
    · cases h; simp
    · split at h
      · cases h; simp
      · split at h
        · cases h
        · cases h; simp

theorem says_err {l : Bs} {e : Int} (h : says l = some (.error e)) : e = 221 ∨ e = 222 ∨ e = 223 := by
  unfold says at h
  split at h
  · cases h
  · rename_i x r _
    split at h
    · cases h
    · exact readR_err (W := x :: r) (by simp) (Option.some.inj h)

/-- How reading lines ends. -/
theorem linesR_end : ∀ (S : List Bs) (i : Nat) (out : List Cmd), (∃ L, linesR i S out = (L, 0, 0)) ∨ ∃ (k : Nat) (e : Int), k < S.length ∧ (e = 221 ∨ e = 222 ∨ e = 223) ∧ ∀ T j o2, linesR j (S ++ T) o2 = ([], (j : Int) + k + 1, e)
  | [], i, out => .inl ⟨out, rfl⟩
  | l :: r, i, out => by
    cases hs : says l with
    | none =>
      rcases linesR_end r (i + 1) out with ⟨L, h⟩ | ⟨k, e, h1, h2, h3⟩
      · exact .inl ⟨L, by rw [linesR_cons, hs]; exact h⟩
      · refine .inr ⟨k + 1, e, by simp; omega, h2, fun T j o2 => ?_⟩
        rw [List.cons_append, linesR_cons, hs]
        dsimp only
        rw [h3]
        congr 2
        push_cast
        omega
    | some q =>
      cases q with
      | ok c =>
        rcases linesR_end r (i + 1) (out ++ [c]) with ⟨L, h⟩ | ⟨k, e, h1, h2, h3⟩
        · exact .inl ⟨L, by rw [linesR_cons, hs]; exact h⟩
        · refine .inr ⟨k + 1, e, by simp; omega, h2, fun T j o2 => ?_⟩
          rw [List.cons_append, linesR_cons, hs]
          dsimp only
          rw [h3]
          congr 2
          push_cast
          omega
      | error e =>
        refine .inr ⟨0, e, by simp, says_err hs, fun T j o2 => ?_⟩
        rw [List.cons_append, linesR_cons, hs]
        simp

theorem lineR_err {c : Cmd} {e : Int} (h : lineR c = .error e) : e = 221 ∨ e = 223 := by
  unfold lineR at h
  split at h
  · cases h; exact .inl rfl
  · split at h
    · cases h; exact .inr rfl
    · split at h
      · cases h; exact .inr rfl
      · split at h
        · cases h
        · cases h; exact .inr rfl

theorem linesP_cons (c : Cmd) (r : List Cmd) : linesP (c :: r) = match lineR c with
    | .error e => .error e
    | .ok s => (linesP r).map fun t => s ++ t := rfl

theorem linesP_err : ∀ {L : List Cmd} {e : Int}, linesP L = .error e → e = 221 ∨ e = 223
  | [], e, h => by cases h
  | c :: r, e, h => by
    rw [linesP_cons] at h
    split at h
    · rename_i h1
      cases h
      exact lineR_err h1
    · cases hr : linesP r with
      | error e2 => rw [hr] at h; cases h; exact linesP_err hr
      | ok t => rw [hr] at h; cases h

/-- What is written with an error is nothing. -/
theorem printR_err {L : List Cmd} {s : Bs} {e : Int} (h : printR L = (s, e)) (he : e ≠ 0) : s = [] ∧ (e = 220 ∨ e = 221 ∨ e = 223) := by
  unfold printR at h
  split at h
  · rename_i e2 h2
    cases h
    exact ⟨rfl, .inr (linesP_err h2)⟩
  · split at h
    · cases h; exact ⟨rfl, .inl rfl⟩
    · cases h; exact absurd rfl he

/-- A written line says its command. -/
theorem says_line {c : Cmd} {s : Bs} (hb : ∀ x ∈ c.bytes, 0 ≤ x ∧ x ≤ 255) (hl : lineR c = .ok s) : ∃ l, s = l ++ [10] ∧ (∀ x ∈ l, x ≠ 10) ∧ says l = some (.ok (plainR c)) := by
  obtain ⟨t, rfl, w1, w2, ht, hr⟩ := line_back hb hl
  refine ⟨c.word ++ tail32 t, rfl, ?_, ?_⟩
  · intro x hx
    rcases List.mem_append.1 hx with h | h
    · exact (w1.2 x h).2
    · unfold tail32 at h
      obtain ⟨w, hw, h⟩ := List.mem_flatMap.1 h
      rcases List.mem_cons.1 h with rfl | h
      · decide
      · exact ((ht w hw).2 x h).2
  · unfold says
    rw [words_tail c.word t w1 ht]
    dsimp only
    rw [if_neg w2, hr]

/-- All that is written: its lines. -/
theorem back_lines : ∀ (L : List Cmd) (s : Bs), (∀ c ∈ L, ∀ x ∈ c.bytes, 0 ≤ x ∧ x ≤ 255) → linesP L = .ok s →
    (split 10 s).length = L.length + 1 ∧ ∀ i out, linesR i (split 10 s) out = (out ++ L.map plainR, 0, 0)
  | [], s, _, h => by
    cases h
    refine ⟨rfl, fun i out => ?_⟩
    show linesR i [[]] out = _
    rw [linesR_cons]
    simp [says, words, split, linesR]
  | c :: r, s, hb, h => by
    rw [linesP_cons] at h
    split at h
    · cases h
    · rename_i s1 h1
      cases hr : linesP r with
      | error e => rw [hr] at h; cases h
      | ok s2 =>
        rw [hr] at h
        cases h
        obtain ⟨l, rfl, l1, l2⟩ := says_line (hb c (by simp)) h1
        obtain ⟨q1, q2⟩ := back_lines r s2 (fun d hd => hb d (List.mem_cons_of_mem _ hd)) hr
        have e : split 10 (l ++ [10] ++ s2) = l :: split 10 s2 := by
          rw [List.append_assoc, split_free 10 l _ l1]
          show glue l (split 10 (10 :: s2)) = _
          rw [split_hit]
          simp [glue]
        rw [e]
        refine ⟨by simp [q1], fun i out => ?_⟩
        rw [linesR_cons, l2]
        dsimp only
        rw [q2]
        simp

/-- P22.4: what is written of commands is read as these. -/
theorem parse_print {L : List Cmd} {s : Bs} (hb : ∀ c ∈ L, ∀ x ∈ c.bytes, 0 ≤ x ∧ x ≤ 255) (h : printR L = (s, 0)) :
    parseR s = (L.map plainR, 0, 0) ∧ s.length ≤ 65536 ∧ (split 10 s).length = L.length + 1 ∧ linesP L = .ok s := by
  unfold printR at h
  split at h
  · rename_i e he
    cases h
    rcases linesP_err he with h | h <;> cases h
  · rename_i t ht
    split at h
    · cases h
    · rename_i hn
      cases h
      obtain ⟨q1, q2⟩ := back_lines L s hb ht
      refine ⟨?_, by omega, q1, ht⟩
      unfold parseR
      rw [if_neg (by omega), if_neg (by omega), q2]
      rfl

/-! What is read of a text is written. -/

theorem read_lines : ∀ (S : List Bs) (i : Nat) (out L : List Cmd), linesR i S out = (L, 0, 0) →
    ∃ M s, L = out ++ M ∧ M.length ≤ S.length ∧ linesP M = .ok s ∧ s.length ≤ (tail32 S).length ∧ ∀ c ∈ M, plainR c = c ∧ ∀ x ∈ c.bytes, 0 ≤ x ∧ x ≤ 255
  | [], i, out, L, h => by
    rw [linesR] at h
    cases h
    exact ⟨[], [], by simp, by simp, rfl, by simp, by simp⟩
  | l :: r, i, out, L, h => by
    rw [linesR_cons] at h
    split at h
    · obtain ⟨M, s, h1, h2, h3, h4, h5⟩ := read_lines r _ _ _ h
      exact ⟨M, s, h1, by simp; omega, h3, by rw [tail32_cons]; simp; omega, h5⟩
    · rename_i c hs
      obtain ⟨M, s, h1, h2, h3, h4, h5⟩ := read_lines r _ _ _ h
      unfold says at hs
      split at hs
      · cases hs
      · rename_i x t hw
        split at hs
        · cases hs
        · have hr := Option.some.inj hs
          obtain ⟨q1, q2, q3, _, q4⟩ := line_read hr
          have hl := words_tlen l
          rw [hw, tail32_cons] at hl
          simp at hl
          refine ⟨c :: M, x ++ tail32 t ++ [10] ++ s, by rw [h1]; simp, by simp; omega, ?_, ?_, ?_⟩
          · rw [linesP_cons, q1, h3]
            rfl
          · rw [tail32_cons]
            simp
            omega
          · intro d hd
            rcases List.mem_cons.1 hd with rfl | hd
            · exact ⟨q2, q4⟩
            · exact h5 d hd
    · have h2 := congrArg (fun p => p.2.1) h
      simp only at h2
      omega

theorem map_plain {M : List Cmd} (h : ∀ c ∈ M, plainR c = c) : M.map plainR = M := by
  induction M with
  | nil => rfl
  | cons c r ih => rw [List.map_cons, h c (by simp), ih fun d hd => h d (List.mem_cons_of_mem _ hd)]

/-- P22.4 the other way: what is read of a text is written, or too long; and read again it is the same. -/
theorem parse_again {text : Bs} {L : List Cmd} (h : parseR text = (L, 0, 0)) :
    (∃ s, printR L = (s, 0) ∧ parseR s = (L, 0, 0) ∧ s.length ≤ text.length + 1) ∨ (printR L = ([], 220) ∧ (text.length = 65536 ∨ (split 10 text).length = 4096)) := by
  unfold parseR at h
  split at h
  · cases h
  · split at h
    · cases h
    · rename_i n1 n2
      obtain ⟨M, s, hM, h2, h3, h4, h5⟩ := read_lines _ _ _ _ h
      rw [List.nil_append] at hM
      subst hM
      rw [split_tlen] at h4
      by_cases hc : 65536 < s.length ∨ 4096 < L.length + 1
      · refine .inr ⟨?_, ?_⟩
        · unfold printR
          rw [h3]
          exact if_pos hc
        · omega
      · have hp : printR L = (s, 0) := by
          unfold printR
          rw [h3]
          exact if_neg hc
        refine .inl ⟨s, hp, ?_, h4⟩
        have := (parse_print (fun c hc => (h5 c hc).2) hp).1
        rwa [map_plain fun c hc => (h5 c hc).1] at this

/-- What is read with an error is nothing. -/
theorem parse_err {text : Bs} {L : List Cmd} {a e : Int} (h : parseR text = (L, a, e)) : (e = 0 ∧ a = 0) ∨ (e ≠ 0 ∧ L = [] ∧ 0 ≤ a ∧ a ≤ (split 10 text).length) := by
  unfold parseR at h
  split at h
  · cases h; exact .inr ⟨by decide, rfl, by omega, by omega⟩
  · split at h
    · cases h; exact .inr ⟨by decide, rfl, by omega, by omega⟩
    · rcases linesR_end (split 10 text) 0 [] with ⟨M, q⟩ | ⟨k, e2, q1, q2, q3⟩
      · rw [q] at h
        cases h
        exact .inl ⟨rfl, rfl⟩
      · have := q3 [] 0 []
        rw [List.append_nil] at this
        rw [this] at h
        cases h
        exact .inr ⟨by omega, rfl, by omega, by omega⟩

/-! Two texts, one behind the other. -/

theorem split_mid (c : UInt8) : ∀ (a b : Bs), split c (a ++ c :: b) = split c a ++ split c b
  | [], b => by rw [List.nil_append, split_hit]; rfl
  | x :: a, b => by
    have ih := split_mid c a b
    rw [List.cons_append]
    by_cases hx : x = c
    · subst hx
      rw [split_hit, split_hit, ih]
      rfl
    · rw [split, if_neg hx, ih]
      conv => rhs; rw [split, if_neg hx]
      cases h : split c a with
      | nil => exact absurd h (split_ne c a)
      | cons y ys => rfl

theorem parse_joined {a b : Bs} {l m : List Cmd} {x y : Int} (ha : parseR a = (l, x, 0)) (hb : parseR b = (m, y, 0)) :
    parseR (a ++ 10 :: b) = if 65536 < (a ++ 10 :: b).length ∨ 4096 < (split 10 (a ++ 10 :: b)).length then ([], 0, 220) else (l ++ m, 0, 0) := by
  have hx : x = 0 := by rcases parse_err ha with h | h; exact h.2; exact absurd rfl h.1
  have hy : y = 0 := by rcases parse_err hb with h | h; exact h.2; exact absurd rfl h.1
  subst hx hy
  unfold parseR at ha hb
  split at ha
  · cases ha
  split at ha
  · cases ha
  split at hb
  · cases hb
  split at hb
  · cases hb
  obtain ⟨M, hM, q⟩ := linesR_ok _ _ _ _ ha
  obtain ⟨N, hN, p⟩ := linesR_ok _ _ _ _ hb
  rw [List.nil_append] at hM hN
  subst hM hN
  unfold parseR
  by_cases h1 : 65536 < (a ++ 10 :: b).length
  · rw [if_pos h1, if_pos (.inl h1)]
  · rw [if_neg h1]
    by_cases h2 : 4096 < (split 10 (a ++ 10 :: b)).length
    · rw [if_pos h2, if_pos (.inr h2)]
    · rw [if_neg h2, if_neg (by rintro (h | h); exact h1 h; exact h2 h), split_mid, q]
      have := p [] (0 + (split 10 a).length) ([] ++ l)
      rw [List.append_nil] at this
      rw [this]
      simp [linesR]

/-! Blanks and remarks. -/

/-- Blanks around each blank and each end of a line. -/
def stretch (s : Bs) : Bs := s.flatMap fun c => if c = 32 ∨ c = 10 then [32, c, 32] else [c]

theorem words_blank (x y : Bs) : words (x ++ 32 :: y) = words x ++ words y := by
  unfold words
  rw [split_mid, List.filter_append]
theorem words_skip (y : Bs) : words (32 :: y) = words y := by
  have := words_blank [] y
  rw [List.nil_append] at this
  rw [this]
  rfl

theorem stretch_cons (c : UInt8) (s : Bs) : stretch (c :: s) = (if c = 32 ∨ c = 10 then [32, c, 32] else [c]) ++ stretch s := by simp [stretch]

theorem stretch_split : ∀ s : Bs, ∃ p p' r r', split 10 s = p :: r ∧ split 10 (stretch s ++ [32, 32]) = p' :: r' ∧ (∀ x, words (x ++ p') = words (x ++ p)) ∧ r'.map words = r.map words
  | [] => by
    refine ⟨[], [32, 32], [], [], rfl, by decide, fun x => ?_, rfl⟩
    rw [words_blank, words_skip]
    simp [words, split]
  | c :: s => by
    obtain ⟨p, p', r, r', e1, e2, h1, h2⟩ := stretch_split s
    rw [stretch_cons, List.append_assoc]
    by_cases c1 : c = 32
    · subst c1
      refine ⟨[32] ++ p, [32, 32, 32] ++ p', r, r', ?_, ?_, fun x => ?_, h2⟩
      · rw [split, if_neg (by decide), e1]; rfl
      · rw [if_pos (.inl rfl), split_free 10 [32, 32, 32] _ (by decide), e2]; rfl
      · show words (x ++ 32 :: 32 :: 32 :: p') = words (x ++ 32 :: p)
        rw [words_blank, words_blank, words_skip, words_skip]
        have := h1 []
        rw [List.nil_append, List.nil_append] at this
        rw [this]
    · by_cases c2 : c = 10
      · subst c2
        refine ⟨[], [32], p :: r, ([32] ++ p') :: r', ?_, ?_, fun x => ?_, ?_⟩
        · rw [split_hit, e1]
        · rw [if_pos (.inr rfl)]
          show split 10 ([32] ++ 10 :: ([32] ++ (stretch s ++ [32, 32]))) = _
          rw [split_mid, split_free 10 [32] (stretch s ++ [32, 32]) (by decide), e2]
          rfl
        · rw [words_blank]; simp [words, split]
        · rw [List.map_cons, List.map_cons, h2]
          congr 1
          show words (32 :: p') = words p
          rw [words_skip]
          have := h1 []
          rwa [List.nil_append, List.nil_append] at this
      · refine ⟨[c] ++ p, [c] ++ p', r, r', ?_, ?_, fun x => ?_, h2⟩
        · rw [split, if_neg c2, e1]; rfl
        · rw [if_neg (by rintro (h | h); exact c1 h; exact c2 h), split_free 10 [c] _ (by simpa using c2), e2]; rfl
        · rw [← List.append_assoc, ← List.append_assoc, h1]

theorem linesR_words : ∀ (S S' T : List Bs) (i : Nat) (out : List Cmd), S'.map words = S.map words → linesR i (S' ++ T) out = linesR i (S ++ T) out
  | [], [], _, _, _, _ => rfl
  | [], _ :: _, _, _, _, h => by cases h
  | _ :: _, [], _, _, _, h => by cases h
  | l :: S, l' :: S', T, i, out, h => by
    rw [List.map_cons, List.map_cons] at h
    injection h with h1 h2
    have hs : says l' = says l := by unfold says; rw [h1]
    rw [List.cons_append, List.cons_append, linesR_cons, linesR_cons, hs]
    split
    · exact linesR_words S S' T _ _ h2
    · exact linesR_words S S' T _ _ h2
    · rfl

/-- A text with remarks and blanks around. -/
def longT (note text : Bs) : Bs := [32, 35] ++ note ++ [10, 32, 32, 10] ++ stretch text ++ [32, 32, 10, 35, 32, 116, 104, 101, 32, 101, 110, 100]

theorem stretch_len (s : Bs) : s.length ≤ (stretch s).length := by
  induction s with
  | nil => simp [stretch]
  | cons c s ih =>
    rw [stretch_cons]
    split <;> simp <;> omega

theorem long_split (note text : Bs) (hn : ∀ x ∈ note, x ≠ 10) : ∃ S', split 10 (longT note text) = ([32, 35] ++ note) :: [32, 32] :: (S' ++ [[35, 32, 116, 104, 101, 32, 101, 110, 100]]) ∧ S'.map words = (split 10 text).map words := by
  obtain ⟨p, p', r, r', e1, e2, h1, h2⟩ := stretch_split text
  refine ⟨p' :: r', ?_, ?_⟩
  · have e : longT note text = ([32, 35] ++ note) ++ 10 :: ([32, 32] ++ 10 :: ((stretch text ++ [32, 32]) ++ 10 :: [35, 32, 116, 104, 101, 32, 101, 110, 100])) := by
      unfold longT
      simp
    rw [e, split_mid, split_mid, split_mid, e2]
    have n1 : split 10 ([32, 35] ++ note) = [[32, 35] ++ note] := by
      have := split_free 10 ([32, 35] ++ note) [] (fun x hx => by
        rcases List.mem_append.1 hx with h | h
        · rcases List.mem_cons.1 h with rfl | h
          · decide
          · rcases List.mem_cons.1 h with rfl | h
            · decide
            · cases h
        · exact hn x h)
      rw [List.append_nil] at this
      rw [this]
      simp [split, glue]
    rw [n1]
    rfl
  · rw [e1, List.map_cons, List.map_cons, h2]
    have := h1 []
    rw [List.nil_append, List.nil_append] at this
    rw [this]

theorem says_note (note : Bs) : says ([32, 35] ++ note) = none := by
  unfold says
  have : ∃ t r, words ([32, 35] ++ note) = (35 :: t) :: r := by
    show ∃ t r, words (32 :: 35 :: note) = _
    rw [words_skip]
    unfold words
    cases h : split 32 note with
    | nil => exact absurd h (split_ne 32 note)
    | cons y ys =>
      refine ⟨y, ys.filter fun w => !w.isEmpty, ?_⟩
      rw [split, if_neg (by decide), h]
      simp [glue]
  obtain ⟨t, r, e⟩ := this
  rw [e]
  rfl

/-- P22.5: lines and blanks that say nothing. -/
theorem parse_nothing (note text : Bs) (hn : ∀ x ∈ note, x ≠ 10) (h1 : (longT note text).length ≤ 65536) (h2 : (split 10 (longT note text)).length ≤ 4096) :
    ∃ L a e, parseR text = (L, a, e) ∧ ((a = 0 ∧ parseR (longT note text) = (L, 0, e)) ∨ (0 < a ∧ parseR (longT note text) = (L, a + 2, e))) := by
  obtain ⟨S', e1, e2⟩ := long_split note text hn
  have hl := stretch_len text
  have hl2 : S'.length = (split 10 text).length := by
    have := congrArg List.length e2
    rwa [List.length_map, List.length_map] at this
  have h3 : text.length ≤ 65536 := by
    have : (longT note text).length = note.length + (stretch text).length + 18 := by
      unfold longT
      simp
      omega
    omega
  have h4 : (split 10 text).length ≤ 4096 := by
    rw [e1] at h2
    simp at h2
    omega
  have hp : parseR (longT note text) = linesR 2 (split 10 text ++ [[35, 32, 116, 104, 101, 32, 101, 110, 100]]) [] := by
    unfold parseR
    rw [if_neg (by omega), if_neg (by omega), e1, linesR_cons, says_note]
    dsimp only
    rw [linesR_cons, show says [32, 32] = none from by decide]
    dsimp only
    exact linesR_words _ _ _ _ _ e2
  have ht : parseR text = linesR 0 (split 10 text) [] := by
    unfold parseR
    rw [if_neg (by omega), if_neg (by omega)]
  rw [hp, ht]
  rcases linesR_end (split 10 text) 0 [] with ⟨M, q⟩ | ⟨k, e, q1, q2, q3⟩
  · obtain ⟨N, rfl, p⟩ := linesR_ok _ _ _ _ q
    refine ⟨_, 0, 0, q, .inl ⟨rfl, ?_⟩⟩
    rw [p, linesR_cons, show says [35, 32, 116, 104, 101, 32, 101, 110, 100] = none from by decide]
    rfl
  · refine ⟨[], 0 + k + 1, e, by have := q3 [] 0 []; rwa [List.append_nil] at this, .inr ⟨by omega, ?_⟩⟩
    rw [q3]
    congr 2
    omega

/-! One by one. -/

theorem print_one (c : Cmd) : printR [c] = match lineR c with
    | .error e => ([], e)
    | .ok s => if 65536 < s.length then ([], 220) else (s, 0) := by
  unfold printR
  rw [linesP_cons]
  cases lineR c with
  | error e => rfl
  | ok s =>
    have e : (match (Except.ok s : Except Int Bs) with
        | .error e => (.error e : Except Int Bs)
        | .ok s => (linesP []).map fun t => s ++ t) = .ok s := by
      show Except.ok (s ++ []) = _
      rw [List.append_nil]
    rw [e]
    show (if 65536 < s.length ∨ 4096 < [c].length + 1 then ([], 220) else (s, 0)) = if 65536 < s.length then ([], 220) else (s, 0)
    by_cases h : 65536 < s.length
    · rw [if_pos h, if_pos (.inl h)]
    · rw [if_neg h, if_neg (by rintro (h2 | h2); exact h h2; simp at h2)]

theorem linesP_snoc : ∀ (A : List Cmd) (c : Cmd), linesP (A ++ [c]) = match linesP A with
    | .error e => .error e
    | .ok s => (lineR c).map fun t => s ++ t
  | [], c => by
    rw [List.nil_append, linesP_cons]
    cases lineR c with
    | error e => rfl
    | ok s => show Except.ok (s ++ []) = Except.ok ([] ++ s); simp
  | a :: A, c => by
    rw [List.cons_append, linesP_cons, linesP_cons, linesP_snoc A c]
    cases lineR a with
    | error e => rfl
    | ok s =>
      cases linesP A with
      | error e => rfl
      | ok t =>
        cases lineR c with
        | error e => rfl
        | ok u => show Except.ok (s ++ (t ++ u)) = Except.ok (s ++ t ++ u); rw [List.append_assoc]

theorem linesP_err_app : ∀ (A B : List Cmd) {e : Int}, linesP A = .error e → linesP (A ++ B) = .error e
  | [], _, e, h => by cases h
  | a :: A, B, e, h => by
    rw [linesP_cons] at h
    rw [List.cons_append, linesP_cons]
    split at h
    · cases h
      rfl
    · rename_i s h1
      cases hA : linesP A with
      | error e2 => rw [hA] at h; cases h; rw [linesP_err_app A B hA]; rfl
      | ok t => rw [hA] at h; cases h

theorem linesP_ok_app : ∀ (A B : List Cmd) {s : Bs}, linesP A = .ok s → linesP (A ++ B) = (linesP B).map fun t => s ++ t
  | [], B, s, h => by
    cases h
    show linesP B = _
    cases linesP B <;> rfl
  | a :: A, B, s, h => by
    rw [linesP_cons] at h
    rw [List.cons_append, linesP_cons]
    split at h
    · cases h
    · rename_i u h1
      cases hA : linesP A with
      | error e2 => rw [hA] at h; cases h
      | ok t =>
        rw [hA] at h
        cases h
        dsimp only
        rw [linesP_ok_app A B hA]
        cases linesP B with
        | error e => rfl
        | ok v => show Except.ok (u ++ (t ++ v)) = Except.ok (u ++ t ++ v); rw [List.append_assoc]

/-- One that can't be written, or is too long: then all can't. -/
theorem print_bad {A B : List Cmd} {c : Cmd} {e : Int} (h : printR [c] = ([], e)) (he : e ≠ 0) : ∃ e2, printR (A ++ c :: B) = ([], e2) ∧ e2 ≠ 0 := by
  have hne : (printR (A ++ c :: B)).2 ≠ 0 := by
    rw [print_one] at h
    unfold printR
    cases hA : linesP A with
    | error e1 =>
      rw [linesP_err_app A _ hA]
      rcases linesP_err hA with rfl | rfl
      · exact (by decide : (221 : Int) ≠ 0)
      · exact (by decide : (223 : Int) ≠ 0)
    | ok s =>
      rw [linesP_ok_app A _ hA, linesP_cons]
      cases hc : lineR c with
      | error e1 =>
        show e1 ≠ 0
        rcases lineR_err hc with rfl | rfl <;> decide
      | ok t =>
        rw [hc] at h
        cases hB : linesP B with
        | error e2 =>
          show e2 ≠ 0
          rcases linesP_err hB with rfl | rfl <;> decide
        | ok u =>
          by_cases ht : 65536 < t.length
          · show (if 65536 < (s ++ (t ++ u)).length ∨ _ then (([], 220) : Bs × Int) else _).2 ≠ 0
            rw [if_pos (.inl (by simp; omega))]
            decide
          · rw [show (match (Except.ok t : Except Int Bs) with | .error e => (([], e) : Bs × Int) | .ok s => if 65536 < s.length then ([], 220) else (s, 0)) = if 65536 < t.length then ([], 220) else (t, 0) from rfl, if_neg ht] at h
            cases h
            exact absurd rfl he
  obtain ⟨s, e2, h2⟩ : ∃ s e2, printR (A ++ c :: B) = (s, e2) := ⟨_, _, rfl⟩
  rw [h2] at hne ⊢
  exact ⟨e2, by rw [(printR_err h2 hne).1], hne⟩
end Go.Proofs.YtlibjfmafpiopaaGreatDoor.Scr
