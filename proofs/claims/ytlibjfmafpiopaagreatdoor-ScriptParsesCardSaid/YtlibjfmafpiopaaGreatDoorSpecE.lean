/- Reading back what is written, and writing what was read: plain laws on rows of bytes. No program in sight. -/
import Derived.Test.YtlibjfmafpiopaaGreatDoorNum
import Derived.Test.YtlibjfmafpiopaaGreatDoorSpecC
namespace Go.Proofs.YtlibjfmafpiopaaGreatDoor.Scr
open Go.Lib (itoa decDigits)

/-- A word that stands as it is. -/
def Plain (w : Bs) : Prop := w ≠ [] ∧ ∀ c ∈ w, c ≠ 32 ∧ c ≠ 10

instance (w : Bs) : Decidable (Plain w) := by unfold Plain; exact inferInstance

theorem split_free (c : UInt8) : ∀ (w s : Bs), (∀ x ∈ w, x ≠ c) → split c (w ++ s) = glue w (split c s)
  | [], s, _ => (glue_nil (split_ne c s)).symm
  | x :: w, s, h => by
    have hx := h x (by simp)
    rw [List.cons_append, split, if_neg hx, split_free c w s (fun y hy => h y (List.mem_cons_of_mem _ hy)), glue_glue]
    rfl

theorem split_hit (c : UInt8) (s : Bs) : split c (c :: s) = [] :: split c s := by rw [split, if_pos rfl]

theorem split_tail : ∀ (h : Bs) (ws : List Bs), (∀ x ∈ h, x ≠ 32) → (∀ w ∈ ws, ∀ x ∈ w, x ≠ 32) → split 32 (h ++ tail32 ws) = h :: ws
  | h, [], hh, _ => by
    rw [split_free 32 h _ hh, tail32_nil]
    simp [split, glue]
  | h, w :: ws, hh, hw => by
    rw [split_free 32 h _ hh, tail32_cons, split_hit, split_tail w ws (hw w (by simp)) (fun v hv => hw v (by simp [hv]))]
    simp [glue]

theorem words_tail (h : Bs) (ws : List Bs) (hh : Plain h) (hw : ∀ w ∈ ws, Plain w) : words (h ++ tail32 ws) = h :: ws := by
  unfold words
  rw [split_tail h ws (fun x hx => (hh.2 x hx).1) (fun w hm x hx => ((hw w hm).2 x hx).1), List.filter_eq_self]
  intro w hm
  rcases List.mem_cons.1 hm with rfl | hm
  · simpa using hh.1
  · simpa using (hw w hm).1

theorem split_mem (c : UInt8) : ∀ (s : Bs), ∀ p ∈ split c s, ∀ x ∈ p, x ∈ s ∧ x ≠ c
  | [], p, hp, x, hx => by simp [split] at hp; subst hp; cases hx
  | y :: s, p, hp, x, hx => by
    have ih := split_mem c s
    unfold split at hp
    split at hp
    · rcases List.mem_cons.1 hp with rfl | hp
      · cases hx
      · have := ih p hp x hx
        exact ⟨by simp [this.1], this.2⟩
    · rename_i hne
      cases h : split c s with
      | nil => exact absurd h (split_ne c s)
      | cons z zs =>
        rw [h] at hp ih
        simp only [glue, List.mem_cons] at hp
        rcases hp with rfl | hp
        · rcases List.mem_append.1 hx with h1 | h1
          · simp at h1
            subst h1
            exact ⟨by simp, hne⟩
          · have := ih z (by simp) x h1
            exact ⟨by simp [this.1], this.2⟩
        · have := ih p (by simp [hp]) x hx
          exact ⟨by simp [this.1], this.2⟩

theorem split_tlen (c : UInt8) : ∀ s : Bs, (tail32 (split c s)).length = s.length + 1
  | [] => by simp [split, tail32]
  | y :: s => by
    have ih := split_tlen c s
    unfold split
    split
    · rw [tail32_cons]; simp; omega
    · cases h : split c s with
      | nil => exact absurd h (split_ne c s)
      | cons z zs =>
        rw [h, tail32_cons] at ih
        simp only [glue, tail32_cons]
        simp at ih ⊢
        omega

theorem tail32_filter (p : Bs → Bool) : ∀ L : List Bs, (tail32 (L.filter p)).length ≤ (tail32 L).length
  | [] => by simp
  | x :: L => by
    have ih := tail32_filter p L
    rw [List.filter_cons]
    split
    · rw [tail32_cons, tail32_cons]; simp; omega
    · rw [tail32_cons]; simp; omega

theorem words_tlen (s : Bs) : (tail32 (words s)).length ≤ s.length + 1 := by
  have := tail32_filter (fun w => !w.isEmpty) (split 32 s)
  rw [split_tlen] at this
  exact this

theorem words_plain {s : Bs} (hs : ∀ x ∈ s, x ≠ 10) : ∀ w ∈ words s, Plain w := by
  intro w hw
  unfold words at hw
  obtain ⟨h1, h2⟩ := List.mem_filter.1 hw
  exact ⟨by simpa using h2, fun c hc => ⟨(split_mem 32 s w h1 c hc).2, hs c (split_mem 32 s w h1 c hc).1⟩⟩

/-! Hex. -/

theorem hexd_digit : ∀ i : Fin 16, digit (hexd i.val) = (i.val : Int) ∧ hexd i.val ≠ 32 ∧ hexd i.val ≠ 10 := by decide +kernel
theorem digit_hexd_fin : ∀ i : Fin 256, 0 ≤ digit (UInt8.ofNat i.val) → digit (UInt8.ofNat i.val) < 16 ∧ hexd (digit (UInt8.ofNat i.val)).toNat = UInt8.ofNat i.val := by decide +kernel
theorem digit_hexd (a : UInt8) (h : 0 ≤ digit a) : digit a < 16 ∧ hexd (digit a).toNat = a := by
  have := digit_hexd_fin ⟨a.toNat, a.toNat_lt⟩
  simp only [UInt8.ofNat_toNat] at this
  exact this h

theorem hexP_len2 : ∀ l : List Int, (hexP l).length = 2 * l.length
  | [] => rfl
  | b :: r => by simp only [hexP, List.length_cons, hexP_len2 r]; omega

theorem unhexP_hexP : ∀ l : List Int, (∀ x ∈ l, 0 ≤ x ∧ x ≤ 255) → unhexP (hexP l) = some l
  | [], _ => rfl
  | b :: r, h => by
    obtain ⟨h0, h1⟩ := h b (by simp)
    have d1 := (hexd_digit ⟨b.toNat / 16, by omega⟩).1
    have d2 := (hexd_digit ⟨b.toNat % 16, by omega⟩).1
    simp only at d1 d2
    simp only [hexP, unhexP]
    rw [d1, d2, if_neg (by omega), unhexP_hexP r (fun x hx => h x (List.mem_cons_of_mem _ hx)), Option.map_some, show (16 * ((b.toNat / 16 : Nat) : Int) + ((b.toNat % 16 : Nat) : Int)) = b from by omega]

theorem unhex_hex {l : List Int} (h : ∀ x ∈ l, 0 ≤ x ∧ x ≤ 255) : unhex (hex l) = some l := by
  unfold hex
  by_cases h0 : l.length = 0
  · rw [if_pos h0, List.eq_nil_of_length_eq_zero h0]
    rfl
  · rw [if_neg h0]
    have hl := hexP_len2 l
    unfold unhex
    rw [if_neg (fun e => by rw [e] at hl; simp at hl; omega), if_neg (by omega), unhexP_hexP l h]

theorem hexP_unhexP : ∀ (w : Bs) (b : List Int), unhexP w = some b → hexP b = w ∧ ∀ x ∈ b, 0 ≤ x ∧ x ≤ 255
  | [], b, h => by cases h; exact ⟨rfl, by simp⟩
  | [_], b, h => by cases h
  | a :: c :: r, b, h => by
    simp only [unhexP] at h
    split at h
    · cases h
    · rename_i hn
      cases hr : unhexP r with
      | none => rw [hr] at h; cases h
      | some l =>
        rw [hr] at h
        cases h
        obtain ⟨e1, e3⟩ := hexP_unhexP r l hr
        obtain ⟨a1, a2⟩ := digit_hexd a (by omega)
        obtain ⟨c1, c2⟩ := digit_hexd c (by omega)
        have q1 : (16 * digit a + digit c).toNat / 16 = (digit a).toNat := by omega
        have q2 : (16 * digit a + digit c).toNat % 16 = (digit c).toNat := by omega
        refine ⟨by rw [hexP, q1, q2, a2, c2, e1], ?_⟩
        intro x hx
        rcases List.mem_cons.1 hx with rfl | hx
        · omega
        · exact e3 x hx

theorem hex_unhex {w : Bs} {b : List Int} (h : unhex w = some b) : hex b = w ∧ ∀ x ∈ b, 0 ≤ x ∧ x ≤ 255 := by
  unfold unhex at h
  split at h
  · rename_i e
    cases h
    exact ⟨e.symm, by simp⟩
  · split at h
    · cases h
    · rename_i h1 h2
      obtain ⟨e1, e2⟩ := hexP_unhexP w b h
      refine ⟨?_, e2⟩
      unfold hex
      rw [if_neg (fun e => by rw [List.eq_nil_of_length_eq_zero e] at e1; simp [hexP] at e1; subst e1; simp at h2), e1]

theorem hexP_plain : ∀ l : List Int, (∀ x ∈ l, 0 ≤ x ∧ x ≤ 255) → ∀ c ∈ hexP l, c ≠ 32 ∧ c ≠ 10
  | [], _, c, hc => by cases hc
  | b :: r, h, c, hc => by
    obtain ⟨h0, h1⟩ := h b (by simp)
    have d1 := (hexd_digit ⟨b.toNat / 16, by omega⟩).2
    have d2 := (hexd_digit ⟨b.toNat % 16, by omega⟩).2
    rw [hexP, List.mem_cons, List.mem_cons] at hc
    rcases hc with rfl | rfl | hc
    · exact d1
    · exact d2
    · exact hexP_plain r (fun x hx => h x (List.mem_cons_of_mem _ hx)) c hc

theorem hex_plain {l : List Int} (h : ∀ x ∈ l, 0 ≤ x ∧ x ≤ 255) : Plain (hex l) := by
  unfold hex
  by_cases h0 : l.length = 0
  · rw [if_pos h0]
    decide
  · rw [if_neg h0]
    exact ⟨fun e => h0 (by have := hexP_len2 l; rw [e, List.length_nil] at this; omega), hexP_plain l h⟩

theorem itoa_plain (n : Int) : Plain (itoa n) := by
  unfold itoa
  have h := fun u => dec_all u
  split
  · refine ⟨by simp, fun c hc => ?_⟩
    rcases List.mem_cons.1 hc with rfl | hc
    · decide
    · have := h _ c hc
      constructor <;> (rintro rfl; simp at this)
  · refine ⟨dec_ne _, fun c hc => ?_⟩
    have := h _ c hc
    constructor <;> (rintro rfl; simp at this)

theorem id_plain {s : Bs} (h : isId s = true) : Plain s := by
  unfold isId at h
  simp only [Bool.and_eq_true, decide_eq_true_eq, List.all_eq_true] at h
  obtain ⟨⟨h1, _⟩, h2⟩ := h
  refine ⟨fun e => by subst e; simp at h1, fun c hc => ?_⟩
  have := h2 c hc
  constructor <;> (rintro rfl; simp at this)

/-! The words of the kinds. -/

def TAB : List (Int × Bs) := [(1, [105, 104]), (2, [105]), (3, [105]), (6, [105]), (15, [105]), (16, [105]), (4, [105, 110]), (5, [105, 110]), (7, []), (8, []), (9, []), (10, [110]), (11, [110]), (12, [110]), (13, [42]), (14, [110, 110, 110, 110])]

theorem ite_tab {c : Prop} [Decidable c] {a b : Int × Bs} (ha : a ∈ TAB) (hb : b.1 = 0 ∨ b ∈ TAB) : (if c then a else b).1 = 0 ∨ (if c then a else b) ∈ TAB := by split; exact .inr ha; exact hb

theorem kindR_tab (h : Bs) : (kindR h).1 = 0 ∨ kindR h ∈ TAB := by
  unfold kindR
  repeat' (refine ite_tab (by decide) ?_)
  exact .inl rfl

theorem ite_word {w v : Bs} {a b : Int × Bs} (hv : Plain v ∧ v.head? ≠ some 35) (hb : b.1 ≠ 0 → Plain w ∧ w.head? ≠ some 35) : (if (w == v) = true then a else b).1 ≠ 0 → Plain w ∧ w.head? ≠ some 35 := by
  split
  · rename_i e
    rw [eq_of_beq e]
    exact fun _ => hv
  · exact hb

theorem kindR_word {h : Bs} : (kindR h).1 ≠ 0 → Plain h ∧ h.head? ≠ some 35 := by
  unfold kindR
  repeat' (refine ite_word (by decide) ?_)
  exact fun e => absurd rfl e

/-- A command with what its line does not name taken away. -/
def plainR (c : Cmd) : Cmd :=
  { word := c.word, kind := c.kind, id := if c.kind = 1 ∨ c.kind = 4 ∨ c.kind = 5 ∨ c.kind = 2 ∨ c.kind = 3 ∨ c.kind = 6 ∨ c.kind = 15 ∨ c.kind = 16 then c.id else [],
    bytes := if c.kind = 1 then c.bytes else [], n := if c.kind = 4 ∨ c.kind = 5 ∨ c.kind = 10 ∨ c.kind = 11 ∨ c.kind = 12 then c.n else 0, keep := if c.kind = 13 ∨ c.kind = 14 then c.keep else [] }

/-! Numbers in a row. -/

theorem args_back (k : Int) (form : Bs) : ∀ (l : List Int) (i : Nat) (c : Cmd), (∀ j, j < l.length → stepR k (formAt form (i + j)) = stepS 107) → l.all may = true → argsR k form i (l.map itoa) c = some { c with keep := c.keep ++ l }
  | [], i, c, _, _ => by simp [argsR]
  | x :: l, i, c, h, hm => by
    have h0 := h 0 (by simp)
    rw [Nat.add_zero] at h0
    simp only [List.all_cons, Bool.and_eq_true] at hm
    simp only [List.map_cons, argsR, h0]
    have e : stepS 107 c (itoa x) = some { c with keep := c.keep ++ [x] } := by
      unfold stepS
      rw [number_itoa x hm.1]
      simp
    rw [e, Option.bind_some, args_back k form l (i + 1) _ (fun j hj => by have := h (j + 1) (by simpa using hj); rwa [show i + (j + 1) = i + 1 + j from by omega] at this) hm.2]
    simp

theorem args_read (k : Int) (form : Bs) : ∀ (ws : List Bs) (i : Nat) (c d : Cmd), (∀ j, j < ws.length → stepR k (formAt form (i + j)) = stepS 107) → argsR k form i ws c = some d → ∃ l : List Int, d = { c with keep := c.keep ++ l } ∧ l.map itoa = ws ∧ l.all may = true
  | [], i, c, d, _, h => by
    simp only [argsR] at h
    cases h
    exact ⟨[], by simp, rfl, rfl⟩
  | w :: ws, i, c, d, hs, h => by
    have h0 := hs 0 (by simp)
    rw [Nat.add_zero] at h0
    simp only [argsR, h0] at h
    cases hn : number w with
    | none => simp [stepS, hn] at h
    | some x =>
      have e : stepS 107 c w = some { c with keep := c.keep ++ [x] } := by
        unfold stepS
        rw [hn]
        simp
      rw [e, Option.bind_some] at h
      obtain ⟨l, rfl, h2, h3⟩ := args_read k form ws (i + 1) _ d (fun j hj => by have := hs (j + 1) (by simpa using hj); rwa [show i + (j + 1) = i + 1 + j from by omega] at this) h
      obtain ⟨e1, e2⟩ := itoa_number hn
      exact ⟨x :: l, by simp, by simp [e1, h2], by simp [e2, h3]⟩

/-! A line and its command. -/

theorem tab_form {h : Bs} (h0 : (kindR h).1 ≠ 0) : ∃ k form, kindR h = (k, form) ∧ k ≠ 0 ∧
    ((k = 1 ∧ form = [105, 104]) ∨ ((k = 2 ∨ k = 3 ∨ k = 6 ∨ k = 15 ∨ k = 16) ∧ form = [105]) ∨ ((k = 4 ∨ k = 5) ∧ form = [105, 110]) ∨ ((k = 7 ∨ k = 8 ∨ k = 9) ∧ form = []) ∨ ((k = 10 ∨ k = 11 ∨ k = 12) ∧ form = [110]) ∨ (k = 13 ∧ form = [42]) ∨ (k = 14 ∧ form = [110, 110, 110, 110])) := by
  refine ⟨(kindR h).1, (kindR h).2, rfl, h0, ?_⟩
  rcases kindR_tab h with e | e
  · exact absurd e h0
  · generalize kindR h = p at e
    obtain ⟨k, form⟩ := p
    simp only [TAB, List.mem_cons, List.mem_nil_iff, or_false, Prod.mk.injEq] at e
    rcases e with e | e | e | e | e | e | e | e | e | e | e | e | e | e | e | e <;> obtain ⟨rfl, rfl⟩ := e <;> simp

theorem step_id {k : Int} {c d : Cmd} {w : Bs} (h : stepR k 105 c w = some d) : isId w = true ∧ d = { c with id := w } := by
  unfold stepR at h
  rw [if_pos rfl] at h
  split at h
  · rename_i e; cases h; exact ⟨e, rfl⟩
  · cases h

theorem step_hex {k : Int} {c d : Cmd} {w : Bs} (h : stepR k 104 c w = some d) : ∃ b, unhex w = some b ∧ d = { c with bytes := b } := by
  unfold stepR at h
  rw [if_neg (by decide), if_pos rfl] at h
  cases hu : unhex w with
  | none => rw [hu] at h; cases h
  | some b => rw [hu] at h; cases h; exact ⟨b, rfl, rfl⟩

theorem step_num {k : Int} {c d : Cmd} {w : Bs} (hk : k ≠ 14) (h : stepR k 110 c w = some d) : ∃ n, number w = some n ∧ d = { c with n := n } := by
  unfold stepR at h
  rw [if_neg (by decide), if_neg (by decide)] at h
  cases hu : number w with
  | none => rw [hu] at h; cases h
  | some b =>
    rw [hu, Option.map_some, if_neg (by rintro (e | e); exact absurd e (by decide); exact hk e)] at h
    cases h
    exact ⟨b, rfl, rfl⟩

theorem len1 {α : Type} {l : List α} (h : l.length = 1) : ∃ a, l = [a] := by
  match l, h with
  | [a], _ => exact ⟨a, rfl⟩
theorem len2 {α : Type} {l : List α} (h : l.length = 2) : ∃ a b, l = [a, b] := by
  match l, h with
  | [a, b], _ => exact ⟨a, b, rfl⟩

/-- What is read is written as it stood, with single blanks. -/
theorem line_read {h : Bs} {t : List Bs} {c : Cmd} (hr : readR (h :: t) = .ok c) : lineR c = .ok (h ++ tail32 t ++ [10]) ∧ plainR c = c ∧ c.word = h ∧ (kindR h).1 ≠ 0 ∧ (∀ x ∈ c.bytes, 0 ≤ x ∧ x ≤ 255) := by
  unfold readR at hr
  dsimp only at hr
  by_cases h0 : (kindR h).1 = 0
  · rw [if_pos h0] at hr; cases hr
  rw [if_neg h0] at hr
  by_cases h1 : (kindR h).2 ≠ [42] ∧ t.length + 1 ≠ (kindR h).2.length + 1
  · rw [if_pos h1] at hr; cases hr
  rw [if_neg h1] at hr
  have ha : argsR (kindR h).1 (kindR h).2 0 t (cmd0 h (kindR h).1) = some c := by
    split at hr
    · rename_i d hd
      cases hr
      exact hd
    · cases hr
  clear hr
  have h0' := h0
  obtain ⟨k, form, hk, hk0, hf⟩ := tab_form h0
  rw [hk] at ha h1
  simp only at ha h1
  rcases hf with ⟨rfl, rfl⟩ | ⟨hk5, rfl⟩ | ⟨hk5, rfl⟩ | ⟨hk5, rfl⟩ | ⟨hk5, rfl⟩ | ⟨rfl, rfl⟩ | ⟨rfl, rfl⟩
  · obtain ⟨a, b, rfl⟩ := len2 (l := t) (by by_cases e : t.length = 2; exact e; exact absurd ⟨by decide, by simpa using e⟩ h1)
    simp only [argsR, formAt] at ha
    cases h2 : stepR 1 105 (cmd0 h 1) a with
    | none => simp [h2] at ha
    | some d =>
      obtain ⟨i1, rfl⟩ := step_id h2
      simp [h2] at ha
      obtain ⟨bs, hb, rfl⟩ := step_hex ha
      obtain ⟨e1, e2⟩ := hex_unhex hb
      refine ⟨?_, by simp [plainR, cmd0], rfl, h0', e2⟩
      simp [lineR, cmd0, hk, numsR, restR, i1, e1]
  · obtain ⟨a, rfl⟩ := len1 (l := t) (by by_cases e : t.length = 1; exact e; exact absurd ⟨by decide, by simpa using e⟩ h1)
    simp only [argsR, formAt] at ha
    simp at ha
    obtain ⟨i1, rfl⟩ := step_id ha
    refine ⟨?_, ?_, rfl, h0', by simp [cmd0]⟩
    · rcases hk5 with rfl | rfl | rfl | rfl | rfl <;> simp [lineR, cmd0, hk, numsR, restR, i1]
    · rcases hk5 with rfl | rfl | rfl | rfl | rfl <;> simp [plainR, cmd0]
  · obtain ⟨a, b, rfl⟩ := len2 (l := t) (by by_cases e : t.length = 2; exact e; exact absurd ⟨by decide, by simpa using e⟩ h1)
    simp only [argsR, formAt] at ha
    cases h2 : stepR k 105 (cmd0 h k) a with
    | none => simp [h2] at ha
    | some d =>
      obtain ⟨i1, rfl⟩ := step_id h2
      simp [h2] at ha
      obtain ⟨n, hn, rfl⟩ := step_num (by omega) ha
      obtain ⟨e1, e2⟩ := itoa_number hn
      refine ⟨?_, ?_, rfl, h0', by simp [cmd0]⟩
      · rcases hk5 with rfl | rfl <;> simp [lineR, cmd0, hk, numsR, restR, i1, e1, e2]
      · rcases hk5 with rfl | rfl <;> simp [plainR, cmd0]
  · obtain rfl := List.eq_nil_of_length_eq_zero (l := t) (by by_cases e : t.length = 0; exact e; exact absurd ⟨by decide, by simpa using e⟩ h1)
    simp [argsR] at ha
    subst ha
    refine ⟨?_, ?_, rfl, h0', by simp [cmd0]⟩
    · rcases hk5 with rfl | rfl | rfl <;> simp [lineR, cmd0, hk, numsR, restR]
    · rcases hk5 with rfl | rfl | rfl <;> simp [plainR, cmd0]
  · obtain ⟨a, rfl⟩ := len1 (l := t) (by by_cases e : t.length = 1; exact e; exact absurd ⟨by decide, by simpa using e⟩ h1)
    simp only [argsR, formAt] at ha
    simp at ha
    obtain ⟨n, hn, rfl⟩ := step_num (by omega) ha
    obtain ⟨e1, e2⟩ := itoa_number hn
    refine ⟨?_, ?_, rfl, h0', by simp [cmd0]⟩
    · rcases hk5 with rfl | rfl | rfl <;> simp [lineR, cmd0, hk, numsR, restR, e1, e2]
    · rcases hk5 with rfl | rfl | rfl <;> simp [plainR, cmd0]
  · obtain ⟨l, rfl, e1, e2⟩ := args_read 13 [42] t 0 _ c (fun j hj => step_keep (.inl (by simp [formAt]))) ha
    refine ⟨?_, by simp [plainR, cmd0], rfl, h0', by simp [cmd0]⟩
    have e3 : l.all may = true := e2
    simp only [lineR, cmd0, hk, numsR, restR, List.nil_append]
    rw [← e1]
    simp at e3
    simp
    exact e3
  · have hl : t.length = 4 := by by_cases e : t.length = 4; exact e; exact absurd ⟨by decide, by simpa using e⟩ h1
    obtain ⟨l, rfl, e1, e2⟩ := args_read 14 [110, 110, 110, 110] t 0 _ c (fun j hj => step_keep (.inr ⟨rfl, by
      rcases (by omega : j = 0 ∨ j = 1 ∨ j = 2 ∨ j = 3) with rfl | rfl | rfl | rfl <;> decide⟩)) ha
    refine ⟨?_, by simp [plainR, cmd0], rfl, h0', by simp [cmd0]⟩
    have hll : l.length = 4 := by rw [← hl, ← e1, List.length_map]
    simp only [lineR, cmd0, hk, numsR, restR, List.nil_append]
    rw [← e1]
    simp at e2
    simp [hll]
    exact e2

/-- What is written is read back, but for what its line does not name. -/
theorem line_back {c : Cmd} {s : Bs} (hb : ∀ x ∈ c.bytes, 0 ≤ x ∧ x ≤ 255) (hl : lineR c = .ok s) :
    ∃ t, s = c.word ++ tail32 t ++ [10] ∧ Plain c.word ∧ c.word.head? ≠ some 35 ∧ (∀ w ∈ t, Plain w) ∧ readR (c.word :: t) = .ok (plainR c) := by
  unfold lineR at hl
  by_cases h0 : (kindR c.word).1 = 0
  · rw [if_pos h0] at hl; cases hl
  rw [if_neg h0] at hl
  by_cases h1 : c.kind ≠ (kindR c.word).1 ∨ ((kindR c.word).1 = 14 ∧ c.keep.length ≠ 4)
  · rw [if_pos h1] at hl; cases hl
  rw [if_neg h1] at hl
  by_cases h2 : (kindR c.word).2.head? = some 105 ∧ isId c.id = false
  · rw [if_pos h2] at hl; cases hl
  rw [if_neg h2] at hl
  by_cases h3' : ¬ (numsR (kindR c.word).1 (kindR c.word).2 c).all may = true
  · rw [if_neg h3'] at hl; cases hl
  have h3 := Decidable.not_not.1 h3'
  clear h3'
  rw [if_pos h3] at hl
  obtain ⟨w1, w2⟩ := kindR_word h0
  refine ⟨restR (kindR c.word).1 (kindR c.word).2 c, by cases hl; rfl, w1, w2, ?_⟩
  obtain ⟨k, form, hk, hk0, hf⟩ := tab_form h0
  rw [hk] at h1 h2 h3
  simp only at h1 h2 h3
  have hck : c.kind = k := by by_cases e : c.kind = k; exact e; exact absurd (.inl e) h1
  obtain ⟨word, kind, id, bytes, n, keep⟩ := c
  simp only at hk hck hb h1 h2 h3 w1 w2 ⊢
  subst hck
  rw [hk]
  simp only
  clear hl h0
  unfold readR
  dsimp only
  rw [hk]
  simp only
  rw [if_neg hk0]
  rcases hf with ⟨rfl, rfl⟩ | ⟨hk5, rfl⟩ | ⟨hk5, rfl⟩ | ⟨hk5, rfl⟩ | ⟨hk5, rfl⟩ | ⟨rfl, rfl⟩ | ⟨rfl, rfl⟩
  · have hi : isId id = true := by simpa using h2
    have er : restR 1 [105, 104] ⟨word, 1, id, bytes, n, keep⟩ = [id, hex bytes] := by simp [restR, numsR]
    rw [er]
    refine ⟨by simp [id_plain hi, hex_plain hb], ?_⟩
    simp [argsR, formAt, stepR, hi, unhex_hex hb, cmd0, plainR]
  · have hi : isId id = true := by simpa using h2
    have er : restR kind [105] ⟨word, kind, id, bytes, n, keep⟩ = [id] := by rcases hk5 with rfl | rfl | rfl | rfl | rfl <;> simp [restR, numsR]
    rw [er]
    refine ⟨by simp [id_plain hi], ?_⟩
    rcases hk5 with rfl | rfl | rfl | rfl | rfl <;> simp [argsR, formAt, stepR, hi, cmd0, plainR]
  · have hi : isId id = true := by simpa using h2
    have hn : may n = true := by rcases hk5 with rfl | rfl <;> simpa [numsR] using h3
    have er : restR kind [105, 110] ⟨word, kind, id, bytes, n, keep⟩ = [id, itoa n] := by rcases hk5 with rfl | rfl <;> simp [restR, numsR]
    rw [er]
    refine ⟨by simp [id_plain hi, itoa_plain], ?_⟩
    rcases hk5 with rfl | rfl <;> simp [argsR, formAt, stepR, hi, number_itoa n hn, cmd0, plainR]
  · have er : restR kind [] ⟨word, kind, id, bytes, n, keep⟩ = [] := by rcases hk5 with rfl | rfl | rfl <;> simp [restR, numsR]
    rw [er]
    refine ⟨by simp, ?_⟩
    rcases hk5 with rfl | rfl | rfl <;> simp [argsR, cmd0, plainR]
  · have hn : may n = true := by rcases hk5 with rfl | rfl | rfl <;> simpa [numsR] using h3
    have er : restR kind [110] ⟨word, kind, id, bytes, n, keep⟩ = [itoa n] := by rcases hk5 with rfl | rfl | rfl <;> simp [restR, numsR]
    rw [er]
    refine ⟨by simp [itoa_plain], ?_⟩
    rcases hk5 with rfl | rfl | rfl <;> simp [argsR, formAt, stepR, number_itoa n hn, cmd0, plainR]
  · have hn : keep.all may = true := by simpa [numsR] using h3
    have er : restR 13 [42] ⟨word, 13, id, bytes, n, keep⟩ = keep.map itoa := by simp [restR, numsR]
    rw [er]
    refine ⟨by intro w hw; obtain ⟨x, _, rfl⟩ := List.mem_map.1 hw; exact itoa_plain x, ?_⟩
    rw [if_neg (by simp), args_back 13 [42] keep 0 _ (fun j hj => step_keep (.inl (by simp [formAt]))) hn]
    simp [cmd0, plainR]
  · have hn : keep.all may = true := by simpa [numsR] using h3
    have hl4 : keep.length = 4 := by by_cases e : keep.length = 4; exact e; exact absurd (.inr ⟨rfl, e⟩) h1
    have er : restR 14 [110, 110, 110, 110] ⟨word, 14, id, bytes, n, keep⟩ = keep.map itoa := by simp [restR, numsR]
    rw [er]
    refine ⟨by intro w hw; obtain ⟨x, _, rfl⟩ := List.mem_map.1 hw; exact itoa_plain x, ?_⟩
    rw [if_neg (by simp [hl4]), args_back 14 [110, 110, 110, 110] keep 0 _ (fun j hj => step_keep (.inr ⟨rfl, by
      rcases (by omega : j = 0 ∨ j = 1 ∨ j = 2 ∨ j = 3) with rfl | rfl | rfl | rfl <;> decide⟩)) hn]
    simp [cmd0, plainR]
end Go.Proofs.YtlibjfmafpiopaaGreatDoor.Scr
