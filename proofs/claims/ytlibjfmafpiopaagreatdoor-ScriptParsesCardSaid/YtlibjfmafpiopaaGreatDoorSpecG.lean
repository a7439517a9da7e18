/- How large a command may be that was read: plain. No program in sight. -/
import Derived.Test.YtlibjfmafpiopaaGreatDoorSpecF
namespace Go.Proofs.YtlibjfmafpiopaaGreatDoor.Scr

theorem line_parts {c : Cmd} {s : Bs} (hl : lineR c = .ok s) : (kindR c.word).1 ≠ 0 ∧ c.kind = (kindR c.word).1 ∧ s = c.word ++ tail32 (restR (kindR c.word).1 (kindR c.word).2 c) ++ [10] ∧ (numsR (kindR c.word).1 (kindR c.word).2 c).all may = true := by
  unfold lineR at hl
  by_cases h0 : (kindR c.word).1 = 0
  · rw [if_pos h0] at hl; cases hl
  rw [if_neg h0] at hl
  by_cases h1 : c.kind ≠ (kindR c.word).1 ∨ ((kindR c.word).1 = 14 ∧ c.keep.length ≠ 4)
  · rw [if_pos h1] at hl; cases hl
  rw [if_neg h1] at hl
  by_cases h2 : (kindR c.word).2.head? = some 105 ∧ isId c.id = false
  · rw [if_pos h2] at hl; cases hl
  rw [if_neg h2] at hl
  by_cases h3 : (numsR (kindR c.word).1 (kindR c.word).2 c).all may = true
  · rw [if_pos h3] at hl
    cases hl
    exact ⟨h0, by by_cases e : c.kind = (kindR c.word).1; exact e; exact absurd (.inl e) h1, rfl, h3⟩
  · rw [if_neg h3] at hl; cases hl

theorem tail32_mem {w : Bs} : ∀ {L : List Bs}, w ∈ L → w.length ≤ (tail32 L).length
  | x :: L, h => by
    rw [tail32_cons]
    rcases List.mem_cons.1 h with rfl | h
    · simp; omega
    · have := tail32_mem h
      simp
      omega

theorem tail32_ge : ∀ L : List Bs, L.length ≤ (tail32 L).length
  | [] => by simp
  | x :: L => by
    have := tail32_ge L
    rw [tail32_cons]
    simp
    omega

/-- A command that has nothing but what its line names is as small as its line. -/
theorem cmd_bd {c : Cmd} {s : Bs} (hp : plainR c = c) (hl : lineR c = .ok s) : c.word.length ≤ s.length ∧ c.id.length ≤ s.length ∧ c.bytes.length ≤ s.length ∧ c.keep.length ≤ s.length ∧ may c.n = true ∧ (∀ x ∈ c.keep, may x = true) := by
  obtain ⟨h0, h1, h2, h3⟩ := line_parts hl
  obtain ⟨k, form, hk, hk0, hf⟩ := tab_form h0
  rw [hk] at h1 h2 h3
  simp only at h1 h2 h3
  have hlen := congrArg List.length h2
  rw [List.length_append, List.length_append] at hlen
  simp only [List.length_cons, List.length_nil] at hlen
  have hm := fun w (h : w ∈ restR k form c) => tail32_mem h
  have hg := tail32_ge (restR k form c)
  have hid : c.id ∈ restR k form c ∨ c.id = [] := by
    rcases hf with ⟨rfl, rfl⟩ | ⟨hk5, rfl⟩ | ⟨hk5, rfl⟩ | ⟨hk5, rfl⟩ | ⟨hk5, rfl⟩ | ⟨rfl, rfl⟩ | ⟨rfl, rfl⟩
    · left; simp [restR]
    · left; simp [restR]
    · left; simp [restR]
    · right; rw [← hp]; unfold plainR; simp only; rw [if_neg (by omega)]
    · right; rw [← hp]; unfold plainR; simp only; rw [if_neg (by omega)]
    · right; rw [← hp]; unfold plainR; simp only; rw [if_neg (by omega)]
    · right; rw [← hp]; unfold plainR; simp only; rw [if_neg (by omega)]
  have hby : hex c.bytes ∈ restR k form c ∨ c.bytes = [] := by
    by_cases e : k = 1
    · left
      rcases hf with ⟨rfl, rfl⟩ | ⟨hk5, rfl⟩ | ⟨hk5, rfl⟩ | ⟨hk5, rfl⟩ | ⟨hk5, rfl⟩ | ⟨rfl, rfl⟩ | ⟨rfl, rfl⟩
      · simp [restR]
      all_goals omega
    · right; rw [← hp]; unfold plainR; simp only; rw [if_neg (by omega)]
  have hkp : (c.keep.length ≤ (restR k form c).length ∧ c.keep.all may = true) ∨ c.keep = [] := by
    by_cases e : k = 13 ∨ k = 14
    · left
      have e2 : numsR k form c = c.keep := by
        unfold numsR
        rcases hf with ⟨rfl, rfl⟩ | ⟨hk5, rfl⟩ | ⟨hk5, rfl⟩ | ⟨hk5, rfl⟩ | ⟨hk5, rfl⟩ | ⟨rfl, rfl⟩ | ⟨rfl, rfl⟩ <;> first | omega | (rw [if_pos (by simp)])
      refine ⟨?_, e2 ▸ h3⟩
      unfold restR
      rw [e2]
      simp
      omega
    · right; rw [← hp]; unfold plainR; simp only; rw [if_neg (by omega)]
  have hn : may c.n = true := by
    by_cases e : k = 4 ∨ k = 5 ∨ k = 10 ∨ k = 11 ∨ k = 12
    · have e2 : numsR k form c = [c.n] := by
        unfold numsR
        rcases hf with ⟨rfl, rfl⟩ | ⟨hk5, rfl⟩ | ⟨hk5, rfl⟩ | ⟨hk5, rfl⟩ | ⟨hk5, rfl⟩ | ⟨rfl, rfl⟩ | ⟨rfl, rfl⟩ <;> first | omega | (rw [if_neg (by rintro (h | h); exact absurd h (by decide); omega), if_pos (by decide)])
      rw [e2] at h3
      simpa using h3
    · rw [← hp]; unfold plainR; simp only; rw [if_neg (by omega)]; decide
  refine ⟨by omega, ?_, ?_, ?_, hn, ?_⟩
  · rcases hid with h | h
    · have := hm _ h; omega
    · rw [h]; simp
  · rcases hby with h | h
    · have h4 := hm _ h
      have : c.bytes.length ≤ (hex c.bytes).length := by
        unfold hex
        split
        · omega
        · rw [hexP_len2]; omega
      omega
    · rw [h]; simp
  · rcases hkp with h | h
    · omega
    · rw [h]; simp
  · rcases hkp with h | h
    · exact List.all_eq_true.1 h.2
    · rw [h]; simp

/-- What 'Parse' reads is small. -/
theorem parse_bd {text : Bs} {L : List Cmd} {a e : Int} (h : parseR text = (L, a, e)) : L.length ≤ 4096 ∧ ∀ c ∈ L, (∀ x ∈ c.bytes, 0 ≤ x ∧ x ≤ 255) ∧ plainR c = c ∧ c.word.length ≤ 65537 ∧ c.id.length ≤ 65537 ∧ c.bytes.length ≤ 65537 ∧ c.keep.length ≤ 65537 ∧ may c.n = true ∧ ∀ x ∈ c.keep, may x = true := by
  rcases parse_err h with ⟨rfl, rfl⟩ | ⟨_, rfl, _⟩
  · unfold parseR at h
    split at h
    · cases h
    · split at h
      · cases h
      · obtain ⟨M, s, hM, h2, h3, h4, h5⟩ := read_lines _ _ _ _ h
        rw [List.nil_append] at hM
        subst hM
        rw [split_tlen] at h4
        refine ⟨by omega, fun c hc => ?_⟩
        obtain ⟨p1, p2⟩ := h5 c hc
        have key : ∀ (M : List Cmd) (s : Bs), linesP M = .ok s → ∀ c ∈ M, ∃ t, lineR c = .ok t ∧ t.length ≤ s.length := by
          intro M
          induction M with
          | nil => intro s _ c hc; cases hc
          | cons d r ih =>
            intro s hs c hc
            rw [linesP_cons] at hs
            split at hs
            · cases hs
            · rename_i t ht
              cases hr : linesP r with
              | error e => rw [hr] at hs; cases hs
              | ok u =>
                rw [hr] at hs
                cases hs
                rcases List.mem_cons.1 hc with rfl | hc
                · exact ⟨t, ht, by simp⟩
                · obtain ⟨t2, q1, q2⟩ := ih u hr c hc
                  exact ⟨t2, q1, by simp; omega⟩
        obtain ⟨t, q1, q2⟩ := key L s h3 c hc
        obtain ⟨b1, b2, b3, b4, b5, b6⟩ := cmd_bd p1 q1
        exact ⟨p2, p1, by omega, by omega, by omega, by omega, b5, b6⟩
  · exact ⟨by simp, by simp⟩
end Go.Proofs.YtlibjfmafpiopaaGreatDoor.Scr
