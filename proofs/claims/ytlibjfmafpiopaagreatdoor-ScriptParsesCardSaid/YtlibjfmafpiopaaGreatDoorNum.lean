/- Numerals: what a NUMBER reads as is what strconv writes; no program in sight. -/
import Derived.Test.YtlibjfmafpiopaaGreatDoorSpecB
import Derived.Lib.AtoiAll
import Derived.Lib.ItoaNum
namespace Go.Proofs.YtlibjfmafpiopaaGreatDoor.Scr
open Go.Lib (decDigits itoa nDigits atoiAll parseMag parseUint10 NumEnd)

theorem digitsP_snoc (c : UInt8) : ∀ (l : Bs) (m : Int), digitsP m (l ++ [c]) = (digitsP m l).bind fun n => if c.toNat < 48 ∨ 57 < c.toNat then none else some (10 * n + ((c.toNat : Int) - 48))
  | [], m => by simp [digitsP]
  | x :: r, m => by
    simp only [List.cons_append, digitsP]
    split
    · rfl
    · exact digitsP_snoc c r _

theorem digitsP_ge : ∀ (l : Bs) (m n : Int), 0 ≤ m → digitsP m l = some n → m ≤ n
  | [], m, n, _, h => by simp [digitsP] at h; omega
  | x :: r, m, n, hm, h => by
    simp only [digitsP] at h
    split at h
    · cases h
    · have := digitsP_ge r _ n (by omega) h
      omega

theorem byte_of (d : Nat) (h : d < 10) : (UInt8.ofNat (48 + d)).toNat = 48 + d := by
  simp
  omega

theorem digitsP_dec (u : Nat) : digitsP 0 (decDigits u) = some (u : Int) := by
  induction u using Nat.strongRecOn with
  | _ u ih =>
    by_cases h : u < 10
    · rw [decDigits, dif_pos h]
      have e := byte_of u h
      simp only [digitsP, e]
      rw [if_neg (by omega)]
      congr 1
      omega
    · rw [decDigits, dif_neg h, digitsP_snoc, ih (u / 10) (by omega)]
      have e := byte_of (u % 10) (by omega)
      simp only [Option.bind_some, e]
      rw [if_neg (by omega)]
      congr 1
      omega

theorem dec_ne (u : Nat) : decDigits u ≠ [] := by
  by_cases h : u < 10
  · rw [decDigits, dif_pos h]; simp
  · rw [decDigits, dif_neg h]; simp

theorem dec_head (u : Nat) (h1 : 1 ≤ u) : (decDigits u).head? ≠ some 48 := by
  induction u using Nat.strongRecOn with
  | _ u ih =>
    by_cases h : u < 10
    · rw [decDigits, dif_pos h]
      intro e
      have e1 := Option.some.inj e
      have e2 := congrArg UInt8.toNat e1
      rw [byte_of u h] at e2
      simp at e2
      omega
    · rw [decDigits, dif_neg h, List.head?_append]
      have := ih (u / 10) (by omega) (by omega)
      cases hd : decDigits (u / 10) with
      | nil => exact absurd hd (dec_ne _)
      | cons a r => rw [hd] at this; simpa using this

theorem dec_all (u : Nat) : ∀ c ∈ decDigits u, 48 ≤ c.toNat ∧ c.toNat ≤ 57 := by
  induction u using Nat.strongRecOn with
  | _ u ih =>
    by_cases h : u < 10
    · rw [decDigits, dif_pos h]
      intro c hc
      rw [List.mem_singleton] at hc
      subst hc
      rw [byte_of u h]
      omega
    · rw [decDigits, dif_neg h]
      intro c hc
      rw [List.mem_append, List.mem_singleton] at hc
      rcases hc with hc | rfl
      · exact ih (u / 10) (by omega) c hc
      · rw [byte_of _ (by omega)]
        omega

theorem nDig_le : ∀ (k u : Nat), u < 10 ^ (k + 1) → nDigits u ≤ k + 1
  | 0, u, h => by rw [Go.Lib.nDigits_small (by simpa using h)]; omega
  | k + 1, u, h => by
    by_cases h1 : u < 10
    · rw [Go.Lib.nDigits_small h1]; omega
    · rw [Go.Lib.nDigits_big h1]
      have := nDig_le k (u / 10) (by rw [Nat.pow_succ] at h; omega)
      omega

theorem snoc_ind {P : Bs → Prop} (h0 : P []) (h1 : ∀ l c, P l → P (l ++ [c])) (l : Bs) : P l := by
  have : ∀ r : Bs, P r.reverse := fun r => by
    induction r with
    | nil => exact h0
    | cons c r ih => rw [List.reverse_cons]; exact h1 _ c ih
  have := this l.reverse
  rwa [List.reverse_reverse] at this

theorem dec_digitsP (l : Bs) : ∀ n : Int, l ≠ [] → digitsP 0 l = some n → (l.head? = some 48 → l.length = 1) → 0 ≤ n ∧ decDigits n.toNat = l := by
  refine snoc_ind (P := fun l => ∀ n : Int, l ≠ [] → digitsP 0 l = some n → (l.head? = some 48 → l.length = 1) → 0 ≤ n ∧ decDigits n.toNat = l) (fun n h _ _ => absurd rfl h) ?_ l
  intro l c ih n _ hd hh
  rw [digitsP_snoc] at hd
  cases hl : digitsP 0 l with
  | none => rw [hl] at hd; cases hd
  | some m =>
    rw [hl] at hd
    simp only [Option.bind_some] at hd
    split at hd
    · cases hd
    · rename_i hc
      have hn := Option.some.inj hd
      by_cases h0 : l = []
      · subst h0
        simp [digitsP] at hl
        refine ⟨by omega, ?_⟩
        rw [decDigits, dif_pos (by omega)]
        have : UInt8.ofNat (48 + n.toNat) = c := by
          apply UInt8.toNat_inj.1
          rw [byte_of _ (by omega)]
          omega
        rw [this]
        rfl
      · have hhd : l.head? ≠ some 48 := fun e => by
          have := hh (by rw [List.head?_append, e]; rfl)
          simp at this
          exact h0 (by simpa using this)
        obtain ⟨hm, hdm⟩ := ih m h0 hl (fun e => absurd e hhd)
        have hm1 : 1 ≤ m := by
          by_cases h : 0 < m
          · omega
          · have : m.toNat = 0 := by omega
            rw [this] at hdm
            rw [← hdm] at hhd
            exact absurd (by rw [decDigits, dif_pos (by omega)]; rfl) hhd
        refine ⟨by omega, ?_⟩
        rw [decDigits, dif_neg (by omega)]
        have e1 : n.toNat / 10 = m.toNat := by omega
        have e2 : UInt8.ofNat (48 + n.toNat % 10) = c := by
          apply UInt8.toNat_inj.1
          rw [byte_of _ (by omega)]
          omega
        rw [e1, e2, hdm]

theorem may_iff {n : Int} : may n = true ↔ (-9999999999999 ≤ n ∧ n ≤ 9999999999999) := by unfold may; simp

theorem dec_len {u : Nat} (h : u ≤ 9999999999999) : 1 ≤ (decDigits u).length ∧ (decDigits u).length ≤ 13 := by
  rw [Go.Lib.decDigits_length]
  exact ⟨Go.Lib.nDigits_pos u, nDig_le 12 u (by omega)⟩

theorem numberU_dec (b : Bool) (u : Nat) (h : u ≤ 9999999999999) (hb : b = true → 1 ≤ u) : numberU b (decDigits u) = some (if b then 0 - (u : Int) else u) := by
  obtain ⟨l1, l2⟩ := dec_len h
  unfold numberU
  rw [if_neg ?_, digitsP_dec]
  · rfl
  · rintro (h1 | h1 | ⟨h1, h2⟩)
    · omega
    · omega
    · by_cases h0 : u = 0
      · subst h0
        rcases h2 with h2 | h2
        · rw [decDigits, dif_pos (by omega)] at h2
          simp at h2
        · exact absurd (hb h2) (by omega)
      · exact dec_head u (by omega) h1

theorem number_itoa (n : Int) (h : may n = true) : number (itoa n) = some n := by
  obtain ⟨h1, h2⟩ := may_iff.1 h
  unfold itoa
  split
  · rename_i hn
    show numberU true (decDigits n.natAbs) = some n
    rw [numberU_dec true _ (by omega) (fun _ => by omega)]
    simp only [if_true]
    congr 1
    omega
  · rename_i hn
    have hU : number (decDigits n.toNat) = numberU false (decDigits n.toNat) := by
      have hall := dec_all n.toNat
      have hne := dec_ne n.toNat
      cases hd : decDigits n.toNat with
      | nil => exact absurd hd hne
      | cons a r =>
        rw [hd] at hall
        have ha := hall a (by simp)
        have hne2 : a ≠ 45 := fun e => by rw [e] at ha; simp at ha
        unfold number
        split
        · rename_i e; cases e
        · rename_i e; cases e; exact absurd rfl hne2
        · rfl
    rw [hU, numberU_dec false _ (by omega) (fun e => by cases e)]
    simp only [Bool.false_eq_true, if_false]
    congr 1
    omega

theorem numberU_inv {b : Bool} {l : Bs} {n : Int} (h : numberU b l = some n) : ∃ u : Nat, decDigits u = l ∧ n = (if b then 0 - (u : Int) else u) ∧ u ≤ 9999999999999 ∧ (b = true → 1 ≤ u) := by
  unfold numberU at h
  split at h
  · cases h
  · rename_i hc
    cases hd : digitsP 0 l with
    | none => rw [hd] at h; cases h
    | some m =>
      rw [hd] at h
      have hn : (if b then 0 - m else m) = n := by simpa using h
      have hne : l ≠ [] := fun e => by subst e; exact hc (.inl (by simp))
      obtain ⟨hm, hdm⟩ := dec_digitsP l m hne hd (fun e => by
        have h1 : 1 ≤ l.length := List.length_pos_iff.2 hne
        by_cases h2 : 1 < l.length
        · exact absurd (.inr (.inr ⟨e, .inl h2⟩)) hc
        · omega)
      refine ⟨m.toNat, hdm, ?_, ?_, ?_⟩
      · rw [← hn, Int.toNat_of_nonneg hm]
      · have hl : l.length ≤ 13 := by
          by_cases h2 : 13 < l.length
          · exact absurd (.inr (.inl h2)) hc
          · omega
        rw [← hdm, Go.Lib.decDigits_length] at hl
        have h3 := Go.Lib.lt_pow_nDigits m.toNat
        have h4 : 10 ^ nDigits m.toNat ≤ 10 ^ 13 := Nat.pow_le_pow_right (by decide) hl
        omega
      · intro hb
        rcases Nat.eq_zero_or_pos m.toNat with h0 | h0
        · rw [h0, decDigits, dif_pos (by omega)] at hdm
          exact absurd (.inr (.inr ⟨by rw [← hdm]; rfl, .inr hb⟩)) hc
        · exact h0

theorem itoa_number {s : Bs} {n : Int} (h : number s = some n) : itoa n = s ∧ may n = true := by
  unfold number at h
  split at h
  · cases h
  · obtain ⟨u, rfl, hn, hu, hb⟩ := numberU_inv h
    have h1 := hb rfl
    simp only [if_true] at hn
    refine ⟨?_, may_iff.2 ⟨by omega, by omega⟩⟩
    unfold itoa
    rw [if_pos (by omega)]
    congr 2
    omega
  · obtain ⟨u, rfl, hn, hu, hb⟩ := numberU_inv h
    simp only [Bool.false_eq_true, if_false] at hn
    refine ⟨?_, may_iff.2 ⟨by omega, by omega⟩⟩
    unfold itoa
    rw [if_neg (by omega)]
    congr 1
    omega

theorem parse_digitsP : ∀ (l : Bs) (a : Nat) (m : Int), digitsP a l = some m → m ≤ 100000000000000000 → parseUint10 a l = .ok m.toNat
  | [], a, m, h, _ => by
    simp [digitsP] at h
    simp [parseUint10, ← h]
  | c :: r, a, m, h, hm => by
    simp only [digitsP] at h
    split at h
    · cases h
    · rename_i hc
      have hge := digitsP_ge r _ m (by omega) h
      have e : (10 * (a : Int) + ((c.toNat : Int) - 48)) = ((a * 10 + (c.toNat - 48) : Nat) : Int) := by omega
      rw [e] at h
      simp only [parseUint10]
      rw [if_pos (by omega), if_neg (by omega), if_neg (by omega)]
      exact parse_digitsP r _ m h hm

theorem parseMag_dec (u : Nat) (h : u ≤ 100000000000000000) : parseMag (decDigits u) = .ok u := by
  unfold parseMag
  rw [if_neg (dec_ne u), parse_digitsP _ 0 u (digitsP_dec u) (by omega)]
  rfl

theorem atoi_itoa (n : Int) (h : may n = true) : atoiAll (itoa n) = .ok n := by
  obtain ⟨h1, h2⟩ := may_iff.1 h
  unfold itoa
  split
  · rename_i hn
    simp only [atoiAll]
    rw [if_pos (.inr (by rfl)), parseMag_dec _ (by omega)]
    simp only
    have e45 : (45 : UInt8).toNat = 45 := rfl
    rw [if_neg (by simp [e45]), if_neg (by rintro ⟨_, h⟩; omega), if_pos (by rfl)]
    congr 1
    omega
  · rename_i hn
    have hall := dec_all n.toNat
    have hp := parseMag_dec n.toNat (by omega)
    cases hd : decDigits n.toNat with
    | nil => exact absurd hd (dec_ne _)
    | cons a r =>
      rw [hd] at hall hp
      have ha := hall a (by simp)
      simp only [atoiAll]
      rw [if_neg (by omega), hp]
      simp only
      rw [if_neg (by omega), if_neg (by omega), if_neg (by omega)]
      congr 1
      omega
end Go.Proofs.YtlibjfmafpiopaaGreatDoor.Scr
