/- The document's kinds, numbers and HEX (munimentref22: kind, number, unhex, hex, hash, may, bit): the contracts. -/
import Derived.Test.YtlibjfmafpiopaaGreatDoorRefA
import Derived.Deep.RegionHeld3
import Derived.Deep.DeepCutAuto
namespace Go.Proofs.YtlibjfmafpiopaaGreatDoor
open Go.RowKit Scr

set_option maxRecDepth 100000 in
theorem kind_call (s : ByteArray) (w : World) : Calls Tryz.prog 53 #[.string s] w fun e w' => e = .returned (.tuple #[.int .i64 (kindR s.toList).1, .string ⟨(kindR s.toList).2.toArray⟩]) ∧ w = w' := by
  obtain ⟨r, hr⟩ : ∃ r, kindR s.toList = r := ⟨_, rfl⟩
  have HR := Lib.hid hr
  rw [hr]
  clear hr
  go_enter Tryz.func53, Tryz.ntmps53
  go_wp2
  all_goals
    go_ret2
    have hr := HR.out
    unfold kindR at hr
    simp only [*, if_true, Bool.false_eq_true, if_false] at hr
    subst hr
    exact ⟨rfl, rfl⟩

theorem may_call (n : Int) (w : World) : Calls Tryz.prog 70 #[.int .i64 n] w fun e w' => e = .returned (.bool (may n)) ∧ w = w' := by
  have hm : may n = true ↔ (-9999999999999 ≤ n ∧ n ≤ 9999999999999) := by unfold may; simp
  obtain ⟨r, hr⟩ : ∃ r, may n = r := ⟨_, rfl⟩
  rw [hr] at hm ⊢
  have HM := Lib.hid hm
  clear hr hm
  by_cases h1 : -9999999999999 ≤ n
  · by_cases h2 : n ≤ 9999999999999
    · have HR : Hid (r = true) := HM.out.2 ⟨h1, h2⟩
      go_enter Tryz.func70, Tryz.ntmps70
      go_wp2
      go_ret
      exact ⟨ret_bool HR.out.symm, rfl⟩
    · have HR : Hid (r = false) := by
        cases h : r with
        | false => exact rfl
        | true => exact absurd (HM.out.1 h).2 h2
      go_enter Tryz.func70, Tryz.ntmps70
      go_wp2
      go_ret
      exact ⟨ret_bool HR.out.symm, rfl⟩
  · have HR : Hid (r = false) := by
      cases h : r with
      | false => exact rfl
      | true => exact absurd (HM.out.1 h).1 h1
    go_enter Tryz.func70, Tryz.ntmps70
    go_wp2
    go_ret
    exact ⟨ret_bool HR.out.symm, rfl⟩

theorem bit_call (b : Bool) (w : World) : Calls Tryz.prog 44 #[.bool b] w fun e w' => e = .returned (.string ⟨#[if b then 49 else 48]⟩) ∧ w = w' := by
  cases b
  all_goals
    go_enter Tryz.func44, Tryz.ntmps44
    go_wp2
    go_ret
    exact ⟨rfl, rfl⟩

theorem digitsP_step {m : Int} {l : Bs} {k : Nat} (hk : k < l.length) (h : ¬ (l[k].toNat < 48 ∨ 57 < l[k].toNat)) : digitsP m (l.drop k) = digitsP (10 * m + ((l[k].toNat : Int) - 48)) (l.drop (k + 1)) := by
  rw [List.drop_eq_getElem_cons hk]
  simp only [digitsP, if_neg h]

theorem digitsP_bad {m : Int} {l : Bs} {k : Nat} (hk : k < l.length) (h : l[k].toNat < 48 ∨ 57 < l[k].toNat) : digitsP m (l.drop k) = none := by
  rw [List.drop_eq_getElem_cons hk]
  simp only [digitsP, if_pos h]

theorem ten_pow {k : Nat} (hk : k ≤ 12) : (10 : Int) ^ k ≤ 1000000000000 := by
  have : k = 0 ∨ k = 1 ∨ k = 2 ∨ k = 3 ∨ k = 4 ∨ k = 5 ∨ k = 6 ∨ k = 7 ∨ k = 8 ∨ k = 9 ∨ k = 10 ∨ k = 11 ∨ k = 12 := by omega
  rcases this with rfl | rfl | rfl | rfl | rfl | rfl | rfl | rfl | rfl | rfl | rfl | rfl | rfl <;> decide

theorem ten_pow13 {k : Nat} (hk : k ≤ 13) : (10 : Int) ^ k ≤ 10000000000000 := by
  by_cases h : k ≤ 12
  · have := ten_pow h
    omega
  · obtain rfl : k = 13 := by omega
    decide

/-- What 'number' answers. -/
def numOut (o : Option Int) : Value := .tuple #[.int .i64 (o.getD 0), .bool o.isSome]

theorem head_get {l : Bs} (h : 0 < l.length) : l.head? = some l[0] := by
  cases l with
  | nil => exact absurd h (by simp)
  | cons x xs => rfl

theorem number_of (s : ByteArray) : (s.size = 0 → number s.data.toList = none) ∧ (∀ h : 0 < s.size, (s[0] = 45 → number s.data.toList = numberU true (s.extract 1 s.size).data.toList) ∧ (s[0] ≠ 45 → number s.data.toList = numberU false s.data.toList)) := by
  refine ⟨fun h => ?_, fun h => ⟨fun h1 => ?_, fun h1 => ?_⟩⟩
  · rw [size_list] at h
    rw [List.eq_nil_of_length_eq_zero h]
    rfl
  · have h' : 0 < s.data.toList.length := by rw [← size_list]; exact h
    have h1' : s.data.toList[0] = 45 := by rw [← get_list s 0 h]; exact h1
    rw [extract_list, size_list]
    clear h1 h
    revert h' h1'
    generalize s.data.toList = l
    intro h h1
    cases l with
    | nil => exact absurd h (by simp)
    | cons x xs =>
      simp at h1
      subst h1
      simp [number]
  · have h' : 0 < s.data.toList.length := by rw [← size_list]; exact h
    have h1' : s.data.toList[0] ≠ 45 := by rw [← get_list s 0 h]; exact h1
    clear h1 h
    revert h' h1'
    generalize s.data.toList = l
    intro h h1
    cases l with
    | nil => exact absurd h (by simp)
    | cons x xs =>
      simp at h1
      unfold number
      split
      · cases ‹_ = _›
      · rename_i e
        cases e
        exact absurd rfl h1
      · rfl

/-- What is known of the tail's tests. -/
theorem numberU_of (b : Bool) (u : ByteArray) :
    (u.size < 1 → numberU b u.data.toList = none) ∧ (13 < u.size → numberU b u.data.toList = none) ∧
    (∀ h : 0 < u.size, u.size ≤ 13 → (u[0].toNat = 48 → (1 < u.size ∨ b = true) → numberU b u.data.toList = none) ∧
      ((u[0].toNat ≠ 48 ∨ (u.size ≤ 1 ∧ b = false)) → numberU b u.data.toList = (digitsP 0 u.data.toList).map fun n => if b then 0 - n else n)) := by
  have hsz := size_list u
  refine ⟨fun h => ?_, fun h => ?_, fun h h13 => ⟨fun h1 h2 => ?_, fun h1 => ?_⟩⟩
  · unfold numberU
    rw [if_pos (by omega)]
  · unfold numberU
    rw [if_pos (by omega)]
  · unfold numberU
    rw [if_pos]
    refine .inr (.inr ⟨?_, by rw [← hsz]; exact h2⟩)
    rw [head_get (by omega), ← get_list u 0 h]
    congr 1
    exact UInt8.toNat_inj.1 h1
  · unfold numberU
    rw [if_neg]
    rintro (h2 | h2 | ⟨h2, h3⟩)
    · omega
    · omega
    · rw [head_get (by omega), ← get_list u 0 h] at h2
      have h4 : u[0] = 48 := Option.some.inj h2
      rcases h1 with h1 | ⟨h1, h5⟩
      · exact h1 (by rw [h4]; rfl)
      · rw [h5] at h3
        simp at h3
        omega

set_option maxRecDepth 100000 in
set_option maxHeartbeats 4000000 in
theorem number_call (s : ByteArray) (w : World) (hs : s.size ≤ 140737488355328) : Calls Tryz.prog 56 #[.string s] w fun e w' => e = .returned (numOut (number s.data.toList)) ∧ w = w' := by
  have hnum := number_of s
  obtain ⟨r, hr⟩ : ∃ r, number s.data.toList = r := ⟨_, rfl⟩
  rw [hr] at hnum ⊢
  have HN := Lib.hid hnum
  clear hr hnum
  by_cases h0 : s.size < 1
  · have HR : Hid (r = none) := HN.out.1 (by omega)
    go_enter Tryz.func56, Tryz.ntmps56
    go_wp2
    go_ret2
    exact ⟨by rw [HR.out]; rfl, rfl⟩
  · have h0' : 0 < s.size := by omega
    obtain ⟨n, hn⟩ : ∃ n, s[0].toNat = n := ⟨_, rfl⟩
    have hm : n = 45 ∨ n ≠ 45 := by omega
    rcases hm with hm | hm
    · have t1 : (n : Int) = 45 := by omega
      have e45 : s[0] = 45 := UInt8.toNat_inj.1 (by rw [hn, hm]; rfl)
      have HU : Hid (r = numberU true (s.extract 1 s.size).data.toList) := (HN.out.2 h0').1 e45
      have t2 : ((n : Int) == 45) = true := by simpa using t1
      have hus : (s.extract 1 s.size).size ≤ 140737488355328 := by rw [ByteArray.size_extract]; omega
      clear e45 t1 hm
      go_enter Tryz.func56, Tryz.ntmps56
      go_upto_region 4 with fail
      obtain ⟨u, hu⟩ : ∃ u, s.extract 1 s.size = u := ⟨_, rfl⟩
      rw [hu] at HU hus ⊢
      clear hu
      have T := Lib.hid (numberU_of true u)
      by_cases a1 : u.size < 1
      · have HR : Hid (r = none) := HU.out.trans (T.out.1 a1)
        go_wp2
        go_ret2
        exact ⟨by rw [HR.out]; rfl, rfl⟩
      · by_cases a2 : 13 < u.size
        · have HR : Hid (r = none) := HU.out.trans (T.out.2.1 a2)
          go_wp2
          go_ret2
          exact ⟨by rw [HR.out]; rfl, rfl⟩
        · have a0 : 0 < u.size := by omega
          obtain ⟨n0, hn0⟩ : ∃ n0, u[0].toNat = n0 := ⟨_, rfl⟩
          have T2 := T.out.2.2 a0 (by omega)
          rw [hn0] at T2
          have T3 := Lib.hid T2
          clear T2
          by_cases z : n0 = 48
          · have tz : ((n0 : Int) == 48) = true := by rw [beq_iff_eq]; omega
            have HR : Hid (r = none) := HU.out.trans (T3.out.1 z (.inr rfl))
            clear z
            by_cases o1 : 1 < u.size
            · skip
              go_wp2
              go_ret2
              exact ⟨by rw [HR.out]; rfl, rfl⟩
            · skip
              go_wp2
              go_ret2
              exact ⟨by rw [HR.out]; rfl, rfl⟩
          · have tz : ((n0 : Int) == 48) = false := by rw [beq_eq_false_iff_ne]; omega
            have HD : Hid (r = (digitsP 0 u.data.toList).map fun n => if true = true then 0 - n else n) := HU.out.trans (T3.out.2 (.inl z))
            clear z
            have HSZ := Lib.hid (size_list u)
            go_wp2
            go_loop [5, 6] (fun nv i => ∃ (k : Nat) (m : Int), i = .int .i64 k ∧ nv = .int .i64 m ∧ k ≤ u.size ∧ 0 ≤ m ∧ Hid (m < 10 ^ k) ∧ Hid (digitsP m (u.data.toList.drop k) = digitsP 0 u.data.toList)) (fun _ i => u.size - (intOf i).toNat)
            case atStart => exact ⟨0, 0, rfl, rfl, by omega, by omega, Lib.hid (by decide), Lib.hid rfl⟩
            case round =>
              obtain ⟨k, m, rfl, rfl, hk, hm0, hpow, hdg⟩ := hrel
              by_cases hlt : k < u.size
              · have k0 : (0 : Int) ≤ (k : Int) := Int.natCast_nonneg _
                have k1 : (k : Int) < (u.size : Int) := by omega
                have hkl : k < u.data.toList.length := by rw [← size_list]; exact hlt
                have hp2 : m < 1000000000000 := Int.lt_of_lt_of_le hpow.out (ten_pow (by omega))
                have HGL := Lib.hid (get_list u k hlt)
                obtain ⟨d, hd⟩ : ∃ d, u[k].toNat = d := ⟨_, rfl⟩
                have hd256 : d < 256 := by rw [← hd]; exact u[k].toNat_lt
                have HD2 : Hid (u.data.toList[k].toNat = d) := by rw [← HGL.out]; exact hd
                by_cases hok : 48 ≤ d ∧ d ≤ 57
                · obtain ⟨q1, q2⟩ := hok
                  go_wp2
                  refine ⟨⟨k + 1, 10 * m + ((d : Int) - 48), by go_num, by go_num, by omega, by omega, Lib.hid ?_, Lib.hid ?_⟩, by simp [intOf]; omega⟩
                  · have := hpow.out
                    rw [Int.pow_succ]
                    omega
                  · rw [← hdg.out, digitsP_step hkl (by rw [HD2.out]; omega), HD2.out]
                · have HR : Hid (r = none) := by
                    rw [HD.out, ← hdg.out, digitsP_bad hkl (by rw [HD2.out]; omega)]
                    exact rfl
                  have q3 : d < 48 ∨ 57 < d := by omega
                  clear hok
                  rcases q3 with q3 | q3
                  all_goals
                    go_wp2
                    go_ret2
                    exact ⟨by rw [HR.out]; rfl, rfl⟩
              · obtain rfl : k = u.size := by omega
                have HR : Hid (r = some (-m)) := by
                  rw [HD.out, ← hdg.out, HSZ.out, List.drop_length]
                  exact congrArg some (Int.zero_sub m)
                have hp3 : m < 10000000000000 := by
                  have e := hpow.out
                  have : (10 : Int) ^ u.size ≤ 10000000000000 := ten_pow13 (by omega)
                  omega
                go_wp2
                go_ret2
                exact ⟨by rw [HR.out]; rfl, rfl⟩
    · have e45 : s[0] ≠ 45 := fun e => hm (by rw [← hn, e]; rfl)
      have HU : Hid (r = numberU false s.data.toList) := (HN.out.2 h0').2 e45
      have t2 : ((n : Int) == 45) = false := by rw [beq_eq_false_iff_ne]; omega
      clear e45
      go_enter Tryz.func56, Tryz.ntmps56
      go_upto_region 4 with fail
      obtain ⟨u, hu⟩ : ∃ u, s = u := ⟨_, rfl⟩
      have hus := hs
      rw [hu] at HU hus ⊢
      clear hu
      have T := Lib.hid (numberU_of false u)
      by_cases a1 : u.size < 1
      · have HR : Hid (r = none) := HU.out.trans (T.out.1 a1)
        go_wp2
        go_ret2
        exact ⟨by rw [HR.out]; rfl, rfl⟩
      · by_cases a2 : 13 < u.size
        · have HR : Hid (r = none) := HU.out.trans (T.out.2.1 a2)
          go_wp2
          go_ret2
          exact ⟨by rw [HR.out]; rfl, rfl⟩
        · have a0 : 0 < u.size := by omega
          obtain ⟨n0, hn0⟩ : ∃ n0, u[0].toNat = n0 := ⟨_, rfl⟩
          have T2 := T.out.2.2 a0 (by omega)
          rw [hn0] at T2
          have T3 := Lib.hid T2
          clear T2
          by_cases z : n0 = 48
          · have tz : ((n0 : Int) == 48) = true := by rw [beq_iff_eq]; omega
            by_cases o1 : 1 < u.size
            · have HR : Hid (r = none) := HU.out.trans (T3.out.1 z (.inl o1))
              clear z
              go_wp2
              go_ret2
              exact ⟨by rw [HR.out]; rfl, rfl⟩
            · have HD : Hid (r = (digitsP 0 u.data.toList).map fun n => if false = true then 0 - n else n) := HU.out.trans (T3.out.2 (.inr ⟨by omega, rfl⟩))
              clear z
              have HSZ := Lib.hid (size_list u)
              go_wp2
              go_loop [5, 6] (fun nv i => ∃ (k : Nat) (m : Int), i = .int .i64 k ∧ nv = .int .i64 m ∧ k ≤ u.size ∧ 0 ≤ m ∧ Hid (m < 10 ^ k) ∧ Hid (digitsP m (u.data.toList.drop k) = digitsP 0 u.data.toList)) (fun _ i => u.size - (intOf i).toNat)
              case atStart => exact ⟨0, 0, rfl, rfl, by omega, by omega, Lib.hid (by decide), Lib.hid rfl⟩
              case round =>
                obtain ⟨k, m, rfl, rfl, hk, hm0, hpow, hdg⟩ := hrel
                by_cases hlt : k < u.size
                · have k0 : (0 : Int) ≤ (k : Int) := Int.natCast_nonneg _
                  have k1 : (k : Int) < (u.size : Int) := by omega
                  have hkl : k < u.data.toList.length := by rw [← size_list]; exact hlt
                  have hp2 : m < 1000000000000 := Int.lt_of_lt_of_le hpow.out (ten_pow (by omega))
                  have HGL := Lib.hid (get_list u k hlt)
                  obtain ⟨d, hd⟩ : ∃ d, u[k].toNat = d := ⟨_, rfl⟩
                  have hd256 : d < 256 := by rw [← hd]; exact u[k].toNat_lt
                  have HD2 : Hid (u.data.toList[k].toNat = d) := by rw [← HGL.out]; exact hd
                  by_cases hok : 48 ≤ d ∧ d ≤ 57
                  · obtain ⟨q1, q2⟩ := hok
                    go_wp2
                    refine ⟨⟨k + 1, 10 * m + ((d : Int) - 48), by go_num, by go_num, by omega, by omega, Lib.hid ?_, Lib.hid ?_⟩, by simp [intOf]; omega⟩
                    · have := hpow.out
                      rw [Int.pow_succ]
                      omega
                    · rw [← hdg.out, digitsP_step hkl (by rw [HD2.out]; omega), HD2.out]
                  · have HR : Hid (r = none) := by
                      rw [HD.out, ← hdg.out, digitsP_bad hkl (by rw [HD2.out]; omega)]
                      exact rfl
                    have q3 : d < 48 ∨ 57 < d := by omega
                    clear hok
                    rcases q3 with q3 | q3
                    all_goals
                      go_wp2
                      go_ret2
                      exact ⟨by rw [HR.out]; rfl, rfl⟩
                · obtain rfl : k = u.size := by omega
                  have HR : Hid (r = some (m)) := by
                    rw [HD.out, ← hdg.out, HSZ.out, List.drop_length]
                    exact rfl
                  have hp3 : m < 10000000000000 := by
                    have e := hpow.out
                    have : (10 : Int) ^ u.size ≤ 10000000000000 := ten_pow13 (by omega)
                    omega
                  go_wp2
                  go_ret2
                  exact ⟨by rw [HR.out]; rfl, rfl⟩
          · have tz : ((n0 : Int) == 48) = false := by rw [beq_eq_false_iff_ne]; omega
            have HD : Hid (r = (digitsP 0 u.data.toList).map fun n => if false = true then 0 - n else n) := HU.out.trans (T3.out.2 (.inl z))
            clear z
            have HSZ := Lib.hid (size_list u)
            go_wp2
            go_loop [5, 6] (fun nv i => ∃ (k : Nat) (m : Int), i = .int .i64 k ∧ nv = .int .i64 m ∧ k ≤ u.size ∧ 0 ≤ m ∧ Hid (m < 10 ^ k) ∧ Hid (digitsP m (u.data.toList.drop k) = digitsP 0 u.data.toList)) (fun _ i => u.size - (intOf i).toNat)
            case atStart => exact ⟨0, 0, rfl, rfl, by omega, by omega, Lib.hid (by decide), Lib.hid rfl⟩
            case round =>
              obtain ⟨k, m, rfl, rfl, hk, hm0, hpow, hdg⟩ := hrel
              by_cases hlt : k < u.size
              · have k0 : (0 : Int) ≤ (k : Int) := Int.natCast_nonneg _
                have k1 : (k : Int) < (u.size : Int) := by omega
                have hkl : k < u.data.toList.length := by rw [← size_list]; exact hlt
                have hp2 : m < 1000000000000 := Int.lt_of_lt_of_le hpow.out (ten_pow (by omega))
                have HGL := Lib.hid (get_list u k hlt)
                obtain ⟨d, hd⟩ : ∃ d, u[k].toNat = d := ⟨_, rfl⟩
                have hd256 : d < 256 := by rw [← hd]; exact u[k].toNat_lt
                have HD2 : Hid (u.data.toList[k].toNat = d) := by rw [← HGL.out]; exact hd
                by_cases hok : 48 ≤ d ∧ d ≤ 57
                · obtain ⟨q1, q2⟩ := hok
                  go_wp2
                  refine ⟨⟨k + 1, 10 * m + ((d : Int) - 48), by go_num, by go_num, by omega, by omega, Lib.hid ?_, Lib.hid ?_⟩, by simp [intOf]; omega⟩
                  · have := hpow.out
                    rw [Int.pow_succ]
                    omega
                  · rw [← hdg.out, digitsP_step hkl (by rw [HD2.out]; omega), HD2.out]
                · have HR : Hid (r = none) := by
                    rw [HD.out, ← hdg.out, digitsP_bad hkl (by rw [HD2.out]; omega)]
                    exact rfl
                  have q3 : d < 48 ∨ 57 < d := by omega
                  clear hok
                  rcases q3 with q3 | q3
                  all_goals
                    go_wp2
                    go_ret2
                    exact ⟨by rw [HR.out]; rfl, rfl⟩
              · obtain rfl : k = u.size := by omega
                have HR : Hid (r = some (m)) := by
                  rw [HD.out, ← hdg.out, HSZ.out, List.drop_length]
                  exact rfl
                have hp3 : m < 10000000000000 := by
                  have e := hpow.out
                  have : (10 : Int) ^ u.size ≤ 10000000000000 := ten_pow13 (by omega)
                  omega
                go_wp2
                go_ret2
                exact ⟨by rw [HR.out]; rfl, rfl⟩

end Go.Proofs.YtlibjfmafpiopaaGreatDoor
