/- The program's leaves (known, fits, isID): the contracts. -/
import Derived.Test.YtlibjfmafpiopaaGreatDoorRefD
import Derived.Test.YtlibjfmafpiopaaGreatDoorShelf
import Derived.Laws.RangeAny
namespace Go.Proofs.YtlibjfmafpiopaaGreatDoor
open Go.RowKit Go.Shelf Scr

set_option maxRecDepth 100000 in
set_option maxHeartbeats 4000000 in
theorem known_call (s : ByteArray) (w : World) : Calls Tryz.prog 27 #[.string s] w fun e w' => e = .returned (.agg #[.int .i64 (kindS s.toList).1, .string ⟨(kindS s.toList).2.toArray⟩]) ∧ Below w.heap.size w w' := by
  obtain ⟨r, hr⟩ : ∃ r, kindS s.toList = r := ⟨_, rfl⟩
  have HR := Lib.hid hr
  rw [hr]
  clear hr
  go_enter Tryz.func27, Tryz.ntmps27
  go_wp2
  all_goals
    have hr := HR.out
    unfold kindS at hr
    simp only [*, if_true, Bool.false_eq_true, if_false] at hr
    clear HR
    subst hr
    exact bodyPost_ret (by simp [results, Tryz.results27, go_sem]) rfl ⟨rfl, by go_grown⟩

theorem fits_call (n : Int) (w : World) : Calls Tryz.prog 30 #[.int .i64 n] w fun e w' => e = .returned (.bool (may n)) ∧ w = w' := by
  have hm : may n = true ↔ (-9999999999999 ≤ n ∧ n ≤ 9999999999999) := by unfold may; simp
  obtain ⟨r, hr⟩ : ∃ r, may n = r := ⟨_, rfl⟩
  rw [hr] at hm ⊢
  have HM := Lib.hid hm
  clear hr hm
  by_cases h1 : -9999999999999 ≤ n
  · by_cases h2 : n ≤ 9999999999999
    · have HR : Hid (r = true) := HM.out.2 ⟨h1, h2⟩
      go_enter Tryz.func30, Tryz.ntmps30
      go_wp2
      go_ret
      exact ⟨ret_bool HR.out.symm, rfl⟩
    · have HR : Hid (r = false) := by
        cases h : r with
        | false => exact rfl
        | true => exact absurd (HM.out.1 h).2 h2
      go_enter Tryz.func30, Tryz.ntmps30
      go_wp2
      go_ret
      exact ⟨ret_bool HR.out.symm, rfl⟩
  · have HR : Hid (r = false) := by
      cases h : r with
      | false => exact rfl
      | true => exact absurd (HM.out.1 h).1 h1
    go_enter Tryz.func30, Tryz.ntmps30
    go_wp2
    go_ret
    exact ⟨ret_bool HR.out.symm, rfl⟩

/-- A rune that no ID may hold. -/
def notId (x : Nat) : Bool := decide (x < 33) || decide (126 < x)

theorem idx_bad (s : ByteArray) : ∀ (f pos : Nat), s.size ≤ pos + f → (0 ≤ Lib.idxFuncFrom notId true s f pos ↔ ∃ k, ∃ h : k < s.size, pos ≤ k ∧ notId (s[k]'h).toNat = true)
  | 0, pos, hf => by
    simp only [Lib.idxFuncFrom]
    constructor
    · intro h; omega
    · rintro ⟨k, h, h1, _⟩; omega
  | f + 1, pos, hf => by
    unfold Lib.idxFuncFrom
    split
    · rename_i h
      by_cases ha : (s[pos]'h).toNat < 128
      · rw [decode_ascii s pos h ha]
        by_cases hp : notId (s[pos]'h).toNat = true
        · simp only [hp, if_true]
          exact ⟨fun _ => ⟨pos, h, Nat.le_refl _, hp⟩, fun _ => by omega⟩
        · rw [if_neg hp, idx_bad s f (pos + 1) (by omega)]
          constructor
          · rintro ⟨k, hk, h1, h2⟩
            exact ⟨k, hk, by omega, h2⟩
          · rintro ⟨k, hk, h1, h2⟩
            refine ⟨k, hk, ?_, h2⟩
            rcases Nat.lt_or_eq_of_le h1 with h3 | rfl
            · omega
            · exact absurd h2 hp
      · obtain ⟨d1, _⟩ := decode_high s pos h (by omega)
        have hq : notId (Utf8.decode s pos).1 = true := by unfold notId; simp; omega
        rw [if_pos hq]
        exact ⟨fun _ => ⟨pos, h, Nat.le_refl _, by unfold notId; simp; omega⟩, fun _ => by omega⟩
    · rename_i h
      constructor
      · intro h'; omega
      · rintro ⟨k, hk, h1, _⟩; omega

theorem isID_plain (s : ByteArray) : isId s.data.toList = (decide (1 ≤ s.size) && decide (s.size ≤ 64) && !decide (0 ≤ Lib.idxFunc notId true s)) := by
  have h := idx_bad s s.size 0 (by omega)
  have hz := size_list s
  have hiff : isId s.data.toList = true ↔ (decide (1 ≤ s.size) && decide (s.size ≤ 64) && !decide (0 ≤ Lib.idxFunc notId true s)) = true := by
    rw [isId_iff, ← hz]
    simp only [Bool.and_eq_true, decide_eq_true_eq, Bool.not_eq_true', decide_eq_false_iff_not]
    refine and_congr Iff.rfl ?_
    unfold Lib.idxFunc
    rw [h]
    constructor
    · rintro ha ⟨k, hk, _, hb⟩
      have := ha (s[k]'hk) (by rw [get_list s k hk]; exact List.getElem_mem _)
      unfold notId at hb
      simp at hb
      omega
    · intro ha c hc
      obtain ⟨k, hk, e⟩ := List.mem_iff_getElem.1 hc
      by_cases hb : notId c.toNat = true
      · exact absurd ⟨k, by rw [hz]; exact hk, Nat.zero_le _, by rw [get_list s k (by rw [hz]; exact hk), e]; exact hb⟩ ha
      · unfold notId at hb
        simp at hb
        omega
  exact Bool.eq_iff_iff.2 hiff

theorem notId_call (x : Nat) (w : World) : Calls Tryz.prog 63 #[.int .i32 x] w fun e w' => e = .returned (.bool (notId x)) ∧ w' = w.drewN 0 := by
  have hi : (decide ((x : Int) < 33) || decide (126 < (x : Int))) = notId x := by
    unfold notId
    rw [decide_eq_decide.2 (show (x : Int) < 33 ↔ x < 33 by omega), decide_eq_decide.2 (show 126 < (x : Int) ↔ 126 < x by omega)]
  obtain ⟨r, hr⟩ : ∃ r, notId x = r := ⟨_, rfl⟩
  rw [hr] at hi ⊢
  have HR := Lib.hid hi
  clear hr hi
  by_cases h1 : x < 33
  · have HT : Hid (r = true) := Lib.hid (by rw [← HR.out]; simp; omega)
    go_enter Tryz.func63, Tryz.ntmps63
    go_wp2
    go_ret
    exact ⟨ret_bool HT.out.symm, rfl⟩
  · go_enter Tryz.func63, Tryz.ntmps63
    go_wp2
    go_ret
    exact ⟨ret_bool HR.out, rfl⟩

theorem isID_call (s : ByteArray) (w : World) (hs : s.size ≤ 140737488355328) : Calls Tryz.prog 32 #[.string s] w fun e w' => e = .returned (.bool (isId s.data.toList)) ∧ Below w.heap.size w w' := by
  have hc : Calls Tryz.prog 62 #[.string s, .func (.func 63) #[] #[]] w fun e w' => e = .returned (.bool (decide (0 ≤ Lib.idxFunc notId true s))) ∧ Below w.heap.size w w' :=
    Tryz.strings_ContainsFunc_runes 63 #[] (enters_of Tryz.func63 (by kernel_rfl) rfl) notId s w (fun W x hx hb => (notId_call x W).mono fun e w' h => ⟨h.1, 0, h.2⟩)
  rw [isID_plain]
  obtain ⟨b, hb⟩ : ∃ b, decide (0 ≤ Lib.idxFunc notId true s) = b := ⟨_, rfl⟩
  rw [hb] at hc ⊢
  clear hb
  obtain ⟨r, hr⟩ : ∃ r, (decide (1 ≤ s.size) && decide (s.size ≤ 64) && !b) = r := ⟨_, rfl⟩
  rw [hr]
  have HR := Lib.hid hr
  clear hr
  by_cases h1 : 1 ≤ s.size
  · by_cases h2 : s.size ≤ 64
    · go_enter Tryz.func32, Tryz.ntmps32
      go_wp2_with fail
      refine hc.mono ?_
      rintro e w' ⟨rfl, hb⟩
      go_wp2
      go_ret
      exact ⟨ret_bool (by rw [← HR.out]; simp [h1, h2]), hb⟩
    · have HT : Hid (r = false) := Lib.hid (by rw [← HR.out]; simp [h2])
      go_enter Tryz.func32, Tryz.ntmps32
      go_wp2
      go_ret
      exact ⟨ret_bool HT.out.symm, Below.refl _ _⟩
  · have HT : Hid (r = false) := Lib.hid (by rw [← HR.out]; simp [h1])
    go_enter Tryz.func32, Tryz.ntmps32
    go_wp2
    go_ret
    exact ⟨ret_bool HT.out.symm, Below.refl _ _⟩
end Go.Proofs.YtlibjfmafpiopaaGreatDoor
