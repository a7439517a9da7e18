/- The contracts of the quota package and its reference. -/
import Derived.Test.YtjpkendpnpkbeaaBase
namespace Go.Proofs.Ytjpkendpnpkbeaa
open Go.RowKit

def diskF (xs : List Int) (i : Nat) : Int := if xs.length < 3 then 0 else max 0 (min (el xs i) 4096)
def putsOf (d : Int) : Int := if d < 290 then 0 else ((min ((d - 2) / 8) 384 - 32) / 3 - 1) / 3
def sectorsOf (d : Int) : Int := if d < 16 then 0 else 8 * (d / 16 - 1)

theorem diskF_bd (xs : List Int) (i : Nat) : 0 ≤ diskF xs i ∧ diskF xs i ≤ 4096 := by unfold diskF; split <;> omega

theorem disk_call (A B : Option Addr) (m c d : Nat) (xs : List Int) (i : Nat) (hi : i < 3) (w : World) (hx : Ints w A xs) :
    Calls Try.prog 35 #[.agg #[.slice A xs.length c, .slice B m d], .int .i64 i] w fun e w' => e = .returned (.int .i64 (diskF xs i)) ∧ Below w.heap.size w w' := by
  have hl := hx.len
  by_cases h3 : xs.length < 3
  · go_enter Try.func35, Try.ntmps35
    go_wp2
    go_ret
    exact ⟨ret_int (by simp [diskF, h3]), by go_grown⟩
  · obtain ⟨b, off, rfl, hb, hc⟩ := hx.at_ (by omega)
    have h := hc i (by omega)
    clear hc
    go_enter Try.func35, Try.ntmps35
    go_wp2
    all_goals
      go_ret
      exact ⟨ret_int (by simp only [diskF, if_neg h3]; omega), by go_grown⟩

theorem disk_call' (A B : Option Addr) (m c d : Nat) (xs : List Int) (i : Nat) (hi : i < 3) (w : World) (hx : Ints w A xs) (D : Int) (hD : Hid (diskF xs i = D)) :
    Calls Try.prog 35 #[.agg #[.slice A xs.length c, .slice B m d], .int .i64 i] w fun e w' => e = .returned (.int .i64 D) ∧ Below w.heap.size w w' := by
  rw [← hD.out]; exact disk_call A B m c d xs i hi w hx

theorem puts_call (A B : Option Addr) (m c d : Nat) (xs : List Int) (w : World) (hx : Ints w A xs) :
    Calls Try.prog 27 #[.agg #[.slice A xs.length c, .slice B m d]] w fun e w' => e = .returned (.int .i64 (putsOf (diskF xs 1))) ∧ Below w.heap.size w w' := by
  have hl := hx.len
  have hd := diskF_bd xs 1
  have H := hx.alloc (.cells #[.slice A xs.length c, .slice B m d] 46)
  obtain ⟨D, hD⟩ : ∃ D, diskF xs 1 = D := ⟨_, rfl⟩
  rw [hD] at hd ⊢
  have HD := Lib.hid hD
  clear hD
  have fin : ∀ (x : Int) (e : Ending) (w' : World), e = .returned (.int .i64 x) → x = putsOf D → Below w.heap.size w w' → e = .returned (.int .i64 (putsOf D)) ∧ Below w.heap.size w w' := fun x e w' h1 h2 h3 => ⟨by rw [h1, h2], h3⟩
  rcases (by omega : D < 2 ∨ (2 ≤ D ∧ (D - 2) / 8 < 32) ∨ (2 ≤ D ∧ 32 ≤ (D - 2) / 8 ∧ (D - 2) / 8 < 35) ∨ (2 ≤ D ∧ 35 ≤ (D - 2) / 8 ∧ (D - 2) / 8 ≤ 384) ∨ (2 ≤ D ∧ 384 < (D - 2) / 8)) with h | h | h | h | h
  · have e1 : (D - 2).tdiv 8 = 0 := by have := tdiv_lin (D - 2) 8 (by omega); omega
    go_enter Try.func27, Try.ntmps27
    go_wp2_with (go_at_call 35; refine (disk_call' A B m c d xs 1 (by omega) _ H D HD).mono ?_; rintro e w' ⟨rfl, hb⟩)
    all_goals go_ret
    all_goals exact fin _ _ _ rfl (by unfold putsOf; rw [if_pos (by omega)]) (((Below.refl _ _).alloc (Nat.le_refl _) _).trans (hb.mono (by simp)))
  · have t1 := tdiv_lin ((D - 2) / 8 - 32) 3 (by omega)
    have t2 := tdiv_lin (((D - 2) / 8 - 32).tdiv 3 - 1) 3 (by omega)
    have b1 : -11 ≤ ((D - 2) / 8 - 32).tdiv 3 := by omega
    have b2 : ((D - 2) / 8 - 32).tdiv 3 ≤ 0 := by omega
    have b3 : (((D - 2) / 8 - 32).tdiv 3 - 1).tdiv 3 ≤ 0 := by omega
    have b4 : -11 ≤ (((D - 2) / 8 - 32).tdiv 3 - 1).tdiv 3 := by omega
    clear t1 t2
    go_enter Try.func27, Try.ntmps27
    go_wp2_with (go_at_call 35; refine (disk_call' A B m c d xs 1 (by omega) _ H D HD).mono ?_; rintro e w' ⟨rfl, hb⟩)
    all_goals go_ret
    all_goals exact fin _ _ _ rfl (by unfold putsOf; rw [if_pos (by omega)]) (((Below.refl _ _).alloc (Nat.le_refl _) _).trans (hb.mono (by simp)))
  · have t1 := tdiv_lin (((D - 2) / 8 - 32) / 3 - 1) 3 (by omega)
    have e1 : (((D - 2) / 8 - 32) / 3 - 1).tdiv 3 = 0 := by omega
    clear t1
    go_enter Try.func27, Try.ntmps27
    go_wp2_with (go_at_call 35; refine (disk_call' A B m c d xs 1 (by omega) _ H D HD).mono ?_; rintro e w' ⟨rfl, hb⟩)
    all_goals go_ret
    all_goals exact fin _ _ _ rfl (by unfold putsOf; rw [if_pos (by omega)]) (((Below.refl _ _).alloc (Nat.le_refl _) _).trans (hb.mono (by simp)))
  · go_enter Try.func27, Try.ntmps27
    go_wp2_with (go_at_call 35; refine (disk_call' A B m c d xs 1 (by omega) _ H D HD).mono ?_; rintro e w' ⟨rfl, hb⟩)
    all_goals go_ret
    all_goals exact fin _ _ _ rfl (by unfold putsOf; split <;> omega) (((Below.refl _ _).alloc (Nat.le_refl _) _).trans (hb.mono (by simp)))
  · go_enter Try.func27, Try.ntmps27
    go_wp2_with (go_at_call 35; refine (disk_call' A B m c d xs 1 (by omega) _ H D HD).mono ?_; rintro e w' ⟨rfl, hb⟩)
    all_goals go_ret
    all_goals exact fin _ _ _ rfl (by unfold putsOf; split <;> omega) (((Below.refl _ _).alloc (Nat.le_refl _) _).trans (hb.mono (by simp)))

theorem sectors_call (A B : Option Addr) (m c d : Nat) (xs : List Int) (w : World) (hx : Ints w A xs) :
    Calls Try.prog 29 #[.agg #[.slice A xs.length c, .slice B m d]] w fun e w' => e = .returned (.int .i64 (sectorsOf (diskF xs 2))) ∧ Below w.heap.size w w' := by
  have hl := hx.len
  have hd := diskF_bd xs 2
  have H := hx.alloc (.cells #[.slice A xs.length c, .slice B m d] 46)
  obtain ⟨D, hD⟩ : ∃ D, diskF xs 2 = D := ⟨_, rfl⟩
  rw [hD] at hd ⊢
  have HD := Lib.hid hD
  clear hD
  rcases (by omega : D < 16 ∨ 16 ≤ D) with h | h
  · go_enter Try.func29, Try.ntmps29
    go_wp2_with (go_at_call 35; refine (disk_call' A B m c d xs 2 (by omega) _ H D HD).mono ?_; rintro e w' ⟨rfl, hb⟩)
    all_goals go_ret
    all_goals exact ⟨ret_int (by unfold sectorsOf; rw [if_pos h]), ((Below.refl _ _).alloc (Nat.le_refl _) _).trans (hb.mono (by simp))⟩
  · go_enter Try.func29, Try.ntmps29
    go_wp2_with (go_at_call 35; refine (disk_call' A B m c d xs 2 (by omega) _ H D HD).mono ?_; rintro e w' ⟨rfl, hb⟩)
    all_goals go_ret
    all_goals exact ⟨ret_int (by unfold sectorsOf; split <;> omega), ((Below.refl _ _).alloc (Nat.le_refl _) _).trans (hb.mono (by simp))⟩

theorem refSectors_call (A B : Option Addr) (m c d : Nat) (xs : List Int) (w : World) (hx : Ints w A xs) :
    Calls Try.prog 30 #[.agg #[.slice A xs.length c, .slice B m d]] w fun e w' => e = .returned (.int .i64 (sectorsOf (diskF xs 2))) ∧ Below w.heap.size w w' := by
  have hl := hx.len
  by_cases h3 : xs.length < 3
  · go_enter Try.func30, Try.ntmps30
    go_wp2
    all_goals go_ret
    all_goals exact ⟨ret_int (by simp only [diskF, if_pos h3]; decide), by go_grown⟩
  · obtain ⟨b, off, rfl, hb, hc⟩ := hx.at_ (by omega)
    have h := hc 2 (by omega)
    clear hc
    rcases (by omega : el xs 2 < 16 ∨ (16 ≤ el xs 2 ∧ el xs 2 ≤ 4096) ∨ 4096 < el xs 2) with h4 | h4 | h4
    · go_enter Try.func30, Try.ntmps30
      go_wp2
      all_goals go_ret
      all_goals exact ⟨ret_int (by simp only [diskF, if_neg h3, sectorsOf]; split <;> omega), by go_grown⟩
    · go_enter Try.func30, Try.ntmps30
      go_wp2
      all_goals go_ret
      all_goals exact ⟨ret_int (by simp only [diskF, if_neg h3, sectorsOf]; split <;> omega), by go_grown⟩
    · go_enter Try.func30, Try.ntmps30
      go_wp2
      all_goals go_ret
      all_goals exact ⟨ret_int (by simp only [diskF, if_neg h3, sectorsOf]; split <;> omega), by go_grown⟩

theorem refPuts_call (A B : Option Addr) (m c d : Nat) (xs : List Int) (w : World) (hx : Ints w A xs) :
    Calls Try.prog 28 #[.agg #[.slice A xs.length c, .slice B m d]] w fun e w' => e = .returned (.int .i64 (putsOf (diskF xs 1))) ∧ Below w.heap.size w w' := by
  have hl := hx.len
  by_cases h3 : xs.length < 3
  · go_enter Try.func28, Try.ntmps28
    go_wp2
    all_goals go_ret
    all_goals exact ⟨ret_int (by simp only [diskF, if_pos h3]; decide), by go_grown⟩
  · obtain ⟨b, off, rfl, hb, hc⟩ := hx.at_ (by omega)
    have h := hc 1 (by omega)
    clear hc
    rcases (by omega : el xs 1 < 34 ∨ (34 ≤ el xs 1 ∧ el xs 1 ≤ 4096 ∧ (el xs 1 - 2) / 8 < 32) ∨ (34 ≤ el xs 1 ∧ el xs 1 ≤ 4096 ∧ 32 ≤ (el xs 1 - 2) / 8 ∧ (el xs 1 - 2) / 8 < 35) ∨ (34 ≤ el xs 1 ∧ el xs 1 ≤ 4096 ∧ 35 ≤ (el xs 1 - 2) / 8 ∧ (el xs 1 - 2) / 8 ≤ 384) ∨ (34 ≤ el xs 1 ∧ el xs 1 ≤ 4096 ∧ 384 < (el xs 1 - 2) / 8) ∨ 4096 < el xs 1) with h4 | h4 | h4 | h4 | h4 | h4
    · go_enter Try.func28, Try.ntmps28
      go_wp2
      all_goals go_ret
      all_goals exact ⟨ret_int (by simp only [diskF, if_neg h3, putsOf]; split <;> omega), by go_grown⟩
    · go_enter Try.func28, Try.ntmps28
      go_wp2
      all_goals go_ret
      all_goals exact ⟨ret_int (by simp only [diskF, if_neg h3, putsOf]; split <;> omega), by go_grown⟩
    · have t1 := tdiv_lin (((el xs 1 - 2) / 8 - 32) / 3 - 1) 3 (by omega)
      have e1 : (((el xs 1 - 2) / 8 - 32) / 3 - 1).tdiv 3 = 0 := by omega
      clear t1
      go_enter Try.func28, Try.ntmps28
      go_wp2
      all_goals go_ret
      all_goals exact ⟨ret_int (by simp only [diskF, if_neg h3, putsOf]; split <;> omega), by go_grown⟩
    · go_enter Try.func28, Try.ntmps28
      go_wp2
      all_goals go_ret
      all_goals exact ⟨ret_int (by simp only [diskF, if_neg h3, putsOf]; split <;> omega), by go_grown⟩
    · go_enter Try.func28, Try.ntmps28
      go_wp2
      all_goals go_ret
      all_goals exact ⟨ret_int (by simp only [diskF, if_neg h3, putsOf]; split <;> omega), by go_grown⟩
    · go_enter Try.func28, Try.ntmps28
      go_wp2
      all_goals go_ret
      all_goals exact ⟨ret_int (by simp only [diskF, if_neg h3, putsOf]; split <;> omega), by go_grown⟩

def leastOf (i : Nat) : Int := if i = 0 then 64 else if i = 1 then 386 else 32

theorem least_call (i : Nat) (hi : i < 3) (w : World) : Calls Try.prog 34 #[.int .i64 i] w fun e w' => e = .returned (.int .i64 (leastOf i)) ∧ w = w' := by
  match i, hi with
  | 0, _ => go_enter Try.func34, Try.ntmps34; go_wp2; go_ret; exact ⟨rfl, rfl⟩
  | 1, _ => go_enter Try.func34, Try.ntmps34; go_wp2; go_ret; exact ⟨rfl, rfl⟩
  | 2, _ => go_enter Try.func34, Try.ntmps34; go_wp2; go_ret; exact ⟨rfl, rfl⟩
end Go.Proofs.Ytjpkendpnpkbeaa
