/- The contracts of quota.May and its reference. -/
import Derived.Test.YtjpkendpnpkbeaaQuota
namespace Go.Proofs.Ytjpkendpnpkbeaa
open Go.RowKit

def okDisk (xs : List Int) (j : Nat) : Prop := leastOf j ≤ el xs j ∧ el xs j ≤ 4096
def okTape (ys : List Int) (j : Nat) : Prop := 12 ≤ el ys j ∧ el ys j ≤ 4096
instance (xs : List Int) (j : Nat) : Decidable (okDisk xs j) := by unfold okDisk; infer_instance
instance (xs : List Int) (j : Nat) : Decidable (okTape xs j) := by unfold okTape; infer_instance
instance (xs : List Int) : Decidable (∀ j, j < 3 → okDisk xs j) := Nat.decidableBallLT 3 fun j _ => okDisk xs j
instance (ys : List Int) : Decidable (∀ j, j < ys.length → okTape ys j) := Nat.decidableBallLT ys.length fun j _ => okTape ys j
def mayB (xs ys : List Int) (r : Int) : Bool := decide (xs.length = 3 ∧ 1 ≤ ys.length ∧ ys.length ≤ 9 ∧ 1 ≤ r ∧ r ≤ 4 ∧ r ≤ ys.length ∧ (∀ j, j < 3 → okDisk xs j) ∧ ∀ j, j < ys.length → okTape ys j)

theorem mayB_false {xs ys : List Int} {r : Int} (h : ¬ (xs.length = 3 ∧ 1 ≤ ys.length ∧ ys.length ≤ 9 ∧ 1 ≤ r ∧ r ≤ 4 ∧ r ≤ ys.length ∧ (∀ j, j < 3 → okDisk xs j) ∧ ∀ j, j < ys.length → okTape ys j)) : mayB xs ys r = false := decide_eq_false h

theorem all_snoc {p : Nat → Prop} {k : Nat} (h : ∀ j, j < k → p j) (hk : p k) : ∀ j, j < k + 1 → p j := fun j hj => by
  by_cases e : j = k
  · subst e; exact hk
  · exact h j (by omega)

set_option maxHeartbeats 1000000 in
theorem may_call (A B : Option Addr) (c d : Nat) (xs ys : List Int) (r : Int) (w : World) (hx : Ints w A xs) (hy : Ints w B ys) :
    Calls Try.prog 25 #[.agg #[.slice A xs.length c, .slice B ys.length d], .agg #[.int .i64 r]] w fun e w' => e = .returned (.bool (mayB xs ys r)) ∧ Below w.heap.size w w' := by
  have hl := hx.len
  have hm := hy.len
  by_cases h1 : xs.length < 3 ∨ 3 < xs.length
  · have e1 : ((xs.length : Int) != 3) = true := by rw [bne_iff_ne]; omega
    rw [mayB_false (by omega)]
    go_enter Try.func25, Try.ntmps25
    go_wp2
    go_ret
    exact ⟨rfl, by go_grown⟩
  have e1 : ((xs.length : Int) != 3) = false := by rw [bne_eq_false_iff_eq]; omega
  by_cases h2 : ys.length < 1
  · have e2 : ((ys.length : Int) == 0) = true := by rw [beq_iff_eq]; omega
    rw [mayB_false (by omega)]
    go_enter Try.func25, Try.ntmps25
    go_wp2
    go_ret
    exact ⟨rfl, by go_grown⟩
  have e2 : ((ys.length : Int) == 0) = false := by rw [beq_eq_false_iff_ne]; omega
  by_cases h3 : 9 < ys.length
  · rw [mayB_false (by omega)]
    go_enter Try.func25, Try.ntmps25
    go_wp2
    go_ret
    exact ⟨rfl, by go_grown⟩
  by_cases h4 : r < 1
  · rw [mayB_false (by omega)]
    go_enter Try.func25, Try.ntmps25
    go_wp2
    go_ret
    exact ⟨rfl, by go_grown⟩
  by_cases h5 : 4 < r ∨ (ys.length : Int) < r
  · rw [mayB_false (by omega)]
    rcases (by omega : 4 ≤ ys.length ∨ ys.length < 4) with h6 | h6
    all_goals
      go_enter Try.func25, Try.ntmps25
      go_wp2
      all_goals go_ret
      all_goals exact ⟨rfl, by go_grown⟩
  obtain ⟨bx, ox, rfl, hbx, hcx⟩ := hx.at_ (by omega)
  obtain ⟨by', oy, rfl, hby, hcy⟩ := hy.at_ (by omega)
  have HX := Lib.hid hcx
  have HY := Lib.hid hcy
  clear hcx hcy
  rcases (by omega : 4 ≤ ys.length ∨ ys.length < 4) with h6 | h6
  all_goals
    go_enter Try.func25, Try.ntmps25
    go_wp2
    go_loop [40] (fun i => ∃ k : Nat, k ≤ 3 ∧ i = .int .i64 k ∧ Hid (∀ j, j < k → okDisk xs j)) (fun i => 3 - (intOf i).toNat)
    case atStart => exact ⟨0, by omega, rfl, fun j hj => absurd hj (by omega)⟩
    case round =>
      obtain ⟨k, hk, rfl, hok⟩ := hrel
      by_cases hlt : k < 3
      · have hc := HX.out k (by omega)
        by_cases ha : el xs k < leastOf k
        · go_wp2_with (go_at_call 34; refine (least_call k hlt _).mono ?_; rintro e w' ⟨rfl, rfl⟩)
          go_ret
          exact ⟨ret_bool (mayB_false (fun h => by have := h.2.2.2.2.2.2.1 k hlt; unfold okDisk at this; omega)).symm, by go_grown⟩
        · by_cases hb : 4096 < el xs k
          · go_wp2_with (go_at_call 34; refine (least_call k hlt _).mono ?_; rintro e w' ⟨rfl, rfl⟩)
            go_ret
            exact ⟨ret_bool (mayB_false (fun h => by have := h.2.2.2.2.2.2.1 k hlt; unfold okDisk at this; omega)).symm, by go_grown⟩
          · go_wp2_with (go_at_call 34; refine (least_call k hlt _).mono ?_; rintro e w' ⟨rfl, rfl⟩)
            go_round
            case rel => exact ⟨k + 1, by omega, by go_num, all_snoc hok.out ⟨by omega, by omega⟩⟩
            case measure => simp [intOf]; omega
      · obtain rfl : k = 3 := by omega
        go_wp2
        go_loop [57] (fun i => ∃ k : Nat, k ≤ ys.length ∧ i = .int .i64 k ∧ Hid (∀ j, j < k → okTape ys j)) (fun i => ys.length - (intOf i).toNat)
        case atStart => exact ⟨0, by omega, rfl, fun j hj => absurd hj (by omega)⟩
        case round =>
          obtain ⟨k, hk, rfl, hok2⟩ := hrel
          by_cases hlt : k < ys.length
          · have hc := HY.out k (by omega)
            by_cases ha : el ys k < 12
            · go_wp2
              go_ret
              exact ⟨ret_bool (mayB_false (fun h => by have := h.2.2.2.2.2.2.2 k hlt; unfold okTape at this; omega)).symm, by go_grown⟩
            · by_cases hb : 4096 < el ys k
              · go_wp2
                go_ret
                exact ⟨ret_bool (mayB_false (fun h => by have := h.2.2.2.2.2.2.2 k hlt; unfold okTape at this; omega)).symm, by go_grown⟩
              · go_wp2
                go_round
                case rel => exact ⟨k + 1, by omega, by go_num, all_snoc hok2.out ⟨by omega, by omega⟩⟩
                case measure => simp [intOf]; omega
          · go_wp2
            go_ret
            refine ⟨ret_bool ?_, by go_grown⟩
            symm
            exact decide_eq_true ⟨by omega, by omega, by omega, by omega, by omega, by omega, hok.out, fun j hj => hok2.out j (by omega)⟩
end Go.Proofs.Ytjpkendpnpkbeaa
