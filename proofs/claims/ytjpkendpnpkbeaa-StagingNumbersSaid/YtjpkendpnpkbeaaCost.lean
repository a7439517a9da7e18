/- The contracts of quota.Cost and of its reference. -/
import Derived.Test.YtjpkendpnpkbeaaRows
import Derived.WalkKit
import Derived.WalkLawsBesides
import Derived.Lib.Hide
namespace Go.Proofs.Ytjpkendpnpkbeaa
open Go.RowKit

theorem ret_int {k : IntKind} {a b : Int} (h : a = b) : Ending.returned (.int k a) = .returned (.int k b) := by rw [h]

def costF (n : Int) : Int := if n < 0 ∨ n > 512 then 0 else 1 + (n + 63) / 64

set_option maxHeartbeats 400000 in
theorem cost_call (n : Int) (w : World) : Calls Try.prog 31 #[.int .i64 n] w fun e w' => e = .returned (.int .i64 (costF n)) ∧ w = w' := by
  by_cases h : n < 0
  · go_enter Try.func31, Try.ntmps31
    go_wp2
    go_ret
    exact ⟨by simp [costF, h], rfl⟩
  · by_cases h2 : 512 < n
    · go_enter Try.func31, Try.ntmps31
      go_wp2
      go_ret
      exact ⟨by simp [costF, h2], rfl⟩
    · go_enter Try.func31, Try.ntmps31
      go_wp2
      go_ret
      refine ⟨ret_int ?_, rfl⟩
      unfold costF
      rw [if_neg (by omega)]
      omega

theorem refCost_call (n : Int) (w : World) : Calls Try.prog 32 #[.int .i64 n] w fun e w' => e = .returned (.int .i64 (costF n)) ∧ w = w' := by
  by_cases h : n < 0
  · go_enter Try.func32, Try.ntmps32
    go_wp2
    go_ret
    exact ⟨by simp [costF, h], rfl⟩
  · by_cases h2 : 512 < n
    · go_enter Try.func32, Try.ntmps32
      go_wp2
      go_ret
      exact ⟨by simp [costF, h2], rfl⟩
    · go_enter Try.func32, Try.ntmps32
      go_wp2
      go_loop [0, 3] (fun l c => ∃ k : Nat, k ≤ 9 ∧ 64 * (k : Int) < n + 64 ∧ l = .int .i64 (n - 64 * k) ∧ c = .int .i64 (1 + k)) (fun l _ => (intOf l).toNat)
      case atStart => exact ⟨0, by omega, by omega, by simp, rfl⟩
      case round =>
        obtain ⟨k, hk, hk2, rfl, rfl⟩ := hrel
        by_cases hlt : 0 < n - 64 * k
        · go_wp2
          go_round
          case rel => exact ⟨k + 1, by omega, by omega, by go_num, by go_num⟩
          case measure => simp [intOf]; omega
        · go_wp2
          go_ret
          refine ⟨ret_int ?_, rfl⟩
          unfold costF
          rw [if_neg (by omega)]
          omega
end Go.Proofs.Ytjpkendpnpkbeaa
