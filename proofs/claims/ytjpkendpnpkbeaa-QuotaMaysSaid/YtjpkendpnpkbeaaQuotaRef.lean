/- The contract of the reference's May. -/
import Derived.Test.YtjpkendpnpkbeaaQuotaMay
namespace Go.Proofs.Ytjpkendpnpkbeaa
open Go.RowKit

set_option maxRecDepth 100000 in
set_option maxHeartbeats 1000000 in
theorem refMay_call (A B : Option Addr) (c d : Nat) (xs ys : List Int) (r : Int) (w : World) (hx : Ints w A xs) (hy : Ints w B ys) :
    Calls Try.prog 26 #[.agg #[.slice A xs.length c, .slice B ys.length d], .agg #[.int .i64 r]] w fun e w' => e = .returned (.bool (mayB xs ys r)) ∧ Below w.heap.size w w' := by
  have hl := hx.len
  have hm := hy.len
  by_cases h1 : xs.length < 3 ∨ 3 < xs.length
  · have e1 : ((xs.length : Int) != 3) = true := by rw [bne_iff_ne]; omega
    rw [mayB_false (by omega)]
    go_enter Try.func26, Try.ntmps26
    go_wp2
    go_ret
    exact ⟨rfl, by go_grown⟩
  have e1 : ((xs.length : Int) != 3) = false := by rw [bne_eq_false_iff_eq]; omega
  by_cases h2 : ys.length < 1
  · rw [mayB_false (by omega)]
    go_enter Try.func26, Try.ntmps26
    go_wp2
    go_ret
    exact ⟨rfl, by go_grown⟩
  by_cases h3 : 9 < ys.length
  · rw [mayB_false (by omega)]
    go_enter Try.func26, Try.ntmps26
    go_wp2
    go_ret
    exact ⟨rfl, by go_grown⟩
  by_cases h4 : r < 1
  · rw [mayB_false (by omega)]
    go_enter Try.func26, Try.ntmps26
    go_wp2
    go_ret
    exact ⟨rfl, by go_grown⟩
  by_cases h5 : 4 < r
  · rw [mayB_false (by omega)]
    go_enter Try.func26, Try.ntmps26
    go_wp2
    go_ret
    exact ⟨rfl, by go_grown⟩
  by_cases h6 : (ys.length : Int) < r
  · rw [mayB_false (by omega)]
    go_enter Try.func26, Try.ntmps26
    go_wp2
    go_ret
    exact ⟨rfl, by go_grown⟩
  obtain ⟨bx, ox, rfl, hbx, hcx⟩ := hx.at_ (by omega)
  obtain ⟨by', oy, rfl, hby, hcy⟩ := hy.at_ (by omega)
  have c0 : w.cell? ⟨bx, ox, none⟩ = some (.int .i64 (el xs 0)) := hcx 0 (by omega)
  have c1 := hcx 1 (by omega)
  have c2 := hcx 2 (by omega)
  have l0 : 0 < xs.length := by omega
  have l1 : 1 < xs.length := by omega
  have l2 : 2 < xs.length := by omega
  have HX := Lib.hid hcx
  have HY := Lib.hid hcy
  clear hcx hcy
  go_enter Try.func26, Try.ntmps26
  go_wp2
  go_loop [5] (fun i => ∃ k : Nat, k ≤ 3 ∧ i = .int .i64 k ∧ Hid (∀ j, j < k → el xs j ≤ 4096)) (fun i => 3 - (intOf i).toNat)
  case atStart => exact ⟨0, by omega, rfl, fun j hj => absurd hj (by omega)⟩
  case round =>
    obtain ⟨k, hk, rfl, hok⟩ := hrel
    by_cases hlt : k < 3
    · have hc := HX.out k (by omega)
      have hkx : k < xs.length := by omega
      by_cases hb : 4096 < el xs k
      · go_wp2
        go_ret
        exact ⟨ret_bool (mayB_false (fun h => by have := h.2.2.2.2.2.2.1 k hlt; unfold okDisk at this; omega)).symm, by go_grown⟩
      · go_wp2
        go_round
        case rel => exact ⟨k + 1, by omega, by go_num, all_snoc hok.out (by omega)⟩
        case measure => simp [intOf]; omega
    · obtain rfl : k = 3 := by omega
      go_wp2
      go_loop [6] (fun i => ∃ k : Nat, k ≤ ys.length ∧ i = .int .i64 k ∧ Hid (∀ j, j < k → okTape ys j)) (fun i => ys.length - (intOf i).toNat)
      case atStart => exact ⟨0, by omega, rfl, fun j hj => absurd hj (by omega)⟩
      case round =>
        obtain ⟨k, hk, rfl, hok2⟩ := hrel
        by_cases hlt : k < ys.length
        · have hc := HY.out k (by omega)
          by_cases ha : el ys k < 12
          · go_wp2
            go_ret
            exact ⟨ret_bool (mayB_false (fun h => by have := h.2.2.2.2.2.2.2 k hlt; unfold okTape at this; omega)).symm, by go_grown⟩
          · by_cases hb : 4096 < el ys k
            · go_wp2
              go_ret
              exact ⟨ret_bool (mayB_false (fun h => by have := h.2.2.2.2.2.2.2 k hlt; unfold okTape at this; omega)).symm, by go_grown⟩
            · go_wp2
              go_round
              case rel => exact ⟨k + 1, by omega, by go_num, all_snoc hok2.out ⟨by omega, by omega⟩⟩
              case measure => simp [intOf]; omega
        · have key : mayB xs ys r = decide (64 ≤ el xs 0 ∧ 386 ≤ el xs 1 ∧ 32 ≤ el xs 2) := by
            unfold mayB
            rw [decide_eq_decide]
            have o0 := hok.out 0 (by omega)
            have o1 := hok.out 1 (by omega)
            have o2 := hok.out 2 (by omega)
            constructor
            · intro h
              have h0 := (h.2.2.2.2.2.2.1 0 (by omega)).1
              have h1 := (h.2.2.2.2.2.2.1 1 (by omega)).1
              have h2 := (h.2.2.2.2.2.2.1 2 (by omega)).1
              exact ⟨h0, h1, h2⟩
            · intro ⟨h0, h1, h2⟩
              refine ⟨by omega, by omega, by omega, by omega, by omega, by omega, fun j hj => ?_, fun j hj => hok2.out j (by omega)⟩
              match j, hj with
              | 0, _ => exact ⟨h0, o0⟩
              | 1, _ => exact ⟨h1, o1⟩
              | 2, _ => exact ⟨h2, o2⟩
          have HK := Lib.hid key
          clear key
          by_cases d0 : 64 ≤ el xs 0
          · by_cases d1 : 386 ≤ el xs 1
            · go_wp2
              all_goals go_ret
              all_goals exact ⟨ret_bool (by rw [HK.out]; first | (rw [decide_eq_decide]; omega) | (exact (decide_eq_false (by omega)).symm) | (simp; omega)), by go_grown⟩
            · go_wp2
              all_goals go_ret
              all_goals exact ⟨ret_bool (by rw [HK.out]; first | (rw [decide_eq_decide]; omega) | (exact (decide_eq_false (by omega)).symm) | (simp; omega)), by go_grown⟩
          · go_wp2
            all_goals go_ret
            all_goals exact ⟨ret_bool (by rw [HK.out]; first | (rw [decide_eq_decide]; omega) | (exact (decide_eq_false (by omega)).symm) | (simp; omega)), by go_grown⟩
end Go.Proofs.Ytjpkendpnpkbeaa
