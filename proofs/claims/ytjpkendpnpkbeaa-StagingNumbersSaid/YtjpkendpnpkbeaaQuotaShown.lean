/- The head of the law's statements: the document's examples hold. -/
import Derived.Test.YtjpkendpnpkbeaaQuotaMay
import Derived.Test.YtjpkendpnpkbeaaCost
namespace Go.Proofs.Ytjpkendpnpkbeaa
open Go.RowKit

theorem ints_3 {W : World} {b : Nat} {x y z : Int} (hb : b < W.heap.size) (h0 : W.cell? ⟨b, 0, none⟩ = some (.int .i64 x)) (h1 : W.cell? ⟨b, 1, none⟩ = some (.int .i64 y)) (h2 : W.cell? ⟨b, 2, none⟩ = some (.int .i64 z)) :
    Ints W (some ⟨b, 0, none⟩) [x, y, z] := by
  refine ⟨by simp, fun _ => ⟨b, 0, rfl, hb, fun k hk => ?_⟩⟩
  match k, hk with
  | 0, _ => exact h0
  | 1, _ => exact h1
  | 2, _ => exact h2
theorem ints_2 {W : World} {b : Nat} {x y : Int} (hb : b < W.heap.size) (h0 : W.cell? ⟨b, 0, none⟩ = some (.int .i64 x)) (h1 : W.cell? ⟨b, 1, none⟩ = some (.int .i64 y)) :
    Ints W (some ⟨b, 0, none⟩) [x, y] := by
  refine ⟨by simp, fun _ => ⟨b, 0, rfl, hb, fun k hk => ?_⟩⟩
  match k, hk with
  | 0, _ => exact h0
  | 1, _ => exact h1
theorem ints_1 {W : World} {b : Nat} {x : Int} (hb : b < W.heap.size) (h0 : W.cell? ⟨b, 0, none⟩ = some (.int .i64 x)) :
    Ints W (some ⟨b, 0, none⟩) [x] := by
  refine ⟨by simp, fun _ => ⟨b, 0, rfl, hb, fun k hk => ?_⟩⟩
  match k, hk with
  | 0, _ => exact h0
theorem ints_0 {W : World} : Ints W none [] := ⟨by simp, fun h => absurd h (by simp)⟩

/-- What shown has laid, n blocks from the call's start on. -/
structure Sh (n : Nat) (w : World) : Prop where
  size : n + 6 ≤ w.heap.size
  i1 : Ints w (some ⟨n, 0, none⟩) [64, 402, 64]
  i2 : Ints w (some ⟨n + 1, 0, none⟩) [100, 100]
  i3 : Ints w (some ⟨n + 1 + 1 + 1, 0, none⟩) [64, 386, 32]
  i4 : Ints w (some ⟨n + 1 + 1 + 1 + 1, 0, none⟩) [12]
  c1 : w.cell? ⟨n + 1 + 1, 0, none⟩ = some (.slice (some ⟨n, 0, none⟩) 3 3)
  c2 : w.cell? ⟨n + 1 + 1, 1, none⟩ = some (.slice (some ⟨n + 1, 0, none⟩) 2 2)
  c3 : w.cell? ⟨n + 1 + 1 + 1 + 1 + 1, 0, none⟩ = some (.slice (some ⟨n + 1 + 1 + 1, 0, none⟩) 3 3)
  c4 : w.cell? ⟨n + 1 + 1 + 1 + 1 + 1, 1, none⟩ = some (.slice (some ⟨n + 1 + 1 + 1 + 1, 0, none⟩) 1 1)

theorem Sh.below {n : Nat} {w w' : World} (h : Sh n w) (hb : Below w.heap.size w w') : Sh n w' :=
  ⟨Nat.le_trans h.size hb.size, h.i1.below hb, h.i2.below hb, h.i3.below hb, h.i4.below hb, (hb.cell (by have := h.size; simp; omega)).trans h.c1, (hb.cell (by have := h.size; simp; omega)).trans h.c2,
    (hb.cell (by have := h.size; simp; omega)).trans h.c3, (hb.cell (by have := h.size; simp; omega)).trans h.c4⟩

theorem may_call' (b : Bool) (A B : Option Addr) (n m c d : Nat) (xs ys : List Int) (r : Int) (w : World) (hx : Ints w A xs) (hy : Ints w B ys) (hn : xs.length = n) (hm : ys.length = m) (hb : mayB xs ys r = b) :
    Calls Try.prog 25 #[.agg #[.slice A n c, .slice B m d], .agg #[.int .i64 r]] w fun e w' => e = .returned (.bool b) ∧ Below w.heap.size w w' := by
  subst hn; subst hm; subst hb; exact may_call A B c d xs ys r w hx hy
theorem puts_call' (b : Int) (A B : Option Addr) (n m c d : Nat) (xs : List Int) (w : World) (hx : Ints w A xs) (hn : xs.length = n) (hb : putsOf (diskF xs 1) = b) :
    Calls Try.prog 27 #[.agg #[.slice A n c, .slice B m d]] w fun e w' => e = .returned (.int .i64 b) ∧ Below w.heap.size w w' := by
  subst hn; subst hb; exact puts_call A B m c d xs w hx
theorem sectors_call' (b : Int) (A B : Option Addr) (n m c d : Nat) (xs : List Int) (w : World) (hx : Ints w A xs) (hn : xs.length = n) (hb : sectorsOf (diskF xs 2) = b) :
    Calls Try.prog 29 #[.agg #[.slice A n c, .slice B m d]] w fun e w' => e = .returned (.int .i64 b) ∧ Below w.heap.size w w' := by
  subst hn; subst hb; exact sectors_call A B m c d xs w hx
theorem cost_call' (b n : Int) (w : World) (hb : costF n = b) : Calls Try.prog 31 #[.int .i64 n] w fun e w' => e = .returned (.int .i64 b) ∧ w = w' := by
  subst hb; exact cost_call n w

set_option maxRecDepth 100000 in
set_option maxHeartbeats 1000000 in
theorem shown20_call (w : World) : Calls Try.prog 24 #[] w fun e w' => e = .returned (.bool true) ∧ Below w.heap.size w w' := by
  go_enter Try.func24, Try.ntmps24
  go_wp2_with fail
  refine (may_call' true _ _ _ _ _ _ [64, 402, 64] [100, 100] 2 _ (ints_3 (by simp <;> omega) (by simp [go_sem]) (by simp [go_sem]) (by simp [go_sem])) (ints_2 (by simp <;> omega) (by simp [go_sem]) (by simp [go_sem])) rfl rfl (by decide)).mono ?_
  rintro e w1 ⟨rfl, hb1⟩
  have S1 : Sh w.heap.size w1 := Sh.below ⟨by simp, ints_3 (by simp <;> omega) (by simp [go_sem]) (by simp [go_sem]) (by simp [go_sem]), ints_2 (by simp <;> omega) (by simp [go_sem]) (by simp [go_sem]), ints_3 (by simp <;> omega) (by simp [go_sem]) (by simp [go_sem]) (by simp [go_sem]), ints_1 (by simp <;> omega) (by simp [go_sem]), by simp [go_sem], by simp [go_sem], by simp [go_sem], by simp [go_sem]⟩ hb1
  have B1 : Below w.heap.size w w1 := (by go_grown : Below w.heap.size w _).trans (hb1.mono (by simp; omega))
  clear hb1
  have c1 := S1.c1
  have c2 := S1.c2
  have c3 := S1.c3
  have c4 := S1.c4
  go_wp2_with fail
  refine (may_call' true _ _ _ _ _ _ [64, 386, 32] [12] 1 _ S1.i3 S1.i4 rfl rfl (by decide)).mono ?_
  rintro e w2 ⟨rfl, hb2⟩
  have S2 := S1.below hb2
  have B2 := B1.trans (hb2.mono (by have := S1.size; omega))
  clear c1 c2 c3 c4 hb2
  have c1 := S2.c1
  have c2 := S2.c2
  have c3 := S2.c3
  have c4 := S2.c4
  go_wp2_with fail
  refine (may_call' false _ _ _ _ _ _ [64, 386, 32] [12] 2 _ S2.i3 S2.i4 rfl rfl (by decide)).mono ?_
  rintro e w3 ⟨rfl, hb3⟩
  have S3 := S2.below hb3
  have B3 := B2.trans (hb3.mono (by have := S2.size; omega))
  clear c1 c2 c3 c4 hb3
  have c1 := S3.c1
  have c2 := S3.c2
  have c3 := S3.c3
  have c4 := S3.c4
  go_wp2_with fail
  refine (may_call' false _ _ _ _ _ _ [] [] 1 _ ints_0 ints_0 rfl rfl (by decide)).mono ?_
  rintro e w4 ⟨rfl, hb4⟩
  have S4 := S3.below hb4
  have B4 := B3.trans (hb4.mono (by have := S3.size; omega))
  clear c1 c2 c3 c4 hb4
  have c1 := S4.c1
  have c2 := S4.c2
  have c3 := S4.c3
  have c4 := S4.c4
  go_wp2_with fail
  refine (puts_call' 1 _ _ _ _ _ _ [64, 402, 64] _ S4.i1 rfl (by decide)).mono ?_
  rintro e w5 ⟨rfl, hb5⟩
  have S5 := S4.below hb5
  have B5 := B4.trans (hb5.mono (by have := S4.size; omega))
  clear c1 c2 c3 c4 hb5
  have c1 := S5.c1
  have c2 := S5.c2
  have c3 := S5.c3
  have c4 := S5.c4
  go_wp2_with fail
  refine (sectors_call' 24 _ _ _ _ _ _ [64, 402, 64] _ S5.i1 rfl (by decide)).mono ?_
  rintro e w6 ⟨rfl, hb6⟩
  have B6 := B5.trans (hb6.mono (by have := S5.size; omega))
  clear c1 c2 c3 c4 hb6
  go_wp2_with fail
  refine (cost_call' 1 _ _ (by decide)).mono ?_
  rintro e w' ⟨rfl, rfl⟩
  go_wp2_with fail
  refine (cost_call' 3 _ _ (by decide)).mono ?_
  rintro e w' ⟨rfl, rfl⟩
  go_wp2_with fail
  refine (cost_call' 9 _ _ (by decide)).mono ?_
  rintro e w' ⟨rfl, rfl⟩
  go_wp2_with fail
  refine (cost_call' 0 _ _ (by decide)).mono ?_
  rintro e w' ⟨rfl, rfl⟩
  go_wp2_with fail
  refine (cost_call' 0 _ _ (by decide)).mono ?_
  rintro e w' ⟨rfl, rfl⟩
  go_wp2_with fail
  go_ret
  exact ⟨rfl, B6⟩
end Go.Proofs.Ytjpkendpnpkbeaa
