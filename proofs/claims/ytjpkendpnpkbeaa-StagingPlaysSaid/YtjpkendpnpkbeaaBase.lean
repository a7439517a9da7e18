/- Small words shared by the proofs of this seat: a slice of integers that is only read. -/
import Derived.Test.YtjpkendpnpkbeaaRows
import Derived.WalkKit
import Derived.WalkLawsBesides
import Derived.Lib.Hide
import Derived.Handy
namespace Go.Proofs.Ytjpkendpnpkbeaa
open Go.RowKit

theorem ret_int {k : IntKind} {a b : Int} (h : a = b) : Ending.returned (.int k a) = .returned (.int k b) := by rw [h]
theorem ret_bool {a b : Bool} (h : a = b) : Ending.returned (.bool a) = .returned (.bool b) := by rw [h]

/-- The k-th element; 0 beyond the end. -/
def el (xs : List Int) (k : Nat) : Int := xs.getD k 0

/-- The slice with address A reads as the integers xs (up to its length), all below the heap's end. -/
structure Ints (w : World) (A : Option Addr) (xs : List Int) : Prop where
  len : xs.length ≤ 9223372036854775807
  at_ : 0 < xs.length → ∃ b off, A = some ⟨b, off, none⟩ ∧ b < w.heap.size ∧ ∀ k, k < xs.length → w.cell? ⟨b, off + k, none⟩ = some (.int .i64 (el xs k))

theorem Ints.below {w w' : World} {A : Option Addr} {xs : List Int} (h : Ints w A xs) (hb : Below w.heap.size w w') : Ints w' A xs :=
  ⟨h.len, fun hk => by
    obtain ⟨b, off, e, hl, hc⟩ := h.at_ hk
    exact ⟨b, off, e, Nat.lt_of_lt_of_le hl hb.size, fun k hk => (hb.cell (p := ⟨b, off + k, none⟩) hl).trans (hc k hk)⟩⟩

/-- Go's quotient toward zero, for omega. -/
theorem tdiv_lin (a : Int) (c : Int) (_hc : 0 < c) : (0 ≤ a ∧ a.tdiv c = a / c) ∨ (a < 0 ∧ a.tdiv c = -(-a / c)) := by
  by_cases h : a < 0
  · refine .inr ⟨h, ?_⟩
    have h2 : (-(-a)).tdiv c = -((-a).tdiv c) := Int.neg_tdiv _ _
    rw [Int.neg_neg, Int.tdiv_eq_ediv_of_nonneg (by omega : (0:Int) ≤ -a)] at h2
    exact h2
  · exact .inl ⟨by omega, Int.tdiv_eq_ediv_of_nonneg (by omega)⟩

theorem Ints.alloc {w : World} {A : Option Addr} {xs : List Int} (h : Ints w A xs) (o : Obj) : Ints (w.alloc o) A xs :=
  h.below ((Below.refl _ _).alloc (Nat.le_refl _) o)

end Go.Proofs.Ytjpkendpnpkbeaa
