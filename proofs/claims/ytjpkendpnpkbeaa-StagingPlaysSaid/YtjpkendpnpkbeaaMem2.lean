/- Rows that the call owns: their block, a store elsewhere, a store into them. -/
import Derived.Test.YtjpkendpnpkbeaaMem
namespace Go.Proofs.Ytjpkendpnpkbeaa
open Go.RowKit

theorem Row.own {w : World} {base : Nat} {e : TypeId} {size : Nat} {A : Option Addr} {n cap : Nat} {xs : List Value} (h : Row w base e size (.slice A n cap) n xs) (hn : 0 < n) :
    ∃ g, A = some ⟨g, 0, none⟩ ∧ base ≤ g ∧ g < w.heap.size ∧ w.ownsRow base e size (.slice (some ⟨g, 0, none⟩) n cap) n xs := by
  rcases h with h | ⟨_, _, h0, _⟩
  · obtain ⟨g, cap', e', hb, hlt⟩ := h.form hn
    cases e'
    exact ⟨g, rfl, hb, hlt, h⟩
  · omega

section
variable {w w' : World} {base : Nat} {e : TypeId} {size g n cap : Nat} {xs : List Value}

theorem own_of_block (h : w.ownsRow base e size (.slice (some ⟨g, 0, none⟩) n cap) n xs) (hb : w'.heap[g]? = w.heap[g]?) : w'.ownsRow base e size (.slice (some ⟨g, 0, none⟩) n cap) n xs := by
  refine ⟨h.1, ?_⟩
  rcases h.2 with ⟨h0, _⟩ | ⟨g', cap', cur, hv, a, b, c⟩
  · cases h0
  · cases hv
    exact .inr ⟨g, cap, cur, rfl, a, hb.trans b, c⟩

theorem own_base {base' : Nat} {v : Value} (h : w.ownsRow base e size v n xs) (hb : base' ≤ base) : w.ownsRow base' e size v n xs := by
  refine ⟨h.1, ?_⟩
  rcases h.2 with h0 | ⟨g', cap', cur, hv, a, b, c⟩
  · exact .inl h0
  · exact .inr ⟨g', cap', cur, hv, Nat.le_trans hb a, b, c⟩

theorem own_lt (h : w.ownsRow base e size (.slice (some ⟨g, 0, none⟩) n cap) n xs) : g < w.heap.size := (h.lt g rfl).2

theorem own_below {B : Nat} (h : w.ownsRow base e size (.slice (some ⟨g, 0, none⟩) n cap) n xs) (hb : Below B w w') (hg : g < B) : w'.ownsRow base e size (.slice (some ⟨g, 0, none⟩) n cap) n xs :=
  own_of_block h (hb.block g hg)

theorem own_alloc (h : w.ownsRow base e size (.slice (some ⟨g, 0, none⟩) n cap) n xs) (o : Obj) : (w.alloc o).ownsRow base e size (.slice (some ⟨g, 0, none⟩) n cap) n xs :=
  own_of_block h (Below.heap_alloc w o g (own_lt h))

theorem own_set_far (h : w.ownsRow base e size (.slice (some ⟨g, 0, none⟩) n cap) n xs) {p : Addr} (hp : g ≠ p.block) (u : Value) : (w.setCell p u).ownsRow base e size (.slice (some ⟨g, 0, none⟩) n cap) n xs :=
  own_of_block h (Below.heap_setCell w p u g hp)

theorem own_drew (h : w.ownsRow base e size (.slice (some ⟨g, 0, none⟩) n cap) n xs) : w.drew.ownsRow base e size (.slice (some ⟨g, 0, none⟩) n cap) n xs := own_of_block h rfl
end

theorem src_new1 (w : World) (u : Value) (t : TypeId) : Src (w.alloc (.cells #[u] t)) 1 (some ⟨w.heap.size, 0, none⟩) 1 [u] :=
  ⟨rfl, fun _ => ⟨_, rfl, fun j v hv => by
    cases j with
    | zero => simp at hv; subst hv; simp [Addr.add]
    | succ j => simp at hv⟩⟩

theorem grown_block {w w' : World} {o : Obj} {b g : Nat} (h : (w.alloc o).grownBy w' (some b)) (hg : g < w.heap.size) (hne : g ≠ b) : w'.heap[g]? = w.heap[g]? :=
  (h.block g (by simp; omega) (fun e => hne (by cases e; rfl))).trans (Below.heap_alloc w o g hg)

/-- A row of integers that the call owns. -/
def IRow (w : World) (base : Nat) (g cap : Nat) (xs : List Int) : Prop := w.ownsRow base 3 1 (.slice (some ⟨g, 0, none⟩) xs.length cap) xs.length (xs.map (Value.int .i64))

theorem IRow.cell {w : World} {base g cap : Nat} {xs : List Int} (h : IRow w base g cap xs) {k : Nat} (hk : k < xs.length) : w.cell? ⟨g, k, none⟩ = some (.int .i64 (el xs k)) := by
  have h1 : w.ownsRow base 3 1 (.slice (some ⟨g, 0, none⟩) xs.length cap) xs.length (xs.map (Value.int .i64)) := h
  rw [h1.cellAt k (by omega), List.getElem?_map, List.getElem?_eq_getElem hk]
  unfold el
  rw [List.getD_eq_getElem?_getD, List.getElem?_eq_getElem hk]
  rfl

theorem IRow.frozen {w : World} {base g cap : Nat} {xs : List Int} (h : IRow w base g cap xs) (k : Nat) : w.frozen? ⟨g, k, none⟩ = false := World.ownsRow.frozenAt h k

theorem IRow.ints {w : World} {base g cap : Nat} {xs : List Int} (h : IRow w base g cap xs) (hl : xs.length ≤ 9223372036854775807) : Ints w (some ⟨g, 0, none⟩) xs :=
  ⟨hl, fun _ => ⟨g, 0, rfl, own_lt h, fun k hk => by rw [Nat.zero_add]; exact h.cell hk⟩⟩

theorem IRow.set {w : World} {base g cap : Nat} {xs : List Int} (h : IRow w base g cap xs) {k : Nat} (u : Int) : IRow (w.setCell ⟨g, k, none⟩ (.int .i64 u)) base g cap (xs.set k u) := by
  have h1 : w.ownsRow base 3 1 (.slice (some ⟨g, 0, none⟩) xs.length cap) xs.length (xs.map (Value.int .i64)) := h
  have h2 := h1.stored k (.int .i64 u)
  unfold IRow
  rw [List.length_set, List.map_set]
  exact h2.1

theorem IRow.snoc {w : World} {base g cap : Nat} {xs : List Int} {t : Int} (h : w.ownsRow base 3 1 (.slice (some ⟨g, 0, none⟩) (xs.length + 1) cap) (xs.length + 1) (xs.map (Value.int .i64) ++ [.int .i64 t])) : IRow w base g cap (xs ++ [t]) := by
  unfold IRow
  rw [List.length_append, List.map_append]
  exact h

theorem el_set {xs : List Int} {k : Nat} {u : Int} (hk : k < xs.length) (j : Nat) : el (xs.set k u) j = if j = k then u else el xs j := by
  unfold el
  rw [List.getD_eq_getElem?_getD, List.getD_eq_getElem?_getD, List.getElem?_set]
  by_cases h : k = j
  · subst h; simp [hk]
  · rw [if_neg h, if_neg (Ne.symm h)]
end Go.Proofs.Ytjpkendpnpkbeaa
