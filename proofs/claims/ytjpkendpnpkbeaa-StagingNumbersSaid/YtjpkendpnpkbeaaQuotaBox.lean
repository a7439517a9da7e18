/- A shape and a config that a law has boxed; how the two arguments are opened. -/
import Derived.Test.YtjpkendpnpkbeaaQuotaShown
import Derived.Test.YtjpkendpnpkbeaaLaw
namespace Go.Proofs.Ytjpkendpnpkbeaa
open Go.ChangeShapes Go.WideShapes Go.ChangeAt Go.RowKit Go.Joins

theorem mayB_true {xs ys : List Int} {r : Int} (h : mayB xs ys r = true) : xs.length = 3 ∧ 1 ≤ ys.length ∧ ys.length ≤ 9 ∧ 1 ≤ r ∧ r ≤ 4 ∧ r ≤ ys.length ∧ (∀ j, j < 3 → okDisk xs j) ∧ ∀ j, j < ys.length → okTape ys j := of_decide_eq_true h

theorem Ints.get {w : World} {b off : Nat} {xs : List Int} (h : Ints w (some ⟨b, off, none⟩) xs) {k : Nat} (hk : k < xs.length) {o : Nat} (ho : off + k = o) : w.cell? ⟨b, o, none⟩ = some (.int .i64 (el xs k)) := by
  obtain ⟨b', off', e, _, hc⟩ := h.at_ (by omega)
  cases e
  subst ho
  exact hc k hk

/-- The two boxes lie at n and n + 1. -/
structure Bx (n : Nat) (A : Option Addr) (xs : List Int) (c : Nat) (B : Option Addr) (ys : List Int) (d : Nat) (r : Int) (w : World) : Prop where
  size : n + 2 ≤ w.heap.size
  i1 : Ints w A xs
  i2 : Ints w B ys
  c1 : w.cell? ⟨n, 0, none⟩ = some (.slice A xs.length c)
  c2 : w.cell? ⟨n, 1, none⟩ = some (.slice B ys.length d)
  c3 : w.cell? ⟨n + 1, 0, none⟩ = some (.int .i64 r)

theorem Bx.below {n : Nat} {A : Option Addr} {xs : List Int} {c : Nat} {B : Option Addr} {ys : List Int} {d : Nat} {r : Int} {w w' : World} (h : Bx n A xs c B ys d r w) (hb : Below w.heap.size w w') : Bx n A xs c B ys d r w' :=
  ⟨Nat.le_trans h.size hb.size, h.i1.below hb, h.i2.below hb, (hb.cell (by have := h.size; simp; omega)).trans h.c1, (hb.cell (by have := h.size; simp; omega)).trans h.c2, (hb.cell (by have := h.size; simp; omega)).trans h.c3⟩

theorem Bx.new {A : Option Addr} {xs : List Int} (c : Nat) {B : Option Addr} {ys : List Int} (d : Nat) (r : Int) {w : World} (hx : Ints w A xs) (hy : Ints w B ys) :
    Bx w.heap.size A xs c B ys d r ((w.alloc (.cells #[.slice A xs.length c, .slice B ys.length d] 46)).alloc (.cells #[.int .i64 r] 48)) :=
  ⟨by simp, (hx.alloc _).alloc _, (hy.alloc _).alloc _, by simp [go_sem], by simp [go_sem], by simp [go_sem]⟩

section
variable {H : Type} {enc : TypeId × Value → H}

theorem open_Ints {W : World} {n : Nat} {v : Value} {y : DataW H × List MemPlace} (h : DataW.trod enc Try.prog W 0 (fun _ => true) true n 43 [v] = some y) :
    ∃ A c xs, v = .slice A xs.length c ∧ Ints W A xs ∧ (∀ j, -9223372036854775808 ≤ el xs j ∧ el xs j ≤ 9223372036854775807) ∧
      (y.1 = .nil ∧ xs = [] ∨ ∃ es sp : List (DataW H), y.1 = .slice es sp ∧ es.length = xs.length) := by
  rcases open_ints Try.underlying43 Try.underlying3 (by kernel_rfl) h with ⟨hcs, hx⟩ | ⟨a, len, cap, zs, hcs, _, hl, hm, hz, hx, hcell, hwz⟩
  · simp only [List.cons.injEq, and_true] at hcs
    subst hcs; subst hx
    exact ⟨none, 0, [], rfl, ints_0, fun j => by simp [el], .inl ⟨rfl, rfl⟩⟩
  · simp only [List.cons.injEq, and_true] at hcs
    simp only [if_true] at hz
    subst hcs; subst hx
    have htl : (zs.take len).length = len := by rw [List.length_take]; omega
    refine ⟨some a, cap, zs.take len, by rw [htl], ⟨by rw [htl]; unfold maxLen at hm; omega, fun hp => ?_⟩, fun j => ?_, .inr ⟨_, _, rfl, by simp [lits]⟩⟩
    · rw [htl] at hp
      obtain ⟨b, off, rfl, hc⟩ := ints_at hcell (by omega)
      refine ⟨b, off, rfl, World.block_lt_of_cell? W _ (hc 0 (by omega)), fun k hk => ?_⟩
      rw [htl] at hk
      rw [hc k (by omega)]
      unfold el
      rw [List.getD_eq_getElem?_getD, List.getD_eq_getElem?_getD, List.getElem?_take, if_pos hk]
    · unfold el
      by_cases hj : j < (zs.take len).length
      · rw [List.getD_eq_getElem?_getD, List.getElem?_eq_getElem hj, Option.getD_some]
        have hw := hwz _ (List.mem_of_mem_take (List.getElem_mem hj))
        exact bounds_i64 hw
      · rw [List.getD_eq_getElem?_getD, List.getElem?_eq_none (by omega), Option.getD_none]
        omega

theorem open_shape {W : World} {v : Value} {d : DataW H} {p : List MemPlace} {base : Nat} (hv : Value.okWide Try.prog W .any base 46 v) (h : DataW.Trod enc Try.prog W 0 (fun _ => true) true 46 v d p) :
    ∃ A c xs B e ys, v = .agg #[.slice A xs.length c, .slice B ys.length e] ∧ Ints W A xs ∧ Ints W B ys := by
  obtain ⟨v0, v1, y0, y1, n, rfl, _, _, h0, h1⟩ := open_agg2 Try.underlying46 (by kernel_rfl) (by kernel_rfl) hv h
  obtain ⟨A, c, xs, rfl, hx, _⟩ := open_Ints h0
  obtain ⟨B, e, ys, rfl, hy, _⟩ := open_Ints h1
  exact ⟨A, c, xs, B, e, ys, rfl, hx, hy⟩

theorem reach_ints {es sp : List (DataW H)} {n : Nat} (hn : es.length = n) (h : ∀ k ∈ (DataW.slice es sp).weights Try.prog 43, k ≤ reachBytes) : n * 8 ≤ 140737488351232 := by
  have hb : Try.prog.bytesOf 3 = 8 := by kernel_rfl
  have h1 := h ((es.length + sp.length) * 8) (by simp [DataW.weights, Try.underlying43, hb])
  have h2 : reachBytes = 140737488351232 := by decide
  rw [h2] at h1
  omega

theorem open_shape_sized {W : World} {v : Value} {d : DataW H} {p : List MemPlace} {base : Nat} (hv : Value.okWide Try.prog W .any base 46 v) (h : DataW.Trod enc Try.prog W 0 (fun _ => true) true 46 v d p)
    (hf : ∀ k ∈ d.weights Try.prog 46, k ≤ reachBytes) :
    ∃ A c xs B e ys, v = .agg #[.slice A xs.length c, .slice B ys.length e] ∧ Ints W A xs ∧ Ints W B ys ∧ xs.length * 8 ≤ 140737488351232 ∧ ys.length * 8 ≤ 140737488351232 := by
  obtain ⟨v0, v1, y0, y1, n, rfl, rfl, _, h0, h1⟩ := open_agg2 Try.underlying46 (by kernel_rfl) (by kernel_rfl) hv h
  have w0 : ∀ k ∈ y0.1.weights Try.prog 43, k ≤ reachBytes := fun k hk => hf k (by simp [DataW.weights, Try.underlying46, DataW.weightsEach, hk])
  have w1 : ∀ k ∈ y1.1.weights Try.prog 43, k ≤ reachBytes := fun k hk => hf k (by simp [DataW.weights, Try.underlying46, DataW.weightsEach, hk])
  obtain ⟨A, c, xs, rfl, hx, _, r0⟩ := open_Ints h0
  obtain ⟨B, e, ys, rfl, hy, _, r1⟩ := open_Ints h1
  refine ⟨A, c, xs, B, e, ys, rfl, hx, hy, ?_, ?_⟩
  · rcases r0 with ⟨_, rfl⟩ | ⟨es, sp, e0, hl⟩
    · simp
    · rw [e0] at w0; exact reach_ints hl w0
  · rcases r1 with ⟨_, rfl⟩ | ⟨es, sp, e0, hl⟩
    · simp
    · rw [e0] at w1; exact reach_ints hl w1

theorem open_config {W : World} {v : Value} {d : DataW H} {p : List MemPlace} {base : Nat} (hv : Value.okWide Try.prog W .any base 48 v) (h : DataW.Trod enc Try.prog W 0 (fun _ => true) true 48 v d p) :
    ∃ r, v = .agg #[.int .i64 r] ∧ -9223372036854775808 ≤ r ∧ r ≤ 9223372036854775807 := by
  obtain ⟨cs, rfl, hsz⟩ := okWide_struct Try.underlying48 hv
  have hC : Try.prog.cellsOf 48 = 1 := by kernel_rfl
  have hC3 : Try.prog.cellsOf 3 = 1 := by kernel_rfl
  rw [hC] at hsz
  obtain ⟨l⟩ := cs
  match l, hsz with
  | [c0], _ =>
    obtain ⟨n, hn⟩ := h
    obtain ⟨y0, m, _, _, hy⟩ := trod_struct1 Try.underlying48 hn
    have hy' : DataW.trod enc Try.prog W 0 (fun _ => true) true m 3 [c0] = some y0 := by
      simpa [hC3, Value.cells] using hy
    obtain ⟨r, e1, _, wr⟩ := DataW.trod_int Try.underlying3 hy'
    simp only [List.cons.injEq, and_true] at e1
    subst e1
    exact ⟨r, rfl, bounds_i64 wr⟩
end
end Go.Proofs.Ytjpkendpnpkbeaa
