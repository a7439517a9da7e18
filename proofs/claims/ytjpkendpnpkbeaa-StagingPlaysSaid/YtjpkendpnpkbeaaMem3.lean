/- append onto a row of the call's own or onto a slice without room, at an operation; cuts of a row as sources. -/
import Derived.Test.YtjpkendpnpkbeaaMem2
namespace Go.Proofs.Ytjpkendpnpkbeaa
open Go.RowKit

section
variable {P : Program}

theorem run_app_row (w : World) {base : Nat} {t e : TypeId} {i : TypeInfo} {z : Value} {size bytes : Nat} (ty : TypeId) (ht : P.underlying t = some (.slice e)) (hi : P.info? e = some i) (hz : i.zero = some z)
    (hsize : i.size = size) (hby : i.bytes = bytes) (hzs : z.cells.size = size) (hsz : 0 < size)
    {v : Value} {n : Nat} {xs : List Value} (hrow : Row w base e size v n xs)
    {A : Option Addr} {m : Nat} (c : Nat) {us : List Value} (hs : Src w size A m us) (h1 : ∀ u ∈ us, u.oneCell' = true)
    (h63 : n + m ≤ maxLen) (hb : (n + m) * bytes ≤ 140737488355328) (hbase : base ≤ w.heap.size) :
    ∃ A' cap w', (Builtin.append_ #[t, t] ty #[v, .slice A m c]).run P w = .ok (.slice A' (n + m) cap) w' ∧ Row w' base e size (.slice A' (n + m) cap) (n + m) (xs ++ us) ∧ w.grownBy w' v.ownBlock ∧
      (∀ b, (Value.slice A' (n + m) cap).ownBlock = some b → v.ownBlock = some b ∨ w.heap.size ≤ b) := by
  rcases hrow with hown | ⟨A0, rfl, rfl, rfl⟩
  · obtain ⟨v', w', a1, a2, a3, a4⟩ := run_app (P := P) w ty ht hi hz hsize hby hzs hsz hown c hs h1 h63 hb hbase
    obtain ⟨A', cap, rfl, _⟩ := Row.form (.inl a2)
    refine ⟨A', cap, w', a1, .inl a2, a3, ?_⟩
    intro b e
    rcases a4 with h | h
    · exact .inl (h.symm.trans e)
    · exact .inr (Nat.le_of_eq (Option.some.inj (h.symm.trans e)))
  · rw [Nat.zero_add] at h63 hb ⊢
    rw [List.nil_append]
    by_cases h0 : 0 < m
    · obtain ⟨v', w', a1, a2, a3⟩ := run_clone (P := P) w ty ht hi hz hsize hby hzs hsz A0 c hs h1 h63 hb
      obtain ⟨A', cap, rfl, _⟩ := a2.form
      obtain ⟨g, rfl, hg, _, hO⟩ := a2.own h0
      exact ⟨_, cap, w', a1, .inl (own_base hO hbase), ⟨a3.os, a3.tape, a3.output, a3.size, fun k hk _ => a3.block k hk⟩, fun b e => by cases e; exact .inr hg⟩
    · obtain rfl : m = 0 := by omega
      rw [hs.empty]
      refine ⟨A0, 0, w, ?_, .inr ⟨A0, rfl, rfl, rfl⟩, World.grownBy.refl w _, fun b e => .inl e⟩
      cases A <;> cases A0 <;> simp [Builtin.append_, run_underlying ht, sizeOf, typeInfo, hi, Builtin.lenOf, Builtin.firstCells, storeCells] <;> rfl

theorem wp_app_row {w : World} {o : Oper} {a : Act} {K : Act → World → Prop} {Q : Exit → Act → World → Prop} (s x : Operand) (t : TypeId)
    (ho : o.op = .call { callee := .builtin .append, args := #[s, x], argTypes := #[t, t] })
    (base : Nat) (e : TypeId) (i : TypeInfo) (z : Value) (size bytes : Nat) (ht : P.underlying t = some (.slice e)) (hi : P.info? e = some i) (hz : i.zero = some z)
    (hsize : i.size = size) (hby : i.bytes = bytes) (hzs : z.cells.size = size) (hsz : 0 < size)
    (v : Value) (n : Nat) (xs : List Value) (hv : a.eval s = v) (hrow : Row w base e size v n xs)
    (A : Option Addr) (m c : Nat) (us : List Value) (hx : a.eval x = .slice A m c) (hs : Src w size A m us) (h1 : ∀ u ∈ us, u.oneCell' = true)
    (h63 : n + m ≤ maxLen) (hb : (n + m) * bytes ≤ 140737488355328) (hbase : base ≤ w.heap.size)
    (h : ∀ A' cap w', Row w' base e size (.slice A' (n + m) cap) (n + m) (xs ++ us) → w.grownBy w' v.ownBlock → (∀ b, (Value.slice A' (n + m) cap).ownBlock = some b → v.ownBlock = some b ∨ w.heap.size ≤ b) → K (a.put o.dst (.slice A' (n + m) cap)) w') : o.wp P a w K Q := by
  obtain ⟨A', cap, w', hr, a2, a3, a4⟩ := run_app_row (P := P) w o.type ht hi hz hsize hby hzs hsz hrow c hs h1 h63 hb hbase
  unfold Oper.wp execOp
  simp only [ho, resolve, invoke, builtin, Sem.run_bind, Sem.run_pure, Result.andThen_ok, List.map_toArray, List.map_cons, List.map_nil, hv, hx, hr]
  exact h A' cap w' a2 a3 a4

/-- In a plain region. -/
theorem wpList_app_row {w : World} {ops : Array Oper} {rest : List Oper} {o : Oper} {a : Act} {Q : Exit → Act → World → Prop} (hgd : o.guard = none) (s x : Operand) (t : TypeId)
    (ho : o.op = .call { callee := .builtin .append, args := #[s, x], argTypes := #[t, t] })
    (base : Nat) (e : TypeId) (i : TypeInfo) (z : Value) (size bytes : Nat) (ht : P.underlying t = some (.slice e)) (hi : P.info? e = some i) (hz : i.zero = some z)
    (hsize : i.size = size) (hby : i.bytes = bytes) (hzs : z.cells.size = size) (hsz : 0 < size)
    (v : Value) (n : Nat) (xs : List Value) (hv : a.eval s = v) (hrow : Row w base e size v n xs)
    (A : Option Addr) (m c : Nat) (us : List Value) (hx : a.eval x = .slice A m c) (hs : Src w size A m us) (h1 : ∀ u ∈ us, u.oneCell' = true)
    (h63 : n + m ≤ maxLen) (hb : (n + m) * bytes ≤ 140737488355328) (hbase : base ≤ w.heap.size)
    (h : ∀ A' cap w', Row w' base e size (.slice A' (n + m) cap) (n + m) (xs ++ us) → w.grownBy w' v.ownBlock → (∀ b, (Value.slice A' (n + m) cap).ownBlock = some b → v.ownBlock = some b ∨ w.heap.size ≤ b) → wpList P ops Q rest (a.put o.dst (.slice A' (n + m) cap)) w') : wpList P ops Q (o :: rest) a w :=
  wpList_plain hgd fun _ hK => wp_app_row s x t ho base e i z size bytes ht hi hz hsize hby hzs hsz v n xs hv hrow A m c us hx hs h1 h63 hb hbase fun A' cap w' b2 b3 b4 => hK _ _ (h A' cap w' b2 b3 b4)

/-- In a region that draws its order. -/
theorem step_app_row {w : World} {ops : Array Oper} {o : Oper} {a : Act} {K : Act → World → Prop} {Q : Exit → Act → World → Prop} {E : Prop} (hgd : o.guard = none) (s x : Operand) (t : TypeId)
    (ho : o.op = .call { callee := .builtin .append, args := #[s, x], argTypes := #[t, t] })
    (base : Nat) (e : TypeId) (i : TypeInfo) (z : Value) (size bytes : Nat) (ht : P.underlying t = some (.slice e)) (hi : P.info? e = some i) (hz : i.zero = some z)
    (hsize : i.size = size) (hby : i.bytes = bytes) (hzs : z.cells.size = size) (hsz : 0 < size)
    (v : Value) (n : Nat) (xs : List Value) (hv : a.eval s = v) (hrow : Row w base e size v n xs)
    (A : Option Addr) (m c : Nat) (us : List Value) (hx : a.eval x = .slice A m c) (hs : Src w size A m us) (h1 : ∀ u ∈ us, u.oneCell' = true)
    (h63 : n + m ≤ maxLen) (hb : (n + m) * bytes ≤ 140737488355328) (hbase : base ≤ w.heap.size)
    (h : ∀ A' cap w', Row w' base e size (.slice A' (n + m) cap) (n + m) (xs ++ us) → w.grownBy w' v.ownBlock → (∀ b, (Value.slice A' (n + m) cap).ownBlock = some b → v.ownBlock = some b ∨ w.heap.size ≤ b) → K (a.put o.dst (.slice A' (n + m) cap)) w') :
    if Region.wanted o (yielded ops a.tmps) = true then Oper.wp P o a w K Q else E := by
  rw [if_pos (by simp [Region.wanted, hgd])]
  exact wp_app_row s x t ho base e i z size bytes ht hi hz hsize hby hzs hsz v n xs hv hrow A m c us hx hs h1 h63 hb hbase h

theorem Src.below {w w' : World} {size : Nat} {A : Option Addr} {m : Nat} {us : List Value} {B : Nat} (h : Src w size A m us) (hA : ∀ ad, A = some ad → 0 < m → ad.block < B) (hb : Below B w w') : Src w' size A m us :=
  ⟨h.len, fun h0 => by
    obtain ⟨ad, rfl, hc⟩ := h.at_ h0
    refine ⟨ad, rfl, fun j u hu => ?_⟩
    have hbl : (ad.add j).block = ad.block := by unfold Addr.add; split <;> rfl
    exact (hb.cell (by rw [hbl]; exact hA ad rfl h0)).trans (hc j u hu)⟩

/-- The first j elements of a slice whose elements are one cell each. -/
theorem Src.take {w : World} {A : Option Addr} {n : Nat} {us : List Value} (h : Src w 1 A n us) {j : Nat} (hj : j ≤ n) : Src w 1 A j (us.take j) := by
  have hl := h.len
  refine ⟨by rw [List.length_take]; omega, fun h0 => ?_⟩
  obtain ⟨ad, rfl, hc⟩ := h.at_ (by omega)
  refine ⟨ad, rfl, fun i u hu => ?_⟩
  rw [List.getElem?_take] at hu
  split at hu
  · exact hc i u hu
  · cases hu

/-- The elements from j on. -/
theorem Src.drop {w : World} {b off n : Nat} {us : List Value} (h : Src w 1 (some ⟨b, off, none⟩) n us) (j : Nat) {A : Option Addr} (hA : j < n → A = some ⟨b, off + j, none⟩) : Src w 1 A (n - j) (us.drop j) := by
  have hl := h.len
  refine ⟨by rw [List.length_drop]; omega, fun h0 => ?_⟩
  obtain ⟨ad, e, hc⟩ := h.at_ (by omega)
  cases e
  refine ⟨_, hA (by omega), fun i u hu => ?_⟩
  rw [List.getElem?_drop] at hu
  have h1 := hc (j + i) u hu
  have e1 : (⟨b, off, none⟩ : Addr).add (j + i) = ⟨b, off + (j + i), none⟩ := by unfold Addr.add; split <;> simp_all
  have e2 : (⟨b, off + j, none⟩ : Addr).add i = ⟨b, off + j + i, none⟩ := by unfold Addr.add; split <;> simp_all
  rw [e1] at h1
  rw [e2, Nat.add_assoc]
  exact h1
end

/-- `s[lo:]`: its address behind a letter (at the capacity's end the model keeps the old one). -/
theorem slice_from {P : Program} {t e : TypeId} {i : TypeInfo} (ht : P.underlying t = some (.slice e)) (hi : P.info? e = some i) (hsize : i.size = 1) (b off n c lo : Nat) (h1 : lo ≤ n) (h2 : n ≤ c) :
    ∃ A : Option Addr, (lo < n → A = some ⟨b, off + lo, none⟩) ∧ ∀ W, (Instr.slice t (.slice (some ⟨b, off, none⟩) n c) (some (.int .i64 (lo : Int))) none none).run P W = .ok (.slice A (n - lo) (c - lo)) W := by
  by_cases hc : c = lo
  · refine ⟨some ⟨b, off, none⟩, fun h => by omega, fun W => ?_⟩
    have e1 : (lo : Int) ≤ (n : Int) := by omega
    subst hc
    simp [Instr.slice, Instr.sliceBounds, Instr.sliceBound, asIntOf, run_underlying ht, sizeOf, typeInfo, hi, hsize, e1, go_sem]
    intro h
    omega
  · refine ⟨some ⟨b, off + lo, none⟩, fun _ => rfl, fun W => ?_⟩
    have e1 : (lo : Int) ≤ (n : Int) := by omega
    simp [Instr.slice, Instr.sliceBounds, Instr.sliceBound, asIntOf, run_underlying ht, sizeOf, typeInfo, hi, hsize, e1, hc, go_sem]
    intro h
    omega
end Go.Proofs.Ytjpkendpnpkbeaa
