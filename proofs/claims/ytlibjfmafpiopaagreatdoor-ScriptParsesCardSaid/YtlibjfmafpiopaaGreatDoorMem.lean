/- What a slice holds; append onto rows of the call's own, whatever the source. (Turned from the texts Base, Mem and Mem3 of the first seat.) -/
import Derived.Test.YtlibjfmafpiopaaGreatDoorRows
import Derived.WalkKit
import Derived.WalkLawsBesides
import Derived.Lib.Hide
import Derived.Handy
import Derived.Deep.AppendLies
import Derived.OwnWalk
import Derived.Deep.AppendSrc
namespace Go.Proofs.YtlibjfmafpiopaaGreatDoor
open Go.RowKit

theorem ret_int {k : IntKind} {a b : Int} (h : a = b) : Ending.returned (.int k a) = .returned (.int k b) := by rw [h]
theorem ret_bool {a b : Bool} (h : a = b) : Ending.returned (.bool a) = .returned (.bool b) := by rw [h]

/-- The k-th element; 0 beyond the end. -/
def el (xs : List Int) (k : Nat) : Int := xs.getD k 0

/-- The slice with address A reads as the integers xs (up to its length), all below the heap's end. -/
structure Ints (w : World) (A : Option Addr) (xs : List Int) : Prop where
  len : xs.length ≤ 9223372036854775807
  at_ : 0 < xs.length → ∃ b off, A = some ⟨b, off, none⟩ ∧ b < w.heap.size ∧ ∀ k, k < xs.length → w.cell? ⟨b, off + k, none⟩ = some (.int .i64 (el xs k))

theorem Ints.below {w w' : World} {A : Option Addr} {xs : List Int} (h : Ints w A xs) (hb : Below w.heap.size w w') : Ints w' A xs :=
  ⟨h.len, fun hk => by
    obtain ⟨b, off, e, hl, hc⟩ := h.at_ hk
    exact ⟨b, off, e, Nat.lt_of_lt_of_le hl hb.size, fun k hk => (hb.cell (p := ⟨b, off + k, none⟩) hl).trans (hc k hk)⟩⟩

/-- Go's quotient toward zero, for omega. -/
theorem tdiv_lin (a : Int) (c : Int) (_hc : 0 < c) : (0 ≤ a ∧ a.tdiv c = a / c) ∨ (a < 0 ∧ a.tdiv c = -(-a / c)) := by
  by_cases h : a < 0
  · refine .inr ⟨h, ?_⟩
    have h2 : (-(-a)).tdiv c = -((-a).tdiv c) := Int.neg_tdiv _ _
    rw [Int.neg_neg, Int.tdiv_eq_ediv_of_nonneg (by omega : (0:Int) ≤ -a)] at h2
    exact h2
  · exact .inl ⟨by omega, Int.tdiv_eq_ediv_of_nonneg (by omega)⟩

theorem Ints.alloc {w : World} {A : Option Addr} {xs : List Int} (h : Ints w A xs) (o : Obj) : Ints (w.alloc o) A xs :=
  h.below ((Below.refl _ _).alloc (Nat.le_refl _) o)


/-- The first m elements (of size cells each) behind the address A are the cells us. -/
structure Src (w : World) (size : Nat) (A : Option Addr) (m : Nat) (us : List Value) : Prop where
  len : us.length = m * size
  at_ : 0 < m → ∃ ad, A = some ad ∧ ∀ j u, us[j]? = some u → w.cell? (ad.add j) = some u

theorem Src.zero {w : World} {size : Nat} (A : Option Addr) : Src w size A 0 [] := ⟨by simp, fun h => absurd h (Nat.lt_irrefl 0)⟩

theorem Src.empty {w : World} {size : Nat} {A : Option Addr} {us : List Value} (h : Src w size A 0 us) : us = [] := List.eq_nil_of_length_eq_zero (by simpa using h.len)

section
variable {P : Program}

/-- append onto a row that the call owns, whatever the source. -/
theorem run_app (w : World) {base : Nat} {t e : TypeId} {i : TypeInfo} {z : Value} {size bytes : Nat} (ty : TypeId) (ht : P.underlying t = some (.slice e)) (hi : P.info? e = some i) (hz : i.zero = some z)
    (hsize : i.size = size) (hby : i.bytes = bytes) (hzs : z.cells.size = size) (hsz : 0 < size)
    {v : Value} {n : Nat} {xs : List Value} (hown : w.ownsRow base e size v n xs)
    {A : Option Addr} {m : Nat} (c : Nat) {us : List Value} (hs : Src w size A m us) (h1 : ∀ u ∈ us, u.oneCell' = true)
    (h63 : n + m ≤ maxLen) (hb : (n + m) * bytes ≤ 140737488355328) (hbase : base ≤ w.heap.size) :
    ∃ v' w', (Builtin.append_ #[t, t] ty #[v, .slice A m c]).run P w = .ok v' w' ∧ w'.ownsRow base e size v' (n + m) (xs ++ us) ∧ w.grownBy w' v.ownBlock ∧
      (v'.ownBlock = v.ownBlock ∨ v'.ownBlock = some w.heap.size) := by
  cases A with
  | some ad =>
    have hc : ∀ j u, us[j]? = some u → w.cell? (ad.add j) = some u := fun j u hu => by
      by_cases h0 : 0 < m
      · obtain ⟨ad', e', h⟩ := hs.at_ h0
        cases e'
        exact h j u hu
      · obtain rfl : m = 0 := by omega
        rw [hs.empty] at hu
        simp at hu
    obtain ⟨v', w', a1, a2, a3, _, a5⟩ := run_append_own_at (P := P) w base t ty e i z size bytes ht hi hz hsize hby hzs hsz v n xs hown ad m c us hs.len hc h1 h63 hb hbase
    exact ⟨v', w', a1, a2, a3, a5⟩
  | none =>
    have hm : m = 0 := by
      rcases Nat.eq_zero_or_pos m with h0 | h0
      · exact h0
      · obtain ⟨_, h, _⟩ := hs.at_ h0
        cases h
    subst hm
    rw [hs.empty, List.append_nil]
    refine ⟨v, w, ?_, hown, World.grownBy.refl w _, .inl rfl⟩
    obtain ⟨_, hv⟩ := hown
    rcases hv with ⟨rfl, rfl⟩ | ⟨g, cap, cur, rfl, _, _, hle, _⟩ <;>
      simp [Builtin.append_, run_underlying ht, sizeOf, typeInfo, Builtin.lenOf, Builtin.firstCells, storeCells, *]

theorem wp_app {w : World} {o : Oper} {a : Act} {K : Act → World → Prop} {Q : Exit → Act → World → Prop} (s x : Operand) (t : TypeId)
    (ho : o.op = .call { callee := .builtin .append, args := #[s, x], argTypes := #[t, t] })
    (base : Nat) (e : TypeId) (i : TypeInfo) (z : Value) (size bytes : Nat) (ht : P.underlying t = some (.slice e)) (hi : P.info? e = some i) (hz : i.zero = some z)
    (hsize : i.size = size) (hby : i.bytes = bytes) (hzs : z.cells.size = size) (hsz : 0 < size)
    (v : Value) (n : Nat) (xs : List Value) (hv : a.eval s = v) (hown : w.ownsRow base e size v n xs)
    (A : Option Addr) (m c : Nat) (us : List Value) (hx : a.eval x = .slice A m c) (hs : Src w size A m us) (h1 : ∀ u ∈ us, u.oneCell' = true)
    (h63 : n + m ≤ maxLen) (hb : (n + m) * bytes ≤ 140737488355328) (hbase : base ≤ w.heap.size)
    (h : ∀ v' w', w'.ownsRow base e size v' (n + m) (xs ++ us) → w.grownBy w' v.ownBlock → (v'.ownBlock = v.ownBlock ∨ v'.ownBlock = some w.heap.size) → K (a.put o.dst v') w') : o.wp P a w K Q := by
  obtain ⟨v', w', hr, a2, a3, a4⟩ := run_app (P := P) w o.type ht hi hz hsize hby hzs hsz hown c hs h1 h63 hb hbase
  unfold Oper.wp execOp
  simp only [ho, resolve, invoke, builtin, Sem.run_bind, Sem.run_pure, Result.andThen_ok, List.map_toArray, List.map_cons, List.map_nil, hv, hx, hr]
  exact h v' w' a2 a3 a4

/-- In a plain region. -/
theorem wpList_app {w : World} {ops : Array Oper} {rest : List Oper} {o : Oper} {a : Act} {Q : Exit → Act → World → Prop} (hgd : o.guard = none) (s x : Operand) (t : TypeId)
    (ho : o.op = .call { callee := .builtin .append, args := #[s, x], argTypes := #[t, t] })
    (base : Nat) (e : TypeId) (i : TypeInfo) (z : Value) (size bytes : Nat) (ht : P.underlying t = some (.slice e)) (hi : P.info? e = some i) (hz : i.zero = some z)
    (hsize : i.size = size) (hby : i.bytes = bytes) (hzs : z.cells.size = size) (hsz : 0 < size)
    (v : Value) (n : Nat) (xs : List Value) (hv : a.eval s = v) (hown : w.ownsRow base e size v n xs)
    (A : Option Addr) (m c : Nat) (us : List Value) (hx : a.eval x = .slice A m c) (hs : Src w size A m us) (h1 : ∀ u ∈ us, u.oneCell' = true)
    (h63 : n + m ≤ maxLen) (hb : (n + m) * bytes ≤ 140737488355328) (hbase : base ≤ w.heap.size)
    (h : ∀ v' w', w'.ownsRow base e size v' (n + m) (xs ++ us) → w.grownBy w' v.ownBlock → (v'.ownBlock = v.ownBlock ∨ v'.ownBlock = some w.heap.size) → wpList P ops Q rest (a.put o.dst v') w') : wpList P ops Q (o :: rest) a w :=
  wpList_plain hgd fun _ hK => wp_app s x t ho base e i z size bytes ht hi hz hsize hby hzs hsz v n xs hv hown A m c us hx hs h1 h63 hb hbase fun v' w' b2 b3 b4 => hK _ _ (h v' w' b2 b3 b4)

/-- In a region that draws its order. -/
theorem step_app {w : World} {ops : Array Oper} {o : Oper} {a : Act} {K : Act → World → Prop} {Q : Exit → Act → World → Prop} {E : Prop} (hgd : o.guard = none) (s x : Operand) (t : TypeId)
    (ho : o.op = .call { callee := .builtin .append, args := #[s, x], argTypes := #[t, t] })
    (base : Nat) (e : TypeId) (i : TypeInfo) (z : Value) (size bytes : Nat) (ht : P.underlying t = some (.slice e)) (hi : P.info? e = some i) (hz : i.zero = some z)
    (hsize : i.size = size) (hby : i.bytes = bytes) (hzs : z.cells.size = size) (hsz : 0 < size)
    (v : Value) (n : Nat) (xs : List Value) (hv : a.eval s = v) (hown : w.ownsRow base e size v n xs)
    (A : Option Addr) (m c : Nat) (us : List Value) (hx : a.eval x = .slice A m c) (hs : Src w size A m us) (h1 : ∀ u ∈ us, u.oneCell' = true)
    (h63 : n + m ≤ maxLen) (hb : (n + m) * bytes ≤ 140737488355328) (hbase : base ≤ w.heap.size)
    (h : ∀ v' w', w'.ownsRow base e size v' (n + m) (xs ++ us) → w.grownBy w' v.ownBlock → (v'.ownBlock = v.ownBlock ∨ v'.ownBlock = some w.heap.size) → K (a.put o.dst v') w') :
    if Region.wanted o (yielded ops a.tmps) = true then Oper.wp P o a w K Q else E := by
  rw [if_pos (by simp [Region.wanted, hgd])]
  exact wp_app s x t ho base e i z size bytes ht hi hz hsize hby hzs hsz v n xs hv hown A m c us hx hs h1 h63 hb hbase h

/-- A row of the call's own from block 'base' on, or a slice without any room (its address is never asked for). -/
def Row (w : World) (base : Nat) (e : TypeId) (size : Nat) (v : Value) (n : Nat) (xs : List Value) : Prop :=
  w.ownsRow base e size v n xs ∨ ∃ A0, v = .slice A0 0 0 ∧ n = 0 ∧ xs = []

theorem Row.below {w w' : World} {base B : Nat} {e : TypeId} {size : Nat} {v : Value} {n : Nat} {xs : List Value} (h : Row w base e size v n xs) (hB : w.heap.size ≤ B) (hb : Below B w w') : Row w' base e size v n xs := by
  rcases h with h | h
  · refine .inl ⟨h.1, ?_⟩
    rcases h.2 with h2 | ⟨g, cap, cur, a, b, c, d⟩
    · exact .inl h2
    · exact .inr ⟨g, cap, cur, a, b, (hb.block g (Nat.lt_of_lt_of_le (Array.getElem?_eq_some_iff.1 c).1 hB)).trans c, d⟩
  · exact .inr h

/-- What a row looks like: its address, if it has an element, is the head of a block of its own. -/
theorem Row.form {w : World} {base : Nat} {e : TypeId} {size : Nat} {v : Value} {n : Nat} {xs : List Value} (h : Row w base e size v n xs) :
    ∃ A cap, v = .slice A n cap ∧ xs.length = n * size ∧ (0 < n → ∃ g, A = some ⟨g, 0, none⟩ ∧ base ≤ g ∧ g < w.heap.size ∧ ∀ j, j < n * size → w.cell? ⟨g, j, none⟩ = xs[j]?) := by
  rcases h with h | ⟨A0, rfl, rfl, rfl⟩
  · have hown := h
    rcases h.2 with ⟨rfl, rfl⟩ | ⟨g, cap, cur, rfl, hb, hh, _⟩
    · exact ⟨none, 0, rfl, h.1, fun h0 => absurd h0 (Nat.lt_irrefl 0)⟩
    · exact ⟨_, cap, rfl, h.1, fun _ => ⟨g, rfl, hb, (Array.getElem?_eq_some_iff.1 hh).1, fun j hj => hown.cellAt j hj⟩⟩
  · exact ⟨A0, 0, rfl, by simp, fun h0 => absurd h0 (Nat.lt_irrefl 0)⟩

/-- append([]T{}, xs...): a copy of its own. -/
theorem run_clone (w : World) {t e : TypeId} {i : TypeInfo} {z : Value} {size bytes : Nat} (ty : TypeId) (ht : P.underlying t = some (.slice e)) (hi : P.info? e = some i) (hz : i.zero = some z)
    (hsize : i.size = size) (hby : i.bytes = bytes) (hzs : z.cells.size = size) (_hsz : 0 < size)
    (A0 : Option Addr) {A : Option Addr} {m : Nat} (c : Nat) {us : List Value} (hs : Src w size A m us) (h1 : ∀ u ∈ us, u.oneCell' = true)
    (h63 : m ≤ maxLen) (hb : m * bytes ≤ 140737488355328) :
    ∃ v' w', (Builtin.append_ #[t, t] ty #[.slice A0 0 0, .slice A m c]).run P w = .ok v' w' ∧ Row w' w.heap.size e size v' m us ∧ Below w.heap.size w w' := by
  by_cases h0 : 0 < m
  · obtain ⟨ad, rfl, hc⟩ := hs.at_ h0
    have hr := run_append_grow_src (P := P) w t t ty e i z ht hi hz A0 0 0 [] (by cases A0 <;> simp [Builtin.firstCells] <;> rfl) (.slice (some ad) m c) m us
      (_root_.Go.Src.ofSlice w ht ad m c us (by rw [hsize]; exact hs.len) hc h1) (by omega) (by unfold maxLen at h63; omega) (growslice_fits (by omega) (by rw [hby, Nat.zero_add]; exact hb))
    simp only [Nat.zero_add, List.nil_append] at hr
    refine ⟨_, _, hr, .inl ⟨hs.len, .inr ⟨w.heap.size, _, _, rfl, Nat.le_refl _, heap_alloc_new w.drew _, grownCap_ge _ _ _ _, grownCap_le_maxLen _ _ _ _ h63, ?_, ?_⟩⟩, ((Below.refl _ _).drew).alloc (Nat.le_refl _) _⟩
    · have hge := grownCap_ge w m 0 e
      simp only [Array.size_append, List.size_toArray, size_zeroCells, hzs, hs.len, ← Nat.add_mul]
      congr 1
      omega
    · simp only [Array.toList_append]
      rw [← hs.len]
      exact List.take_left
  · obtain rfl : m = 0 := by omega
    rw [hs.empty]
    refine ⟨.slice A0 0 0, w, ?_, .inr ⟨A0, rfl, rfl, rfl⟩, Below.refl _ _⟩
    cases A <;> cases A0 <;> simp [Builtin.append_, run_underlying ht, sizeOf, typeInfo, hi, Builtin.lenOf, Builtin.firstCells, storeCells] <;> rfl

theorem step_clone {w : World} {ops : Array Oper} {o : Oper} {a : Act} {K : Act → World → Prop} {Q : Exit → Act → World → Prop} {E : Prop} (hgd : o.guard = none) (s x : Operand) (t : TypeId)
    (ho : o.op = .call { callee := .builtin .append, args := #[s, x], argTypes := #[t, t] })
    (e : TypeId) (i : TypeInfo) (z : Value) (size bytes : Nat) (ht : P.underlying t = some (.slice e)) (hi : P.info? e = some i) (hz : i.zero = some z)
    (hsize : i.size = size) (hby : i.bytes = bytes) (hzs : z.cells.size = size) (hsz : 0 < size)
    (A0 : Option Addr) (hv : a.eval s = .slice A0 0 0)
    (A : Option Addr) (m c : Nat) (us : List Value) (hx : a.eval x = .slice A m c) (hs : Src w size A m us) (h1 : ∀ u ∈ us, u.oneCell' = true)
    (h63 : m ≤ maxLen) (hb : m * bytes ≤ 140737488355328)
    (h : ∀ A' cap w', Row w' w.heap.size e size (.slice A' m cap) m us → Below w.heap.size w w' → K (a.put o.dst (.slice A' m cap)) w') :
    if Region.wanted o (yielded ops a.tmps) = true then Oper.wp P o a w K Q else E := by
  rw [if_pos (by simp [Region.wanted, hgd])]
  obtain ⟨v', w', hr, a2, a3⟩ := run_clone (P := P) w o.type ht hi hz hsize hby hzs hsz A0 c hs h1 h63 hb
  unfold Oper.wp execOp
  simp only [ho, resolve, invoke, builtin, Sem.run_bind, Sem.run_pure, Result.andThen_ok, List.map_toArray, List.map_cons, List.map_nil, hv, hx, hr]
  obtain ⟨A', cap, rfl, _⟩ := a2.form
  exact h A' cap w' a2 a3

theorem Ints.src {w : World} {A : Option Addr} {xs : List Int} (h : Ints w A xs) : Src w 1 A xs.length (xs.map (Value.int .i64)) := by
  refine ⟨by simp, fun h0 => ?_⟩
  obtain ⟨b, off, rfl, _, hc⟩ := h.at_ h0
  refine ⟨_, rfl, fun j u hu => ?_⟩
  rw [List.getElem?_map] at hu
  have hj : j < xs.length := by
    by_cases hj : j < xs.length
    · exact hj
    · rw [List.getElem?_eq_none (by omega)] at hu
      cases hu
  rw [List.getElem?_eq_getElem hj] at hu
  cases hu
  have := hc j hj
  unfold el at this
  rw [List.getD_eq_getElem?_getD, List.getElem?_eq_getElem hj, Option.getD_some] at this
  rw [← this]
  unfold Addr.add
  by_cases h1 : j = 0
  · subst h1; simp
  · rw [if_neg h1]

theorem ints_one (xs : List Int) : ∀ u ∈ xs.map (Value.int .i64), u.oneCell' = true := fun u hu => by
  obtain ⟨_, _, rfl⟩ := List.mem_map.1 hu
  rfl

/-- A row of integers reads as a slice of integers. -/
theorem Row.ints {w : World} {base : Nat} {e : TypeId} {v : Value} {xs : List Int} (h : Row w base e 1 v xs.length (xs.map (Value.int .i64))) (hl : xs.length ≤ 9223372036854775807) :
    ∃ A cap, v = .slice A xs.length cap ∧ Ints w A xs := by
  obtain ⟨A, cap, rfl, _, hf⟩ := h.form
  refine ⟨A, cap, rfl, hl, fun h0 => ?_⟩
  obtain ⟨g, rfl, _, hg, hc⟩ := hf h0
  refine ⟨g, 0, rfl, hg, fun k hk => ?_⟩
  rw [Nat.zero_add, hc k (by omega), List.getElem?_map, List.getElem?_eq_getElem hk]
  unfold el
  rw [List.getD_eq_getElem?_getD, List.getElem?_eq_getElem hk]
  rfl

/-- The blocks of a row lie from lo on and below hi. -/
def In (lo hi : Nat) (A : Option Addr) (n : Nat) : Prop := 0 < n → ∃ g, A = some ⟨g, 0, none⟩ ∧ lo ≤ g ∧ g < hi

theorem Row.ints_in {w : World} {base : Nat} {e : TypeId} {A : Option Addr} {cap : Nat} {xs : List Int} (h : Row w base e 1 (.slice A xs.length cap) xs.length (xs.map (Value.int .i64))) (hl : xs.length ≤ 9223372036854775807) :
    Ints w A xs ∧ In base w.heap.size A xs.length := by
  have h1 := h.ints hl
  have h2 := h.form
  obtain ⟨A', cap', e1, hI⟩ := h1
  cases e1
  obtain ⟨A'', cap'', e2, _, hf⟩ := h2
  cases e2
  exact ⟨hI, fun h0 => by obtain ⟨g, e, a, b, _⟩ := hf h0; exact ⟨g, e, a, b⟩⟩

theorem Ints.setCell {w : World} {A : Option Addr} {xs : List Int} {lo hi : Nat} (h : Ints w A xs) (hi_ : In lo hi A xs.length) {p : Addr} (hp : p.block < lo ∨ hi ≤ p.block) (u : Value) : Ints (w.setCell p u) A xs :=
  ⟨h.len, fun h0 => by
    obtain ⟨b, off, rfl, hb, hc⟩ := h.at_ h0
    obtain ⟨g, e, hlo, hhi⟩ := hi_ h0
    cases e
    refine ⟨b, 0, rfl, by simpa using hb, fun k hk => ?_⟩
    rw [World.cell?_setCell_other _ _ _ _ (fun e => by subst e; simp at hp; omega)]
    exact hc k hk⟩

theorem Ints.setCell_far {w : World} {A : Option Addr} {xs : List Int} (h : Ints w A xs) {B : Nat} (hB : ∀ b off, A = some ⟨b, off, none⟩ → 0 < xs.length → b < B) {p : Addr} (hp : B ≤ p.block) (u : Value) : Ints (w.setCell p u) A xs :=
  ⟨h.len, fun h0 => by
    obtain ⟨b, off, rfl, hb, hc⟩ := h.at_ h0
    have := hB b off rfl h0
    refine ⟨b, off, rfl, by simpa using hb, fun k hk => ?_⟩
    rw [World.cell?_setCell_other _ _ _ _ (fun e => by subst e; simp at hp; omega)]
    exact hc k hk⟩

/-- For the walk: old cells and old marks read as before. -/
theorem old_cells {w w' : World} (h : Below w.heap.size w w') : ∀ b o, b < w.heap.size → w'.cell? ⟨b, o, none⟩ = w.cell? ⟨b, o, none⟩ := fun b o hb => h.cell (p := ⟨b, o, none⟩) hb
theorem old_marks {w w' : World} (h : Below w.heap.size w w') : ∀ b o, b < w.heap.size → w'.frozen? ⟨b, o, none⟩ = w.frozen? ⟨b, o, none⟩ := fun b o hb => h.frozen (p := ⟨b, o, none⟩) hb

/-! ### A region that draws its order, met by an invariant over what has been done so far: one duty for each operation, not for each order. -/

theorem wpAny_inv {md : Region.Mode} {ops : Array Oper} {Q : Exit → Act → World → Prop} (I : Array Bool → Act → World → Prop)
    (hstep : ∀ l a w, I l a w → ∀ i ∈ Region.ready md ops l, wpOp P ops Q i (I (l.setIfInBounds i true)) a w)
    (hdone : ∀ l a w, I l a w → Region.ready md ops l = [] → Q .normal a w) :
    ∀ (fuel : Nat) (l : Array Bool) (a : Act) (w : World), l.size = ops.size → ((List.range ops.size).filter fun i => !l.getD i true).length ≤ fuel → I l a w → wpAny P md ops Q fuel l a w
  | 0, l, a, w, _, hf, h => by
    have hnil : ((List.range ops.size).filter fun i => !l.getD i true) = [] := List.eq_nil_of_length_eq_zero (by omega)
    have hr : Region.ready md ops l = [] := by
      unfold Region.ready
      rw [List.filter_eq_nil_iff] at hnil ⊢
      intro i hi hh
      simp only [Bool.and_eq_true] at hh
      exact hnil i hi hh.1
    exact ⟨hr, hdone l a w h hr⟩
  | fuel + 1, l, a, w, hsz, hf, h => by
    refine ⟨hdone l a w h, fun i hi => ?_⟩
    refine wpOp_mono (fun a' w' h' => ?_) (hstep l a w h i hi)
    have hlt : i < ops.size ∧ l.getD i true = false := by
      unfold Region.ready at hi
      simp only [List.mem_filter, List.mem_range, Bool.and_eq_true, Bool.not_eq_true'] at hi
      exact ⟨hi.1, hi.2.1⟩
    refine wpAny_inv I hstep hdone fuel _ a' w' (by simpa using hsz) ?_ h'
    have key : ((List.range ops.size).filter fun k => !(l.setIfInBounds i true).getD k true).length < ((List.range ops.size).filter fun k => !l.getD k true).length := by
      have hsub : ((List.range ops.size).filter fun k => !(l.setIfInBounds i true).getD k true) = ((List.range ops.size).filter fun k => !l.getD k true).filter fun k => k != i := by
        rw [List.filter_filter]
        refine List.filter_congr fun k hk => ?_
        have hk' : k < l.size := by rw [hsz]; simpa using hk
        by_cases e : k = i
        · subst e; simp [hk']
        · simp [Array.getD_eq_getD_getElem?, Array.getElem?_setIfInBounds_ne (Ne.symm e), e]
      rw [hsub]
      refine List.length_filter_lt_length_iff_exists.2 ⟨i, ?_, by simp⟩
      simp only [List.mem_filter, List.mem_range, Bool.not_eq_true']
      exact hlt
    omega

theorem wp_region_inv {ops : Array Oper} {Q : Exit → Act → World → Prop} {id : Nat} {a : Act} {w : World} (hm : P.follows .mixedOrders = true) (I : Array Bool → Act → World → Prop)
    (h0 : I (Array.replicate ops.size false) a w.drew)
    (hstep : ∀ l a w, I l a w → ∀ i ∈ Region.ready .any ops l, wpOp P ops Q i (I (l.setIfInBounds i true)) a w)
    (hdone : ∀ l a w, I l a w → Region.ready .any ops l = [] → Q .normal a w) : (Code.region id ops true).wp P Q a w :=
  wp_region_any hm (wpAny_inv I hstep hdone ops.size _ a _ (by simp) (by
    refine Nat.le_trans (List.length_filter_le _ _) ?_
    simp) h0)
end

theorem Row.own {w : World} {base : Nat} {e : TypeId} {size : Nat} {A : Option Addr} {n cap : Nat} {xs : List Value} (h : Row w base e size (.slice A n cap) n xs) (hn : 0 < n) :
    ∃ g, A = some ⟨g, 0, none⟩ ∧ base ≤ g ∧ g < w.heap.size ∧ w.ownsRow base e size (.slice (some ⟨g, 0, none⟩) n cap) n xs := by
  rcases h with h | ⟨_, _, h0, _⟩
  · obtain ⟨g, cap', e', hb, hlt⟩ := h.form hn
    cases e'
    exact ⟨g, rfl, hb, hlt, h⟩
  · omega

section
variable {w w' : World} {base : Nat} {e : TypeId} {size g n cap : Nat} {xs : List Value}
theorem own_of_block (h : w.ownsRow base e size (.slice (some ⟨g, 0, none⟩) n cap) n xs) (hb : w'.heap[g]? = w.heap[g]?) : w'.ownsRow base e size (.slice (some ⟨g, 0, none⟩) n cap) n xs := by
  refine ⟨h.1, ?_⟩
  rcases h.2 with ⟨h0, _⟩ | ⟨g', cap', cur, hv, a, b, c⟩
  · cases h0
  · cases hv
    exact .inr ⟨g, cap, cur, rfl, a, hb.trans b, c⟩

theorem own_base {base' : Nat} {v : Value} (h : w.ownsRow base e size v n xs) (hb : base' ≤ base) : w.ownsRow base' e size v n xs := by
  refine ⟨h.1, ?_⟩
  rcases h.2 with h0 | ⟨g', cap', cur, hv, a, b, c⟩
  · exact .inl h0
  · exact .inr ⟨g', cap', cur, hv, Nat.le_trans hb a, b, c⟩

theorem own_lt (h : w.ownsRow base e size (.slice (some ⟨g, 0, none⟩) n cap) n xs) : g < w.heap.size := (h.lt g rfl).2

theorem own_below {B : Nat} (h : w.ownsRow base e size (.slice (some ⟨g, 0, none⟩) n cap) n xs) (hb : Below B w w') (hg : g < B) : w'.ownsRow base e size (.slice (some ⟨g, 0, none⟩) n cap) n xs :=
  own_of_block h (hb.block g hg)

theorem own_alloc (h : w.ownsRow base e size (.slice (some ⟨g, 0, none⟩) n cap) n xs) (o : Obj) : (w.alloc o).ownsRow base e size (.slice (some ⟨g, 0, none⟩) n cap) n xs :=
  own_of_block h (Below.heap_alloc w o g (own_lt h))
end

theorem src_new1 (w : World) (u : Value) (t : TypeId) : Src (w.alloc (.cells #[u] t)) 1 (some ⟨w.heap.size, 0, none⟩) 1 [u] :=
  ⟨rfl, fun _ => ⟨_, rfl, fun j v hv => by
    cases j with
    | zero => simp at hv; subst hv; simp [Addr.add]
    | succ j => simp at hv⟩⟩


section
variable {P : Program}

theorem run_app_row (w : World) {base : Nat} {t e : TypeId} {i : TypeInfo} {z : Value} {size bytes : Nat} (ty : TypeId) (ht : P.underlying t = some (.slice e)) (hi : P.info? e = some i) (hz : i.zero = some z)
    (hsize : i.size = size) (hby : i.bytes = bytes) (hzs : z.cells.size = size) (hsz : 0 < size)
    {v : Value} {n : Nat} {xs : List Value} (hrow : Row w base e size v n xs)
    {A : Option Addr} {m : Nat} (c : Nat) {us : List Value} (hs : Src w size A m us) (h1 : ∀ u ∈ us, u.oneCell' = true)
    (h63 : n + m ≤ maxLen) (hb : (n + m) * bytes ≤ 140737488355328) (hbase : base ≤ w.heap.size) :
    ∃ A' cap w', (Builtin.append_ #[t, t] ty #[v, .slice A m c]).run P w = .ok (.slice A' (n + m) cap) w' ∧ Row w' base e size (.slice A' (n + m) cap) (n + m) (xs ++ us) ∧ w.grownBy w' v.ownBlock ∧
      (∀ b, (Value.slice A' (n + m) cap).ownBlock = some b → v.ownBlock = some b ∨ w.heap.size ≤ b) := by
  rcases hrow with hown | ⟨A0, rfl, rfl, rfl⟩
  · obtain ⟨v', w', a1, a2, a3, a4⟩ := run_app (P := P) w ty ht hi hz hsize hby hzs hsz hown c hs h1 h63 hb hbase
    obtain ⟨A', cap, rfl, _⟩ := Row.form (.inl a2)
    refine ⟨A', cap, w', a1, .inl a2, a3, ?_⟩
    intro b e
    rcases a4 with h | h
    · exact .inl (h.symm.trans e)
    · exact .inr (Nat.le_of_eq (Option.some.inj (h.symm.trans e)))
  · rw [Nat.zero_add] at h63 hb ⊢
    rw [List.nil_append]
    by_cases h0 : 0 < m
    · obtain ⟨v', w', a1, a2, a3⟩ := run_clone (P := P) w ty ht hi hz hsize hby hzs hsz A0 c hs h1 h63 hb
      obtain ⟨A', cap, rfl, _⟩ := a2.form
      obtain ⟨g, rfl, hg, _, hO⟩ := a2.own h0
      exact ⟨_, cap, w', a1, .inl (own_base hO hbase), ⟨a3.os, a3.tape, a3.output, a3.size, fun k hk _ => a3.block k hk⟩, fun b e => by cases e; exact .inr hg⟩
    · obtain rfl : m = 0 := by omega
      rw [hs.empty]
      refine ⟨A0, 0, w, ?_, .inr ⟨A0, rfl, rfl, rfl⟩, World.grownBy.refl w _, fun b e => .inl e⟩
      cases A <;> cases A0 <;> simp [Builtin.append_, run_underlying ht, sizeOf, typeInfo, hi, Builtin.lenOf, Builtin.firstCells, storeCells] <;> rfl

theorem wp_app_row {w : World} {o : Oper} {a : Act} {K : Act → World → Prop} {Q : Exit → Act → World → Prop} (s x : Operand) (t : TypeId)
    (ho : o.op = .call { callee := .builtin .append, args := #[s, x], argTypes := #[t, t] })
    (base : Nat) (e : TypeId) (i : TypeInfo) (z : Value) (size bytes : Nat) (ht : P.underlying t = some (.slice e)) (hi : P.info? e = some i) (hz : i.zero = some z)
    (hsize : i.size = size) (hby : i.bytes = bytes) (hzs : z.cells.size = size) (hsz : 0 < size)
    (v : Value) (n : Nat) (xs : List Value) (hv : a.eval s = v) (hrow : Row w base e size v n xs)
    (A : Option Addr) (m c : Nat) (us : List Value) (hx : a.eval x = .slice A m c) (hs : Src w size A m us) (h1 : ∀ u ∈ us, u.oneCell' = true)
    (h63 : n + m ≤ maxLen) (hb : (n + m) * bytes ≤ 140737488355328) (hbase : base ≤ w.heap.size)
    (h : ∀ A' cap w', Row w' base e size (.slice A' (n + m) cap) (n + m) (xs ++ us) → w.grownBy w' v.ownBlock → (∀ b, (Value.slice A' (n + m) cap).ownBlock = some b → v.ownBlock = some b ∨ w.heap.size ≤ b) → K (a.put o.dst (.slice A' (n + m) cap)) w') : o.wp P a w K Q := by
  obtain ⟨A', cap, w', hr, a2, a3, a4⟩ := run_app_row (P := P) w o.type ht hi hz hsize hby hzs hsz hrow c hs h1 h63 hb hbase
  unfold Oper.wp execOp
  simp only [ho, resolve, invoke, builtin, Sem.run_bind, Sem.run_pure, Result.andThen_ok, List.map_toArray, List.map_cons, List.map_nil, hv, hx, hr]
  exact h A' cap w' a2 a3 a4

/-- In a plain region. -/
theorem wpList_app_row {w : World} {ops : Array Oper} {rest : List Oper} {o : Oper} {a : Act} {Q : Exit → Act → World → Prop} (hgd : o.guard = none) (s x : Operand) (t : TypeId)
    (ho : o.op = .call { callee := .builtin .append, args := #[s, x], argTypes := #[t, t] })
    (base : Nat) (e : TypeId) (i : TypeInfo) (z : Value) (size bytes : Nat) (ht : P.underlying t = some (.slice e)) (hi : P.info? e = some i) (hz : i.zero = some z)
    (hsize : i.size = size) (hby : i.bytes = bytes) (hzs : z.cells.size = size) (hsz : 0 < size)
    (v : Value) (n : Nat) (xs : List Value) (hv : a.eval s = v) (hrow : Row w base e size v n xs)
    (A : Option Addr) (m c : Nat) (us : List Value) (hx : a.eval x = .slice A m c) (hs : Src w size A m us) (h1 : ∀ u ∈ us, u.oneCell' = true)
    (h63 : n + m ≤ maxLen) (hb : (n + m) * bytes ≤ 140737488355328) (hbase : base ≤ w.heap.size)
    (h : ∀ A' cap w', Row w' base e size (.slice A' (n + m) cap) (n + m) (xs ++ us) → w.grownBy w' v.ownBlock → (∀ b, (Value.slice A' (n + m) cap).ownBlock = some b → v.ownBlock = some b ∨ w.heap.size ≤ b) → wpList P ops Q rest (a.put o.dst (.slice A' (n + m) cap)) w') : wpList P ops Q (o :: rest) a w :=
  wpList_plain hgd fun _ hK => wp_app_row s x t ho base e i z size bytes ht hi hz hsize hby hzs hsz v n xs hv hrow A m c us hx hs h1 h63 hb hbase fun A' cap w' b2 b3 b4 => hK _ _ (h A' cap w' b2 b3 b4)

/-- In a region that draws its order. -/
theorem step_app_row {w : World} {ops : Array Oper} {o : Oper} {a : Act} {K : Act → World → Prop} {Q : Exit → Act → World → Prop} {E : Prop} (hgd : o.guard = none) (s x : Operand) (t : TypeId)
    (ho : o.op = .call { callee := .builtin .append, args := #[s, x], argTypes := #[t, t] })
    (base : Nat) (e : TypeId) (i : TypeInfo) (z : Value) (size bytes : Nat) (ht : P.underlying t = some (.slice e)) (hi : P.info? e = some i) (hz : i.zero = some z)
    (hsize : i.size = size) (hby : i.bytes = bytes) (hzs : z.cells.size = size) (hsz : 0 < size)
    (v : Value) (n : Nat) (xs : List Value) (hv : a.eval s = v) (hrow : Row w base e size v n xs)
    (A : Option Addr) (m c : Nat) (us : List Value) (hx : a.eval x = .slice A m c) (hs : Src w size A m us) (h1 : ∀ u ∈ us, u.oneCell' = true)
    (h63 : n + m ≤ maxLen) (hb : (n + m) * bytes ≤ 140737488355328) (hbase : base ≤ w.heap.size)
    (h : ∀ A' cap w', Row w' base e size (.slice A' (n + m) cap) (n + m) (xs ++ us) → w.grownBy w' v.ownBlock → (∀ b, (Value.slice A' (n + m) cap).ownBlock = some b → v.ownBlock = some b ∨ w.heap.size ≤ b) → K (a.put o.dst (.slice A' (n + m) cap)) w') :
    if Region.wanted o (yielded ops a.tmps) = true then Oper.wp P o a w K Q else E := by
  rw [if_pos (by simp [Region.wanted, hgd])]
  exact wp_app_row s x t ho base e i z size bytes ht hi hz hsize hby hzs hsz v n xs hv hrow A m c us hx hs h1 h63 hb hbase h

theorem Src.below {w w' : World} {size : Nat} {A : Option Addr} {m : Nat} {us : List Value} {B : Nat} (h : Src w size A m us) (hA : ∀ ad, A = some ad → 0 < m → ad.block < B) (hb : Below B w w') : Src w' size A m us :=
  ⟨h.len, fun h0 => by
    obtain ⟨ad, rfl, hc⟩ := h.at_ h0
    refine ⟨ad, rfl, fun j u hu => ?_⟩
    have hbl : (ad.add j).block = ad.block := by unfold Addr.add; split <;> rfl
    exact (hb.cell (by rw [hbl]; exact hA ad rfl h0)).trans (hc j u hu)⟩

/-- The first j elements of a slice whose elements are one cell each. -/
theorem Src.take {w : World} {A : Option Addr} {n : Nat} {us : List Value} (h : Src w 1 A n us) {j : Nat} (hj : j ≤ n) : Src w 1 A j (us.take j) := by
  have hl := h.len
  refine ⟨by rw [List.length_take]; omega, fun h0 => ?_⟩
  obtain ⟨ad, rfl, hc⟩ := h.at_ (by omega)
  refine ⟨ad, rfl, fun i u hu => ?_⟩
  rw [List.getElem?_take] at hu
  split at hu
  · exact hc i u hu
  · cases hu

/-- The elements from j on. -/
theorem Src.drop {w : World} {b off n : Nat} {us : List Value} (h : Src w 1 (some ⟨b, off, none⟩) n us) (j : Nat) {A : Option Addr} (hA : j < n → A = some ⟨b, off + j, none⟩) : Src w 1 A (n - j) (us.drop j) := by
  have hl := h.len
  refine ⟨by rw [List.length_drop]; omega, fun h0 => ?_⟩
  obtain ⟨ad, e, hc⟩ := h.at_ (by omega)
  cases e
  refine ⟨_, hA (by omega), fun i u hu => ?_⟩
  rw [List.getElem?_drop] at hu
  have h1 := hc (j + i) u hu
  have e1 : (⟨b, off, none⟩ : Addr).add (j + i) = ⟨b, off + (j + i), none⟩ := by unfold Addr.add; split <;> simp_all
  have e2 : (⟨b, off + j, none⟩ : Addr).add i = ⟨b, off + j + i, none⟩ := by unfold Addr.add; split <;> simp_all
  rw [e1] at h1
  rw [e2, Nat.add_assoc]
  exact h1
end

/-- `s[lo:]`: its address behind a letter (at the capacity's end the model keeps the old one). -/
theorem slice_from {P : Program} {t e : TypeId} {i : TypeInfo} (ht : P.underlying t = some (.slice e)) (hi : P.info? e = some i) (hsize : i.size = 1) (b off n c lo : Nat) (h1 : lo ≤ n) (h2 : n ≤ c) :
    ∃ A : Option Addr, (lo < n → A = some ⟨b, off + lo, none⟩) ∧ ∀ W, (Instr.slice t (.slice (some ⟨b, off, none⟩) n c) (some (.int .i64 (lo : Int))) none none).run P W = .ok (.slice A (n - lo) (c - lo)) W := by
  by_cases hc : c = lo
  · refine ⟨some ⟨b, off, none⟩, fun h => by omega, fun W => ?_⟩
    have e1 : (lo : Int) ≤ (n : Int) := by omega
    subst hc
    simp [Instr.slice, Instr.sliceBounds, Instr.sliceBound, asIntOf, run_underlying ht, sizeOf, typeInfo, hi, hsize, go_sem]
    intro h
    omega
  · refine ⟨some ⟨b, off + lo, none⟩, fun _ => rfl, fun W => ?_⟩
    have e1 : (lo : Int) ≤ (n : Int) := by omega
    simp [Instr.slice, Instr.sliceBounds, Instr.sliceBound, asIntOf, run_underlying ht, sizeOf, typeInfo, hi, hsize, hc, go_sem]
    intro h
    omega

theorem Row.keep {w w' : World} {base : Nat} {e : TypeId} {size : Nat} {v : Value} {n : Nat} {xs : List Value} (h : Row w base e size v n xs) (hk : ∀ b, v.ownBlock = some b → b < w.heap.size → w'.heap[b]? = w.heap[b]?) : Row w' base e size v n xs := by
  rcases h with h | h
  · refine .inl ⟨h.1, ?_⟩
    rcases h.2 with h0 | ⟨g, cap, cur, rfl, a, b, c⟩
    · exact .inl h0
    · exact .inr ⟨g, cap, cur, rfl, a, (hk g rfl (Array.getElem?_eq_some_iff.1 b).1).trans b, c⟩
  · exact .inr h

theorem src_blk {W : World} {b m size : Nat} {us : List Value} {t : TypeId} {fr : Nat × Nat} (h : W.heap[b]? = some (.cells us.toArray t fr)) (hl : us.length = m * size) : Src W size (some ⟨b, 0, none⟩) m us :=
  ⟨hl, fun _ => ⟨_, rfl, fun j v hv => by
    have hadd : (⟨b, 0, none⟩ : Addr).add j = ⟨b, j, none⟩ := by unfold Addr.add; split <;> simp_all
    rw [hadd, cell_of_row _ _ j _ _ _ h]
    simpa using hv⟩⟩

theorem Row.src {w : World} {base : Nat} {e : TypeId} {size : Nat} {A : Option Addr} {c n : Nat} {xs : List Value} (h : Row w base e size (.slice A n c) n xs) : Src w size A n xs := by
  obtain ⟨A', c', e1, hl, hf⟩ := h.form
  cases e1
  refine ⟨hl, fun h0 => ?_⟩
  obtain ⟨g, rfl, _, _, hc⟩ := hf h0
  refine ⟨_, rfl, fun j u hu => ?_⟩
  have hadd : (⟨g, 0, none⟩ : Addr).add j = ⟨g, j, none⟩ := by unfold Addr.add; split <;> simp_all
  have hj : j < n * size := by
    rw [← hl]
    exact (List.getElem?_eq_some_iff.1 hu).1
  rw [hadd, hc j hj, hu]

theorem Src.take2 {w : World} {A : Option Addr} {n size : Nat} {us : List Value} (h : Src w size A n us) {j : Nat} (hj : j ≤ n) : Src w size A j (us.take (j * size)) := by
  have hl := h.len
  have hm : j * size ≤ n * size := Nat.mul_le_mul_right _ hj
  refine ⟨by rw [List.length_take]; omega, fun h0 => ?_⟩
  obtain ⟨ad, rfl, hc⟩ := h.at_ (by omega)
  refine ⟨ad, rfl, fun i u hu => ?_⟩
  rw [List.getElem?_take] at hu
  split at hu
  · exact hc i u hu
  · cases hu

theorem Src.drop2 {w : World} {b off n size : Nat} {us : List Value} (h : Src w size (some ⟨b, off, none⟩) n us) (j : Nat) {A : Option Addr} (hA : j < n → A = some ⟨b, off + j * size, none⟩) : Src w size A (n - j) (us.drop (j * size)) := by
  have hl := h.len
  refine ⟨by rw [List.length_drop, hl, Nat.sub_mul], fun h0 => ?_⟩
  obtain ⟨ad, e, hc⟩ := h.at_ (by omega)
  cases e
  refine ⟨_, hA (by omega), fun i u hu => ?_⟩
  rw [List.getElem?_drop] at hu
  have h1 := hc (j * size + i) u hu
  have e1 : (⟨b, off, none⟩ : Addr).add (j * size + i) = ⟨b, off + (j * size + i), none⟩ := by unfold Addr.add; split <;> simp_all
  have e2 : (⟨b, off + j * size, none⟩ : Addr).add i = ⟨b, off + j * size + i, none⟩ := by unfold Addr.add; split <;> simp_all
  rw [e1] at h1
  rw [e2, Nat.add_assoc]
  exact h1

theorem Src.lt {w : World} {A : Option Addr} {m : Nat} {us : List Value} (h : Src w 1 A m us) : ∀ ad, A = some ad → 0 < m → ad.block < w.heap.size := fun ad e h0 => by
  obtain ⟨ad', e', hc⟩ := h.at_ h0
  rw [e] at e'
  cases e'
  have hl := h.len
  have h1 := hc 0 us[0] (List.getElem?_eq_getElem (by omega))
  have h2 := World.block_lt_of_cell? w _ h1
  simpa [Addr.add] using h2

section
variable {P : Program}
theorem run_app_rowB (w : World) {base : Nat} {t e : TypeId} {i : TypeInfo} {z : Value} {size bytes : Nat} (ty : TypeId) (ht : P.underlying t = some (.slice e)) (hi : P.info? e = some i) (hz : i.zero = some z)
    (hsize : i.size = size) (hby : i.bytes = bytes) (hzs : z.cells.size = size) (hsz : 0 < size)
    {v : Value} {n : Nat} {xs : List Value} (hrow : Row w base e size v n xs)
    {A : Option Addr} {m : Nat} (c : Nat) {us : List Value} (hs : Src w size A m us) (h1 : ∀ u ∈ us, u.oneCell' = true)
    (h63 : n + m ≤ maxLen) (hb : (n + m) * bytes ≤ 140737488355328) (hbase : base ≤ w.heap.size) :
    ∃ A' cap w', (Builtin.append_ #[t, t] ty #[v, .slice A m c]).run P w = .ok (.slice A' (n + m) cap) w' ∧ Row w' base e size (.slice A' (n + m) cap) (n + m) (xs ++ us) ∧ w.grownBy w' v.ownBlock ∧
      (∀ b, (Value.slice A' (n + m) cap).ownBlock = some b → v.ownBlock = some b ∨ (w.heap.size ≤ b ∧ b < w'.heap.size)) := by
  rcases hrow with hown | ⟨A0, rfl, rfl, rfl⟩
  · obtain ⟨v', w', a1, a2, a3, a4⟩ := run_app (P := P) w ty ht hi hz hsize hby hzs hsz hown c hs h1 h63 hb hbase
    obtain ⟨A', cap, rfl, _⟩ := Row.form (.inl a2)
    refine ⟨A', cap, w', a1, .inl a2, a3, ?_⟩
    intro b e
    rcases a4 with h | h
    · exact .inl (h.symm.trans e)
    · exact .inr ⟨Nat.le_of_eq (Option.some.inj (h.symm.trans e)), (World.ownsRow.lt a2 b e).2⟩
  · rw [Nat.zero_add] at h63 hb ⊢
    rw [List.nil_append]
    by_cases h0 : 0 < m
    · obtain ⟨v', w', a1, a2, a3⟩ := run_clone (P := P) w ty ht hi hz hsize hby hzs hsz A0 c hs h1 h63 hb
      obtain ⟨A', cap, rfl, _⟩ := a2.form
      obtain ⟨g, rfl, hg, hgl, hO⟩ := a2.own h0
      exact ⟨_, cap, w', a1, .inl (own_base hO hbase), ⟨a3.os, a3.tape, a3.output, a3.size, fun k hk _ => a3.block k hk⟩, fun b e => by cases e; exact .inr ⟨hg, hgl⟩⟩
    · obtain rfl : m = 0 := by omega
      rw [hs.empty]
      refine ⟨A0, 0, w, ?_, .inr ⟨A0, rfl, rfl, rfl⟩, World.grownBy.refl w _, fun b e => .inl e⟩
      cases A <;> cases A0 <;> simp [Builtin.append_, run_underlying ht, sizeOf, typeInfo, hi, Builtin.lenOf, Builtin.firstCells, storeCells] <;> rfl

theorem wp_app_rowB {w : World} {o : Oper} {a : Act} {K : Act → World → Prop} {Q : Exit → Act → World → Prop} (s x : Operand) (t : TypeId)
    (ho : o.op = .call { callee := .builtin .append, args := #[s, x], argTypes := #[t, t] })
    (base : Nat) (e : TypeId) (i : TypeInfo) (z : Value) (size bytes : Nat) (ht : P.underlying t = some (.slice e)) (hi : P.info? e = some i) (hz : i.zero = some z)
    (hsize : i.size = size) (hby : i.bytes = bytes) (hzs : z.cells.size = size) (hsz : 0 < size)
    (v : Value) (n : Nat) (xs : List Value) (hv : a.eval s = v) (hrow : Row w base e size v n xs)
    (A : Option Addr) (m c : Nat) (us : List Value) (hx : a.eval x = .slice A m c) (hs : Src w size A m us) (h1 : ∀ u ∈ us, u.oneCell' = true)
    (h63 : n + m ≤ maxLen) (hb : (n + m) * bytes ≤ 140737488355328) (hbase : base ≤ w.heap.size)
    (h : ∀ A' cap w', Row w' base e size (.slice A' (n + m) cap) (n + m) (xs ++ us) → w.grownBy w' v.ownBlock → (∀ b, (Value.slice A' (n + m) cap).ownBlock = some b → v.ownBlock = some b ∨ (w.heap.size ≤ b ∧ b < w'.heap.size)) → K (a.put o.dst (.slice A' (n + m) cap)) w') : o.wp P a w K Q := by
  obtain ⟨A', cap, w', hr, a2, a3, a4⟩ := run_app_rowB (P := P) w o.type ht hi hz hsize hby hzs hsz hrow c hs h1 h63 hb hbase
  unfold Oper.wp execOp
  simp only [ho, resolve, invoke, builtin, Sem.run_bind, Sem.run_pure, Result.andThen_ok, List.map_toArray, List.map_cons, List.map_nil, hv, hx, hr]
  exact h A' cap w' a2 a3 a4

/-- In a plain region. -/
theorem wpList_app_rowB {w : World} {ops : Array Oper} {rest : List Oper} {o : Oper} {a : Act} {Q : Exit → Act → World → Prop} (hgd : o.guard = none) (s x : Operand) (t : TypeId)
    (ho : o.op = .call { callee := .builtin .append, args := #[s, x], argTypes := #[t, t] })
    (base : Nat) (e : TypeId) (i : TypeInfo) (z : Value) (size bytes : Nat) (ht : P.underlying t = some (.slice e)) (hi : P.info? e = some i) (hz : i.zero = some z)
    (hsize : i.size = size) (hby : i.bytes = bytes) (hzs : z.cells.size = size) (hsz : 0 < size)
    (v : Value) (n : Nat) (xs : List Value) (hv : a.eval s = v) (hrow : Row w base e size v n xs)
    (A : Option Addr) (m c : Nat) (us : List Value) (hx : a.eval x = .slice A m c) (hs : Src w size A m us) (h1 : ∀ u ∈ us, u.oneCell' = true)
    (h63 : n + m ≤ maxLen) (hb : (n + m) * bytes ≤ 140737488355328) (hbase : base ≤ w.heap.size)
    (h : ∀ A' cap w', Row w' base e size (.slice A' (n + m) cap) (n + m) (xs ++ us) → w.grownBy w' v.ownBlock → (∀ b, (Value.slice A' (n + m) cap).ownBlock = some b → v.ownBlock = some b ∨ (w.heap.size ≤ b ∧ b < w'.heap.size)) → wpList P ops Q rest (a.put o.dst (.slice A' (n + m) cap)) w') : wpList P ops Q (o :: rest) a w :=
  wpList_plain hgd fun _ hK => wp_app_rowB s x t ho base e i z size bytes ht hi hz hsize hby hzs hsz v n xs hv hrow A m c us hx hs h1 h63 hb hbase fun A' cap w' b2 b3 b4 => hK _ _ (h A' cap w' b2 b3 b4)

end
end Go.Proofs.YtlibjfmafpiopaaGreatDoor
