/- One call of both stages: whatever it is, they answer alike, and stay alike. -/
import Derived.Test.YtjpkendpnpkbeaaStagePair
namespace Go.Proofs.Ytjpkendpnpkbeaa
open Go.RowKit

/-- Both stages, whatever they hold. -/
def Both (N : Nat) (w : World) (gx Bx gy m : Nat) (X : Nat → Prop) (wr : World) : Prop := ∃ F G l nx, St N w wr gx Bx gy m X F G l nx

section
variable {N : Nat} {w wr : World} {gx Bx gy m : Nat} {X F G : Nat → Prop} {l : List (Int × List Int)} {nx : Int}

/-- Behind the program's half of a call that answered c. -/
def HalfB (X F : Nat → Prop) (gx Bx m : Nat) (l : List (Int × List Int)) (nx : Int) (wr : World) (a c : Int) (w5 : World) : Prop :=
  (l.length = 8 ∧ a = 0 ∧ c = 131 ∧ wr = w5) ∨ (l.length < 8 ∧ a = nx ∧ c = 0 ∧ Stg w5 F gx Bx (nx + 1) (total l) (l ++ [(nx, [])]))

theorem begin_any (h : St N w wr gx Bx gy m X F G l nx) (hm : m ≤ 4611686018427387904) :
    Calls Try.prog 12 #[.pointer (some ⟨gx, 0, none⟩)] wr fun e w5 => ∃ a c, e = .returned (.tuple #[.int .i64 a, .int .i64 c]) ∧ Touch F wr w5 ∧ HalfB X F gx Bx m l nx wr a c w5 := by
  have hl := h.l8
  have nm := h.nm
  by_cases h8 : l.length = 8
  · exact (begin_full h.sx h8).mono fun e w' ⟨a, b⟩ => ⟨0, 131, a, by rw [← b]; exact Touch.refl _ _, .inl ⟨h8, rfl, rfl, b⟩⟩
  · exact (begin_call h.sx h8 (fun p hp => by have := (h.hm p hp).2; omega) h.n0 (by omega)).mono fun e w' ⟨a, b, c, d⟩ => ⟨nx, 0, a, c, .inr ⟨by omega, rfl, rfl, b⟩⟩

theorem begin13_any (h : St N w wr gx Bx gy m X F G l nx) (hm : m ≤ 4611686018427387904) {a c : Int} {w5 : World} (U5 : Touch F wr w5) (hh : HalfB X F gx Bx m l nx wr a c w5) :
    Calls Try.prog 18 #[.pointer (some ⟨gy, 0, none⟩)] w5 fun e w6 => e = .returned (.tuple #[.int .i64 a, .int .i64 c]) ∧ Both N w gx Bx gy (m + 1) X w6 := by
  have nm := h.nm
  rcases hh with ⟨h8, rfl, rfl, rfl⟩ | ⟨h8, rfl, rfl, S5⟩
  · exact (begin13_full h.sy h8).mono fun e w' ⟨a, b⟩ => ⟨a, by rw [← b]; exact ⟨_, _, _, _, h.next⟩⟩
  · exact (begin13_call (h.y5 U5) h8 h.n0 (by omega)).mono fun e w' ⟨a, R⟩ => ⟨a, h.begin h8 S5 U5 R⟩

def HalfA (F : Nat → Prop) (gx Bx : Nat) (l : List (Int × List Int)) (nx : Int) (no : Int) (ys : List Int) (wr : World) (c : Int) (w5 : World) : Prop :=
  ((∀ p ∈ l, p.1 ≠ no) ∧ c = 130 ∧ wr = w5) ∨ ∃ (j : Nat) (bs : List Int), l[j]? = some (no, bs) ∧
    ((512 < bs.length + ys.length ∧ c = 5 ∧ wr = w5) ∨ (bs.length + ys.length ≤ 512 ∧ 2048 < total l + ys.length ∧ c = 131 ∧ wr = w5) ∨ (bs.length + ys.length ≤ 512 ∧ total l + ys.length ≤ 2048 ∧ c = 0 ∧
      ∃ F' : Nat → Prop, Stg w5 F' gx Bx nx ((total l : Int) + (ys.length : Int)) (upd no (bs ++ ys) l) ∧ (∀ b, F' b → F b ∨ (wr.heap.size ≤ b ∧ b < w5.heap.size))))

theorem add_any (h : St N w wr gx Bx gy m X F G l nx) (no : Int) (A : Option Addr) (c : Nat) (ys : List Int) (hs : Src wr 1 A ys.length (u8s ys)) (hy : ys.length ≤ 140737488351232) :
    Calls Try.prog 13 #[.pointer (some ⟨gx, 0, none⟩), .int .i64 no, .slice A ys.length c] wr fun e w5 => ∃ c, e = .returned (.int .i64 c) ∧ Touch F wr w5 ∧ HalfA F gx Bx l nx no ys wr c w5 := by
  have ht := h.ht
  rcases find_at (no := no) (l := l) with hk | ⟨j, bs, hj, hf⟩
  · exact (add_absent h.sx no hk A _ c).mono fun e w' ⟨a, b⟩ => ⟨130, a, by rw [← b]; exact Touch.refl _ _, .inl ⟨hk, rfl, b⟩⟩
  · have h5 : bs.length ≤ 512 := h.h5 _ (List.mem_of_getElem? hj)
    by_cases h1 : 512 < bs.length + ys.length
    · have := add_refused h.sx no bs hf A ys.length c (by omega) (by omega) h5 (by omega) (.inl h1)
      rw [if_pos h1] at this
      exact this.mono fun e w' ⟨a, b⟩ => ⟨5, a, by rw [← b]; exact Touch.refl _ _, .inr ⟨j, bs, hj, .inl ⟨h1, rfl, b⟩⟩⟩
    · by_cases h2 : 2048 < total l + ys.length
      · have := add_refused h.sx no bs hf A ys.length c (by omega) (by omega) h5 (by omega) (.inr (by omega))
        rw [if_neg h1] at this
        exact this.mono fun e w' ⟨a, b⟩ => ⟨131, a, by rw [← b]; exact Touch.refl _ _, .inr ⟨j, bs, hj, .inr (.inl ⟨by omega, h2, rfl, b⟩)⟩⟩
      · exact (add_call h.sx no bs hf A c ys hs (by omega) (by omega) (by omega)).mono fun e w' ⟨a, F', b, _, d, t⟩ => ⟨0, a, t, .inr ⟨j, bs, hj, .inr (.inr ⟨by omega, by omega, rfl, F', b, d⟩)⟩⟩

theorem add13_any (h : St N w wr gx Bx gy m X F G l nx) {no : Int} {A : Option Addr} {c : Nat} {ys : List Int} {w5 : World} (hs : Src w5 1 A ys.length (u8s ys)) (hy : ys.length ≤ 140737488351232) {r : Int} (U5 : Touch F wr w5) (hh : HalfA F gx Bx l nx no ys wr r w5) :
    Calls Try.prog 19 #[.pointer (some ⟨gy, 0, none⟩), .int .i64 no, .slice A ys.length c] w5 fun e w6 => e = .returned (.int .i64 r) ∧ Both N w gx Bx gy (m + 1) X w6 ∧ (∀ b, X b → w6.heap[b]? = wr.heap[b]?) := by
  rcases hh with ⟨hk, rfl, rfl⟩ | ⟨j, bs, hj, hh⟩
  · exact (add13_absent h.sy no hk A _ c).mono fun e w' ⟨a, b⟩ => ⟨a, by rw [← b]; exact ⟨_, _, _, _, h.next⟩, by rw [← b]; exact fun _ _ => rfl⟩
  · have h5 : bs.length ≤ 512 := h.h5 _ (List.mem_of_getElem? hj)
    have y5 := h.y5 U5
    rcases hh with ⟨h1, rfl, rfl⟩ | ⟨h1, h2, rfl, rfl⟩ | ⟨h1, h2, rfl, F', S5, hF'⟩
    · exact (add13_long h.sy no j bs hj h.hp A _ c (by omega) h5 h1).mono fun e w' ⟨a, b⟩ => ⟨a, by rw [← b]; exact ⟨_, _, _, _, h.next⟩, by rw [← b]; exact fun _ _ => rfl⟩
    · refine (add13_call h.sy no j bs hj h.hp A c ys hs h1 h.ht).mono fun e w' hp => ?_
      rcases hp with ⟨_, a, b⟩ | ⟨h3, _⟩
      · exact ⟨a, by rw [← b]; exact ⟨_, _, _, _, h.next⟩, by rw [← b]; exact fun _ _ => rfl⟩
      · omega
    · refine (add13_call y5 no j bs hj h.hp A c ys hs h1 h.ht).mono fun e w' hp => ?_
      rcases hp with ⟨h3, _⟩ | ⟨_, a, R⟩
      · omega
      · obtain ⟨G', hst⟩ := h.add hj h1 h2 S5 hF' U5 R
        obtain ⟨_, _, _, _, U6⟩ := R
        exact ⟨a, ⟨_, _, _, _, hst⟩, fun b hb => h.keepX U5 U6 hb⟩

def HalfT (F : Nat → Prop) (gx Bx : Nat) (l : List (Int × List Int)) (nx : Int) (no : Int) (wr : World) (c : Int) (v : Value) (bs : List Int) (w5 : World) : Prop :=
  ((∀ p ∈ l, p.1 ≠ no) ∧ c = 130 ∧ v = .slice none 0 0 ∧ bs = [] ∧ wr = w5) ∨ ∃ (j : Nat), l[j]? = some (no, bs) ∧ c = 0 ∧ BRow w5 v bs ∧ (∀ b, v.ownBlock = some b → F b) ∧
      Stg w5 (fun b => F b ∧ v.ownBlock ≠ some b) gx Bx nx ((total l : Int) - (bs.length : Int)) (cut no l)

theorem take_any (h : St N w wr gx Bx gy m X F G l nx) (no : Int) :
    Calls Try.prog 14 #[.pointer (some ⟨gx, 0, none⟩), .int .i64 no] wr fun e w5 => ∃ A cap c bs, e = .returned (.tuple #[.slice A bs.length cap, .int .i64 c]) ∧ Touch F wr w5 ∧ bs.length ≤ 512 ∧ HalfT F gx Bx l nx no wr c (.slice A bs.length cap) bs w5 := by
  have ht := h.ht
  rcases find_at (no := no) (l := l) with hk | ⟨j, bs, hj, hf⟩
  · exact (take_absent h.sx no hk).mono fun e w' ⟨a, b⟩ => ⟨none, 0, 130, [], a, by rw [← b]; exact Touch.refl _ _, by simp, .inl ⟨hk, rfl, rfl, rfl, b⟩⟩
  · have h5 : bs.length ≤ 512 := h.h5 _ (List.mem_of_getElem? hj)
    exact (take_call h.sx no bs hf (by omega) (by omega) (by omega)).mono fun e w' ⟨A, cap, a, b, d, s, t, _⟩ => ⟨A, cap, 0, bs, a, t, h5, .inr ⟨j, hj, rfl, b, fun b e => (d b e).1, s⟩⟩

theorem rd_str {w : World} {G : Nat → Prop} {A : Option Addr} {cap : Nat} {bs : List Int} (h : Rd w G (.slice A bs.length cap) bs) : (convert 29 9 (.slice A bs.length cap)).run Try.prog w = .ok (.string (strOfNums bs)) w := by
  obtain ⟨A', c', e, hf⟩ := h
  cases e
  by_cases h0 : 0 < bs.length
  · obtain ⟨b, rfl, _, _, hc⟩ := hf h0
    refine run_convert_bytes_arg w 29 5 Try.underlying29 Try.underlying5 b 0 _ _ bs rfl (fun i hi => ?_) 9 Try.underlying9
    rw [Nat.zero_add]
    exact hc i hi
  · have hb : bs = [] := List.eq_nil_of_length_eq_zero (by omega)
    subst hb
    cases A with
    | none => exact run_convert_bytes_nil w 29 5 Try.underlying29 Try.underlying5 _ _ 9 Try.underlying9
    | some a =>
      have hl : (loadCells a 0).run Try.prog w = .ok (([] : List Int).map (Value.int .u8)).toArray w := by
        have := run_loadCells_list (P := Try.prog) w a [] (fun j v hj => by simp at hj)
        simpa using this
      rw [run_convert_bytes_string w 29 9 5 _ _ _ Try.underlying29 Try.underlying5 Try.underlying9, List.length_nil, run_bytesToString w a 0 cap [] hl, foldl_push_bytes]
      rfl

theorem take13_any (h : St N w wr gx Bx gy m X F G l nx) {no : Int} {A : Option Addr} {cap : Nat} {bs : List Int} {w5 : World} {r : Int} (U5 : Touch F wr w5) (hh : HalfT F gx Bx l nx no wr r (.slice A bs.length cap) bs w5) :
    Calls Try.prog 20 #[.pointer (some ⟨gy, 0, none⟩), .int .i64 no] w5 fun e w6 => ∃ A' cap', e = .returned (.tuple #[.slice A' bs.length cap', .int .i64 r]) ∧ (convert 29 9 (.slice A' bs.length cap')).run Try.prog w6 = .ok (.string (strOfNums bs)) w6 ∧
      (convert 29 9 (.slice A bs.length cap)).run Try.prog w6 = .ok (.string (strOfNums bs)) w6 ∧ Both N w gx Bx gy (m + 1) (fun b => (Value.slice A bs.length cap).ownBlock = some b) w6 ∧ BRow w6 (.slice A bs.length cap) bs := by
  rcases hh with ⟨hk, rfl, e1, rfl, rfl⟩ | ⟨j, hj, rfl, hr, ho, S5⟩
  · cases e1
    refine (take13_absent h.sy no hk).mono fun e w' ⟨a, b⟩ => ?_
    subst b
    have hc := run_convert_bytes_nil wr 29 5 Try.underlying29 Try.underlying5 0 0 9 Try.underlying9
    exact ⟨none, 0, a, hc, hc, ⟨_, _, _, _, h.next.mono fun b e => by cases e⟩, World.ownsRow_nil _ _ _ _⟩
  · refine (take13_call (h.y5 U5) no j bs hj h.hp h.l8).mono fun e w' ⟨A', cap', a, hrd, R⟩ => ?_
    obtain ⟨G', hst⟩ := h.take (X' := fun b => (Value.slice A bs.length cap).ownBlock = some b) hj S5 (fun b hb => hb.1) (fun b e => .inr ⟨ho b e, fun hn => hn.2 e⟩) U5 R
    obtain ⟨_, _, _, _, U6⟩ := R
    have hr6 : BRow w' (.slice A bs.length cap) bs := hr.keep fun b e => U6.block b (hr.lt e) (h.hFG b (ho b e))
    exact ⟨A', cap', a, rd_str hrd, brow_str hr6 rfl, ⟨_, _, _, _, hst⟩, hr6⟩

def HalfD (F : Nat → Prop) (gx Bx : Nat) (l : List (Int × List Int)) (nx : Int) (no : Int) (wr : World) (c : Int) (w5 : World) : Prop :=
  ((∀ p ∈ l, p.1 ≠ no) ∧ c = 130 ∧ wr = w5) ∨ ∃ (j : Nat) (bs : List Int), l[j]? = some (no, bs) ∧ c = 0 ∧ ∃ F' : Nat → Prop, Stg w5 F' gx Bx nx ((total l : Int) - (bs.length : Int)) (cut no l) ∧ ∀ b, F' b → F b

theorem abort_any (h : St N w wr gx Bx gy m X F G l nx) (no : Int) :
    Calls Try.prog 21 #[.pointer (some ⟨gx, 0, none⟩), .int .i64 no] wr fun e w5 => ∃ c, e = .returned (.int .i64 c) ∧ Touch F wr w5 ∧ HalfD F gx Bx l nx no wr c w5 := by
  have ht := h.ht
  rcases find_at (no := no) (l := l) with hk | ⟨j, bs, hj, hf⟩
  · exact (abort_absent h.sx no hk).mono fun e w' ⟨a, b⟩ => ⟨130, a, by rw [← b]; exact Touch.refl _ _, .inl ⟨hk, rfl, b⟩⟩
  · have h5 : bs.length ≤ 512 := h.h5 _ (List.mem_of_getElem? hj)
    exact (abort_call h.sx no bs hf (by omega) (by omega) (by omega)).mono fun e w' ⟨a, hs, t, _⟩ => ⟨0, a, t, .inr ⟨j, bs, hj, rfl, hs⟩⟩

theorem abort13_any (h : St N w wr gx Bx gy m X F G l nx) {no : Int} {w5 : World} {r : Int} (U5 : Touch F wr w5) (hh : HalfD F gx Bx l nx no wr r w5) :
    Calls Try.prog 22 #[.pointer (some ⟨gy, 0, none⟩), .int .i64 no] w5 fun e w6 => e = .returned (.int .i64 r) ∧ Both N w gx Bx gy (m + 1) (fun _ => False) w6 := by
  rcases hh with ⟨hk, rfl, rfl⟩ | ⟨j, bs, hj, rfl, F', S5, hF'⟩
  · exact (abort13_absent h.sy no hk).mono fun e w' ⟨a, b⟩ => ⟨a, by rw [← b]; exact ⟨_, _, _, _, h.next.mono fun b e => e.elim⟩⟩
  · refine (abort13_call (h.y5 U5) no j bs hj h.hp h.l8).mono fun e w' ⟨a, R⟩ => ⟨a, ?_⟩
    obtain ⟨G', hst⟩ := h.take (X' := fun _ => False) hj S5 hF' (fun b e => e.elim) U5 R
    exact ⟨_, _, _, _, hst⟩
end

theorem Both.size {N : Nat} {w wr : World} {gx Bx gy m : Nat} {X : Nat → Prop} (h : Both N w gx Bx gy m X wr) : Below N w wr := by
  obtain ⟨_, _, _, _, h⟩ := h
  exact h.T

theorem Both.mono {N : Nat} {w wr : World} {gx Bx gy m : Nat} {X X' : Nat → Prop} (h : Both N w gx Bx gy m X wr) (hX : ∀ b, X' b → X b) : Both N w gx Bx gy m X' wr := by
  obtain ⟨F, G, l, nx, h⟩ := h
  exact ⟨F, G, l, nx, h.mono hX⟩

/-- A row of bytes of the law's own beside both stages. -/
def Own (N : Nat) (w : World) (gx Bx gy m : Nat) (v : Value) (n : Nat) (wr : World) : Prop :=
  Both N w gx Bx gy m (fun b => v.ownBlock = some b ∧ 0 < n) wr ∧ ∃ xs, Row wr 0 5 1 v n xs

theorem Own.cell {N : Nat} {w wr : World} {gx Bx gy m : Nat} {A : Option Addr} {n cap : Nat} (h : Own N w gx Bx gy m (.slice A n cap) n wr) {k : Nat} (hk : k < n) :
    ∃ g u, A = some ⟨g, 0, none⟩ ∧ wr.cell? ⟨g, k, none⟩ = some u ∧ wr.frozen? ⟨g, k, none⟩ = false ∧ ∀ u', Own N w gx Bx gy m (.slice A n cap) n (wr.setCell ⟨g, k, none⟩ u') := by
  obtain ⟨⟨F, G, l, nx, hS⟩, xs, hr⟩ := h
  obtain ⟨A', c', e, hl, hf⟩ := hr.form
  cases e
  obtain ⟨g, rfl, _, hg, hc⟩ := hf (by omega)
  have hown : wr.ownsRow 0 5 1 (.slice (some ⟨g, 0, none⟩) n cap) n xs := by
    rcases hr with h | ⟨_, _, h, _⟩
    · exact h
    · omega
  have hkx : k < xs.length := by omega
  refine ⟨g, xs[k], rfl, by rw [hc k (by omega), List.getElem?_eq_getElem hkx], World.ownsRow.frozenAt hown k, fun u' => ⟨⟨F, G, l, nx, ?_⟩, _, .inl (hown.stored k u').1⟩⟩
  exact hS.touch (Y := fun b => b = g) ((Touch.refl (fun b => b = g) wr).setCell (p := ⟨g, k, none⟩) rfl u') (fun b e => by subst e; exact ⟨rfl, by omega⟩) (fun b hb => .inl hb)

theorem Own.done {N : Nat} {w wr : World} {gx Bx gy m : Nat} {v : Value} {n : Nat} (h : Own N w gx Bx gy m v n wr) : Both N w gx Bx gy m (fun _ => False) wr := by
  obtain ⟨⟨F, G, l, nx, hS⟩, _⟩ := h
  exact ⟨F, G, l, nx, hS.mono fun b e => e.elim⟩
end Go.Proofs.Ytjpkendpnpkbeaa
