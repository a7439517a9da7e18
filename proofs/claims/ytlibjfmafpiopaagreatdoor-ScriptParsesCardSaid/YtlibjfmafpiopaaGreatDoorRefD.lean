/- The document's reading of a line (munimentref22.read): the contract. -/
import Derived.Test.YtlibjfmafpiopaaGreatDoorRefB
import Derived.Test.YtlibjfmafpiopaaGreatDoorRefC
import Derived.Deep.DeepCutAuto
namespace Go.Proofs.YtlibjfmafpiopaaGreatDoor
open Go.RowKit Scr

/-- A slice that reads as integers, in a block of its own from lo on. -/
def RdI (k : IntKind) (w : World) (lo : Nat) (v : Value) (xs : List Int) : Prop :=
  ∃ A c, v = .slice A xs.length c ∧ (0 < xs.length → ∃ b, A = some ⟨b, 0, none⟩ ∧ lo ≤ b ∧ b < w.heap.size ∧ (∀ j, j < xs.length → w.cell? ⟨b, j, none⟩ = some (.int k (xs.getD j 0))) ∧ ∀ j, w.frozen? ⟨b, j, none⟩ = false)

theorem RdI.below {k : IntKind} {w w' : World} {lo : Nat} {v : Value} {xs : List Int} (h : RdI k w lo v xs) (hb : Below w.heap.size w w') : RdI k w' lo v xs := by
  obtain ⟨A, c, e, hf⟩ := h
  refine ⟨A, c, e, fun h0 => ?_⟩
  obtain ⟨b, e, hl, hlt, hc⟩ := hf h0
  exact ⟨b, e, hl, Nat.lt_of_lt_of_le hlt hb.size, fun j hj => (hb.cell (p := ⟨b, j, none⟩) hlt).trans (hc.1 j hj), fun j => (World.frozen?_of_block (a := ⟨b, j, none⟩) (hb.block b hlt)).trans (hc.2 j)⟩

theorem RdI.nil (k : IntKind) (w : World) (lo : Nat) : RdI k w lo (.slice none 0 0) [] := ⟨none, 0, rfl, fun h => absurd h (by simp)⟩

theorem own_unfr {w : World} {base : Nat} {e : TypeId} {size : Nat} {v : Value} {n : Nat} {xs : List Value} (h : w.ownsRow base e size v n xs) {b : Nat} (hb : v.ownBlock = some b) (j : Nat) : w.frozen? ⟨b, j, none⟩ = false := by
  rcases h.2 with ⟨rfl, _⟩ | ⟨g, cap, cur, rfl, _, hh, _⟩
  · cases hb
  · obtain rfl : g = b := by simpa [Value.ownBlock] using hb
    simp [World.frozen?, hh]

theorem own_rdi {k : IntKind} {w : World} {base : Nat} {e : TypeId} {v : Value} {xs : List Int} (h : w.ownsRow base e 1 v xs.length (xs.map (Value.int k))) : RdI k w base v xs := by
  obtain ⟨A, c, rfl⟩ := own_form h
  refine ⟨A, c, rfl, fun h0 => ?_⟩
  obtain ⟨A', c', e1, _, hf⟩ := Row.form (.inl h)
  cases e1
  obtain ⟨g, rfl, hg, hlt, hc⟩ := hf h0
  refine ⟨g, rfl, hg, hlt, fun j hj => ?_, fun j => own_unfr h rfl j⟩
  rw [hc j (by omega), List.getElem?_map, List.getElem?_eq_getElem hj, List.getD_eq_getElem?_getD, List.getElem?_eq_getElem hj]
  rfl

/-- A command's cells. -/
def cmdCells (c : Cmd) (vb vk : Value) : Array Value := #[.string ⟨c.word.toArray⟩, .int .i64 c.kind, .string ⟨c.id.toArray⟩, vb, .int .i64 c.n, vk]

/-- The zero command. -/
def zeroCmd : Array Value := #[.string ⟨#[]⟩, .int .i64 0, .string ⟨#[]⟩, .slice none 0 0, .int .i64 0, .slice none 0 0]

/-- What 'read' answers. -/
def ReadPost (w : World) (o : Except Int Cmd) (e : Ending) (w' : World) : Prop :=
  Below w.heap.size w w' ∧ ((∃ x, o = .error x ∧ e = .returned (.tuple #[.agg zeroCmd, .int .i64 x])) ∨
    ∃ c vb vk, o = .ok c ∧ e = .returned (.tuple #[.agg (cmdCells c vb vk), .int .i64 0]) ∧ RdI .u8 w' w.heap.size vb c.bytes ∧ RdI .i64 w' w.heap.size vk c.keep)

theorem info3 : (Tryz.prog.info? 3).map (fun i => (i.zero, i.size, i.bytes)) = some (some (.int .i64 0), 1, 8) := by kernel_rfl

theorem heap_setCell_same {w : World} {g i : Nat} {cs : Array Value} {t : TypeId} {fr : Nat × Nat} (h : w.heap[g]? = some (.cells cs t fr)) (u : Value) : (w.setCell ⟨g, i, none⟩ u).heap[g]? = some (.cells (cs.setIfInBounds i u) t fr) := by
  simp [World.setCell, Array.getElem?_modify, h]

/-- What the loop of 'read' keeps. -/
structure RdInv (w wr : World) (c : Cmd) (vb vk : Value) : Prop where
  res : wr.heap[w.heap.size]? = some (.cells zeroCmd 33 (0, 0))
  box : wr.heap[w.heap.size + 1]? = some (.cells (cmdCells c vb vk) 33 (0, 0))
  bl : Below w.heap.size w wr
  rb : RdI .u8 wr (w.heap.size + 2) vb c.bytes
  rk : wr.ownsRow (w.heap.size + 2) 3 1 vk c.keep.length (c.keep.map (Value.int .i64))
  sz : w.heap.size + 2 ≤ wr.heap.size
  dj : 0 < c.bytes.length → ∀ b, vb.ownBlock = some b → vk.ownBlock ≠ some b

theorem RdInv.cell {w wr : World} {c : Cmd} {vb vk : Value} (h : RdInv w wr c vb vk) (i : Nat) : wr.cell? ⟨w.heap.size + 1, i, none⟩ = (cmdCells c vb vk)[i]? := by
  rw [cell_of_row _ _ i _ _ _ h.box]

theorem RdInv.fz {w wr : World} {c : Cmd} {vb vk : Value} (h : RdInv w wr c vb vk) (i : Nat) : wr.frozen? ⟨w.heap.size + 1, i, none⟩ = false := by simp [World.frozen?, h.box]
theorem RdInv.rcell {w wr : World} {c : Cmd} {vb vk : Value} (h : RdInv w wr c vb vk) (i : Nat) : wr.cell? ⟨w.heap.size, i, none⟩ = zeroCmd[i]? := by
  rw [cell_of_row _ _ i _ _ _ h.res]
theorem RdInv.rfz {w wr : World} {c : Cmd} {vb vk : Value} (h : RdInv w wr c vb vk) (i : Nat) : wr.frozen? ⟨w.heap.size, i, none⟩ = false := by simp [World.frozen?, h.res]

theorem RdI.set {k : IntKind} {w : World} {lo : Nat} {v : Value} {xs : List Int} (h : RdI k w lo v xs) {p : Addr} (hp : p.block < lo) (u : Value) : RdI k (w.setCell p u) lo v xs := by
  obtain ⟨A, c, e, hf⟩ := h
  refine ⟨A, c, e, fun h0 => ?_⟩
  obtain ⟨b, e, hl, hlt, hc⟩ := hf h0
  refine ⟨b, e, hl, by simpa using hlt, fun j hj => ?_, fun j => by rw [World.frozen?_setCell]; exact hc.2 j⟩
  rw [World.cell?_setCell_other _ _ _ _ (fun e => by subst e; simp at hp; omega)]
  exact hc.1 j hj

theorem own_set {w : World} {base : Nat} {e : TypeId} {size : Nat} {v : Value} {n : Nat} {xs : List Value} (h : w.ownsRow base e size v n xs) {p : Addr} (hp : p.block < base) (u : Value) : (w.setCell p u).ownsRow base e size v n xs := by
  refine ⟨h.1, ?_⟩
  rcases h.2 with h0 | ⟨g, cap, cur, rfl, a, b, c⟩
  · exact .inl h0
  · exact .inr ⟨g, cap, cur, rfl, a, (Below.heap_setCell w p u g (by omega)).trans b, c⟩

theorem own_keep {w w' : World} {base : Nat} {e : TypeId} {size : Nat} {v : Value} {n : Nat} {xs : List Value} (h : w.ownsRow base e size v n xs) (hk : ∀ b, base ≤ b → b < w.heap.size → w'.heap[b]? = w.heap[b]?) : w'.ownsRow base e size v n xs := by
  refine ⟨h.1, ?_⟩
  rcases h.2 with h0 | ⟨g, cap, cur, rfl, a, b, c⟩
  · exact .inl h0
  · exact .inr ⟨g, cap, cur, rfl, a, (hk g a (Array.getElem?_eq_some_iff.1 b).1).trans b, c⟩

theorem RdInv.id {w wr : World} {c : Cmd} {vb vk : Value} (h : RdInv w wr c vb vk) (l : Bs) : RdInv w (wr.setCell ⟨w.heap.size + 1, 2, none⟩ (.string ⟨l.toArray⟩)) { c with id := l } vb vk :=
  ⟨(Below.heap_setCell _ _ _ _ (by simp)).trans h.res, heap_setCell_same h.box _, h.bl.setCell (by simp) _, h.rb.set (by simp) _, own_set h.rk (by simp) _, by simpa using h.sz, h.dj⟩

theorem RdInv.num {w wr : World} {c : Cmd} {vb vk : Value} (h : RdInv w wr c vb vk) (n : Int) : RdInv w (wr.setCell ⟨w.heap.size + 1, 4, none⟩ (.int .i64 n)) { c with n := n } vb vk :=
  ⟨(Below.heap_setCell _ _ _ _ (by simp)).trans h.res, heap_setCell_same h.box _, h.bl.setCell (by simp) _, h.rb.set (by simp) _, own_set h.rk (by simp) _, by simpa using h.sz, h.dj⟩

theorem RdInv.below {w wr w' : World} {c : Cmd} {vb vk : Value} (h : RdInv w wr c vb vk) (hb : Below wr.heap.size wr w') : RdInv w w' c vb vk :=
  ⟨(hb.block _ (by have := h.sz; omega)).trans h.res, (hb.block _ (by have := h.sz; omega)).trans h.box, h.bl.trans (hb.mono (by have := h.sz; omega)), h.rb.below hb, own_keep h.rk fun b _ hlt => hb.block b hlt, Nat.le_trans h.sz hb.size, h.dj⟩

theorem RdInv.byt {w wr w' : World} {c : Cmd} {vb vk : Value} (h : RdInv w wr c vb vk) (hb : Below wr.heap.size wr w') {A : Option Addr} {cap : Nat} {bl : List Int} (ho : w'.ownsRow wr.heap.size 5 1 (.slice A bl.length cap) bl.length (u8s bl)) :
    RdInv w (w'.setCell ⟨w.heap.size + 1, 3, none⟩ (.slice A bl.length cap)) { c with bytes := bl } (.slice A bl.length cap) vk := by
  have h' := h.below hb
  have hz := h.sz
  have hr : RdI .u8 w' (w.heap.size + 2) (.slice A bl.length cap) bl := own_rdi (own_base ho hz)
  exact ⟨(Below.heap_setCell _ _ _ _ (by simp)).trans h'.res, heap_setCell_same h'.box _, h'.bl.setCell (by simp) _, hr.set (by simp) _, own_set h'.rk (by simp) _, by simpa using h'.sz, fun _ b e e2 => by have h1 := own_blk ho e; have h2 := (World.ownsRow.lt h.rk b e2).2; omega⟩

theorem RdInv.kep {w wr w6 : World} {c : Cmd} {vb vk v6 : Value} (h : RdInv w wr c vb vk) {o : Obj} (hg : (wr.alloc o).grownBy w6 vk.ownBlock) (hat : v6.ownBlock = vk.ownBlock ∨ v6.ownBlock = some (wr.alloc o).heap.size) {n : Int} (ho : w6.ownsRow (w.heap.size + 2) 3 1 v6 (c.keep.length + 1) (c.keep.map (Value.int .i64) ++ [.int .i64 n])) :
    RdInv w (w6.setCell ⟨w.heap.size + 1, 5, none⟩ v6) { c with keep := c.keep ++ [n] } vb v6 := by
  have hz := h.sz
  have hs := hg.size
  simp at hs
  have hkb : ∀ b, vk.ownBlock = some b → w.heap.size + 2 ≤ b := fun b e => own_blk h.rk e
  have blk : ∀ b, b < w.heap.size + 2 → w6.heap[b]? = wr.heap[b]? := fun b hb => (hg.block b (by simp; omega) (fun e => by have := hkb b e.symm; omega)).trans (Below.heap_alloc _ _ _ (by omega))
  have hvb : 0 < c.bytes.length → ∀ b, vb.ownBlock = some b → b < wr.heap.size := fun h0 b e => by
    obtain ⟨A, cc, rfl, hf⟩ := h.rb
    obtain ⟨b', rfl, _, hlt, _⟩ := hf h0
    simp [Value.ownBlock] at e
    omega
  have hrb : RdI .u8 w6 (w.heap.size + 2) vb c.bytes := by
    have hd := h.dj
    obtain ⟨A, cc, rfl, hf⟩ := h.rb
    refine ⟨A, cc, rfl, fun h0 => ?_⟩
    obtain ⟨b, rfl, hl, hlt, hc⟩ := hf h0
    have hne : vk.ownBlock ≠ some b := hd h0 b rfl
    have hbk := (hg.block b (by simp; omega) (fun e => hne e.symm)).trans (Below.heap_alloc _ _ _ hlt)
    exact ⟨b, rfl, hl, by omega, fun j hj => (World.cell?_of_block (a := ⟨b, j, none⟩) hbk).trans (hc.1 j hj), fun j => (World.frozen?_of_block (a := ⟨b, j, none⟩) hbk).trans (hc.2 j)⟩
  refine ⟨(Below.heap_setCell _ _ _ _ (by simp)).trans ((blk _ (by omega)).trans h.res), heap_setCell_same ((blk _ (by omega)).trans h.box) _, (h.bl.trans ⟨hg.os, hg.tape, hg.output, by omega, fun b hb => blk b (by omega)⟩).setCell (by simp) _, hrb.set (by simp) _, ?_, by simp; omega, fun h0 b e e2 => ?_⟩
  · refine own_set ?_ (by simp) _
    simpa using ho
  · have hlt := hvb h0 b e
    rcases hat with h1 | h1
    · exact h.dj h0 b e (h1.symm.trans e2)
    · have h2 := Option.some.inj (h1.symm.trans e2)
      simp at h2
      omega

theorem ite_len {c : Prop} [Decidable c] {a b : Int × Bs} (ha : a.2.length ≤ 4) (hb : b.2.length ≤ 4) : (if c then a else b).2.length ≤ 4 := by split <;> assumption

theorem kindR_len (w : Bs) : (kindR w).2.length ≤ 4 := by
  unfold kindR
  repeat' (refine ite_len (by decide) ?_)
  decide

theorem RdI.lo {k : IntKind} {w : World} {lo lo' : Nat} {v : Value} {xs : List Int} (h : RdI k w lo v xs) (hl : lo' ≤ lo) : RdI k w lo' v xs := by
  obtain ⟨A, c, e, hf⟩ := h
  refine ⟨A, c, e, fun h0 => ?_⟩
  obtain ⟨b, e, h1, hlt, hc⟩ := hf h0
  exact ⟨b, e, by omega, hlt, hc⟩

theorem RdInv.cells {w wr : World} {c : Cmd} {vb vk : Value} (h : RdInv w wr c vb vk) :
    wr.cell? ⟨w.heap.size + 1, 0, none⟩ = some (.string ⟨c.word.toArray⟩) ∧ wr.cell? ⟨w.heap.size + 1, 1, none⟩ = some (.int .i64 c.kind) ∧ wr.cell? ⟨w.heap.size + 1, 2, none⟩ = some (.string ⟨c.id.toArray⟩) ∧
    wr.cell? ⟨w.heap.size + 1, 3, none⟩ = some vb ∧ wr.cell? ⟨w.heap.size + 1, 4, none⟩ = some (.int .i64 c.n) ∧ wr.cell? ⟨w.heap.size + 1, 5, none⟩ = some vk :=
  ⟨h.cell 0, h.cell 1, h.cell 2, h.cell 3, h.cell 4, h.cell 5⟩

theorem RdInv.fzs {w wr : World} {c : Cmd} {vb vk : Value} (h : RdInv w wr c vb vk) :
    wr.frozen? ⟨w.heap.size + 1, 2, none⟩ = false ∧ wr.frozen? ⟨w.heap.size + 1, 3, none⟩ = false ∧ wr.frozen? ⟨w.heap.size + 1, 4, none⟩ = false ∧ wr.frozen? ⟨w.heap.size + 1, 5, none⟩ = false :=
  ⟨h.fz 2, h.fz 3, h.fz 4, h.fz 5⟩

theorem RdInv.rfzs {w wr : World} {c : Cmd} {vb vk : Value} (h : RdInv w wr c vb vk) :
    wr.frozen? ⟨w.heap.size, 0, none⟩ = false ∧ wr.frozen? ⟨w.heap.size, 1, none⟩ = false ∧ wr.frozen? ⟨w.heap.size, 2, none⟩ = false ∧ wr.frozen? ⟨w.heap.size, 3, none⟩ = false ∧ wr.frozen? ⟨w.heap.size, 4, none⟩ = false ∧ wr.frozen? ⟨w.heap.size, 5, none⟩ = false :=
  ⟨h.rfz 0, h.rfz 1, h.rfz 2, h.rfz 3, h.rfz 4, h.rfz 5⟩

theorem RdInv.rcells {w wr : World} {c : Cmd} {vb vk : Value} (h : RdInv w wr c vb vk) :
    wr.cell? ⟨w.heap.size, 0, none⟩ = some (.string ⟨#[]⟩) ∧ wr.cell? ⟨w.heap.size, 1, none⟩ = some (.int .i64 0) ∧ wr.cell? ⟨w.heap.size, 2, none⟩ = some (.string ⟨#[]⟩) ∧ wr.cell? ⟨w.heap.size, 3, none⟩ = some (.slice none 0 0) ∧ wr.cell? ⟨w.heap.size, 4, none⟩ = some (.int .i64 0) ∧ wr.cell? ⟨w.heap.size, 5, none⟩ = some (.slice none 0 0) :=
  ⟨h.rcell 0, h.rcell 1, h.rcell 2, h.rcell 3, h.rcell 4, h.rcell 5⟩

theorem RdInv.kbox {w wr w6 : World} {c : Cmd} {vb vk : Value} (h : RdInv w wr c vb vk) {o : Obj} (hg : (wr.alloc o).grownBy w6 vk.ownBlock) :
    w6.cell? ⟨w.heap.size + 1, 5, none⟩ = some vk ∧ w6.frozen? ⟨w.heap.size + 1, 5, none⟩ = false := by
  have hz := h.sz
  have hkb : ∀ b, vk.ownBlock = some b → w.heap.size + 2 ≤ b := fun b e => own_blk h.rk e
  have e1 : w6.heap[w.heap.size + 1]? = some (.cells (cmdCells c vb vk) 33 (0, 0)) :=
    ((hg.block _ (by simp; omega) (fun e => by have := hkb _ e.symm; omega)).trans (Below.heap_alloc _ _ _ (by omega))).trans h.box
  exact ⟨by rw [cell_of_row _ _ 5 _ _ _ e1]; rfl, by simp [World.frozen?, e1]⟩

/-- The command laid into the result's cells. -/
def laidRes (w wr : World) (c : Cmd) (vb vk : Value) : World :=
  (((((wr.setCell ⟨w.heap.size, 0, none⟩ (.string ⟨c.word.toArray⟩)).setCell ⟨w.heap.size, 1, none⟩ (.int .i64 c.kind)).setCell ⟨w.heap.size, 2, none⟩ (.string ⟨c.id.toArray⟩)).setCell ⟨w.heap.size, 3, none⟩ vb).setCell ⟨w.heap.size, 4, none⟩ (.int .i64 c.n)).setCell ⟨w.heap.size, 5, none⟩ vk

theorem RdInv.fin {w wr : World} {c : Cmd} {vb vk : Value} (h : RdInv w wr c vb vk) :
    (laidRes w wr c vb vk).heap[w.heap.size]? = some (.cells (cmdCells c vb vk) 33 (0, 0)) ∧ Below w.heap.size w (laidRes w wr c vb vk) ∧ RdI .u8 (laidRes w wr c vb vk) w.heap.size vb c.bytes ∧ RdI .i64 (laidRes w wr c vb vk) w.heap.size vk c.keep := by
  refine ⟨heap_setCell_same (heap_setCell_same (heap_setCell_same (heap_setCell_same (heap_setCell_same (heap_setCell_same h.res _) _) _) _) _) _, ?_, ?_, ?_⟩
  · exact (((((h.bl.setCell (by simp) _).setCell (by simp) _).setCell (by simp) _).setCell (by simp) _).setCell (by simp) _).setCell (by simp) _
  · exact ((((((h.rb.set (by simp) _).set (by simp) _).set (by simp) _).set (by simp) _).set (by simp) _).set (by simp) _).lo (by omega)
  · exact (((((((own_rdi h.rk).set (by simp) _).set (by simp) _).set (by simp) _).set (by simp) _).set (by simp) _).set (by simp) _).lo (by omega)

/-- The zero command laid into the result's cells. -/
def laidZero (w wr : World) : World :=
  (((((wr.setCell ⟨w.heap.size, 0, none⟩ (.string ⟨#[]⟩)).setCell ⟨w.heap.size, 1, none⟩ (.int .i64 0)).setCell ⟨w.heap.size, 2, none⟩ (.string ⟨#[]⟩)).setCell ⟨w.heap.size, 3, none⟩ (.slice none 0 0)).setCell ⟨w.heap.size, 4, none⟩ (.int .i64 0)).setCell ⟨w.heap.size, 5, none⟩ (.slice none 0 0)

theorem RdInv.zero {w wr : World} {c : Cmd} {vb vk : Value} (h : RdInv w wr c vb vk) : (laidZero w wr).heap[w.heap.size]? = some (.cells zeroCmd 33 (0, 0)) ∧ Below w.heap.size w (laidZero w wr) :=
  ⟨heap_setCell_same (heap_setCell_same (heap_setCell_same (heap_setCell_same (heap_setCell_same (heap_setCell_same h.res _) _) _) _) _) _,
    (((((h.bl.setCell (by simp) _).setCell (by simp) _).setCell (by simp) _).setCell (by simp) _).setCell (by simp) _).setCell (by simp) _⟩

theorem number_none (t : ByteArray) (h : number t.data.toList = none) : ∀ w, t.size ≤ 140737488355328 → Calls Tryz.prog 56 #[.string t] w fun e w' => e = .returned (.tuple #[.int .i64 0, .bool false]) ∧ w = w' := fun w hs =>
  (number_call t w hs).mono fun _ _ ⟨a, b⟩ => ⟨by rw [a, h]; rfl, b⟩

theorem number_some (t : ByteArray) (x : Int) (h : number t.data.toList = some x) : ∀ w, t.size ≤ 140737488355328 → Calls Tryz.prog 56 #[.string t] w fun e w' => e = .returned (.tuple #[.int .i64 x, .bool true]) ∧ w = w' := fun w hs =>
  (number_call t w hs).mono fun _ _ ⟨a, b⟩ => ⟨by rw [a, h]; rfl, b⟩

theorem argsR_step {k : Int} {form : Bs} {r : List Bs} {j : Nat} {l : Bs} (hl : r[j]? = some l) (c : Cmd) : argsR k form j (r.drop j) c = (stepR k (formAt form j) c l).bind fun c' => argsR k form (j + 1) (r.drop (j + 1)) c' := by
  have hj : j < r.length := (List.getElem?_eq_some_iff.1 hl).1
  rw [List.drop_eq_getElem_cons hj]
  have e : r[j] = l := (List.getElem?_eq_some_iff.1 hl).2
  rw [e]
  rfl

set_option maxRecDepth 100000 in
set_option maxHeartbeats 2000000 in
theorem read_call (A : Option Addr) (c0 : Nat) (h : Bs) (r : List Bs) (w : World) (hS : Strs w A (h :: r)) (hlen : r.length ≤ 70000) (hsz : ∀ l ∈ (h :: r), l.length ≤ 70000) :
    Calls Tryz.prog 26 #[.slice A (r.length + 1) c0] w fun e w' => ReadPost w (readR (h :: r)) e w' := by
  obtain ⟨b, off, rfl, hb, hc⟩ := hS.at_ (by simp)
  obtain ⟨i3, hi3, hx0, hx1, hx2⟩ := info_parts info3
  have hc0 := hc 0 h rfl
  rw [Nat.add_zero] at hc0
  have HC := Lib.hid hc
  have HSZ := Lib.hid hsz
  clear hc hS hsz
  have K := Lib.hid (kind_call ⟨h.toArray⟩)
  rw [toList_mk] at K
  go_enter Tryz.func26, Tryz.ntmps26
  go_wp2_with fail
  refine (K.out _).mono ?_
  rintro e w' ⟨rfl, rfl⟩
  obtain ⟨k, hk⟩ : ∃ k, (kindR h).1 = k := ⟨_, rfl⟩
  obtain ⟨form, hform⟩ : ∃ f, (kindR h).2 = f := ⟨_, rfl⟩
  rw [hk, hform]
  have HK := Lib.hid hk
  have HF := Lib.hid hform
  clear hk hform
  obtain ⟨hs, hhs⟩ : ∃ s : ByteArray, (⟨h.toArray⟩ : ByteArray) = s := ⟨_, rfl⟩
  obtain ⟨fs, hfs⟩ : ∃ s : ByteArray, (⟨form.toArray⟩ : ByteArray) = s := ⟨_, rfl⟩
  rw [hhs] at hc0
  simp only [hhs, hfs]
  have HHS := Lib.hid hhs
  have HFT : Hid (fs.toList = form) := by rw [← hfs, toList_mk]; exact rfl
  have HFD : Hid (fs.data.toList = form) := by rw [← hfs]; exact rfl
  have HFZ : Hid (fs.size = form.length) := by rw [size_list, HFD.out]; exact rfl
  have hf4 : fs.size ≤ 4 := by rw [HFZ.out, ← HF.out]; exact kindR_len h
  clear hhs hfs
  by_cases hk0 : k = 0
  · have t1 : (k == 0) = true := by rw [beq_iff_eq]; exact hk0
    have HR : Hid (readR (h :: r) = .error 221) := by
      simp only [readR, HK.out, hk0, if_true]
      first | exact rfl | trivial
    clear hk0
    go_wp2
    exact bodyPost_ret (v := .tuple #[.agg zeroCmd, .int .i64 221]) (by simp [results, Tryz.results26, go_sem, zeroCmd]) rfl ⟨by go_grown, .inl ⟨221, HR.out, rfl⟩⟩
  · have t1 : (k == 0) = false := by rw [beq_eq_false_iff_ne]; exact hk0
    by_cases hform : form ≠ [42] ∧ r.length + 1 ≠ form.length + 1
    · obtain ⟨hf1, hf2⟩ := hform
      have t2 : (fs.toList == [42]) = false := by rw [HFT.out, beq_eq_false_iff_ne]; exact hf1
      have t3 : ((r.length : Int) + 1 != (fs.size : Int) + 1) = true := by rw [bne_iff_ne, HFZ.out]; omega
      have t4 : ((r.length : Int) == (fs.size : Int)) = false := by rw [beq_eq_false_iff_ne, HFZ.out]; omega
      have HR : Hid (readR (h :: r) = .error 222) := by
        simp only [readR, HK.out, HF.out, if_neg hk0]
        rw [if_pos ⟨hf1, hf2⟩]
        exact rfl
      clear hk0 hf1 hf2
      go_wp2
      exact bodyPost_ret (v := .tuple #[.agg zeroCmd, .int .i64 222]) (by simp [results, Tryz.results26, go_sem, zeroCmd]) rfl ⟨by go_grown, .inl ⟨222, HR.out, rfl⟩⟩
    · have HR : Hid (readR (h :: r) = match argsR k form 0 r (cmd0 h k) with
          | some c => .ok c
          | none => .error 223) := by
        simp only [readR, HK.out, HF.out, if_neg hk0]
        rw [if_neg hform]
        exact rfl
      have hcase : form = [42] ∨ (form ≠ [42] ∧ r.length = form.length) := by
        by_cases e : form = [42]
        · exact .inl e
        · exact .inr ⟨e, by
            rcases Nat.lt_trichotomy r.length form.length with h1 | h1 | h1
            · exact absurd ⟨e, by omega⟩ hform
            · exact h1
            · exact absurd ⟨e, by omega⟩ hform⟩
      clear hform
      have t2 : (fs.toList == [42]) = true ∧ Hid (form = [42]) ∨ (fs.toList == [42]) = false ∧ ((r.length : Int) + 1 != (fs.size : Int) + 1) = false ∧ Hid (form ≠ [42] ∧ r.length = form.length) := by
        rcases hcase with e | ⟨e1, e2⟩
        · exact .inl ⟨by rw [HFT.out, e]; exact rfl, e⟩
        · exact .inr ⟨by rw [HFT.out, beq_eq_false_iff_ne]; exact e1, by rw [bne_eq_false_iff_eq, HFZ.out]; omega, ⟨e1, e2⟩⟩
      clear hcase
      rcases t2 with ⟨t2, HB⟩ | ⟨t2, t3, HB⟩
      · go_wp2
        go_loopw [7] (fun i wr => ∃ (j : Nat) (c : Cmd) (vb vk : Value), i = .int .i64 ((j : Int) + 1) ∧ j ≤ r.length ∧ RdInv w wr c vb vk ∧ c.keep.length ≤ j ∧ Hid (argsR k form j (r.drop j) c = argsR k form 0 r (cmd0 h k))) (fun i _ => r.length + 1 - (intOf i).toNat)
        case atStart =>
          refine ⟨0, cmd0 h k, .slice none 0 0, .slice none 0 0, rfl, by omega, ⟨?_, ?_, by go_grown, RdI.nil _ _ _, World.ownsRow_nil _ _ _ _, by simp, fun h0 => absurd h0 (by simp [cmd0])⟩, by simp [cmd0], Lib.hid rfl⟩
          · rw [Below.heap_alloc _ _ _ (by simp)]
            exact heap_alloc_new w _
          · rw [← HHS.out]
            have := heap_alloc_new (w.alloc (.cells zeroCmd 33)) (.cells (cmdCells (cmd0 h k) (.slice none 0 0) (.slice none 0 0)) 33)
            simpa [zeroCmd, cmdCells, cmd0] using this
        case round =>
          obtain ⟨j, c, vb, vk, rfl, hj, hI, hkl, hsp⟩ := hrel
          obtain ⟨d0, d1, d2, d3, d4, d5⟩ := hI.cells
          obtain ⟨y2, y3, y4, y5⟩ := hI.fzs
          obtain ⟨e0, e1, e2, e3, e4, e5⟩ := hI.rcells
          obtain ⟨z0, z1, z2, z3, z4, z5⟩ := hI.rfzs
          have hz := hI.sz
          by_cases hlt : j < r.length
          · obtain ⟨l, hl⟩ : ∃ l, r[j]? = some l := ⟨_, List.getElem?_eq_getElem hlt⟩
            have hcw := (hI.bl.cell (p := ⟨b, off + (j + 1), none⟩) hb).trans (HC.out (j + 1) l (by simpa using hl))
            have hll := HSZ.out l (by simp [List.mem_of_getElem? hl])
            obtain ⟨t, ht⟩ : ∃ t : ByteArray, (⟨l.toArray⟩ : ByteArray) = t := ⟨_, rfl⟩
            rw [ht] at hcw
            have HTT := Lib.hid ht
            have HTD : Hid (t.data.toList = l) := by rw [← ht]; exact rfl
            have hts : t.size ≤ 70000 := by rw [size_list, HTD.out]; exact hll
            have HL := Lib.hid hl
            have j0 : (0 : Int) ≤ (j : Int) := Int.natCast_nonneg _
            have j1 : (j : Int) < (r.length : Int) := by omega
            have j2 : (j : Int) + 1 < (r.length : Int) + 1 := by omega
            clear ht hl
            have HFA : Hid (formAt form j = 42) := by unfold formAt; rw [if_pos HB.out]; exact rfl
            obtain ⟨o, ho⟩ : ∃ o, number l = o := ⟨_, rfl⟩
            have HO := Lib.hid ho
            have HTO : Hid (number t.data.toList = o) := by rw [HTD.out]; exact ho
            clear ho
            rcases o with _ | x
            · have HST : Hid (stepR k (formAt form j) c l = none) := by
                unfold stepR
                rw [HFA.out, if_neg (by omega), if_neg (by omega), HO.out]
                exact rfl
              have HZ := Lib.hid hI.zero
              have HN := Lib.hid (number_none t HTO.out)
              go_wp2_with fail
              refine (HN.out _ (by omega)).mono ?_
              rintro e w' ⟨rfl, rfl⟩
              have HE : Hid (readR (h :: r) = .error 223) := by
                rw [HR.out, ← hsp.out, argsR_step HL.out, HST.out]
                exact rfl
              go_wp2_with fail
              have q0 := (cell_of_row _ _ 0 _ _ _ HZ.out.1)
              have q1 := (cell_of_row _ _ 1 _ _ _ HZ.out.1)
              have q2 := (cell_of_row _ _ 2 _ _ _ HZ.out.1)
              have q3 := (cell_of_row _ _ 3 _ _ _ HZ.out.1)
              have q4 := (cell_of_row _ _ 4 _ _ _ HZ.out.1)
              have q5 := (cell_of_row _ _ 5 _ _ _ HZ.out.1)
              exact bodyPost_ret (v := .tuple #[.agg zeroCmd, .int .i64 223]) (by unfold laidZero zeroCmd at q0 q1 q2 q3 q4 q5; simp [results, Tryz.results26, go_sem, zeroCmd, q0, q1, q2, q3, q4, q5]) rfl ⟨HZ.out.2, .inl ⟨223, HE.out, rfl⟩⟩
            · have HST : Hid (stepR k (formAt form j) c l = some { c with keep := c.keep ++ [x] }) := by
                unfold stepR
                rw [HFA.out, if_neg (by omega), if_neg (by omega), HO.out]
                exact congrArg some (if_pos (.inl rfl))
              have HN := Lib.hid (number_some t x HTO.out)
              go_wp2_with fail
              refine (HN.out _ (by omega)).mono ?_
              rintro e w' ⟨rfl, rfl⟩
              obtain ⟨Ak, ck, rfl⟩ := own_form hI.rk
              have HI := Lib.hid hI
              go_wp2_with (at_builtin; refine wpList_app rfl (.tmp 72) (.tmp 74) 29 rfl (w.heap.size + 2) 3 i3 _ 1 8 Tryz.underlying29 hi3 hx0 hx1 hx2 rfl (by decide) _ c.keep.length (c.keep.map (Value.int .i64)) rfl (HI.out.rk.alloc _) (some ⟨wr.heap.size, 0, none⟩) 1 1 [.int .i64 x] rfl (src_new1 _ _ _) (by simp [Value.oneCell']) (by unfold maxLen; omega) (by omega) (by first | (simp; done) | (simp; omega)) ?_; intro v6 w6 hown6 hgrow6 hat6; obtain ⟨A6, k6, rfl⟩ := own_form hown6; have HKP := Lib.hid (HI.out.kep hgrow6 hat6 hown6); obtain ⟨kx1, kx2⟩ := HI.out.kbox hgrow6)
              refine ⟨⟨j + 1, _, vb, _, by go_num, by omega, HKP.out, by simp; omega, Lib.hid ?_⟩, by simp [intOf]; omega⟩
              rw [← hsp.out, argsR_step HL.out, HST.out]
              exact rfl
          · have t9 : decide ((j : Int) + 1 < (r.length : Int) + 1) = false := decide_eq_false (by omega)
            have HR2 : Hid (readR (h :: r) = .ok c) := by
              have e := hsp.out
              rw [List.drop_eq_nil_of_le (by omega)] at e
              rw [HR.out, ← e]
              exact rfl
            obtain ⟨Ab, cb, rfl, _⟩ := hI.rb
            obtain ⟨Ak, ck, rfl⟩ := own_form hI.rk
            obtain ⟨f1, f2, f3, f4⟩ := hI.fin
            have HFin := Lib.hid f1
            clear f1
            go_wp2
            have q0 := (cell_of_row _ _ 0 _ _ _ HFin.out)
            have q1 := (cell_of_row _ _ 1 _ _ _ HFin.out)
            have q2 := (cell_of_row _ _ 2 _ _ _ HFin.out)
            have q3 := (cell_of_row _ _ 3 _ _ _ HFin.out)
            have q4 := (cell_of_row _ _ 4 _ _ _ HFin.out)
            have q5 := (cell_of_row _ _ 5 _ _ _ HFin.out)
            exact bodyPost_ret (v := .tuple #[.agg (cmdCells c (.slice Ab c.bytes.length cb) (.slice Ak c.keep.length ck)), .int .i64 0]) (by unfold laidRes cmdCells at q0 q1 q2 q3 q4 q5; simp [results, Tryz.results26, go_sem, cmdCells, q0, q1, q2, q3, q4, q5]) rfl ⟨f2, .inr ⟨c, _, _, HR2.out, rfl, f3, f4⟩⟩
      · go_wp2
        go_loopw [7] (fun i wr => ∃ (j : Nat) (c : Cmd) (vb vk : Value), i = .int .i64 ((j : Int) + 1) ∧ j ≤ r.length ∧ RdInv w wr c vb vk ∧ c.keep.length ≤ j ∧ Hid (argsR k form j (r.drop j) c = argsR k form 0 r (cmd0 h k))) (fun i _ => r.length + 1 - (intOf i).toNat)
        case atStart =>
          refine ⟨0, cmd0 h k, .slice none 0 0, .slice none 0 0, rfl, by omega, ⟨?_, ?_, by go_grown, RdI.nil _ _ _, World.ownsRow_nil _ _ _ _, by simp, fun h0 => absurd h0 (by simp [cmd0])⟩, by simp [cmd0], Lib.hid rfl⟩
          · rw [Below.heap_alloc _ _ _ (by simp)]
            exact heap_alloc_new w _
          · rw [← HHS.out]
            have := heap_alloc_new (w.alloc (.cells zeroCmd 33)) (.cells (cmdCells (cmd0 h k) (.slice none 0 0) (.slice none 0 0)) 33)
            simpa [zeroCmd, cmdCells, cmd0] using this
        case round =>
          obtain ⟨j, c, vb, vk, rfl, hj, hI, hkl, hsp⟩ := hrel
          obtain ⟨d0, d1, d2, d3, d4, d5⟩ := hI.cells
          obtain ⟨y2, y3, y4, y5⟩ := hI.fzs
          obtain ⟨e0, e1, e2, e3, e4, e5⟩ := hI.rcells
          obtain ⟨z0, z1, z2, z3, z4, z5⟩ := hI.rfzs
          have hz := hI.sz
          by_cases hlt : j < r.length
          · obtain ⟨l, hl⟩ : ∃ l, r[j]? = some l := ⟨_, List.getElem?_eq_getElem hlt⟩
            have hcw := (hI.bl.cell (p := ⟨b, off + (j + 1), none⟩) hb).trans (HC.out (j + 1) l (by simpa using hl))
            have hll := HSZ.out l (by simp [List.mem_of_getElem? hl])
            obtain ⟨t, ht⟩ : ∃ t : ByteArray, (⟨l.toArray⟩ : ByteArray) = t := ⟨_, rfl⟩
            rw [ht] at hcw
            have HTT := Lib.hid ht
            have HTD : Hid (t.data.toList = l) := by rw [← ht]; exact rfl
            have hts : t.size ≤ 70000 := by rw [size_list, HTD.out]; exact hll
            have HL := Lib.hid hl
            have j0 : (0 : Int) ≤ (j : Int) := Int.natCast_nonneg _
            have j1 : (j : Int) < (r.length : Int) := by omega
            have j2 : (j : Int) + 1 < (r.length : Int) + 1 := by omega
            clear ht hl
            obtain ⟨n, hn⟩ : ∃ n, fs[j]'(by rw [HFZ.out, ← HB.out.2]; exact hlt) = n := ⟨_, rfl⟩
            have hjf : j < fs.size := by rw [HFZ.out, ← HB.out.2]; exact hlt
            have HFA : Hid (formAt form j = (n.toNat : Int)) := by
              unfold formAt
              rw [if_neg HB.out.1, ← hn, get_list, List.getD_eq_getElem?_getD]
              have e : form[j]? = some (fs.data.toList[j]'(by rw [← size_list]; exact hjf)) := by
                rw [← HFD.out, List.getElem?_eq_getElem]
              rw [e]
              exact rfl
            obtain ⟨f, hf⟩ : ∃ f, n.toNat = f := ⟨_, rfl⟩
            rw [hf] at HFA
            have jf : (j : Int) < (fs.size : Int) := by omega
            by_cases h105 : f = 105
            · have t5 : ((f : Int) == 105) = true := by rw [beq_iff_eq]; omega
              have HFB : Hid (formAt form j = 105) := by rw [HFA.out]; exact congrArg Nat.cast h105
              clear h105
              have HID := Lib.hid (id_call t)
              obtain ⟨bb, hbb⟩ : ∃ x, isId l = x := ⟨_, rfl⟩
              have HBB := Lib.hid hbb
              have HTO : Hid (isId t.data.toList = bb) := by rw [HTD.out]; exact hbb
              clear hbb
              go_wp2_with fail
              refine (HID.out _ (by omega)).mono ?_
              rintro e w' ⟨rfl, rfl⟩
              rw [HTO.out]
              cases bb
              · have HST : Hid (stepR k (formAt form j) c l = none) := by
                  unfold stepR
                  rw [HFB.out, if_pos rfl, HBB.out]
                  exact rfl
                have HZ := Lib.hid hI.zero
                have HE : Hid (readR (h :: r) = .error 223) := by
                  rw [HR.out, ← hsp.out, argsR_step HL.out, HST.out]
                  exact rfl
                go_wp2_with fail
                have q0 := (cell_of_row _ _ 0 _ _ _ HZ.out.1)
                have q1 := (cell_of_row _ _ 1 _ _ _ HZ.out.1)
                have q2 := (cell_of_row _ _ 2 _ _ _ HZ.out.1)
                have q3 := (cell_of_row _ _ 3 _ _ _ HZ.out.1)
                have q4 := (cell_of_row _ _ 4 _ _ _ HZ.out.1)
                have q5 := (cell_of_row _ _ 5 _ _ _ HZ.out.1)
                exact bodyPost_ret (v := .tuple #[.agg zeroCmd, .int .i64 223]) (by unfold laidZero zeroCmd at q0 q1 q2 q3 q4 q5; simp [results, Tryz.results26, go_sem, zeroCmd, q0, q1, q2, q3, q4, q5]) rfl ⟨HZ.out.2, .inl ⟨223, HE.out, rfl⟩⟩
              · have HST : Hid (stepR k (formAt form j) c l = some { c with id := l }) := by
                  unfold stepR
                  rw [HFB.out, if_pos rfl, HBB.out]
                  exact rfl
                have hNI := hI.id l
                rw [HTT.out] at hNI
                have HNI := Lib.hid hNI
                clear hNI
                go_wp2_with fail
                refine ⟨⟨j + 1, _, vb, vk, by go_num, by omega, HNI.out, by simpa using Nat.le_succ_of_le hkl, Lib.hid ?_⟩, by simp [intOf]; omega⟩
                rw [← hsp.out, argsR_step HL.out, HST.out]
                exact rfl
            · by_cases h104 : f = 104
              · have t5 : ((f : Int) == 105) = false := by rw [beq_eq_false_iff_ne]; omega
                have t6 : ((f : Int) == 104) = true := by rw [beq_iff_eq]; omega
                have HFB : Hid (formAt form j = 104) := by rw [HFA.out]; exact congrArg Nat.cast h104
                clear h104 h105
                have HUN := Lib.hid (unhex_call t)
                obtain ⟨o, ho⟩ : ∃ x, unhex l = x := ⟨_, rfl⟩
                have HO := Lib.hid ho
                have HTO : Hid (unhex t.data.toList = o) := by rw [HTD.out]; exact ho
                clear ho
                go_wp2_with fail
                refine (HUN.out _ (by omega)).mono ?_
                rintro e w6 ⟨hb6, hcase⟩
                rw [HTO.out] at hcase
                rcases hcase with ⟨rfl, rfl⟩ | ⟨bl, A6, c6, rfl, rfl, ho6⟩
                · have HST : Hid (stepR k (formAt form j) c l = none) := by
                    unfold stepR
                    rw [HFB.out, if_neg (by omega), if_pos rfl, HO.out]
                    exact rfl
                  have hI6 := hI.below hb6
                  have HZ := Lib.hid hI6.zero
                  obtain ⟨e0, e1, e2, e3, e4, e5⟩ := hI6.rcells
                  obtain ⟨z0, z1, z2, z3, z4, z5⟩ := hI6.rfzs
                  have HE : Hid (readR (h :: r) = .error 223) := by
                    rw [HR.out, ← hsp.out, argsR_step HL.out, HST.out]
                    exact rfl
                  go_wp2_with fail
                  have q0 := (cell_of_row _ _ 0 _ _ _ HZ.out.1)
                  have q1 := (cell_of_row _ _ 1 _ _ _ HZ.out.1)
                  have q2 := (cell_of_row _ _ 2 _ _ _ HZ.out.1)
                  have q3 := (cell_of_row _ _ 3 _ _ _ HZ.out.1)
                  have q4 := (cell_of_row _ _ 4 _ _ _ HZ.out.1)
                  have q5 := (cell_of_row _ _ 5 _ _ _ HZ.out.1)
                  exact bodyPost_ret (v := .tuple #[.agg zeroCmd, .int .i64 223]) (by unfold laidZero zeroCmd at q0 q1 q2 q3 q4 q5; simp [results, Tryz.results26, go_sem, zeroCmd, q0, q1, q2, q3, q4, q5]) rfl ⟨HZ.out.2, .inl ⟨223, HE.out, rfl⟩⟩
                · have HST : Hid (stepR k (formAt form j) c l = some { c with bytes := bl }) := by
                    unfold stepR
                    rw [HFB.out, if_neg (by omega), if_pos rfl, HO.out]
                    exact rfl
                  have hI6 := hI.below hb6
                  obtain ⟨g0, g1, g2, g3, g4, g5⟩ := hI6.cells
                  obtain ⟨p2, p3, p4, p5⟩ := hI6.fzs
                  have HNI := Lib.hid (hI.byt hb6 ho6)
                  go_wp2_with fail
                  refine ⟨⟨j + 1, _, _, vk, by go_num, by omega, HNI.out, by simpa using Nat.le_succ_of_le hkl, Lib.hid ?_⟩, by simp [intOf]; omega⟩
                  rw [← hsp.out, argsR_step HL.out, HST.out]
                  exact rfl
              · have t5 : ((f : Int) == 105) = false := by rw [beq_eq_false_iff_ne]; omega
                have t6 : ((f : Int) == 104) = false := by rw [beq_eq_false_iff_ne]; omega
                obtain ⟨o, ho⟩ : ∃ o, number l = o := ⟨_, rfl⟩
                have HO := Lib.hid ho
                have HTO : Hid (number t.data.toList = o) := by rw [HTD.out]; exact ho
                clear ho
                rcases o with _ | x
                · have HST : Hid (stepR k (formAt form j) c l = none) := by
                    unfold stepR
                    rw [HFA.out, if_neg (by omega), if_neg (by omega), HO.out]
                    exact rfl
                  clear h104 h105
                  have HZ := Lib.hid hI.zero
                  have HN := Lib.hid (number_none t HTO.out)
                  go_wp2_with fail
                  refine (HN.out _ (by omega)).mono ?_
                  rintro e w' ⟨rfl, rfl⟩
                  have HE : Hid (readR (h :: r) = .error 223) := by
                    rw [HR.out, ← hsp.out, argsR_step HL.out, HST.out]
                    exact rfl
                  go_wp2_with fail
                  have q0 := (cell_of_row _ _ 0 _ _ _ HZ.out.1)
                  have q1 := (cell_of_row _ _ 1 _ _ _ HZ.out.1)
                  have q2 := (cell_of_row _ _ 2 _ _ _ HZ.out.1)
                  have q3 := (cell_of_row _ _ 3 _ _ _ HZ.out.1)
                  have q4 := (cell_of_row _ _ 4 _ _ _ HZ.out.1)
                  have q5 := (cell_of_row _ _ 5 _ _ _ HZ.out.1)
                  exact bodyPost_ret (v := .tuple #[.agg zeroCmd, .int .i64 223]) (by unfold laidZero zeroCmd at q0 q1 q2 q3 q4 q5; simp [results, Tryz.results26, go_sem, zeroCmd, q0, q1, q2, q3, q4, q5]) rfl ⟨HZ.out.2, .inl ⟨223, HE.out, rfl⟩⟩
                · have HN := Lib.hid (number_some t x HTO.out)
                  go_wp2_with fail
                  refine (HN.out _ (by omega)).mono ?_
                  rintro e w' ⟨rfl, rfl⟩
                  by_cases h42 : f = 42
                  · have t7 : ((f : Int) == 42) = true := by rw [beq_iff_eq]; omega
                    have HST : Hid (stepR k (formAt form j) c l = some { c with keep := c.keep ++ [x] }) := by
                      unfold stepR
                      rw [HFA.out, if_neg (by omega), if_neg (by omega), HO.out]
                      exact congrArg some (if_pos (.inl (by omega)))
                    clear h104 h105 h42
                    obtain ⟨Ak, ck, rfl⟩ := own_form hI.rk
                    have HI := Lib.hid hI
                    go_wp2_with (at_builtin; refine wpList_app rfl (.tmp 72) (.tmp 74) 29 rfl (w.heap.size + 2) 3 i3 _ 1 8 Tryz.underlying29 hi3 hx0 hx1 hx2 rfl (by decide) _ c.keep.length (c.keep.map (Value.int .i64)) rfl (HI.out.rk.alloc _) (some ⟨wr.heap.size, 0, none⟩) 1 1 [.int .i64 x] rfl (src_new1 _ _ _) (by simp [Value.oneCell']) (by unfold maxLen; omega) (by omega) (by first | (simp; done) | (simp; omega)) ?_; intro v6 w6 hown6 hgrow6 hat6; obtain ⟨A6, k6, rfl⟩ := own_form hown6; have HKP := Lib.hid (HI.out.kep hgrow6 hat6 hown6); obtain ⟨kx1, kx2⟩ := HI.out.kbox hgrow6)
                    refine ⟨⟨j + 1, _, vb, _, by go_num, by omega, HKP.out, by simp; omega, Lib.hid ?_⟩, by simp [intOf]; omega⟩
                    rw [← hsp.out, argsR_step HL.out, HST.out]
                    exact rfl
                  · have t7 : ((f : Int) == 42) = false := by rw [beq_eq_false_iff_ne]; omega
                    by_cases h14 : k = 14
                    · have t8 : (k == 14) = true := by rw [beq_iff_eq]; exact h14
                      have HST : Hid (stepR k (formAt form j) c l = some { c with keep := c.keep ++ [x] }) := by
                        unfold stepR
                        rw [HFA.out, if_neg (by omega), if_neg (by omega), HO.out]
                        exact congrArg some (if_pos (.inr h14))
                      clear h104 h105 h42 h14
                      obtain ⟨Ak, ck, rfl⟩ := own_form hI.rk
                      have HI := Lib.hid hI
                      go_wp2_with (at_builtin; refine wpList_app rfl (.tmp 72) (.tmp 74) 29 rfl (w.heap.size + 2) 3 i3 _ 1 8 Tryz.underlying29 hi3 hx0 hx1 hx2 rfl (by decide) _ c.keep.length (c.keep.map (Value.int .i64)) rfl (HI.out.rk.alloc _) (some ⟨wr.heap.size, 0, none⟩) 1 1 [.int .i64 x] rfl (src_new1 _ _ _) (by simp [Value.oneCell']) (by unfold maxLen; omega) (by omega) (by first | (simp; done) | (simp; omega)) ?_; intro v6 w6 hown6 hgrow6 hat6; obtain ⟨A6, k6, rfl⟩ := own_form hown6; have HKP := Lib.hid (HI.out.kep hgrow6 hat6 hown6); obtain ⟨kx1, kx2⟩ := HI.out.kbox hgrow6)
                      refine ⟨⟨j + 1, _, vb, _, by go_num, by omega, HKP.out, by simp; omega, Lib.hid ?_⟩, by simp [intOf]; omega⟩
                      rw [← hsp.out, argsR_step HL.out, HST.out]
                      exact rfl
                    · have t8 : (k == 14) = false := by rw [beq_eq_false_iff_ne]; exact h14
                      have HST : Hid (stepR k (formAt form j) c l = some { c with n := x }) := by
                        unfold stepR
                        rw [HFA.out, if_neg (by omega), if_neg (by omega), HO.out]
                        exact congrArg some (if_neg (by omega))
                      clear h104 h105 h42 h14
                      have HNM := Lib.hid (hI.num x)
                      go_wp2_with fail
                      refine ⟨⟨j + 1, _, vb, vk, by go_num, by omega, HNM.out, by simpa using Nat.le_succ_of_le hkl, Lib.hid ?_⟩, by simp [intOf]; omega⟩
                      rw [← hsp.out, argsR_step HL.out, HST.out]
                      exact rfl
          · have t9 : decide ((j : Int) + 1 < (r.length : Int) + 1) = false := decide_eq_false (by omega)
            have HR2 : Hid (readR (h :: r) = .ok c) := by
              have e := hsp.out
              rw [List.drop_eq_nil_of_le (by omega)] at e
              rw [HR.out, ← e]
              exact rfl
            obtain ⟨Ab, cb, rfl, _⟩ := hI.rb
            obtain ⟨Ak, ck, rfl⟩ := own_form hI.rk
            obtain ⟨f1, f2, f3, f4⟩ := hI.fin
            have HFin := Lib.hid f1
            clear f1
            go_wp2
            have q0 := (cell_of_row _ _ 0 _ _ _ HFin.out)
            have q1 := (cell_of_row _ _ 1 _ _ _ HFin.out)
            have q2 := (cell_of_row _ _ 2 _ _ _ HFin.out)
            have q3 := (cell_of_row _ _ 3 _ _ _ HFin.out)
            have q4 := (cell_of_row _ _ 4 _ _ _ HFin.out)
            have q5 := (cell_of_row _ _ 5 _ _ _ HFin.out)
            exact bodyPost_ret (v := .tuple #[.agg (cmdCells c (.slice Ab c.bytes.length cb) (.slice Ak c.keep.length ck)), .int .i64 0]) (by unfold laidRes cmdCells at q0 q1 q2 q3 q4 q5; simp [results, Tryz.results26, go_sem, cmdCells, q0, q1, q2, q3, q4, q5]) rfl ⟨f2, .inr ⟨c, _, _, HR2.out, rfl, f3, f4⟩⟩
end Go.Proofs.YtlibjfmafpiopaaGreatDoor
