/- The program's reading of a line: the contract. -/
import Derived.Test.YtlibjfmafpiopaaGreatDoorRead
import Derived.Test.YtlibjfmafpiopaaGreatDoorSeqW
import Derived.StillTailTactics
import Derived.Deep.DeepCutAuto
namespace Go.Proofs.YtlibjfmafpiopaaGreatDoor
open Go.RowKit Go.Shelf Scr
attribute [local go_sem] Oper.semAt_some

/-- What the range over a line's words keeps. -/
structure ReadI (w W : World) (pre : List Bs) : Prop where
  res : W.heap[w.heap.size]? = some (.cells zeroCmd 33 (0, 0))
  row : ∃ v, W.heap[w.heap.size + 1]? = some (.cells #[v] 42 (0, 0)) ∧ W.ownsRow (w.heap.size + 11) 9 1 v pre.length (sv pre)
  bl : Below w.heap.size w W

theorem ReadI.abz (w : World) : AbZ (fun r => w.heap.size + 4 ≤ r ∧ r ≤ w.heap.size + 10) (fun (pre : List Bs) W => ReadI w W pre) := fun s A B row hs hg hr => by
  obtain ⟨h1, ⟨v, h2, h3⟩, h4⟩ := hs
  have hl1 := (Array.getElem?_eq_some_iff.1 h1).1
  have hl2 := (Array.getElem?_eq_some_iff.1 h2).1
  have hk : ∀ b, b < A.heap.size → (b < w.heap.size + 4 ∨ w.heap.size + 10 < b) → B.heap[b]? = A.heap[b]? := fun b hb h => hg.block b hb (fun e => by have := hr b e.symm; omega)
  exact ⟨(hk _ hl1 (by omega)).trans h1, ⟨v, (hk _ hl2 (by omega)).trans h2, own_keep h3 fun b hb hlt => hk b hlt (by omega)⟩,
    h4.trans ⟨hg.os, hg.tape, hg.output, hg.size, fun b hb => hk b (by have := h4.size; omega) (by omega)⟩⟩

theorem ReadI.snoc {w W W6 : World} {pre : List Bs} {x : Bs} {v v6 : Value} (h1 : W.heap[w.heap.size]? = some (.cells zeroCmd 33 (0, 0))) (h2 : W.heap[w.heap.size + 1]? = some (.cells #[v] 42 (0, 0)))
    (h3 : W.ownsRow (w.heap.size + 11) 9 1 v pre.length (sv pre)) (hbl : Below w.heap.size w W) (hsz : w.heap.size + 11 ≤ W.heap.size) {o : Obj} (hg : (W.alloc o).grownBy W6 v.ownBlock)
    (ho : W6.ownsRow (w.heap.size + 11) 9 1 v6 (pre.length + 1) (sv pre ++ [.string ⟨x.toArray⟩])) :
    (∀ r, (r = w.heap.size + 4 ∨ r = w.heap.size + 3 ∨ w.heap.size + 5 ≤ r ∧ r ≤ w.heap.size + 10) → r < W.heap.size → (W6.setCell ⟨w.heap.size + 1, 0, none⟩ v6).heap[r]? = W.heap[r]?) ∧ W.heap.size ≤ (W6.setCell ⟨w.heap.size + 1, 0, none⟩ v6).heap.size ∧
      ReadI w (W6.setCell ⟨w.heap.size + 1, 0, none⟩ v6) (pre ++ [x]) := by
  have hs := hg.size
  simp at hs
  have hob : ∀ b, v.ownBlock = some b → w.heap.size + 11 ≤ b := fun b e => own_blk h3 e
  have blk : ∀ b, b < w.heap.size + 11 → W6.heap[b]? = W.heap[b]? := fun b hb => (hg.block b (by simp; omega) (fun e => by have := hob b e.symm; omega)).trans (Below.heap_alloc _ _ _ (by omega))
  have set : ∀ b, b ≠ w.heap.size + 1 → (W6.setCell ⟨w.heap.size + 1, 0, none⟩ v6).heap[b]? = W6.heap[b]? := fun b hb => Below.heap_setCell _ _ _ _ (by simpa using hb)
  refine ⟨fun r hr hl => (set r (by omega)).trans (blk r (by omega)), by simp; omega, ⟨(set _ (by omega)).trans ((blk _ (by omega)).trans h1), ⟨v6, ?_, ?_⟩, ?_⟩⟩
  · exact heap_setCell_same ((blk _ (by omega)).trans h2) v6
  · rw [sv_snoc, List.length_append]
    exact own_set ho (by simp) _
  · exact (hbl.trans ⟨hg.os, hg.tape, hg.output, by omega, fun b hb => blk b (by have := hbl.size; omega)⟩).setCell (by simp) _

theorem ReadI.sbox {w W W6 : World} {pre : List Bs} {v : Value} (h2 : W.heap[w.heap.size + 1]? = some (.cells #[v] 42 (0, 0)))
    (h3 : W.ownsRow (w.heap.size + 11) 9 1 v pre.length (sv pre)) (hsz : w.heap.size + 11 ≤ W.heap.size) {o : Obj} (hg : (W.alloc o).grownBy W6 v.ownBlock) : W6.heap[w.heap.size + 1]? = some (.cells #[v] 42 (0, 0)) :=
  ((hg.block _ (by simp; omega) (fun e => by have := own_blk h3 e.symm; omega)).trans (Below.heap_alloc _ _ _ (by omega))).trans h2

/-- Six values laid over a block's cells. -/
def laid6 (w : World) (B : Nat) (v0 v1 v2 v3 v4 v5 : Value) : World :=
  (((((w.setCell ⟨B, 0, none⟩ v0).setCell ⟨B, 1, none⟩ v1).setCell ⟨B, 2, none⟩ v2).setCell ⟨B, 3, none⟩ v3).setCell ⟨B, 4, none⟩ v4).setCell ⟨B, 5, none⟩ v5

theorem laid6_spec {w : World} {B : Nat} {u0 u1 u2 u3 u4 u5 : Value} {t : TypeId} {fr : Nat × Nat} (h : w.heap[B]? = some (.cells #[u0, u1, u2, u3, u4, u5] t fr)) (v0 v1 v2 v3 v4 v5 : Value) :
    (laid6 w B v0 v1 v2 v3 v4 v5).heap[B]? = some (.cells #[v0, v1, v2, v3, v4, v5] t fr) ∧ ∀ K, FrameB B K w (laid6 w B v0 v1 v2 v3 v4 v5) :=
  ⟨heap_setCell_same (heap_setCell_same (heap_setCell_same (heap_setCell_same (heap_setCell_same (heap_setCell_same h _) _) _) _) _) _,
    fun K => ((((((FrameB.refl B K w).set _ _).set _ _).set _ _).set _ _).set _ _).set _ _⟩

theorem FrameB.drew {B K : Nat} {w w' : World} (h : FrameB B K w w') : FrameB B K w w'.drew := ⟨h.os, h.tape, h.output, h.size, h.block⟩

theorem laid6_drew {w : World} {B : Nat} {u0 u1 u2 u3 u4 u5 : Value} {t : TypeId} {fr : Nat × Nat} (h : w.heap[B]? = some (.cells #[u0, u1, u2, u3, u4, u5] t fr)) (v0 v1 v2 v3 v4 v5 : Value) :
    (laid6 w B v0 v1 v2 v3 v4 v5).drew.heap[B]? = some (.cells #[v0, v1, v2, v3, v4, v5] t fr) ∧ ∀ K, FrameB B K w (laid6 w B v0 v1 v2 v3 v4 v5).drew := by
  obtain ⟨h1, h2⟩ := laid6_spec h v0 v1 v2 v3 v4 v5
  generalize laid6 w B v0 v1 v2 v3 v4 v5 = wz at h1 h2
  exact ⟨h1, fun K => (h2 K).drew⟩

theorem FrameB.cell {B K : Nat} {w w' : World} (h : FrameB B K w w') {p : Addr} (hp : p.block < K) (hn : p.block ≠ B) : w'.cell? p = w.cell? p := World.cell?_of_block (h.block _ hp hn)
theorem FrameB.below {B K N : Nat} {w w' : World} (h : FrameB B K w w') (hB : N ≤ B) (hK : N ≤ K) : Below N w w' := ⟨h.os, h.tape, h.output, h.size, fun r hr => h.block r (by omega) (by omega)⟩

theorem rdi_laid6 {k : IntKind} {w : World} {B K : Nat} {v : Value} {xs : List Int} (h : RdI k w K v xs) (hB : B < K) (v0 v1 v2 v3 v4 v5 : Value) : RdI k (laid6 w B v0 v1 v2 v3 v4 v5) K v xs :=
  (((((h.set hB _).set hB _).set hB _).set hB _).set hB _).set hB _

theorem stepS_keep {f : Int} {c c' : Cmd} {l : Bs} (h : stepS f c l = some c') : c'.keep.length ≤ c.keep.length + 1 := by
  unfold stepS at h
  split at h
  · split at h
    · cases h; exact Nat.le_succ _
    · cases h
  · split at h
    · cases hu : unhex l with
      | none => rw [hu] at h; cases h
      | some b => rw [hu] at h; cases h; exact Nat.le_succ _
    · split at h
      · cases hu : number l with
        | none => rw [hu] at h; cases h
        | some b => rw [hu] at h; cases h; exact Nat.le_succ _
      · cases hu : number l with
        | none => rw [hu] at h; cases h
        | some b => rw [hu] at h; cases h; simp

/-- The end of a function that held one range over a function. -/
theorem leaves_one {fn : Func} {tmps : Array Value} {R : Ending → World → Prop} {D : Nat} {W : World} {v : Value} (hK : W.heap[D]? = some (.deferred (some [])))
    (hr : (results fn tmps).run Tryz.prog (W.putObj D (.deferred none)) = .ok v (W.putObj D (.deferred none))) (hR : R (.returned v) (W.putObj D (.deferred none))) :
    LeavesInM Fence.wide 100 Tryz.prog fn tmps R [{ target := .collected D, args := #[] }] .returning W :=
  ⟨by simp, .inl ⟨_, _, rfl, run_takeDeferred hK, ⟨_, hr, hR⟩⟩⟩

theorem plus3 (n : Nat) : n + 3 ≠ n := by omega
theorem le3 (n : Nat) : n ≤ n + 3 := by omega

theorem below_put {N D : Nat} {w wz : World} (h : Below N w wz) (hD : N ≤ D) (o : Obj) : Below N w (wz.putObj D o) :=
  ⟨h.os, h.tape, h.output, by simpa using h.size, fun r hr => (World.putObj_heap_other (by omega)).trans (h.block r hr)⟩

theorem RdI.put {k : IntKind} {w : World} {lo : Nat} {v : Value} {xs : List Int} (h : RdI k w lo v xs) {D : Nat} {d : Option (List Deferred)} (hd : w.heap[D]? = some (.deferred d)) (o : Obj) : RdI k (w.putObj D o) lo v xs := by
  obtain ⟨A, c, e, hf⟩ := h
  refine ⟨A, c, e, fun h0 => ?_⟩
  obtain ⟨b, e, hl, hlt, hc⟩ := hf h0
  have hne : b ≠ D := fun e => by
    subst e
    have := hc.1 0 h0
    simp [World.cell?, hd] at this
  exact ⟨b, e, hl, by simpa using hlt, fun j hj => (World.cell?_of_block (a := ⟨b, j, none⟩) (World.putObj_heap_other hne)).trans (hc.1 j hj), fun j => (World.frozen?_of_block (a := ⟨b, j, none⟩) (World.putObj_heap_other hne)).trans (hc.2 j)⟩

theorem read_end {N D : Nat} {wz : World} {tm : Array Value} {ev v0 v1 v2 v3 v4 v5 : Value} {R : Ending → World → Prop} (hres : wz.heap[N]? = some (.cells #[v0, v1, v2, v3, v4, v5] 33 (0, 0)))
    (hdk : wz.heap[D]? = some (.deferred (some []))) (hD : D ≠ N) (t2 : tm[2]?.getD undef = .pointer (some ⟨N, 0, none⟩)) (t3 : tm[3]?.getD undef = ev)
    (hR : R (.returned (.tuple #[.agg #[v0, v1, v2, v3, v4, v5], ev])) (wz.putObj D (.deferred none))) :
    bodyPostM Fence.wide 100 Tryz.prog Tryz.f50 R .ret { tmps := tm, defers := [{ target := .collected D, args := #[] }] } wz := by
  have hres' : (wz.putObj D (.deferred none)).heap[N]? = some (.cells #[v0, v1, v2, v3, v4, v5] 33 (0, 0)) := (World.putObj_heap_other (Ne.symm hD)).trans hres
  have q0 := (cell_of_row _ _ 0 _ _ _ hres')
  have q1 := (cell_of_row _ _ 1 _ _ _ hres')
  have q2 := (cell_of_row _ _ 2 _ _ _ hres')
  have q3 := (cell_of_row _ _ 3 _ _ _ hres')
  have q4 := (cell_of_row _ _ 4 _ _ _ hres')
  have q5 := (cell_of_row _ _ 5 _ _ _ hres')
  generalize hw : wz.putObj D (.deferred none) = wp at q0 q1 q2 q3 q4 q5 hres' hR
  refine leaves_one (v := .tuple #[.agg #[v0, v1, v2, v3, v4, v5], ev]) hdk ?_ (by rw [hw]; exact hR)
  rw [hw]
  simp [results, Tryz.results50, go_sem, q0, q1, q2, q3, q4, q5, t2, t3]

/-- What 'read' answers. -/
def ReadPostS (a0 a1 a3 : Addr) (w : World) (o : Except Int Cmd) (e : Ending) (w' : World) : Prop :=
  Below w.heap.size w w' ∧ ((∃ x a, o = .error x ∧ errAt a0 a1 a3 x a ∧ e = .returned (.tuple #[.agg zeroCmd, .iface 200 (.pointer (some a))])) ∨
    ∃ c vb vk, o = .ok c ∧ e = .returned (.tuple #[.agg (cmdCells c vb vk), .nilIface]) ∧ RdI .u8 w' w.heap.size vb c.bytes ∧ RdI .i64 w' w.heap.size vk c.keep)

/-- What lives between the range and the end. -/
structure Live (w wx : World) (D b2 o2 cap : Nat) (W : List Bs) : Prop where
  bl : Below w.heap.size w wx
  row : wx.cell? ⟨w.heap.size + 1, 0, none⟩ = some (.slice (some ⟨b2, o2, none⟩) W.length cap)
  strs : ∀ j l, W[j]? = some l → wx.cell? ⟨b2, o2 + j, none⟩ = some (.string ⟨l.toArray⟩)
  dk : wx.heap[D]? = some (.deferred (some []))
  b2n : w.heap.size < b2 ∧ b2 < wx.heap.size
  dn : w.heap.size < D ∧ D < wx.heap.size
  rn : w.heap.size + 1 < wx.heap.size

theorem Live.frame {w wx wy : World} {D b2 o2 cap K : Nat} {W : List Bs} (h : Live w wx D b2 o2 cap W) (hK : wx.heap.size ≤ K) (hf : FrameB w.heap.size K wx wy) : Live w wy D b2 o2 cap W := by
  have hz := hf.size
  obtain ⟨q1, q2⟩ := h.b2n
  obtain ⟨q3, q4⟩ := h.dn
  have q5 := h.rn
  have q6 := h.bl.size
  exact ⟨h.bl.trans (hf.below (Nat.le_refl _) (by omega)), (hf.cell (by simp; omega) (by simp)).trans h.row, fun j l hl => (hf.cell (by simp; omega) (by simp; omega)).trans (h.strs j l hl),
    (hf.block _ (by omega) (by omega)).trans h.dk, ⟨q1, by omega⟩, ⟨q3, by omega⟩, by omega⟩

theorem Live.below {w wx wy : World} {D b2 o2 cap : Nat} {W : List Bs} (h : Live w wx D b2 o2 cap W) (hb : Below wx.heap.size wx wy) : Live w wy D b2 o2 cap W :=
  h.frame (Nat.le_refl _) (FrameB.of hb (Nat.le_refl _))

theorem src_new1c (w : World) (u : Value) (t : TypeId) (j : Nat) (v : Value) (h : [u][j]? = some v) : (w.alloc (.cells #[u] t)).cell? ((⟨w.heap.size, 0, none⟩ : Addr).add j) = some v := by
  obtain ⟨ad, e, hc⟩ := (src_new1 w u t).at_ (by omega)
  cases e
  exact hc j v h

theorem words49_call (n : Nat) (s : ByteArray) (w : World) : CallsIn Fence.wide n Tryz.prog 49 #[.string s] w fun e w' => e = .returned (.func (.func 73) #[] #[.pointer (some ⟨w.heap.size, 0, none⟩)]) ∧ w' = w.alloc (.cells #[.string s] 9) := by
  refine callsIn_of_wp Tryz.func49 rfl trivial ?_ rfl
  simp only [Tryz.ntmps49, List.size_toArray, List.length_cons, List.length_nil, Nat.reduceAdd, Nat.reduceSub, Array.replicate_succ, Array.replicate_zero, List.push_toArray, List.append_toArray, List.nil_append, List.cons_append]
  gi_wp2
  go_ret
  exact ⟨rfl, rfl⟩

/-- The world at the range over a line's words. -/
def readW (w : World) (s : ByteArray) : World := ((w.alloc (.cells zeroCmd 33)).alloc (.cells #[.slice none 0 0] 42)).alloc (.cells #[.string s] 9)

theorem readW_size (w : World) (s : ByteArray) : (readW w s).heap.size = w.heap.size + 3 := by simp [readW]

theorem readW_I (w : World) (s : ByteArray) : ReadI w (readW w s) [] ∧ (readW w s).heap[w.heap.size + 1 + 1]? = some (.cells #[.string s] 9 (0, 0)) := by
  have h1 := heap_alloc_new w (.cells zeroCmd 33)
  have h2 := heap_alloc_new (w.alloc (.cells zeroCmd 33)) (.cells #[.slice none 0 0] 42)
  have h3 := heap_alloc_new ((w.alloc (.cells zeroCmd 33)).alloc (.cells #[.slice none 0 0] 42)) (.cells #[.string s] 9)
  rw [World.size_alloc] at h2 h3
  rw [World.size_alloc] at h3
  refine ⟨⟨?_, ⟨_, ?_, World.ownsRow_nil _ _ _ _⟩, ?_⟩, h3⟩
  · exact (Below.heap_alloc _ _ _ (by simp; omega)).trans ((Below.heap_alloc _ _ _ (by simp)).trans h1)
  · exact (Below.heap_alloc _ _ _ (by simp)).trans h2
  · exact (((Below.refl _ w).alloc (Nat.le_refl _) _).alloc (by simp) _).alloc (by simp; omega) _

/-- The box's cells, one by one. -/
structure Box6 (w : World) (B : Nat) (v0 v1 v2 v3 v4 v5 : Value) : Prop where
  e0 : w.cell? ⟨B, 0, none⟩ = some v0
  e1 : w.cell? ⟨B, 1, none⟩ = some v1
  e2 : w.cell? ⟨B, 2, none⟩ = some v2
  e3 : w.cell? ⟨B, 3, none⟩ = some v3
  e4 : w.cell? ⟨B, 4, none⟩ = some v4
  e5 : w.cell? ⟨B, 5, none⟩ = some v5
  z0 : w.frozen? ⟨B, 0, none⟩ = false
  z1 : w.frozen? ⟨B, 1, none⟩ = false
  z2 : w.frozen? ⟨B, 2, none⟩ = false
  z3 : w.frozen? ⟨B, 3, none⟩ = false
  z4 : w.frozen? ⟨B, 4, none⟩ = false
  z5 : w.frozen? ⟨B, 5, none⟩ = false

theorem box6_of {w : World} {B : Nat} {v0 v1 v2 v3 v4 v5 : Value} {t : TypeId} (h : w.heap[B]? = some (.cells #[v0, v1, v2, v3, v4, v5] t (0, 0))) : Box6 w B v0 v1 v2 v3 v4 v5 :=
  ⟨by rw [cell_of_row _ _ 0 _ _ _ h]; rfl, by rw [cell_of_row _ _ 1 _ _ _ h]; rfl, by rw [cell_of_row _ _ 2 _ _ _ h]; rfl, by rw [cell_of_row _ _ 3 _ _ _ h]; rfl, by rw [cell_of_row _ _ 4 _ _ _ h]; rfl, by rw [cell_of_row _ _ 5 _ _ _ h]; rfl,
    frozen_of_row _ _ 0 _ _ h, frozen_of_row _ _ 1 _ _ h, frozen_of_row _ _ 2 _ _ h, frozen_of_row _ _ 3 _ _ h, frozen_of_row _ _ 4 _ _ h, frozen_of_row _ _ 5 _ _ h⟩

set_option maxRecDepth 100000 in
set_option maxHeartbeats 4000000 in
theorem read50_call {a0 a1 a3 : Addr} (s : ByteArray) (hs : s.size ≤ 70000) (w : World) (L : Laid a0 a1 a3 w) (hne : words s.data.toList ≠ []) :
    Calls Tryz.prog 50 #[.string s] w fun e w' => ReadPostS a0 a1 a3 w (readS (words s.data.toList)) e w' := by
  have HL := Lib.hid L
  have HNE := Lib.hid hne
  clear L hne
  have HWB := Lib.hid (words_bd (l := s.data.toList))
  obtain ⟨i0, hi0, hz0, hz1, hz2⟩ := info_parts info9
  refine (callsIn_wide (n := 100)).1 (callsIn_of_wp_marks Tryz.func50 rfl trivial ?_ rfl)
  simp only [Tryz.ntmps50, List.size_toArray, List.length_cons, List.length_nil, Nat.reduceAdd, Nat.reduceSub, Array.replicate_succ, Array.replicate_zero, List.push_toArray, List.append_toArray, List.nil_append, List.cons_append]
  gi_wp2
  refine ⟨trivial, (words49_call _ s _).mono ?_⟩
  rintro e w1 ⟨rfl, rfl⟩
  gi_wp2
  obtain ⟨hI0, hB0⟩ := readW_I w s
  have hsz := readW_size w s
  show Code.wpIn Fence.wide 100 Tryz.prog _ _ _ (readW w s)
  obtain ⟨W0, hW0⟩ : ∃ W0, readW w s = W0 := ⟨_, rfl⟩
  rw [hW0] at hI0 hB0 hsz ⊢
  clear hW0
  refine wpIn_rangeFunc_Z (F := Fence.wide) rfl (by omega) (gf := 73) (lb := #[.pointer (some ⟨w.heap.size + 1 + 1, 0, none⟩)]) rfl trivial (enters_of Tryz.func73 (by kernel_rfl) rfl)
    (words_seq (100 - 1) (by omega) (w.heap.size + 1 + 1) s W0 hB0 (by omega)) (fun r hr => by omega) (Below.refl _ _) (fun _ => rfl)
    (fun (pre : List Bs) W' => ReadI w W' pre) (fun c (pre : List Bs) W' => False)
    ((ReadI.abz w).mono fun r hr => by omega) (fun c s A B row hs hg hr => hs) hI0
    (fun x a' _ => a' = { tmps := #[.string s, undef, .pointer (some ⟨w.heap.size, 0, none⟩), .nilIface, .pointer (some ⟨w.heap.size + 1, 0, none⟩), .string ⟨x.toArray⟩, undef, undef, undef, undef, undef, .string s, .func (.func 73) #[] #[.pointer (some ⟨w.heap.size + 1 + 1, 0, none⟩)], .string ⟨x.toArray⟩, undef, undef, undef, undef, undef, undef, undef, undef, undef, undef, undef, undef, undef, undef, undef, undef, undef, undef, undef, undef, undef, undef, undef, undef, undef, undef, undef, undef, undef, undef, undef, undef, undef, undef, undef, undef, undef, undef, undef, undef, undef, undef, undef, undef, undef, undef, undef, undef, undef, undef, undef, undef, undef, undef, undef, undef], defers := [] })
    (fun _ _ _ _ _ _ hs _ _ => hs)
    ?assign ?body ?done ?stop
  case assign =>
    rintro pre x W' K hi _ hK
    gi_wp2
    exact hK _ _ (Below.refl _ _) hi rfl
  case body =>
    rintro pre x a' W' _ ⟨h1, ⟨v, h2, h3⟩, hbl⟩ rfl hp hsz'
    rw [hsz] at hsz'
    have cv : W'.cell? ⟨w.heap.size + 1, 0, none⟩ = some v := by rw [cell_of_row _ _ 0 _ _ _ h2]; rfl
    have hpl : pre.length + 1 ≤ 70001 := by
      have := hp.length_le
      have h5 := HWB.out.1
      rw [← size_list] at h5
      simp at this
      omega
    have HH := Lib.hid (⟨h1, h2, h3, hbl⟩ : _ ∧ _ ∧ _ ∧ _)
    clear h1 h2 h3 hbl
    gi_wp2_with (gi_at_builtin; refine wpListIn_append_own _ rfl (.tmp 14) (.tmp 16) 42 rfl (w.heap.size + 11) 9 i0 _ 1 16 Tryz.underlying42 hi0 hz0 hz1 hz2 rfl (by decide) v pre.length (sv pre) rfl (HH.out.2.2.1.alloc _) ⟨W'.heap.size, 0, none⟩ 1 1 [.string ⟨x.toArray⟩] rfl rfl (by intro j u hu; exact src_new1c _ _ _ j u hu) (by simp [Value.oneCell']) (by unfold maxLen; omega) (by omega) (by first | (simp; done) | (simp; omega)) ?_; intro v6 w6 hown6 hgrow6 _; obtain ⟨A6, k6, rfl⟩ := own_form hown6; have HS := Lib.hid (ReadI.snoc HH.out.1 HH.out.2.1 HH.out.2.2.1 HH.out.2.2.2 hsz' hgrow6 hown6); have hb6 := ReadI.sbox HH.out.2.1 HH.out.2.2.1 hsz' hgrow6; have c6 : w6.cell? ⟨w.heap.size + 1, 0, none⟩ = some v := (by rw [cell_of_row _ _ 0 _ _ _ hb6]; rfl); have f6 : w6.frozen? ⟨w.heap.size + 1, 0, none⟩ = false := (by exact frozen_of_row _ _ 0 _ _ hb6); clear hb6 hown6 hgrow6)
    exact ⟨fun r hr hl => HS.out.1 r (by omega) hl, HS.out.2.1, HS.out.2.2⟩
  case done =>
    rintro xs W' rfl hi hK
    simp only [hsz] at hK ⊢
    rename_i KK aK
    clear hI0 hB0 hsz
    refine aK _ _ (wpIn_wide.2 ?_)
    obtain ⟨W, hW⟩ : ∃ W, words s.data.toList = W := ⟨_, rfl⟩
    rw [hW] at hi HWB HNE
    have HW := Lib.hid hW
    clear hW
    obtain ⟨o, ho⟩ : ∃ o, readS W = o := ⟨_, rfl⟩
    have HO := Lib.hid ho
    clear ho
    cases W with
    | nil => exact absurd rfl HNE.out
    | cons h r =>
      obtain ⟨h1, ⟨v, h2, h3⟩, hbl⟩ := hi
      obtain ⟨A, cap, rfl⟩ := own_form h3
      have hcap : r.length + 1 ≤ cap := by
        rcases h3.2 with ⟨e, _⟩ | ⟨g, c', cur, e, _, _, hle, _⟩
        · cases e
        · cases e
          simpa using hle
      have hS := own_strs h3
      obtain ⟨b2, o2, rfl, hb2, hc2⟩ := hS.at_ (by simp)
      have hb2n : w.heap.size + 11 ≤ b2 := own_blk h3 rfl
      have hbz := hbl.size
      have l2 := (Array.getElem?_eq_some_iff.1 h2).1
      have LV0 : Live w W' (w.heap.size + 3) b2 o2 cap (h :: r) :=
        ⟨hbl, by rw [cell_of_row _ _ 0 _ _ _ h2]; rfl, hc2, hK, ⟨by omega, hb2⟩, ⟨by omega, (Array.getElem?_eq_some_iff.1 hK).1⟩, l2⟩
      have HLV := Lib.hid LV0
      have HRES := Lib.hid h1
      obtain ⟨t, ht⟩ : ∃ t : ByteArray, (⟨h.toArray⟩ : ByteArray) = t := ⟨_, rfl⟩
      have crow := LV0.row
      have cstr := hc2 0 h rfl
      rw [Nat.add_zero, ht] at cstr
      have HT : Hid (t.toList = h) := by rw [← ht, toList_mk]; exact rfl
      clear h1 h2 h3 hS hc2 hbl LV0 hK
      have r0 : (0 : Int) < (r.length : Int) + 1 := by omega
      have hr7 : r.length ≤ 70000 := by
        have h5 := HWB.out.1
        rw [← size_list] at h5
        simp at h5
        omega
      obtain ⟨k, fm, HKF, KC⟩ : ∃ (k : Int) (fm : ByteArray), Hid (k = (kindS h).1 ∧ fm.data.toList = (kindS h).2) ∧ Hid (∀ w, Calls Tryz.prog 27 #[.string t] w fun e w' => e = .returned (.agg #[.int .i64 k, .string fm]) ∧ Below w.heap.size w w') :=
        ⟨(kindS t.toList).1, ⟨(kindS t.toList).2.toArray⟩, Lib.hid (by rw [HT.out]; exact ⟨rfl, rfl⟩), Lib.hid fun w => known_call t w⟩
      go_wp2_with fail
      refine (KC.out _).mono ?_
      rintro e w2 ⟨rfl, hbk⟩
      go_upto_region 6 with fail
      have hz2 := hbk.size
      have hb3 : Below W'.heap.size W' (w2.alloc (.cells #[.int .i64 k, .string fm] 68)) := hbk.alloc hz2 _
      have hp3 := heap_alloc_new w2 (.cells #[.int .i64 k, .string fm] 68)
      have hs3 : (w2.alloc (.cells #[.int .i64 k, .string fm] 68)).heap.size = w2.heap.size + 1 := by simp
      obtain ⟨w3, hw3⟩ : ∃ w3, w2.alloc (.cells #[.int .i64 k, .string fm] 68) = w3 := ⟨_, rfl⟩
      rw [hw3] at hb3 hp3 hs3 ⊢
      clear hw3 crow cstr
      obtain ⟨P, hP⟩ : ∃ P, w2.heap.size = P := ⟨_, rfl⟩
      rw [hP] at hp3 hs3 hz2 ⊢
      have ck : w3.cell? ⟨P, 0, none⟩ = some (.int .i64 k) := by rw [cell_of_row _ _ 0 _ _ _ hp3]; rfl
      have cf : w3.cell? ⟨P, 1, none⟩ = some (.string fm) := by rw [cell_of_row _ _ 1 _ _ _ hp3]; rfl
      have res3 : w3.heap[w.heap.size]? = some (.cells zeroCmd 33 (0, 0)) := (hb3.block _ (by omega)).trans HRES.out
      have HLV3 := Lib.hid (HLV.out.below hb3)
      have crow := HLV3.out.row
      have cstr := HLV3.out.strs 0 h rfl
      rw [Nat.add_zero, ht] at cstr
      have HL3 := Lib.hid (HL.out.below HLV3.out.bl)
      have HS3 := Lib.hid hs3
      have HZ2 := Lib.hid hz2
      have HP3 := Lib.hid hp3
      have z0 := frozen_of_row _ _ 0 _ _ res3
      have z1 := frozen_of_row _ _ 1 _ _ res3
      have z2 := frozen_of_row _ _ 2 _ _ res3
      have z3 := frozen_of_row _ _ 3 _ _ res3
      have z4 := frozen_of_row _ _ 4 _ _ res3
      have z5 := frozen_of_row _ _ 5 _ _ res3
      have e0 : w3.cell? ⟨w.heap.size, 0, none⟩ = some (.string ⟨#[]⟩) := by rw [cell_of_row _ _ 0 _ _ _ res3]; rfl
      have e1 : w3.cell? ⟨w.heap.size, 1, none⟩ = some (.int .i64 0) := by rw [cell_of_row _ _ 1 _ _ _ res3]; rfl
      have e2 : w3.cell? ⟨w.heap.size, 2, none⟩ = some (.string ⟨#[]⟩) := by rw [cell_of_row _ _ 2 _ _ _ res3]; rfl
      have e3 : w3.cell? ⟨w.heap.size, 3, none⟩ = some (.slice none 0 0) := by rw [cell_of_row _ _ 3 _ _ _ res3]; rfl
      have e4 : w3.cell? ⟨w.heap.size, 4, none⟩ = some (.int .i64 0) := by rw [cell_of_row _ _ 4 _ _ _ res3]; rfl
      have e5 : w3.cell? ⟨w.heap.size, 5, none⟩ = some (.slice none 0 0) := by rw [cell_of_row _ _ 5 _ _ _ res3]; rfl
      have HR3 := Lib.hid res3
      clear res3 hs3 hz2 hp3 hP hb3 hbk
      by_cases hk0 : k = 0
      · have tk : (k == 0) = true := by rw [beq_iff_eq]; exact hk0
        have HE : Hid (o = .error 221) := by rw [← HO.out]; exact readS_bad (by rw [← HKF.out.1]; exact hk0)
        clear hk0
        have g0 := HL3.out.e0
        go_wp2_with fail
        have gne : (0 : Nat) ≠ w.heap.size := by have := World.block_lt_of_cell? w _ HL.out.e0; simp at this; omega
        have gne' := gne.symm
        go_region
        all_goals go_wp2_with fail
        obtain ⟨s1, s2⟩ := laid6_drew HR3.out (.string ⟨#[]⟩) (.int .i64 0) (.string ⟨#[]⟩) (.slice none 0 0) (.int .i64 0) (.slice none 0 0)
        have HLVz := HLV3.out.frame (Nat.le_refl _) (s2 _)
        refine read_end (R := fun e w' => ReadPostS a0 a1 a3 w (readS (words s.data.toList)) e w') (wz := (laid6 w3 w.heap.size (.string ⟨#[]⟩) (.int .i64 0) (.string ⟨#[]⟩) (.slice none 0 0) (.int .i64 0) (.slice none 0 0)).drew) (ev := .iface 200 (.pointer (some a0))) s1 HLVz.dk (plus3 _) rfl rfl ?_
        rw [HW.out, HO.out, HE.out]
        exact ⟨below_put HLVz.bl (le3 _) _, .inl ⟨221, a0, rfl, .inl ⟨rfl, rfl⟩, rfl⟩⟩
      · have tk : (k == 0) = false := by rw [beq_eq_false_iff_ne]; exact hk0
        have HK0 := Lib.hid hk0
        clear hk0
        go_upto_region 8 with fail
        have gne := HLV3.out.b2n
        have gne' : w.heap.size ≠ b2 := Nat.ne_of_lt gne.1
        refine wp_region_still_tail 7 (by kernel_rfl) (by kernel_rfl) ?_
        simp only [World.drew_eq, List.take_succ_cons, List.take_zero, List.drop_succ_cons, List.drop_zero]
        repeat still_step
        refine wpStill_nil ?_
        go_upto_region 9 with fail
        show Code.wp Tryz.prog _ _ _ (laid6 w3 w.heap.size (.string t) (.int .i64 k) (.string ⟨#[]⟩) (.slice none 0 0) (.int .i64 0) (.slice none 0 0)).drew
        obtain ⟨s1, s2⟩ := laid6_drew HR3.out (.string t) (.int .i64 k) (.string ⟨#[]⟩) (.slice none 0 0) (.int .i64 0) (.slice none 0 0)
        obtain ⟨w4, hw4⟩ : ∃ w4, (laid6 w3 w.heap.size (.string t) (.int .i64 k) (.string ⟨#[]⟩) (.slice none 0 0) (.int .i64 0) (.slice none 0 0)).drew = w4 := ⟨_, rfl⟩
        rw [hw4] at s1 s2 ⊢
        clear hw4 z0 z1 z2 z3 z4 z5 e0 e1 e2 e3 e4 e5 crow cstr gne gne'
        have HLV4 := Lib.hid (HLV3.out.frame (Nat.le_refl _) (s2 _))
        have crow := HLV4.out.row
        have hP1 : P < w3.heap.size := by rw [HS3.out]; exact Nat.lt_succ_self _
        have hP2 : P ≠ w.heap.size := by have h1 := HZ2.out; have h2 := HLV.out.b2n; omega
        have cf4 : w4.cell? ⟨P, 1, none⟩ = some (.string fm) := ((s2 w3.heap.size).cell hP1 hP2).trans cf
        have HB4 := Lib.hid s1
        clear ck cf s1 s2 hP1 hP2
        obtain ⟨tb, htb⟩ : ∃ tb, (fm.toList == [42]) = tb := ⟨_, rfl⟩
        go_upto_if 38 with fail
        have HTB := Lib.hid htb
        clear htb
        go_cut [8] from 39 to 42 (fun v wx => ∃ F : ByteArray, v = .string F ∧ Hid (F.data.toList = formS h r.length) ∧ Below w4.heap.size w4 wx)
        case first =>
          cases tb with
          | true =>
            have hstar : fm.data.toList = [42] := by rw [← ByteArray.toList_eq]; exact beq_iff_eq.1 HTB.out
            have HF : Hid ((⟨(Lib.repeatL [107] r.length).toArray⟩ : ByteArray).data.toList = formS h r.length) := by
              unfold formS
              rw [if_pos (by rw [← HKF.out.2]; exact hstar)]
              have := Lib.repeatL_replicate 107 1 r.length
              rw [Nat.mul_one] at this
              exact this
            clear hstar
            have RC := Lib.hid (Tryz.strings_Repeat ⟨#[107]⟩ r.length w4 (by omega) (by show 1 * r.length ≤ _; omega))
            go_wp2_with fail
            refine RC.out.mono ?_
            rintro e w5 ⟨rfl, hb5⟩
            go_wp2_with fail
            go_meet
            exact ⟨_, rfl, HF, hb5⟩
          | false =>
            have hstar : fm.data.toList ≠ [42] := by
              intro e
              have h1 := HTB.out
              rw [ByteArray.toList_eq, e] at h1
              cases h1
            have HF : Hid (fm.data.toList = formS h r.length) := by
              unfold formS
              rw [if_neg (by rw [← HKF.out.2]; exact hstar)]
              exact HKF.out.2
            clear hstar
            go_wp2_with fail
            go_meet
            exact ⟨fm, rfl, HF, Below.refl _ _⟩
        case rest =>
          obtain ⟨F, rfl, HF, hb5⟩ := hcut
          obtain ⟨wx, hwx⟩ : ∃ wx, wc = wx := ⟨_, rfl⟩
          rw [hwx] at hb5 ⊢
          clear hwx crow cf4
          have HLVx := Lib.hid (HLV4.out.below hb5)
          have hz5 := hb5.size
          have crow := HLVx.out.row
          have hNlt : w.heap.size < w4.heap.size := (Array.getElem?_eq_some_iff.1 HB4.out).1
          have HBx : Hid (wx.heap[w.heap.size]? = some (.cells (cmdCells (cmd0 h k) (.slice none 0 0) (.slice none 0 0)) 33 (0, 0))) := by
            have e := (hb5.block _ hNlt).trans HB4.out
            rw [← ht] at e
            exact e
          have HLx := Lib.hid (HL.out.below HLVx.out.bl)
          have hFs : F.size ≤ 70000 := by
            rw [size_list, HF.out]
            have h4 := kindS_len h
            unfold formS
            split
            · rw [List.length_replicate]; exact hr7
            · omega
          clear hb5 hz5 hNlt
          by_cases hlen : r.length = F.size
          · have tl : ((r.length : Int) + 1 != (F.size : Int) + 1) = false := by rw [bne_eq_false_iff_eq]; omega
            have HAR : Hid (∀ q, argsS (formS h r.length) r (cmd0 h k) = q → o = match q with | some c => .ok c | none => .error 223) := Lib.hid (by
              intro q hq
              rw [HKF.out.1] at hq
              have n0 : (kindS h).1 ≠ 0 := by rw [← HKF.out.1]; exact HK0.out
              have nl : r.length = (formS h r.length).length := by rw [← HF.out, ← size_list]; exact hlen
              rw [← HO.out]
              cases q with
              | some c => exact readS_some n0 nl hq
              | none => exact readS_none n0 nl hq)
            obtain ⟨i9, hi9, _, hx1, _⟩ := info_parts info9
            obtain ⟨A2, hA2, SL⟩ := slice_from (P := Tryz.prog) Tryz.underlying42 hi9 hx1 b2 o2 (r.length + 1) cap 1 (by omega) hcap
            have SL' : ∀ W, (Instr.slice 42 (.slice (some ⟨b2, o2, none⟩) (r.length + 1) cap) (some (.int .i64 1)) none none).run Tryz.prog W = .ok (.slice A2 r.length (cap - 1)) W := SL
            have HA2 := Lib.hid hA2
            clear SL hA2
            have HLEN := Lib.hid hlen
            clear hlen
            have gne : (3 : Nat) ≠ w.heap.size := by have := World.block_lt_of_cell? w _ HL.out.e3; simp at this; omega
            have GNE := Lib.hid gne
            have hKB : BoxInv w.heap.size wx.heap.size w wx (cmd0 h k) (.slice none 0 0) (.slice none 0 0) :=
              ⟨HBx.out, HLVx.out.bl, RdI.nil _ _ _, World.ownsRow_nil _ _ _ _, Nat.le_refl _, fun h0 => absurd h0 (by simp [cmd0]), Nat.le_refl _, by have := HLVx.out.rn; omega⟩
            have HKB := Lib.hid hKB
            clear hKB gne
            go_wp2_with fail
            go_loopw [54] (fun i wr => ∃ (j : Nat) (c : Cmd) (vb vk : Value), i = .int .i64 j ∧ j ≤ r.length ∧ BoxInv w.heap.size wx.heap.size w wr c vb vk ∧ FrameB w.heap.size wx.heap.size wx wr ∧ c.keep.length ≤ j ∧ Hid (argsS (F.data.toList.drop j) (r.drop j) c = argsS (formS h r.length) r (cmd0 h k)))
              (fun i _ => r.length - (intOf i).toNat)
            case atStart => exact ⟨0, _, _, _, rfl, Nat.zero_le _, HKB.out, FrameB.refl _ _ _, Nat.zero_le _, Lib.hid (by rw [HF.out]; rfl)⟩
            case round =>
              obtain ⟨j, c, vb, vk, rfl, hj, hbx, hfr, hkl, hsp⟩ := hrel
              have HFR := Lib.hid hfr
              have HBX := Lib.hid hbx
              clear hfr hbx
              by_cases hlt : j < r.length
              · have j0 : (0 : Int) ≤ (j : Int) := Int.natCast_nonneg _
                have j1 : (j : Int) < (r.length : Int) := by omega
                have j3 : j < F.size := by rw [← HLEN.out]; exact hlt
                have j4 : (j : Int) < (F.size : Int) := by omega
                obtain ⟨l, hl⟩ : ∃ l, r[j]? = some l := ⟨_, List.getElem?_eq_getElem hlt⟩
                obtain ⟨t2, ht2⟩ : ∃ t : ByteArray, (⟨l.toArray⟩ : ByteArray) = t := ⟨_, rfl⟩
                have htl : t2.data.toList = l := by rw [← ht2]
                have ht7 : t2.size ≤ 70000 := by
                  rw [size_list, htl]
                  have := HWB.out.2 l (List.mem_cons_of_mem _ (List.mem_of_getElem? hl))
                  rw [← size_list] at this
                  omega
                obtain rfl : A2 = some ⟨b2, o2 + 1, none⟩ := HA2.out (by omega)
                have hcell : wr.cell? ⟨b2, o2 + 1 + j, none⟩ = some (.string t2) := by
                  refine (HFR.out.cell (p := ⟨b2, o2 + 1 + j, none⟩) HLVx.out.b2n.2 (Nat.ne_of_gt HLVx.out.b2n.1)).trans ?_
                  have := HLVx.out.strs (j + 1) l (by simpa using hl)
                  rw [ht2] at this
                  rw [← this]
                  congr 2
                  omega
                obtain ⟨f8, hf8⟩ : ∃ f : UInt8, F[j] = f := ⟨_, rfl⟩
                have hFj : F.data.toList[j]? = some f8 := by rw [← hf8, get_list F j j3]; exact List.getElem?_eq_getElem _
                have HST := Lib.hid (argsS_step hFj hl c)
                have HOC := Lib.hid (one_call (f8.toNat : Int) t2 ht7 (by omega) HL.out HBX.out)
                rw [htl] at HOC
                clear hFj hl ht2 htl
                go_wp2_with fail
                refine HOC.out.mono ?_
                rintro e w6 ⟨hf6, c', vb', vk', b, hb6, rfl, hst6⟩
                have HST6 := Lib.hid hst6
                have HF6 := Lib.hid (HFR.out.trans hf6)
                have HB6 := Lib.hid hb6
                clear hf6 hb6 hst6
                cases b with
                | true =>
                  have hk6 : c'.keep.length ≤ j + 1 := by have := stepS_keep (c' := c') (by rw [HST6.out]; rfl); omega
                  go_wp2_with fail
                  refine ⟨⟨j + 1, c', vb', vk', by go_num, by omega, HB6.out, HF6.out, hk6, Lib.hid ?_⟩, by simp [intOf]; omega⟩
                  rw [← hsp.out, HST.out, HST6.out]
                  exact rfl
                | false =>
                  have HE : Hid (o = .error 223) := HAR.out none (by rw [← hsp.out, HST.out, HST6.out]; exact rfl)
                  have HLV6 := Lib.hid (HLVx.out.frame (Nat.le_refl _) HF6.out)
                  obtain ⟨e0, e1, e2, e3, e4, e5, z0, z1, z2, z3, z4, z5⟩ := box6_of HB6.out.box
                  have g3 := (HL.out.below HB6.out.bl).e3
                  have gne := GNE.out
                  have gne' := gne.symm
                  go_upto_region 19 with fail
                  go_region
                  all_goals go_wp2_with fail
                  obtain ⟨s1, s2⟩ := laid6_drew HB6.out.box (.string ⟨#[]⟩) (.int .i64 0) (.string ⟨#[]⟩) (.slice none 0 0) (.int .i64 0) (.slice none 0 0)
                  have HLVz := HLV6.out.frame (Nat.le_refl _) (s2 _)
                  refine read_end (R := fun e w' => ReadPostS a0 a1 a3 w (readS (words s.data.toList)) e w') (wz := (laid6 w6 w.heap.size (.string ⟨#[]⟩) (.int .i64 0) (.string ⟨#[]⟩) (.slice none 0 0) (.int .i64 0) (.slice none 0 0)).drew) (ev := .iface 200 (.pointer (some a3))) s1 HLVz.dk (plus3 _) rfl rfl ?_
                  rw [HW.out, HO.out, HE.out]
                  exact ⟨below_put HLVz.bl (le3 _) _, .inl ⟨223, a3, rfl, .inr (.inr ⟨rfl, rfl⟩), rfl⟩⟩
              · obtain ⟨Ab, cb, rfl, _⟩ : ∃ A cc, vb = .slice A c.bytes.length cc ∧ True := by obtain ⟨A, cc, e, _⟩ := HBX.out.rb; exact ⟨A, cc, e, trivial⟩
                obtain ⟨Ak, ck, rfl⟩ := own_form HBX.out.rk
                obtain ⟨e0, e1, e2, e3, e4, e5, z0, z1, z2, z3, z4, z5⟩ := box6_of HBX.out.box
                have t9 : decide ((j : Int) < (r.length : Int)) = false := decide_eq_false (by omega)
                have HE : Hid (o = .ok c) := HAR.out (some c) (by rw [← hsp.out, List.drop_eq_nil_of_le (by omega : r.length ≤ j), argsS_end])
                have HLVr := Lib.hid (HLVx.out.frame (Nat.le_refl _) HFR.out)
                go_wp2_with fail
                obtain ⟨s1, s2⟩ := laid6_spec HBX.out.box (.string ⟨c.word.toArray⟩) (.int .i64 c.kind) (.string ⟨c.id.toArray⟩) (.slice Ab c.bytes.length cb) (.int .i64 c.n) (.slice Ak c.keep.length ck)
                have HLVz := HLVr.out.frame (Nat.le_refl _) (s2 _)
                have r1 := rdi_laid6 HBX.out.rb HBX.out.lt (.string ⟨c.word.toArray⟩) (.int .i64 c.kind) (.string ⟨c.id.toArray⟩) (.slice Ab c.bytes.length cb) (.int .i64 c.n) (.slice Ak c.keep.length ck)
                have r2 := rdi_laid6 (own_rdi HBX.out.rk) HBX.out.lt (.string ⟨c.word.toArray⟩) (.int .i64 c.kind) (.string ⟨c.id.toArray⟩) (.slice Ab c.bytes.length cb) (.int .i64 c.n) (.slice Ak c.keep.length ck)
                refine read_end (R := fun e w' => ReadPostS a0 a1 a3 w (readS (words s.data.toList)) e w') (wz := laid6 wr w.heap.size (.string ⟨c.word.toArray⟩) (.int .i64 c.kind) (.string ⟨c.id.toArray⟩) (.slice Ab c.bytes.length cb) (.int .i64 c.n) (.slice Ak c.keep.length ck)) (ev := .nilIface) s1 HLVz.dk (plus3 _) rfl rfl ?_
                rw [HW.out, HO.out, HE.out]
                exact ⟨below_put HLVz.bl (le3 _) _, .inr ⟨c, _, _, rfl, rfl, (r1.lo (Nat.le_of_lt HBX.out.lt)).put HLVz.dk _, (r2.lo (Nat.le_of_lt HBX.out.lt)).put HLVz.dk _⟩⟩
          · have tl : ((r.length : Int) + 1 != (F.size : Int) + 1) = true := by rw [bne_iff_ne]; omega
            have HE : Hid (o = .error 222) := by
              rw [← HO.out]
              exact readS_len (by rw [← HKF.out.1]; exact HK0.out) (by rw [← HF.out, ← size_list]; exact hlen)
            clear hlen
            obtain ⟨e0, e1, e2, e3, e4, e5, z0, z1, z2, z3, z4, z5⟩ := box6_of HBx.out
            have g1 := HLx.out.e1
            go_upto_region 14 with fail
            have gne : (1 : Nat) ≠ w.heap.size := by have := World.block_lt_of_cell? w _ HL.out.e1; simp at this; omega
            have gne' := gne.symm
            go_region
            all_goals go_wp2_with fail
            obtain ⟨s1, s2⟩ := laid6_drew HBx.out (.string ⟨#[]⟩) (.int .i64 0) (.string ⟨#[]⟩) (.slice none 0 0) (.int .i64 0) (.slice none 0 0)
            have HLVz := HLVx.out.frame (Nat.le_refl _) (s2 _)
            refine read_end (R := fun e w' => ReadPostS a0 a1 a3 w (readS (words s.data.toList)) e w') (wz := (laid6 wx w.heap.size (.string ⟨#[]⟩) (.int .i64 0) (.string ⟨#[]⟩) (.slice none 0 0) (.int .i64 0) (.slice none 0 0)).drew) (ev := .iface 200 (.pointer (some a1))) s1 HLVz.dk (plus3 _) rfl rfl ?_
            rw [HW.out, HO.out, HE.out]
            exact ⟨below_put HLVz.bl (le3 _) _, .inl ⟨222, a1, rfl, .inr (.inl ⟨rfl, rfl⟩), rfl⟩⟩
  case stop =>
    rintro c pre W' hp hf
    exact hf.elim
end Go.Proofs.YtlibjfmafpiopaaGreatDoor
