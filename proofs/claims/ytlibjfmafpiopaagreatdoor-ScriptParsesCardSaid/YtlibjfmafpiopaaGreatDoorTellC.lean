/- Telling an answer: what is handed in; the numbers and bits as arguments; the last join. -/
import Derived.Test.YtlibjfmafpiopaaGreatDoorTellB
import Derived.Deep.MidRow
import Derived.Deep.Upon
namespace Go.Proofs.YtlibjfmafpiopaaGreatDoor
open Go.RowKit Go.Shelf Scr

/-- An answer's cells. -/
def ansCells (a : Ans) (vb vi vp : Value) : List Value :=
  [.int .i64 a.code, vb, .int .i64 a.length] ++ (a.root.map fun x => .int .u8 x) ++ [.int .i64 a.index, .int .i64 a.expiry, .bool a.hold, .bool a.gone, vi, .int .i64 a.hsize] ++ (a.hroot.map fun x => .int .u8 x) ++ [.int .i64 a.num, vp]

theorem RowT.weak2 {w : World} {base R : Nat} {Ex Ex2 : Nat → Prop} {ws : List Bs} {v : Value} (h : RowT w base R Ex ws v) (he : ∀ b, v.ownBlock = some b → ¬ Ex2 b) : RowT w base R Ex2 ws v :=
  ⟨h.1, h.2.1, he⟩

theorem RowT.join {w : World} {base R : Nat} {Ex : Nat → Prop} {x : Bs} {L : List Bs} {v : Value} (h : RowT w base R Ex (x :: L) v) (hl : (x :: L).length ≤ 4194304) (hlen : (x ++ tail32 L).length ≤ 140737488355328) :
    Calls Tryz.prog 36 #[v, .string ⟨#[32]⟩] w fun e w' => e = .returned (.string ⟨(x ++ tail32 L).toArray⟩) ∧ Below w.heap.size w w' := by
  rcases h.2.1.2 with ⟨_, h0⟩ | ⟨g, cap, cur, rfl, a, b, c1, c2, c3, c4⟩
  · cases h0
  · have hj := join_tail x L
    have hm : ((x :: L).map fun l => (⟨l.toArray⟩ : ByteArray)).map (·.data.toList) = x :: L := by
      rw [List.map_map]
      exact List.map_id _
    have hn : ((x :: L).map fun l => (⟨l.toArray⟩ : ByteArray)).length = (x :: L).length := List.length_map ..
    have := Tryz.strings_Join g 0 cap ((x :: L).map fun l => (⟨l.toArray⟩ : ByteArray)) ⟨#[32]⟩ w (fun j y hy => by
      rw [Nat.zero_add, cell_of_row w g j cur 9 (0, 0) b]
      have hjl : j < (x :: L).length := by rw [← hn]; exact (List.getElem?_eq_some_iff.1 hy).1
      have e1 : (cur.toList.take ((x :: L).length * 1))[j]? = (sv (x :: L))[j]? := by rw [c4]
      rw [List.getElem?_take_of_lt (by omega), Array.getElem?_toList] at e1
      rw [e1]
      unfold sv
      rw [List.getElem?_map] at hy ⊢
      cases hq : (x :: L)[j]? with
      | none => rw [hq] at hy; cases hy
      | some l => rw [hq] at hy; cases hy; exact rfl) (Array.getElem?_eq_some_iff.1 b).1 (by rw [hn]; omega) (by rw [hn]; exact c1) (by rw [hm]; show (Lib.join (x :: L) [32]).length ≤ _; rw [hj]; exact hlen)
    rw [hm, hn] at this
    show Calls Tryz.prog 36 #[_, .string ⟨#[32]⟩] w fun e w' => e = .returned (.string ⟨(x ++ tail32 L).toArray⟩) ∧ Below w.heap.size w w'
    rw [← hj]
    exact this

/-- One number as the closure takes it; two. -/
theorem num_arg {w : World} {base R : Nat} {Ex : Nat → Prop} {ws : List Bs} {v : Value} (h : RowT w base R Ex ws v) (l : List Int) (hR : base ≤ R) (hER : Ex R) (hEx : ∀ b, Ex b → b < w.heap.size)
    (htab : Lib.TabBelow Tryz.prog base w "internal/strconv.uint64pow10" .u64 Lib.pow10Tab) (hrng : ∀ x ∈ l, -9223372036854775808 ≤ x ∧ x ≤ 9223372036854775807) (hl : ws.length + l.length ≤ 4194304) (n : Nat) (hn : n = l.length) :
    Calls Tryz.prog 40 #[.slice (some ⟨w.heap.size, 0, none⟩) n n, .pointer (some ⟨R, 0, none⟩)] (w.alloc (.cells (l.map fun x => Value.int .i64 x).toArray 3)) fun e w' => (∃ u, e = .returned u) ∧ ∃ v', RowT w' base R Ex (ws ++ l.map Lib.itoa) v' ∧ PF base Ex R R w w' := by
  subst hn
  have hb : Below w.heap.size w (w.alloc (.cells (l.map fun x => Value.int .i64 x).toArray 3)) := (Below.refl _ _).alloc (Nat.le_refl _) _
  have hbase : base ≤ w.heap.size := by have := hEx R hER; omega
  refine (num40_call (Ex := fun b => Ex b ∨ b = w.heap.size) (some ⟨w.heap.size, 0, none⟩) l.length l _ (fun W hW => htab W ((hb.mono hbase).trans hW)) ((h.below hb).weak2 ?_) hR (.inl hER) ?_ ⟨by omega, fun h0 => ⟨_, _, rfl, by simp, fun i hi => ?_⟩⟩ ?_ hrng hl).mono ?_
  · intro b e hx
    rcases h.2.1.2 with ⟨rfl, _⟩ | ⟨g, cap, cur, rfl, a, b', c⟩
    · cases e
    · have h1 := (Array.getElem?_eq_some_iff.1 b').1
      have e3 : g = b := Option.some.inj e
      rcases hx with hx | hx
      · exact h.2.2 b e hx
      · omega
  · intro b hx
    rw [World.size_alloc]
    rcases hx with hx | hx
    · have := hEx b hx; omega
    · omega
  · rw [Nat.zero_add, cell_of_row _ _ i _ _ _ (heap_alloc_new w _)]
    simp [el, List.getD, hi]
  · intro b off e
    cases e
    exact ⟨.inr rfl, fun e => by have := hEx R hER; omega⟩
  · rintro e w' ⟨hu, v', hr, hp⟩
    exact ⟨hu, v', hr.weak fun b hb => .inl hb, (PF.of hb).trans (hp.weak fun b hb => .inl hb)⟩

theorem bit_arg {w : World} {base R : Nat} {Ex : Nat → Prop} {ws : List Bs} {v : Value} (h : RowT w base R Ex ws v) (l : List Bool) (hR : base ≤ R) (hER : Ex R) (hEx : ∀ b, Ex b → b < w.heap.size)
    (hl : ws.length + l.length ≤ 4194304) (n : Nat) (hn : n = l.length) :
    Calls Tryz.prog 41 #[.slice (some ⟨w.heap.size, 0, none⟩) n n, .pointer (some ⟨R, 0, none⟩)] (w.alloc (.cells (l.map fun x => Value.bool x).toArray 4)) fun e w' => (∃ u, e = .returned u) ∧ ∃ v', RowT w' base R Ex (ws ++ l.map bit) v' ∧ PF base Ex R R w w' := by
  subst hn
  have hb : Below w.heap.size w (w.alloc (.cells (l.map fun x => Value.bool x).toArray 4)) := (Below.refl _ _).alloc (Nat.le_refl _) _
  refine (bit41_call (Ex := fun b => Ex b ∨ b = w.heap.size) (some ⟨w.heap.size, 0, none⟩) l.length l _ ((h.below hb).weak2 ?_) hR (.inl hER) ?_ ⟨fun h0 => ⟨_, _, rfl, by simp, fun i hi => ?_⟩⟩ ?_ hl).mono ?_
  · intro b e hx
    rcases h.2.1.2 with ⟨rfl, _⟩ | ⟨g, cap, cur, rfl, a, b', c⟩
    · cases e
    · have h1 := (Array.getElem?_eq_some_iff.1 b').1
      have e3 : g = b := Option.some.inj e
      rcases hx with hx | hx
      · exact h.2.2 b e hx
      · omega
  · intro b hx
    rw [World.size_alloc]
    rcases hx with hx | hx
    · have := hEx b hx; omega
    · omega
  · rw [Nat.zero_add, cell_of_row _ _ i _ _ _ (heap_alloc_new w _)]
    simp [List.getD, hi]
  · intro b off e
    cases e
    exact ⟨.inr rfl, fun e => by have := hEx R hER; omega⟩
  · rintro e w' ⟨hu, v', hr, hp⟩
    exact ⟨hu, v', hr.weak fun b hb => .inl hb, (PF.of hb).trans (hp.weak fun b hb => .inl hb)⟩

/-- An answer as it is handed in. -/
structure AnsAt (w : World) (a : Ans) (vb vi vp : Value) : Prop where
  root : a.root.length = 32
  hroot : a.hroot.length = 32
  rootR : ∀ x ∈ a.root, 0 ≤ x ∧ x ≤ 255
  hrootR : ∀ x ∈ a.hroot, 0 ≤ x ∧ x ≤ 255
  code : -9223372036854775808 ≤ a.code ∧ a.code ≤ 9223372036854775807
  length : -9223372036854775808 ≤ a.length ∧ a.length ≤ 9223372036854775807
  index : -9223372036854775808 ≤ a.index ∧ a.index ≤ 9223372036854775807
  expiry : -9223372036854775808 ≤ a.expiry ∧ a.expiry ≤ 9223372036854775807
  hsize : -9223372036854775808 ≤ a.hsize ∧ a.hsize ≤ 9223372036854775807
  num : -9223372036854775808 ≤ a.num ∧ a.num ≤ 9223372036854775807
  bytes : ∃ A c, vb = .slice A a.bytes.length c ∧ Byts w A a.bytes ∧ a.bytes.length ≤ 1048576
  ids : ∃ A c, vi = .slice A a.ids.length c ∧ a.ids.length ≤ 1048576 ∧ (∀ l ∈ a.ids, l.length ≤ 1048576) ∧ (0 < a.ids.length → ∃ b off, A = some ⟨b, off, none⟩ ∧ b < w.heap.size ∧ ∀ j l, a.ids[j]? = some l → w.cell? ⟨b, off + j, none⟩ = some (.string ⟨l.toArray⟩))
  proof : ∃ A c, vp = .slice A a.proof.length c ∧ a.proof.length ≤ 1048576 ∧ (∀ l ∈ a.proof, l.length = 32 ∧ ∀ x ∈ l, 0 ≤ x ∧ x ≤ 255) ∧ (0 < a.proof.length → ∃ b off, A = some ⟨b, off, none⟩ ∧ b < w.heap.size ∧ ∀ j l, a.proof[j]? = some l → ∀ i x, l[i]? = some x → w.cell? ⟨b, off + j * 32 + i, none⟩ = some (.int .u8 x))

/-- A value stored whole into a new block. -/
theorem store_new (w : World) (Z : Array Value) (t : TypeId) (vs : List Value) (hn : vs.length = Z.size) (h1 : ∀ v ∈ vs, v.oneCell' = true) :
    ∃ w3, (storeCells ⟨w.heap.size, 0, none⟩ vs).run Tryz.prog (w.alloc (.cells Z t)) = .ok () w3 ∧ Below w.heap.size w w3 ∧ w3.heap.size = w.heap.size + 1 ∧ ∀ j v, vs[j]? = some v → w3.cell? ⟨w.heap.size, j, none⟩ = some v := by
  have hb := heap_alloc_new w (.cells Z t)
  have ht : (w.alloc (.cells Z t)).there w.heap.size 0 vs.length := fun j hj => by
    rw [Nat.zero_add, cell_of_row _ _ j _ _ _ hb, Array.getElem?_eq_getElem (by omega)]
    exact ⟨rfl, frozen_of_row _ _ _ _ _ hb⟩
  have hr := run_storeCells_cells (P := Tryz.prog) w.heap.size 0 vs 0 (w.alloc (.cells Z t)) (fun j hj => by simpa only [Nat.add_zero] using (ht j hj).1) (fun j hj => by simpa only [Nat.add_zero] using (ht j hj).2) h1
  refine ⟨_, hr, ?_, ?_, fun j v hv => ?_⟩
  · have e : ∀ (vs : List Value) (o : Nat) (W : World), (W.setCells w.heap.size o vs).heap.size = W.heap.size := fun vs => by
      induction vs with
      | nil => exact fun _ _ => rfl
      | cons v r ih => exact fun o W => by rw [World.setCells, ih]; simp
    have t : ∀ (vs : List Value) (o : Nat) (W : World), (W.setCells w.heap.size o vs).tape = W.tape := fun vs => by
      induction vs with
      | nil => exact fun _ _ => rfl
      | cons v r ih => exact fun o W => by rw [World.setCells, ih]; rfl
    exact ⟨World.os_setCells _ _ _ _, t _ _ _, World.output_setCells _ _ _ _, by rw [e]; simp, fun b hl => (World.heap_setCells_other _ _ _ _ (by simp; omega) (Nat.ne_of_lt hl)).trans (Below.heap_alloc _ _ _ hl)⟩
  · have e : ∀ (vs : List Value) (o : Nat) (W : World), (W.setCells w.heap.size o vs).heap.size = W.heap.size := fun vs => by
      induction vs with
      | nil => exact fun _ _ => rfl
      | cons v r ih => exact fun o W => by rw [World.setCells, ih]; simp
    rw [e]
    simp
  · have := World.rangeAt_setCells_same (w.alloc (.cells Z t)) w.heap.size 0 vs ht j v hv
    simpa using this

/-- The stat's cells. -/
def statCells (a : Ans) : List Value := [.int .i64 a.length] ++ (a.root.map fun x => .int .u8 x) ++ [.int .i64 a.index, .int .i64 a.expiry, .bool a.hold, .bool a.gone]

theorem statCells_len {a : Ans} (h : a.root.length = 32) : (statCells a).length = 37 := by simp [statCells, h]
theorem statCells_one (a : Ans) : ∀ v ∈ statCells a, v.oneCell' = true := by
  intro v hv
  simp [statCells] at hv
  rcases hv with rfl | ⟨x, _, rfl⟩ | rfl | rfl | rfl | rfl <;> simp [Value.oneCell']

theorem ans_stat {a : Ans} {vb vi vp : Value} (j : Nat) (v : Value) (h : (statCells a)[j]? = some v) : (ansCells a vb vi vp)[2 + j]? = some v := by
  have e : ansCells a vb vi vp = [.int .i64 a.code, vb] ++ (statCells a ++ ([vi, .int .i64 a.hsize] ++ (a.hroot.map fun x => .int .u8 x) ++ [.int .i64 a.num, vp])) := by
    simp [ansCells, statCells]
  rw [e, List.getElem?_append_right (by simp)]
  have hj := (List.getElem?_eq_some_iff.1 h).1
  rw [show 2 + j - [Value.int .i64 a.code, vb].length = j from by simp, List.getElem?_append_left hj]
  exact h

theorem RowT.apps {w w6 : World} {base R : Nat} {Ex : Nat → Prop} {ws xs : List Bs} {v v6 : Value} (h : RowT w base R Ex ws v) (hR : base ≤ R) (hER : Ex R) (hEx : ∀ b, Ex b → b < w.heap.size) (hg : w.grownBy w6 v.ownBlock)
    (hat : v6.ownBlock = v.ownBlock ∨ v6.ownBlock = some w.heap.size) (ho : w6.ownsRow base 9 1 v6 (ws.length + xs.length) (sv ws ++ sv xs)) :
    RowT (w6.setCell ⟨R, 0, none⟩ v6) base R Ex (ws ++ xs) v6 ∧ PF base Ex R R w (w6.setCell ⟨R, 0, none⟩ v6) ∧ w6.heap[R]? = some (.cells #[v] 42 (0, 0)) := by
  have hs := hg.size
  have hob : ∀ b, v.ownBlock = some b → base ≤ b := fun b e => own_blk h.2.1 e
  have hR' := hEx R hER
  have blk : ∀ b, b < w.heap.size → v.ownBlock ≠ some b → w6.heap[b]? = w.heap[b]? := fun b hb hne => hg.block b hb (fun e => hne e.symm)
  have set : ∀ r, r ≠ R → (w6.setCell ⟨R, 0, none⟩ v6).heap[r]? = w6.heap[r]? := fun r hr => Below.heap_setCell _ _ _ _ (by simpa using hr)
  have n6 : ∀ b, v6.ownBlock = some b → ¬ Ex b := fun b e => by
    rcases hat with h1 | h1
    · exact h.2.2 b (h1.symm.trans e)
    · have h2 := Option.some.inj (h1.symm.trans e)
      intro hx
      have := hEx b hx
      omega
  have hR6 := (blk R hR' (fun e => h.2.2 R e hER)).trans h.1
  refine ⟨⟨heap_setCell_same hR6 _, ?_, n6⟩, ⟨hg.os, hg.tape, hg.output, by simp; omega, fun r hr hc => ?_⟩, hR6⟩
  · have e : sv (ws ++ xs) = sv ws ++ sv xs := by simp [sv]
    rw [e, List.length_append]
    refine ⟨ho.1, ?_⟩
    rcases ho.2 with h0 | ⟨g, cap, cur, rfl, a, b', c⟩
    · exact .inl h0
    · exact .inr ⟨g, cap, cur, rfl, a, (set g (fun e => n6 g rfl (e ▸ hER))).trans b', c⟩
  · rcases hc with hc | hc
    · exact (set r (by omega)).trans (blk r hr (fun e => by have := hob r e; omega))
    · exact (set r hc.2.1).trans (blk r hr (fun e => h.2.2 r e hc.1))

theorem ans_tail {a : Ans} {vb vi vp : Value} (hr : a.root.length = 32) (j : Nat) (v : Value) (h : ([vi, .int .i64 a.hsize] ++ (a.hroot.map fun x => Value.int .u8 x) ++ [.int .i64 a.num, vp])[j]? = some v) : (ansCells a vb vi vp)[39 + j]? = some v := by
  have e : ansCells a vb vi vp = ([.int .i64 a.code, vb] ++ statCells a) ++ ([vi, .int .i64 a.hsize] ++ (a.hroot.map fun x => .int .u8 x) ++ [.int .i64 a.num, vp]) := by
    simp [ansCells, statCells]
  have hl : ([Value.int .i64 a.code, vb] ++ statCells a).length = 39 := by simp [statCells, hr]
  rw [e, List.getElem?_append_right (by omega), hl, show 39 + j - 39 = j from by omega]
  exact h
theorem ans_num {a : Ans} {vb vi vp : Value} (hr : a.root.length = 32) (hh : a.hroot.length = 32) : (ansCells a vb vi vp)[73]? = some (.int .i64 a.num) := by
  refine ans_tail hr 34 _ ?_
  rw [List.getElem?_append_right (by simp [hh])]
  simp [hh]
theorem ans_proof {a : Ans} {vb vi vp : Value} (hr : a.root.length = 32) (hh : a.hroot.length = 32) : (ansCells a vb vi vp)[74]? = some vp := by
  refine ans_tail hr 35 _ ?_
  rw [List.getElem?_append_right (by simp [hh])]
  simp [hh]
theorem ans_ids {a : Ans} {vb vi vp : Value} (hr : a.root.length = 32) : (ansCells a vb vi vp)[39]? = some vi := ans_tail hr 0 _ rfl
theorem ans_hsize {a : Ans} {vb vi vp : Value} (hr : a.root.length = 32) : (ansCells a vb vi vp)[40]? = some (.int .i64 a.hsize) := ans_tail hr 1 _ rfl
theorem ans_hroot {a : Ans} {vb vi vp : Value} (hr : a.root.length = 32) (i : Nat) (x : Int) (h : a.hroot[i]? = some x) : (ansCells a vb vi vp)[41 + i]? = some (.int .u8 x) := by
  have hi := (List.getElem?_eq_some_iff.1 h).1
  have := ans_tail (a := a) (vb := vb) (vi := vi) (vp := vp) hr (2 + i) (.int .u8 x) (by
    rw [List.append_assoc, List.getElem?_append_right (by simp)]
    rw [show 2 + i - [vi, Value.int .i64 a.hsize].length = i from by simp, List.getElem?_append_left (by simpa using hi), List.getElem?_map, h]
    rfl)
  rw [show 41 + i = 39 + (2 + i) from by omega]
  exact this
theorem stat_root {a : Ans} (i : Nat) (x : Int) (h : a.root[i]? = some x) : (statCells a)[1 + i]? = some (.int .u8 x) := by
  have hi := (List.getElem?_eq_some_iff.1 h).1
  unfold statCells
  rw [List.append_assoc, List.getElem?_append_right (by simp), show 1 + i - [Value.int .i64 a.length].length = i from by simp, List.getElem?_append_left (by simpa using hi), List.getElem?_map, h]
  rfl
theorem stat_tail {a : Ans} (hr : a.root.length = 32) (j : Nat) (v : Value) (h : ([.int .i64 a.index, .int .i64 a.expiry, .bool a.hold, .bool a.gone] : List Value)[j]? = some v) : (statCells a)[33 + j]? = some v := by
  unfold statCells
  rw [List.getElem?_append_right (by simp [hr]), show 33 + j - ([Value.int .i64 a.length] ++ a.root.map fun x => Value.int .u8 x).length = j from by simp [hr]]
  exact h
theorem byts_of {w : World} {b o : Nat} {l : List Int} (hb : b < w.heap.size) (h : ∀ i x, l[i]? = some x → w.cell? ⟨b, o + i, none⟩ = some (.int .u8 x)) (hr : ∀ x ∈ l, 0 ≤ x ∧ x ≤ 255) : Byts w (some ⟨b, o, none⟩) l :=
  ⟨fun _ => ⟨b, o, rfl, hb, fun k hk => h k _ (by rw [List.getD_eq_getElem?_getD, List.getElem?_eq_getElem hk]; rfl)⟩, hr⟩
end Go.Proofs.YtlibjfmafpiopaaGreatDoor
