/- The program's staging: what a stage holds, and the contracts of its methods. -/
import Derived.Test.YtjpkendpnpkbeaaMap
import Derived.Deep.RegionHeld3
import Derived.Deep.DeepCutAuto
namespace Go.Proofs.Ytjpkendpnpkbeaa
open Go.RowKit

/-- Bytes as cells. -/
def u8s (bs : List Int) : List Value := bs.map (Value.int .u8)

/-- Only the blocks of F, and new ones, have turned. -/
structure Touch (F : Nat → Prop) (w w' : World) : Prop where
  os : w'.os = w.os
  tape : w'.tape = w.tape
  output : w'.output = w.output
  size : w.heap.size ≤ w'.heap.size
  block : ∀ k, k < w.heap.size → ¬ F k → w'.heap[k]? = w.heap[k]?

theorem Touch.refl (F : Nat → Prop) (w : World) : Touch F w w := ⟨rfl, rfl, rfl, Nat.le_refl _, fun _ _ _ => rfl⟩
theorem Touch.trans {F : Nat → Prop} {a b c : World} (h : Touch F a b) (k : Touch F b c) : Touch F a c :=
  ⟨k.os.trans h.os, k.tape.trans h.tape, k.output.trans h.output, Nat.le_trans h.size k.size, fun i hi hf => (k.block i (Nat.lt_of_lt_of_le hi h.size) hf).trans (h.block i hi hf)⟩
theorem Touch.mono {F G : Nat → Prop} {a b : World} (h : Touch F a b) (hf : ∀ k, k < a.heap.size → F k → G k) : Touch G a b := ⟨h.os, h.tape, h.output, h.size, fun k hk hn => h.block k hk (fun hfk => hn (hf k hk hfk))⟩
theorem Touch.of_grown {F : Nat → Prop} {a b : World} {row : Option Nat} (h : a.grownBy b row) (hf : ∀ k, row = some k → F k) : Touch F a b :=
  ⟨h.os, h.tape, h.output, h.size, fun k hk hn => h.block k hk (fun e => hn (hf k e.symm))⟩
theorem Touch.mono' {F : Nat → Prop} {a a' b : World} (h : Touch F a' b) (e : a' = a.drew) : Touch F a b := by subst e; exact ⟨h.os, h.tape, h.output, h.size, h.block⟩
theorem Touch.setCell {F : Nat → Prop} {a w : World} (h : Touch F a w) {p : Addr} (hp : F p.block) (u : Value) : Touch F a (w.setCell p u) :=
  h.trans ⟨rfl, rfl, rfl, by simp, fun k _ hn => Below.heap_setCell w p u k (fun e => hn (e ▸ hp))⟩
theorem Touch.of_below {F : Nat → Prop} {a b : World} (h : Below a.heap.size a b) : Touch F a b := ⟨h.os, h.tape, h.output, h.size, fun k hk _ => h.block k hk⟩
theorem Touch.drew {F : Nat → Prop} {a w : World} (h : Touch F a w) : Touch F a w.drew := ⟨h.os, h.tape, h.output, h.size, h.block⟩

/-- A value that is nil or a row of bytes of its own. -/
def BRow (w : World) (v : Value) (bs : List Int) : Prop := w.ownsRow 0 5 1 v bs.length (u8s bs)

theorem BRow.keep {w w' : World} {v : Value} {bs : List Int} (h : BRow w v bs) (hk : ∀ b, v.ownBlock = some b → w'.heap[b]? = w.heap[b]?) : BRow w' v bs := by
  refine ⟨h.1, ?_⟩
  rcases h.2 with h0 | ⟨g, cap, cur, rfl, a, b, c⟩
  · exact .inl h0
  · exact .inr ⟨g, cap, cur, rfl, a, (hk g rfl).trans b, c⟩

/-- The entries of a stage's map and what they read as. -/
inductive Holds (w : World) (F : Nat → Prop) : List (Int × Value) → List (Int × List Int) → Prop
  | nil : Holds w F [] []
  | cons {k : Int} {v : Value} {bs : List Int} {lv : List (Int × Value)} {l : List (Int × List Int)} (hr : BRow w v bs) (hf : ∀ b, v.ownBlock = some b → F b)
      (hd : ∀ b, v.ownBlock = some b → ∀ p ∈ lv, p.2.ownBlock ≠ some b) (ht : Holds w F lv l) : Holds w F ((k, v) :: lv) ((k, bs) :: l)

theorem Holds.keep {w w' : World} {F : Nat → Prop} (hk : ∀ b, F b → w'.heap[b]? = w.heap[b]?) : ∀ {lv : List (Int × Value)} {l : List (Int × List Int)}, Holds w F lv l → Holds w' F lv l
  | _, _, .nil => .nil
  | _, _, .cons hr hf hd ht => .cons (hr.keep fun b e => hk b (hf b e)) hf hd (ht.keep hk)

theorem Holds.imp {w : World} {F G : Nat → Prop} (hk : ∀ b, F b → G b) : ∀ {lv : List (Int × Value)} {l : List (Int × List Int)}, Holds w F lv l → Holds w G lv l
  | _, _, .nil => .nil
  | _, _, .cons hr hf hd ht => .cons hr (fun b e => hk b (hf b e)) hd (ht.imp hk)

theorem Holds.keys {w : World} {F : Nat → Prop} : ∀ {lv : List (Int × Value)} {l : List (Int × List Int)}, Holds w F lv l → lv.map (·.1) = l.map (·.1)
  | _, _, .nil => rfl
  | _, _, .cons _ _ _ ht => by simp [ht.keys]

/-- A stage at block g, its map in block B, within the blocks F. -/
structure Stg (w : World) (F : Nat → Prop) (g B : Nat) (nx by_ : Int) (l : List (Int × List Int)) : Prop where
  blk : w.heap[g]? = some (.cells #[.int .i64 nx, .int .i64 by_, .map (some B)] 55 (0, 0))
  fg : F g
  fB : F B
  map : ∃ lv, IMap w B lv ∧ Holds w (fun b => F b ∧ b ≠ g ∧ b ≠ B) lv l

theorem Stg.ne {w : World} {F : Nat → Prop} {g B : Nat} {nx by_ : Int} {l : List (Int × List Int)} (h : Stg w F g B nx by_ l) : B ≠ g := by
  obtain ⟨lv, ⟨es, c, h1, _⟩, _⟩ := h.map
  rintro rfl
  rw [h.blk] at h1
  cases h1

theorem Stg.keep {w w' : World} {F : Nat → Prop} {g B : Nat} {nx by_ : Int} {l : List (Int × List Int)} (h : Stg w F g B nx by_ l) (hk : ∀ b, F b → w'.heap[b]? = w.heap[b]?) : Stg w' F g B nx by_ l := by
  obtain ⟨lv, hm, hh⟩ := h.map
  exact ⟨(hk g h.fg).trans h.blk, h.fg, h.fB, lv, hm.of_heap (hk B h.fB), hh.keep fun b hb => hk b hb.1⟩

theorem Stg.c0 {w : World} {F : Nat → Prop} {g B : Nat} {nx by_ : Int} {l : List (Int × List Int)} (h : Stg w F g B nx by_ l) : w.cell? ⟨g, 0, none⟩ = some (.int .i64 nx) := by
  rw [cell_of_row w g 0 _ _ _ h.blk]; rfl
theorem Stg.c1 {w : World} {F : Nat → Prop} {g B : Nat} {nx by_ : Int} {l : List (Int × List Int)} (h : Stg w F g B nx by_ l) : w.cell? ⟨g, 1, none⟩ = some (.int .i64 by_) := by
  rw [cell_of_row w g 1 _ _ _ h.blk]; rfl
theorem Stg.c2 {w : World} {F : Nat → Prop} {g B : Nat} {nx by_ : Int} {l : List (Int × List Int)} (h : Stg w F g B nx by_ l) : w.cell? ⟨g, 2, none⟩ = some (.map (some B)) := by
  rw [cell_of_row w g 2 _ _ _ h.blk]; rfl
theorem Stg.fz {w : World} {F : Nat → Prop} {g B : Nat} {nx by_ : Int} {l : List (Int × List Int)} (h : Stg w F g B nx by_ l) (i : Nat) : w.frozen? ⟨g, i, none⟩ = false := by
  simp [World.frozen?, h.blk]

theorem len_run {w : World} {B : Nat} {lv : List (Int × Value)} (h : IMap w B lv) (ty : TypeId) : (Builtin.len_ #[53] ty #[.map (some B)]).run Try.prog w = .ok (.int .i64 lv.length) w := run_ilen Try.underlying53 h ty

theorem count_call {w : World} {F : Nat → Prop} {g B : Nat} {nx by_ : Int} {l : List (Int × List Int)} (h : Stg w F g B nx by_ l) :
    Calls Try.prog 15 #[.pointer (some ⟨g, 0, none⟩)] w fun e w' => e = .returned (.int .i64 l.length) ∧ w = w' := by
  obtain ⟨lv, hm, hh⟩ := h.map
  have c2 := h.c2
  have hlen : lv.length = l.length := by simpa using congrArg List.length hh.keys
  have HL := Lib.hid hlen
  have hr := len_run hm 3
  clear hlen
  go_enter Try.func15, Try.ntmps15
  go_wp2
  go_ret
  exact ⟨ret_int (by rw [HL.out]), rfl⟩

theorem findAt_absent {k : Int} : ∀ {lv : List (Int × Value)} {i : Nat}, (∀ p ∈ lv, p.1 ≠ k) → findAt k lv i = none
  | [], _, _ => rfl
  | p :: r, i, h => by
    unfold findAt
    rw [if_neg (fun e => h p (by simp) e.symm)]
    exact findAt_absent fun q hq => h q (by simp [hq])

theorem Holds.snoc_nil {w : World} {F : Nat → Prop} {k : Int} : ∀ {lv : List (Int × Value)} {l : List (Int × List Int)}, Holds w F lv l → Holds w F (lv ++ [(k, .slice none 0 0)]) (l ++ [(k, [])])
  | _, _, .nil => .cons (World.ownsRow_nil _ _ _ _) (fun _ e => by cases e) (fun _ e => by cases e) .nil
  | _, _, .cons hr hf hd ht => .cons hr hf (fun b e p hp => by
      rcases List.mem_append.1 hp with hp | hp
      · exact hd b e p hp
      · simp at hp; subst hp; simp [Value.ownBlock]) ht.snoc_nil

theorem setMap_heap (w : World) (B : Nat) (o : Obj) {b : Nat} (hb : b ≠ B) : (setMap w B o).heap[b]? = w.heap[b]? := by
  unfold setMap
  simp only []
  rw [Array.getElem?_setIfInBounds_ne (Ne.symm hb)]

theorem heap_setCell_same {w : World} {g i : Nat} {cs : Array Value} {t : TypeId} {fr : Nat × Nat} (h : w.heap[g]? = some (.cells cs t fr)) (u : Value) : (w.setCell ⟨g, i, none⟩ u).heap[g]? = some (.cells (cs.setIfInBounds i u) t fr) := by
  simp [World.setCell, Array.getElem?_modify, h]

/-- The stage behind a change of its map and of its two numbers. -/
theorem Stg.turned {w w' : World} {F F' : Nat → Prop} {g B : Nat} {nx by_ nx' by' : Int} {l l' : List (Int × List Int)} (h : Stg w F g B nx by_ l) {lv' : List (Int × Value)}
    (hb : w'.heap[g]? = some (.cells #[.int .i64 nx', .int .i64 by', .map (some B)] 55 (0, 0))) (hm : IMap w' B lv') (hF : ∀ b, F b → F' b) (hh : Holds w' (fun b => F' b ∧ b ≠ g ∧ b ≠ B) lv' l') : Stg w' F' g B nx' by' l' :=
  ⟨hb, hF _ h.fg, hF _ h.fB, lv', hm, hh⟩

theorem begin_full {w : World} {F : Nat → Prop} {g B : Nat} {nx by_ : Int} {l : List (Int × List Int)} (h : Stg w F g B nx by_ l) (h8 : l.length = 8) :
    Calls Try.prog 12 #[.pointer (some ⟨g, 0, none⟩)] w fun e w' => e = .returned (.tuple #[.int .i64 0, .int .i64 131]) ∧ w = w' := by
  obtain ⟨lv, hm, hh⟩ := h.map
  have c2 := h.c2
  have hlen : lv.length = l.length := by simpa using congrArg List.length hh.keys
  have hr := len_run hm 3
  rw [hlen, h8] at hr
  clear hlen
  go_enter Try.func12, Try.ntmps12
  go_wp2
  go_ret2
  exact ⟨rfl, rfl⟩

theorem begin_call {w : World} {F : Nat → Prop} {g B : Nat} {nx by_ : Int} {l : List (Int × List Int)} (h : Stg w F g B nx by_ l) (h8 : l.length ≠ 8) (hk : ∀ p ∈ l, p.1 ≠ nx) (h0 : 0 ≤ nx) (h1 : nx ≤ 4611686018427387904) :
    Calls Try.prog 12 #[.pointer (some ⟨g, 0, none⟩)] w fun e w' => e = .returned (.tuple #[.int .i64 nx, .int .i64 0]) ∧ Stg w' F g B (nx + 1) by_ (l ++ [(nx, [])]) ∧ Touch F w w' ∧ w'.heap.size = w.heap.size := by
  obtain ⟨lv, hm, hh⟩ := h.map
  have c2 := h.c2
  have c0 := h.c0
  have z0 := h.fz 0
  have hne := h.ne
  have hlen : lv.length = l.length := by simpa using congrArg List.length hh.keys
  have hr := len_run hm 3
  have e8 : ((lv.length : Int) == 8) = false := by rw [beq_eq_false_iff_ne]; omega
  have hkl : ∀ p ∈ lv, p.1 ≠ nx := fun p hp => by
    have hp' : p.1 ∈ lv.map (·.1) := List.mem_map_of_mem hp
    rw [hh.keys] at hp'
    obtain ⟨q, hq, e⟩ := List.mem_map.1 hp'
    rw [← e]
    exact hk q hq
  obtain ⟨o, hu, hm'⟩ := run_iupdate Try.underlying53 Try.underlying3 hm nx (.slice none 0 0)
  rw [(findAt_none (v := .slice none 0 0) (findAt_absent (i := 0) hkl)).1] at hm'
  have hblk : (setMap w B o).heap[g]? = some (.cells #[.int .i64 nx, .int .i64 by_, .map (some B)] 55 (0, 0)) := (setMap_heap w B o (Ne.symm hne)).trans h.blk
  have d0 : (setMap w B o).cell? ⟨g, 0, none⟩ = some (.int .i64 nx) := by rw [cell_of_row _ g 0 _ _ _ hblk]; rfl
  have y0 : (setMap w B o).frozen? ⟨g, 0, none⟩ = false := by simp [World.frozen?, hblk]
  have HK := Lib.hid hm'
  have HH := Lib.hid hh
  have HBk := Lib.hid hblk
  have HE := Lib.hid hne
  clear hm' hh hblk hlen hkl hm hk hne
  go_enter Try.func12, Try.ntmps12
  go_wp2
  go_ret2
  have hg : Touch F w (setMap w B o) := Touch.of_grown (setMap_grown w B o) (fun k e => by cases e; exact h.fB)
  refine ⟨rfl, h.turned (heap_setCell_same HBk.out _) (HK.out.of_heap (Below.heap_setCell _ _ _ _ HE.out)) (fun _ hb => hb) ?_, hg.setCell h.fg _, by simp [setMap]⟩
  refine HH.out.snoc_nil.keep fun b hb => ?_
  rw [Below.heap_setCell _ _ _ _ hb.2.1]
  exact setMap_heap w B o hb.2.2

theorem new_call (w : World) : Calls Try.prog 11 #[] w fun e w' => e = .returned (.pointer (some ⟨w.heap.size + 1, 0, none⟩)) ∧ Below w.heap.size w w' ∧ w'.heap.size = w.heap.size + 2 ∧
    Stg w' (fun b => b = w.heap.size ∨ b = w.heap.size + 1) (w.heap.size + 1) w.heap.size 0 0 [] := by
  have hmm := @run_makeMap Try.prog
  go_enter Try.func11, Try.ntmps11
  go_wp2
  go_ret
  refine ⟨rfl, by go_grown, by simp, ⟨?_, .inr rfl, .inl rfl, [], ⟨#[], 0, ?_, rfl⟩, .nil⟩⟩
  · have := heap_alloc_new (w.alloc (.map #[] 0)) (.cells #[.int .i64 0, .int .i64 0, .map (some w.heap.size)] 55)
    simpa using this
  · rw [Below.heap_alloc _ _ _ (by simp)]
    exact heap_alloc_new w _

/-- What the map holds at a session's number. -/
theorem Holds.find {w : World} {F : Nat → Prop} {k : Int} {bs : List Int} : ∀ {lv : List (Int × Value)} {l : List (Int × List Int)} (i : Nat), Holds w F lv l → (∃ r, l.find? (fun p => p.1 == k) = some r ∧ r.2 = bs) →
    ∃ j v, findAt k lv i = some (j, v) ∧ BRow w v bs ∧ (∀ b, v.ownBlock = some b → F b)
  | _, _, _, .nil, h => by obtain ⟨r, h, _⟩ := h; simp at h
  | _, _, i, .cons (k := k0) (v := v0) (bs := bs0) hr hf hd ht, h => by
    obtain ⟨r, h, hb⟩ := h
    by_cases hk : k = k0
    · subst hk
      simp at h
      subst h
      simp only at hb
      subst hb
      exact ⟨i, v0, by simp [findAt], hr, hf⟩
    · have hk' : (k0 == k) = false := by simp; exact fun e => hk e.symm
      simp [List.find?_cons, hk'] at h
      obtain ⟨j, v, a, b, c⟩ := Holds.find (i + 1) ht ⟨r, h, hb⟩
      exact ⟨j, v, by simp [findAt, hk, a], b, c⟩

def cut (k : Int) : List (Int × List Int) → List (Int × List Int)
  | [] => []
  | p :: r => if k = p.1 then r else p :: cut k r

theorem mem_delAt {k : Int} {p : Int × Value} : ∀ {lv : List (Int × Value)}, p ∈ delAt k lv → p ∈ lv
  | [], h => h
  | q :: r, h => by
    unfold delAt at h
    split at h
    · exact List.mem_cons_of_mem _ h
    · rcases List.mem_cons.1 h with rfl | h
      · exact List.mem_cons_self
      · exact List.mem_cons_of_mem _ (mem_delAt h)

theorem Holds.del {w : World} {F : Nat → Prop} {k : Int} : ∀ {lv : List (Int × Value)} {l : List (Int × List Int)}, Holds w F lv l → Holds w F (delAt k lv) (cut k l)
  | _, _, .nil => .nil
  | _, _, .cons (k := k0) hr hf hd ht => by
    unfold delAt cut
    by_cases hk : k = k0
    · simp only [hk, if_true]; exact ht
    · simp only [hk, if_false]
      exact .cons hr hf (fun b e p hp => hd b e p (mem_delAt hp)) ht.del

/-- The blocks of the rows that stay are not the block of the row that goes. -/
theorem Holds.apart {w : World} {F : Nat → Prop} {k : Int} {j : Nat} {v : Value} : ∀ {lv : List (Int × Value)} {l : List (Int × List Int)} {i : Nat}, Holds w F lv l → findAt k lv i = some (j, v) →
    Holds w (fun b => F b ∧ v.ownBlock ≠ some b) (delAt k lv) (cut k l)
  | _, _, _, .nil, h => by cases h
  | _, _, i, .cons (k := k0) (v := v0) hr hf hd ht, h => by
    unfold findAt at h
    unfold delAt cut
    by_cases hk : k = k0
    · simp only [hk, if_true] at h ⊢
      cases h
      refine Holds.sharpen ht fun p hp b e => ?_
      intro e2
      exact hd b e2 p hp e
    · simp only [hk, if_false] at h ⊢
      have ih := Holds.apart ht h
      obtain ⟨p, hp, rfl⟩ := findAt_mem h
      exact .cons hr (fun b e => ⟨hf b e, fun e2 => hd b e p hp e2⟩) (fun b e q hq => hd b e q (mem_delAt hq)) ih
where
  findAt_mem {k : Int} {j : Nat} {v : Value} : ∀ {lv : List (Int × Value)} {i : Nat}, findAt k lv i = some (j, v) → ∃ p ∈ lv, p.2 = v
    | [], _, h => by cases h
    | q :: r, i, h => by
      unfold findAt at h
      split at h
      · cases h; exact ⟨q, List.mem_cons_self, rfl⟩
      · obtain ⟨p, hp, e⟩ := findAt_mem h
        exact ⟨p, List.mem_cons_of_mem _ hp, e⟩
  Holds.sharpen {w : World} {F G : Nat → Prop} : ∀ {lv : List (Int × Value)} {l : List (Int × List Int)}, Holds w F lv l → (∀ p ∈ lv, ∀ b, p.2.ownBlock = some b → G b) → Holds w (fun b => F b ∧ G b) lv l
    | _, _, .nil, _ => .nil
    | _, _, .cons hr hf hd ht, h => .cons hr (fun b e => ⟨hf b e, h _ List.mem_cons_self b e⟩) hd (Holds.sharpen ht fun p hp => h p (List.mem_cons_of_mem _ hp))

theorem Holds.absent {w : World} {F : Nat → Prop} {k : Int} {lv : List (Int × Value)} {l : List (Int × List Int)} (hh : Holds w F lv l) (hk : ∀ p ∈ l, p.1 ≠ k) : findAt k lv 0 = none := by
  refine findAt_absent fun p hp => ?_
  have hp' : p.1 ∈ lv.map (·.1) := List.mem_map_of_mem hp
  rw [hh.keys] at hp'
  obtain ⟨q, hq, e⟩ := List.mem_map.1 hp'
  rw [← e]
  exact hk q hq

theorem zero29 (w : World) : (zeroValue 29).run Try.prog w = .ok (.slice none 0 0) w := by kernel_rfl

theorem take_absent {w : World} {F : Nat → Prop} {g B : Nat} {nx by_ : Int} {l : List (Int × List Int)} (h : Stg w F g B nx by_ l) (k : Int) (hk : ∀ p ∈ l, p.1 ≠ k) :
    Calls Try.prog 14 #[.pointer (some ⟨g, 0, none⟩), .int .i64 k] w fun e w' => e = .returned (.tuple #[.slice none 0 0, .int .i64 130]) ∧ w = w' := by
  obtain ⟨lv, hm, hh⟩ := h.map
  have c2 := h.c2
  have hrun := run_ilookup Try.underlying53 Try.underlying3 hm k (.slice none 0 0) (zero29 w)
  rw [hh.absent hk] at hrun
  simp only [Option.map_none, Option.getD_none, Option.isSome_none] at hrun
  clear hm hh hk
  go_enter Try.func14, Try.ntmps14
  go_wp2
  go_ret2
  exact ⟨rfl, rfl⟩

theorem BRow.form {w : World} {v : Value} {bs : List Int} (h : BRow w v bs) : ∃ A cap, v = .slice A bs.length cap := by
  rcases h.2 with ⟨rfl, h0⟩ | ⟨g, cap, cur, rfl, _⟩
  · exact ⟨none, 0, by rw [h0]⟩
  · exact ⟨_, cap, rfl⟩

theorem take_call {w : World} {F : Nat → Prop} {g B : Nat} {nx by_ : Int} {l : List (Int × List Int)} (h : Stg w F g B nx by_ l) (k : Int) (bs : List Int) (hl : ∃ r, l.find? (fun p => p.1 == k) = some r ∧ r.2 = bs)
    (h0 : 0 ≤ by_) (h1 : by_ ≤ 2048) (h2 : bs.length ≤ 2048) :
    Calls Try.prog 14 #[.pointer (some ⟨g, 0, none⟩), .int .i64 k] w fun e w' => ∃ A cap, e = .returned (.tuple #[.slice A bs.length cap, .int .i64 0]) ∧ BRow w' (.slice A bs.length cap) bs ∧
      (∀ b, (Value.slice A bs.length cap).ownBlock = some b → F b ∧ b ≠ g ∧ b ≠ B) ∧
      Stg w' (fun b => F b ∧ (Value.slice A bs.length cap).ownBlock ≠ some b) g B nx (by_ - bs.length) (cut k l) ∧ Touch F w w' ∧ w'.heap.size = w.heap.size := by
  obtain ⟨lv, hm, hh⟩ := h.map
  have c2 := h.c2
  have c1 := h.c1
  have hne := h.ne
  obtain ⟨j, v, hf, hr, hF⟩ := hh.find 0 hl
  obtain ⟨A, cap, rfl⟩ := hr.form
  have hrun := run_ilookup Try.underlying53 Try.underlying3 hm k (.slice none 0 0) (zero29 w)
  rw [hf] at hrun
  simp only [Option.map_some, Option.getD_some, Option.isSome_some] at hrun
  have hap := hh.apart hf
  obtain ⟨o, hu, hm'⟩ := run_idelete Try.underlying53 Try.underlying3 hm k 0
  have hblk : (setMap w B o).heap[g]? = some (.cells #[.int .i64 nx, .int .i64 by_, .map (some B)] 55 (0, 0)) := (setMap_heap w B o (Ne.symm hne)).trans h.blk
  have d1 : (setMap w B o).cell? ⟨g, 1, none⟩ = some (.int .i64 by_) := by rw [cell_of_row _ g 1 _ _ _ hblk]; rfl
  have y1 : (setMap w B o).frozen? ⟨g, 1, none⟩ = false := by simp [World.frozen?, hblk]
  have HK := Lib.hid hm'
  have HH := Lib.hid hap
  have HR := Lib.hid hr
  have HF := Lib.hid hF
  have HBk := Lib.hid hblk
  have HE := Lib.hid hne
  clear hm' hh hblk hm hne hap hr hF hf hl
  go_enter Try.func14, Try.ntmps14
  go_wp2
  go_ret2
  have hg : Touch F w (setMap w B o) := Touch.of_grown (setMap_grown w B o) (fun k e => by cases e; exact h.fB)
  have keep : ∀ b, b ≠ g → b ≠ B → ((setMap w B o).setCell ⟨g, 1, none⟩ (.int .i64 (by_ - bs.length))).heap[b]? = w.heap[b]? := fun b h1 h2 => by
    rw [Below.heap_setCell _ _ _ _ h1]; exact setMap_heap w B o h2
  refine ⟨A, cap, rfl, HR.out.keep fun b e => keep b (HF.out b e).2.1 (HF.out b e).2.2, HF.out, ⟨heap_setCell_same HBk.out _, ⟨h.fg, fun e => (HF.out g e).2.1 rfl⟩, ⟨h.fB, fun e => (HF.out B e).2.2 rfl⟩, _, HK.out.of_heap (Below.heap_setCell _ _ _ _ HE.out), ?_⟩, hg.setCell h.fg _, by simp [setMap]⟩
  have hh2 := HH.out.keep (w' := (setMap w B o).setCell ⟨g, 1, none⟩ (.int .i64 (by_ - bs.length))) fun b hb => keep b hb.1.2.1 hb.1.2.2
  exact hh2.imp fun b hb => ⟨⟨hb.1.1, hb.2⟩, hb.1.2⟩

def upd (k : Int) (bs : List Int) : List (Int × List Int) → List (Int × List Int)
  | [] => []
  | p :: r => if k = p.1 then (k, bs) :: r else p :: upd k bs r

theorem BRow.lt {w : World} {v : Value} {bs : List Int} (h : BRow w v bs) {b : Nat} (e : v.ownBlock = some b) : b < w.heap.size := (World.ownsRow.lt (w := w) h b e).2

theorem mem_putAt {k : Int} {v : Value} {p : Int × Value} : ∀ {lv : List (Int × Value)}, p ∈ putAt k v lv → p.2 = v ∨ p ∈ lv
  | [], h => by simp [putAt] at h; exact .inl (by rw [h])
  | q :: r, h => by
    unfold putAt at h
    split at h
    · rcases List.mem_cons.1 h with rfl | h
      · exact .inl rfl
      · exact .inr (List.mem_cons_of_mem _ h)
    · rcases List.mem_cons.1 h with rfl | h
      · exact .inr List.mem_cons_self
      · rcases mem_putAt h with h | h
        · exact .inl h
        · exact .inr (List.mem_cons_of_mem _ h)

theorem Holds.rows {w : World} {F : Nat → Prop} : ∀ {lv : List (Int × Value)} {l : List (Int × List Int)}, Holds w F lv l → ∀ p ∈ lv, ∀ b, p.2.ownBlock = some b → F b ∧ b < w.heap.size
  | _, _, .nil, _, hp, _, _ => by cases hp
  | _, _, .cons hr hf hd ht, p, hp, b, e => by
    rcases List.mem_cons.1 hp with rfl | hp
    · exact ⟨hf b e, hr.lt e⟩
    · exact ht.rows p hp b e

theorem Holds.put {w w1 : World} {F : Nat → Prop} {k : Int} {v v' : Value} {bs' : List Int} (hr' : BRow w1 v' bs') (hk : ∀ b, F b → b < w.heap.size → v.ownBlock ≠ some b → w1.heap[b]? = w.heap[b]?)
    (hat : ∀ b, v'.ownBlock = some b → v.ownBlock = some b ∨ w.heap.size ≤ b) :
    ∀ {lv : List (Int × Value)} {l : List (Int × List Int)} {i j : Nat}, Holds w F lv l → findAt k lv i = some (j, v) → Holds w1 (fun b => F b ∨ v'.ownBlock = some b) (putAt k v' lv) (upd k bs' l)
  | _, _, _, _, .nil, h => by cases h
  | _, _, i, _, .cons (k := k0) (v := v0) (lv := lv) hr hf hd ht, h => by
    unfold findAt at h
    unfold putAt upd
    by_cases hkk : k = k0
    · simp only [hkk, if_true] at h ⊢
      cases h
      refine .cons hr' (fun b e => .inr e) (fun b e p hp e2 => ?_) ?_
      · rcases hat b e with h | h
        · exact hd b h p hp e2
        · have := (ht.rows p hp b e2).2
          omega
      · refine Holds.imp (fun b hb => .inl hb) (Holds.moved ht fun p hp b e => hk b (ht.rows p hp b e).1 (ht.rows p hp b e).2 fun e2 => hd b e2 p hp e)
    · simp only [hkk, if_false] at h ⊢
      obtain ⟨p, hp, rfl⟩ := Holds.apart.findAt_mem h
      refine .cons (hr.keep fun b e => hk b (hf b e) (hr.lt e) fun e2 => hd b e p hp e2) (fun b e => .inl (hf b e)) (fun b e q hq e2 => ?_) (Holds.put hr' hk hat ht h)
      rcases mem_putAt hq with h2 | h2
      · rw [h2] at e2
        rcases hat b e2 with h3 | h3
        · exact hd b e p hp h3
        · have := hr.lt e
          omega
      · exact hd b e q h2 e2
where
  Holds.moved {w w1 : World} {F : Nat → Prop} : ∀ {lv : List (Int × Value)} {l : List (Int × List Int)}, Holds w F lv l → (∀ p ∈ lv, ∀ b, p.2.ownBlock = some b → w1.heap[b]? = w.heap[b]?) → Holds w1 F lv l
    | _, _, .nil, _ => .nil
    | _, _, .cons hr hf hd ht, h => .cons (hr.keep fun b e => h _ List.mem_cons_self b e) hf hd (Holds.moved ht fun p hp => h p (List.mem_cons_of_mem _ hp))

theorem add_absent {w : World} {F : Nat → Prop} {g B : Nat} {nx by_ : Int} {l : List (Int × List Int)} (h : Stg w F g B nx by_ l) (k : Int) (hk : ∀ p ∈ l, p.1 ≠ k) (A : Option Addr) (m c : Nat) :
    Calls Try.prog 13 #[.pointer (some ⟨g, 0, none⟩), .int .i64 k, .slice A m c] w fun e w' => e = .returned (.int .i64 130) ∧ w = w' := by
  obtain ⟨lv, hm, hh⟩ := h.map
  have c2 := h.c2
  have hrun := run_ilookup Try.underlying53 Try.underlying3 hm k (.slice none 0 0) (zero29 w)
  rw [hh.absent hk] at hrun
  simp only [Option.map_none, Option.getD_none, Option.isSome_none] at hrun
  clear hm hh hk
  go_enter Try.func13, Try.ntmps13
  go_wp2
  go_ret
  exact ⟨rfl, rfl⟩

theorem add_refused {w : World} {F : Nat → Prop} {g B : Nat} {nx by_ : Int} {l : List (Int × List Int)} (h : Stg w F g B nx by_ l) (k : Int) (bs : List Int) (hl : ∃ r, l.find? (fun p => p.1 == k) = some r ∧ r.2 = bs) (A : Option Addr) (m c : Nat)
    (h0 : 0 ≤ by_) (h1 : by_ ≤ 2048) (h2 : bs.length ≤ 512) (h3 : m ≤ 140737488355328) (hx : 512 < bs.length + m ∨ 2048 < by_ + m) :
    Calls Try.prog 13 #[.pointer (some ⟨g, 0, none⟩), .int .i64 k, .slice A m c] w fun e w' => e = .returned (.int .i64 (if 512 < bs.length + m then 5 else 131)) ∧ w = w' := by
  obtain ⟨lv, hm, hh⟩ := h.map
  have c2 := h.c2
  have c1 := h.c1
  obtain ⟨j, v, hf, hr, hF⟩ := hh.find 0 hl
  obtain ⟨A', cap, rfl⟩ := hr.form
  have hrun := run_ilookup Try.underlying53 Try.underlying3 hm k (.slice none 0 0) (zero29 w)
  rw [hf] at hrun
  simp only [Option.map_some, Option.getD_some, Option.isSome_some] at hrun
  clear hm hh hF hr hf hl
  by_cases hy : 512 < bs.length + m
  · rw [if_pos hy]
    go_enter Try.func13, Try.ntmps13
    go_wp2
    go_ret
    exact ⟨rfl, rfl⟩
  · rw [if_neg hy]
    have hx' : 2048 < by_ + m := by omega
    clear hx
    go_enter Try.func13, Try.ntmps13
    go_wp2
    go_ret
    exact ⟨rfl, rfl⟩

theorem info5 : (Try.prog.info? 5).map (fun i => (i.zero, i.size, i.bytes)) = some (some (.int .u8 0), 1, 1) := by kernel_rfl

theorem u8s_one (bs : List Int) : ∀ u ∈ u8s bs, u.oneCell' = true := fun u hu => by
  obtain ⟨_, _, rfl⟩ := List.mem_map.1 hu
  rfl

set_option maxHeartbeats 1000000 in
theorem add_call {w : World} {F : Nat → Prop} {g B : Nat} {nx by_ : Int} {l : List (Int × List Int)} (h : Stg w F g B nx by_ l) (k : Int) (bs : List Int) (hl : ∃ r, l.find? (fun p => p.1 == k) = some r ∧ r.2 = bs)
    (A : Option Addr) (c : Nat) (ys : List Int) (hs : Src w 1 A ys.length (u8s ys)) (h0 : 0 ≤ by_) (h2 : bs.length + ys.length ≤ 512) (h1 : by_ + ys.length ≤ 2048) :
    Calls Try.prog 13 #[.pointer (some ⟨g, 0, none⟩), .int .i64 k, .slice A ys.length c] w fun e w' => e = .returned (.int .i64 0) ∧
      ∃ F' : Nat → Prop, Stg w' F' g B nx (by_ + ys.length) (upd k (bs ++ ys) l) ∧ (∀ b, F b → F' b) ∧ (∀ b, F' b → F b ∨ (w.heap.size ≤ b ∧ b < w'.heap.size)) ∧ Touch F w w' := by
  obtain ⟨lv, hm, hh⟩ := h.map
  obtain ⟨i0, hi0, hz0, hz1, hz2⟩ := info_parts info5
  have c2 := h.c2
  have c1 := h.c1
  have hne := h.ne
  have hg := lt_of_block h.blk
  obtain ⟨j, v, hf, hr, hF⟩ := hh.find 0 hl
  obtain ⟨A', cap, rfl⟩ := hr.form
  have hrun := run_ilookup Try.underlying53 Try.underlying3 hm k (.slice none 0 0) (zero29 w)
  rw [hf] at hrun
  simp only [Option.map_some, Option.getD_some, Option.isSome_some] at hrun
  have hrow : w.drew.ownsRow 0 5 1 (.slice A' bs.length cap) bs.length (u8s bs) := hr
  have hs' : Src w.drew 1 A ys.length (u8s ys) := ⟨hs.len, hs.at_⟩
  have hblk0 : Hid (w.drew.heap[g]? = some (.cells #[.int .i64 nx, .int .i64 by_, .map (some B)] 55 (0, 0))) := h.blk
  have hB0 := h.fB
  have hBl := (h.map).choose_spec.1.lt
  have HM := Lib.hid hm
  have HH := Lib.hid hh
  have HR := Lib.hid hr
  have HF := Lib.hid hF
  have HE := Lib.hid hne
  have HFi := Lib.hid hf
  have HRow := Lib.hid hrow
  clear hm hh hr hF hne hf hl hrow
  go_enter Try.func13, Try.ntmps13
  go_wp2_with fail
  go_region_held3 (fun w' => w'.cell? ⟨g, 2, none⟩ = some (.map (some B)))
    (first | go_keep | assumption)
    (first
      | ((refine step_app rfl (.tmp 42) (.tmp 43) 29 rfl 0 5 i0 _ 1 1 Try.underlying29 hi0 hz0 hz1 hz2 rfl (by omega) (.slice A' bs.length cap) bs.length (u8s bs) rfl HRow.out A ys.length c (u8s ys) rfl hs' (u8s_one ys) (by unfold maxLen; omega) (by omega) (by omega) ?_); intro v1 w1 hown1 hgrow1 hat1; have hb1 := (hgrow1.block g hg (fun e => (HF.out g e.symm).2.1 rfl)).trans hblk0.out; obtain ⟨o, hu, hm'⟩ := run_iupdate Try.underlying53 Try.underlying3 (HM.out.of_heap (hgrow1.block B hBl (fun e => (HF.out B e.symm).2.2 rfl))) k v1; have hb2 := (setMap_heap w1 B o (Ne.symm HE.out)).trans hb1; have e2 : w1.cell? ⟨g, 2, none⟩ = some (.map (some B)) := by rw [cell_of_row _ g 2 _ _ _ hb1]; rfl
         have f2 : (setMap w1 B o).cell? ⟨g, 2, none⟩ = some (.map (some B)) := by rw [cell_of_row _ g 2 _ _ _ hb2]; rfl
         have f1 : (setMap w1 B o).cell? ⟨g, 1, none⟩ = some (.int .i64 by_) := by rw [cell_of_row _ g 1 _ _ _ hb2]; rfl
         have y1 : (setMap w1 B o).frozen? ⟨g, 1, none⟩ = false := by simp [World.frozen?, hb2]
         have HB2 := Lib.hid hb2
         have HM2 := Lib.hid hm'
         clear hb1 hb2 hm'))
  all_goals go_wp2
  go_ret
  have hsz : w.heap.size ≤ w1.heap.size := hgrow1.size
  have hrow1 : BRow w1 v1 (bs ++ ys) := by
    unfold BRow u8s
    rw [List.length_append, List.map_append]
    exact hown1
  have hvb : ∀ b, v1.ownBlock = some b → b ≠ g ∧ b ≠ B ∧ (F b ∨ w.heap.size ≤ b) ∧ b < w1.heap.size := fun b e => by
    refine ⟨?_, ?_, ?_, hrow1.lt e⟩
    · rcases hat1 with h3 | h3
      · exact (HF.out b (h3.symm.trans e)).2.1
      · have : w.heap.size = b := Option.some.inj (h3.symm.trans e)
        omega
    · rcases hat1 with h3 | h3
      · exact (HF.out b (h3.symm.trans e)).2.2
      · have : w.heap.size = b := Option.some.inj (h3.symm.trans e)
        omega
    · rcases hat1 with h3 | h3
      · exact .inl (HF.out b (h3.symm.trans e)).1
      · have : w.heap.size = b := Option.some.inj (h3.symm.trans e)
        exact .inr (by omega)
  have hput := Holds.put (w := w) (w1 := w1) hrow1 (fun b _ hlt hn => (hgrow1.block b hlt (fun e => hn e.symm)).trans rfl) (fun b e => by
    rcases hat1 with h3 | h3
    · exact .inl (h3.symm.trans e)
    · have : w.heap.size = b := Option.some.inj (h3.symm.trans e)
      exact .inr (by omega)) HH.out HFi.out
  have keep : ∀ b, b ≠ g → b ≠ B → ((setMap w1 B o).setCell ⟨g, 1, none⟩ (.int .i64 (by_ + ys.length))).heap[b]? = w1.heap[b]? := fun b h1 h2 => by
    rw [Below.heap_setCell _ _ _ _ h1]; exact setMap_heap w1 B o h2
  have hT : Touch F w w1 := (Touch.of_grown hgrow1 (fun b e => (HF.out b e).1) : Touch F w.drew w1).mono' rfl
  refine ⟨rfl, fun b => F b ∨ v1.ownBlock = some b, ⟨heap_setCell_same HB2.out _, .inl h.fg, .inl h.fB, _, HM2.out.of_heap (Below.heap_setCell _ _ _ _ HE.out), ?_⟩, fun b hb => .inl hb, fun b hb => ?_, ?_⟩
  · refine (hput.keep fun b hb => ?_).imp fun b hb => ?_
    · rcases hb with hb | hb
      · exact keep b hb.2.1 hb.2.2
      · exact keep b (hvb b hb).1 (hvb b hb).2.1
    · rcases hb with hb | hb
      · exact ⟨.inl hb.1, hb.2⟩
      · exact ⟨.inr hb, (hvb b hb).1, (hvb b hb).2.1⟩
  · rcases hb with hb | hb
    · exact .inl hb
    · rcases (hvb b hb).2.2.1 with h3 | h3
      · exact .inl h3
      · exact .inr ⟨h3, by simpa [setMap] using (hvb b hb).2.2.2⟩
  · exact (hT.trans (Touch.of_grown (setMap_grown w1 B o) (fun k e => by cases e; exact h.fB))).setCell h.fg _

theorem abort_absent {w : World} {F : Nat → Prop} {g B : Nat} {nx by_ : Int} {l : List (Int × List Int)} (h : Stg w F g B nx by_ l) (k : Int) (hk : ∀ p ∈ l, p.1 ≠ k) :
    Calls Try.prog 21 #[.pointer (some ⟨g, 0, none⟩), .int .i64 k] w fun e w' => e = .returned (.int .i64 130) ∧ w = w' := by
  go_enter Try.func21, Try.ntmps21
  go_wp2_with (go_at_call 14; refine (take_absent h k hk).mono ?_; rintro e w' ⟨rfl, rfl⟩)
  go_ret
  exact ⟨rfl, rfl⟩

theorem abort_call {w : World} {F : Nat → Prop} {g B : Nat} {nx by_ : Int} {l : List (Int × List Int)} (h : Stg w F g B nx by_ l) (k : Int) (bs : List Int) (hl : ∃ r, l.find? (fun p => p.1 == k) = some r ∧ r.2 = bs)
    (h0 : 0 ≤ by_) (h1 : by_ ≤ 2048) (h2 : bs.length ≤ 2048) :
    Calls Try.prog 21 #[.pointer (some ⟨g, 0, none⟩), .int .i64 k] w fun e w' => e = .returned (.int .i64 0) ∧ (∃ F' : Nat → Prop, Stg w' F' g B nx (by_ - bs.length) (cut k l) ∧ ∀ b, F' b → F b) ∧ Touch F w w' ∧ w'.heap.size = w.heap.size := by
  go_enter Try.func21, Try.ntmps21
  go_wp2_with (go_at_call 14; refine (take_call h k bs hl h0 h1 h2).mono ?_; rintro e w' ⟨A, cap, rfl, hr, hF, hS, hT, hz⟩)
  go_ret
  exact ⟨rfl, ⟨_, hS, fun b hb => hb.1⟩, hT, hz⟩
end Go.Proofs.Ytjpkendpnpkbeaa
