/- What is handed in reads as an answer. -/
import Derived.Test.YtlibjfmafpiopaaGreatDoorOpen
namespace Go.Proofs.YtlibjfmafpiopaaGreatDoor
open Go.RowKit Go.Shelf Scr Go.ChangeShapes Go.WideShapes Go.ChangeAt
set_option maxRecDepth 100000

section
variable {H : Type} {enc : TypeId × Value → H}

theorem cut (n m : Nat) {α : Type} (l : List α) : l.drop n = (l.drop n).take m ++ l.drop (n + m) := by
  have := List.take_append_drop m (l.drop n)
  rw [List.drop_drop] at this
  exact this.symm

theorem u8s_of : ∀ {l : List Value}, (∀ i, i < l.length → ∃ x : Int, l[i]? = some (.int .u8 x) ∧ 0 ≤ x ∧ x ≤ 255) → ∃ xs : List Int, l = u8s xs ∧ ∀ x ∈ xs, 0 ≤ x ∧ x ≤ 255
  | [], _ => ⟨[], rfl, by simp⟩
  | v :: l, h => by
    obtain ⟨x, h0, h1⟩ := h 0 (by simp)
    obtain ⟨xs, rfl, h3⟩ := u8s_of (l := l) fun i hi => by
      obtain ⟨y, q1, q2⟩ := h (i + 1) (by simpa using hi)
      exact ⟨y, by simpa using q1, q2⟩
    have e : v = .int .u8 x := by simpa using h0
    subst e
    refine ⟨x :: xs, rfl, fun y hy => ?_⟩
    rcases List.mem_cons.1 hy with rfl | hy
    · exact h1
    · exact h3 y hy

theorem LWcells39 : Tryz.prog.cellsOf 39 = 32 := by kernel_rfl
theorem LWcells41 : Tryz.prog.cellsOf 41 = 37 := by kernel_rfl
theorem LWcells44 : Tryz.prog.cellsOf 44 = 33 := by kernel_rfl
theorem LWcells47 : Tryz.prog.cellsOf 47 = 75 := by kernel_rfl
theorem LWcells5 : Tryz.prog.cellsOf 5 = 1 := by kernel_rfl
theorem LWcells4 : Tryz.prog.cellsOf 4 = 1 := by kernel_rfl
theorem LWcells24 : Tryz.prog.cellsOf 24 = 1 := by kernel_rfl
theorem LWcells42 : Tryz.prog.cellsOf 42 = 1 := by kernel_rfl
theorem LWcells45 : Tryz.prog.cellsOf 45 = 1 := by kernel_rfl

/-- 32 cells that read as a hash. -/
theorem open_hash {W : World} {n : Nat} {cs : List Value} {y : DataW H × List MemPlace} (h : DataW.trod enc Tryz.prog W 0 (fun _ => true) true n 39 cs = some y) : ∃ xs : List Int, cs = u8s xs ∧ xs.length = 32 ∧ ∀ x ∈ xs, 0 ≤ x ∧ x ≤ 255 := by
  obtain ⟨zs, m, _, _, hl, hz, hf⟩ := DataW.trod_array Tryz.underlying39 h
  rw [LWcells39] at hl
  rw [LWcells5] at hf
  obtain ⟨xs, rfl, hx⟩ := u8s_of (l := cs) fun i hi => by
    have h1 := hf i (by omega)
    rw [Nat.mul_one, List.getElem?_eq_getElem (by omega)] at h1
    obtain ⟨x, e, _, hw⟩ := DataW.trod_int Tryz.underlying5 h1
    refine ⟨x, ?_, u8_bd hw⟩
    have : (cs.drop i)[0]? = some (.int .u8 x) := by
      have h2 := congrArg (fun l => l[0]?) e
      simpa using h2
    simpa using this
  exact ⟨xs, rfl, by simpa [u8s] using hl, hx⟩

/-- A slice of strings. -/
theorem open_ids {W : World} {n : Nat} {cs : List Value} {y : DataW H × List MemPlace} (h : DataW.trod enc Tryz.prog W 0 (fun _ => true) true n 42 cs = some y) (hk : Rows.uptoBulk y.1 ≤ 1048576) :
    ∃ A c ids, cs = [.slice A (ids : List Bs).length c] ∧ ids.length ≤ 1048576 ∧ (∀ l ∈ ids, l.length ≤ 1048576) ∧ (0 < ids.length → ∃ b off, A = some ⟨b, off, none⟩ ∧ b < W.heap.size ∧ ∀ j l, ids[j]? = some l → W.cell? ⟨b, off + j, none⟩ = some (.string ⟨l.toArray⟩)) := by
  rcases Deep.open_slice1 Tryz.underlying42 LWcells9 h with ⟨hcs, _⟩ | ⟨a, len, cap, m, n, V, D, Pl, hcs, _, hl, hm, hmm, hx, hi⟩
  · exact ⟨none, 0, [], hcs, by simp, by simp, fun h => absurd h (by simp)⟩
  · simp only [if_true] at hmm
    subst hcs; subst hx
    have h1 := bulk_len ((List.range len).map D)
    rw [List.length_map, List.length_range] at h1
    simp only [Rows.uptoBulk] at hk
    have each : ∀ i, i < len → ∃ l : Bs, l.length ≤ 1048576 ∧ W.cell? (a.add i) = some (.string ⟨l.toArray⟩) := fun i hil => by
      obtain ⟨g1, g2⟩ := hi i (by omega)
      obtain ⟨s, e1, e2, _⟩ := DataW.trod_string Tryz.underlying9 g2
      have e3 : D i = .lit (.string s.data.toList) := congrArg Prod.fst e2
      have hp := bulk_part (d := D i) (l := (List.range len).map D) (List.mem_map.2 ⟨i, List.mem_range.2 hil, rfl⟩)
      rw [e3] at hp
      simp only [Rows.uptoBulk] at hp
      refine ⟨s.data.toList, by omega, ?_⟩
      rw [g1, ba_eta]
      simpa using e1
    obtain ⟨R, hR⟩ := Deep.choose_lt (α := Bs) (p := fun i l => l.length ≤ 1048576 ∧ W.cell? (a.add i) = some (.string ⟨l.toArray⟩)) each
    have hrl : ((List.range len).map R).length = len := by simp
    refine ⟨some a, cap, (List.range len).map R, by rw [hrl], by rw [hrl]; omega, fun l hl2 => ?_, fun h0 => ?_⟩
    · obtain ⟨i, q1, rfl⟩ := List.mem_map.1 hl2
      exact (hR i (List.mem_range.1 q1)).1
    · rw [hrl] at h0
      obtain ⟨b, off, spot⟩ := a
      have hspot : spot = none := by simpa [Addr.add] using World.cell?_spot (hR 0 h0).2
      subst hspot
      refine ⟨b, off, rfl, ?_, fun j l hj => ?_⟩
      · have := World.block_lt_of_cell? W _ (hR 0 h0).2
        simpa [Addr.add] using this
      · have hjl : j < len := by
          have := (List.getElem?_eq_some_iff.1 hj).1
          rwa [hrl] at this
        rw [List.getElem?_map, List.getElem?_range hjl] at hj
        cases hj
        have := (hR j hjl).2
        rwa [Addr.add_lit] at this

/-- A slice of hashes. -/
theorem open_hashes {W : World} {n : Nat} {cs : List Value} {y : DataW H × List MemPlace} (h : DataW.trod enc Tryz.prog W 0 (fun _ => true) true n 45 cs = some y) (hk : Rows.uptoBulk y.1 ≤ 1048576) :
    ∃ A c ps, cs = [.slice A (ps : List (List Int)).length c] ∧ ps.length ≤ 1048576 ∧ (∀ l ∈ ps, l.length = 32 ∧ ∀ x ∈ l, 0 ≤ x ∧ x ≤ 255) ∧ (0 < ps.length → ∃ b off, A = some ⟨b, off, none⟩ ∧ b < W.heap.size ∧ ∀ j l, ps[j]? = some l → ∀ i x, l[i]? = some x → W.cell? ⟨b, off + j * 32 + i, none⟩ = some (.int .u8 x)) := by
  rcases Deep.open_slice Tryz.underlying45 h with ⟨hcs, _⟩ | ⟨a, len, cap, m, n, D, Pl, hcs, _, hl, hm, hmm, hx, hi⟩
  · exact ⟨none, 0, [], hcs, by simp, by simp, fun h => absurd h (by simp)⟩
  · simp only [if_true] at hmm
    subst hcs; subst hx
    have h1 := bulk_len ((List.range len).map D)
    rw [List.length_map, List.length_range] at h1
    simp only [Rows.uptoBulk] at hk
    rw [LWcells39] at hi
    have each : ∀ i, i < len → ∃ l : List Int, (l.length = 32 ∧ ∀ x ∈ l, 0 ≤ x ∧ x ≤ 255) ∧ ∀ j x, l[j]? = some x → W.cell? ((a.add (i * 32)).add j) = some (.int .u8 x) := fun i hil => by
      obtain ⟨cs', g1, g2⟩ := hi i (by omega)
      obtain ⟨xs, rfl, q1, q2⟩ := open_hash g2
      obtain ⟨_, _, g3⟩ := World.cells?_some g1
      refine ⟨xs, ⟨q1, q2⟩, fun j x hj => ?_⟩
      have hjl : j < xs.length := (List.getElem?_eq_some_iff.1 hj).1
      rw [g3 j (by omega)]
      unfold u8s
      rw [List.getElem?_map, hj]
      rfl
    obtain ⟨R, hR⟩ := Deep.choose_lt (α := List Int) (p := fun i l => (l.length = 32 ∧ ∀ x ∈ l, 0 ≤ x ∧ x ≤ 255) ∧ ∀ j x, l[j]? = some x → W.cell? ((a.add (i * 32)).add j) = some (.int .u8 x)) each
    have hrl : ((List.range len).map R).length = len := by simp
    refine ⟨some a, cap, (List.range len).map R, by rw [hrl], by rw [hrl]; omega, fun l hl2 => ?_, fun h0 => ?_⟩
    · obtain ⟨i, q1, rfl⟩ := List.mem_map.1 hl2
      exact (hR i (List.mem_range.1 q1)).1
    · rw [hrl] at h0
      have hne : ∃ x, (R 0)[0]? = some x := ⟨_, List.getElem?_eq_getElem (by rw [(hR 0 h0).1.1]; decide)⟩
      obtain ⟨x0, hx0⟩ := hne
      have hc0 := (hR 0 h0).2 0 x0 hx0
      obtain ⟨b, off, spot⟩ := a
      have hspot : spot = none := by simpa [Addr.add] using World.cell?_spot hc0
      subst hspot
      refine ⟨b, off, rfl, ?_, fun j l hj i x hix => ?_⟩
      · have := World.block_lt_of_cell? W _ hc0
        simpa [Addr.add] using this
      · have hjl : j < len := by
          have := (List.getElem?_eq_some_iff.1 hj).1
          rwa [hrl] at this
        rw [List.getElem?_map, List.getElem?_range hjl] at hj
        cases hj
        have := (hR j hjl).2 i x hix
        rwa [Addr.add_lit, Addr.add_lit] at this

/-- 75 cells that read as an answer. -/
theorem open_ans {W : World} {n : Nat} {cs : List Value} {y : DataW H × List MemPlace} (h : DataW.trod enc Tryz.prog W 0 (fun _ => true) true n 47 cs = some y) (hk : Rows.uptoBulk y.1 ≤ 1048576) :
    ∃ a vb vi vp, cs = ansCells a vb vi vp ∧ AnsAt W a vb vi vp := by
  obtain ⟨zs, m, _, rfl, hl, hz, hf⟩ := DataW.trod_struct Tryz.underlying47 h
  rw [LWcells47] at hl
  match zs, hz with
  | [y0, y1, y2, y3, y4, y5, y6], _ =>
    have f0 : DataW.trod enc Tryz.prog W 0 (fun _ => true) true m 24 ((cs.drop 0).take (Tryz.prog.cellsOf 24)) = some y0 := hf 0 _ rfl
    have f1 : DataW.trod enc Tryz.prog W 0 (fun _ => true) true m 28 ((cs.drop 1).take (Tryz.prog.cellsOf 28)) = some y1 := hf 1 _ rfl
    have f2 : DataW.trod enc Tryz.prog W 0 (fun _ => true) true m 41 ((cs.drop 2).take (Tryz.prog.cellsOf 41)) = some y2 := hf 2 _ rfl
    have f3 : DataW.trod enc Tryz.prog W 0 (fun _ => true) true m 42 ((cs.drop 39).take (Tryz.prog.cellsOf 42)) = some y3 := hf 3 _ rfl
    have f4 : DataW.trod enc Tryz.prog W 0 (fun _ => true) true m 44 ((cs.drop 40).take (Tryz.prog.cellsOf 44)) = some y4 := hf 4 _ rfl
    have f5 : DataW.trod enc Tryz.prog W 0 (fun _ => true) true m 3 ((cs.drop 73).take (Tryz.prog.cellsOf 3)) = some y5 := hf 5 _ rfl
    have f6 : DataW.trod enc Tryz.prog W 0 (fun _ => true) true m 45 ((cs.drop 74).take (Tryz.prog.cellsOf 45)) = some y6 := hf 6 _ rfl
    rw [LWcells24] at f0
    rw [LWcells28] at f1
    rw [LWcells41] at f2
    rw [LWcells42] at f3
    rw [LWcells44] at f4
    rw [LWcells3] at f5
    rw [LWcells45] at f6
    have hb : Rows.uptoBulk y1.1 ≤ 1048576 ∧ Rows.uptoBulk y3.1 ≤ 1048576 ∧ Rows.uptoBulk y6.1 ≤ 1048576 := by
      simp only [List.map_cons, List.map_nil, Rows.uptoBulk, Rows.uptoBulkAll] at hk
      omega
    obtain ⟨code, e0, _, w0⟩ := DataW.trod_int Tryz.underlying24 f0
    obtain ⟨Ab, cb, bs, e1, b1, z1⟩ := open_byts f1
    obtain ⟨Ai, ci, ids, e3, i1, i2, i3⟩ := open_ids f3 hb.2.1
    obtain ⟨num, e5, _, w5⟩ := DataW.trod_int Tryz.underlying3 f5
    obtain ⟨Ap, cp, ps, e6, p1, p2, p3⟩ := open_hashes f6 hb.2.2
    obtain ⟨zs2, m2, _, _, hl2, hz2, hf2⟩ := DataW.trod_struct Tryz.underlying41 f2
    rw [LWcells41] at hl2
    obtain ⟨zs4, m4, _, _, hl4, hz4, hf4⟩ := DataW.trod_struct Tryz.underlying44 f4
    rw [LWcells44] at hl4
    match zs2, hz2, zs4, hz4 with
    | [x0, x1, x2, x3, x4, x5], _, [u0, u1], _ =>
      have s0 : DataW.trod enc Tryz.prog W 0 (fun _ => true) true m2 3 ((((cs.drop 2).take 37).drop 0).take (Tryz.prog.cellsOf 3)) = some x0 := hf2 0 _ rfl
      have s1 : DataW.trod enc Tryz.prog W 0 (fun _ => true) true m2 39 ((((cs.drop 2).take 37).drop 1).take (Tryz.prog.cellsOf 39)) = some x1 := hf2 1 _ rfl
      have s2 : DataW.trod enc Tryz.prog W 0 (fun _ => true) true m2 3 ((((cs.drop 2).take 37).drop 33).take (Tryz.prog.cellsOf 3)) = some x2 := hf2 2 _ rfl
      have s3 : DataW.trod enc Tryz.prog W 0 (fun _ => true) true m2 3 ((((cs.drop 2).take 37).drop 34).take (Tryz.prog.cellsOf 3)) = some x3 := hf2 3 _ rfl
      have s4 : DataW.trod enc Tryz.prog W 0 (fun _ => true) true m2 4 ((((cs.drop 2).take 37).drop 35).take (Tryz.prog.cellsOf 4)) = some x4 := hf2 4 _ rfl
      have s5 : DataW.trod enc Tryz.prog W 0 (fun _ => true) true m2 4 ((((cs.drop 2).take 37).drop 36).take (Tryz.prog.cellsOf 4)) = some x5 := hf2 5 _ rfl
      have r0 : DataW.trod enc Tryz.prog W 0 (fun _ => true) true m4 3 ((((cs.drop 40).take 33).drop 0).take (Tryz.prog.cellsOf 3)) = some u0 := hf4 0 _ rfl
      have r1 : DataW.trod enc Tryz.prog W 0 (fun _ => true) true m4 39 ((((cs.drop 40).take 33).drop 1).take (Tryz.prog.cellsOf 39)) = some u1 := hf4 1 _ rfl
      rw [LWcells3] at s0 s2 s3 r0
      rw [LWcells39] at s1 r1
      rw [LWcells4] at s4 s5
      obtain ⟨len, g0, _, v0⟩ := DataW.trod_int Tryz.underlying3 s0
      obtain ⟨root, g1, q1, q2⟩ := open_hash s1
      obtain ⟨idx, g2, _, v2⟩ := DataW.trod_int Tryz.underlying3 s2
      obtain ⟨exp, g3, _, v3⟩ := DataW.trod_int Tryz.underlying3 s3
      obtain ⟨hold, g4, _⟩ := DataW.trod_bool Tryz.underlying4 s4
      obtain ⟨gone, g5, _⟩ := DataW.trod_bool Tryz.underlying4 s5
      obtain ⟨hsz, k0, _, v6⟩ := DataW.trod_int Tryz.underlying3 r0
      obtain ⟨hroot, k1, q3, q4⟩ := open_hash r1
      refine ⟨{ code := code, bytes := bs, length := len, root := root, index := idx, expiry := exp, hold := hold, gone := gone, ids := ids, hsize := hsz, hroot := hroot, num := num, proof := ps }, .slice Ab bs.length cb, .slice Ai ids.length ci, .slice Ap ps.length cp, ?_, ⟨q1, q3, q2, q4, bounds_i64 w0, bounds_i64 v0, bounds_i64 v2, bounds_i64 v3, bounds_i64 v6, bounds_i64 w5, ⟨Ab, cb, rfl, b1, Nat.le_trans z1 hb.1⟩, ⟨Ai, ci, rfl, i1, i2, i3⟩, ⟨Ap, cp, rfl, p1, p2, p3⟩⟩⟩
      have c41 : (cs.drop 2).take 37 = [.int .i64 len] ++ (u8s root ++ ([.int .i64 idx] ++ ([.int .i64 exp] ++ ([.bool hold] ++ [.bool gone])))) := by
        have e := cut 0 1 ((cs.drop 2).take 37)
        rw [cut (0 + 1) 32, cut (0 + 1 + 32) 1, cut (0 + 1 + 32 + 1) 1, cut (0 + 1 + 32 + 1 + 1) 1, cut (0 + 1 + 32 + 1 + 1 + 1) 1, show ((cs.drop 2).take 37).drop (0 + 1 + 32 + 1 + 1 + 1 + 1) = [] from List.drop_eq_nil_of_le (by rw [List.length_take, List.length_drop]; omega), List.append_nil, List.drop_zero] at e
        simp only [Nat.zero_add, Nat.reduceAdd] at e g0 g1 g2 g3 g4 g5
        rw [List.drop_zero] at g0
        rw [g0, g1, g2, g3, g4, g5] at e
        exact e
      have c44 : (cs.drop 40).take 33 = [.int .i64 hsz] ++ u8s hroot := by
        have e := cut 0 1 ((cs.drop 40).take 33)
        rw [cut (0 + 1) 32, show ((cs.drop 40).take 33).drop (0 + 1 + 32) = [] from List.drop_eq_nil_of_le (by rw [List.length_take, List.length_drop]; omega), List.append_nil, List.drop_zero] at e
        simp only [Nat.zero_add] at e k0 k1
        rw [List.drop_zero] at k0
        rw [k0, k1] at e
        exact e
      have e := cut 0 1 cs
      rw [cut (0 + 1) 1, cut (0 + 1 + 1) 37, cut (0 + 1 + 1 + 37) 1, cut (0 + 1 + 1 + 37 + 1) 33, cut (0 + 1 + 1 + 37 + 1 + 33) 1, cut (0 + 1 + 1 + 37 + 1 + 33 + 1) 1, show cs.drop (0 + 1 + 1 + 37 + 1 + 33 + 1 + 1) = [] from List.drop_eq_nil_of_le (by omega), List.append_nil, List.drop_zero] at e
      simp only [Nat.zero_add, Nat.reduceAdd] at e e0 e1 e3 e5 e6
      rw [List.drop_zero] at e0
      rw [e0, e1, c41, e3, c44, e5, e6] at e
      rw [e]
      simp [ansCells, u8s]
end
end Go.Proofs.YtlibjfmafpiopaaGreatDoor
