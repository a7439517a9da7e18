/- What is handed in reads as commands; as an answer; how large their parts are. -/
import Derived.Test.YtlibjfmafpiopaaGreatDoorLines
import Derived.ChangeMaps5
import Derived.Deep.Slices
namespace Go.Proofs.YtlibjfmafpiopaaGreatDoor
open Go.RowKit Go.Shelf Scr Go.ChangeShapes Go.WideShapes Go.ChangeAt
set_option maxRecDepth 100000

instance cmdInh : Inhabited Cmd := ⟨⟨[], 0, [], [], 0, []⟩⟩

section
variable {H : Type} {enc : TypeId × Value → H}

theorem bulk_one (d : DataW H) : 1 ≤ Rows.uptoBulk d := by
  cases d with
  | lit l => cases l <;> simp [Rows.uptoBulk]
  | nil => simp [Rows.uptoBulk]
  | ptr d => simp [Rows.uptoBulk]
  | slice elems spare => simp [Rows.uptoBulk]
  | agg parts => simp [Rows.uptoBulk]
  | iface t d => simp [Rows.uptoBulk]
  | map entries => simp [Rows.uptoBulk]
  | held h => simp [Rows.uptoBulk]

theorem bulk_part {d : DataW H} : ∀ {l : List (DataW H)}, d ∈ l → Rows.uptoBulk d ≤ Rows.uptoBulkAll l
  | x :: r, h => by
    simp only [Rows.uptoBulkAll]
    rcases List.mem_cons.1 h with rfl | h
    · omega
    · have := bulk_part h
      omega

theorem bulk_len : ∀ l : List (DataW H), l.length ≤ Rows.uptoBulkAll l
  | [] => by simp [Rows.uptoBulkAll]
  | x :: r => by
    have := bulk_one x
    have := bulk_len r
    simp only [Rows.uptoBulkAll, List.length_cons]
    omega

theorem u8_bd {n : Int} (h : (Lit.int .u8 n).wf = true) : 0 ≤ n ∧ n ≤ 255 := by
  simp [Lit.wf, IntKind.min, IntKind.max, IntKind.signed, IntKind.bits] at h
  omega

theorem ba_eta (s : ByteArray) : (⟨s.data.toList.toArray⟩ : ByteArray) = s := by
  apply ByteArray.ext
  apply Array.toList_inj.1
  simp

theorem lits_len (k : IntKind) (l : List Int) : (lits (H := H) k l).length = l.length := by simp [lits]

theorem open_byts {W : World} {n : Nat} {cs : List Value} {y : DataW H × List MemPlace} (h : DataW.trod enc Tryz.prog W 0 (fun _ => true) true n 28 cs = some y) :
    ∃ A c xs, cs = [.slice A xs.length c] ∧ Byts W A xs ∧ xs.length ≤ Rows.uptoBulk y.1 := by
  rcases open_ints Tryz.underlying28 Tryz.underlying5 (by kernel_rfl) h with ⟨hcs, hx⟩ | ⟨a, len, cap, zs, hcs, _, hl, hm, hz, hx, hcell, hwz⟩
  · subst hcs; subst hx
    exact ⟨none, 0, [], rfl, ⟨fun h => absurd h (by simp), by simp⟩, by simp⟩
  · simp only [if_true] at hz
    subst hcs; subst hx
    have htl : (zs.take len).length = len := by rw [List.length_take]; omega
    refine ⟨some a, cap, zs.take len, by rw [htl], ⟨fun hp => ?_, fun x hx => u8_bd (hwz x (List.mem_of_mem_take hx))⟩, ?_⟩
    · rw [htl] at hp
      obtain ⟨b, off, rfl, hc⟩ := ints_at hcell (by omega)
      refine ⟨b, off, rfl, World.block_lt_of_cell? W _ (hc 0 (by omega)), fun k hk => ?_⟩
      rw [htl] at hk
      rw [hc k (by omega), List.getD_eq_getElem?_getD, List.getD_eq_getElem?_getD, List.getElem?_take, if_pos hk]
    · have := bulk_len (lits (H := H) .u8 (zs.take len))
      rw [lits_len] at this
      simp only [Rows.uptoBulk]
      omega

theorem open_kints {W : World} {n : Nat} {cs : List Value} {y : DataW H × List MemPlace} (h : DataW.trod enc Tryz.prog W 0 (fun _ => true) true n 29 cs = some y) :
    ∃ A c xs, cs = [.slice A xs.length c] ∧ Ints W A xs ∧ (∀ x ∈ xs, -9223372036854775808 ≤ x ∧ x ≤ 9223372036854775807) ∧ xs.length ≤ Rows.uptoBulk y.1 := by
  rcases open_ints Tryz.underlying29 Tryz.underlying3 (by kernel_rfl) h with ⟨hcs, hx⟩ | ⟨a, len, cap, zs, hcs, _, hl, hm, hz, hx, hcell, hwz⟩
  · subst hcs; subst hx
    exact ⟨none, 0, [], rfl, ⟨by simp, fun h => absurd h (by simp)⟩, by simp, by simp⟩
  · simp only [if_true] at hz
    subst hcs; subst hx
    have htl : (zs.take len).length = len := by rw [List.length_take]; omega
    refine ⟨some a, cap, zs.take len, by rw [htl], ⟨by rw [htl]; unfold maxLen at hm; omega, fun hp => ?_⟩, fun x hx => bounds_i64 (hwz x (List.mem_of_mem_take hx)), ?_⟩
    · rw [htl] at hp
      obtain ⟨b, off, rfl, hc⟩ := ints_at hcell (by omega)
      refine ⟨b, off, rfl, World.block_lt_of_cell? W _ (hc 0 (by omega)), fun k hk => ?_⟩
      rw [htl] at hk
      rw [hc k (by omega)]
      unfold el
      rw [List.getD_eq_getElem?_getD, List.getD_eq_getElem?_getD, List.getElem?_take, if_pos hk]
    · have := bulk_len (lits (H := H) .i64 (zs.take len))
      rw [lits_len] at this
      simp only [Rows.uptoBulk]
      omega

theorem trod_struct5 {P : Program} {w : World} {base : Nat} {spare : Nat → Bool} {held : Bool} {t : TypeId} {f0 f1 f2 f3 f4 : Field} {fuel : Nat} {cs : List Value} {x : DataW H × List MemPlace} (ht : P.underlying t = some (.struct #[f0, f1, f2, f3, f4])) (h : DataW.trod enc P w base spare held fuel t cs = some x) :
    ∃ y0 y1 y2 y3 y4 n, x.1 = .agg [y0.1, y1.1, y2.1, y3.1, y4.1] ∧ cs.length = P.cellsOf t ∧ DataW.trod enc P w base spare held n f0.type ((cs.drop f0.offset).take (P.cellsOf f0.type)) = some y0 ∧
      DataW.trod enc P w base spare held n f1.type ((cs.drop f1.offset).take (P.cellsOf f1.type)) = some y1 ∧ DataW.trod enc P w base spare held n f2.type ((cs.drop f2.offset).take (P.cellsOf f2.type)) = some y2 ∧
      DataW.trod enc P w base spare held n f3.type ((cs.drop f3.offset).take (P.cellsOf f3.type)) = some y3 ∧ DataW.trod enc P w base spare held n f4.type ((cs.drop f4.offset).take (P.cellsOf f4.type)) = some y4 := by
  obtain ⟨xs, n, _, rfl, hl, hlen, hf⟩ := DataW.trod_struct ht h
  match xs, hlen with
  | [y0, y1, y2, y3, y4], _ => exact ⟨y0, y1, y2, y3, y4, n, rfl, hl, by simpa using hf 0 f0 rfl, by simpa using hf 1 f1 rfl, by simpa using hf 2 f2 rfl, by simpa using hf 3 f3 rfl, by simpa using hf 4 f4 rfl⟩

theorem list6 {α : Type} {l : List α} (h : l.length = 6) : ∃ a b c d e f, l = [a, b, c, d, e, f] := by
  match l, h with
  | [a, b, c, d, e, f], _ => exact ⟨a, b, c, d, e, f, rfl⟩
theorem list5 {α : Type} {l : List α} (h : l.length = 5) : ∃ a b c d e, l = [a, b, c, d, e] := by
  match l, h with
  | [a, b, c, d, e], _ => exact ⟨a, b, c, d, e, rfl⟩

theorem LWcells3 : Tryz.prog.cellsOf 3 = 1 := by kernel_rfl
theorem LWcells9 : Tryz.prog.cellsOf 9 = 1 := by kernel_rfl
theorem LWcells28 : Tryz.prog.cellsOf 28 = 1 := by kernel_rfl
theorem LWcells29 : Tryz.prog.cellsOf 29 = 1 := by kernel_rfl
theorem LWcells31 : Tryz.prog.cellsOf 31 = 5 := by kernel_rfl
theorem LWcells33 : Tryz.prog.cellsOf 33 = 6 := by kernel_rfl

/-- Five cells that read as an operation. -/
theorem open_op {W : World} {n : Nat} {cs : List Value} {y : DataW H × List MemPlace} (h : DataW.trod enc Tryz.prog W 0 (fun _ => true) true n 31 cs = some y) :
    ∃ k id Ab cb bs m Ak ck ks, cs = [.int .i64 k, .string ⟨(id : Bs).toArray⟩, .slice Ab (bs : List Int).length cb, .int .i64 m, .slice Ak (ks : List Int).length ck] ∧ Byts W Ab bs ∧ Ints W Ak ks ∧ (-9223372036854775808 ≤ m ∧ m ≤ 9223372036854775807) ∧
      (∀ x ∈ ks, -9223372036854775808 ≤ x ∧ x ≤ 9223372036854775807) ∧ id.length ≤ Rows.uptoBulk y.1 ∧ bs.length ≤ Rows.uptoBulk y.1 ∧ ks.length ≤ Rows.uptoBulk y.1 := by
  obtain ⟨y0, y1, y2, y3, y4, n1, hy, hl, h0, h1, h2, h3, h4⟩ := trod_struct5 Tryz.underlying31 h
  rw [LWcells31] at hl
  obtain ⟨c0, c1, c2, c3, c4, rfl⟩ := list5 hl
  simp only [LWcells3, LWcells9, LWcells28, LWcells29, List.drop_zero, List.drop_succ_cons, List.take_succ_cons, List.take_zero] at h0 h1 h2 h3 h4
  obtain ⟨k, e0, rfl, _⟩ := DataW.trod_int Tryz.underlying3 h0
  obtain ⟨s, e1, rfl, _⟩ := DataW.trod_string Tryz.underlying9 h1
  obtain ⟨Ab, cb, bs, e2, b2, z2⟩ := open_byts h2
  obtain ⟨m, e3, rfl, w3⟩ := DataW.trod_int Tryz.underlying3 h3
  obtain ⟨Ak, ck, ks, e4, i4, r4, z4⟩ := open_kints h4
  cases e0; cases e1; cases e2; cases e3; cases e4
  refine ⟨k, s.data.toList, Ab, cb, bs, m, Ak, ck, ks, by rw [ba_eta], b2, i4, bounds_i64 w3, r4, ?_, ?_, ?_⟩ <;> rw [hy] <;> simp only [Rows.uptoBulk, Rows.uptoBulkAll] <;> omega

/-- Six cells that read as a command. -/
theorem open_cmd {W : World} {n : Nat} {cs : List Value} {y : DataW H × List MemPlace} (h : DataW.trod enc Tryz.prog W 0 (fun _ => true) true n 33 cs = some y) :
    ∃ (c : Cmd) (Ab : Option Addr) (cb : Nat) (Ak : Option Addr) (ck : Nat), cs = [.string ⟨c.word.toArray⟩, .int .i64 c.kind, .string ⟨c.id.toArray⟩, .slice Ab c.bytes.length cb, .int .i64 c.n, .slice Ak c.keep.length ck] ∧ Byts W Ab c.bytes ∧ Ints W Ak c.keep ∧ (-9223372036854775808 ≤ c.n ∧ c.n ≤ 9223372036854775807) ∧
      (∀ x ∈ c.keep, -9223372036854775808 ≤ x ∧ x ≤ 9223372036854775807) ∧ c.word.length ≤ Rows.uptoBulk y.1 ∧ c.id.length ≤ Rows.uptoBulk y.1 ∧ c.bytes.length ≤ Rows.uptoBulk y.1 ∧ c.keep.length ≤ Rows.uptoBulk y.1 := by
  obtain ⟨y0, y1, n1, rfl, hl, h0, h1⟩ := trod_struct2 Tryz.underlying33 h
  rw [LWcells33] at hl
  obtain ⟨c0, c1, c2, c3, c4, c5, rfl⟩ := list6 hl
  simp only [LWcells9, LWcells31, List.drop_zero, List.drop_succ_cons, List.take_succ_cons, List.take_zero] at h0 h1
  obtain ⟨s, e0, rfl, _⟩ := DataW.trod_string Tryz.underlying9 h0
  obtain ⟨k, id, Ab, cb, bs, m, Ak, ck, ks, e1, b, i, rm, rk, z1, z2, z3⟩ := open_op h1
  cases e0; cases e1
  refine ⟨⟨s.data.toList, k, id, bs, m, ks⟩, Ab, cb, Ak, ck, by rw [ba_eta], b, i, rm, rk, ?_, ?_, ?_, ?_⟩ <;> simp only [Rows.uptoBulk, Rows.uptoBulkAll] <;> omega

/-- A slice that reads as commands. -/
theorem open_cmds {W : World} {v : Value} {d : DataW H} {p : List MemPlace} {base : Nat} (hv : Value.okWide Tryz.prog W .any base 23 v) (h : DataW.Trod enc Tryz.prog W 0 (fun _ => true) true 23 v d p) (hk : Rows.uptoBulk d ≤ 1048576) :
    ∃ A cap L, v = .slice A L.length cap ∧ CmdsR W A L ∧ (∀ c ∈ L, ∀ x ∈ c.bytes, 0 ≤ x ∧ x ≤ 255) ∧ L.length ≤ cap := by
  obtain ⟨a0, len0, cap0, rfl⟩ := okWide_slice Tryz.underlying23 hv
  obtain ⟨fuel, hf⟩ := h
  have hf' : DataW.trod enc Tryz.prog W 0 (fun _ => true) true fuel 23 [.slice a0 len0 cap0] = some (d, p) := by simpa [Value.cells] using hf
  rcases Deep.open_slice Tryz.underlying23 hf' with ⟨hcs, _⟩ | ⟨a, len, cap, m, n, D, Pl, hcs, _, hl, hm, hmm, hx, hi⟩
  · simp only [List.cons.injEq, and_true] at hcs
    rw [hcs]
    exact ⟨none, 0, [], rfl, ⟨fun h => absurd h (by simp), by simp, by simp⟩, by simp, Nat.le_refl _⟩
  · simp only [List.cons.injEq, and_true] at hcs
    simp only [if_true] at hmm
    rw [hcs]
    simp only [Prod.mk.injEq] at hx
    obtain ⟨rfl, _⟩ := hx
    have hbl : len ≤ 1048576 ∧ ∀ i, i < len → Rows.uptoBulk (D i) ≤ 1048576 := by
      have h1 := bulk_len ((List.range len).map D)
      rw [List.length_map, List.length_range] at h1
      simp only [Rows.uptoBulk] at hk
      refine ⟨by omega, fun i hil => ?_⟩
      have := bulk_part (d := D i) (l := (List.range len).map D) (List.mem_map.2 ⟨i, List.mem_range.2 hil, rfl⟩)
      omega
    rw [LWcells33] at hi
    have each : ∀ i, i < len → ∃ c : Cmd, CmdB c ∧ (∀ x ∈ c.bytes, 0 ≤ x ∧ x ≤ 255) ∧ ∃ (Ab : Option Addr) (cb : Nat) (Ak : Option Addr) (ck : Nat), Byts W Ab c.bytes ∧ Ints W Ak c.keep ∧ ∀ j u, (cmdCells c (.slice Ab c.bytes.length cb) (.slice Ak c.keep.length ck))[j]? = some u → W.cell? ((a.add (i * 6)).add j) = some u := fun i hil => by
      obtain ⟨cs', g1, g2⟩ := hi i (by omega)
      obtain ⟨c, Ab, cb, Ak, ck, rfl, q1, q2, q3, q4, q5, q6, q7, q8⟩ := open_cmd g2
      have hb : Rows.uptoBulk (D i, Pl i).1 ≤ 1048576 := hbl.2 i hil
      obtain ⟨_, _, g3⟩ := World.cells?_some g1
      refine ⟨c, ⟨by omega, by omega, by omega, by omega, q3.1, q3.2, q4⟩, q1.rng, Ab, cb, Ak, ck, q1, q2, fun j u hu => ?_⟩
      have hj : j < 6 := by
        have := (Array.getElem?_eq_some_iff.1 hu).1
        simpa [cmdCells] using this
      rw [g3 j hj]
      have e : (cmdCells c (.slice Ab c.bytes.length cb) (.slice Ak c.keep.length ck)).toList = [.string ⟨c.word.toArray⟩, .int .i64 c.kind, .string ⟨c.id.toArray⟩, .slice Ab c.bytes.length cb, .int .i64 c.n, .slice Ak c.keep.length ck] := rfl
      rw [← e, Array.getElem?_toList]
      exact hu
    obtain ⟨R, hR⟩ := Deep.choose_lt (α := Cmd) (p := fun i c => CmdB c ∧ (∀ x ∈ c.bytes, 0 ≤ x ∧ x ≤ 255) ∧ ∃ (Ab : Option Addr) (cb : Nat) (Ak : Option Addr) (ck : Nat), Byts W Ab c.bytes ∧ Ints W Ak c.keep ∧ ∀ j u, (cmdCells c (.slice Ab c.bytes.length cb) (.slice Ak c.keep.length ck))[j]? = some u → W.cell? ((a.add (i * 6)).add j) = some u) each
    have hrl : ((List.range len).map R).length = len := by simp
    have hmem : ∀ c ∈ (List.range len).map R, ∃ i, i < len ∧ R i = c := fun c hc => by
      obtain ⟨i, h1, h2⟩ := List.mem_map.1 hc
      exact ⟨i, List.mem_range.1 h1, h2⟩
    refine ⟨some a, cap, (List.range len).map R, by rw [hrl], ⟨fun h0 => ?_, fun c hc => ?_, by rw [hrl]; exact hbl.1⟩, fun c hc => ?_, by rw [hrl]; exact hl⟩
    · rw [hrl] at h0
      obtain ⟨_, _, Ab0, cb0, Ak0, ck0, _, _, hcell0⟩ := hR 0 h0
      obtain ⟨b, off, spot⟩ := a
      have hspot : spot = none := by simpa [Addr.add] using World.cell?_spot (hcell0 0 _ rfl)
      subst hspot
      refine ⟨b, off, rfl, ?_, fun k c hk => ?_⟩
      · have := World.block_lt_of_cell? W _ (hcell0 0 _ rfl)
        simpa [Addr.add] using this
      · have hkl : k < len := by
          have := (List.getElem?_eq_some_iff.1 hk).1
          rwa [hrl] at this
        have e : R k = c := by
          rw [List.getElem?_map, List.getElem?_range hkl] at hk
          exact Option.some.inj hk
        subst e
        obtain ⟨_, _, Ab, cb, Ak, ck, q1, q2, q3⟩ := hR k hkl
        have key : ∀ j u, (cmdCells (R k) (.slice Ab (R k).bytes.length cb) (.slice Ak (R k).keep.length ck))[j]? = some u → W.cell? ⟨b, off + k * 6 + j, none⟩ = some u := fun j u hu => by
          have := q3 j u hu
          rwa [Addr.add_lit, Addr.add_lit] at this
        exact ⟨Ab, cb, Ak, ck, q1, q2, key 0 _ rfl, key 1 _ rfl, key 2 _ rfl, key 3 _ rfl, key 4 _ rfl, key 5 _ rfl⟩
    · obtain ⟨i, hil, rfl⟩ := hmem c hc
      exact (hR i hil).1
    · obtain ⟨i, hil, rfl⟩ := hmem c hc
      exact (hR i hil).2.1
end
end Go.Proofs.YtlibjfmafpiopaaGreatDoor
