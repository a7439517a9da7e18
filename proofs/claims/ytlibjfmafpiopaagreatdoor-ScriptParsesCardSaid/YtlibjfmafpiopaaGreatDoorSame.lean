/- The law's same: two rows that hold the same commands are the same: the contract. -/
import Derived.Test.YtlibjfmafpiopaaGreatDoorPrintB
import Derived.Deep.QuietTactic
import Derived.BigQuiet
namespace Go.Proofs.YtlibjfmafpiopaaGreatDoor
open Go.RowKit Go.Shelf Scr


theorem conv_byts {w : World} {A : Option Addr} {bs : List Int} (c : Nat) (h : Byts w A bs) : (convert 28 9 (.slice A bs.length c)).run Tryz.prog w = .ok (.string (strOfNums bs)) w := by
  by_cases h0 : 0 < bs.length
  · obtain ⟨b, off, rfl, _, hc⟩ := h.at_ h0
    exact run_convert_bytes_arg w 28 5 Tryz.underlying28 Tryz.underlying5 b off _ _ bs rfl hc 9 Tryz.underlying9
  · have hb : bs = [] := List.eq_nil_of_length_eq_zero (by omega)
    subst hb
    cases A with
    | none => exact run_convert_bytes_nil w 28 5 Tryz.underlying28 Tryz.underlying5 _ _ 9 Tryz.underlying9
    | some a =>
      rw [List.length_nil, run_convert_bytes_string w 28 9 5 _ 0 c Tryz.underlying28 Tryz.underlying5 Tryz.underlying9]
      have hl : (loadCells a 0).run Tryz.prog w = .ok #[] w := run_loadCells_list (P := Tryz.prog) w a [] (fun j v hj => by cases hj)
      simp [Conv.bytesToString, hl]
      rfl

theorem bl_drewN {B : Nat} {a w : World} (h : Below B a w) (n : Nat) : Below B a (w.drewN n) := h.trans ⟨rfl, rfl, rfl, Nat.le_refl _, fun _ _ => rfl⟩

theorem bs_ne (t : ByteArray) : (t != t) = false := by
  unfold bne
  have : (t == t) = true := by
    show (t.data == t.data) = true
    simp
  rw [this]
  rfl

set_option maxRecDepth 100000 in
set_option maxHeartbeats 4000000 in
theorem same_call (A B : Option Addr) (ca cb : Nat) (L : List Cmd) (w : World) (h1 : CmdsR w A L) (h2 : CmdsR w B L) :
    Calls Tryz.prog 14 #[.slice A L.length ca, .slice B L.length cb] w fun e w' => e = .returned (.bool true) ∧ Below w.heap.size w w' := by
  have H1 := Lib.hid h1
  have H2 := Lib.hid h2
  have hlen := h1.len
  have t0 : ((L.length : Int) != (L.length : Int)) = false := by simp
  clear h1 h2
  go_enter Tryz.func14, Tryz.ntmps14
  go_wp2_with fail
  go_loopw [5] (fun i wr => ∃ (k : Nat), i = .int .i64 k ∧ k ≤ L.length ∧ Below w.heap.size w wr)
    (fun i _ => L.length - (intOf i).toNat)
  case atStart => exact ⟨0, rfl, Nat.zero_le _, Below.refl _ _⟩
  case round =>
    obtain ⟨k, rfl, hk, hb⟩ := hrel
    by_cases hlt : k < L.length
    · have k0 : (0 : Int) ≤ (k : Int) := Int.natCast_nonneg _
      have k1 : (k : Int) < (L.length : Int) := by omega
      obtain ⟨c, hc⟩ : ∃ c, L[k]? = some c := ⟨_, List.getElem?_eq_getElem hlt⟩
      have HCB := Lib.hid (H1.out.bd c (List.mem_of_getElem? hc))
      obtain ⟨b1, o1, rfl, hl1, hc1⟩ := H1.out.at_ (by omega)
      obtain ⟨b2, o2, rfl, hl2, hc2⟩ := H2.out.at_ (by omega)
      obtain ⟨A1, n1, K1, m1, hy1, hi1, p0, p1, p2, p3, p4, p5⟩ := (hc1 k c hc).below (hb.mono (Nat.le_refl _)) hl1
      obtain ⟨A2, n2, K2, m2, hy2, hi2, q0, q1, q2, q3, q4, q5⟩ := (hc2 k c hc).below (hb.mono (Nat.le_refl _)) hl2
      obtain ⟨tw, htw⟩ : ∃ t : ByteArray, (⟨c.word.toArray⟩ : ByteArray) = t := ⟨_, rfl⟩
      obtain ⟨ti, hti⟩ : ∃ t : ByteArray, (⟨c.id.toArray⟩ : ByteArray) = t := ⟨_, rfl⟩
      rw [htw] at p0 q0
      rw [hti] at p2 q2
      have HY1 := Lib.hid hy1
      have HY2 := Lib.hid hy2
      have HI1 := Lib.hid hi1
      have HI2 := Lib.hid hi2
      clear hc1 hc2 htw hti hy1 hy2 hi1 hi2 hc
      have r1 : b1 < wr.heap.size := Nat.lt_of_lt_of_le hl1 hb.size
      have r2 : b2 < wr.heap.size := Nat.lt_of_lt_of_le hl2 hb.size
      go_upto_region 7 with fail
      have hX := heap_alloc_new wr (.cells #[.int .i64 c.kind, .string ti, .slice A1 c.bytes.length n1, .int .i64 c.n, .slice K1 c.keep.length m1] 31)
      have hbX : Below wr.heap.size wr (wr.alloc (.cells #[.int .i64 c.kind, .string ti, .slice A1 c.bytes.length n1, .int .i64 c.n, .slice K1 c.keep.length m1] 31)) := (Below.refl _ _).alloc (Nat.le_refl _) _
      have hsX : (wr.alloc (.cells #[.int .i64 c.kind, .string ti, .slice A1 c.bytes.length n1, .int .i64 c.n, .slice K1 c.keep.length m1] 31)).heap.size = wr.heap.size + 1 := by simp
      obtain ⟨w4, hw4⟩ : ∃ w4, wr.alloc (.cells #[.int .i64 c.kind, .string ti, .slice A1 c.bytes.length n1, .int .i64 c.n, .slice K1 c.keep.length m1] 31) = w4 := ⟨_, rfl⟩
      rw [hw4] at hX hbX hsX ⊢
      clear hw4
      obtain ⟨X, hXe⟩ : ∃ X, wr.heap.size = X := ⟨_, rfl⟩
      rw [hXe] at hX hsX r1 r2 hbX ⊢
      have s0 := (hbX.cell (p := ⟨b2, o2 + k * 6, none⟩) r2).trans q0
      have s1 := (hbX.cell (p := ⟨b2, o2 + k * 6 + 1, none⟩) r2).trans q1
      have s2 := (hbX.cell (p := ⟨b2, o2 + k * 6 + 2, none⟩) r2).trans q2
      have s3 := (hbX.cell (p := ⟨b2, o2 + k * 6 + 3, none⟩) r2).trans q3
      have s4 := (hbX.cell (p := ⟨b2, o2 + k * 6 + 4, none⟩) r2).trans q4
      have s5 := (hbX.cell (p := ⟨b2, o2 + k * 6 + 5, none⟩) r2).trans q5
      have t0' := (hbX.cell (p := ⟨b1, o1 + k * 6, none⟩) r1).trans p0
      have HBX := Lib.hid hbX
      have HSX := Lib.hid hsX
      have HX := Lib.hid hX
      have HXE := Lib.hid hXe
      clear p0 p1 p2 p3 p4 p5 q0 q1 q2 q3 q4 q5 hX hbX hsX hXe
      go_upto_region 8 with fail
      have hY := heap_alloc_new w4 (.cells #[.int .i64 c.kind, .string ti, .slice A2 c.bytes.length n2, .int .i64 c.n, .slice K2 c.keep.length m2] 31)
      have hbY : Below w4.heap.size w4 (w4.alloc (.cells #[.int .i64 c.kind, .string ti, .slice A2 c.bytes.length n2, .int .i64 c.n, .slice K2 c.keep.length m2] 31)) := (Below.refl _ _).alloc (Nat.le_refl _) _
      have hsY : (w4.alloc (.cells #[.int .i64 c.kind, .string ti, .slice A2 c.bytes.length n2, .int .i64 c.n, .slice K2 c.keep.length m2] 31)).heap.size = w4.heap.size + 1 := by simp
      obtain ⟨w5, hw5⟩ : ∃ w5, w4.alloc (.cells #[.int .i64 c.kind, .string ti, .slice A2 c.bytes.length n2, .int .i64 c.n, .slice K2 c.keep.length m2] 31) = w5 := ⟨_, rfl⟩
      rw [hw5] at hY hbY hsY ⊢
      clear hw5
      obtain ⟨Y, hYe⟩ : ∃ Y, w4.heap.size = Y := ⟨_, rfl⟩
      rw [hYe] at hY hsY hbY ⊢
      have rX := HSX.out
      have hXX := (hbY.block X (by omega)).trans HX.out
      have a0 := (hbY.cell (p := ⟨b1, o1 + k * 6, none⟩) (by show b1 < Y; omega)).trans t0'
      have b0 := (hbY.cell (p := ⟨b2, o2 + k * 6, none⟩) (by show b2 < Y; omega)).trans s0
      have x0 : w5.cell? ⟨X, 0, none⟩ = some (.int .i64 c.kind) := by rw [cell_of_row _ _ 0 _ _ _ hXX]; rfl
      have x1 : w5.cell? ⟨X, 1, none⟩ = some (.string ti) := by rw [cell_of_row _ _ 1 _ _ _ hXX]; rfl
      have x2 : w5.cell? ⟨X, 2, none⟩ = some (.slice A1 c.bytes.length n1) := by rw [cell_of_row _ _ 2 _ _ _ hXX]; rfl
      have x3 : w5.cell? ⟨X, 3, none⟩ = some (.int .i64 c.n) := by rw [cell_of_row _ _ 3 _ _ _ hXX]; rfl
      have x4 : w5.cell? ⟨X, 4, none⟩ = some (.slice K1 c.keep.length m1) := by rw [cell_of_row _ _ 4 _ _ _ hXX]; rfl
      have y0 : w5.cell? ⟨Y, 0, none⟩ = some (.int .i64 c.kind) := by rw [cell_of_row _ _ 0 _ _ _ hY]; rfl
      have y1 : w5.cell? ⟨Y, 1, none⟩ = some (.string ti) := by rw [cell_of_row _ _ 1 _ _ _ hY]; rfl
      have y2 : w5.cell? ⟨Y, 2, none⟩ = some (.slice A2 c.bytes.length n2) := by rw [cell_of_row _ _ 2 _ _ _ hY]; rfl
      have y3 : w5.cell? ⟨Y, 3, none⟩ = some (.int .i64 c.n) := by rw [cell_of_row _ _ 3 _ _ _ hY]; rfl
      have y4 : w5.cell? ⟨Y, 4, none⟩ = some (.slice K2 c.keep.length m2) := by rw [cell_of_row _ _ 4 _ _ _ hY]; rfl
      have hb45 : Below X wr w5 := HBX.out.trans (hbY.mono (by omega))
      have hb5 : Below w.heap.size w w5 := hb.trans (hb45.mono (by have := HXE.out; have := hb.size; omega))
      have y1b : Byts w5 A1 c.bytes := HY1.out.below (by have := HXE.out; rw [this]; exact hb45)
      have y2b : Byts w5 A2 c.bytes := HY2.out.below (by have := HXE.out; rw [this]; exact hb45)
      have i1b : Ints w5 K1 c.keep := HI1.out.below (by have := HXE.out; rw [this]; exact hb45)
      have i2b : Ints w5 K2 c.keep := HI2.out.below (by have := HXE.out; rw [this]; exact hb45)
      have cv1 : ∀ W, Below w5.heap.size w5 W → (convert 28 9 (.slice A1 c.bytes.length n1)).run Tryz.prog W = .ok (.string (strOfNums c.bytes)) W := fun W hb => conv_byts n1 (y1b.below hb)
      have cv2 : ∀ W, Below w5.heap.size w5 W → (convert 28 9 (.slice A2 c.bytes.length n2)).run Tryz.prog W = .ok (.string (strOfNums c.bytes)) W := fun W hb => conv_byts n2 (y2b.below hb)
      have v1 : ∀ n, (convert 28 9 (.slice A1 c.bytes.length n1)).run Tryz.prog (w5.drewN n) = .ok (.string (strOfNums c.bytes)) (w5.drewN n) := fun n => cv1 _ (bl_drewN (Below.refl _ _) n)
      have v2 : ∀ n, (convert 28 9 (.slice A2 c.bytes.length n2)).run Tryz.prog (w5.drewN n) = .ok (.string (strOfNums c.bytes)) (w5.drewN n) := fun n => cv2 _ (bl_drewN (Below.refl _ _) n)
      have g1 : (tw != tw) = false := bs_ne tw
      have g2 : (ti != ti) = false := bs_ne ti
      have g3 : (c.kind != c.kind) = false := by simp
      have g4 : (c.n != c.n) = false := by simp
      have g5 : (strOfNums c.bytes != strOfNums c.bytes) = false := bs_ne _
      have g6 : ((c.keep.length : Int) != (c.keep.length : Int)) = false := by simp
      have HI1b := Lib.hid i1b
      have HI2b := Lib.hid i2b
      have HB5 := Lib.hid hb5
      have HBY := Lib.hid hbY
      clear i1b i2b y1b y2b cv1 cv2 hb45 hb5 hbY hsY hY hXX rX s0 s1 s2 s3 s4 s5 t0' hYe r1 r2
      go_quiet (fail)
      have HBq := Lib.hid (bl_drewN (Below.refl w5.heap.size w5) nq)
      obtain ⟨w6, hw6⟩ : ∃ w6, w5.drewN nq = w6 := ⟨_, rfl⟩
      rw [hw6] at HBq ⊢
      clear v1 v2 hw6 a0 b0
      have kx : ∀ W, Below w5.heap.size w5 W → W.cell? ⟨X, 4, none⟩ = some (.slice K1 c.keep.length m1) ∧ W.cell? ⟨Y, 4, none⟩ = some (.slice K2 c.keep.length m2) := fun W hb => ⟨(hb.cell (p := ⟨X, 4, none⟩) (World.block_lt_of_cell? _ _ x4)).trans x4, (hb.cell (p := ⟨Y, 4, none⟩) (World.block_lt_of_cell? _ _ y4)).trans y4⟩
      have KX := Lib.hid kx
      clear kx x0 x1 x2 x3 x4 y0 y1 y2 y3 y4
      have hkl := HCB.out.keep
      go_wp2_with fail
      go_loopw [8] (fun i wq => ∃ (j : Nat), i = .int .i64 j ∧ j ≤ c.keep.length ∧ Below w5.heap.size w5 wq)
        (fun i _ => c.keep.length - (intOf i).toNat)
      case atStart => exact ⟨0, rfl, Nat.zero_le _, HBq.out⟩
      case round =>
        rename World => wk
        obtain ⟨j, rfl, hj, hbk⟩ := hrel
        obtain ⟨z1, z2⟩ := KX.out wk hbk
        by_cases hjl : j < c.keep.length
        · have j0 : (0 : Int) ≤ (j : Int) := Int.natCast_nonneg _
          have j1 : (j : Int) < (c.keep.length : Int) := by omega
          obtain ⟨gb, go1, rfl, hgl, hgc⟩ := HI1b.out.at_ (by omega)
          obtain ⟨gb2, go2, rfl, hgl2, hgc2⟩ := HI2b.out.at_ (by omega)
          have cg : ∀ n, (wk.drewN n).cell? ⟨gb, go1 + j, none⟩ = some (.int .i64 (el c.keep j)) := fun n => (hbk.cell (p := ⟨gb, go1 + j, none⟩) hgl).trans (hgc j hjl)
          have cg2 : ∀ n, (wk.drewN n).cell? ⟨gb2, go2 + j, none⟩ = some (.int .i64 (el c.keep j)) := fun n => (hbk.cell (p := ⟨gb2, go2 + j, none⟩) hgl2).trans (hgc2 j hjl)
          have d1 := cg 0
          have d2 := cg2 0
          rw [World.drewN_zero] at d1 d2
          generalize el c.keep j = x at d1 d2
          clear cg cg2 hgc hgc2
          go_wp2_with fail
          go_quiet (fail)
          go_wp2_with fail
          exact ⟨⟨j + 1, by go_num, by omega, bl_drewN hbk nq⟩, by simp [intOf]; omega⟩
        · obtain rfl : j = c.keep.length := by omega
          go_wp2_with fail
          refine ⟨⟨k + 1, by go_num, by omega, HB5.out.trans (hbk.mono HB5.out.size)⟩, by simp [intOf]; omega⟩
    · obtain rfl : k = L.length := by omega
      go_wp2_with fail
      go_ret
      exact ⟨rfl, hb⟩
end Go.Proofs.YtlibjfmafpiopaaGreatDoor
