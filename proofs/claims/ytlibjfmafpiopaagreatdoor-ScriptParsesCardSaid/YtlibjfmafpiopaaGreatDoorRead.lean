/- One word of a line, laid into the command: the contract. -/
import Derived.Test.YtlibjfmafpiopaaGreatDoorLeafD
import Derived.Test.YtlibjfmafpiopaaGreatDoorRefE
import Derived.Test.YtlibjfmafpiopaaGreatDoorSpecC
namespace Go.Proofs.YtlibjfmafpiopaaGreatDoor
open Go.RowKit Go.Shelf Scr

/-- The command in its block B; what it holds lies from block K on; below w0's end nothing has turned. -/
structure BoxInv (B K : Nat) (w0 wr : World) (c : Cmd) (vb vk : Value) : Prop where
  box : wr.heap[B]? = some (.cells (cmdCells c vb vk) 33 (0, 0))
  bl : Below w0.heap.size w0 wr
  rb : RdI .u8 wr K vb c.bytes
  rk : wr.ownsRow K 3 1 vk c.keep.length (c.keep.map (Value.int .i64))
  sz : K ≤ wr.heap.size
  dj : 0 < c.bytes.length → ∀ b, vb.ownBlock = some b → vk.ownBlock ≠ some b
  lo : w0.heap.size ≤ B
  lt : B < K

/-- Below K nothing has turned but B. -/
structure FrameB (B K : Nat) (w w' : World) : Prop where
  os : w'.os = w.os
  tape : w'.tape = w.tape
  output : w'.output = w.output
  size : w.heap.size ≤ w'.heap.size
  block : ∀ r, r < K → r ≠ B → w'.heap[r]? = w.heap[r]?

theorem FrameB.refl (B K : Nat) (w : World) : FrameB B K w w := ⟨rfl, rfl, rfl, Nat.le_refl _, fun _ _ _ => rfl⟩
theorem FrameB.trans {B K : Nat} {a b c : World} (h1 : FrameB B K a b) (h2 : FrameB B K b c) : FrameB B K a c :=
  ⟨h2.os.trans h1.os, h2.tape.trans h1.tape, h2.output.trans h1.output, Nat.le_trans h1.size h2.size, fun r hr hn => (h2.block r hr hn).trans (h1.block r hr hn)⟩
theorem FrameB.of {B K N : Nat} {w w' : World} (h : Below N w w') (hK : K ≤ N) : FrameB B K w w' := ⟨h.os, h.tape, h.output, h.size, fun r hr _ => h.block r (by omega)⟩
theorem FrameB.set {B K : Nat} {w w' : World} (h : FrameB B K w w') (i : Nat) (u : Value) : FrameB B K w (w'.setCell ⟨B, i, none⟩ u) :=
  ⟨h.os, h.tape, h.output, by simpa using h.size, fun r hr hn => (Below.heap_setCell _ _ _ _ (by simpa using hn)).trans (h.block r hr hn)⟩

theorem BoxInv.cell {B K : Nat} {w0 wr : World} {c : Cmd} {vb vk : Value} (h : BoxInv B K w0 wr c vb vk) (i : Nat) : wr.cell? ⟨B, i, none⟩ = (cmdCells c vb vk)[i]? := by
  rw [cell_of_row _ _ i _ _ _ h.box]
theorem BoxInv.fz {B K : Nat} {w0 wr : World} {c : Cmd} {vb vk : Value} (h : BoxInv B K w0 wr c vb vk) (i : Nat) : wr.frozen? ⟨B, i, none⟩ = false := by simp [World.frozen?, h.box]

theorem BoxInv.id {B K : Nat} {w0 wr : World} {c : Cmd} {vb vk : Value} (h : BoxInv B K w0 wr c vb vk) (l : Bs) : BoxInv B K w0 (wr.setCell ⟨B, 2, none⟩ (.string ⟨l.toArray⟩)) { c with id := l } vb vk :=
  ⟨heap_setCell_same h.box _, h.bl.setCell h.lo _, h.rb.set h.lt _, own_set h.rk h.lt _, by simpa using h.sz, h.dj, h.lo, h.lt⟩

theorem BoxInv.num {B K : Nat} {w0 wr : World} {c : Cmd} {vb vk : Value} (h : BoxInv B K w0 wr c vb vk) (n : Int) : BoxInv B K w0 (wr.setCell ⟨B, 4, none⟩ (.int .i64 n)) { c with n := n } vb vk :=
  ⟨heap_setCell_same h.box _, h.bl.setCell h.lo _, h.rb.set h.lt _, own_set h.rk h.lt _, by simpa using h.sz, h.dj, h.lo, h.lt⟩

theorem BoxInv.below {B K : Nat} {w0 wr w' : World} {c : Cmd} {vb vk : Value} (h : BoxInv B K w0 wr c vb vk) (hb : Below wr.heap.size wr w') : BoxInv B K w0 w' c vb vk :=
  ⟨(hb.block _ (by have := h.sz; have := h.lt; omega)).trans h.box, h.bl.trans (hb.mono (by have := h.sz; have := h.lt; have := h.lo; omega)), h.rb.below hb, own_keep h.rk fun b _ hlt => hb.block b hlt, Nat.le_trans h.sz hb.size, h.dj, h.lo, h.lt⟩

theorem BoxInv.byt {B K : Nat} {w0 wr w' : World} {c : Cmd} {vb vk : Value} (h : BoxInv B K w0 wr c vb vk) (hb : Below wr.heap.size wr w') {A : Option Addr} {cap : Nat} {bl : List Int} (ho : w'.ownsRow wr.heap.size 5 1 (.slice A bl.length cap) bl.length (u8s bl)) :
    BoxInv B K w0 (w'.setCell ⟨B, 3, none⟩ (.slice A bl.length cap)) { c with bytes := bl } (.slice A bl.length cap) vk := by
  have h' := h.below hb
  have hz := h.sz
  have hr : RdI .u8 w' K (.slice A bl.length cap) bl := own_rdi (own_base ho hz)
  exact ⟨heap_setCell_same h'.box _, h'.bl.setCell h.lo _, hr.set h.lt _, own_set h'.rk h.lt _, by simpa using h'.sz, fun _ b e e2 => by have h1 := own_blk ho e; have h2 := (World.ownsRow.lt h.rk b e2).2; omega, h.lo, h.lt⟩

theorem BoxInv.kep {B K : Nat} {w0 wr w6 : World} {c : Cmd} {vb vk v6 : Value} (h : BoxInv B K w0 wr c vb vk) {o : Obj} (hg : (wr.alloc o).grownBy w6 vk.ownBlock) (hat : v6.ownBlock = vk.ownBlock ∨ v6.ownBlock = some (wr.alloc o).heap.size) {n : Int} (ho : w6.ownsRow K 3 1 v6 (c.keep.length + 1) (c.keep.map (Value.int .i64) ++ [.int .i64 n])) :
    BoxInv B K w0 (w6.setCell ⟨B, 5, none⟩ v6) { c with keep := c.keep ++ [n] } vb v6 ∧ FrameB B K wr (w6.setCell ⟨B, 5, none⟩ v6) := by
  have hz := h.sz
  have hlt := h.lt
  have hlo := h.lo
  have hs := hg.size
  simp at hs
  have hkb : ∀ b, vk.ownBlock = some b → K ≤ b := fun b e => own_blk h.rk e
  have blk : ∀ b, b < K → w6.heap[b]? = wr.heap[b]? := fun b hb => (hg.block b (by simp; omega) (fun e => by have := hkb b e.symm; omega)).trans (Below.heap_alloc _ _ _ (by omega))
  have hvb : 0 < c.bytes.length → ∀ b, vb.ownBlock = some b → b < wr.heap.size := fun h0 b e => by
    obtain ⟨A, cc, rfl, hf⟩ := h.rb
    obtain ⟨b', rfl, _, hlt, _⟩ := hf h0
    simp [Value.ownBlock] at e
    omega
  have hrb : RdI .u8 w6 K vb c.bytes := by
    have hd := h.dj
    obtain ⟨A, cc, rfl, hf⟩ := h.rb
    refine ⟨A, cc, rfl, fun h0 => ?_⟩
    obtain ⟨b, rfl, hl, hlt, hc⟩ := hf h0
    have hne : vk.ownBlock ≠ some b := hd h0 b rfl
    have hbk := (hg.block b (by simp; omega) (fun e => hne e.symm)).trans (Below.heap_alloc _ _ _ hlt)
    exact ⟨b, rfl, hl, by omega, fun j hj => (World.cell?_of_block (a := ⟨b, j, none⟩) hbk).trans (hc.1 j hj), fun j => (World.frozen?_of_block (a := ⟨b, j, none⟩) hbk).trans (hc.2 j)⟩
  refine ⟨⟨heap_setCell_same ((blk _ hlt).trans h.box) _, (h.bl.trans ⟨hg.os, hg.tape, hg.output, by omega, fun b hb => blk b (by omega)⟩).setCell hlo _, hrb.set hlt _, ?_, by simp; omega, fun h0 b e e2 => ?_, hlo, hlt⟩, ?_⟩
  · refine own_set ?_ hlt _
    simpa using ho
  · have hlt := hvb h0 b e
    rcases hat with h1 | h1
    · exact h.dj h0 b e (h1.symm.trans e2)
    · have h2 := Option.some.inj (h1.symm.trans e2)
      simp at h2
      omega
  · exact FrameB.set (w := wr) (w' := w6) ⟨hg.os, hg.tape, hg.output, by omega, fun r hr _ => blk r hr⟩ _ _

theorem BoxInv.kbox {B K : Nat} {w0 wr w6 : World} {c : Cmd} {vb vk : Value} (h : BoxInv B K w0 wr c vb vk) {o : Obj} (hg : (wr.alloc o).grownBy w6 vk.ownBlock) :
    w6.cell? ⟨B, 5, none⟩ = some vk ∧ w6.frozen? ⟨B, 5, none⟩ = false := by
  have hz := h.sz
  have hlt := h.lt
  have hkb : ∀ b, vk.ownBlock = some b → K ≤ b := fun b e => own_blk h.rk e
  have e1 : w6.heap[B]? = some (.cells (cmdCells c vb vk) 33 (0, 0)) :=
    ((hg.block _ (by simp; omega) (fun e => by have := hkb _ e.symm; omega)).trans (Below.heap_alloc _ _ _ (by omega))).trans h.box
  exact ⟨by rw [cell_of_row _ _ 5 _ _ _ e1]; rfl, by simp [World.frozen?, e1]⟩

/-- What the closure of 'read' answers. -/
def OnePost (B K : Nat) (w0 w : World) (o : Option Cmd) (e : Ending) (w' : World) : Prop :=
  FrameB B K w w' ∧ ∃ c' vb' vk' b, BoxInv B K w0 w' c' vb' vk' ∧ e = .returned (.bool b) ∧ o = if b then some c' else none

set_option maxRecDepth 100000 in
set_option maxHeartbeats 2000000 in
theorem one_call {a0 a1 a3 : Addr} {B K : Nat} {w0 w : World} {c : Cmd} {vb vk : Value} (f : Int) (s : ByteArray) (hs : s.size ≤ 70000) (hk7 : c.keep.length ≤ 70000) (L : Laid a0 a1 a3 w0) (h : BoxInv B K w0 w c vb vk) :
    Calls Tryz.prog 74 #[.int .u8 f, .string s, .pointer (some ⟨B, 0, none⟩)] w fun e w' => OnePost B K w0 w (stepS f c s.data.toList) e w' := by
  obtain ⟨i0, hi0, hz0, hz1, hz2⟩ := info_parts info3
  obtain ⟨o, ho⟩ : ∃ o, stepS f c s.data.toList = o := ⟨_, rfl⟩
  rw [ho]
  have HO := Lib.hid ho
  have HB := Lib.hid h
  have HL := Lib.hid L
  have hz := h.sz
  have hlt := h.lt
  have hlo := h.lo
  clear ho h L
  by_cases f1 : f = 105
  · subst f1
    have HO2 : Hid (o = if isId s.data.toList = true then some { c with id := s.data.toList } else none) := by rw [← HO.out]; exact rfl
    have c2 := HB.out.cell 2
    have z2 := HB.out.fz 2
    have hI := HB.out.id s.data.toList
    have hF := (FrameB.refl B K w).set 2 (.string ⟨s.data.toList.toArray⟩)
    rw [Array.toArray_toList] at hI hF
    go_enter Tryz.func74, Tryz.ntmps74
    go_wp2_with (go_at_call 32; refine (isID_call s _ (by omega)).mono ?_; rintro e w2 ⟨rfl, hb2⟩)
    go_ret
    refine ⟨hF.trans (FrameB.of hb2 (by simp; omega)), _, _, _, _, hI.below hb2, rfl, ?_⟩
    rw [HO2.out]
  · have t5 : (f == 105) = false := by rw [beq_eq_false_iff_ne]; omega
    by_cases f2 : f = 104
    · subst f2
      have HO2 : Hid (o = (unhex s.data.toList).map fun b => { c with bytes := b }) := by rw [← HO.out]; exact rfl
      have c3 := HB.out.cell 3
      have z3 := HB.out.fz 3
      have HU := Lib.hid (unhex75_call s w hs)
      go_enter Tryz.func74, Tryz.ntmps74
      go_wp2_with fail
      refine HU.out.mono ?_
      rintro e w2 ⟨hb2, l, A, cap, b, rfl, hown, hun⟩
      have HUN := Lib.hid hun
      have HW := Lib.hid hown
      have c3' := (HB.out.below hb2).cell 3
      have z3' := (HB.out.below hb2).fz 3
      clear hun hown
      go_wp2
      go_ret
      refine ⟨(FrameB.of hb2 hz).set 3 _, _, _, _, b, HB.out.byt hb2 HW.out, rfl, ?_⟩
      rw [HO2.out, HUN.out]
      cases b <;> rfl
    · have t6 : (f == 104) = false := by rw [beq_eq_false_iff_ne]; omega
      have HN := Lib.hid (number76_call s (by omega) w (HL.out.below HB.out.bl))
      by_cases f3 : f = 110
      · subst f3
        have HO2 : Hid (o = (number s.data.toList).map fun n => { c with n := n }) := by rw [← HO.out]; exact rfl
        have c4 := HB.out.cell 4
        have z4 := HB.out.fz 4
        go_enter Tryz.func74, Tryz.ntmps74
        go_wp2_with fail
        refine HN.out.mono ?_
        rintro e w2 ⟨hb2, n, b, rfl, hnm⟩
        have HNM := Lib.hid hnm
        have h2 := HB.out.below hb2
        have c4' := h2.cell 4
        have z4' := h2.fz 4
        have HI := Lib.hid (h2.num n)
        clear hnm h2
        go_wp2
        go_ret
        refine ⟨(FrameB.of hb2 hz).set 4 _, _, _, _, b, HI.out, rfl, ?_⟩
        rw [HO2.out, HNM.out]
        cases b <;> rfl
      · have t7 : (f == 110) = false := by rw [beq_eq_false_iff_ne]; omega
        have HO2 : Hid (o = (number s.data.toList).map fun n => { c with keep := c.keep ++ [n] }) := by
          rw [← HO.out]
          unfold stepS
          rw [if_neg f1, if_neg f2, if_neg f3]
          exact rfl
        clear f1 f2 f3
        go_enter Tryz.func74, Tryz.ntmps74
        go_wp2_with fail
        refine HN.out.mono ?_
        rintro e w2 ⟨hb2, n, b, rfl, hnm⟩
        have HNM := Lib.hid hnm
        have h2 := HB.out.below hb2
        have c5 : w2.cell? ⟨B, 5, none⟩ = some vk := h2.cell 5
        have z5 := h2.fz 5
        have HI := Lib.hid h2
        have hsz2 := h2.sz
        clear hnm h2
        go_wp2_with (at_builtin; refine wpList_app rfl (.tmp 42) (.tmp 44) 29 rfl K 3 i0 _ 1 8 Tryz.underlying29 hi0 hz0 hz1 hz2 rfl (by decide) vk c.keep.length (c.keep.map (Value.int .i64)) rfl (HI.out.rk.alloc _) (some ⟨w2.heap.size, 0, none⟩) 1 1 [.int .i64 n] rfl (src_new1 _ _ _) (by simp [Value.oneCell']) (by unfold maxLen; omega) (by omega) (by first | (simp; done) | (simp; omega)) ?_; intro v6 w6 hown6 hgrow6 hat6; obtain ⟨A6, k6, rfl⟩ := own_form hown6; have HKP := Lib.hid (HI.out.kep hgrow6 hat6 hown6); obtain ⟨kx1, kx2⟩ := HI.out.kbox hgrow6)
        go_ret
        refine ⟨(FrameB.of hb2 hz).trans HKP.out.2, _, _, _, b, HKP.out.1, rfl, ?_⟩
        rw [HO2.out, HNM.out]
        cases b <;> rfl
end Go.Proofs.YtlibjfmafpiopaaGreatDoor
