/- The program's hex: the contract. -/
import Derived.Test.YtlibjfmafpiopaaGreatDoorLeaf
import Derived.Test.YtlibjfmafpiopaaGreatDoorShelfB
namespace Go.Proofs.YtlibjfmafpiopaaGreatDoor
open Go.RowKit Go.Shelf Scr

theorem byteCells_snoc (l : Bs) (c : UInt8) : Lib.byteCells (l ++ [c]) = Lib.byteCells l ++ [.int .u8 c.toNat] := by simp [Lib.byteCells]

theorem builder_new (w : World) : Lib.IsBuilderF 66 5 w.heap.size w.heap.size (Lib.byteCells []) (w.alloc (.cells #[.pointer none, .slice none 0 0] 66)) :=
  .inl ⟨Nat.le_refl _, .slice none 0 0, heap_alloc_new w _, World.ownsRowF_of (World.ownsRow_nil _ _ _ _), by simp [Value.ownBlock]⟩

set_option maxRecDepth 100000 in
set_option maxHeartbeats 2000000 in
theorem hex33_call (A : Option Addr) (c : Nat) (bs : List Int) (w : World) (h : Byts w A bs) (hl : bs.length ≤ 4194304) :
    Calls Tryz.prog 33 #[.slice A bs.length c] w fun e w' => e = .returned (.string ⟨(hex bs).toArray⟩) ∧ Below w.heap.size w w' := by
  by_cases h0 : bs.length < 1
  · have t2 : ((bs.length : Int) == 0) = true := by rw [beq_iff_eq]; omega
    have HX : Hid (hex bs = [45]) := by unfold hex; rw [if_pos (by omega)]; exact rfl
    go_enter Tryz.func33, Tryz.ntmps33
    go_wp2
    go_ret
    exact ⟨by rw [HX.out]; rfl, Below.refl _ _⟩
  · have t2 : ((bs.length : Int) == 0) = false := by rw [beq_eq_false_iff_ne]; omega
    have HX : Hid (hex bs = hexP bs) := by unfold hex; rw [if_neg (by omega)]; exact rfl
    obtain ⟨b, off, rfl, hbl, hc⟩ := h.at_ (by omega)
    have HC := Lib.hid hc
    have HRG := Lib.hid h.rng
    have HB0 := Lib.hid (builder_new w)
    clear hc h
    go_enter Tryz.func33, Tryz.ntmps33
    go_wp2
    go_loopw [11] (fun i wr => ∃ k : Nat, i = .int .i64 k ∧ k ≤ bs.length ∧ Lib.IsBuilderF 66 5 w.heap.size w.heap.size (Lib.byteCells (hexP (bs.take k))) wr ∧ Below w.heap.size w wr) (fun i _ => bs.length - (intOf i).toNat)
    case atStart => exact ⟨0, rfl, by omega, HB0.out, by go_grown⟩
    case round =>
      obtain ⟨k, rfl, hk, hbd, hb⟩ := hrel
      have hz := hb.size
      by_cases hlt : k < bs.length
      · have k0 : (0 : Int) ≤ (k : Int) := Int.natCast_nonneg _
        have k1 : (k : Int) < (bs.length : Int) := by omega
        obtain ⟨x, hx⟩ : ∃ x, bs.getD k 0 = x := ⟨_, rfl⟩
        have hcell := (hb.cell (p := ⟨b, off + k, none⟩) hbl).trans (HC.out k hlt)
        have hgk : bs[k] = x := by rw [← hx, List.getD_eq_getElem?_getD, List.getElem?_eq_getElem hlt]; rfl
        obtain ⟨x0, x1⟩ := HRG.out x (by rw [← hgk]; exact List.getElem_mem _)
        rw [hx] at hcell
        have q1 := hexIdx (x / 16) (by omega) (by omega)
        have q2 := hexIdx (x % 16) (by omega) (by omega)
        have hln : (Lib.byteCells (hexP (bs.take k))).length ≤ 2 * k := by rw [Lib.byteCells_length, hexP_len, List.length_take]; omega
        have HTN : Hid ((x / 16).toNat = x.toNat / 16 ∧ (x % 16).toNat = x.toNat % 16) := by constructor <;> omega
        go_wp2_with fail
        have HBS := Lib.hid hbd
        have HLN := Lib.hid hln
        clear hbd hln
        refine (writeByte _ _ _ _ _ HBS.out (by have := HLN.out; omega) hz).mono ?_
        rintro e w1 ⟨rfl, h1, b1, _⟩
        have H1 := Lib.hid h1
        clear h1
        go_wp2_with fail
        have hz1 := b1.size
        refine (writeByte _ _ _ _ _ (.inr H1.out) (by have := HLN.out; simp; omega) (by omega)).mono ?_
        rintro e w2 ⟨rfl, h2, b2, _⟩
        have H2 := Lib.hid h2
        clear h2
        go_wp2_with fail
        refine ⟨⟨k + 1, by go_num, by omega, .inr ?_, (hb.trans b1).trans b2⟩, by simp [intOf]; omega⟩
        rw [List.take_succ_eq_append_getElem hlt, hgk, hexP_snoc, ← HTN.out.1, ← HTN.out.2]
        simpa [Lib.byteCells] using H2.out
      · obtain rfl : k = bs.length := by omega
        rw [List.take_length] at hbd
        have HBS := Lib.hid hbd
        clear hbd
        go_wp2_with fail
        refine (Tryz.Builder_String_any_k _ _ _ _ HBS.out hz).mono ?_
        rintro e w1 ⟨rfl, _, b1, _⟩
        go_wp2
        go_ret
        exact ⟨by rw [HX.out]; rfl, hb.trans b1⟩
end Go.Proofs.YtlibjfmafpiopaaGreatDoor
