/- strings.SplitSeq at a separator of one byte: its contract. -/
import Derived.Test.YtlibjfmafpiopaaGreatDoorSeq
import Derived.Test.YtlibjfmafpiopaaGreatDoorRefA
import Derived.Test.YtlibjfmafpiopaaGreatDoorShelf
import Derived.Shelf.Abstract
import Derived.Shelf.RegionOpen
import Derived.OwnWalkIn
import Derived.TacticsInMore
import Derived.LoopNIn
import Derived.LoopIn
import Derived.OneCell
namespace Go.Proofs.YtlibjfmafpiopaaGreatDoor
open Go.RowKit Go.Shelf Scr
attribute [local go_sem] Oper.semAt_some

theorem index_none : ∀ {l : Bs} {c : UInt8}, Lib.indexByte l c = -1 → split c l = [l]
  | [], _, _ => rfl
  | x :: xs, c, h => by
    unfold Lib.indexByte at h
    split at h
    · cases h
    · rename_i hx
      have hne : ¬ x = c := fun e => hx (by rw [e]; simp)
      split at h
      · rename_i h2
        have ih := index_none (l := xs) (c := c) (by simpa using h2)
        simp [split, hne, ih, glue]
      · rename_i h2
        have := Lib.indexByte_ge xs c
        omega

theorem index_some : ∀ {l : Bs} {c : UInt8} {k : Nat}, Lib.indexByte l c = (k : Int) → k < l.length ∧ split c l = l.take k :: split c (l.drop (k + 1))
  | [], _, _, h => by simp [Lib.indexByte] at h
  | x :: xs, c, k, h => by
    unfold Lib.indexByte at h
    split at h
    · rename_i hx
      have hx' : x = c := by simpa using hx
      obtain rfl : k = 0 := by omega
      simp [split, hx']
    · rename_i hx
      have hne : ¬ x = c := fun e => hx (by rw [e]; simp)
      split at h
      · omega
      · rename_i h2
        have hge := Lib.indexByte_ge xs c
        have hn : ¬ Lib.indexByte xs c = -1 := by simpa using h2
        obtain ⟨m, rfl⟩ : ∃ m, k = m + 1 := by
          refine ⟨k - 1, ?_⟩
          omega
        obtain ⟨h1, h2⟩ := index_some (l := xs) (c := c) (k := m) (by omega)
        refine ⟨by simp; omega, ?_⟩
        simp [split, hne, h2, glue]

/-- How much is left in the box. -/
def leftZ (z : Nat) (w : World) : Nat := match w.cell? ⟨z, 0, none⟩ with
  | some (.string t) => t.size
  | _ => 0

/-- The three boxes of a SplitSeq. -/
structure SBox (w : World) (z : Nat) (c : UInt8) (t : ByteArray) : Prop where
  b0 : w.heap[z]? = some (.cells #[.string t] 9 (0, 0))
  b1 : w.heap[z + 1]? = some (.cells #[.string ⟨#[c]⟩] 9 (0, 0))
  b2 : w.heap[z + 2]? = some (.cells #[.int .i64 0] 3 (0, 0))

theorem SBox.keep {w w' : World} {z : Nat} {c : UInt8} {t : ByteArray} (h : SBox w z c t) (hk : ∀ r, z ≤ r ∧ r ≤ z + 2 → r < w.heap.size → w'.heap[r]? = w.heap[r]?) : SBox w' z c t :=
  ⟨(hk _ (by omega) (Array.getElem?_eq_some_iff.1 h.b0).1).trans h.b0, (hk _ (by omega) (Array.getElem?_eq_some_iff.1 h.b1).1).trans h.b1, (hk _ (by omega) (Array.getElem?_eq_some_iff.1 h.b2).1).trans h.b2⟩

theorem SBox.left {w : World} {z : Nat} {c : UInt8} {t : ByteArray} (h : SBox w z c t) : leftZ z w = t.size := by
  unfold leftZ
  rw [cell_of_row _ _ 0 _ _ _ h.b0]
  rfl

set_option maxRecDepth 100000 in
set_option maxHeartbeats 1000000 in
theorem split_seq (n : Nat) (z : Nat) (c : UInt8) (s : ByteArray) (w : World) (hb : SBox w z c s) (hs : s.size ≤ 140737488355328) :
    SeqZ Fence.wide n Tryz.prog 97 #[.pointer (some ⟨z + 1, 0, none⟩), .pointer (some ⟨z, 0, none⟩), .pointer (some ⟨z + 2, 0, none⟩)] (fun l : Bs => #[Value.string ⟨l.toArray⟩]) (fun _ r => z ≤ r ∧ r ≤ z + 2) 0
      (fun xs => xs = split c s.data.toList) (fun pre => pre <+: split c s.data.toList) w := by
  intro l J Jx W hW hJ hJx hY h0
  have hbW := hb.keep (w' := W) (fun r hr hlt => hW.block r hlt)
  refine callsIn_of_wp Tryz.func97 rfl trivial ?_ rfl
  simp only [Tryz.ntmps97, List.size_toArray, List.length_cons, List.length_nil, Nat.reduceAdd, Nat.reduceSub, Array.replicate_succ, Array.replicate_zero, List.push_toArray, List.append_toArray, List.nil_append, List.cons_append]
  have e0 : W.cell? ⟨z, 0, none⟩ = some (.string s) := by rw [cell_of_row _ _ 0 _ _ _ hbW.b0]; rfl
  have e1 : W.cell? ⟨z + 1, 0, none⟩ = some (.string ⟨#[c]⟩) := by rw [cell_of_row _ _ 0 _ _ _ hbW.b1]; rfl
  have e2 : W.cell? ⟨z + 2, 0, none⟩ = some (.int .i64 0) := by rw [cell_of_row _ _ 0 _ _ _ hbW.b2]; rfl
  gi_wp2
  gi_loopw [7, 8] (fun _ _ wr => ∃ (pre : List Bs) (t : ByteArray), SBox wr z c t ∧ W.heap.size ≤ wr.heap.size ∧ t.size ≤ s.size ∧ J pre wr ∧ split c s.data.toList = pre ++ split c t.data.toList) (fun _ _ wr => leftZ z wr)
  case atStart => exact ⟨[], s, hbW, Nat.le_refl _, Nat.le_refl _, h0, rfl⟩
  case round =>
    obtain ⟨pre, t, hbt, hwr, hts, hJp, hsp⟩ := hrel
    clear e0 e1 e2
    have e0 : wr.cell? ⟨z, 0, none⟩ = some (.string t) := by rw [cell_of_row _ _ 0 _ _ _ hbt.b0]; rfl
    have e1 : wr.cell? ⟨z + 1, 0, none⟩ = some (.string ⟨#[c]⟩) := by rw [cell_of_row _ _ 0 _ _ _ hbt.b1]; rfl
    have e2 : wr.cell? ⟨z + 2, 0, none⟩ = some (.int .i64 0) := by rw [cell_of_row _ _ 0 _ _ _ hbt.b2]; rfl
    have hI : CallsIn Fence.wide (n - 1) Tryz.prog 47 #[.string t, .string ⟨#[c]⟩] wr fun e w' => e = .returned (.int .i64 (Lib.indexByte t.data.toList c)) ∧ w' = wr := callsIn_wide.2 (Tryz.strings_Index_one t c _)
    by_cases hix : Lib.indexByte t.data.toList c = -1
    · rw [hix] at hI
      rw [index_none hix] at hsp
      obtain ⟨fn, tmps, assign, body, hy, hR⟩ := hY pre t.data.toList wr hwr hJp (by rw [hsp]; simp)
      rw [Array.toArray_toList] at hy
      gi_wp2
      refine ⟨trivial, fun h => (by cases h), hI.mono ?_⟩
      rintro e w' ⟨rfl, rfl⟩
      gi_wp2
      refine ⟨fun h => (by cases h), hR.mono ?_⟩
      rintro e W3 (⟨rfl, hJ3, _⟩ | ⟨rfl, hJx3, _⟩)
      · gi_wp2
        go_end0
        exact ⟨⟨_, rfl⟩, .inl ⟨_, hsp.symm, hJ3⟩⟩
      · gi_wp2
        go_end0
        exact ⟨⟨_, rfl⟩, .inr ⟨_, by rw [hsp]; exact List.prefix_rfl, hJx3⟩⟩
    · obtain ⟨k, hk⟩ : ∃ k : Nat, Lib.indexByte t.data.toList c = k := by
        have := Lib.indexByte_ge t.data.toList c
        exact ⟨(Lib.indexByte t.data.toList c).toNat, by omega⟩
      rw [hk] at hI
      obtain ⟨hkl, hsp2⟩ := index_some hk
      have hkt : k < t.size := by rw [← ByteArray.size_data, ← Array.length_toList]; exact hkl
      obtain ⟨fn, tmps, assign, body, hy, hR⟩ := hY pre (t.data.toList.take k) wr hwr hJp (by rw [hsp, hsp2]; exact ⟨split c (List.drop (k + 1) t.data.toList), by simp⟩)
      have hex : (⟨(t.data.toList.take k).toArray⟩ : ByteArray) = t.extract 0 k := by rw [extract_list]; simp
      rw [hex] at hy
      gi_wp2
      refine ⟨trivial, fun h => (by cases h), hI.mono ?_⟩
      rintro e w' ⟨rfl, rfl⟩
      gi_wp2
      refine ⟨fun h => (by cases h), hR.mono ?_⟩
      rintro e W3 (⟨rfl, hJ3, hk3, hs3⟩ | ⟨rfl, hJx3, _⟩)
      · have hb3 := hbt.keep hk3
        clear e0 e1 e2
        have e0 : W3.cell? ⟨z, 0, none⟩ = some (.string t) := by rw [cell_of_row _ _ 0 _ _ _ hb3.b0]; rfl
        have e1 : W3.cell? ⟨z + 1, 0, none⟩ = some (.string ⟨#[c]⟩) := by rw [cell_of_row _ _ 0 _ _ _ hb3.b1]; rfl
        have e2 : W3.cell? ⟨z + 2, 0, none⟩ = some (.int .i64 0) := by rw [cell_of_row _ _ 0 _ _ _ hb3.b2]; rfl
        have hf : W3.frozen? ⟨z, 0, none⟩ = false := by exact frozen_of_row _ _ 0 _ _ hb3.b0
        gi_wp2
        have hgr := grownBy_setCell' W3 z (Value.string (t.extract (k + 1) t.size))
        have hb4 : SBox (W3.setCell ⟨z, 0, none⟩ (Value.string (t.extract (k + 1) t.size))) z c (t.extract (k + 1) t.size) :=
          ⟨one_setCell hb3.b0, (hgr.block _ (Array.getElem?_eq_some_iff.1 hb3.b1).1 (fun e => absurd (Option.some.inj e) (by omega))).trans hb3.b1, (hgr.block _ (Array.getElem?_eq_some_iff.1 hb3.b2).1 (fun e => absurd (Option.some.inj e) (by omega))).trans hb3.b2⟩
        refine ⟨⟨pre ++ [List.take k t.data.toList], t.extract (k + 1) t.size, hb4, ?_, ?_, hJ _ _ _ _ hJ3 hgr (fun r e => by cases e; omega), ?_⟩, ?_⟩
        · have := hgr.size
          omega
        · rw [ByteArray.size_extract]
          omega
        · rw [hsp, hsp2, extract_list]
          have htk : List.take (t.size - (k + 1)) (List.drop (k + 1) t.data.toList) = List.drop (k + 1) t.data.toList :=
            List.take_of_length_le (by rw [List.length_drop, Array.length_toList, ByteArray.size_data]; exact Nat.le_refl _)
          rw [htk]
          simp
        · rw [hb4.left, hbt.left, ByteArray.size_extract]
          omega
      · gi_wp2
        refine bodyPost_ret (results_none rfl _ _ _) rfl ?_
        exact ⟨⟨_, rfl⟩, .inr ⟨_, by rw [hsp, hsp2]; exact ⟨split c (List.drop (k + 1) t.data.toList), by simp⟩, hJx3⟩⟩
end Go.Proofs.YtlibjfmafpiopaaGreatDoor
