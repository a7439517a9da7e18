/- Telling an answer: the closure that writes bits: the contract. -/
import Derived.Test.YtlibjfmafpiopaaGreatDoorTellA
namespace Go.Proofs.YtlibjfmafpiopaaGreatDoor
open Go.RowKit Go.Shelf Scr

/-- A slice that reads as bits. -/
structure Bls (w : World) (A : Option Addr) (l : List Bool) : Prop where
  at_ : 0 < l.length → ∃ b off, A = some ⟨b, off, none⟩ ∧ b < w.heap.size ∧ ∀ k, k < l.length → w.cell? ⟨b, off + k, none⟩ = some (.bool (l.getD k false))

/-- The last word may be written over. -/
theorem RowT.last {w : World} {base R : Nat} {Ex : Nat → Prop} {ws : List Bs} {x : Bs} {A : Option Addr} {n cap : Nat} (h : RowT w base R Ex (ws ++ [x]) (.slice A n cap)) (hER : Ex R) (y : Bs) :
    ∃ g, A = some ⟨g, 0, none⟩ ∧ n = ws.length + 1 ∧ g ≠ R ∧ w.cell? ⟨g, ws.length, none⟩ = some (.string ⟨x.toArray⟩) ∧ w.frozen? ⟨g, ws.length, none⟩ = false ∧
      RowT (w.setCell ⟨g, ws.length, none⟩ (.string ⟨y.toArray⟩)) base R Ex (ws ++ [y]) (.slice A n cap) ∧ PF base Ex R R w (w.setCell ⟨g, ws.length, none⟩ (.string ⟨y.toArray⟩)) := by
  rcases h.2.1.2 with ⟨_, h0⟩ | ⟨g, cp, cur, hv, a, b, c1, c2, c3, c4⟩
  · simp at h0
  · injection hv with hv1 hv2 hv3
    subst hv1 hv3
    have hn : n = ws.length + 1 := by rw [hv2]; simp
    have hlen : (ws ++ [x]).length = ws.length + 1 := by simp
    rw [hlen] at c1 c4
    rw [Nat.mul_one] at c3 c4
    have hgR : g ≠ R := fun e => h.2.2 g rfl (e ▸ hER)
    have hc : cur[ws.length]? = some (.string ⟨x.toArray⟩) := by
      have e1 : (cur.toList.take (ws.length + 1))[ws.length]? = (sv (ws ++ [x]))[ws.length]? := by rw [c4]
      rw [List.getElem?_take_of_lt (by omega), Array.getElem?_toList] at e1
      rw [e1]
      simp [sv]
    refine ⟨g, rfl, hn, hgR, ?_, frozen_of_row _ _ _ _ _ b, ⟨?_, ⟨?_, .inr ⟨g, cap, _, by rw [hv2]; simp, a, heap_setCell_same b _, by simpa using c1, c2, by simpa using c3, ?_⟩⟩, h.2.2⟩, rfl, rfl, rfl, by simp, fun r hr hc => ?_⟩
    · rw [cell_of_row w g ws.length cur 9 (0, 0) b]
      exact hc
    · exact (Below.heap_setCell _ _ _ _ (by simpa using Ne.symm hgR)).trans h.1
    · simp [sv]
    · rw [Array.toList_setIfInBounds]
      have e0 : ((ws ++ [y]).length * 1) = ws.length + 1 := by simp
      rw [e0, List.take_set, c4]
      simp [sv]
    · refine Below.heap_setCell _ _ _ _ ?_
      show r ≠ g
      rcases hc with hc | hc
      · omega
      · exact fun e => h.2.2 g rfl (e ▸ hc.1)

theorem take_bits {l : List Bool} {j : Nat} (h : j < l.length) (ws : List Bs) : ws ++ (l.take (j + 1)).map bit = (ws ++ (l.take j).map bit) ++ [bit (l.getD j false)] := by
  have e : l.take (j + 1) = l.take j ++ [l.getD j false] := by
    rw [List.take_succ_eq_append_getElem h]
    congr 1
    simp [List.getD, List.getElem?_eq_getElem h]
  rw [e]
  simp

set_option maxRecDepth 100000 in
set_option maxHeartbeats 4000000 in
theorem bit41_call {base R : Nat} {Ex : Nat → Prop} {ws : List Bs} {v : Value} (A : Option Addr) (cap : Nat) (l : List Bool) (w : World)
    (h : RowT w base R Ex ws v) (hR : base ≤ R) (hER : Ex R) (hEx : ∀ b, Ex b → b < w.heap.size) (hI : Bls w A l) (hA : ∀ b off, A = some ⟨b, off, none⟩ → Ex b ∧ b ≠ R) (hl : ws.length + l.length ≤ 4194304) :
    Calls Tryz.prog 41 #[.slice A l.length cap, .pointer (some ⟨R, 0, none⟩)] w fun e w' => (∃ u, e = .returned u) ∧ ∃ v', RowT w' base R Ex (ws ++ l.map bit) v' ∧ PF base Ex R R w w' := by
  obtain ⟨i0, hi0, hz0, hz1, hz2⟩ := info_parts info9
  have HH := Lib.hid h
  have HX := Lib.hid hEx
  have HI := Lib.hid hI
  have HA := Lib.hid hA
  have hbase : base ≤ w.heap.size := by have := hEx R hER; omega
  have HB := Lib.hid hbase
  clear h hEx hI hA hbase
  go_enter Tryz.func41, Tryz.ntmps41
  go_wp2
  go_loopw [7] (fun i wr => ∃ (j : Nat) (v' : Value), i = .int .i64 j ∧ j ≤ l.length ∧ RowT wr base R Ex (ws ++ (l.take j).map bit) v' ∧ PF base Ex R R w wr)
    (fun i _ => l.length - (intOf i).toNat)
  case atStart => exact ⟨0, v, rfl, Nat.zero_le _, by rw [List.take_zero, List.map_nil, List.append_nil]; exact HH.out, ⟨rfl, rfl, rfl, Nat.le_refl _, fun _ _ _ => rfl⟩⟩
  case round =>
    obtain ⟨j, v', rfl, hj, hrow, hpf⟩ := hrel
    by_cases hjl : j < l.length
    · have j0 : (0 : Int) ≤ (j : Int) := Int.natCast_nonneg _
      have j1 : (j : Int) < (l.length : Int) := by omega
      obtain ⟨gb, go1, rfl, hgl, hgc⟩ := HI.out.at_ (by omega)
      obtain ⟨ha1, ha2⟩ := HA.out gb go1 rfl
      have cg : wr.cell? ⟨gb, go1 + j, none⟩ = some (.bool (l.getD j false)) := (World.cell?_of_block (w := w) (a := ⟨gb, go1 + j, none⟩) (hpf.block gb hgl (.inr ⟨ha1, ha2, ha2⟩))).trans (hgc j hjl)
      have hll : (ws ++ (l.take j).map bit).length ≤ 4194304 := by
        rw [List.length_append, List.length_map, List.length_take]
        omega
      have HXr : Hid (∀ b, Ex b → b < wr.heap.size) := fun b e => Nat.lt_of_lt_of_le (HX.out b e) hpf.size
      have HTK := Lib.hid (take_bits hjl ws)
      have HPF := Lib.hid hpf
      have HRO := Lib.hid hrow
      have cR : wr.cell? ⟨R, 0, none⟩ = some v' := by rw [cell_of_row _ _ 0 _ _ _ hrow.1]; rfl
      generalize l.getD j false = x at cg HTK
      generalize hWS : ws ++ (l.take j).map bit = wss at hll HTK HRO
      have hbw : base ≤ wr.heap.size := Nat.le_trans HB.out hpf.size
      clear hgc hrow hpf hgl ha1 ha2 hWS
      go_upto_region 4 with (at_builtin; refine wpList_app rfl (.tmp 11) (.tmp 12) 42 rfl base 9 i0 _ 1 16 Tryz.underlying42 hi0 hz0 hz1 hz2 rfl (by decide) v' wss.length (sv wss) rfl (HRO.out.2.1.alloc _) (some ⟨wr.heap.size, 0, none⟩) 1 1 [.string ⟨#[48]⟩] rfl (src_new1 _ _ _) (by simp [Value.oneCell']) (by unfold maxLen; omega) (by omega) (by simp; omega) ?_; intro v6 w6' hown6 hgrow6 hat6; obtain ⟨A6, k6, rfl⟩ := own_form hown6; obtain ⟨qR, qF, qB⟩ := HRO.out.app (x := [48]) hR hER HXr.out hgrow6 hat6 hown6; have cR6 : w6'.cell? ⟨R, 0, none⟩ = some v' := (by rw [cell_of_row _ _ 0 _ _ _ qB]; rfl); have fR6 := frozen_of_row _ _ 0 _ _ qB)
      obtain ⟨w7, hw7⟩ : ∃ w7, w6'.setCell ⟨R, 0, none⟩ (.slice A6 (wss.length + 1) k6) = w7 := ⟨_, rfl⟩
      rw [hw7] at qR qF ⊢
      clear hw7 cR6 fR6 qB hown6 hgrow6 hat6 cR
      obtain ⟨g, rfl, _, hgR, cg7, fg7, q1, q2⟩ := qR.last hER [49]
      have cR7 : w7.cell? ⟨R, 0, none⟩ = some (.slice (some ⟨g, 0, none⟩) (wss.length + 1) k6) := by rw [cell_of_row _ _ 0 _ _ _ qR.1]; rfl
      have HQ1 := Lib.hid q1
      have HQ2 := Lib.hid q2
      have HQR := Lib.hid qR
      have HQF := Lib.hid qF
      clear q1 q2 qR qF
      cases x with
      | false =>
        go_wp2_with fail
        refine ⟨⟨j + 1, .slice (some ⟨g, 0, none⟩) (wss.length + 1) k6, by go_num, by omega, ?_, HPF.out.trans HQF.out⟩, by simp [intOf]; omega⟩
        rw [HTK.out]
        exact HQR.out
      | true =>
        have e1 : (((wss.length + 1 : Nat) : Int) - 1) = (wss.length : Int) := by omega
        go_wp2_with fail
        refine ⟨⟨j + 1, .slice (some ⟨g, 0, none⟩) (wss.length + 1) k6, by go_num, by omega, ?_, (HPF.out.trans HQF.out).trans HQ2.out⟩, by simp [intOf]; omega⟩
        rw [HTK.out]
        exact HQ1.out
    · obtain rfl : j = l.length := by omega
      rw [List.take_length] at hrow
      have HRW := Lib.hid hrow
      have HPF := Lib.hid hpf
      clear hrow hpf
      go_wp2_with fail
      go_end0
      exact ⟨⟨_, rfl⟩, v', HRW.out, HPF.out⟩
end Go.Proofs.YtlibjfmafpiopaaGreatDoor
