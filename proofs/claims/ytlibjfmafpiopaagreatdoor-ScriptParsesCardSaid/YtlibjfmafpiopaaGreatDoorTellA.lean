/- Telling an answer: the row of its words; the closures that write numbers and bits: the contracts. -/
import Derived.Test.YtlibjfmafpiopaaGreatDoorPrintB
namespace Go.Proofs.YtlibjfmafpiopaaGreatDoor
open Go.RowKit Go.Shelf Scr

/-- The words so far in a row behind block R. Ex: blocks that the row never is. -/
def RowT (w : World) (base R : Nat) (Ex : Nat → Prop) (ws : List Bs) (v : Value) : Prop :=
  w.heap[R]? = some (.cells #[v] 42 (0, 0)) ∧ w.ownsRow base 9 1 v ws.length (sv ws) ∧ ∀ b, v.ownBlock = some b → ¬ Ex b

theorem RowT.below {w w' : World} {base R : Nat} {Ex : Nat → Prop} {ws : List Bs} {v : Value} (h : RowT w base R Ex ws v) (hb : Below w.heap.size w w') : RowT w' base R Ex ws v :=
  ⟨(hb.block _ (Array.getElem?_eq_some_iff.1 h.1).1).trans h.1, own_keep h.2.1 fun b _ hl => hb.block b hl, h.2.2⟩

theorem RowT.weak {w : World} {base R : Nat} {Ex Ex2 : Nat → Prop} {ws : List Bs} {v : Value} (h : RowT w base R Ex ws v) (he : ∀ b, Ex2 b → Ex b) : RowT w base R Ex2 ws v :=
  ⟨h.1, h.2.1, fun b e hx => h.2.2 b e (he b hx)⟩

/-- A new block beside the row is none of the row's. -/
theorem RowT.more {w : World} {base R : Nat} {Ex : Nat → Prop} {ws : List Bs} {v : Value} (h : RowT w base R Ex ws v) (n : Nat) (hn : w.heap.size ≤ n) : RowT w base R (fun b => Ex b ∨ b = n) ws v :=
  ⟨h.1, h.2.1, fun b e hx => hx.elim (h.2.2 b e) fun e2 => by
    rcases h.2.1.2 with ⟨rfl, _⟩ | ⟨g, cap, cur, rfl, a, b', c⟩
    · cases e
    · cases e
      have h1 := (Array.getElem?_eq_some_iff.1 b').1
      have e3 : g = n := e2
      omega⟩

theorem PF.weak {base : Nat} {Ex Ex2 : Nat → Prop} {R O : Nat} {w w' : World} (h : PF base Ex R O w w') (he : ∀ b, Ex2 b → Ex b) : PF base Ex2 R O w w' :=
  ⟨h.os, h.tape, h.output, h.size, fun r hr hc => h.block r hr (hc.imp id fun x => ⟨he r x.1, x.2⟩)⟩

theorem RowT.app {w w6 : World} {base R : Nat} {Ex : Nat → Prop} {ws : List Bs} {v v6 : Value} {x : Bs} (h : RowT w base R Ex ws v) (hR : base ≤ R) (hER : Ex R) (hEx : ∀ b, Ex b → b < w.heap.size) {o : Obj} (hg : (w.alloc o).grownBy w6 v.ownBlock)
    (hat : v6.ownBlock = v.ownBlock ∨ v6.ownBlock = some (w.alloc o).heap.size) (ho : w6.ownsRow base 9 1 v6 (ws.length + 1) (sv ws ++ [.string ⟨x.toArray⟩])) :
    RowT (w6.setCell ⟨R, 0, none⟩ v6) base R Ex (ws ++ [x]) v6 ∧ PF base Ex R R w (w6.setCell ⟨R, 0, none⟩ v6) ∧ w6.heap[R]? = some (.cells #[v] 42 (0, 0)) := by
  have hs := hg.size
  simp at hs
  have hob : ∀ b, v.ownBlock = some b → base ≤ b := fun b e => own_blk h.2.1 e
  have hR' := hEx R hER
  have blk : ∀ b, b < w.heap.size → v.ownBlock ≠ some b → w6.heap[b]? = w.heap[b]? := fun b hb hne => (hg.block b (by simp; omega) (fun e => hne e.symm)).trans (Below.heap_alloc _ _ _ hb)
  have set : ∀ r, r ≠ R → (w6.setCell ⟨R, 0, none⟩ v6).heap[r]? = w6.heap[r]? := fun r hr => Below.heap_setCell _ _ _ _ (by simpa using hr)
  have n6 : ∀ b, v6.ownBlock = some b → ¬ Ex b := fun b e => by
    rcases hat with h1 | h1
    · exact h.2.2 b (h1.symm.trans e)
    · have h2 := Option.some.inj (h1.symm.trans e)
      simp at h2
      intro hx
      have := hEx b hx
      omega
  have hR6 := (blk R hR' (fun e => h.2.2 R e hER)).trans h.1
  refine ⟨⟨heap_setCell_same hR6 _, ?_, n6⟩, ⟨hg.os, hg.tape, hg.output, by simp; omega, fun r hr hc => ?_⟩, hR6⟩
  · rw [sv_snoc, List.length_append]
    refine ⟨ho.1, ?_⟩
    rcases ho.2 with h0 | ⟨g, cap, cur, rfl, a, b', c⟩
    · exact .inl h0
    · exact .inr ⟨g, cap, cur, rfl, a, (set g (fun e => n6 g rfl (e ▸ hER))).trans b', c⟩
  · rcases hc with hc | hc
    · exact (set r (by omega)).trans (blk r hr (fun e => by have := hob r e; omega))
    · exact (set r hc.2.1).trans (blk r hr (fun e => h.2.2 r e hc.1))

theorem take_itoa {l : List Int} {j : Nat} (h : j < l.length) (ws : List Bs) : ws ++ (l.take (j + 1)).map Lib.itoa = (ws ++ (l.take j).map Lib.itoa) ++ [Lib.itoa (el l j)] := (take_ints h ws true).1

set_option maxRecDepth 100000 in
set_option maxHeartbeats 4000000 in
theorem num40_call {base R : Nat} {Ex : Nat → Prop} {ws : List Bs} {v : Value} (A : Option Addr) (cap : Nat) (l : List Int) (w : World) (htab : Lib.TabBelow Tryz.prog base w "internal/strconv.uint64pow10" .u64 Lib.pow10Tab)
    (h : RowT w base R Ex ws v) (hR : base ≤ R) (hER : Ex R) (hEx : ∀ b, Ex b → b < w.heap.size) (hI : Ints w A l) (hA : ∀ b off, A = some ⟨b, off, none⟩ → Ex b ∧ b ≠ R)
    (hrng : ∀ x ∈ l, -9223372036854775808 ≤ x ∧ x ≤ 9223372036854775807) (hl : ws.length + l.length ≤ 4194304) :
    Calls Tryz.prog 40 #[.slice A l.length cap, .pointer (some ⟨R, 0, none⟩)] w fun e w' => (∃ u, e = .returned u) ∧ ∃ v', RowT w' base R Ex (ws ++ l.map Lib.itoa) v' ∧ PF base Ex R R w w' := by
  obtain ⟨i0, hi0, hz0, hz1, hz2⟩ := info_parts info9
  have HH := Lib.hid h
  have HX := Lib.hid hEx
  have HT := Lib.hid htab
  have HI := Lib.hid hI
  have HA := Lib.hid hA
  have HG := Lib.hid hrng
  have hbase : base ≤ w.heap.size := by have := hEx R hER; omega
  have HB := Lib.hid hbase
  clear h hEx htab hI hA hrng hbase
  go_enter Tryz.func40, Tryz.ntmps40
  go_wp2
  go_loopw [7] (fun i wr => ∃ (j : Nat) (v' : Value), i = .int .i64 j ∧ j ≤ l.length ∧ RowT wr base R Ex (ws ++ (l.take j).map Lib.itoa) v' ∧ PF base Ex R R w wr)
    (fun i _ => l.length - (intOf i).toNat)
  case atStart => exact ⟨0, v, rfl, Nat.zero_le _, by rw [List.take_zero, List.map_nil, List.append_nil]; exact HH.out, ⟨rfl, rfl, rfl, Nat.le_refl _, fun _ _ _ => rfl⟩⟩
  case round =>
    obtain ⟨j, v', rfl, hj, hrow, hpf⟩ := hrel
    by_cases hjl : j < l.length
    · have j0 : (0 : Int) ≤ (j : Int) := Int.natCast_nonneg _
      have j1 : (j : Int) < (l.length : Int) := by omega
      obtain ⟨gb, go1, rfl, hgl, hgc⟩ := HI.out.at_ (by omega)
      obtain ⟨ha1, ha2⟩ := HA.out gb go1 rfl
      have cg : wr.cell? ⟨gb, go1 + j, none⟩ = some (.int .i64 (el l j)) := (World.cell?_of_block (w := w) (a := ⟨gb, go1 + j, none⟩) (hpf.block gb hgl (.inr ⟨ha1, ha2, ha2⟩))).trans (hgc j hjl)
      have hxm : el l j ∈ l := by
        unfold el
        simp [List.getD, List.getElem?_eq_getElem hjl]
      have hll : (ws ++ (l.take j).map Lib.itoa).length ≤ 4194304 := by
        rw [List.length_append, List.length_map, List.length_take]
        omega
      have HXr : Hid (∀ b, Ex b → b < wr.heap.size) := fun b e => Nat.lt_of_lt_of_le (HX.out b e) hpf.size
      have HIT := Lib.hid (itoa_call (el l j) (HG.out _ hxm).1 (HG.out _ hxm).2)
      have HTK := Lib.hid (take_itoa hjl ws)
      have HTr := Lib.hid (HT.out wr (hpf.below (Nat.le_refl _) HB.out))
      have HPF := Lib.hid hpf
      have HRO := Lib.hid hrow
      have HRW := Lib.hid (HXr.out R hER)
      have CL := Lib.hid (fun (W : World) (hb : Below wr.heap.size wr W) => show W.cell? ⟨R, 0, none⟩ = some v' from by rw [cell_of_row _ _ 0 _ _ _ (hrow.below hb).1]; rfl)
      have cR := CL.out _ (Below.refl _ _)
      generalize el l j = x at cg HIT HTK
      generalize hWS : ws ++ (l.take j).map Lib.itoa = wss at hll HTK HRO
      clear hgc hrow hpf hxm hgl ha1 ha2 hWS
      go_upto_region 3 with fail
      go_region_law (first
          | ((refine step_app rfl (.tmp 11) (.tmp 14) 42 rfl base 9 i0 _ 1 16 Tryz.underlying42 hi0 hz0 hz1 hz2 rfl (by decide) v' wss.length (sv wss) rfl ((own_keep HRO.out.2.1 (fun b _ hl => Below.block hBW b hl)).alloc _) (some ⟨_, 0, none⟩) 1 1 [.string ⟨(Lib.itoa x).toArray⟩] rfl (src_new1 _ _ _) (by simp [Value.oneCell']) (by unfold maxLen; omega) (by omega) (by have h1 := hBW.size; have h2 := HB.out; have h3 := HPF.out.size; simp; omega) ?_); intro v6 w6' hown6 hgrow6 hat6; obtain ⟨A6, k6, rfl⟩ := own_form hown6; obtain ⟨qR, qF, qB⟩ := (HRO.out.below hBW).app (x := Lib.itoa x) hR hER (fun b e => Nat.lt_of_lt_of_le (HXr.out b e) hBW.size) hgrow6 hat6 hown6; have cR6 : w6'.cell? ⟨R, 0, none⟩ = some v' := (by rw [cell_of_row _ _ 0 _ _ _ qB]; rfl); have fR6 := frozen_of_row _ _ 0 _ _ qB)
          | (go_simp; go_at_call 29; (refine (HIT.out _ (tab_below HTr.out ((Below.refl _ _).drew))).mono ?_); rintro e wn ⟨rfl, hbn⟩; have hBW : Below wr.heap.size wr wn := ((Below.refl _ _).drew).trans hbn; have cRn := CL.out _ hBW; have hRn : R < wn.heap.size := Nat.lt_of_lt_of_le HRW.out hBW.size; have hRne : R ≠ wn.heap.size := Nat.ne_of_lt hRn))
      all_goals
        go_wp2_with fail
        refine ⟨⟨j + 1, .slice A6 (wss.length + 1) k6, by go_num, by omega, ?_, (HPF.out.trans (PF.of hBW)).trans qF⟩, by simp [intOf]; omega⟩
        rw [HTK.out]
        exact qR
    · obtain rfl : j = l.length := by omega
      rw [List.take_length] at hrow
      have HRW := Lib.hid hrow
      have HPF := Lib.hid hpf
      clear hrow hpf
      go_wp2_with fail
      go_end0
      exact ⟨⟨_, rfl⟩, v', HRW.out, HPF.out⟩
end Go.Proofs.YtlibjfmafpiopaaGreatDoor
