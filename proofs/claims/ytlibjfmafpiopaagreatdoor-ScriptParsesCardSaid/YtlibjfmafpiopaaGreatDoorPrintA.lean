/- Writing a command: the row of its words; the closure that writes a number: the contract. -/
import Derived.Test.YtlibjfmafpiopaaGreatDoorLeafC
import Derived.Test.YtlibjfmafpiopaaGreatDoorLeafD
import Derived.Deep.RegionHeld3
import Derived.Deep.DeepCutAuto
import Derived.Lib.ItoaLen
namespace Go.Proofs.YtlibjfmafpiopaaGreatDoor
open Go.RowKit Go.Shelf Scr

/-- The words so far in a row behind block R, whether all may be written in block O. Ex: blocks that the row never is. -/
def RowS (w : World) (base R O : Nat) (Ex : Nat → Prop) (ws : List Bs) (ok : Bool) (v : Value) : Prop :=
  w.heap[R]? = some (.cells #[v] 42 (0, 0)) ∧ w.heap[O]? = some (.cells #[.bool ok] 4 (0, 0)) ∧ w.ownsRow base 9 1 v ws.length (sv ws) ∧ ∀ b, v.ownBlock = some b → ¬ Ex b

/-- What is kept beside them. -/
structure PF (base : Nat) (Ex : Nat → Prop) (R O : Nat) (w w' : World) : Prop where
  os : w'.os = w.os
  tape : w'.tape = w.tape
  output : w'.output = w.output
  size : w.heap.size ≤ w'.heap.size
  block : ∀ r, r < w.heap.size → (r < base ∨ (Ex r ∧ r ≠ R ∧ r ≠ O)) → w'.heap[r]? = w.heap[r]?

theorem PF.of {base : Nat} {Ex : Nat → Prop} {R O : Nat} {w w' : World} (h : Below w.heap.size w w') : PF base Ex R O w w' := ⟨h.os, h.tape, h.output, h.size, fun r hr _ => h.block r hr⟩
theorem PF.trans {base : Nat} {Ex : Nat → Prop} {R O : Nat} {a b c : World} (h1 : PF base Ex R O a b) (h2 : PF base Ex R O b c) : PF base Ex R O a c :=
  ⟨h2.os.trans h1.os, h2.tape.trans h1.tape, h2.output.trans h1.output, Nat.le_trans h1.size h2.size, fun r hr h => (h2.block r (Nat.lt_of_lt_of_le hr h1.size) h).trans (h1.block r hr h)⟩
theorem PF.below {base : Nat} {Ex : Nat → Prop} {R O : Nat} {w w' : World} (h : PF base Ex R O w w') {N : Nat} (hN : N ≤ base) (hs : N ≤ w.heap.size) : Below N w w' := ⟨h.os, h.tape, h.output, h.size, fun r hr => h.block r (by omega) (.inl (by omega))⟩

theorem RowS.below {w w' : World} {base R O : Nat} {Ex : Nat → Prop} {ws : List Bs} {ok : Bool} {v : Value} (h : RowS w base R O Ex ws ok v) (hb : Below w.heap.size w w') : RowS w' base R O Ex ws ok v :=
  ⟨(hb.block _ (Array.getElem?_eq_some_iff.1 h.1).1).trans h.1, (hb.block _ (Array.getElem?_eq_some_iff.1 h.2.1).1).trans h.2.1, own_keep h.2.2.1 fun b _ hl => hb.block b hl, h.2.2.2⟩

theorem RowS.set {w : World} {base R O : Nat} {Ex : Nat → Prop} {ws : List Bs} {ok : Bool} {v : Value} (h : RowS w base R O Ex ws ok v) (hRO : R ≠ O) (_hR : base ≤ R) (hO : base ≤ O) (hEO : Ex O) (b : Bool) :
    RowS (w.setCell ⟨O, 0, none⟩ (.bool b)) base R O Ex ws b v ∧ PF base Ex R O w (w.setCell ⟨O, 0, none⟩ (.bool b)) := by
  have set : ∀ r, r ≠ O → (w.setCell ⟨O, 0, none⟩ (.bool b)).heap[r]? = w.heap[r]? := fun r hr => Below.heap_setCell _ _ _ _ (by simpa using hr)
  refine ⟨⟨(set _ hRO).trans h.1, heap_setCell_same h.2.1 _, ?_, h.2.2.2⟩, rfl, rfl, rfl, by simp, fun r hr hc => set r (by rcases hc with hc | hc; omega; exact hc.2.2)⟩
  refine ⟨h.2.2.1.1, ?_⟩
  rcases h.2.2.1.2 with h0 | ⟨g, cap, cur, rfl, a, b', c⟩
  · exact .inl h0
  · exact .inr ⟨g, cap, cur, rfl, a, (set g (fun e => h.2.2.2 g rfl (e ▸ hEO))).trans b', c⟩

theorem RowS.app {w w6 : World} {base R O : Nat} {Ex : Nat → Prop} {ws : List Bs} {ok : Bool} {v v6 : Value} {x : Bs} (h : RowS w base R O Ex ws ok v) (hRO : R ≠ O) (hR : base ≤ R) (hER : Ex R) (hEO : Ex O) (hEx : ∀ b, Ex b → b < w.heap.size) {o : Obj} (hg : (w.alloc o).grownBy w6 v.ownBlock)
    (hat : v6.ownBlock = v.ownBlock ∨ v6.ownBlock = some (w.alloc o).heap.size) (ho : w6.ownsRow base 9 1 v6 (ws.length + 1) (sv ws ++ [.string ⟨x.toArray⟩])) :
    RowS (w6.setCell ⟨R, 0, none⟩ v6) base R O Ex (ws ++ [x]) ok v6 ∧ PF base Ex R O w (w6.setCell ⟨R, 0, none⟩ v6) ∧ w6.heap[R]? = some (.cells #[v] 42 (0, 0)) := by
  have hs := hg.size
  simp at hs
  have hob : ∀ b, v.ownBlock = some b → base ≤ b := fun b e => own_blk h.2.2.1 e
  have hR' := hEx R hER
  have hO' := hEx O hEO
  have blk : ∀ b, b < w.heap.size → v.ownBlock ≠ some b → w6.heap[b]? = w.heap[b]? := fun b hb hne => (hg.block b (by simp; omega) (fun e => hne e.symm)).trans (Below.heap_alloc _ _ _ hb)
  have set : ∀ r, r ≠ R → (w6.setCell ⟨R, 0, none⟩ v6).heap[r]? = w6.heap[r]? := fun r hr => Below.heap_setCell _ _ _ _ (by simpa using hr)
  have n6 : ∀ b, v6.ownBlock = some b → ¬ Ex b := fun b e => by
    rcases hat with h1 | h1
    · exact h.2.2.2 b (h1.symm.trans e)
    · have h2 := Option.some.inj (h1.symm.trans e)
      simp at h2
      intro hx
      have := hEx b hx
      omega
  have hR6 := (blk R hR' (fun e => h.2.2.2 R e hER)).trans h.1
  refine ⟨⟨heap_setCell_same hR6 _, (set _ (Ne.symm hRO)).trans ((blk O hO' (fun e => h.2.2.2 O e hEO)).trans h.2.1), ?_, n6⟩, ⟨hg.os, hg.tape, hg.output, by simp; omega, fun r hr hc => ?_⟩, hR6⟩
  · rw [sv_snoc, List.length_append]
    refine ⟨ho.1, ?_⟩
    rcases ho.2 with h0 | ⟨g, cap, cur, rfl, a, b', c⟩
    · exact .inl h0
    · exact .inr ⟨g, cap, cur, rfl, a, (set g (fun e => n6 g rfl (e ▸ hER))).trans b', c⟩
  · rcases hc with hc | hc
    · exact (set r (by omega)).trans (blk r hr (fun e => by have := hob r e; omega))
    · exact (set r hc.2.1).trans (blk r hr (fun e => h.2.2.2 r e hc.1))

set_option maxRecDepth 100000 in
set_option maxHeartbeats 2000000 in
theorem num28_call {base R O : Nat} {Ex : Nat → Prop} {ws : List Bs} {ok : Bool} {v : Value} (n : Int) (n0 : -9223372036854775808 ≤ n) (n1 : n ≤ 9223372036854775807) (w : World) (htab : Lib.TabIs Tryz.prog w "internal/strconv.uint64pow10" .u64 Lib.pow10Tab)
    (h : RowS w base R O Ex ws ok v) (hRO : R ≠ O) (hR : base ≤ R) (hO : base ≤ O) (hER : Ex R) (hEO : Ex O) (hEx : ∀ b, Ex b → b < w.heap.size) (hl : ws.length ≤ 4194304) :
    Calls Tryz.prog 28 #[.int .i64 n, .pointer (some ⟨R, 0, none⟩), .pointer (some ⟨O, 0, none⟩)] w fun e w' => (∃ u, e = .returned u) ∧ ∃ v', RowS w' base R O Ex (ws ++ [Lib.itoa n]) (ok && may n) v' ∧ PF base Ex R O w w' := by
  obtain ⟨i0, hi0, hz0, hz1, hz2⟩ := info_parts info9
  have hbase : base ≤ w.heap.size := by have := hEx R hER; omega
  have HI := Lib.hid (itoa_call n n0 n1)
  have HT := Lib.hid htab
  have HH := Lib.hid h
  have HX := Lib.hid hEx
  have HRW := Lib.hid (hEx R hER)
  have cR : w.cell? ⟨R, 0, none⟩ = some v := by rw [cell_of_row _ _ 0 _ _ _ h.1]; rfl
  have close : ∀ W, Below w.heap.size w W → Below base w W ∧ w.heap.size ≤ W.heap.size ∧ W.cell? ⟨R, 0, none⟩ = some v := fun W hb => ⟨hb.mono hbase, hb.size, (hb.cell (p := ⟨R, 0, none⟩) (Array.getElem?_eq_some_iff.1 h.1).1).trans cR⟩
  have CL := Lib.hid close
  have close6 : ∀ (W W6 : World) (o : Obj) (v6 : Value), Below w.heap.size w W → (W.alloc o).grownBy W6 v.ownBlock → (v6.ownBlock = v.ownBlock ∨ v6.ownBlock = some (W.alloc o).heap.size) → W6.ownsRow base 9 1 v6 (ws.length + 1) (sv ws ++ [.string ⟨(Lib.itoa n).toArray⟩]) →
      (Below base w W6 ∧ w.heap.size ≤ W6.heap.size ∧ W6.cell? ⟨R, 0, none⟩ = some v) ∧ W6.frozen? ⟨R, 0, none⟩ = false := fun W W6 o v6 hb hg hat ho => by
    obtain ⟨_, _, h3⟩ := (h.below hb).app hRO hR hER hEO (fun b e => Nat.lt_of_lt_of_le (hEx b e) hb.size) hg hat ho
    have hz := hb.size
    have hs := hg.size
    simp at hs
    refine ⟨⟨⟨hg.os.trans hb.os, hg.tape.trans hb.tape, hg.output.trans hb.output, by omega, fun b hl => (hg.block b (by simp; omega) (fun e => by have := own_blk h.2.2.1 e.symm; omega)).trans ((Below.heap_alloc _ _ _ (by omega)).trans (hb.block b (by omega)))⟩, by omega, ?_⟩, frozen_of_row _ _ 0 _ _ h3⟩
    rw [cell_of_row _ _ 0 _ _ _ h3]
    rfl
  have CL6 := Lib.hid close6
  clear close6
  clear h htab hEx close cR
  have cR := (CL.out _ (Below.refl _ _)).2.2
  go_enter Tryz.func28, Tryz.ntmps28
  go_upto_region 0 with fail
  go_cut [8] (fun u wx => ∃ v', RowS wx base R O Ex (ws ++ [Lib.itoa n]) ok v' ∧ PF base Ex R O w wx)
  case first =>
    go_region_law (first
        | ((refine step_app rfl (.tmp 4) (.tmp 7) 42 rfl base 9 i0 _ 1 16 Tryz.underlying42 hi0 hz0 hz1 hz2 rfl (by decide) v ws.length (sv ws) rfl ((own_keep HH.out.2.2.1 (fun b _ hl => Below.block hBW b hl)).alloc _) (some ⟨_, 0, none⟩) 1 1 [.string ⟨(Lib.itoa n).toArray⟩] rfl (src_new1 _ _ _) (by simp [Value.oneCell']) (by unfold maxLen; omega) (by omega) (by have := hBW.size; simp; omega) ?_); intro v6 w6 hown6 hgrow6 hat6; obtain ⟨A6, k6, rfl⟩ := own_form hown6; obtain ⟨hbs6, hfz6⟩ := CL6.out _ _ _ _ hBW hgrow6 hat6 hown6; have cR6 := hbs6.2.2)
        | (go_simp; go_at_call 29; (refine (HI.out _ (tab_below HT.out ((Below.refl _ _).drew))).mono ?_); rintro e wn ⟨rfl, hbn⟩; have hBW : Below w.heap.size w wn := ((Below.refl _ _).drew).trans hbn; have cRn := (CL.out _ hBW).2.2; have hRn : R < wn.heap.size := Nat.lt_of_lt_of_le HRW.out hBW.size; have hRne : R ≠ wn.heap.size := Nat.ne_of_lt hRn))
    all_goals (go_wp2_with fail; go_meet)
    all_goals
      obtain ⟨q1, q2, _⟩ := (HH.out.below hBW).app hRO hR hER hEO (fun b e => Nat.lt_of_lt_of_le (HX.out b e) hBW.size) hgrow6 hat6 hown6
      exact ⟨_, q1, (PF.of hBW).trans q2⟩
  case rest =>
    obtain ⟨v', hr, hpf⟩ := hcut
    obtain ⟨wx, hwx⟩ : ∃ wx, wc = wx := ⟨_, rfl⟩
    rw [hwx] at hr hpf ⊢
    clear hwx
    have cO : wx.cell? ⟨O, 0, none⟩ = some (.bool ok) := by rw [cell_of_row _ _ 0 _ _ _ hr.2.1]; rfl
    have fO : wx.frozen? ⟨O, 0, none⟩ = false := frozen_of_row _ _ 0 _ _ hr.2.1
    have HR := Lib.hid hr
    have HPF := Lib.hid hpf
    clear hr hpf
    have HF := Lib.hid (fits_call n wx)
    cases ok with
    | true =>
      go_wp2_with fail
      refine HF.out.mono ?_
      rintro e w3 ⟨rfl, rfl⟩
      go_wp2_with fail
      go_end0
      obtain ⟨q1, q2⟩ := HR.out.set hRO hR hO hEO (may n)
      exact ⟨⟨_, rfl⟩, v', q1, HPF.out.trans q2⟩
    | false =>
      go_wp2_with fail
      go_end0
      obtain ⟨q1, q2⟩ := HR.out.set hRO hR hO hEO false
      exact ⟨⟨_, rfl⟩, v', q1, HPF.out.trans q2⟩
end Go.Proofs.YtlibjfmafpiopaaGreatDoor
