/- Proved: munimentlaw13.StagingApart returns true for any two rows of pieces, and leaves its arguments as they were. Conditions: none beyond the given row's own. -/
import Derived.Test.YtjpkendpnpkbeaaStageShown
import Derived.Test.YtjpkendpnpkbeaaLaw
import Derived.Deep.Slices
namespace Go.Proofs.Ytjpkendpnpkbeaa
open Go.RowKit

/-- A slice value that reads as bytes; its block lies below the heap's end. -/
def BSl (w : World) (v : Value) (bs : List Int) : Prop :=
  ∃ A c, v = .slice A bs.length c ∧ (0 < bs.length → ∃ b off, A = some ⟨b, off, none⟩ ∧ b < w.heap.size ∧ ∀ k, k < bs.length → w.cell? ⟨b, off + k, none⟩ = some (.int .u8 (bs.getD k 0)))

theorem BSl.below {w w' : World} {v : Value} {bs : List Int} (h : BSl w v bs) (hb : Below w.heap.size w w') : BSl w' v bs := by
  obtain ⟨A, c, rfl, h⟩ := h
  refine ⟨A, c, rfl, fun h0 => ?_⟩
  obtain ⟨b, off, rfl, hl, hc⟩ := h h0
  exact ⟨b, off, rfl, Nat.lt_of_lt_of_le hl hb.size, fun k hk => (hb.cell (p := ⟨b, off + k, none⟩) hl).trans (hc k hk)⟩

theorem BSl.src {w : World} {A : Option Addr} {n c : Nat} {bs : List Int} (h : BSl w (.slice A n c) bs) : n = bs.length ∧ Src w 1 A bs.length (u8s bs) := by
  obtain ⟨A', c', e, h⟩ := h
  cases e
  refine ⟨rfl, by simp [u8s], fun h0 => ?_⟩
  obtain ⟨b, off, rfl, hl, hc⟩ := h h0
  refine ⟨_, rfl, fun j u hu => ?_⟩
  unfold u8s at hu
  rw [List.getElem?_map] at hu
  have hj : j < bs.length := by
    rcases Nat.lt_or_ge j bs.length with h1 | h1
    · exact h1
    · rw [List.getElem?_eq_none h1] at hu; cases hu
  have hadd : (⟨b, off, none⟩ : Addr).add j = ⟨b, off + j, none⟩ := by unfold Addr.add; split <;> simp_all
  rw [hadd, hc j hj, List.getD_eq_getElem?_getD]
  rw [List.getElem?_eq_getElem hj] at hu ⊢
  cases hu
  rfl

/-- A slice of slices of bytes. -/
def Rows2 (w : World) (A : Option Addr) (rows : List (List Int)) : Prop :=
  rows.length ≤ 9223372036854775807 ∧ (0 < rows.length → ∃ b off, A = some ⟨b, off, none⟩ ∧ b < w.heap.size ∧ ∀ k bs, rows[k]? = some bs → bs.length ≤ 140737488351232 ∧ ∃ v, w.cell? ⟨b, off + k, none⟩ = some v ∧ BSl w v bs)

theorem Rows2.below {w w' : World} {A : Option Addr} {rows : List (List Int)} (h : Rows2 w A rows) (hb : Below w.heap.size w w') : Rows2 w' A rows := by
  refine ⟨h.1, fun h0 => ?_⟩
  obtain ⟨b, off, rfl, hl, hc⟩ := h.2 h0
  refine ⟨b, off, rfl, Nat.lt_of_lt_of_le hl hb.size, fun k bs hk => ?_⟩
  obtain ⟨hlen, v, h1, h2⟩ := hc k bs hk
  exact ⟨hlen, v, (hb.cell (p := ⟨b, off + k, none⟩) hl).trans h1, h2.below hb⟩

/-- What the loop keeps: two sessions, and the law's own two rows beside them. -/
def InvA (N : Nat) (w wr : World) (g B : Nat) (vW vO : Value) : Prop :=
  ∃ (F : Nat → Prop) (xs ys : List Int), Stg wr F g B 2 ((xs.length + ys.length : Nat) : Int) [(0, xs), (1, ys)] ∧ (∀ b, F b → N ≤ b ∧ b < wr.heap.size) ∧ BRow wr vW xs ∧ BRow wr vO ys ∧
    (∀ b, vW.ownBlock = some b → N ≤ b ∧ ¬ F b ∧ vO.ownBlock ≠ some b) ∧ (∀ b, vO.ownBlock = some b → N ≤ b ∧ ¬ F b) ∧ xs.length ≤ 512 ∧ ys.length ≤ 512 ∧ Below N w wr ∧ N ≤ wr.heap.size

namespace stagingApart

/-- Behind an Add that took the bytes. -/
theorem inv_add {N : Nat} {wr w' : World} {F F' : Nat → Prop} {v : Value} {bs : List Int} (hN : N ≤ wr.heap.size) (hF : ∀ b, F b → N ≤ b ∧ b < wr.heap.size)
    (hF' : ∀ b, F' b → F b ∨ (wr.heap.size ≤ b ∧ b < w'.heap.size)) (hT : Touch F wr w') (hr : BRow wr v bs) (hd : ∀ b, v.ownBlock = some b → ¬ F b) :
    (∀ b, F' b → N ≤ b ∧ b < w'.heap.size) ∧ BRow w' v bs ∧ (∀ b, v.ownBlock = some b → ¬ F' b) := by
  refine ⟨fun b hb => ?_, hr.keep fun b e => hT.block b (hr.lt e) (hd b e), fun b e hb => ?_⟩
  · rcases hF' b hb with h | h
    · exact ⟨(hF b h).1, Nat.lt_of_lt_of_le (hF b h).2 hT.size⟩
    · exact ⟨by omega, h.2⟩
  · rcases hF' b hb with h | h
    · exact hd b e h
    · have := hr.lt e
      omega

theorem add_long {w : World} {F : Nat → Prop} {g B : Nat} {nx by_ : Int} {l : List (Int × List Int)} (h : Stg w F g B nx by_ l) (k : Int) (bs : List Int) (hl : ∃ r, l.find? (fun p => p.1 == k) = some r ∧ r.2 = bs) (A : Option Addr) (m c : Nat)
    (h0 : 0 ≤ by_) (h1 : by_ ≤ 2048) (h2 : bs.length ≤ 512) (h3 : m ≤ 140737488355328) (hx : 512 < bs.length + m) :
    Calls Try.prog 13 #[.pointer (some ⟨g, 0, none⟩), .int .i64 k, .slice A m c] w fun e w' => e = .returned (.int .i64 5) ∧ w = w' := by
  have := add_refused h k bs hl A m c h0 h1 h2 h3 (.inl hx)
  rw [if_pos hx] at this
  exact this

/-- The inner step of both halves: one row has grown by the bytes that its session took. -/
theorem row_grown {N : Nat} {w5 w6 : World} {F5 : Nat → Prop} {v v' o : Value} {bs zs os : List Int} (hF : ∀ b, F5 b → N ≤ b ∧ b < w5.heap.size) (hN : N ≤ w5.heap.size) (hv : ∀ b, v.ownBlock = some b → N ≤ b ∧ ¬ F5 b ∧ o.ownBlock ≠ some b)
    (ho : BRow w5 o os) (hof : ∀ b, o.ownBlock = some b → ¬ F5 b)
    (hown : w6.ownsRow 0 5 1 v' (bs.length + zs.length) (u8s bs ++ u8s zs)) (hg : w5.grownBy w6 v.ownBlock) (hat : v'.ownBlock = v.ownBlock ∨ v'.ownBlock = some w5.heap.size) :
    BRow w6 v' (bs ++ zs) ∧ BRow w6 o os ∧ (∀ b, F5 b → w6.heap[b]? = w5.heap[b]?) ∧ (∀ b, F5 b → N ≤ b ∧ b < w6.heap.size) ∧ (∀ b, v'.ownBlock = some b → N ≤ b ∧ ¬ F5 b ∧ o.ownBlock ≠ some b) ∧ Below N w5 w6 := by
  refine ⟨?_, ho.keep fun b e => hg.block b (ho.lt e) (fun e2 => (hv b e2.symm).2.2 e), fun b hb => hg.block b (hF b hb).2 (fun e => (hv b e.symm).2.1 hb), fun b hb => ⟨(hF b hb).1, Nat.lt_of_lt_of_le (hF b hb).2 hg.size⟩, fun b e => ?_,
    ⟨hg.os, hg.tape, hg.output, hg.size, fun b hb => hg.block b (by omega) (fun e => by have := (hv b e.symm).1; omega)⟩⟩
  · unfold BRow u8s
    rw [List.length_append, List.map_append]
    exact hown
  · rcases hat with h | h
    · exact hv b (h.symm.trans e)
    · have : w5.heap.size = b := Option.some.inj (h.symm.trans e)
      subst this
      exact ⟨hN, fun hf => by have := (hF _ hf).2; omega, fun e2 => by have := ho.lt e2; omega⟩

theorem inv_x {N : Nat} {w wr w5 w6 : World} {g B : Nat} {F F5 : Nat → Prop} {xs ys zs : List Int} {vW vO v' : Value} (hF : ∀ b, F b → N ≤ b ∧ b < wr.heap.size) (hrx : BRow wr vW xs) (hry : BRow wr vO ys)
    (hdx : ∀ b, vW.ownBlock = some b → N ≤ b ∧ ¬ F b ∧ vO.ownBlock ≠ some b) (hdy : ∀ b, vO.ownBlock = some b → N ≤ b ∧ ¬ F b) (ly : ys.length ≤ 512) (T : Below N w wr) (hN : N ≤ wr.heap.size)
    (S5 : Stg w5 F5 g B 2 (((xs.length + ys.length : Nat) : Int) + (zs.length : Int)) (upd 0 (xs ++ zs) [(0, xs), (1, ys)])) (E6 : ∀ b, F5 b → F b ∨ (wr.heap.size ≤ b ∧ b < w5.heap.size)) (U5 : Touch F wr w5) (hfit : xs.length + zs.length ≤ 512)
    (hown : w6.ownsRow 0 5 1 v' (xs.length + zs.length) (u8s xs ++ u8s zs)) (hg : w5.grownBy w6 vW.ownBlock) (hat : v'.ownBlock = vW.ownBlock ∨ v'.ownBlock = some w5.heap.size) : InvA N w w6 g B v' vO := by
  obtain ⟨a1, a2, a3⟩ := inv_add hN hF E6 U5 hrx fun b e => (hdx b e).2.1
  obtain ⟨_, b2, b3⟩ := inv_add hN hF E6 U5 hry fun b e => (hdy b e).2
  have T5 : Below N w w5 := T.trans (below_of_touch U5 (fun b hb => (hF b hb).1) hN)
  have hN5 : N ≤ w5.heap.size := Nat.le_trans hN U5.size
  obtain ⟨c1, c2, c3, c4, c5, c6⟩ := row_grown a1 hN5 (fun b e => ⟨(hdx b e).1, a3 b e, (hdx b e).2.2⟩) b2 b3 hown hg hat
  have e1 : (((xs.length + ys.length : Nat) : Int) + (zs.length : Int)) = (((xs ++ zs).length + ys.length : Nat) : Int) := by rw [List.length_append]; omega
  rw [e1] at S5
  exact ⟨F5, xs ++ zs, ys, S5.keep c3, c4, c1, c2, c5, fun b e => ⟨(hdy b e).1, b3 b e⟩, by rw [List.length_append]; exact hfit, ly, T5.trans c6, Nat.le_trans hN5 hg.size⟩

theorem inv_y {N : Nat} {w wr w5 w6 : World} {g B : Nat} {F F5 : Nat → Prop} {xs ys zs : List Int} {vW vO v' : Value} (hF : ∀ b, F b → N ≤ b ∧ b < wr.heap.size) (hrx : BRow wr vW xs) (hry : BRow wr vO ys)
    (hdx : ∀ b, vW.ownBlock = some b → N ≤ b ∧ ¬ F b ∧ vO.ownBlock ≠ some b) (hdy : ∀ b, vO.ownBlock = some b → N ≤ b ∧ ¬ F b) (lx : xs.length ≤ 512) (T : Below N w wr) (hN : N ≤ wr.heap.size)
    (S5 : Stg w5 F5 g B 2 (((xs.length + ys.length : Nat) : Int) + (zs.length : Int)) (upd 1 (ys ++ zs) [(0, xs), (1, ys)])) (E6 : ∀ b, F5 b → F b ∨ (wr.heap.size ≤ b ∧ b < w5.heap.size)) (U5 : Touch F wr w5) (hfit : ys.length + zs.length ≤ 512)
    (hown : w6.ownsRow 0 5 1 v' (ys.length + zs.length) (u8s ys ++ u8s zs)) (hg : w5.grownBy w6 vO.ownBlock) (hat : v'.ownBlock = vO.ownBlock ∨ v'.ownBlock = some w5.heap.size) : InvA N w w6 g B vW v' := by
  obtain ⟨a1, a2, a3⟩ := inv_add hN hF E6 U5 hry fun b e => (hdy b e).2
  obtain ⟨_, b2, b3⟩ := inv_add hN hF E6 U5 hrx fun b e => (hdx b e).2.1
  have T5 : Below N w w5 := T.trans (below_of_touch U5 (fun b hb => (hF b hb).1) hN)
  have hN5 : N ≤ w5.heap.size := Nat.le_trans hN U5.size
  obtain ⟨c1, c2, c3, c4, c5, c6⟩ := row_grown a1 hN5 (fun b e => ⟨(hdy b e).1, a3 b e, fun e2 => (hdx b e2).2.2 e⟩) b2 b3 hown hg hat
  have e1 : (((xs.length + ys.length : Nat) : Int) + (zs.length : Int)) = ((xs.length + (ys ++ zs).length : Nat) : Int) := by rw [List.length_append]; omega
  rw [e1] at S5
  exact ⟨F5, xs, ys ++ zs, S5.keep c3, c4, c2, c1, fun b e => ⟨(hdx b e).1, b3 b e, fun e2 => (c5 b e2).2.2 e⟩, fun b e => ⟨(c5 b e).1, (c5 b e).2.1⟩, lx, by rw [List.length_append]; exact hfit, T5.trans c6, Nat.le_trans hN5 hg.size⟩

set_option maxRecDepth 100000 in
set_option maxHeartbeats 4000000 in
theorem walk (A1 A2 : Option Addr) (c1 c2 : Nat) (pa pb : List (List Int)) (w : World) (ha : Rows2 w A1 pa) (hb : Rows2 w A2 pb) :
    Calls Try.prog 3 #[.slice A1 pa.length c1, .slice A2 pb.length c2] w fun e w' => e = .returned (.bool true) ∧ Below w.heap.size w w' := by
  have hla := ha.1
  have hlb := hb.1
  go_enter Try.func3, Try.ntmps3
  go_wp2_with fail
  refine (shown13_call _).mono ?_
  rintro e w1 ⟨rfl, B1⟩
  go_wp2_with fail
  refine (new_call _).mono ?_
  rintro e w2 ⟨rfl, B2, z2, S2⟩
  have hz1 := B1.size
  obtain ⟨g, hg⟩ : ∃ g, w1.heap.size + 1 = g := ⟨_, rfl⟩
  obtain ⟨B, hB⟩ : ∃ B, w1.heap.size = B := ⟨_, rfl⟩
  have F2 : ∀ b, (b = w1.heap.size ∨ b = w1.heap.size + 1) → w.heap.size ≤ b ∧ b < w2.heap.size := fun b hb => by omega
  obtain ⟨F, hF⟩ : ∃ F : Nat → Prop, F = fun b => b = w1.heap.size ∨ b = w1.heap.size + 1 := ⟨_, rfl⟩
  rw [← hF, hg, hB] at S2
  have T2 : Below w.heap.size w w2 := B1.trans (B2.mono hz1)
  have G2 : ∀ b, F b → w.heap.size ≤ b ∧ b < w2.heap.size := by rw [hF]; exact F2
  simp only [hg]
  clear hF F2 hg hB B1 B2 z2 hz1
  go_wp2_with fail
  refine (begin_call S2 (by decide) (by simp) (by omega) (by omega)).mono ?_
  rintro e w3 ⟨rfl, S3, U3, z3⟩
  go_wp2_with fail
  refine (begin_call S3 (by decide) (by simp) (by omega) (by omega)).mono ?_
  rintro e w4 ⟨rfl, S4, U4, z4⟩
  have T4 : Below w.heap.size w w4 := T2.trans ((below_of_touch (U3.trans U4) (fun b hb => (G2 b hb).1) T2.size))
  have G4 : ∀ b, F b → w.heap.size ≤ b ∧ b < w4.heap.size := fun b hb => by have := G2 b hb; omega
  have hz4 := T4.size
  clear S2 S3 U3 U4 z3 z4 T2 G2
  go_wp2
  go_loopw [11, 12, 13] (fun vW vO i wr => ∃ k : Nat, i = .int .i64 k ∧ InvA w.heap.size w wr g B vW vO) (fun _ _ i _ => pa.length + pb.length - (intOf i).toNat)
  case atStart =>
    refine ⟨0, rfl, F, [], [], (S4.keep fun b hb => ?_), fun b hb => ?_, ?_, ?_, fun b e => ?_, fun b e => ?_, by simp, by simp, by go_grown, by simp; omega⟩
    · have := G4 b hb
      rw [Below.heap_alloc _ _ _ (by simp; omega), Below.heap_alloc _ _ _ this.2]
    · have := G4 b hb
      simp; omega
    · exact own_alloc (World.ownsRow_made w4 #[] 0 (Nat.zero_le _) (by decide) rfl) _
    · have := World.ownsRow_made (base := 0) (e := 5) (size := 1) (w4.alloc (.cells #[] 5)) #[] 0 (Nat.zero_le _) (by decide) rfl
      unfold BRow u8s
      simpa using this
    · simp [Value.ownBlock] at e
      subst e
      refine ⟨hz4, fun hf => ?_, by simp [Value.ownBlock]⟩
      have := G4 _ hf
      omega
    · simp [Value.ownBlock] at e
      subst e
      refine ⟨by omega, fun hf => ?_⟩
      have := G4 _ hf
      omega
  case round =>
    clear S4 T4 G4 hz4
    obtain ⟨k, rfl, hI⟩ := hrel
    obtain ⟨vW, rfl⟩ : ∃ v : Value, v = u11 := ⟨_, rfl⟩
    obtain ⟨vO, rfl⟩ : ∃ v : Value, v = u12 := ⟨_, rfl⟩
    by_cases hk : k < pa.length ∨ k < pb.length
    · have hkm : k < 9223372036854775807 := by omega
      go_upto_region 12 with fail
      go_cut [60] (fun b wx => b = .bool true ∧ wx = wr)
      case first =>
        by_cases h1 : k < pa.length
        · have u1 : decide (k < pa.length) = true := decide_eq_true h1
          go_wp2_with fail
          go_meet
          exact ⟨rfl, rfl⟩
        · have u1 : decide (k < pa.length) = false := decide_eq_false h1
          have u2 : decide (k < pb.length) = true := decide_eq_true (by omega)
          go_wp2_with fail
          go_meet
          exact ⟨rfl, rfl⟩
      case rest =>
      obtain ⟨rfl, hwr⟩ := hcut
      rw [hwr]
      clear hwr
      go_upto_if 66 with fail
      go_cut [11] (fun vW' wx => InvA w.heap.size w wx g B vW' vO)
      case first =>
        by_cases h1 : k < pa.length
        · have u1 : decide (k < pa.length) = true := decide_eq_true h1
          have hI0 := hI
          obtain ⟨F, xs, ys, S, hF, hrx, hry, hdx, hdy, lx, ly, T, hN⟩ := hI
          obtain ⟨ob, oo, rfl, hol, hoc⟩ := ha.2 (by omega)
          obtain ⟨zs, hzs⟩ : ∃ zs, pa[k]? = some zs := ⟨pa[k], List.getElem?_eq_getElem h1⟩
          obtain ⟨hzl, v, hcv0, hv0⟩ := hoc k zs hzs
          have hv := hv0
          obtain ⟨Az, cz, rfl, _⟩ := hv
          have hcv := (T.cell (p := ⟨ob, oo + k, none⟩) hol).trans hcv0
          have hsrc := (hv0.below T).src.2
          obtain ⟨Aw, cw, rfl⟩ := hrx.form
          have i0' : (0 : Int) ≤ (k : Int) := Int.natCast_nonneg _
          have i1' : (k : Int) < (pa.length : Int) := by omega
          obtain ⟨i0, hi0, hz0, hz1, hz2⟩ := info_parts info5
          clear hoc hzs hI0
          by_cases hfit : xs.length + zs.length ≤ 512
          · have hf : decide ((xs.length : Int) + (zs.length : Int) ≤ 512) = true := decide_eq_true (by omega)
            go_wp2_with (first
              | (go_at_call 13; refine (add_call S 0 xs ⟨(0, xs), rfl, rfl⟩ _ _ zs hsrc (by omega) hfit (by omega)).mono ?_; rintro e w5 ⟨rfl, F5, S5, E5, E6, U5⟩; have T5 : Below w.heap.size w w5 := T.trans (below_of_touch U5 (fun b hb => (hF b hb).1) hN); have hcv5 := (T5.cell (p := ⟨ob, oo + k, none⟩) hol).trans hcv0; have hsrc5 := (hv0.below T5).src.2; have hrow5 := (inv_add hN hF E6 U5 hrx (fun b e => (hdx b e).2.1)).2.1)
              | (at_builtin; refine wpList_app rfl (.tmp 88) (.tmp 92) 29 rfl 0 5 i0 _ 1 1 Try.underlying29 hi0 hz0 hz1 hz2 rfl (by omega) (.slice Aw xs.length cw) xs.length (u8s xs) rfl hrow5 Az zs.length cz (u8s zs) rfl hsrc5 (u8s_one zs) (by unfold maxLen; omega) (by omega) (Nat.zero_le _) ?_; intro v6 w6 hown6 hgrow6 hat6))
            go_meet
            exact inv_x hF hrx hry hdx hdy ly T hN S5 E6 U5 hfit hown6 hgrow6 hat6
          · have hf : decide ((xs.length : Int) + (zs.length : Int) ≤ 512) = false := decide_eq_false (by omega)
            go_wp2_with (go_at_call 13; refine (add_long S 0 xs ⟨(0, xs), rfl, rfl⟩ _ _ _ (by omega) (by omega) (by omega) (by omega) (by omega)).mono ?_; rintro e w5 ⟨rfl, rfl⟩)
            go_meet
            exact ⟨F, xs, ys, S, hF, hrx, hry, hdx, hdy, lx, ly, T, hN⟩
        · have u1 : decide (k < pa.length) = false := decide_eq_false h1
          go_wp2_with fail
          go_meet
          exact hI
      case rest =>
      clear hI
      obtain ⟨vX, rfl⟩ : ∃ v : Value, v = u11 := ⟨_, rfl⟩
      obtain ⟨wq, rfl⟩ : ∃ w' : World, w' = wc := ⟨_, rfl⟩
      have hI := hcut
      clear hcut
      by_cases h1 : k < pb.length
      · have u1 : decide (k < pb.length) = true := decide_eq_true h1
        have hI0 := hI
        obtain ⟨F, xs, ys, S, hF, hrx, hry, hdx, hdy, lx, ly, T, hN⟩ := hI
        obtain ⟨ob, oo, rfl, hol, hoc⟩ := hb.2 (by omega)
        obtain ⟨zs, hzs⟩ : ∃ zs, pb[k]? = some zs := ⟨pb[k], List.getElem?_eq_getElem h1⟩
        obtain ⟨hzl, v, hcv0, hv0⟩ := hoc k zs hzs
        have hv := hv0
        obtain ⟨Az, cz, rfl, _⟩ := hv
        have hcv := (T.cell (p := ⟨ob, oo + k, none⟩) hol).trans hcv0
        have hsrc := (hv0.below T).src.2
        obtain ⟨Aw, cw, rfl⟩ := hry.form
        have i0' : (0 : Int) ≤ (k : Int) := Int.natCast_nonneg _
        have i1' : (k : Int) < (pb.length : Int) := by omega
        obtain ⟨i0, hi0, hz0, hz1, hz2⟩ := info_parts info5
        clear hoc hzs hI0
        by_cases hfit : ys.length + zs.length ≤ 512
        · have hf : decide ((ys.length : Int) + (zs.length : Int) ≤ 512) = true := decide_eq_true (by omega)
          go_wp2_with (first
            | (go_at_call 13; refine (add_call S 1 ys ⟨(1, ys), rfl, rfl⟩ _ _ zs hsrc (by omega) hfit (by omega)).mono ?_; rintro e w5 ⟨rfl, F5, S5, E5, E6, U5⟩; have T5 : Below w.heap.size w w5 := T.trans (below_of_touch U5 (fun b hb => (hF b hb).1) hN); have hcv5 := (T5.cell (p := ⟨ob, oo + k, none⟩) hol).trans hcv0; have hsrc5 := (hv0.below T5).src.2; have hrow5 := (inv_add hN hF E6 U5 hry (fun b e => (hdy b e).2)).2.1)
            | (at_builtin; refine wpList_app rfl (.tmp 119) (.tmp 123) 29 rfl 0 5 i0 _ 1 1 Try.underlying29 hi0 hz0 hz1 hz2 rfl (by omega) (.slice Aw ys.length cw) ys.length (u8s ys) rfl hrow5 Az zs.length cz (u8s zs) rfl hsrc5 (u8s_one zs) (by unfold maxLen; omega) (by omega) (Nat.zero_le _) ?_; intro v6 w6 hown6 hgrow6 hat6))
          exact ⟨⟨k + 1, by go_num, inv_y hF hrx hry hdx hdy lx T hN S5 E6 U5 hfit hown6 hgrow6 hat6⟩, by simp [intOf]; omega⟩
        · have hf : decide ((ys.length : Int) + (zs.length : Int) ≤ 512) = false := decide_eq_false (by omega)
          go_wp2_with (go_at_call 13; refine (add_long S 1 ys ⟨(1, ys), rfl, rfl⟩ _ _ _ (by omega) (by omega) (by omega) (by omega) (by omega)).mono ?_; rintro e w5 ⟨rfl, rfl⟩)
          exact ⟨⟨k + 1, by go_num, F, xs, ys, S, hF, hrx, hry, hdx, hdy, lx, ly, T, hN⟩, by simp [intOf]; omega⟩
      · have u1 : decide (k < pb.length) = false := decide_eq_false h1
        go_wp2_with fail
        exact ⟨⟨k + 1, by go_num, hI⟩, by simp [intOf]; omega⟩
    · have u1 : decide (k < pa.length) = false := decide_eq_false (by omega)
      have u2 : decide (k < pb.length) = false := decide_eq_false (by omega)
      obtain ⟨F, xs, ys, S, hF, hrx, hry, hdx, hdy, lx, ly, T, hN⟩ := hI
      obtain ⟨Aw, cw, rfl⟩ := hrx.form
      obtain ⟨Ao, co, rfl⟩ := hry.form
      go_wp2_with fail
      refine (take_call S 1 ys ⟨(1, ys), rfl, rfl⟩ (by omega) (by omega) (by omega)).mono ?_
      rintro e w5 ⟨A5, k5, rfl, r5, f5, S5, U5, z5⟩
      go_wp2_with fail
      refine (take_call S5 0 xs ⟨(0, xs), rfl, rfl⟩ (by omega) (by omega) (by omega)).mono ?_
      rintro e w6 ⟨A6, k6, rfl, r6, f6, S6, U6, z6⟩
      have T6 : Below w.heap.size w w6 := (T.trans (below_of_touch U5 (fun b hb => (hF b hb).1) hN)).trans (below_of_touch U6 (fun b hb => (hF b hb.1).1) (by omega))
      have q5 : BRow w6 (.slice A5 ys.length k5) ys := r5.keep fun b e => U6.block b (r5.lt e) (fun hb => hb.2 e)
      have qx5 : BRow w5 (.slice Aw xs.length cw) xs := hrx.keep fun b e => U5.block b (hrx.lt e) (hdx b e).2.1
      have qx : BRow w6 (.slice Aw xs.length cw) xs := qx5.keep fun b e => U6.block b (qx5.lt e) (fun hb => (hdx b e).2.1 hb.1)
      have qy5 : BRow w5 (.slice Ao ys.length co) ys := hry.keep fun b e => U5.block b (hry.lt e) (hdy b e).2
      have qy : BRow w6 (.slice Ao ys.length co) ys := qy5.keep fun b e => U6.block b (qy5.lt e) (fun hb => (hdy b e).2 hb.1)
      have v1 := brow_str q5 rfl
      have v2 := brow_str qy rfl
      have v3 := brow_str r6 rfl
      have v4 := brow_str qx rfl
      clear S5 S U5 U6 f5 f6 r5 q5 qx5 qx qy5 qy hrx hry hdx hdy r6 T
      go_wp2_with fail
      refine (count_call S6).mono ?_
      rintro e w' ⟨rfl, rfl⟩
      go_wp2_with fail
      go_ret
      exact ⟨rfl, T6⟩

section
open Go.ChangeShapes Go.WideShapes Go.ChangeAt Go.Deep
variable {H : Type} {enc : TypeId × Value → H}

theorem mem_weightsAll {P : Program} {e : TypeId} {n : Nat} {d : DataW H} (hn : n ∈ d.weights P e) : ∀ {es : List (DataW H)}, d ∈ es → n ∈ DataW.weightsAll P e es
  | [], h => by cases h
  | x :: es, h => by
    simp only [DataW.weightsAll, List.mem_append]
    rcases List.mem_cons.1 h with rfl | h
    · exact .inl hn
    · exact .inr (mem_weightsAll hn h)

theorem reach_eq : reachBytes = 140737488351232 := by decide

theorem open_bytes {W : World} {n : Nat} {v : Value} {y : DataW H × List MemPlace} (h : DataW.trod enc Try.prog W 0 (fun _ => true) true n 29 [v] = some y) (hw : ∀ k ∈ y.1.weights Try.prog 29, k ≤ reachBytes) :
    ∃ bs, BSl W v bs ∧ bs.length ≤ 140737488351232 := by
  rcases open_ints Try.underlying29 Try.underlying5 (by kernel_rfl) h with ⟨hcs, hx⟩ | ⟨a, len, cap, zs, hcs, _, hl, hm, hz, hx, hcell, hwz⟩
  · simp only [List.cons.injEq, and_true] at hcs
    subst hcs
    exact ⟨[], ⟨none, 0, rfl, fun h0 => absurd h0 (by simp)⟩, by simp⟩
  · simp only [List.cons.injEq, and_true] at hcs
    simp only [if_true] at hz
    subst hcs; subst hx
    have htl : (zs.take len).length = len := by rw [List.length_take]; omega
    have hb5 : Try.prog.bytesOf 5 = 1 := by kernel_rfl
    have hlen := hw ((zs.take len).length + (zs.drop len).length) (by simp [DataW.weights, Try.underlying29, hb5, lits])
    rw [reach_eq] at hlen
    refine ⟨zs.take len, ⟨some a, cap, by rw [htl], fun h0 => ?_⟩, by omega⟩
    rw [htl] at h0
    obtain ⟨b, off, rfl, hc⟩ := ints_at hcell (by omega)
    refine ⟨b, off, rfl, World.block_lt_of_cell? W _ (hc 0 (by omega)), fun k hk => ?_⟩
    rw [htl] at hk
    rw [hc k (by omega), List.getD_eq_getElem?_getD, List.getD_eq_getElem?_getD, List.getElem?_take, if_pos hk]

theorem open_rows {W : World} {v : Value} {d : DataW H} {p : List MemPlace} {base : Nat} (hv : Value.okWide Try.prog W .any base 22 v) (h : DataW.Trod enc Try.prog W 0 (fun _ => true) true 22 v d p) (hw : ∀ k ∈ d.weights Try.prog 22, k ≤ reachBytes) :
    ∃ A c rows, v = .slice A rows.length c ∧ Rows2 W A rows := by
  obtain ⟨a0, len0, cap0, rfl⟩ := okWide_slice Try.underlying22 hv
  obtain ⟨fuel, hf⟩ := h
  have hf' : DataW.trod enc Try.prog W 0 (fun _ => true) true fuel 22 [.slice a0 len0 cap0] = some (d, p) := by simpa [Value.cells] using hf
  rcases open_slice1 Try.underlying22 (by kernel_rfl) hf' with ⟨hcs, _⟩ | ⟨a, len, cap, m, n, V, D, Pl, hcs, _, hl, hm, hmm, hx, hi⟩
  · simp only [List.cons.injEq, and_true] at hcs
    rw [hcs]
    exact ⟨none, 0, [], rfl, by simp, fun h0 => absurd h0 (by simp)⟩
  · simp only [List.cons.injEq, and_true] at hcs
    simp only [if_true] at hmm
    rw [hcs]
    simp only [Prod.mk.injEq] at hx
    obtain ⟨rfl, _⟩ := hx
    have each : ∀ i, i < len → ∃ bs, BSl W (V i) bs ∧ bs.length ≤ 140737488351232 := fun i hil => by
      refine open_bytes (hi i (by omega)).2 fun k hk => hw k ?_
      simp only [DataW.weights, Try.underlying22, List.mem_cons, List.mem_append]
      exact .inr (.inl (mem_weightsAll hk (List.mem_map.2 ⟨i, List.mem_range.2 hil, rfl⟩)))
    obtain ⟨R, hR⟩ := choose_lt (α := List Int) each
    have hrl : ((List.range len).map R).length = len := by simp
    refine ⟨some a, cap, (List.range len).map R, by rw [hrl], by rw [hrl]; unfold maxLen at hm; omega, fun h0 => ?_⟩
    rw [hrl] at h0
    obtain ⟨b, off, spot⟩ := a
    have hspot : spot = none := by simpa [Addr.add] using World.cell?_spot (hi 0 (by omega)).1
    subst hspot
    refine ⟨b, off, rfl, World.block_lt_of_cell? W _ (hi 0 (by omega)).1, fun k bs hk => ?_⟩
    rw [List.getElem?_map] at hk
    have hkl : k < len := by
      rcases Nat.lt_or_ge k len with h1 | h1
      · exact h1
      · rw [List.getElem?_eq_none (by simpa using h1)] at hk; cases hk
    rw [List.getElem?_range hkl] at hk
    cases hk
    refine ⟨(hR k hkl).2, V k, ?_, (hR k hkl).1⟩
    have := (hi k (by omega)).1
    rwa [Go.WideShapes.add_plain] at this

theorem own : ownKnob Try.prog.godebug = none := by kernel_rfl
theorem laidOut : laidOutB Try.prog = true := by kernel_rfl

set_option maxRecDepth 100000 in
theorem lifted (os : Os) (started : os.Started) (H : Type) (enc : TypeId × Value → H) :
    ReturnsInHanded {} Try.checked os 3 .any (fun w args => Rows.stagingApartSpec.pre6 enc Try.prog Try.f3 Rows.stagingApartRow.domain false w args) (Rows.stagingApartSpec.post enc Try.prog Try.f3 false true false false) := by
  refine returnsInHanded_of_change_sized (C := Try.checked) own started (by kernel_rfl) Try.func3
    (ChangeSpec.witness6 (enc := enc) (C := Try.checked) false ⟨#[], #[.slice none 0 0, .slice none 0 0], []⟩ 8 (by kernel_rfl) (by kernel_rfl) (by kernel_rfl) (by kernel_rfl)) ?_
  intro W base args ds gs before hval0 hW hcnd hsz _
  have hval : ∀ (j : Nat) t v, Try.f3.params[j]? = some t → args[j]? = some v → Value.okWide Try.prog W .any base t v := hval0
  have hW' := hW
  obtain ⟨p, q, hA0, hV, rfl, hfz, hnd⟩ := hW
  have hA : DataW.TrodAll enc Try.prog W 0 (fun _ => true) true Try.f3.params.toList args.toList ds p := hA0
  rw [Try.params3] at hA hval
  obtain ⟨v0, v1, d0, d1, p0, p1, rfl, rfl, rfl, h0, h1⟩ := trodAll_two hA
  obtain ⟨rfl, rfl⟩ := trodVars_none hV
  have hf0 : ∀ k ∈ d0.weights Try.prog 22, k ≤ reachBytes := fun k hk => by
    have := List.all_eq_true.1 hsz k (DataW.weights_mem_each (j := 0) (t := 22) (d := d0) rfl rfl k hk)
    simpa using this
  have hf1 : ∀ k ∈ d1.weights Try.prog 22, k ≤ reachBytes := fun k hk => by
    have := List.all_eq_true.1 hsz k (DataW.weights_mem_each (j := 1) (t := 22) (d := d1) rfl rfl k hk)
    simpa using this
  obtain ⟨A1, c1, pa, rfl, ha⟩ := open_rows (hval 0 22 v0 rfl rfl) h0 hf0
  obtain ⟨A2, c2, pb, rfl, hb⟩ := open_rows (hval 1 22 v1 rfl rfl) h1 hf1
  clear hA0 hval0 hA hsz
  refine (walk A1 A2 c1 c2 pa pb W ha hb).mono fun e W' ⟨he, hg⟩ => ?_
  subst he
  exact ⟨_, rfl, law_post laidOut Try.underlying4 (by kernel_rfl) rfl (by kernel_rfl) hW' rfl hg⟩

theorem proved : Rows.StagingApartSaid :=
  OpenClaim.holds_of_wide 3 Try.f3 rfl rfl rfl rfl rfl rfl rfl ⟨rfl, rfl, rfl, rfl, rfl⟩ rfl rfl rfl rfl rfl (by kernel_rfl) Try.func3 (by kernel_rfl)
    (of_decide_eq_true (by kernel_rfl)) (by unfold Func.isWrapper; first | (rw [if_pos (by decide +kernel)]; kernel_rfl) | (rw [if_neg (by decide +kernel)]; exact ⟨rfl, rfl⟩))
    (fun os started H enc _ => lifted os started H enc)
#print axioms proved
end
end stagingApart
end Go.Proofs.Ytjpkendpnpkbeaa
