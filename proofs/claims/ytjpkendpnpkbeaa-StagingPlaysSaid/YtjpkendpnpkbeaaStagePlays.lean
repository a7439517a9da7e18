/- Proved: munimentlaw13.StagingPlays returns true for every row of calls, and leaves its argument as it was. Conditions: none beyond the given row's own. -/
import Derived.Test.YtjpkendpnpkbeaaStageBoth
import Derived.Test.YtjpkendpnpkbeaaStageApart
import Derived.Deep.Fields
import Derived.ChangeSame
import Derived.Deep.CutBlock
namespace Go.Proofs.Ytjpkendpnpkbeaa
open Go.RowKit

/-- A slice of calls: kind, number, bytes. -/
def Ops (w : World) (A : Option Addr) (ops : List (Int × Int × List Int)) : Prop :=
  ops.length ≤ 4611686018427387904 ∧ (0 < ops.length → ∃ b off, A = some ⟨b, off, none⟩ ∧ b < w.heap.size ∧ ∀ k o, ops[k]? = some o → -9223372036854775808 ≤ o.1 ∧ o.1 ≤ 9223372036854775807 ∧ o.2.2.length ≤ 140737488351232 ∧
    ∃ v, w.cell? ⟨b, off + k * 3, none⟩ = some (.int .i64 o.1) ∧ w.cell? ⟨b, off + k * 3 + 1, none⟩ = some (.int .i64 o.2.1) ∧ w.cell? ⟨b, off + k * 3 + 2, none⟩ = some v ∧ BSl w v o.2.2)

namespace stagingPlays

theorem both_0 {w w2 w3 : World} {g B : Nat} {F : Nat → Prop} (S2 : Stg w2 F g B 0 0 []) (hF : ∀ b, F b → w.heap.size ≤ b ∧ b < w2.heap.size) (T2 : Below w.heap.size w w2) (B3 : Below w2.heap.size w2 w3) (z3 : w3.heap.size = w2.heap.size + 1) (R3 : Rf w3 (fun b => b = w2.heap.size) w2.heap.size 0 []) :
    Both w.heap.size w g B w2.heap.size 0 (fun _ => False) w3 := by
  have z2 := T2.size
  exact ⟨F, fun b => b = w2.heap.size, [], 0, S2.keep fun b hb => B3.block b (hF b hb).2, R3, fun b hb => by have := hF b hb; omega, fun b hb => by omega, fun b hb e => by have := hF b hb; omega, fun b hb => hb.elim, by simp, List.Pairwise.nil,
    (fun p hp => by cases hp), (fun p hp => by cases hp), by simp [total], by omega, by simp, T2.trans (B3.mono z2), by omega⟩

theorem own_made {N : Nat} {w wq w4 : World} {gx Bx gy m H : Nat} {F G : Nat → Prop} {l : List (Int × List Int)} {nx : Int} (S : St N w wq gx Bx gy m (fun b => b = H) F G l nx) {A6 : Option Addr} {k6 : Nat} {ys : List Int} {o : Obj}
    (hr : Row w4 wq.heap.size 5 1 (.slice A6 (0 + ys.length) k6) (0 + ys.length) ([] ++ u8s ys)) (hg : (wq.alloc o).grownBy w4 (Value.slice (some ⟨wq.heap.size, 0, none⟩) 0 0).ownBlock)
    (hat : ∀ b, (Value.slice A6 (0 + ys.length) k6).ownBlock = some b → (Value.slice (some ⟨wq.heap.size, 0, none⟩) 0 0).ownBlock = some b ∨ ((wq.alloc o).heap.size ≤ b ∧ b < w4.heap.size)) :
    St N w w4 gx Bx gy m (fun b => b = H ∨ (Value.slice A6 ys.length k6).ownBlock = some b) F G l nx ∧ Row w4 wq.heap.size 5 1 (.slice A6 ys.length k6) ys.length (u8s ys) ∧ Below wq.heap.size wq w4 := by
  rw [Nat.zero_add, List.nil_append] at hr
  rw [Nat.zero_add] at hat
  have hz := hg.size
  simp at hz
  have T4 : Below wq.heap.size wq w4 := by
    refine Below.grown (w := wq.alloc o) ((Below.refl _ _).alloc (Nat.le_refl _) _) hg (by simp) (fun b e => ?_)
    simp [Value.ownBlock] at e
    omega
  refine ⟨S.touch (Y := fun _ => False) (Touch.of_below T4) (fun b h => h.elim) (fun b hb => ?_), hr, T4⟩
  rcases hb with hb | hb
  · exact .inl hb
  · rcases hat b hb with h | h
    · simp [Value.ownBlock] at h
      omega
    · simp at h
      omega

theorem _root_.Go.Proofs.Ytjpkendpnpkbeaa.Row.keep2 {w4 w6 : World} {B H : Nat} {A : Option Addr} {n c : Nat} {xs : List Value} (h : Row w4 B 5 1 (.slice A n c) n xs) (hk : ∀ b, (b = H ∨ (Value.slice A n c).ownBlock = some b) → w6.heap[b]? = w4.heap[b]?) : Row w6 0 5 1 (.slice A n c) n xs := by
  have h0 : Row w4 0 5 1 (.slice A n c) n xs := by
    rcases h with h | h
    · exact .inl (own_base h (Nat.zero_le _))
    · exact .inr h
  exact h0.keep fun b e _ => hk b (.inr e)

set_option maxRecDepth 100000 in
set_option maxHeartbeats 4000000 in
theorem walk (A1 : Option Addr) (c1 : Nat) (ops : List (Int × Int × List Int)) (w : World) (ha : Ops w A1 ops) :
    Calls Try.prog 4 #[.slice A1 ops.length c1] w fun e w' => e = .returned (.bool true) ∧ Below w.heap.size w w' := by
  have hla := ha.1
  have HO := Lib.hid ha.2
  clear ha
  go_enter Try.func4, Try.ntmps4
  go_wp2_with fail
  refine (shown13_call _).mono ?_
  rintro e w1 ⟨rfl, B1⟩
  go_wp2_with fail
  refine (new_call _).mono ?_
  rintro e w2 ⟨rfl, B2, z2, S2⟩
  have hz1 := B1.size
  obtain ⟨gx, hgx⟩ : ∃ g, w1.heap.size + 1 = g := ⟨_, rfl⟩
  obtain ⟨Bx, hBx⟩ : ∃ B, w1.heap.size = B := ⟨_, rfl⟩
  have F2 : ∀ b, (b = w1.heap.size ∨ b = w1.heap.size + 1) → w.heap.size ≤ b ∧ b < w2.heap.size := fun b hb => by omega
  obtain ⟨F, hF⟩ : ∃ F : Nat → Prop, F = fun b => b = w1.heap.size ∨ b = w1.heap.size + 1 := ⟨_, rfl⟩
  rw [← hF, hgx, hBx] at S2
  have T2 : Below w.heap.size w w2 := B1.trans (B2.mono hz1)
  have G2 : ∀ b, F b → w.heap.size ≤ b ∧ b < w2.heap.size := by rw [hF]; exact F2
  simp only [hgx]
  clear hF F2 hgx hBx B1 B2 z2 hz1
  go_wp2_with fail
  refine (new13_call _).mono ?_
  rintro e w3 ⟨rfl, B3, z3, R3⟩
  have I3 := both_0 S2 G2 T2 B3 z3 R3
  obtain ⟨gy, hgy⟩ : ∃ g, w2.heap.size = g := ⟨_, rfl⟩
  rw [hgy] at I3
  simp only [hgy]
  clear S2 G2 T2 B3 z3 R3 hgy
  go_wp2
  go_loopw [6] (fun i wr => ∃ k : Nat, i = .int .i64 k ∧ k ≤ ops.length ∧ Both w.heap.size w gx Bx gy k (fun _ => False) wr) (fun i _ => ops.length - (intOf i).toNat)
  case atStart => exact ⟨0, rfl, by omega, I3⟩
  case round =>
    clear I3
    obtain ⟨k, rfl, hk, hI⟩ := hrel
    by_cases hlt : k < ops.length
    · obtain ⟨bl, ol, rfl, hbl, hcl⟩ := HO.out (by omega)
      obtain ⟨⟨kd, no, ys⟩, ho⟩ : ∃ o, ops[k]? = some o := ⟨_, List.getElem?_eq_getElem hlt⟩
      obtain ⟨kd1, kd2, yl, v, q0, q1, q2, qv⟩ := hcl k _ ho
      have HV := Lib.hid qv
      obtain ⟨Av, cv, rfl, _⟩ := qv
      have HT := Lib.hid hI
      obtain ⟨F, G, l, nx, S⟩ := hI
      have hc0 := (S.T.cell (p := ⟨bl, ol + k * 3, none⟩) hbl).trans q0
      have hc1 := (S.T.cell (p := ⟨bl, ol + k * 3 + 1, none⟩) hbl).trans q1
      have hc2 := (S.T.cell (p := ⟨bl, ol + k * 3 + 2, none⟩) hbl).trans q2
      have i0 : (0 : Int) ≤ (k : Int) := Int.natCast_nonneg _
      have i1 : (k : Int) < (ops.length : Int) := by omega
      simp only at hc0 hc1 hc2 kd1 kd2 yl HV
      clear hcl ho q0 q1 q2
      go_upto_region 9 with fail
      go_cut [7] (fun p wx => ∃ H, p = .pointer (some ⟨H, 0, none⟩) ∧ wx.heap[H]? = some (.cells #[.int .i64 kd, .int .i64 no, .slice Av ys.length cv] 39 (0, 0)) ∧ Both w.heap.size w gx Bx gy k (fun b => b = H) wx)
      case first =>
        go_wp2
        go_meet
        refine ⟨wr.heap.size, rfl, heap_alloc_new wr _, F, G, l, nx, S.touch (Y := fun _ => False) (Touch.of_below ((Below.refl _ _).alloc (Nat.le_refl _) _)) (fun b h => h.elim) (fun b h => .inr (by simp; omega))⟩
      case rest =>
      obtain ⟨wq, rfl⟩ : ∃ w' : World, w' = wc := ⟨_, rfl⟩
      obtain ⟨H, rfl, hbH, hI⟩ := hcut
      have d0 : wq.cell? ⟨H, 0, none⟩ = some (.int .i64 kd) := by rw [cell_of_row _ H 0 _ _ _ hbH]; rfl
      have d1 : wq.cell? ⟨H, 1, none⟩ = some (.int .i64 no) := by rw [cell_of_row _ H 1 _ _ _ hbH]; rfl
      have d2 : wq.cell? ⟨H, 2, none⟩ = some (.slice Av ys.length cv) := by rw [cell_of_row _ H 2 _ _ _ hbH]; rfl
      have HBH := Lib.hid hbH
      clear hbH
      go_wp2_with fail
      refine (kind_call kd _ kd1 kd2).mono ?_
      rintro e w' ⟨⟨kk, k0, k7, rfl⟩, rfl⟩
      go_upto_block 2 with fail
      go_cut [44] (fun _ wx => Both w.heap.size w gx Bx gy (k + 1) (fun _ => False) wx)
      case first =>
        have hk8 : (kk = 0 ∨ kk = 1) ∨ (kk = 2 ∨ kk = 3 ∨ kk = 4 ∨ kk = 5) ∨ kk = 6 ∨ kk = 7 := by omega
        clear k0 k7
        obtain ⟨F, G, l, nx, S⟩ := hI
        have hkm : k ≤ 4611686018427387904 := by omega
        have hH := lt_of_block HBH.out
        rcases hk8 with h01 | h25 | rfl | rfl
        · rcases h01 with rfl | rfl
          all_goals
            go_wp2_with fail
            refine (begin_any S hkm).mono ?_
            rintro e w5 ⟨a, c, rfl, U5, hh⟩
            go_wp2_with fail
            refine (begin13_any S hkm U5 hh).mono ?_
            rintro e w6 ⟨rfl, hB⟩
            have e1 : (a != a) = false := by simp
            have e2 : (c != c) = false := by simp
            go_wp2_with fail
            go_meet
            exact hB.mono fun b e => e.elim
        · have hsw : Src wq 1 Av ys.length (u8s ys) := (HV.out.below S.T).src.2
          obtain ⟨i5, hi5, hx0, hx1, hx2⟩ := info_parts info5
          rcases h25 with rfl | rfl | rfl | rfl
          all_goals
            go_wp2_with (at_builtin; refine wpList_app_rowB rfl (.tmp 71) (.tmp 73) 29 rfl wq.heap.size 5 i5 _ 1 1 Try.underlying29 hi5 hx0 hx1 hx2 rfl (by omega) (.slice (some ⟨wq.heap.size, 0, none⟩) 0 0) 0 [] rfl (.inr ⟨_, rfl, rfl, rfl⟩) Av ys.length cv (u8s ys) rfl (hsw.below hsw.lt ((Below.refl _ _).alloc (Nat.le_refl _) _)) (u8s_one ys) (by unfold maxLen; omega) (by omega) (by simp) ?_; intro A6 k6 w4 hrow4 hgrow4 hat4; have hpack := own_made S hrow4 hgrow4 hat4; obtain ⟨S4, hrow4', T4⟩ := hpack; have d1' := (T4.cell (p := ⟨H, 1, none⟩) hH).trans d1; clear hrow4 hgrow4 hat4)
            refine (add_any S4 no A6 _ ys hrow4'.src yl).mono ?_
            rintro e w5 ⟨c, rfl, U5, hh⟩
            have hb5 := (U5.block H (Nat.lt_of_lt_of_le hH T4.size) (S4.hX H (.inl rfl)).1).trans ((T4.block H hH).trans HBH.out)
            have x1 : w5.cell? ⟨H, 1, none⟩ = some (.int .i64 no) := by rw [cell_of_row _ H 1 _ _ _ hb5]; rfl
            have x2 : w5.cell? ⟨H, 2, none⟩ = some (.slice Av ys.length cv) := by rw [cell_of_row _ H 2 _ _ _ hb5]; rfl
            have hs5 := (HV.out.below (S4.T.trans (below_of_touch U5 (fun b hb => (S4.hF b hb).1) S4.hN))).src.2
            clear hb5
            go_wp2_with fail
            refine (add13_any S4 hs5 yl U5 hh).mono ?_
            rintro e w6 ⟨rfl, hB, hkx⟩
            have hO : Own w.heap.size w gx Bx gy (k + 1) (.slice A6 ys.length k6) ys.length w6 := ⟨hB.mono fun b e => .inr e.1, _, hrow4'.keep2 hkx⟩
            have e2 : (c != c) = false := by simp
            clear hB hkx hrow4' hs5 hh U5 x1 x2 d1' S4
            go_wp2
            go_loopw [15] (fun i wx => ∃ j : Nat, i = .int .i64 j ∧ j ≤ ys.length ∧ Own w.heap.size w gx Bx gy (k + 1) (.slice A6 ys.length k6) ys.length wx) (fun i _ => ys.length - (intOf i).toNat)
            case atStart => exact ⟨0, rfl, by omega, hO⟩
            case round =>
              clear hO
              obtain ⟨j, rfl, hj, hO⟩ := hrel
              by_cases hjl : j < ys.length
              · obtain ⟨g, u, rfl, hcu, hfz, hset⟩ := hO.cell hjl
                have j0 : (0 : Int) ≤ (j : Int) := Int.natCast_nonneg _
                have j1 : (j : Int) < (ys.length : Int) := by omega
                have HS := Lib.hid hset
                clear hset
                go_wp2
                exact ⟨⟨j + 1, by go_num, by omega, HS.out _⟩, by simp [intOf]; omega⟩
              · go_wp2
                go_meet
                exact hO.done
        · go_wp2_with fail
          refine (take_any S no).mono ?_
          rintro e w5 ⟨A5, k5, c, bs, rfl, U5, hbs, hh⟩
          have hb5 := (U5.block H hH (S.hX H rfl).1).trans HBH.out
          have x1 : w5.cell? ⟨H, 1, none⟩ = some (.int .i64 no) := by rw [cell_of_row _ H 1 _ _ _ hb5]; rfl
          clear hb5
          go_wp2_with fail
          refine (take13_any S U5 hh).mono ?_
          rintro e w6 ⟨A', k', rfl, v1, v2, hB, hr6⟩
          have hO : Own w.heap.size w gx Bx gy (k + 1) (.slice A5 bs.length k5) bs.length w6 := ⟨hB.mono fun b e => e.1, _, .inl hr6⟩
          obtain ⟨str, hstr⟩ : ∃ s, strOfNums bs = s := ⟨_, rfl⟩
          rw [hstr] at v1 v2
          have e2 : (c != c) = false := by simp
          clear hB hr6 hh U5 x1 hstr
          go_wp2
          go_loopw [20] (fun i wx => ∃ j : Nat, i = .int .i64 j ∧ j ≤ bs.length ∧ Own w.heap.size w gx Bx gy (k + 1) (.slice A5 bs.length k5) bs.length wx) (fun i _ => bs.length - (intOf i).toNat)
          case atStart => exact ⟨0, rfl, by omega, hO⟩
          case round =>
            clear hO v1 v2
            obtain ⟨j, rfl, hj, hO⟩ := hrel
            by_cases hjl : j < bs.length
            · obtain ⟨g, u, rfl, hcu, hfz, hset⟩ := hO.cell hjl
              have j0 : (0 : Int) ≤ (j : Int) := Int.natCast_nonneg _
              have j1 : (j : Int) < (bs.length : Int) := by omega
              have HS := Lib.hid hset
              clear hset
              go_wp2
              exact ⟨⟨j + 1, by go_num, by omega, HS.out _⟩, by simp [intOf]; omega⟩
            · go_wp2
              go_meet
              exact hO.done
        · go_wp2_with fail
          refine (abort_any S no).mono ?_
          rintro e w5 ⟨c, rfl, U5, hh⟩
          have hb5 := (U5.block H hH (S.hX H rfl).1).trans HBH.out
          have x1 : w5.cell? ⟨H, 1, none⟩ = some (.int .i64 no) := by rw [cell_of_row _ H 1 _ _ _ hb5]; rfl
          clear hb5
          go_wp2_with fail
          refine (abort13_any S U5 hh).mono ?_
          rintro e w6 ⟨rfl, hB⟩
          have e2 : (c != c) = false := by simp
          go_wp2_with fail
          go_meet
          exact hB
      case rest =>
        obtain ⟨wq, rfl⟩ : ∃ w' : World, w' = wc := ⟨_, rfl⟩
        have HT := Lib.hid hcut
        obtain ⟨F, G, l, nx, S⟩ := hcut
        have hnn : ((l.length : Int) != (l.length : Int)) = false := by simp
        go_wp2_with (first
          | (go_at_call 15; refine (count_call S.sx).mono ?_; rintro e w5 ⟨rfl, rfl⟩)
          | (go_at_call 23; refine (count13_call S.sy).mono ?_; rintro e w5 ⟨rfl, rfl⟩))
        exact ⟨⟨k + 1, by go_num, by omega, HT.out⟩, by simp [intOf]; omega⟩
    · obtain ⟨F, G, l, nx, S⟩ := hI
      go_wp2
      go_ret
      exact ⟨rfl, S.T⟩

section
open Go.ChangeShapes Go.WideShapes Go.ChangeAt Go.Deep
variable {H : Type} {enc : TypeId × Value → H}
open stagingApart (open_bytes mem_weightsAll reach_eq)

/-- One call of the row. -/
def Op1 (W : World) (b off k : Nat) (o : Int × Int × List Int) : Prop :=
  -9223372036854775808 ≤ o.1 ∧ o.1 ≤ 9223372036854775807 ∧ o.2.2.length ≤ 140737488351232 ∧
    ∃ v, W.cell? ⟨b, off + k * 3, none⟩ = some (.int .i64 o.1) ∧ W.cell? ⟨b, off + k * 3 + 1, none⟩ = some (.int .i64 o.2.1) ∧ W.cell? ⟨b, off + k * 3 + 2, none⟩ = some v ∧ BSl W v o.2.2

theorem open_ops {W : World} {v : Value} {d : DataW H} {p : List MemPlace} {base : Nat} (hv : Value.okWide Try.prog W .any base 35 v) (h : DataW.Trod enc Try.prog W 0 (fun _ => true) true 35 v d p) (hw : ∀ k ∈ d.weights Try.prog 35, k ≤ reachBytes) :
    ∃ A c ops, v = .slice A ops.length c ∧ Ops W A ops := by
  obtain ⟨a0, len0, cap0, rfl⟩ := okWide_slice Try.underlying35 hv
  obtain ⟨fuel, hf⟩ := h
  have hf' : DataW.trod enc Try.prog W 0 (fun _ => true) true fuel 35 [.slice a0 len0 cap0] = some (d, p) := by simpa [Value.cells] using hf
  rcases open_slice Try.underlying35 hf' with ⟨hcs, _⟩ | ⟨a, len, cap, m, n, D, Pl, hcs, _, hl, hm, hmm, hx, hi⟩
  · simp only [List.cons.injEq, and_true] at hcs
    rw [hcs]
    exact ⟨none, 0, [], rfl, by simp, fun h0 => absurd h0 (by simp)⟩
  · simp only [List.cons.injEq, and_true] at hcs
    simp only [if_true] at hmm
    rw [hcs]
    simp only [Prod.mk.injEq] at hx
    obtain ⟨rfl, _⟩ := hx
    obtain ⟨b, off, spot⟩ := a
    have hb39 : Try.prog.bytesOf 39 = 40 := by kernel_rfl
    have hc39 : Try.prog.cellsOf 39 = 3 := by kernel_rfl
    have hk3 : Try.prog.cellsOf 3 = 1 := by kernel_rfl
    have hk29 : Try.prog.cellsOf 29 = 1 := by kernel_rfl
    rw [hc39] at hi
    have hlen : len * 40 ≤ 140737488351232 := by
      have := hw ((((List.range len).map D).length + ((List.range (m - len)).map fun j => D (len + j)).length) * 40) (by simp [DataW.weights, Try.underlying35, hb39])
      rw [reach_eq] at this
      simp at this
      omega
    have each : ∀ i, i < len → ∃ o, spot = none ∧ b < W.heap.size ∧ Op1 W b off i o := fun i hil => by
      have hspot : spot = none := by
        obtain ⟨_, h1, _⟩ := hi 0 (by omega)
        obtain ⟨_, hcl, hat⟩ := World.cells?_some h1
        have h2 := hat 0 (by omega)
        rw [List.getElem?_eq_getElem (by omega)] at h2
        simpa [Addr.add] using World.cell?_spot h2
      subst hspot
      obtain ⟨cs3, hcells, ht⟩ := hi i (by omega)
      obtain ⟨_, hcl, hat⟩ := World.cells?_some hcells
      match cs3, hcl with
      | [u0, u1, u2], _ =>
        obtain ⟨y0, y1, y2, n', hy, _, t0, t1, t2⟩ := trod_struct3 Try.underlying39 ht
        have t0' : DataW.trod enc Try.prog W 0 (fun _ => true) true n' 3 [u0] = some y0 := by simpa [hk3] using t0
        have t1' : DataW.trod enc Try.prog W 0 (fun _ => true) true n' 3 [u1] = some y1 := by simpa [hk3] using t1
        have t2' : DataW.trod enc Try.prog W 0 (fun _ => true) true n' 29 [u2] = some y2 := by simpa [hk29] using t2
        obtain ⟨z0, q0, _, w0⟩ := DataW.trod_int Try.underlying3 t0'
        obtain ⟨z1, q1, _, w1⟩ := DataW.trod_int Try.underlying3 t1'
        simp only [List.cons.injEq, and_true] at q0 q1
        subst q0; subst q1
        have hdm : D i ∈ (List.range len).map D := List.mem_map.2 ⟨i, List.mem_range.2 hil, rfl⟩
        simp only [Prod.mk.injEq] at hy
        obtain ⟨bs, hbs, hbl⟩ := open_bytes t2' fun k hk => hw k (by
          simp only [DataW.weights, Try.underlying35, List.mem_cons, List.mem_append]
          refine .inr (.inl (mem_weightsAll (d := D i) ?_ hdm))
          rw [hy.1]
          simp [DataW.weights, Try.underlying39, DataW.weightsEach]
          exact .inr (.inr hk))
        have hadd : ∀ j, (⟨b, off, none⟩ : Addr).add j = ⟨b, off + j, none⟩ := fun j => by unfold Addr.add; split <;> simp_all
        have hadd2 : ∀ j j', (⟨b, off + j, none⟩ : Addr).add j' = ⟨b, off + j + j', none⟩ := fun j j' => by unfold Addr.add; split <;> simp_all
        have c0 := hat 0 (by omega)
        have c1 := hat 1 (by omega)
        have c2 := hat 2 (by omega)
        rw [hadd, hadd2] at c0 c1 c2
        exact ⟨(z0, z1, bs), rfl, World.block_lt_of_cell? W _ c0, (bounds_i64 w0).1, (bounds_i64 w0).2, hbl, u2, c0, c1, c2, hbs⟩
    obtain ⟨R, hR⟩ := choose_lt (α := Int × Int × List Int) each
    have hrl : ((List.range len).map R).length = len := by simp
    refine ⟨some ⟨b, off, spot⟩, cap, (List.range len).map R, by rw [hrl], by rw [hrl]; omega, fun h0 => ?_⟩
    rw [hrl] at h0
    obtain ⟨hs, hb, _⟩ := hR 0 h0
    subst hs
    refine ⟨b, off, rfl, hb, fun k o hk => ?_⟩
    rw [List.getElem?_map] at hk
    have hkl : k < len := by
      rcases Nat.lt_or_ge k len with h1 | h1
      · exact h1
      · rw [List.getElem?_eq_none (by simpa using h1)] at hk; cases hk
    rw [List.getElem?_range hkl] at hk
    cases hk
    exact (hR k hkl).2.2

theorem own : ownKnob Try.prog.godebug = none := by kernel_rfl
theorem laidOut : laidOutB Try.prog = true := by kernel_rfl

set_option maxRecDepth 100000 in
theorem lifted (os : Os) (started : os.Started) (H : Type) (enc : TypeId × Value → H) :
    ReturnsInHanded {} Try.checked os 4 .any (fun w args => Rows.stagingPlaysSpec.pre6 enc Try.prog Try.f4 Rows.stagingPlaysRow.domain false w args) (Rows.stagingPlaysSpec.post enc Try.prog Try.f4 false true false false) := by
  refine returnsInHanded_of_change_sized (C := Try.checked) own started (by kernel_rfl) Try.func4
    (ChangeSpec.witness6 (enc := enc) (C := Try.checked) false ⟨#[], #[.slice none 0 0], []⟩ 8 (by kernel_rfl) (by kernel_rfl) (by kernel_rfl) (by kernel_rfl)) ?_
  intro W base args ds gs before hval0 hW hcnd hsz _
  have hval : ∀ (j : Nat) t v, Try.f4.params[j]? = some t → args[j]? = some v → Value.okWide Try.prog W .any base t v := hval0
  have hW' := hW
  obtain ⟨p, q, hA0, hV, rfl, hfz, hnd⟩ := hW
  have hA : DataW.TrodAll enc Try.prog W 0 (fun _ => true) true Try.f4.params.toList args.toList ds p := hA0
  rw [Try.params4] at hA hval
  obtain ⟨v0, d0, rfl, rfl, h0⟩ := trodAll_one hA
  obtain ⟨rfl, rfl⟩ := trodVars_none hV
  have hf0 : ∀ k ∈ d0.weights Try.prog 35, k ≤ reachBytes := fun k hk => by
    have := List.all_eq_true.1 hsz k (DataW.weights_mem_each (j := 0) (t := 35) (d := d0) rfl rfl k hk)
    simpa using this
  obtain ⟨A1, c1, ops, rfl, ha⟩ := open_ops (hval 0 35 v0 rfl rfl) h0 hf0
  clear hA0 hval0 hA hsz
  refine (walk A1 c1 ops W ha).mono fun e W' ⟨he, hg⟩ => ?_
  subst he
  exact ⟨_, rfl, law_post laidOut Try.underlying4 (by kernel_rfl) rfl (by kernel_rfl) hW' rfl hg⟩

theorem proved : Rows.StagingPlaysSaid :=
  OpenClaim.holds_of_wide 4 Try.f4 rfl rfl rfl rfl rfl rfl rfl ⟨rfl, rfl, rfl, rfl, rfl⟩ rfl rfl rfl rfl rfl (by kernel_rfl) Try.func4 (by kernel_rfl)
    (of_decide_eq_true (by kernel_rfl)) (by unfold Func.isWrapper; first | (rw [if_pos (by decide +kernel)]; kernel_rfl) | (rw [if_neg (by decide +kernel)]; exact ⟨rfl, rfl⟩))
    (fun os started H enc _ => lifted os started H enc)
#print axioms proved
end
end stagingPlays
end Go.Proofs.Ytjpkendpnpkbeaa
