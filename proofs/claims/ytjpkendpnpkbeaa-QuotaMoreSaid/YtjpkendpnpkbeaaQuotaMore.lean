/- Proved: munimentlaw20.QuotaMore returns true for every shape, config, row of numbers and tape, and leaves its arguments as they were. Conditions: none beyond the given row's own. -/
import Derived.Test.YtjpkendpnpkbeaaQuotaBox
import Derived.Test.YtjpkendpnpkbeaaMem2
import Derived.Deep.RegionHeld3
import Derived.Deep.DeepCutAuto
import Derived.StillTailTactics
namespace Go.Proofs.Ytjpkendpnpkbeaa.quotaMore
open Go.ChangeShapes Go.WideShapes Go.ChangeAt Go.RowKit Go.Joins

theorem info3 : (Try.prog.info? 3).map (fun i => (i.zero, i.size, i.bytes)) = some (some (.int .i64 0), 1, 8) := by kernel_rfl

/-- The law's own shape: its block, the rows of its disks and its tapes. -/
structure Tw (w1 : World) (g b1 k1 : Nat) (zs : List Int) (b2 k2 : Nat) (ys : List Int) (wx : World) : Prop where
  below : Below w1.heap.size w1 wx
  gl : w1.heap.size ≤ g
  gh : g < wx.heap.size
  r1 : IRow wx w1.heap.size b1 k1 zs
  r2 : IRow wx w1.heap.size b2 k2 ys
  l1 : w1.heap.size ≤ b1
  l2 : w1.heap.size ≤ b2
  n12 : b1 ≠ b2
  n1g : b1 ≠ g
  n2g : b2 ≠ g
  c0 : wx.cell? ⟨g, 0, none⟩ = some (.slice (some ⟨b1, 0, none⟩) zs.length k1)
  c1 : wx.cell? ⟨g, 1, none⟩ = some (.slice (some ⟨b2, 0, none⟩) ys.length k2)
  f1 : wx.frozen? ⟨g, 1, none⟩ = false

def Own4 (w1 : World) (xs ys : List Int) (p : Value) (wx : World) : Prop :=
  ∃ g b1 k1 b2 k2 : Nat, p = .pointer (some ⟨g, 0, none⟩) ∧ Tw w1 g b1 k1 xs b2 k2 ys wx

theorem Tw.drew {w1 : World} {g b1 k1 : Nat} {zs : List Int} {b2 k2 : Nat} {ys : List Int} {wx : World} (h : Tw w1 g b1 k1 zs b2 k2 ys wx) : Tw w1 g b1 k1 zs b2 k2 ys wx.drew :=
  ⟨h.below.drew, h.gl, h.gh, own_drew h.r1, own_drew h.r2, h.l1, h.l2, h.n12, h.n1g, h.n2g, h.c0, h.c1, h.f1⟩

theorem Tw.set {w1 : World} {g b1 k1 : Nat} {zs : List Int} {b2 k2 : Nat} {ys : List Int} {wx : World} (h : Tw w1 g b1 k1 zs b2 k2 ys wx) (k : Nat) (u : Int) :
    Tw w1 g b1 k1 (zs.set k u) b2 k2 ys (wx.setCell ⟨b1, k, none⟩ (.int .i64 u)) := by
  have hg : (⟨b1, k, none⟩ : Addr) ≠ ⟨g, 0, none⟩ := fun e => h.n1g (by cases e; rfl)
  have hg' : (⟨b1, k, none⟩ : Addr) ≠ ⟨g, 1, none⟩ := fun e => h.n1g (by cases e; rfl)
  exact ⟨h.below.setCell h.l1 _, h.gl, by simpa using h.gh, h.r1.set u, own_set_far h.r2 (Ne.symm h.n12) _, h.l1, h.l2, h.n12, h.n1g, h.n2g,
    by rw [List.length_set, World.cell?_setCell_other _ _ _ _ hg]; exact h.c0, by rw [World.cell?_setCell_other _ _ _ _ hg']; exact h.c1, by rw [World.frozen?_setCell]; exact h.f1⟩

/-- What the loop over 'more' keeps. -/
def Lp (w1 : World) (xs ys : List Int) (g b1 k1 b2 k2 : Nat) (wr : World) : Prop :=
  ∃ zs : List Int, zs.length = 3 ∧ (∀ j, j < 3 → el xs j ≤ el zs j ∧ el zs j ≤ 4096) ∧ Tw w1 g b1 k1 zs b2 k2 ys wr

/-- What stands ahead of the last line. -/
def Fin (w1 : World) (xs ys : List Int) (r : Int) (g : Nat) (wr : World) : Prop :=
  ∃ (zs vs : List Int) (b1 k1 : Nat) (A2 : Option Addr) (k2 : Nat), Below w1.heap.size w1 wr ∧ w1.heap.size ≤ g ∧ g < wr.heap.size ∧ wr.cell? ⟨g, 0, none⟩ = some (.slice (some ⟨b1, 0, none⟩) zs.length k1) ∧ wr.cell? ⟨g, 1, none⟩ = some (.slice A2 vs.length k2) ∧
    Ints wr (some ⟨b1, 0, none⟩) zs ∧ Ints wr A2 vs ∧ mayB zs vs r = true ∧ putsOf (diskF xs 1) ≤ putsOf (diskF zs 1) ∧ sectorsOf (diskF xs 2) ≤ sectorsOf (diskF zs 2)

theorem puts_mono {a b : Int} (h : a ≤ b) : putsOf a ≤ putsOf b := by unfold putsOf; split <;> split <;> omega
theorem sectors_mono {a b : Int} (h : a ≤ b) : sectorsOf a ≤ sectorsOf b := by unfold sectorsOf; split <;> split <;> omega

theorem disk_le {xs zs : List Int} {j : Nat} (hz : zs.length = 3) (hx : xs.length = 3) (h : el xs j ≤ el zs j) : diskF xs j ≤ diskF zs j := by
  unfold diskF
  rw [if_neg (by omega), if_neg (by omega)]
  omega

theorem may_more {xs ys zs vs : List Int} {r : Int} (h : mayB xs ys r = true) (hl : zs.length = 3) (hz : ∀ j, j < 3 → el xs j ≤ el zs j ∧ el zs j ≤ 4096)
    (hv : vs = ys ∨ ∃ t, vs = ys ++ [t] ∧ 12 ≤ t ∧ t ≤ 4096 ∧ ys.length < 9) : mayB zs vs r = true := by
  obtain ⟨_, h2, h3, h4, h5, h6, h7, h8⟩ := mayB_true h
  have d : ∀ j, j < 3 → okDisk zs j := fun j hj => ⟨Int.le_trans (h7 j hj).1 (hz j hj).1, (hz j hj).2⟩
  rcases hv with rfl | ⟨t, rfl, t1, t2, t3⟩
  · exact decide_eq_true ⟨hl, h2, h3, h4, h5, h6, d, h8⟩
  · refine decide_eq_true ⟨hl, by simp, by simp; omega, h4, h5, by simp; omega, d, fun j hj => ?_⟩
    by_cases e : j < ys.length
    · have := h8 j e
      unfold okTape el at this ⊢
      rw [List.getD_eq_getElem?_getD, List.getElem?_append_left e, ← List.getD_eq_getElem?_getD]
      exact this
    · have ej : j = ys.length := by simp at hj; omega
      subst ej
      unfold okTape el
      simp
      omega

set_option maxRecDepth 100000 in
set_option maxHeartbeats 8000000 in
theorem walk (A B : Option Addr) (c d : Nat) (xs ys : List Int) (r : Int) (Mo : Option Addr) (mc : Nat) (ms : List Int) (tape : Int) (w : World) (hx : Ints w A xs) (hy : Ints w B ys) (hms : Ints w Mo ms)
    (hmb : ∀ j, -9223372036854775808 ≤ el ms j ∧ el ms j ≤ 9223372036854775807) (hrx : xs.length * 8 ≤ 140737488351232) (hry : ys.length * 8 ≤ 140737488351232) :
    Calls Try.prog 8 #[.agg #[.slice A xs.length c, .slice B ys.length d], .agg #[.int .i64 r], .slice Mo ms.length mc, .int .i64 tape] w fun e w' => e = .returned (.bool true) ∧ Below w.heap.size w w' := by
  have hl := hx.len
  have hm := hy.len
  have hml := hms.len
  have S0 := Bx.new c d r hx hy
  obtain ⟨M, hM⟩ : ∃ M, mayB xs ys r = M := ⟨_, rfl⟩
  have HM := Lib.hid hM
  have HB := Lib.hid hmb
  clear hM hmb
  go_enter Try.func8, Try.ntmps8
  go_wp2_with fail
  refine (shown20_call _).mono ?_
  rintro e wa ⟨rfl, hb1⟩
  have Sa := S0.below hb1
  have Ba : Below w.heap.size w wa := (by go_grown : Below w.heap.size w _).trans (hb1.mono (by simp; omega))
  have c1 := Sa.c1
  have c2 := Sa.c2
  have c3 := Sa.c3
  clear hb1
  go_wp2_with fail
  refine (may_call' M A B _ _ _ _ xs ys r _ Sa.i1 Sa.i2 rfl rfl HM.out).mono ?_
  rintro e wb ⟨rfl, hb2⟩
  have Sb := Sa.below hb2
  have Bb : Below w.heap.size w wb := Ba.trans (hb2.mono (by have := Sa.size; omega))
  clear c1 c2 c3 hb2 S0 Sa Ba
  cases M
  · go_wp2
    go_ret
    exact ⟨rfl, Bb⟩
  have hmay := mayB_true HM.out
  have l3 : xs.length = 3 := hmay.1
  have y1 : 1 ≤ ys.length := hmay.2.1
  have y9 : ys.length ≤ 9 := hmay.2.2.1
  have D1 := hmay.2.2.2.2.2.2.1 1 (by omega)
  have D2 := hmay.2.2.2.2.2.2.1 2 (by omega)
  have D4 : ∀ j, j < 3 → el xs j ≤ 4096 := fun j hj => (hmay.2.2.2.2.2.2.1 j hj).2
  have HD4 := Lib.hid D4
  have D5 : ∀ j, j < 3 → 0 ≤ el xs j := fun j hj => by have := (hmay.2.2.2.2.2.2.1 j hj).1; unfold leastOf at this; split at this <;> first | omega | (split at this <;> omega)
  have HD5 := Lib.hid D5
  clear D4 D5 hmay
  simp only [okDisk, leastOf] at D1 D2
  simp at D1 D2
  have c1 := Sb.c1
  have c2 := Sb.c2
  have c3 := Sb.c3
  obtain ⟨P, hP⟩ : ∃ P, putsOf (diskF xs 1) = P := ⟨_, rfl⟩
  obtain ⟨K, hK⟩ : ∃ K, sectorsOf (diskF xs 2) = K := ⟨_, rfl⟩
  have eD1 : diskF xs 1 = el xs 1 := by unfold diskF; rw [if_neg (by omega)]; omega
  have eD2 : diskF xs 2 = el xs 2 := by unfold diskF; rw [if_neg (by omega)]; omega
  have fP : 1 ≤ P ∧ P ≤ 38 := by rw [eD1] at hP; unfold putsOf at hP; split at hP <;> omega
  have fK : 8 ≤ K ∧ K ≤ 2048 ∧ K ≤ el xs 2 := by rw [eD2] at hK; unfold sectorsOf at hK; split at hK <;> omega
  obtain ⟨fP0, fP1⟩ := fP
  obtain ⟨fK0, fK1, fK2⟩ := fK
  have HP := Lib.hid hP
  have HK := Lib.hid hK
  have e3 : ((xs.length : Int) != 3) = false := by rw [bne_eq_false_iff_eq]; omega
  have q2 : 2 < xs.length := by omega
  have q2' : (2 : Int) < (xs.length : Int) := by omega
  have HL := Lib.hid l3
  clear hP hK eD1 eD2 l3
  obtain ⟨bx, ox, rfl, hbx, hcx⟩ := Sb.i1.at_ (by omega)
  have e2 := hcx 2 q2
  clear hcx
  have zb := Sb.size
  have close : ∀ W, Below wb.heap.size wb W → Below wb.heap.size wb W ∧ W.cell? ⟨w.heap.size, 0, none⟩ = some (.slice (some ⟨bx, ox, none⟩) xs.length c) ∧ W.cell? ⟨w.heap.size, 1, none⟩ = some (.slice B ys.length d) ∧ W.cell? ⟨bx, ox + 2, none⟩ = some (.int .i64 (el xs 2)) :=
    fun W hb => ⟨hb, (hb.cell (by simp; omega)).trans c1, (hb.cell (by simp; omega)).trans c2, (hb.cell (by simp; omega)).trans e2⟩
  have CL := Lib.hid close
  have step : ∀ a b : World, Below wb.heap.size wb a → Below a.heap.size a b → Below wb.heap.size wb b := fun a b h1 h2 => h1.trans (h2.mono h1.size)
  have ST := Lib.hid step
  clear step close e2
  have g1 : decide (P < 1) = false := decide_eq_false (by omega)
  have g2 : decide (K < 8) = false := decide_eq_false (by omega)
  have g3 : decide (el xs 2 < K) = false := decide_eq_false (by omega)
  go_upto_region 8 with fail
  go_cut [40] (fun b wx => b = .bool false ∧ Below wb.heap.size wb wx)
  case first =>
    go_region_held3 (fun w' => Below wb.heap.size wb w' ∧ w'.cell? ⟨w.heap.size, 0, none⟩ = some (.slice (some ⟨bx, ox, none⟩) xs.length c) ∧ w'.cell? ⟨w.heap.size, 1, none⟩ = some (.slice B ys.length d) ∧ w'.cell? ⟨bx, ox + 2, none⟩ = some (.int .i64 (el xs 2)))
      (first | exact CL.out _ ((Below.refl _ _).drew) | (go_split_ands; exact CL.out _ (by assumption)))
      (first
        | (go_at_call 27; go_split_ands; (refine (puts_call' P _ _ _ _ _ _ xs _ (Sb.i1.below (by assumption)) rfl HP.out).mono ?_); rintro e wn ⟨rfl, hbn⟩; have hbs := ST.out _ _ (by assumption) hbn)
        | (go_at_call 29; go_split_ands; (refine (sectors_call' K _ _ _ _ _ _ xs _ (Sb.i1.below (by assumption)) rfl HK.out).mono ?_); rintro e wn ⟨rfl, hbn⟩; have hbs := ST.out _ _ (by assumption) hbn))
    go_split_ands
    go_wp2_with fail
    go_meet
    exact ⟨rfl, by assumption⟩
  case rest =>
  obtain ⟨rfl, hcb⟩ := hcut
  clear g1 g2 g3
  obtain ⟨w1, rfl⟩ : ∃ w1 : World, w1 = wc := ⟨_, rfl⟩
  have S1 := Sb.below hcb
  have B1 : Below w.heap.size w w1 := Bb.trans (hcb.mono (by omega))
  clear c1 c2 c3 CL ST hcb Sb Bb zb hbx
  obtain ⟨A, hA⟩ : ∃ A : Option Addr, some ⟨bx, ox, none⟩ = A := ⟨_, rfl⟩
  rw [hA] at S1 hx
  simp only [hA]
  clear hA
  have c1 := S1.c1
  have c2 := S1.c2
  have c3 := S1.c3
  go_upto_region 10 with fail
  go_cut [10] (fun p wx => Own4 w1 xs ys p wx)
  case first =>
    obtain ⟨i0, hi0, hz0, hz1, hz2⟩ := info_parts info3
    have hN := S1.size
    have hn0 : w.heap.size < w1.heap.size := by omega
    have close : ∀ W, Below w1.heap.size w1 W → Below w1.heap.size w1 W ∧ w1.heap.size ≤ W.heap.size ∧ W.cell? ⟨w.heap.size, 0, none⟩ = some (.slice A xs.length c) ∧ W.cell? ⟨w.heap.size, 1, none⟩ = some (.slice B ys.length d) :=
      fun W hb => ⟨hb, hb.size, (hb.cell (p := ⟨w.heap.size, 0, none⟩) hn0).trans c1, (hb.cell (p := ⟨w.heap.size, 1, none⟩) hn0).trans c2⟩
    have CL := Lib.hid close
    clear close
    go_region_held3 (fun w' => Below w1.heap.size w1 w' ∧ w1.heap.size ≤ w'.heap.size ∧ w'.cell? ⟨w.heap.size, 0, none⟩ = some (.slice A xs.length c) ∧ w'.cell? ⟨w.heap.size, 1, none⟩ = some (.slice B ys.length d))
      (first
        | exact CL.out _ ((Below.refl _ _).drew)
        | (go_split_ands; refine CL.out _ ?_; first | assumption | (go_grown; done)))
      (first
        | (go_split_ands; (refine step_clone rfl (.tmp 41) (.tmp 43) 43 rfl 3 i0 _ 1 8 Try.underlying43 hi0 hz0 hz1 hz2 rfl (by omega) _ rfl A xs.length c _ rfl (S1.i1.below (by assumption)).src (ints_one xs) (by unfold maxLen; omega) (by omega) ?_); intro A1 k1 w2 hrow1 hbel1; have hs1 := CL.out _ (Below.trans (by assumption) (hbel1.mono (by assumption)))
           go_split_ands; obtain ⟨b1, rfl, hlo1, hhi1, hO1⟩ := hrow1.own (by omega); have hc1 := old_cells hbel1; have hf1 := old_marks hbel1; have hsz1 := hbel1.size; (try simp only [World.size_alloc, World.size_drew] at hsz1); (try have q10 : w1.heap.size < w2.heap.size := by omega); (try have q11 : w1.heap.size + 1 < w2.heap.size := by omega); (try have q12 : w1.heap.size + 1 + 1 < w2.heap.size := by omega))
        | (go_split_ands; (refine step_clone rfl (.tmp 45) (.tmp 47) 43 rfl 3 i0 _ 1 8 Try.underlying43 hi0 hz0 hz1 hz2 rfl (by omega) _ rfl B ys.length d _ rfl (S1.i2.below (by assumption)).src (ints_one ys) (by unfold maxLen; omega) (by omega) ?_); intro A2 k2 w3 hrow2 hbel2; have hs2 := CL.out _ (Below.trans (by assumption) (hbel2.mono (by assumption)))
           go_split_ands; obtain ⟨b2, rfl, hlo2, hhi2, hO2⟩ := hrow2.own (by omega); have hc2 := old_cells hbel2; have hf2 := old_marks hbel2; have hsz2 := hbel2.size; (try simp only [World.size_alloc, World.size_drew] at hsz2); (try have q20 : w1.heap.size < w3.heap.size := by omega); (try have q21 : w1.heap.size + 1 < w3.heap.size := by omega); (try have q22 : w1.heap.size + 1 + 1 < w3.heap.size := by omega); (try have q23 : w2.heap.size < w3.heap.size := by omega); (try have q24 : w2.heap.size + 1 < w3.heap.size := by omega)))
    all_goals (go_wp2_with fail; go_meet)
    all_goals
      go_split_ands
      simp only [World.size_alloc, World.size_drew] at hlo1 hlo2
      have hP1 : IRow w2 w1.heap.size b1 k1 xs := own_base hO1 (by first | omega | (simp; omega) | (simp; done))
      have hP2 : IRow w3 w1.heap.size b2 k2 ys := own_base hO2 (by first | omega | (simp; omega) | (simp; done))
      have hJ1 : IRow w3 w1.heap.size b1 k1 xs := by first | exact own_below hP1 hbel2 hhi1 | exact own_below (own_alloc hP1 _) hbel2 (by simp; omega) | exact own_below (own_alloc (own_alloc hP1 _) _) hbel2 (by simp; omega)
      refine ⟨_, b1, k1, b2, k2, rfl, ?_, ?_, ?_, ?_, ?_, ?_, ?_, ?_, ?_, ?_, ?_, ?_, ?_⟩
      · first | assumption | (go_grown; done)
      · first | omega | (simp; done) | (simp; omega)
      · first | omega | (simp; done) | (simp; omega)
      · first | exact own_alloc hJ1 _ | exact own_set_far (own_set_far hJ1 (by simp; omega) _) (by simp; omega) _
      · first | exact own_alloc hP2 _ | exact own_set_far (own_set_far hP2 (by simp; omega) _) (by simp; omega) _
      · omega
      · omega
      · omega
      · omega
      · omega
      · first
          | (simp [go_sem]; done)
          | (rw [World.cell?_setCell_other _ _ _ _ (by simp)]; refine World.cell?_setCell_same _ _ _ (u := .slice none 0 0) ?_; simp (disch := first | omega | (simp; done) | (simp; omega)) [go_sem, hc1, hc2]; done)
      · first
          | (simp [go_sem]; done)
          | (refine World.cell?_setCell_same _ _ _ (u := .slice none 0 0) ?_; rw [World.cell?_setCell_other _ _ _ _ (by simp)]; simp (disch := first | omega | (simp; done) | (simp; omega)) [go_sem, hc1, hc2]; done)
      · first
          | (simp [go_sem]; done)
          | (simp (disch := first | omega | (simp; done) | (simp; omega)) [go_sem, hf1, hf2]; done)
  case rest =>
  obtain ⟨g, b1, k1, b2, k2, rfl, T0⟩ := hcut
  obtain ⟨w2, rfl⟩ : ∃ w2 : World, w2 = wc := ⟨_, rfl⟩
  clear c1 c2 c3
  have c0 := T0.c0
  have c1 := T0.c1
  have HT := Lib.hid T0
  clear T0
  go_wp2
  clear c0 c1
  go_loopw [11] (fun i wr => ∃ k : Nat, i = .int .i64 k ∧ k ≤ 3 ∧ Lp w1 xs ys g b1 k1 b2 k2 wr) (fun i _ => 3 - (intOf i).toNat)
  case atStart => exact ⟨0, rfl, by omega, xs, HL.out, fun j hj => ⟨Int.le_refl _, HD4.out j hj⟩, HT.out⟩
  case round =>
    clear HT
    obtain ⟨k, rfl, hk, hLp⟩ := hrel
    obtain ⟨zs, hzl, hzz, T⟩ := hLp
    have hz1 : 3 ≤ zs.length := by omega
    have hz2 : zs.length ≤ 3 := by omega
    have HZ := Lib.hid hzl
    have HZZ := Lib.hid hzz
    clear hzl hzz
    have c0 := T.c0
    have c1 := T.c1
    have k0 : (0 : Int) ≤ (k : Int) := Int.natCast_nonneg _
    by_cases hlt : k < 3 ∧ k < ms.length
    · obtain ⟨hlt, hlm⟩ := hlt
      obtain ⟨bm, om, rfl, hbm, _⟩ := hms.at_ (by omega)
      have em := ((hms.below B1).below T.below).get hlm rfl
      have ez := T.r1.cell (k := k) (by omega)
      have fz := T.r1.frozen k
      have mb := HB.out k
      have zb := HZZ.out k hlt
      have i1 : (k : Int) < (ms.length : Int) := by omega
      have i2 : (k : Int) < (zs.length : Int) := by omega
      by_cases ha : 0 < el ms k
      · have ga : decide (0 < el ms k) = true := decide_eq_true ha
        by_cases hb : el ms k ≤ 4096 - el zs k
        · have gb : decide (el ms k ≤ 4096 - el zs k) = true := decide_eq_true hb
          go_wp2_with fail
          go_region
          all_goals go_wp2_with fail
          refine wp_region_still_tail 14 (by kernel_rfl) (by kernel_rfl) ?_
          simp only [World.drew_eq, List.take_succ_cons, List.take_zero, List.drop_succ_cons, List.drop_zero]
          repeat still_step
          refine wpStill_nil ?_
          go_wp2_with fail
          all_goals first
            | exact ⟨⟨k + 1, by go_num, by omega, zs, HZ.out, HZZ.out, T.drew⟩, by simp [intOf]; omega⟩
            | (have hx5 := HD5.out k hlt
               have hw : wrap64 (el zs k + el ms k) = el zs k + el ms k := IntWalk.wrap64_in _ ⟨by omega, by omega⟩
               refine ⟨⟨k + 1, by go_num, by omega, zs.set k (wrap64 (el zs k + el ms k)), by rw [List.length_set]; exact HZ.out, fun j hj => ?_, (T.set k _).drew.drew⟩, by simp [intOf]; omega⟩
               rw [el_set (by omega), hw]
               have hj' := HZZ.out j hj
               split
               · subst_vars; omega
               · exact hj')
        · have gb : decide (el ms k ≤ 4096 - el zs k) = false := decide_eq_false hb
          go_wp2_with fail
          go_region
          all_goals go_wp2
          all_goals exact ⟨⟨k + 1, by go_num, by omega, zs, HZ.out, HZZ.out, T.drew⟩, by simp [intOf]; omega⟩
      · have ga : decide (0 < el ms k) = false := decide_eq_false ha
        go_wp2_with fail
        go_region
        all_goals go_wp2
        all_goals exact ⟨⟨k + 1, by go_num, by omega, zs, HZ.out, HZZ.out, T.drew⟩, by simp [intOf]; omega⟩
    · have t1 : decide (k < zs.length) = false ∨ decide (k < zs.length) = true ∧ decide (k < ms.length) = false := by
        by_cases hc : k < 3
        · exact .inr ⟨decide_eq_true (by omega), decide_eq_false (fun h => hlt ⟨hc, h⟩)⟩
        · exact .inl (decide_eq_false (by omega))
      clear hlt
      rcases t1 with t1 | ⟨t1, t2⟩
      all_goals
        go_upto_region 16 with fail
        go_cut [106] (fun b wx => ∃ q : Bool, b = .bool q ∧ (q = true → ys.length < 9 ∧ 12 ≤ tape ∧ tape ≤ 4096) ∧ wx = wr)
        case first =>
          by_cases u1 : ys.length < 9
          · have v1 : decide ((ys.length : Int) < 9) = true := decide_eq_true (by omega)
            by_cases u2 : 12 ≤ tape
            · have v2 : decide (12 ≤ tape) = true := decide_eq_true u2
              by_cases u3 : tape ≤ 4096
              · have v3 : decide (tape ≤ 4096) = true := decide_eq_true u3
                go_wp2_with fail
                go_meet
                exact ⟨true, rfl, fun _ => ⟨u1, u2, u3⟩, rfl⟩
              · have v3 : decide (tape ≤ 4096) = false := decide_eq_false u3
                go_wp2_with fail
                go_meet
                exact ⟨false, rfl, (fun h => by cases h), rfl⟩
            · have v2 : decide (12 ≤ tape) = false := decide_eq_false u2
              go_wp2_with fail
              go_meet
              exact ⟨false, rfl, (fun h => by cases h), rfl⟩
          · have v1 : decide ((ys.length : Int) < 9) = false := decide_eq_false (by omega)
            go_wp2_with fail
            go_meet
            exact ⟨false, rfl, (fun h => by cases h), rfl⟩
        case rest =>
          obtain ⟨q, rfl, hq, hwr⟩ := hcut
          have hQ := Lib.hid hq
          clear hq
          rw [hwr]
          clear hwr
          go_upto_if 106 with fail
          go_cut [] (fun wx => Fin w1 xs ys r g wx)
          case first =>
            cases q
            · go_wp2_with fail
              go_meet
              exact ⟨zs, ys, b1, k1, _, k2, T.below, T.gl, T.gh, T.c0, T.c1, T.r1.ints (by omega), T.r2.ints (by omega), may_more HM.out HZ.out HZZ.out (.inl rfl),
                puts_mono (disk_le HZ.out HL.out (HZZ.out 1 (by omega)).1), sectors_mono (disk_le HZ.out HL.out (HZZ.out 2 (by omega)).1)⟩
            · obtain ⟨u1, u2, u3⟩ := hQ.out rfl
              obtain ⟨i0, hi0, hz0, hz1', hz2'⟩ := info_parts info3
              have gh := T.gh
              have fg := T.f1
              have n2g := T.n2g
              have wl := T.below.size
              have b2l := own_lt T.r2
              have b1l := own_lt T.r1
              go_wp2_with ((at_builtin; refine wpList_app rfl (.tmp 108) (.tmp 110) 43 rfl w1.heap.size 3 i0 _ 1 8 Try.underlying43 hi0 hz0 hz1' hz2' rfl (by omega) (.slice (some ⟨b2, 0, none⟩) ys.length k2) ys.length (ys.map (Value.int .i64)) rfl (own_alloc T.r2 _) (some ⟨wr.heap.size, 0, none⟩) 1 1 [.int .i64 tape] rfl (src_new1 _ _ _) (by simp [Value.oneCell']) (by unfold maxLen; omega) (by omega) (by simp; omega) ?_; intro v1 wn hown1 hgrow1 hat1; obtain ⟨g1, kk, rfl, hb1', hlt1⟩ := hown1.form (by omega); have cn := (World.cell?_of_block (w := wr) (w' := wn) (a := ⟨g, 1, none⟩) (grown_block hgrow1 gh (Ne.symm n2g))).trans T.c1; have fn := (World.frozen?_of_block (w := wr) (w' := wn) (a := ⟨g, 1, none⟩) (grown_block hgrow1 gh (Ne.symm n2g))).trans T.f1))
              go_meet
              have c0n := (World.cell?_of_block (w := wr) (w' := wn) (a := ⟨g, 0, none⟩) (grown_block hgrow1 gh (Ne.symm n2g))).trans T.c0
              have hr1 : IRow wn w1.heap.size b1 k1 zs := own_of_block T.r1 (grown_block hgrow1 b1l T.n12)
              have hr2 : IRow wn w1.heap.size g1 kk (ys ++ [tape]) := IRow.snoc hown1
              have hg1 : g1 ≠ g := by
                rcases hat1 with h | h
                · have h' : g1 = b2 := by simpa [Value.ownBlock] using h
                  rw [h']; exact n2g
                · have h' : g1 = wr.heap.size + 1 := by simpa [Value.ownBlock] using h
                  omega
              have hsz := hgrow1.size
              simp at hsz
              refine ⟨zs, ys ++ [tape], b1, k1, some ⟨g1, 0, none⟩, kk, ?_, T.gl, by simp; omega, ?_, ?_, IRow.ints (own_set_far hr1 T.n1g _) (by omega), IRow.ints (own_set_far hr2 hg1 _) (by simp; omega), may_more HM.out HZ.out HZZ.out (.inr ⟨tape, rfl, u2, u3, u1⟩),
                puts_mono (disk_le HZ.out HL.out (HZZ.out 1 (by omega)).1), sectors_mono (disk_le HZ.out HL.out (HZZ.out 2 (by omega)).1)⟩
              · exact ((T.below.alloc wl _).grown hgrow1 (by simp; omega) (fun j hj => by simp [Value.ownBlock] at hj; have := T.l2; omega)).setCell T.gl _
              · rw [World.cell?_setCell_other _ _ _ _ (by simp)]; exact c0n
              · rw [List.length_append]; exact World.cell?_setCell_same _ _ _ cn
          case rest =>
            obtain ⟨zs', vs, b1', k1', A2', k2', F1, F2, F3, f0, f1', FI1, FI2, fm, fp, fs⟩ := hcut
            obtain ⟨wf, rfl⟩ : ∃ wf : World, wf = wc := ⟨_, rfl⟩
            obtain ⟨P2, hP2⟩ : ∃ P2, putsOf (diskF zs' 1) = P2 := ⟨_, rfl⟩
            obtain ⟨K2, hK2⟩ : ∃ K2, sectorsOf (diskF zs' 2) = K2 := ⟨_, rfl⟩
            rw [hP2, HP.out] at fp
            rw [hK2, HK.out] at fs
            have gP : decide (P ≤ P2) = true := decide_eq_true fp
            have gK : decide (K ≤ K2) = true := decide_eq_true fs
            have HP2 := Lib.hid hP2
            have HK2 := Lib.hid hK2
            have HFM := Lib.hid fm
            have S9 := S1.below F1
            have n1 := S1.size
            have nf := F1.size
            have x1 := S9.c1
            have x2 := S9.c2
            have x3 := S9.c3
            clear hP2 hK2 fm c0 c1 t1 fp fs
            have close : ∀ W, Below wf.heap.size wf W → Below wf.heap.size wf W ∧ W.cell? ⟨w.heap.size, 0, none⟩ = some (.slice A xs.length c) ∧ W.cell? ⟨w.heap.size, 1, none⟩ = some (.slice B ys.length d) ∧ W.cell? ⟨w.heap.size + 1, 0, none⟩ = some (.int .i64 r) ∧
                W.cell? ⟨g, 0, none⟩ = some (.slice (some ⟨b1', 0, none⟩) zs'.length k1') ∧ W.cell? ⟨g, 1, none⟩ = some (.slice A2' vs.length k2') :=
              fun W hb => ⟨hb, (hb.cell (by simp; omega)).trans x1, (hb.cell (by simp; omega)).trans x2, (hb.cell (by simp; omega)).trans x3, (hb.cell (by simp; omega)).trans f0, (hb.cell (by simp; omega)).trans f1'⟩
            have CL := Lib.hid close
            have step : ∀ a b : World, Below wf.heap.size wf a → Below a.heap.size a b → Below wf.heap.size wf b := fun a b h1 h2 => h1.trans (h2.mono h1.size)
            have ST := Lib.hid step
            clear step close x1 x2 x3 f0 f1'
            go_wp2_with fail
            go_region_held3 (fun w' => Below wf.heap.size wf w' ∧ w'.cell? ⟨w.heap.size, 0, none⟩ = some (.slice A xs.length c) ∧ w'.cell? ⟨w.heap.size, 1, none⟩ = some (.slice B ys.length d) ∧ w'.cell? ⟨w.heap.size + 1, 0, none⟩ = some (.int .i64 r) ∧
                w'.cell? ⟨g, 0, none⟩ = some (.slice (some ⟨b1', 0, none⟩) zs'.length k1') ∧ w'.cell? ⟨g, 1, none⟩ = some (.slice A2' vs.length k2'))
              (first | exact CL.out _ ((Below.refl _ _).drew) | (go_split_ands; exact CL.out _ (by assumption)))
              (first
                | (go_at_call 25; go_split_ands; (refine (may_call' true _ _ _ _ _ _ zs' vs r _ (FI1.below (by assumption)) (FI2.below (by assumption)) rfl rfl HFM.out).mono ?_); rintro e wn ⟨rfl, hbn⟩; have hbs := ST.out _ _ (by assumption) hbn)
                | (go_at_call 27; go_split_ands; ((with_reducible refine (puts_call' P2 (some ⟨b1', 0, none⟩) _ _ _ _ _ zs' _ (FI1.below (by assumption)) rfl HP2.out).mono ?_)); rintro e wn ⟨rfl, hbn⟩; have hbs := ST.out _ _ (by assumption) hbn)
                | (go_at_call 27; go_split_ands; ((with_reducible refine (puts_call' P A _ _ _ _ _ xs _ (S9.i1.below (by assumption)) rfl HP.out).mono ?_)); rintro e wn ⟨rfl, hbn⟩; have hbs := ST.out _ _ (by assumption) hbn)
                | (go_at_call 29; go_split_ands; ((with_reducible refine (sectors_call' K2 (some ⟨b1', 0, none⟩) _ _ _ _ _ zs' _ (FI1.below (by assumption)) rfl HK2.out).mono ?_)); rintro e wn ⟨rfl, hbn⟩; have hbs := ST.out _ _ (by assumption) hbn)
                | (go_at_call 29; go_split_ands; ((with_reducible refine (sectors_call' K A _ _ _ _ _ xs _ (S9.i1.below (by assumption)) rfl HK.out).mono ?_)); rintro e wn ⟨rfl, hbn⟩; have hbs := ST.out _ _ (by assumption) hbn))
            go_split_ands
            have BF : Below w.heap.size w wf := B1.trans (F1.mono (by omega))
            go_wp2
            go_ret
            exact ⟨rfl, BF.trans (Below.mono (by assumption) (by omega))⟩

theorem own : ownKnob Try.prog.godebug = none := by kernel_rfl
theorem laidOut : laidOutB Try.prog = true := by kernel_rfl

set_option maxRecDepth 100000 in
theorem lifted (os : Os) (started : os.Started) (H : Type) (enc : TypeId × Value → H) :
    ReturnsInHanded {} Try.checked os 8 .any (fun w args => Rows.quotaMoreSpec.pre6 enc Try.prog Try.f8 Rows.quotaMoreRow.domain false w args) (Rows.quotaMoreSpec.post enc Try.prog Try.f8 false true false false) := by
  refine returnsInHanded_of_change_sized (C := Try.checked) own started (by kernel_rfl) Try.func8
    (ChangeSpec.witness6 (enc := enc) (C := Try.checked) false ⟨#[], #[.agg #[.slice none 0 0, .slice none 0 0], .agg #[.int .i64 0], .slice none 0 0, .int .i64 0], []⟩ 8 (by kernel_rfl) (by kernel_rfl) (by kernel_rfl) (by kernel_rfl)) ?_
  intro W base args ds gs before hval0 hW hcnd hsz _
  have hval : ∀ (j : Nat) t v, Try.f8.params[j]? = some t → args[j]? = some v → Value.okWide Try.prog W .any base t v := hval0
  have hW' := hW
  obtain ⟨p, q, hA0, hV, rfl, hfz, hnd⟩ := hW
  have hA : DataW.TrodAll enc Try.prog W 0 (fun _ => true) true Try.f8.params.toList args.toList ds p := hA0
  rw [Try.params8] at hA hval
  obtain ⟨v0, v1, v2, v3, d0, d1, d2, d3, p0, p1, p2, p3, rfl, rfl, rfl, h0, h1, h2, h3⟩ := trodAll_four hA
  obtain ⟨rfl, rfl⟩ := trodVars_none hV
  have hf : ∀ k ∈ d0.weights Try.prog 46, k ≤ reachBytes := fun k hk => by
    have := List.all_eq_true.1 hsz k (DataW.weights_mem_each (j := 0) (t := 46) (d := d0) rfl rfl k hk)
    simpa using this
  obtain ⟨A, c, xs, B, e, ys, rfl, hx, hy, r0, r1⟩ := open_shape_sized (hval 0 46 v0 rfl rfl) h0 hf
  obtain ⟨r, rfl, _, _⟩ := open_config (hval 1 48 v1 rfl rfl) h1
  obtain ⟨a0, len, cap, rfl⟩ := okWide_slice Try.underlying43 (hval 2 43 v2 rfl rfl)
  obtain ⟨fuel, hfu⟩ := h2
  obtain ⟨Mo, mc, ms, em, hms, hmb, _⟩ := open_Ints (enc := enc) (W := W) (v := .slice a0 len cap) (by simpa [Value.cells] using hfu)
  rw [em] at hW' ⊢
  obtain ⟨tape, rfl, rfl, rfl, _⟩ := open_int Try.underlying3 (hval 3 3 v3 rfl rfl) h3
  clear hA0 hval0 hfu hA hsz
  refine (walk A B c e xs ys r Mo mc ms tape W hx hy hms hmb r0 r1).mono fun e W' ⟨he, hg⟩ => ?_
  subst he
  exact ⟨_, rfl, law_post laidOut Try.underlying4 (by kernel_rfl) rfl (by kernel_rfl) hW' rfl hg⟩

theorem proved : Rows.QuotaMoreSaid :=
  OpenClaim.holds_of_wide 8 Try.f8 rfl rfl rfl rfl rfl rfl rfl ⟨rfl, rfl, rfl, rfl, rfl⟩ rfl rfl rfl rfl rfl (by kernel_rfl) Try.func8 (by kernel_rfl)
    (of_decide_eq_true (by kernel_rfl)) (by unfold Func.isWrapper; first | (rw [if_pos (by decide +kernel)]; kernel_rfl) | (rw [if_neg (by decide +kernel)]; exact ⟨rfl, rfl⟩))
    (fun os started H enc _ => lifted os started H enc)
#print axioms proved
end Go.Proofs.Ytjpkendpnpkbeaa.quotaMore
