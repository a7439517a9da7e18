/- Proved: munimentlaw20.QuotaMays returns true for every shape and config, and leaves its arguments as they were. Conditions: none beyond the given row's own. -/
import Derived.Test.YtjpkendpnpkbeaaQuotaBox
import Derived.Test.YtjpkendpnpkbeaaQuotaRef
import Derived.Test.YtjpkendpnpkbeaaMem
import Derived.Deep.RegionHeld3
import Derived.Deep.DeepCutAuto
namespace Go.Proofs.Ytjpkendpnpkbeaa.quotaMays
open Go.ChangeShapes Go.WideShapes Go.ChangeAt Go.RowKit Go.Joins

theorem refMay_call' (b : Bool) (A B : Option Addr) (n m c d : Nat) (xs ys : List Int) (r : Int) (w : World) (hx : Ints w A xs) (hy : Ints w B ys) (hn : xs.length = n) (hm : ys.length = m) (hb : mayB xs ys r = b) :
    Calls Try.prog 26 #[.agg #[.slice A n c, .slice B m d], .agg #[.int .i64 r]] w fun e w' => e = .returned (.bool b) ∧ Below w.heap.size w w' := by
  subst hn; subst hm; subst hb; exact refMay_call A B c d xs ys r w hx hy
theorem refPuts_call' (b : Int) (A B : Option Addr) (n m c d : Nat) (xs : List Int) (w : World) (hx : Ints w A xs) (hn : xs.length = n) (hb : putsOf (diskF xs 1) = b) :
    Calls Try.prog 28 #[.agg #[.slice A n c, .slice B m d]] w fun e w' => e = .returned (.int .i64 b) ∧ Below w.heap.size w w' := by
  subst hn; subst hb; exact refPuts_call A B m c d xs w hx
theorem refSectors_call' (b : Int) (A B : Option Addr) (n m c d : Nat) (xs : List Int) (w : World) (hx : Ints w A xs) (hn : xs.length = n) (hb : sectorsOf (diskF xs 2) = b) :
    Calls Try.prog 30 #[.agg #[.slice A n c, .slice B m d]] w fun e w' => e = .returned (.int .i64 b) ∧ Below w.heap.size w w' := by
  subst hn; subst hb; exact refSectors_call A B m c d xs w hx

/-- What 'own := api.Shape{..}' leaves: a shape of its own, behind w1, that reads as xs and ys. -/
def Own4 (w1 : World) (xs ys : List Int) (p : Value) (wx : World) : Prop :=
  ∃ (g : Nat) (A1 : Option Addr) (k1 : Nat) (A2 : Option Addr) (k2 : Nat), p = .pointer (some ⟨g, 0, none⟩) ∧ w1.heap.size ≤ g ∧ g < wx.heap.size ∧ Below w1.heap.size w1 wx ∧
    wx.cell? ⟨g, 0, none⟩ = some (.slice A1 xs.length k1) ∧ wx.cell? ⟨g, 1, none⟩ = some (.slice A2 ys.length k2) ∧ Ints wx A1 xs ∧ Ints wx A2 ys

theorem info3 : (Try.prog.info? 3).map (fun i => (i.zero, i.size, i.bytes)) = some (some (.int .i64 0), 1, 8) := by kernel_rfl

set_option maxRecDepth 100000 in
set_option maxHeartbeats 4000000 in
theorem walk (A B : Option Addr) (c d : Nat) (xs ys : List Int) (r : Int) (w : World) (hx : Ints w A xs) (hy : Ints w B ys) (hrx : xs.length * 8 ≤ 140737488351232) (hry : ys.length * 8 ≤ 140737488351232) :
    Calls Try.prog 6 #[.agg #[.slice A xs.length c, .slice B ys.length d], .agg #[.int .i64 r]] w fun e w' => e = .returned (.bool true) ∧ Below w.heap.size w w' := by
  have hl := hx.len
  have hm := hy.len
  have S0 := Bx.new c d r hx hy
  go_enter Try.func6, Try.ntmps6
  go_wp2_with fail
  refine (shown20_call _).mono ?_
  rintro e w1 ⟨rfl, hb1⟩
  have S1 := S0.below hb1
  have B1 : Below w.heap.size w w1 := (by go_grown : Below w.heap.size w _).trans (hb1.mono (by simp; omega))
  have c1 := S1.c1
  have c2 := S1.c2
  have c3 := S1.c3
  clear hb1
  go_upto_region 4 with fail
  go_cut [6] (fun p wx => Own4 w1 xs ys p wx)
  case first =>
    obtain ⟨i0, hi0, hz0, hz1, hz2⟩ := info_parts info3
    have hN := S1.size
    have hn0 : w.heap.size < w1.heap.size := by omega
    have close : ∀ W, Below w1.heap.size w1 W → Below w1.heap.size w1 W ∧ w1.heap.size ≤ W.heap.size ∧ W.cell? ⟨w.heap.size, 0, none⟩ = some (.slice A xs.length c) ∧ W.cell? ⟨w.heap.size, 1, none⟩ = some (.slice B ys.length d) :=
      fun W hb => ⟨hb, hb.size, (hb.cell (p := ⟨w.heap.size, 0, none⟩) hn0).trans c1, (hb.cell (p := ⟨w.heap.size, 1, none⟩) hn0).trans c2⟩
    have CL := Lib.hid close
    clear close
    go_region_held3 (fun w' => Below w1.heap.size w1 w' ∧ w1.heap.size ≤ w'.heap.size ∧ w'.cell? ⟨w.heap.size, 0, none⟩ = some (.slice A xs.length c) ∧ w'.cell? ⟨w.heap.size, 1, none⟩ = some (.slice B ys.length d))
      (first
        | exact CL.out _ ((Below.refl _ _).drew)
        | (go_split_ands; refine CL.out _ ?_; first | assumption | (go_grown; done)))
      (first
        | (go_split_ands; (refine step_clone rfl (.tmp 12) (.tmp 14) 43 rfl 3 i0 _ 1 8 Try.underlying43 hi0 hz0 hz1 hz2 rfl (by omega) _ rfl A xs.length c _ rfl (S1.i1.below (by assumption)).src (ints_one xs) (by unfold maxLen; omega) (by omega) ?_); intro A1 k1 w2 hrow1 hbel1; have hs1 := CL.out _ (Below.trans (by assumption) (hbel1.mono (by assumption)))
           go_split_ands; obtain ⟨hI1, hN1⟩ := hrow1.ints_in (by omega); have hc1 := old_cells hbel1; have hf1 := old_marks hbel1; have hsz1 := hbel1.size; (try simp only [World.size_alloc, World.size_drew] at hsz1); (try have q10 : w1.heap.size < w2.heap.size := by omega); (try have q11 : w1.heap.size + 1 < w2.heap.size := by omega); (try have q12 : w1.heap.size + 1 + 1 < w2.heap.size := by omega))
        | (go_split_ands; (refine step_clone rfl (.tmp 16) (.tmp 18) 43 rfl 3 i0 _ 1 8 Try.underlying43 hi0 hz0 hz1 hz2 rfl (by omega) _ rfl B ys.length d _ rfl (S1.i2.below (by assumption)).src (ints_one ys) (by unfold maxLen; omega) (by omega) ?_); intro A2 k2 w3 hrow2 hbel2; have hs2 := CL.out _ (Below.trans (by assumption) (hbel2.mono (by assumption)))
           go_split_ands; obtain ⟨hI2, hN2⟩ := hrow2.ints_in (by omega); have hc2 := old_cells hbel2; have hf2 := old_marks hbel2; have hsz2 := hbel2.size; (try simp only [World.size_alloc, World.size_drew] at hsz2); (try have q20 : w1.heap.size < w3.heap.size := by omega); (try have q21 : w1.heap.size + 1 < w3.heap.size := by omega); (try have q22 : w1.heap.size + 1 + 1 < w3.heap.size := by omega); (try have q23 : w2.heap.size < w3.heap.size := by omega); (try have q24 : w2.heap.size + 1 < w3.heap.size := by omega)))
    all_goals (go_wp2_with fail; go_meet)
    all_goals
      go_split_ands
      have hJ1 : Ints w3 A1 xs := by first | exact hI1.below hbel2 | exact (hI1.alloc _).below hbel2 | exact ((hI1.alloc _).alloc _).below hbel2
      simp only [World.size_alloc, World.size_drew] at hN1 hN2
      refine ⟨_, A1, k1, A2, k2, rfl, ?_, ?_, ?_, ?_, ?_, ?_, ?_⟩
      · first | omega | (simp; done) | (simp; omega)
      · first | omega | (simp; done) | (simp; omega)
      · first | assumption | (go_grown; done)
      · first
          | (simp [go_sem]; done)
          | (rw [World.cell?_setCell_other _ _ _ _ (by simp)]; refine World.cell?_setCell_same _ _ _ (u := .slice none 0 0) ?_; simp (disch := first | omega | (simp; done) | (simp; omega)) [go_sem, hc1, hc2]; done)
      · first
          | (simp [go_sem]; done)
          | (refine World.cell?_setCell_same _ _ _ (u := .slice none 0 0) ?_; rw [World.cell?_setCell_other _ _ _ _ (by simp)]; simp (disch := first | omega | (simp; done) | (simp; omega)) [go_sem, hc1, hc2]; done)
      · first | exact hJ1 | exact hJ1.alloc _ | exact (hJ1.setCell hN1 (by first | (simp; done) | (simp; omega)) _).setCell hN1 (by first | (simp; done) | (simp; omega)) _
      · first | exact hI2 | exact hI2.alloc _ | exact (hI2.setCell hN2 (by first | (simp; done) | (simp; omega)) _).setCell hN2 (by first | (simp; done) | (simp; omega)) _
  case rest =>
    obtain ⟨wq, rfl⟩ : ∃ wq : World, wq = wc := ⟨_, rfl⟩
    obtain ⟨g, A1, k1, A2, k2, rfl, hg1, hg2, hBc, d1, d2, J1, J2⟩ := hcut
    have I1 := S1.i1.below hBc
    have I2 := S1.i2.below hBc
    have hw1 := S1.size
    have lc : w1.heap.size ≤ wq.heap.size := hBc.size
    have c1' : wq.cell? ⟨w.heap.size, 0, none⟩ = some (.slice A xs.length c) := (hBc.cell (p := ⟨w.heap.size, 0, none⟩) (by simp; omega)).trans c1
    have c2' : wq.cell? ⟨w.heap.size, 1, none⟩ = some (.slice B ys.length d) := (hBc.cell (p := ⟨w.heap.size, 1, none⟩) (by simp; omega)).trans c2
    have c3' : wq.cell? ⟨w.heap.size + 1, 0, none⟩ = some (.int .i64 r) := (hBc.cell (p := ⟨w.heap.size + 1, 0, none⟩) (by simp; omega)).trans c3
    have BC : Below w.heap.size w wq := B1.trans (hBc.mono (by omega))
    clear c1 c2 c3
    have close : ∀ W, Below wq.heap.size wq W → Below wq.heap.size wq W ∧ W.cell? ⟨w.heap.size, 0, none⟩ = some (.slice A xs.length c) ∧ W.cell? ⟨w.heap.size, 1, none⟩ = some (.slice B ys.length d) ∧ W.cell? ⟨w.heap.size + 1, 0, none⟩ = some (.int .i64 r) ∧
        W.cell? ⟨g, 0, none⟩ = some (.slice A1 xs.length k1) ∧ W.cell? ⟨g, 1, none⟩ = some (.slice A2 ys.length k2) :=
      fun W hb => ⟨hb, (hb.cell (by simp; omega)).trans c1', (hb.cell (by simp; omega)).trans c2', (hb.cell (by simp; omega)).trans c3', (hb.cell (by simp; omega)).trans d1, (hb.cell (by simp; omega)).trans d2⟩
    have CL := Lib.hid close
    clear close c1' c2' c3' d1 d2
    obtain ⟨M, hM⟩ : ∃ M, mayB xs ys r = M := ⟨_, rfl⟩
    obtain ⟨P, hP⟩ : ∃ P, putsOf (diskF xs 1) = P := ⟨_, rfl⟩
    obtain ⟨K, hK⟩ : ∃ K, sectorsOf (diskF xs 2) = K := ⟨_, rfl⟩
    have HM := Lib.hid hM
    have HP := Lib.hid hP
    have HK := Lib.hid hK
    clear hM hP hK
    have step : ∀ a b : World, Below wq.heap.size wq a → Below a.heap.size a b → Below wq.heap.size wq b := fun a b h1 h2 => h1.trans (h2.mono h1.size)
    have ST := Lib.hid step
    clear step
    go_upto_region 5 with fail
    go_cut [41] (fun b wx => b = .bool false ∧ Below wq.heap.size wq wx)
    case first =>
      go_region_held3 (fun w' => Below wq.heap.size wq w' ∧ w'.cell? ⟨w.heap.size, 0, none⟩ = some (.slice A xs.length c) ∧ w'.cell? ⟨w.heap.size, 1, none⟩ = some (.slice B ys.length d) ∧ w'.cell? ⟨w.heap.size + 1, 0, none⟩ = some (.int .i64 r) ∧
        w'.cell? ⟨g, 0, none⟩ = some (.slice A1 xs.length k1) ∧ w'.cell? ⟨g, 1, none⟩ = some (.slice A2 ys.length k2))
        (first | exact CL.out _ ((Below.refl _ _).drew) | (go_split_ands; exact CL.out _ (by assumption)))
        (first
          | (go_at_call 25; go_split_ands; (refine (may_call' M A1 A2 _ _ _ _ xs ys r _ (J1.below (by assumption)) (J2.below (by assumption)) rfl rfl HM.out).mono ?_); rintro e wn ⟨rfl, hbn⟩; have hbs := ST.out _ _ (by assumption) hbn)
          | (go_at_call 26; go_split_ands; (refine (refMay_call' M A B _ _ _ _ xs ys r _ (I1.below (by assumption)) (I2.below (by assumption)) rfl rfl HM.out).mono ?_); rintro e wn ⟨rfl, hbn⟩; have hbs := ST.out _ _ (by assumption) hbn)
          | (go_at_call 27; go_split_ands; (refine (puts_call' P A1 _ _ _ _ _ xs _ (J1.below (by assumption)) rfl HP.out).mono ?_); rintro e wn ⟨rfl, hbn⟩; have hbs := ST.out _ _ (by assumption) hbn)
          | (go_at_call 28; go_split_ands; (refine (refPuts_call' P A _ _ _ _ _ xs _ (I1.below (by assumption)) rfl HP.out).mono ?_); rintro e wn ⟨rfl, hbn⟩; have hbs := ST.out _ _ (by assumption) hbn)
          | (go_at_call 29; go_split_ands; (refine (sectors_call' K A1 _ _ _ _ _ xs _ (J1.below (by assumption)) rfl HK.out).mono ?_); rintro e wn ⟨rfl, hbn⟩; have hbs := ST.out _ _ (by assumption) hbn)
          | (go_at_call 30; go_split_ands; (refine (refSectors_call' K A _ _ _ _ _ xs _ (I1.below (by assumption)) rfl HK.out).mono ?_); rintro e wn ⟨rfl, hbn⟩; have hbs := ST.out _ _ (by assumption) hbn))
      go_split_ands
      go_wp2_with fail
      go_meet
      exact ⟨rfl, by assumption⟩
    case rest =>
      obtain ⟨rfl, hD⟩ := hcut
      clear HM HP HK ST S0 hBc
      go_wp2
      go_loopw [7] (fun i wr => ∃ k : Nat, k ≤ xs.length ∧ i = .int .i64 k ∧ Below wq.heap.size wq wr) (fun i _ => xs.length - (intOf i).toNat)
      case atStart => exact ⟨0, by omega, rfl, hD⟩
      case round =>
        obtain ⟨k, hk, rfl, hR⟩ := hrel
        have CR := CL.out _ hR
        obtain ⟨_, c1, c2, c3, d1, d2⟩ := CR
        by_cases hlt : k < xs.length
        · obtain ⟨b1, o1, rfl, _, h1⟩ := I1.at_ (by omega)
          obtain ⟨b2, o2, rfl, _, h2⟩ := J1.at_ (by omega)
          have f1 := (I1.below hR).get hlt rfl
          have f2 := (J1.below hR).get hlt rfl
          have l0 : (0 : Int) ≤ (k : Int) := Int.natCast_nonneg _
          have l1 : (k : Int) < (xs.length : Int) := by omega
          clear h1 h2
          go_wp2_with fail
          go_region
          all_goals go_wp2
          exact ⟨⟨k + 1, by omega, by go_num, hR.drew⟩, by simp [intOf]; omega⟩
        · clear c1 c2 c3 d1 d2
          have CR := CL.out _ hR
          obtain ⟨_, c1, c2, c3, d1, d2⟩ := CR
          go_wp2
          go_loopw [8] (fun i wr => ∃ k : Nat, k ≤ ys.length ∧ i = .int .i64 k ∧ Below wq.heap.size wq wr) (fun i _ => ys.length - (intOf i).toNat)
          case atStart => exact ⟨0, by omega, rfl, hR⟩
          case round =>
            obtain ⟨k', hk', rfl, hR'⟩ := hrel
            clear c1 c2 c3 d1 d2
            have CR := CL.out _ hR'
            obtain ⟨_, c1, c2, c3, d1, d2⟩ := CR
            by_cases hlt' : k' < ys.length
            · obtain ⟨b1, o1, rfl, _, h1⟩ := I2.at_ (by omega)
              obtain ⟨b2, o2, rfl, _, h2⟩ := J2.at_ (by omega)
              have f1 := (I2.below hR').get hlt' rfl
              have f2 := (J2.below hR').get hlt' rfl
              have l0 : (0 : Int) ≤ (k' : Int) := Int.natCast_nonneg _
              have l1 : (k' : Int) < (ys.length : Int) := by omega
              clear h1 h2
              go_wp2_with fail
              go_region
              all_goals go_wp2
              exact ⟨⟨k' + 1, by omega, by go_num, hR'.drew⟩, by simp [intOf]; omega⟩
            · go_wp2
              go_ret
              exact ⟨rfl, BC.trans (hR'.mono (by omega))⟩

theorem own : ownKnob Try.prog.godebug = none := by kernel_rfl
theorem laidOut : laidOutB Try.prog = true := by kernel_rfl

set_option maxRecDepth 100000 in
theorem lifted (os : Os) (started : os.Started) (H : Type) (enc : TypeId × Value → H) :
    ReturnsInHanded {} Try.checked os 6 .any (fun w args => Rows.quotaMaysSpec.pre6 enc Try.prog Try.f6 Rows.quotaMaysRow.domain false w args) (Rows.quotaMaysSpec.post enc Try.prog Try.f6 false true false false) := by
  refine returnsInHanded_of_change_sized (C := Try.checked) own started (by kernel_rfl) Try.func6
    (ChangeSpec.witness6 (enc := enc) (C := Try.checked) false ⟨#[], #[.agg #[.slice none 0 0, .slice none 0 0], .agg #[.int .i64 0]], []⟩ 8 (by kernel_rfl) (by kernel_rfl) (by kernel_rfl) (by kernel_rfl)) ?_
  intro W base args ds gs before hval0 hW hcnd hsz _
  have hval : ∀ (j : Nat) t v, Try.f6.params[j]? = some t → args[j]? = some v → Value.okWide Try.prog W .any base t v := hval0
  have hW' := hW
  obtain ⟨p, q, hA0, hV, rfl, hfz, hnd⟩ := hW
  have hA : DataW.TrodAll enc Try.prog W 0 (fun _ => true) true Try.f6.params.toList args.toList ds p := hA0
  rw [Try.params6] at hA hval
  obtain ⟨v0, v1, d0, d1, p0, p1, rfl, rfl, rfl, h0, h1⟩ := trodAll_two hA
  obtain ⟨rfl, rfl⟩ := trodVars_none hV
  have hf : ∀ k ∈ d0.weights Try.prog 46, k ≤ reachBytes := fun k hk => by
    have := List.all_eq_true.1 hsz k (DataW.weights_mem_each (j := 0) (t := 46) (d := d0) rfl rfl k hk)
    simpa using this
  obtain ⟨A, c, xs, B, e, ys, rfl, hx, hy, r0, r1⟩ := open_shape_sized (hval 0 46 v0 rfl rfl) h0 hf
  obtain ⟨r, rfl, _, _⟩ := open_config (hval 1 48 v1 rfl rfl) h1
  clear hA0 hval0
  refine (walk A B c e xs ys r W hx hy r0 r1).mono fun e W' ⟨he, hg⟩ => ?_
  subst he
  exact ⟨_, rfl, law_post laidOut Try.underlying4 (by kernel_rfl) rfl (by kernel_rfl) hW' rfl hg⟩

theorem proved : Rows.QuotaMaysSaid :=
  OpenClaim.holds_of_wide 6 Try.f6 rfl rfl rfl rfl rfl rfl rfl ⟨rfl, rfl, rfl, rfl, rfl⟩ rfl rfl rfl rfl rfl (by kernel_rfl) Try.func6 (by kernel_rfl)
    (of_decide_eq_true (by kernel_rfl)) (by unfold Func.isWrapper; first | (rw [if_pos (by decide +kernel)]; kernel_rfl) | (rw [if_neg (by decide +kernel)]; exact ⟨rfl, rfl⟩))
    (fun os started H enc _ => lifted os started H enc)
#print axioms proved
end Go.Proofs.Ytjpkendpnpkbeaa.quotaMays
