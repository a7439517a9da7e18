/- Proved: munimentlaw20.QuotaKeys returns true for every shape and config, and leaves its arguments as they were. Conditions: none beyond the given row's own. -/
import Derived.Test.YtjpkendpnpkbeaaQuotaBox
namespace Go.Proofs.Ytjpkendpnpkbeaa.quotaKeys
open Go.ChangeShapes Go.WideShapes Go.ChangeAt Go.RowKit Go.Joins

set_option maxRecDepth 100000 in
set_option maxHeartbeats 1000000 in
theorem walk (A B : Option Addr) (c d : Nat) (xs ys : List Int) (r : Int) (w : World) (hx : Ints w A xs) (hy : Ints w B ys) :
    Calls Try.prog 9 #[.agg #[.slice A xs.length c, .slice B ys.length d], .agg #[.int .i64 r]] w fun e w' => e = .returned (.bool true) ∧ Below w.heap.size w w' := by
  have hl := hx.len
  have hm := hy.len
  have S0 := Bx.new c d r hx hy
  obtain ⟨M, hM⟩ : ∃ M, mayB xs ys r = M := ⟨_, rfl⟩
  have HM := Lib.hid hM
  clear hM
  go_enter Try.func9, Try.ntmps9
  go_wp2_with fail
  refine (shown20_call _).mono ?_
  rintro e w1 ⟨rfl, hb1⟩
  have S1 := S0.below hb1
  have B1 : Below w.heap.size w w1 := (by go_grown : Below w.heap.size w _).trans (hb1.mono (by simp; omega))
  have c1 := S1.c1
  have c2 := S1.c2
  have c3 := S1.c3
  clear hb1
  go_wp2_with fail
  refine (may_call' M A B _ _ _ _ xs ys r _ S1.i1 S1.i2 rfl rfl HM.out).mono ?_
  rintro e w2 ⟨rfl, hb2⟩
  have S2 := S1.below hb2
  have B2 : Below w.heap.size w w2 := B1.trans (hb2.mono (by have := S1.size; omega))
  clear c1 c2 c3 hb2
  cases M
  · go_wp2
    go_ret
    exact ⟨rfl, B2⟩
  · have hmay := mayB_true HM.out
    have l3 : xs.length = 3 := hmay.1
    have d1 := hmay.2.2.2.2.2.2.1 1 (by omega)
    have d2 := hmay.2.2.2.2.2.2.1 2 (by omega)
    simp only [okDisk, leastOf] at d1 d2
    simp at d1 d2
    obtain ⟨bx, ox, rfl, hbx, hcx⟩ := S2.i1.at_ (by omega)
    have c1 := S2.c1
    have c2 := S2.c2
    have c3 := S2.c3
    have e1 := hcx 1 (by omega)
    have q1 : 1 < xs.length := by omega
    have q2 : 2 < xs.length := by omega
    clear hcx
    obtain ⟨P, hP⟩ : ∃ P, putsOf (diskF xs 1) = P := ⟨_, rfl⟩
    obtain ⟨K, hK⟩ : ∃ K, sectorsOf (diskF xs 2) = K := ⟨_, rfl⟩
    have eD1 : diskF xs 1 = el xs 1 := by unfold diskF; rw [if_neg (by omega)]; omega
    have eD2 : diskF xs 2 = el xs 2 := by unfold diskF; rw [if_neg (by omega)]; omega
    have fP : 0 ≤ P ∧ P ≤ 38 ∧ 3 * P + 1 ≤ (min ((el xs 1 - 2) / 8) 384 - 32) / 3 ∧ (min ((el xs 1 - 2) / 8) 384 - 32) / 3 < 3 * (P + 1) + 1 := by
      rw [eD1] at hP; unfold putsOf at hP; split at hP <;> omega
    have fK : 8 ≤ K ∧ K ≤ 2048 ∧ K % 8 = 0 ∧ 2 * K ≤ el xs 2 - 16 ∧ el xs 2 - 32 < 2 * (K + 8) := by
      rw [eD2] at hK; unfold sectorsOf at hK; split at hK <;> omega
    have HP := Lib.hid hP
    have HK := Lib.hid hK
    have m8 : ((K % 8 == 0) : Bool) = true := by rw [beq_iff_eq]; exact fK.2.2.1
    have e3 : ((xs.length : Int) != 3) = false := by rw [bne_eq_false_iff_eq]; omega
    obtain ⟨fP0, fP1, fP2, fP3⟩ := fP
    obtain ⟨fK0, fK1, fK2, fK3, fK4⟩ := fK
    clear hP hK eD1 eD2 hmay l3 fK2
    rcases (by omega : (el xs 1 - 2) / 8 ≤ 384 ∨ 384 < (el xs 1 - 2) / 8) with hp | hp
    · rw [show min ((el xs 1 - 2) / 8) 384 = (el xs 1 - 2) / 8 from by omega] at fP2 fP3
      go_wp2_with fail
      refine (puts_call' P _ _ _ _ _ _ xs _ S2.i1 rfl HP.out).mono ?_
      rintro e w3 ⟨rfl, hb3⟩
      have S3 := S2.below hb3
      have B3 : Below w.heap.size w w3 := B2.trans (hb3.mono (by have := S2.size; omega))
      clear c1 c2 c3 hb3 e1
      have c1 := S3.c1
      have c2 := S3.c2
      have c3 := S3.c3
      go_wp2_with fail
      refine (sectors_call' K _ _ _ _ _ _ xs _ S3.i1 rfl HK.out).mono ?_
      rintro e w4 ⟨rfl, hb4⟩
      have S4 := S3.below hb4
      have B4 : Below w.heap.size w w4 := B3.trans (hb4.mono (by have := S3.size; omega))
      clear c1 c2 c3 hb4
      have c1 := S4.c1
      have c2 := S4.c2
      have c3 := S4.c3
      have e2 := S4.i1.get (by omega : 2 < xs.length) rfl
      go_wp2
      go_ret
      exact ⟨rfl, B4⟩
    · rw [show min ((el xs 1 - 2) / 8) 384 = 384 from by omega] at fP2 fP3
      go_wp2_with fail
      refine (puts_call' P _ _ _ _ _ _ xs _ S2.i1 rfl HP.out).mono ?_
      rintro e w3 ⟨rfl, hb3⟩
      have S3 := S2.below hb3
      have B3 : Below w.heap.size w w3 := B2.trans (hb3.mono (by have := S2.size; omega))
      clear c1 c2 c3 hb3 e1
      have c1 := S3.c1
      have c2 := S3.c2
      have c3 := S3.c3
      go_wp2_with fail
      refine (sectors_call' K _ _ _ _ _ _ xs _ S3.i1 rfl HK.out).mono ?_
      rintro e w4 ⟨rfl, hb4⟩
      have S4 := S3.below hb4
      have B4 : Below w.heap.size w w4 := B3.trans (hb4.mono (by have := S3.size; omega))
      clear c1 c2 c3 hb4
      have c1 := S4.c1
      have c2 := S4.c2
      have c3 := S4.c3
      have e2 := S4.i1.get (by omega : 2 < xs.length) rfl
      go_wp2
      go_ret
      exact ⟨rfl, B4⟩

theorem own : ownKnob Try.prog.godebug = none := by kernel_rfl
theorem laidOut : laidOutB Try.prog = true := by kernel_rfl

set_option maxRecDepth 100000 in
theorem lifted (os : Os) (started : os.Started) (H : Type) (enc : TypeId × Value → H) :
    ReturnsInHanded {} Try.checked os 9 .any (Rows.quotaKeysSpec.pre6 enc Try.prog Try.f9 Rows.quotaKeysRow.domain false) (Rows.quotaKeysSpec.post enc Try.prog Try.f9 false true false false) := by
  refine returnsInHanded_of_change (C := Try.checked) own started (by kernel_rfl) Try.func9
    (ChangeSpec.witness6 (enc := enc) (C := Try.checked) false ⟨#[], #[.agg #[.slice none 0 0, .slice none 0 0], .agg #[.int .i64 0]], []⟩ 8 (by kernel_rfl) (by kernel_rfl) (by kernel_rfl) (by kernel_rfl)) ?_
  intro W base args ds gs before hval0 hW hcnd _
  have hval : ∀ (j : Nat) t v, Try.f9.params[j]? = some t → args[j]? = some v → Value.okWide Try.prog W .any base t v := hval0
  have hW' := hW
  obtain ⟨p, q, hA0, hV, rfl, hfz, hnd⟩ := hW
  have hA : DataW.TrodAll enc Try.prog W 0 (fun _ => true) true Try.f9.params.toList args.toList ds p := hA0
  rw [Try.params9] at hA hval
  obtain ⟨v0, v1, d0, d1, p0, p1, rfl, rfl, rfl, h0, h1⟩ := trodAll_two hA
  obtain ⟨rfl, rfl⟩ := trodVars_none hV
  obtain ⟨A, c, xs, B, e, ys, rfl, hx, hy⟩ := open_shape (hval 0 46 v0 rfl rfl) h0
  obtain ⟨r, rfl, _, _⟩ := open_config (hval 1 48 v1 rfl rfl) h1
  clear hA0 hval0
  refine (walk A B c e xs ys r W hx hy).mono fun e W' ⟨he, hg⟩ => ?_
  subst he
  exact ⟨_, rfl, law_post laidOut Try.underlying4 (by kernel_rfl) rfl (by kernel_rfl) hW' rfl hg⟩

theorem proved : Rows.QuotaKeysSaid :=
  OpenClaim.holds_of_wide 9 Try.f9 rfl rfl rfl rfl rfl rfl rfl ⟨rfl, rfl, rfl, rfl, rfl⟩ rfl rfl rfl rfl rfl (by kernel_rfl) Try.func9 (by kernel_rfl)
    (of_decide_eq_true (by kernel_rfl)) (by unfold Func.isWrapper; first | (rw [if_pos (by decide +kernel)]; kernel_rfl) | (rw [if_neg (by decide +kernel)]; exact ⟨rfl, rfl⟩))
    (fun os started H enc _ => lifted os started H enc)
#print axioms proved
end Go.Proofs.Ytjpkendpnpkbeaa.quotaKeys
