/- Proved: munimentlaw20.QuotaCosts returns true for every length, and leaves its argument as it was. Conditions: none beyond the given row's own. -/
import Derived.Test.YtjpkendpnpkbeaaQuotaShown
import Derived.Test.YtjpkendpnpkbeaaLaw
import Derived.WalkKit
import Derived.ProofKit
import Derived.OpenShut
namespace Go.Proofs.Ytjpkendpnpkbeaa.quotaCosts
open Go.ChangeShapes Go.WideShapes Go.ChangeAt Go.RowKit
set_option linter.unusedVariables false      -- a walk need not use every 'w<i>' (that an integer argument fits its kind)

theorem own : ownKnob Try.prog.godebug = none := by kernel_rfl

/- The walk: the Go text returns true; nothing below the heap's old size turns. -/
set_option maxHeartbeats 400000 in
theorem walk (a0 : Int) (w : World) :
    Calls Try.prog 7 #[.int .i64 a0] w fun e w' => e = .returned (.bool true) ∧ Below w.heap.size w w' := by
  obtain ⟨C, hC⟩ : ∃ C, costF a0 = C := ⟨_, rfl⟩
  have hb : (a0 < 0 ∧ C = 0) ∨ (512 < a0 ∧ C = 0) ∨ (0 ≤ a0 ∧ a0 ≤ 512 ∧ 1 ≤ C ∧ C ≤ 9 ∧ 64 * (C - 1) ≥ a0 ∧ C = 1) ∨ (0 ≤ a0 ∧ a0 ≤ 512 ∧ 1 ≤ C ∧ C ≤ 9 ∧ 64 * (C - 1) ≥ a0 ∧ C ≠ 1 ∧ 64 * (C - 2) < a0) := by
    subst hC; unfold costF; split <;> omega
  have HC := Lib.hid hC
  clear hC
  have c1 : ∀ W : World, Calls Try.prog 31 #[.int .i64 a0] W fun e w' => e = .returned (.int .i64 C) ∧ W = w' := fun W => by rw [← HC.out]; exact cost_call a0 W
  have c2 : ∀ W : World, Calls Try.prog 32 #[.int .i64 a0] W fun e w' => e = .returned (.int .i64 C) ∧ W = w' := fun W => by rw [← HC.out]; exact refCost_call a0 W
  have C1 := Lib.hid c1
  have C2 := Lib.hid c2
  clear c1 c2
  have e0 : (C != C) = false := by simp
  rcases hb with ⟨h, rfl⟩ | ⟨h, rfl⟩ | ⟨h1, h2, h3, h4, h5, rfl⟩ | ⟨h1, h2, h3, h4, h5, h6, h7⟩
  · go_enter Try.func7, Try.ntmps7
    go_wp2_with (first | (go_at_call 24; refine (shown20_call _).mono ?_; rintro e w1 ⟨rfl, hb1⟩) | (go_at_call 31; refine (C1.out _).mono ?_; rintro e w' ⟨rfl, rfl⟩) | (go_at_call 32; refine (C2.out _).mono ?_; rintro e w' ⟨rfl, rfl⟩))
    go_ret
    exact ⟨rfl, hb1⟩
  · go_enter Try.func7, Try.ntmps7
    go_wp2_with (first | (go_at_call 24; refine (shown20_call _).mono ?_; rintro e w1 ⟨rfl, hb1⟩) | (go_at_call 31; refine (C1.out _).mono ?_; rintro e w' ⟨rfl, rfl⟩) | (go_at_call 32; refine (C2.out _).mono ?_; rintro e w' ⟨rfl, rfl⟩))
    go_ret
    exact ⟨rfl, hb1⟩
  · go_enter Try.func7, Try.ntmps7
    go_wp2_with (first | (go_at_call 24; refine (shown20_call _).mono ?_; rintro e w1 ⟨rfl, hb1⟩) | (go_at_call 31; refine (C1.out _).mono ?_; rintro e w' ⟨rfl, rfl⟩) | (go_at_call 32; refine (C2.out _).mono ?_; rintro e w' ⟨rfl, rfl⟩))
    go_ret
    exact ⟨rfl, hb1⟩
  · have e1 : (C == 1) = false := by rw [beq_eq_false_iff_ne]; exact h6
    clear h6
    go_enter Try.func7, Try.ntmps7
    go_wp2_with (first | (go_at_call 24; refine (shown20_call _).mono ?_; rintro e w1 ⟨rfl, hb1⟩) | (go_at_call 31; refine (C1.out _).mono ?_; rintro e w' ⟨rfl, rfl⟩) | (go_at_call 32; refine (C2.out _).mono ?_; rintro e w' ⟨rfl, rfl⟩))
    go_ret
    exact ⟨rfl, hb1⟩

theorem laidOut : laidOutB Try.prog = true := by kernel_rfl

set_option maxRecDepth 100000 in
theorem lifted (os : Os) (started : os.Started) (H : Type) (enc : TypeId × Value → H) :
    ReturnsInHanded {} Try.checked os 7 .any (Rows.quotaCostsSpec.pre6 enc Try.prog Try.f7 Rows.quotaCostsRow.domain false) (Rows.quotaCostsSpec.post enc Try.prog Try.f7 false true false false) := by
  refine returnsInHanded_of_change (C := Try.checked) own started (by kernel_rfl) Try.func7
    (ChangeSpec.witness6 (enc := enc) (C := Try.checked) false ⟨#[], #[.int .i64 0], []⟩ 8 (by kernel_rfl) (by kernel_rfl) (by kernel_rfl) (by kernel_rfl)) ?_
  intro W base args ds gs before hval0 hW hcnd _
  have hval : ∀ (j : Nat) t v, Try.f7.params[j]? = some t → args[j]? = some v → Value.okWide Try.prog W .any base t v := hval0
  have hW' := hW
  obtain ⟨p, q, hA0, hV, rfl, hfz, hnd⟩ := hW
  have hA : DataW.TrodAll enc Try.prog W 0 (fun _ => true) true Try.f7.params.toList args.toList ds p := hA0
  rw [Try.params7] at hA hval
  obtain ⟨v0, vs0, d0, ds0, p0, q0, hargs, rfl, rfl, h0, r0⟩ := trodAll_cons hA
  obtain ⟨rfl, rfl, rfl⟩ := trodAll_nil r0
  obtain rfl : args = #[v0] := by cases args; simp_all
  obtain ⟨rfl, rfl⟩ := trodVars_none hV
  obtain ⟨a0, rfl, rfl, rfl, w0⟩ := open_int Try.underlying3 (hval 0 3 v0 rfl rfl) h0
  clear hA0 hval0
  refine (walk a0 W).mono fun e W' ⟨he, hg⟩ => ?_
  subst he
  exact ⟨_, rfl, law_post laidOut Try.underlying4 (by kernel_rfl) rfl (by kernel_rfl) hW' rfl hg⟩

theorem over : Rows.quotaCostsRow.holds Try.pinned (OpenSpec.ofChange Rows.quotaCostsSpec) :=
  OpenClaim.holds_of_wide 7 Try.f7 rfl rfl rfl rfl rfl rfl rfl ⟨rfl, rfl, rfl, rfl, rfl⟩ rfl rfl rfl rfl rfl (by kernel_rfl) Try.func7 (by kernel_rfl)
    (of_decide_eq_true (by kernel_rfl)) (by unfold Func.isWrapper; first | (rw [if_pos (by decide +kernel)]; kernel_rfl) | (rw [if_neg (by decide +kernel)]; exact ⟨rfl, rfl⟩))
    (fun os started H enc _ => lifted os started H enc)

theorem proved : Rows.QuotaCostsSaid :=
  over
#print axioms proved
end Go.Proofs.Ytjpkendpnpkbeaa.quotaCosts
