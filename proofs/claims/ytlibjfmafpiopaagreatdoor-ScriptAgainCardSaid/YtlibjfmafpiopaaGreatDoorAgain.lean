/- Proved: munimentlaw22.ScriptAgain returns true for every text, and leaves its argument as it was. Conditions: none beyond the given row's own (what the listed package variables hold when the call begins; the card ties that to the program's text). -/
import Derived.Test.YtlibjfmafpiopaaGreatDoorLines
import Derived.ChangeMaps5
namespace Go.Proofs.YtlibjfmafpiopaaGreatDoor.scriptAgain
open Go.RowKit Go.Shelf Scr Go.ChangeShapes Go.WideShapes Go.ChangeAt

set_option maxRecDepth 100000 in
set_option maxHeartbeats 4000000 in
theorem walk {a0 a1 a3 : Addr} (t : ByteArray) (ht : t.size ≤ 140737488351232) (w : World) (Lw : Laid a0 a1 a3 w) :
    Calls Tryz.prog 7 #[.string t] w fun e w' => e = .returned (.bool true) ∧ Below w.heap.size w w' := by
  have HL := Lib.hid Lw
  have HSH := Lib.hid (shown11_call w Lw)
  obtain ⟨l, x, e1, hpt⟩ : ∃ l x e, parseR t.data.toList = (l, x, e) := ⟨_, _, _, rfl⟩
  have HP1 := Lib.hid (fun W (hb : Below w.heap.size w W) => (parse12_call t W ht (HL.out.below hb)).mono fun e w' h => parse_reads h hpt)
  have HPT := Lib.hid hpt
  have HLN := Lib.hid (fun W => lines20_call t W (by omega))
  obtain ⟨nl, hnl⟩ : ∃ nl, (split 10 t.data.toList).length = nl := ⟨_, rfl⟩
  rw [hnl] at HLN
  have HNL := Lib.hid hnl
  clear Lw hpt hnl
  go_enter Tryz.func7, Tryz.ntmps7
  go_wp2_with fail
  refine HSH.out.mono ?_
  rintro e w1 ⟨rfl, hb1⟩
  have HB1 := Lib.hid hb1
  clear hb1
  go_wp2_with fail
  refine (HP1.out _ HB1.out).mono ?_
  rintro e w2 ⟨hb2, A1, k1, rfl, hr1⟩
  have HB2 := Lib.hid (HB1.out.trans (hb2.mono HB1.out.size))
  have HR1 := Lib.hid hr1
  clear hb2 hr1
  by_cases z1 : e1 ≠ 0
  · have q1 : (e1 != 0) = true := by rw [bne_iff_ne]; exact z1
    have hpe := parse_err HPT.out
    obtain ⟨hl, hx0, hx1⟩ : l = [] ∧ 0 ≤ x ∧ x ≤ (nl : Int) := by
      rcases hpe with h | h
      · exact absurd h.1 z1
      · exact ⟨h.2.1, h.2.2.1, by rw [← HNL.out]; exact h.2.2.2⟩
    subst hl
    clear z1 hpe
    go_wp2_with fail
    refine (HLN.out _).mono ?_
    rintro e w5 ⟨rfl, rfl⟩
    go_wp2_with fail
    go_ret
    exact ⟨rfl, HB2.out⟩
  obtain rfl : e1 = 0 := Decidable.not_not.1 z1
  have hx : x = 0 := by
    rcases parse_err HPT.out with h | h
    · exact h.2
    · exact absurd rfl h.1
  subst hx
  have HPR := Lib.hid (print15_call A1 k1 l w2 HR1.out (HL.out.below HB2.out))
  rcases parse_again HPT.out with ⟨s, hp, hps, hsl⟩ | ⟨hp, hor⟩
  · rw [hp] at HPR
    simp only at HPR
    obtain ⟨ts, hts⟩ : ∃ T : ByteArray, (⟨s.toArray⟩ : ByteArray) = T := ⟨_, rfl⟩
    have htd : ts.data.toList = s := by rw [← hts]
    have hsz : ts.size = s.length := by rw [size_list, htd]
    have hts2 : ts.size ≤ t.size + 1 := by rw [hsz, size_list]; exact hsl
    rw [hts] at HPR
    rw [← htd] at hps
    have hsm := parse_small HPT.out
    rw [← size_list] at hsm
    have HP2 := Lib.hid (fun W (hb : Below w.heap.size w W) => (parse12_call ts W (by omega) (HL.out.below hb)).mono fun e w' h => parse_reads h hps)
    have hti : (ts.size : Int) ≤ (t.size : Int) + 1 := by omega
    clear z1 hp hps hsl hts htd hsz
    go_wp2_with fail
    refine HPR.out.mono ?_
    rintro e w3 ⟨rfl, hb3⟩
    have HR3 := Lib.hid (HR1.out.below hb3)
    have HB3 := Lib.hid (HB2.out.trans (hb3.mono HB2.out.size))
    clear hb3
    go_wp2_with fail
    refine (HP2.out _ HB3.out).mono ?_
    rintro e w4 ⟨hb4, A2, k2, rfl, hr2⟩
    have HB4 := Lib.hid (HB3.out.trans (hb4.mono HB3.out.size))
    have HSM := Lib.hid (same_call A2 A1 k2 k1 l w4 hr2 (HR3.out.below hb4))
    clear hb4 hr2
    go_wp2_with fail
    refine HSM.out.mono ?_
    rintro e w5 ⟨rfl, hb5⟩
    have HB5 := Lib.hid (HB4.out.trans (hb5.mono HB4.out.size))
    clear hb5
    go_wp2_with fail
    go_ret
    exact ⟨rfl, HB5.out⟩
  · rw [hp] at HPR
    simp only at HPR
    have HOR := Lib.hid hor
    clear z1 hp hor
    go_wp2_with fail
    refine HPR.out.mono ?_
    rintro e w3 ⟨rfl, hb3⟩
    have HB3 := Lib.hid (HB2.out.trans (hb3.mono HB2.out.size))
    clear hb3
    by_cases h6 : t.size = 65536
    · have t6 : ((t.size : Int) == 65536) = true := by rw [beq_iff_eq]; omega
      clear h6
      go_wp2_with fail
      go_ret
      exact ⟨rfl, HB3.out⟩
    · have t6 : ((t.size : Int) == 65536) = false := by rw [beq_eq_false_iff_ne]; omega
      have hn : nl = 4096 := by
        rcases HOR.out with h | h
        · exact absurd (by rw [size_list]; exact h) h6
        · rw [← HNL.out]; exact h
      subst hn
      clear h6
      go_wp2_with fail
      refine (HLN.out _).mono ?_
      rintro e w5 ⟨rfl, rfl⟩
      go_wp2_with fail
      go_ret
      exact ⟨rfl, HB3.out⟩

theorem laidOut : laidOutB Tryz.prog = true := by kernel_rfl

theorem reads (os : Os) {H : Type} (enc : TypeId × Value → H) : ∃ places, DataW.whole enc Tryz.prog ((LW.laidWorld os #[]).forCall (fun _ _ => 0) ⟨#[], #[.string ByteArray.empty], []⟩).memory Tryz.f7.params.toList Rows.scriptAgainSpec.vars false #[Value.string ByteArray.empty].toList 8 = some ([.lit (.string [])], [], places) :=
  ⟨[], by kernel_rfl⟩

set_option maxRecDepth 100000 in
theorem lifted (os : Os) (started : os.Started) (H : Type) (enc : TypeId × Value → H) (F : Stop.Interp) :
    ReturnsInHanded {} Tryz.checked os 7 .any ((OpenSpec.ofChange Rows.scriptAgainSpec).preRow enc Tryz.prog Tryz.f7 Rows.scriptAgainRow.domain false Rows.scriptAgainRow.laid) (((OpenSpec.ofChange Rows.scriptAgainSpec).at F).post enc Tryz.prog Tryz.f7 false true false false) := by
  obtain ⟨places, hx⟩ := reads os enc
  refine returnsInHanded_of_row (C := Tryz.checked) (s := OpenSpec.ofChange Rows.scriptAgainSpec) LW.own started (by kernel_rfl) Tryz.func7
    (witness_row_atRef (enc := enc) (C := Tryz.checked) false (LW.laidWorld os #[]) #[.string ByteArray.empty] rfl (by kernel_rfl) (by kernel_rfl) (by kernel_rfl)
      (OpenSpec.preRow_of_cond 8 hx (by kernel_rfl) (fun k hk => by cases hk) (by kernel_rfl) (LW.laid_met os _))) ?_
  intro W base args ds gs before hval0 hW _ _ hwt hL _ _
  have hval : ∀ (j : Nat) t v, Tryz.f7.params[j]? = some t → args[j]? = some v → Value.okWide Tryz.prog W .any base t v := hval0
  have hW' := hW
  obtain ⟨p, q, hA0, hV, rfl, hfz, hnd⟩ := hW
  have hA : DataW.TrodAll enc Tryz.prog W 0 (fun _ => true) true Tryz.f7.params.toList args.toList ds p := hA0
  rw [Tryz.params7] at hA hval
  obtain ⟨v0, vs0, d0, ds0, p0, q0, hargs0, rfl, rfl, h0, r0⟩ := trodAll_cons hA
  obtain ⟨rfl, rfl, rfl⟩ := trodAll_nil r0
  obtain rfl : args = #[v0] := by cases args; simp_all
  obtain ⟨rfl, rfl⟩ := trodVars_none hV
  obtain ⟨a, rfl, rfl, rfl, _⟩ := ChangeMaps.open_string Tryz.underlying9 (hval 0 9 v0 rfl rfl) h0
  have hw2 : (([a.data.toList.length] ++ []).all fun x => decide (x ≤ reachBytes)) = true := hwt
  simp only [List.all_append, List.all_cons, List.all_nil, Bool.and_true, decide_eq_true_eq] at hw2
  obtain ⟨a0, a1, a3, L⟩ := LW.laid_of hL
  clear hA0 hval0
  refine (walk a (by rw [size_list]; exact hw2) W L).mono fun e W' ⟨he, hg⟩ => ?_
  subst he
  exact ⟨_, rfl, law_post laidOut Tryz.underlying4 (by kernel_rfl) rfl (by kernel_rfl) hW' rfl hg⟩

theorem said : Rows.ScriptAgainSaid :=
  OpenClaim.holds_of_cond 7 Tryz.f7 rfl rfl rfl rfl rfl rfl rfl ⟨rfl, rfl, rfl, rfl, rfl⟩ rfl rfl rfl rfl rfl (by kernel_rfl) Tryz.func7 (by kernel_rfl)
    (of_decide_eq_true (by kernel_rfl)) (by unfold Func.isWrapper; first | (rw [if_pos (by decide +kernel)]; kernel_rfl) | (rw [if_neg (by decide +kernel)]; exact ⟨rfl, rfl⟩))
    (fun os started H enc _ F => by rw [OpenClaim.pre_eq_preRow]; exact lifted os started H enc F)

theorem plain (f : FuncId) (fn : Func) (hf : Tryz.pinned.checked.prog.funcNamed "muniment/munimentlaw22.ScriptAgain" = some f) (hfn : Tryz.pinned.checked.prog.funcs[f]? = some fn) :
    true = Tryz.pinned.checked.prog.looks [] ∧ ∀ (j : Nat) t, fn.params[j]? = some t → Tryz.pinned.checked.prog.wantsStandIn t = false := by
  obtain rfl : f = 7 := Option.some.inj ((show Tryz.prog.funcNamed "muniment/munimentlaw22.ScriptAgain" = some 7 by kernel_rfl).symm.trans hf) |>.symm
  obtain rfl : fn = Tryz.f7 := (Option.some.inj (Tryz.func7.symm.trans hfn)).symm
  refine ⟨by kernel_rfl, fun j t ht => ?_⟩
  rw [Tryz.params7] at ht
  obtain rfl : t = 9 := by
    have := Array.mem_of_getElem? ht
    simpa using this
  exact (show Tryz.prog.wantsStandIn 9 = false by kernel_rfl)

theorem proved : Rows.ScriptAgainCardSaid :=
  Claim7.holds_tied_plain_at .later [] _ _ _ _ said (fun _ h => by cases h) (by kernel_rfl) (fun _ h => by cases h) scriptAgain_row_tie rfl ⟨rfl, rfl⟩ (by kernel_rfl) rfl plain (by kernel_rfl)
#print axioms proved
end Go.Proofs.YtlibjfmafpiopaaGreatDoor.scriptAgain

