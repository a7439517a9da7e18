/- Proved: munimentlaw22.ScriptJoined returns true for all texts, and leaves its arguments as they were. Conditions: none beyond the given row's own (what the listed package variables hold when the call begins; the card ties that to the program's text). -/
import Derived.Test.YtlibjfmafpiopaaGreatDoorLines
import Derived.ChangeMaps5
namespace Go.Proofs.YtlibjfmafpiopaaGreatDoor.scriptJoined
open Go.RowKit Go.Shelf Scr Go.ChangeShapes Go.WideShapes Go.ChangeAt

set_option maxRecDepth 100000 in
set_option maxHeartbeats 4000000 in
theorem walk {a0 a1 a3 : Addr} (a b : ByteArray) (ha : a.size ≤ 140737488351232) (hb : b.size ≤ 140737488351232) (w : World) (Lw : Laid a0 a1 a3 w) :
    Calls Tryz.prog 9 #[.string a, .string b] w fun e w' => e = .returned (.bool true) ∧ Below w.heap.size w w' := by
  obtain ⟨i33, hi33, hz33, hs33, hb33⟩ := info_parts info33
  have HL := Lib.hid Lw
  have HSH := Lib.hid (shown11_call w Lw)
  obtain ⟨l, x, e1, hpa⟩ : ∃ l x e, parseR a.data.toList = (l, x, e) := ⟨_, _, _, rfl⟩
  obtain ⟨m, y, e2, hpb⟩ : ∃ l x e, parseR b.data.toList = (l, x, e) := ⟨_, _, _, rfl⟩
  have HP1 := Lib.hid (fun W (hb : Below w.heap.size w W) => parse12_call a W ha (HL.out.below hb))
  have HP2 := Lib.hid (fun W (hbw : Below w.heap.size w W) => parse12_call b W hb (HL.out.below hbw))
  rw [hpa] at HP1
  rw [hpb] at HP2
  unfold ParsePost at HP1 HP2
  dsimp only at HP1 HP2
  have HPA := Lib.hid hpa
  have HPB := Lib.hid hpb
  clear Lw hpa hpb
  go_enter Tryz.func9, Tryz.ntmps9
  go_wp2_with fail
  refine HSH.out.mono ?_
  rintro e w1 ⟨rfl, hb1⟩
  have HB1 := Lib.hid hb1
  clear hb1
  go_wp2_with fail
  refine (HP1.out _ HB1.out).mono ?_
  rintro e w2 ⟨hb2, A1, k1, c1, rfl, ho1, hc1⟩
  have HB12 := Lib.hid hb2.size
  have HB2 := Lib.hid (HB1.out.trans (hb2.mono HB1.out.size))
  have HO1 := Lib.hid ho1
  have HC1 := Lib.hid hc1
  clear hb2 ho1 hc1
  go_wp2_with fail
  refine (HP2.out _ HB2.out).mono ?_
  rintro e w3 ⟨hb3, A2, k2, c2, rfl, ho2, hc2⟩
  have HB23 := Lib.hid hb3
  have HB3 := Lib.hid (HB2.out.trans (hb3.mono HB2.out.size))
  have HO2 := Lib.hid ho2
  have HC2 := Lib.hid hc2
  clear hb3 ho2 hc2
  by_cases z1 : e1 ≠ 0
  · have q1 : (e1 != 0) = true := by rw [bne_iff_ne]; exact z1
    clear z1
    go_wp2_with fail
    go_ret
    exact ⟨rfl, HB3.out⟩
  obtain rfl : e1 = 0 := Decidable.not_not.1 z1
  by_cases z2 : e2 ≠ 0
  · have q2 : (e2 != 0) = true := by rw [bne_iff_ne]; exact z2
    clear z1 z2
    go_wp2_with fail
    go_ret
    exact ⟨rfl, HB3.out⟩
  obtain rfl : e2 = 0 := Decidable.not_not.1 z2
  have sa : a.size ≤ 65536 := by rw [size_list]; exact parse_small HPA.out
  have sb : b.size ≤ 65536 := by rw [size_list]; exact parse_small HPB.out
  have hs10 : (⟨#[10]⟩ : ByteArray).size = 1 := rfl
  have hss : (a ++ ⟨#[10]⟩).size = a.size + 1 := by rw [ByteArray.size_append]; rfl
  have HSS : Hid ((a ++ ⟨#[10]⟩ ++ b).size = a.size + 1 + b.size) := by show _ = _; rw [ByteArray.size_append, hss]
  have HTT : Hid ((a ++ ⟨#[10]⟩ ++ b).data.toList = a.data.toList ++ 10 :: b.data.toList) := by
    show _ = _
    rw [ByteArray.data_append, ByteArray.data_append, Array.toList_append, Array.toList_append]
    simp
  clear z1 z2 ha hb
  go_upto_region 9 with fail
  clear hss hs10
  obtain ⟨T, hT⟩ : ∃ T, a ++ ⟨#[10]⟩ ++ b = T := ⟨_, rfl⟩
  rw [hT] at HSS HTT ⊢
  clear hT
  have hts : T.size ≤ 131073 := by rw [HSS.out]; omega
  have hpj := parse_joined HPA.out HPB.out
  rw [← HTT.out] at hpj
  obtain ⟨r, hr⟩ : ∃ r, parseR T.data.toList = r := ⟨_, rfl⟩
  have HP3 := Lib.hid (parse12_call T w3 (by omega) (HL.out.below HB3.out))
  rw [hr] at HP3 hpj
  have HPJ := Lib.hid hpj
  have HLN := Lib.hid (fun W => lines20_call T W (by omega))
  obtain ⟨nl, hnl⟩ : ∃ nl, (split 10 T.data.toList).length = nl := ⟨_, rfl⟩
  rw [hnl] at HLN
  have HNL := Lib.hid hnl
  clear hr hpj hnl sa sb
  go_wp2_with fail
  refine HP3.out.mono ?_
  rintro e w4 ⟨hb4, A3, k3, c3, rfl, ho3, hc3⟩
  have HB34 := Lib.hid hb4
  have HB4 := Lib.hid (HB3.out.trans (hb4.mono HB3.out.size))
  have HO3 := Lib.hid ho3
  have HC3 := Lib.hid hc3
  clear hb4 ho3 hc3
  by_cases m1 : 65536 < T.size
  · have t1 : (65536 : Int) < (T.size : Int) := by omega
    have hr : r = ([], 0, 220) := by rw [HPJ.out]; exact if_pos (.inl (by rw [← size_list]; exact m1))
    subst hr
    clear m1
    go_wp2_with fail
    go_ret
    exact ⟨rfl, HB4.out⟩
  · have t1 : ¬ (65536 : Int) < (T.size : Int) := by omega
    by_cases m2 : 4096 < nl
    · have t2 : (4096 : Int) < (nl : Int) := by omega
      have hr : r = ([], 0, 220) := by rw [HPJ.out]; exact if_pos (.inr (by rw [HNL.out]; exact m2))
      subst hr
      clear m1 m2
      go_wp2_with fail
      refine (HLN.out _).mono ?_
      rintro e w5 ⟨rfl, rfl⟩
      go_wp2_with fail
      go_ret
      exact ⟨rfl, HB4.out⟩
    · have t2 : ¬ (4096 : Int) < (nl : Int) := by omega
      have hr : r = (l ++ m, 0, 0) := by rw [HPJ.out]; exact if_neg (by rintro (h | h); exact m1 (by rw [size_list]; exact h); exact m2 (by rw [← HNL.out]; exact h))
      subst hr
      clear m1 m2
      go_wp2_with fail
      refine (HLN.out _).mono ?_
      rintro e w5 ⟨rfl, rfl⟩
      obtain ⟨nb, hbd⟩ := parse_cmdB HPA.out
      obtain ⟨nm, hmd⟩ := parse_cmdB HPB.out
      have HLEN : Hid (0 + l.length + m.length = (l ++ m).length) := by show _ = _; rw [List.length_append]; omega
      have hz4 := HB4.out.size
      have hba : Below w4.heap.size w4 (w4.alloc (.cells #[] 33)) := (Below.refl _ _).alloc (Nat.le_refl _) _
      have ho0 : (w4.alloc (.cells #[] 33)).ownsRow w4.heap.size 33 6 (.slice (some ⟨w4.heap.size, 0, none⟩) 0 0) 0 [] := World.ownsRow_made w4 #[] 0 (Nat.le_refl _) (by decide) rfl
      have hb24 : Below w2.heap.size w2 w4 := HB23.out.trans (HB34.out.mono HB23.out.size)
      have hsz3 : w3.heap.size ≤ w4.heap.size := HB34.out.size
      have hsz2 : w2.heap.size ≤ w3.heap.size := HB23.out.size
      have hsz1 : w1.heap.size ≤ w2.heap.size := HB12.out
      have s1 : Src (w4.alloc (.cells #[] 33)) 6 A1 l.length c1 := own_src (own_keep HO1.out fun b _ hl => (hb24.trans (hba.mono (by omega))).block b hl)
      have HS2 := Lib.hid (fun (W : World) (hb : Below w4.heap.size w4 W) => own_src (own_keep HO2.out fun b _ hl => (HB34.out.trans (hb.mono hsz3)).block b hl))
      have one1 := cmds_one HC1.out
      have one2 := cmds_one HC2.out
      have HCA := Lib.hid (fun (W : World) (hb : Below w4.heap.size w4 W) => (cmds_lo (HC2.out.weak.keepB (HB34.out.trans (hb.mono hsz3))) hsz1).app (HC1.out.weak.keepB (hb24.trans (hb.mono (by omega)))))
      have hq1 : 0 + l.length ≤ maxLen := by unfold maxLen; omega
      have hq2 : (0 + l.length) * 96 ≤ 140737488355328 := by omega
      have hq3 : w4.heap.size ≤ (w4.alloc (.cells #[] 33)).heap.size := hba.size
      have hq4 : 0 + l.length + m.length ≤ maxLen := by unfold maxLen; omega
      have hq5 : (0 + l.length + m.length) * 96 ≤ 140737488355328 := by omega
      obtain ⟨w4a, hw4a⟩ : ∃ W, w4.alloc (.cells #[] 33) = W := ⟨_, rfl⟩
      rw [hw4a] at hba ho0 s1 hq3
      have HBA := Lib.hid hba
      have HO0 := Lib.hid ho0
      have HS1 := Lib.hid s1
      have HON1 := Lib.hid one1
      have HON2 := Lib.hid one2
      have HBD := Lib.hid (And.intro hbd hmd)
      have hll : (l ++ m).length ≤ 1048576 := by rw [← HLEN.out]; omega
      have HLL := Lib.hid hll
      have hz14 : Hid (w1.heap.size ≤ w4.heap.size) := by show _ ≤ _; omega
      clear hba ho0 s1 one1 one2 hbd hmd hb24 hll hsz1 hsz2 hsz3 nb nm hz4
      go_wp2_with (first
        | (at_builtin; refine wpList_appG (by rfl) (.tmp 81) (.tmp 82) 23 rfl w4.heap.size 33 i33 _ 6 96 Tryz.underlying23 hi33 hz33 hs33 hb33 rfl (by decide) (.slice (some ⟨w4.heap.size, 0, none⟩) 0 0) 0 [] rfl HO0.out A1 l.length k1 c1 rfl HS1.out HON1.out hq1 hq2 hq3 ?_; intro v6 w6 hown6 hgrow6 hat6; have hb6 : Below w4.heap.size w4 w6 := Below.grown HBA.out hgrow6 hq3 (fun b e => own_blk HO0.out e); have HO6 := Lib.hid hown6; have HB6 := Lib.hid hb6; have hq6 : w4.heap.size ≤ w6.heap.size := hb6.size; clear hown6 hgrow6 hat6 hb6)
        | (at_builtin; refine wpList_appG (by rfl) (.tmp 83) (.tmp 84) 23 rfl w4.heap.size 33 i33 _ 6 96 Tryz.underlying23 hi33 hz33 hs33 hb33 rfl (by decide) v6 (0 + l.length) ([] ++ c1) rfl HO6.out A2 m.length k2 c2 rfl (HS2.out _ HB6.out) HON2.out hq4 hq5 hq6 ?_; intro v7 w7 hown7 hgrow7 hat7; have hb7 : Below w4.heap.size w4 w7 := Below.grown HB6.out hgrow7 hq6 (fun b e => own_blk HO6.out e); have HB7 := Lib.hid hb7; obtain ⟨A7, k7, e7⟩ := own_form hown7; rw [HLEN.out] at e7 hown7; subst e7; have HO7 := Lib.hid hown7; clear hown7 hgrow7 hat7 hb7))
      have hbb : ∀ c ∈ l ++ m, (∀ x ∈ c.bytes, 0 ≤ x ∧ x ≤ 255) ∧ CmdB c := fun c hc => (List.mem_append.1 hc).elim (HBD.out.1 c) (HBD.out.2 c)
      have hr1 : CmdsR w7 A3 (l ++ m) := (own_cmdsR HO3.out HC3.out HLL.out hbb).below HB7.out
      have hr2 : CmdsR w7 A7 (l ++ m) := own_cmdsR (own_base HO7.out hz14.out) (HCA.out w7 HB7.out) HLL.out hbb
      have HSM := same_call A3 A7 k3 k7 (l ++ m) w7 hr1 hr2
      rw [List.length_append] at HSM
      have HSM2 := Lib.hid HSM
      clear hbb hr1 hr2 HSM
      refine HSM2.out.mono ?_
      rintro e w8 ⟨rfl, hb8⟩
      have HB8 := Lib.hid (HB4.out.trans ((HB7.out.trans (hb8.mono HB7.out.size)).mono HB4.out.size))
      clear hb8
      go_wp2_with fail
      go_ret
      exact ⟨rfl, HB8.out⟩

theorem laidOut : laidOutB Tryz.prog = true := by kernel_rfl

theorem reads (os : Os) {H : Type} (enc : TypeId × Value → H) : ∃ places, DataW.whole enc Tryz.prog ((LW.laidWorld os #[]).forCall (fun _ _ => 0) ⟨#[], #[.string ByteArray.empty, .string ByteArray.empty], []⟩).memory Tryz.f9.params.toList Rows.scriptJoinedSpec.vars false #[Value.string ByteArray.empty, Value.string ByteArray.empty].toList 8 = some ([.lit (.string []), .lit (.string [])], [], places) :=
  ⟨[], by kernel_rfl⟩

set_option maxRecDepth 100000 in
theorem lifted (os : Os) (started : os.Started) (H : Type) (enc : TypeId × Value → H) (F : Stop.Interp) :
    ReturnsInHanded {} Tryz.checked os 9 .any ((OpenSpec.ofChange Rows.scriptJoinedSpec).preRow enc Tryz.prog Tryz.f9 Rows.scriptJoinedRow.domain false Rows.scriptJoinedRow.laid) (((OpenSpec.ofChange Rows.scriptJoinedSpec).at F).post enc Tryz.prog Tryz.f9 false true false false) := by
  obtain ⟨places, hx⟩ := reads os enc
  refine returnsInHanded_of_row (C := Tryz.checked) (s := OpenSpec.ofChange Rows.scriptJoinedSpec) LW.own started (by kernel_rfl) Tryz.func9
    (witness_row_atRef (enc := enc) (C := Tryz.checked) false (LW.laidWorld os #[]) #[.string ByteArray.empty, .string ByteArray.empty] rfl (by kernel_rfl) (by kernel_rfl) (by kernel_rfl)
      (OpenSpec.preRow_of_cond 8 hx (by kernel_rfl) (fun k hk => by cases hk) (by kernel_rfl) (LW.laid_met os _))) ?_
  intro W base args ds gs before hval0 hW _ _ hwt hL _ _
  have hval : ∀ (j : Nat) t v, Tryz.f9.params[j]? = some t → args[j]? = some v → Value.okWide Tryz.prog W .any base t v := hval0
  have hW' := hW
  obtain ⟨p, q, hA0, hV, rfl, hfz, hnd⟩ := hW
  have hA : DataW.TrodAll enc Tryz.prog W 0 (fun _ => true) true Tryz.f9.params.toList args.toList ds p := hA0
  rw [Tryz.params9] at hA hval
  obtain ⟨v0, vs0, d0, ds0, p0, q0, hargs, rfl, rfl, h0, r0⟩ := trodAll_cons hA
  obtain ⟨v1, vs1, d1, ds1, p1, q1, hargs1, rfl, rfl, h1, r1⟩ := trodAll_cons r0
  obtain ⟨rfl, rfl, rfl⟩ := trodAll_nil r1
  obtain rfl : args = #[v0, v1] := by cases args; simp_all
  obtain ⟨rfl, rfl⟩ := trodVars_none hV
  obtain ⟨a, rfl, rfl, rfl, _⟩ := ChangeMaps.open_string Tryz.underlying9 (hval 0 9 v0 rfl rfl) h0
  obtain ⟨b, rfl, rfl, rfl, _⟩ := ChangeMaps.open_string Tryz.underlying9 (hval 1 9 v1 rfl rfl) h1
  have hw2 : (([a.data.toList.length] ++ ([b.data.toList.length] ++ [])).all fun x => decide (x ≤ reachBytes)) = true := hwt
  simp only [List.all_append, List.all_cons, List.all_nil, Bool.and_true, Bool.and_eq_true, decide_eq_true_eq] at hw2
  obtain ⟨a0, a1, a3, L⟩ := LW.laid_of hL
  clear hA0 hval0
  refine (walk a b (by rw [size_list]; exact hw2.1) (by rw [size_list]; exact hw2.2) W L).mono fun e W' ⟨he, hg⟩ => ?_
  subst he
  exact ⟨_, rfl, law_post laidOut Tryz.underlying4 (by kernel_rfl) rfl (by kernel_rfl) hW' rfl hg⟩

theorem said : Rows.ScriptJoinedSaid :=
  OpenClaim.holds_of_cond 9 Tryz.f9 rfl rfl rfl rfl rfl rfl rfl ⟨rfl, rfl, rfl, rfl, rfl⟩ rfl rfl rfl rfl rfl (by kernel_rfl) Tryz.func9 (by kernel_rfl)
    (of_decide_eq_true (by kernel_rfl)) (by unfold Func.isWrapper; first | (rw [if_pos (by decide +kernel)]; kernel_rfl) | (rw [if_neg (by decide +kernel)]; exact ⟨rfl, rfl⟩))
    (fun os started H enc _ F => by rw [OpenClaim.pre_eq_preRow]; exact lifted os started H enc F)

theorem plain (f : FuncId) (fn : Func) (hf : Tryz.pinned.checked.prog.funcNamed "muniment/munimentlaw22.ScriptJoined" = some f) (hfn : Tryz.pinned.checked.prog.funcs[f]? = some fn) :
    true = Tryz.pinned.checked.prog.looks [] ∧ ∀ (j : Nat) t, fn.params[j]? = some t → Tryz.pinned.checked.prog.wantsStandIn t = false := by
  obtain rfl : f = 9 := Option.some.inj ((show Tryz.prog.funcNamed "muniment/munimentlaw22.ScriptJoined" = some 9 by kernel_rfl).symm.trans hf) |>.symm
  obtain rfl : fn = Tryz.f9 := (Option.some.inj (Tryz.func9.symm.trans hfn)).symm
  refine ⟨by kernel_rfl, fun j t ht => ?_⟩
  rw [Tryz.params9] at ht
  obtain rfl : t = 9 := by
    have := Array.mem_of_getElem? ht
    simpa using this
  exact (show Tryz.prog.wantsStandIn 9 = false by kernel_rfl)

theorem proved : Rows.ScriptJoinedCardSaid :=
  Claim7.holds_tied_plain_at .later [] _ _ _ _ said (fun _ h => by cases h) (by kernel_rfl) (fun _ h => by cases h) scriptJoined_row_tie rfl ⟨rfl, rfl⟩ (by kernel_rfl) rfl plain (by kernel_rfl)
#print axioms proved
end Go.Proofs.YtlibjfmafpiopaaGreatDoor.scriptJoined
