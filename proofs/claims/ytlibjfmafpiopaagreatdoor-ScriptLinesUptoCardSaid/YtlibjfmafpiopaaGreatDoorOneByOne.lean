/- Proved: munimentlaw22.ScriptLines returns true for all commands of bulk at most 1048576, and leaves its argument as it was. Conditions: those of the given second row (the bound; what the listed package variables hold when the call begins; the card ties that to the program's text). -/
import Derived.Test.YtlibjfmafpiopaaGreatDoorOpen
namespace Go.Proofs.YtlibjfmafpiopaaGreatDoor.scriptLines
open Go.RowKit Go.Shelf Scr Go.ChangeShapes Go.WideShapes Go.ChangeAt

/-- One command's print, when it is well. -/
theorem one_ok {c : Cmd} {s : Bs} (hb : ∀ x ∈ c.bytes, 0 ≤ x ∧ x ≤ 255) (h : printR [c] = (s, 0)) : lineR c = .ok s ∧ s.length ≤ 65536 ∧ (split 10 s).length = 2 ∧ ∃ l, s = l ++ [10] := by
  rw [print_one] at h
  cases hl : lineR c with
  | error e =>
    rw [hl] at h
    cases h
    rcases lineR_err hl with h | h <;> cases h
  | ok t =>
    rw [hl] at h
    change (if 65536 < t.length then (([], 220) : Bs × Int) else (t, 0)) = (s, 0) at h
    by_cases ht : 65536 < t.length
    · rw [if_pos ht] at h
      cases h
    · rw [if_neg ht] at h
      cases h
      obtain ⟨l, rfl, l1, _⟩ := says_line hb hl
      refine ⟨rfl, by omega, ?_, l, rfl⟩
      rw [split_free 10 l [10] l1, split_hit]
      simp [split, glue]

theorem take_one {L : List Cmd} {k : Nat} {c : Cmd} (h : L[k]? = some c) : L.take (k + 1) = L.take k ++ [c] ∧ L = L.take k ++ c :: L.drop (k + 1) := by
  have hk : k < L.length := (List.getElem?_eq_some_iff.1 h).1
  have e : L[k] = c := (List.getElem?_eq_some_iff.1 h).2
  refine ⟨by rw [List.take_succ_eq_append_getElem hk, e], ?_⟩
  have := List.take_append_drop k L
  rw [List.drop_eq_getElem_cons hk, e] at this
  exact this.symm

set_option maxRecDepth 100000 in
set_option maxHeartbeats 4000000 in
theorem walk {a0 a1 a3 : Addr} (A : Option Addr) (cap : Nat) (L : List Cmd) (w : World) (h : CmdsR w A L) (hbb : ∀ c ∈ L, ∀ x ∈ c.bytes, 0 ≤ x ∧ x ≤ 255) (hcap : L.length ≤ cap) (Lw : Laid a0 a1 a3 w) :
    Calls Tryz.prog 10 #[.slice A L.length cap] w fun e w' => e = .returned (.bool true) ∧ Below w.heap.size w w' := by
  have HSH := Lib.hid (shown11_call w Lw)
  have HC := Lib.hid h
  have HL := Lib.hid Lw
  have HBB := Lib.hid hbb
  have hlen := h.len
  clear h Lw hbb
  go_enter Tryz.func10, Tryz.ntmps10
  go_wp2_with fail
  refine HSH.out.mono ?_
  rintro e w1 ⟨rfl, hb1⟩
  have HB1 := Lib.hid hb1
  clear hb1
  go_wp2_with fail
  go_loopw [4, 5, 6] (fun sv fv i wq => ∃ (k : Nat) (out : ByteArray) (first : Int), sv = .string out ∧ fv = .int .i64 first ∧ i = .int .i64 k ∧ k ≤ L.length ∧ k ≤ 3000 ∧ out.size ≤ k * 65536 ∧ Below w.heap.size w wq ∧
      Hid ((first = 0 ∧ linesP (L.take k) = .ok out.data.toList) ∨ (first ≠ 0 ∧ ∃ A c B e, L = A ++ c :: B ∧ printR [c] = ([], e) ∧ e ≠ 0)))
    (fun _ _ i _ => L.length - (intOf i).toNat)
  case atStart => exact ⟨0, ⟨#[]⟩, 0, rfl, rfl, rfl, Nat.zero_le _, Nat.zero_le _, Nat.zero_le _, HB1.out, Lib.hid (.inl ⟨rfl, rfl⟩)⟩
  case round =>
    rename World => wk
    obtain ⟨k, out, first, rfl, rfl, rfl, hk, hk3, hos, hbk, hinv⟩ := hrel
    by_cases hlt : k < L.length
    · have k0 : (0 : Int) ≤ (k : Int) := Int.natCast_nonneg _
      have k1 : (k : Int) < (L.length : Int) := by omega
      by_cases hk30 : k < 3000
      · have k2 : (k : Int) < 3000 := by omega
        obtain ⟨c, hc⟩ : ∃ c, L[k]? = some c := ⟨_, List.getElem?_eq_getElem hlt⟩
        have hmem := List.mem_of_getElem? hc
        obtain ⟨b, off, rfl, hbl, hcs⟩ := HC.out.at_ (by omega)
        have hat := (hcs k c hc).below (hbk.mono (Nat.le_refl _)) hbl
        have hone : CmdsR wk (some ⟨b, off + k * 6, none⟩) [c] := ⟨fun _ => ⟨b, off + k * 6, rfl, Nat.lt_of_lt_of_le hbl hbk.size, fun j d hj => by
          have hj0 : j < 1 := (List.getElem?_eq_some_iff.1 hj).1
          obtain rfl : j = 0 := by omega
          cases hj
          rw [Nat.zero_mul, Nat.add_zero]
          exact hat⟩, fun d hd => by
          obtain rfl := List.mem_singleton.1 hd
          exact HC.out.bd _ hmem, by simp⟩
        have HPR := Lib.hid (print15_call (some ⟨b, off + k * 6, none⟩) (cap - k) [c] wk hone (HL.out.below hbk))
        have HTK := Lib.hid (take_one hc)
        have HBC := Lib.hid (HBB.out c hmem)
        obtain ⟨s, e, hpe⟩ : ∃ s e, printR [c] = (s, e) := ⟨_, _, rfl⟩
        rw [hpe] at HPR
        simp only [List.length_cons, List.length_nil] at HPR
        have HPE := Lib.hid hpe
        obtain ⟨ts, hts⟩ : ∃ t : ByteArray, (⟨s.toArray⟩ : ByteArray) = t := ⟨_, rfl⟩
        have htd : ts.data.toList = s := by rw [← hts]
        rw [hts] at HPR
        have HTD := Lib.hid htd
        have HBK := Lib.hid hbk
        have kc1 : (k : Int) + 1 ≤ (cap : Int) := by omega
        have kc2 : k + 1 ≤ cap := by omega
        have kc3 : k ≤ cap := by omega
        clear hc hmem hcs hat hone hpe hts htd hbk
        go_wp2_with fail
        refine HPR.out.mono ?_
        rintro e5 w5 ⟨rfl, hb5⟩
        have HB5 := Lib.hid (HBK.out.trans (hb5.mono HBK.out.size))
        clear hb5
        have hos2 : out.size ≤ (k + 1) * 65536 := Nat.le_trans hos (Nat.mul_le_mul_right _ (Nat.le_succ k))
        have HOS2 := Lib.hid hos2
        clear hos2
        by_cases hee : e ≠ 0
        · have t1 : (e != 0) = true := by rw [bne_iff_ne]; exact hee
          have hs0 : s = [] := (printR_err HPE.out hee).1
          have HEE := Lib.hid hee
          have HBAD : Hid (∃ A c B e, L = A ++ c :: B ∧ printR [c] = ([], e) ∧ e ≠ 0) := ⟨_, c, _, e, HTK.out.2, by rw [HPE.out, hs0], hee⟩
          by_cases hf : first = 0
          · subst hf
            clear hee hs0
            go_wp2_with fail
            refine ⟨⟨k + 1, out, e, rfl, rfl, by go_num, by omega, by omega, HOS2.out, HB5.out, Lib.hid (.inr ⟨HEE.out, HBAD.out⟩)⟩, by simp [intOf]; omega⟩
          · have t2 : (first == 0) = false := by rw [beq_eq_false_iff_ne]; exact hf
            have HF := Lib.hid hf
            clear hee hs0 hf
            go_wp2_with fail
            refine ⟨⟨k + 1, out, first, rfl, rfl, by go_num, by omega, by omega, HOS2.out, HB5.out, Lib.hid (.inr ⟨HF.out, HBAD.out⟩)⟩, by simp [intOf]; omega⟩
        · obtain rfl : e = 0 := Decidable.not_not.1 hee
          obtain ⟨o1, o2, o3, l, o4⟩ := one_ok HBC.out HPE.out
          have hsz : ts.size = l.length + 1 := by rw [size_list, HTD.out, o4]; simp
          have hs2 : ts.size ≤ 65536 := by rw [size_list, HTD.out]; exact o2
          have HLN := Lib.hid (lines20_call ts w5 (by omega))
          rw [HTD.out, o3] at HLN
          obtain ⟨n, hn⟩ : ∃ n, l.length = n := ⟨_, rfl⟩
          rw [hn] at hsz
          have hlast : ∀ (h : n < ts.size), ((ts[n]'h).toNat : Int) = 10 := fun h => by
            have hl2 : n < ts.data.toList.length := by rw [← size_list]; exact h
            have e1 : ts.data.toList[n] = ts[n] := (get_list ts n h).symm
            rw [← e1]
            have e2 : ts.data.toList[n]? = some 10 := by
              rw [HTD.out, o4, List.getElem?_append_right (by omega), hn]
              simp
            rw [List.getElem?_eq_getElem hl2] at e2
            rw [Option.some.inj e2]
            rfl
          have HO1 := Lib.hid o1
          have hsum : ¬ 9223372036854775807 < out.size + ts.size := by omega
          have hoi : out.size + ts.size ≤ (k + 1) * 65536 := by rw [Nat.succ_mul]; omega
          have HOI := Lib.hid hoi
          clear hee o1 o2 o3 o4 hn hoi
          go_wp2_with fail
          refine HLN.out.mono ?_
          rintro e6 w6 ⟨rfl, rfl⟩
          go_wp2_with fail
          refine ⟨⟨k + 1, _, first, rfl, rfl, by go_num, by omega, by omega, by rw [ByteArray.size_append]; exact HOI.out, HB5.out, Lib.hid ?_⟩, by simp [intOf]; omega⟩
          rcases hinv.out with ⟨h1, h2⟩ | h1
          · refine .inl ⟨h1, ?_⟩
            rw [HTK.out.1, linesP_snoc, h2, HO1.out, ByteArray.data_append, Array.toList_append, HTD.out]
            rfl
          · exact .inr h1
      · obtain rfl : k = 3000 := by omega
        have k2 : ¬ (3000 : Int) < 3000 := by omega
        have k3 : (3000 : Int) < (L.length : Int) := by omega
        have HBK := Lib.hid hbk
        clear hbk hinv
        go_wp2_with fail
        go_ret
        exact ⟨rfl, HBK.out⟩
    · obtain rfl : k = L.length := by omega
      have HBK := Lib.hid hbk
      have k3 : ¬ (3000 : Int) < (L.length : Int) := by omega
      have HPR := Lib.hid (print15_call A cap L wk (HC.out.below hbk) (HL.out.below hbk))
      have HIN := Lib.hid hinv.out
      clear hbk hinv
      obtain ⟨sL, eL, hpe⟩ : ∃ s e, printR L = (s, e) := ⟨_, _, rfl⟩
      have HPE := Lib.hid hpe
      rw [hpe] at HPR
      simp only at HPR
      clear hpe
      by_cases hf : first = 0
      · subst hf
        have hok : linesP L = .ok out.data.toList := by
          rcases HIN.out with h | h
          · have := h.2
            rwa [List.take_length] at this
          · exact absurd rfl h.1
        have hpl : printR L = if 65536 < out.size then ([], 220) else (out.data.toList, 0) := by
          unfold printR
          rw [hok]
          show (if 65536 < out.data.toList.length ∨ 4096 < L.length + 1 then (([], 220) : Bs × Int) else (out.data.toList, 0)) = _
          rw [← size_list]
          by_cases h6 : 65536 < out.size
          · rw [if_pos h6, if_pos (.inl h6)]
          · rw [if_neg h6, if_neg (by omega)]
        by_cases h6 : 65536 < out.size
        · have k6 : (65536 : Int) < (out.size : Int) := by omega
          rw [if_pos h6, HPE.out] at hpl
          cases hpl
          clear h6 hok
          go_wp2_with fail
          refine HPR.out.mono ?_
          rintro e6 w6 ⟨rfl, hb6⟩
          have HB6 := Lib.hid (HBK.out.trans (hb6.mono HBK.out.size))
          clear hb6
          go_wp2_with fail
          go_ret
          exact ⟨rfl, HB6.out⟩
        · have k6 : ¬ (65536 : Int) < (out.size : Int) := by omega
          rw [if_neg h6, HPE.out] at hpl
          cases hpl
          rw [ba_eta] at HPR
          have t3 : (out == out) = true := by have := bs_ne out; unfold bne at this; simpa using this
          clear h6 hok
          go_wp2_with fail
          refine HPR.out.mono ?_
          rintro e6 w6 ⟨rfl, hb6⟩
          have HB6 := Lib.hid (HBK.out.trans (hb6.mono HBK.out.size))
          clear hb6
          go_wp2_with fail
          go_ret
          exact ⟨rfl, HB6.out⟩
      · have t2 : (first != 0) = true := by rw [bne_iff_ne]; exact hf
        have hbad : sL = [] ∧ eL ≠ 0 := by
          rcases HIN.out with h | ⟨_, A', c, B', e, rfl, h1, h2⟩
          · exact absurd h.1 hf
          · obtain ⟨e2, q1, q2⟩ := print_bad (A := A') (B := B') h1 h2
            rw [HPE.out] at q1
            cases q1
            exact ⟨rfl, q2⟩
        have t4 : (eL != 0) = true := by rw [bne_iff_ne]; exact hbad.2
        obtain rfl := hbad.1
        clear hbad hf
        go_wp2_with fail
        refine HPR.out.mono ?_
        rintro e6 w6 ⟨rfl, hb6⟩
        have HB6 := Lib.hid (HBK.out.trans (hb6.mono HBK.out.size))
        clear hb6
        go_wp2_with fail
        go_ret
        exact ⟨rfl, HB6.out⟩

theorem laidOut : laidOutB Tryz.prog = true := by kernel_rfl

theorem reads (os : Os) {H : Type} (enc : TypeId × Value → H) : ∃ places, DataW.whole enc Tryz.prog ((LW.laidWorld os #[]).forCall (fun _ _ => 0) ⟨#[], #[.slice none 0 0], []⟩).memory Tryz.f10.params.toList Rows.scriptLinesSpec.vars false #[Value.slice none 0 0].toList 8 = some ([.nil], [], places) :=
  ⟨[], by kernel_rfl⟩

set_option maxRecDepth 100000 in
theorem lifted (os : Os) (started : os.Started) (H : Type) (enc : TypeId × Value → H) (F : Stop.Interp) :
    ReturnsInHanded {} Tryz.checked os 10 .any ((Rows.OpenSpec.upto Rows.scriptLinesSpec).preRow enc Tryz.prog Tryz.f10 Rows.scriptLinesUptoRow.domain false Rows.scriptLinesUptoRow.laid) (((Rows.OpenSpec.upto Rows.scriptLinesSpec).at F).post enc Tryz.prog Tryz.f10 false true false false) := by
  obtain ⟨places, hx⟩ := reads os enc
  refine returnsInHanded_of_row (C := Tryz.checked) (s := Rows.OpenSpec.upto Rows.scriptLinesSpec) LW.own started (by kernel_rfl) Tryz.func10
    (witness_row_atRef (enc := enc) (C := Tryz.checked) false (LW.laidWorld os #[]) #[.slice none 0 0] rfl (by kernel_rfl) (by kernel_rfl) (by kernel_rfl)
      (OpenSpec.preRow_of_cond 8 hx (by kernel_rfl) (fun k hk => by cases hk; kernel_rfl) (by kernel_rfl) (LW.laid_met os _))) ?_
  intro W base args ds gs before hval0 hW _ hcond _ hL _ _
  have hval : ∀ (j : Nat) t v, Tryz.f10.params[j]? = some t → args[j]? = some v → Value.okWide Tryz.prog W .any base t v := hval0
  have hW' := hW
  obtain ⟨p, q, hA0, hV, rfl, hfz, hnd⟩ := hW
  have hA : DataW.TrodAll enc Tryz.prog W 0 (fun _ => true) true Tryz.f10.params.toList args.toList ds p := hA0
  rw [Tryz.params10] at hA hval
  obtain ⟨v0, vs0, d0, ds0, p0, q0, hargs0, rfl, rfl, h0, r0⟩ := trodAll_cons hA
  obtain ⟨rfl, rfl, rfl⟩ := trodAll_nil r0
  obtain rfl : args = #[v0] := by cases args; simp_all
  obtain ⟨rfl, rfl⟩ := trodVars_none hV
  have hk : Rows.uptoBulkAll ([d0] ++ []) ≤ 1048576 := of_decide_eq_true (hcond _ rfl)
  have hk2 : Rows.uptoBulk d0 ≤ 1048576 := by
    have e : Rows.uptoBulkAll ([d0] ++ []) = Rows.uptoBulk d0 := by simp [Rows.uptoBulkAll]
    rwa [e] at hk
  obtain ⟨A, cap, L, rfl, hc, hbb, hcap⟩ := open_cmds (hval 0 23 v0 rfl rfl) h0 hk2
  obtain ⟨a0, a1, a3, LL⟩ := LW.laid_of hL
  clear hA0 hval0
  refine (walk A cap L W hc hbb hcap LL).mono fun e W' ⟨he, hg⟩ => ?_
  subst he
  exact ⟨_, rfl, law_post laidOut Tryz.underlying4 (by kernel_rfl) rfl (by kernel_rfl) hW' rfl hg⟩

theorem said : Rows.ScriptLinesUptoSaid :=
  OpenClaim.holds_of_cond 10 Tryz.f10 rfl rfl rfl rfl rfl rfl rfl ⟨rfl, rfl, rfl, rfl, rfl⟩ rfl rfl rfl rfl rfl (by kernel_rfl) Tryz.func10 (by kernel_rfl)
    (of_decide_eq_true (by kernel_rfl)) (by unfold Func.isWrapper; first | (rw [if_pos (by decide +kernel)]; kernel_rfl) | (rw [if_neg (by decide +kernel)]; exact ⟨rfl, rfl⟩))
    (fun os started H enc _ F => by rw [OpenClaim.pre_eq_preRow]; exact lifted os started H enc F)

theorem plain (f : FuncId) (fn : Func) (hf : Tryz.pinned.checked.prog.funcNamed "muniment/munimentlaw22.ScriptLines" = some f) (hfn : Tryz.pinned.checked.prog.funcs[f]? = some fn) :
    true = Tryz.pinned.checked.prog.looks [] ∧ ∀ (j : Nat) t, fn.params[j]? = some t → Tryz.pinned.checked.prog.wantsStandIn t = false := by
  obtain rfl : f = 10 := Option.some.inj ((show Tryz.prog.funcNamed "muniment/munimentlaw22.ScriptLines" = some 10 by kernel_rfl).symm.trans hf) |>.symm
  obtain rfl : fn = Tryz.f10 := (Option.some.inj (Tryz.func10.symm.trans hfn)).symm
  refine ⟨by kernel_rfl, fun j t ht => ?_⟩
  rw [Tryz.params10] at ht
  obtain rfl : t = 23 := by
    have := Array.mem_of_getElem? ht
    simpa using this
  exact (show Tryz.prog.wantsStandIn 23 = false by kernel_rfl)

theorem proved : Rows.ScriptLinesUptoCardSaid :=
  Claim7.holds_tied_plain_at .later [] _ _ _ _ said (fun _ h => by cases h) (by kernel_rfl) (fun _ h => by cases h) scriptLinesUpto_row_tie rfl ⟨rfl, rfl⟩ (by kernel_rfl) rfl plain (by kernel_rfl)
#print axioms proved
end Go.Proofs.YtlibjfmafpiopaaGreatDoor.scriptLines

