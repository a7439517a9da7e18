/- The program's number; one word of a line: the contracts. -/
import Derived.Test.YtlibjfmafpiopaaGreatDoorLeafB
import Derived.Test.YtlibjfmafpiopaaGreatDoorTold
import Derived.Test.YtlibjfmafpiopaaGreatDoorNum
import Derived.Test.YtlibjfmafpiopaaGreatDoorShelfB
import Derived.Lib.SmallJoins
import Derived.Lib.AppendIntMem
namespace Go.Proofs.YtlibjfmafpiopaaGreatDoor
open Go.RowKit Go.Shelf Scr

theorem itoa_call (n : Int) (h0 : -9223372036854775808 ≤ n) (h1 : n ≤ 9223372036854775807) (w : World) (htab : Lib.TabIs Tryz.prog w "internal/strconv.uint64pow10" .u64 Lib.pow10Tab) :
    Calls Tryz.prog 29 #[.int .i64 n] w fun e w' => e = .returned (.string ⟨(Lib.itoa n).toArray⟩) ∧ Below w.heap.size w w' :=
  (Tryz.strconv_Itoa n h0 h1 w htab).mono fun _e _w' ⟨he, k, os, hw⟩ => ⟨he, hw ▸ Lib.below_grow _ w (Nat.le_refl _) k os⟩

/-- What Atoi answers: a number, whether there is no error; a number that was written by Itoa is read. -/
theorem atoi_call {a0 a1 a3 : Addr} (s : ByteArray) (hs : s.size ≤ 281474976710656) (w : World) (L : Laid a0 a1 a3 w) :
    Calls Tryz.prog 99 #[.string s] w fun e w' => Below w.heap.size w w' ∧ ∃ (n : Int) (v : Value), e = .returned (.tuple #[.int .i64 n, v]) ∧ -9223372036854775808 ≤ n ∧ n ≤ 9223372036854775807 ∧
      ((v = .nilIface ∧ Lib.atoiAll s.data.toList = .ok n) ∨ (∃ p, v = .iface 188 (.pointer p)) ∧ ∀ m, Lib.atoiAll s.data.toList ≠ .ok m) := by
  rcases h : Lib.atoiAll s.data.toList with n | _ | _
  · obtain ⟨b0, b1⟩ := Lib.atoiAll_bounds h
    refine (Tryz.strconv_Atoi_ok s (by omega) n h w).mono ?_
    rintro e w' ⟨rfl, hw⟩
    refine ⟨?_, n, .nilIface, rfl, b0, b1, .inl ⟨rfl, rfl⟩⟩
    rcases hw with rfl | ⟨t, rfl⟩
    · exact Below.refl _ _
    · exact Joins.below_bytesWorld _ w _ _ (Nat.le_refl _)
  · obtain ⟨tp, p, hv⟩ := L.syn
    refine (Tryz.strconv_Atoi_other_var s hs (by rw [h]; exact fun e => by cases e) (by rw [h]; exact fun n e => by cases e) tp p w hv).mono ?_
    rintro e w' ⟨N, rfl, _, _, hb⟩
    exact ⟨hb, 0, _, rfl, by omega, by omega, .inr ⟨⟨_, rfl⟩, fun m e => by cases e⟩⟩
  · obtain ⟨tp, p, hv⟩ := L.rng
    obtain ⟨b0, b1⟩ := Lib.atoiSat_bounds s.data.toList
    refine (Tryz.strconv_Atoi_range_var s hs h tp p w hv).mono ?_
    rintro e w' ⟨N, rfl, _, _, hb⟩
    exact ⟨hb, _, _, rfl, b0, b1, .inr ⟨⟨_, rfl⟩, fun m e => by cases e⟩⟩

set_option maxRecDepth 100000 in
theorem number76_call {a0 a1 a3 : Addr} (s : ByteArray) (hs : s.size ≤ 281474976710656) (w : World) (L : Laid a0 a1 a3 w) :
    Calls Tryz.prog 76 #[.string s] w fun e w' => Below w.heap.size w w' ∧ ∃ (n : Int) (b : Bool), e = .returned (.tuple #[.int .i64 n, .bool b]) ∧ number s.data.toList = if b then some n else none := by
  have HA := Lib.hid (atoi_call s hs w L)
  have HL := Lib.hid L
  clear L
  go_enter Tryz.func76, Tryz.ntmps76
  go_wp2_with fail
  refine HA.out.mono ?_
  rintro e w1 ⟨hb1, n, v, rfl, n0, n1, hcase⟩
  rcases hcase with ⟨rfl, hok⟩ | ⟨⟨p, rfl⟩, hno⟩
  · have HOK := Lib.hid hok
    clear hok
    have L1 := HL.out.below hb1
    have HI := Lib.hid (itoa_call n n0 n1 w1 L1.tab)
    clear L1
    go_wp2_with fail
    refine HI.out.mono ?_
    rintro e w2 ⟨rfl, hb2⟩
    have hb := hb1.trans (hb2.mono hb1.size)
    have hne : ((⟨(Lib.itoa n).toArray⟩ : ByteArray).toList == s.toList) = decide (Lib.itoa n = s.data.toList) := by
      rw [toList_mk, ByteArray.toList_eq]
      exact Bool.eq_iff_iff.2 (by rw [beq_iff_eq, decide_eq_true_iff])
    obtain ⟨t, ht⟩ : ∃ t : ByteArray, (⟨(Lib.itoa n).toArray⟩ : ByteArray) = t := ⟨_, rfl⟩
    rw [ht] at hne ⊢
    clear ht
    by_cases hit : Lib.itoa n = s.data.toList
    · have hd : (t.toList == s.toList) = true := by rw [hne]; exact decide_eq_true hit
      have HIT := Lib.hid hit
      clear hit hne
      have HF := Lib.hid (fits_call n w2)
      cases hm : may n with
      | true =>
        have HM := Lib.hid hm
        rw [hm] at HF
        clear hm
        go_wp2_with fail
        refine HF.out.mono ?_
        rintro e w3 ⟨rfl, rfl⟩
        go_wp2
        go_ret2
        exact ⟨hb, n, true, rfl, by rw [← HIT.out, number_itoa n HM.out]; rfl⟩
      | false =>
        have HM := Lib.hid hm
        rw [hm] at HF
        clear hm
        go_wp2_with fail
        refine HF.out.mono ?_
        rintro e w3 ⟨rfl, rfl⟩
        go_wp2
        go_ret2
        refine ⟨hb, n, false, rfl, ?_⟩
        cases hx : number s.data.toList with
        | none => rfl
        | some m =>
          exfalso
          obtain ⟨e1, e2⟩ := itoa_number hx
          have e3 := atoi_itoa m e2
          rw [e1, HOK.out] at e3
          cases e3
          rw [HM.out] at e2
          cases e2
    · have hd : (t.toList == s.toList) = false := by rw [hne]; exact decide_eq_false hit
      have HIT := Lib.hid hit
      clear hit hne
      go_wp2
      go_ret2
      refine ⟨hb, n, false, rfl, ?_⟩
      cases hx : number s.data.toList with
      | none => rfl
      | some m =>
        exfalso
        obtain ⟨e1, e2⟩ := itoa_number hx
        have e3 := atoi_itoa m e2
        rw [e1, HOK.out] at e3
        cases e3
        exact HIT.out e1
  · have HNO := Lib.hid hno
    clear hno
    go_wp2
    go_ret2
    refine ⟨hb1, n, false, rfl, ?_⟩
    cases hx : number s.data.toList with
    | none => rfl
    | some m =>
      exfalso
      obtain ⟨e1, e2⟩ := itoa_number hx
      have e3 := atoi_itoa m e2
      rw [e1] at e3
      exact HNO.out _ e3
end Go.Proofs.YtlibjfmafpiopaaGreatDoor
