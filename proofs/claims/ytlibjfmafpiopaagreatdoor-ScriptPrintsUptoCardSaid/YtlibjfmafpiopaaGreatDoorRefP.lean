/- The document's line and its Print: the contracts. -/
import Derived.Test.YtlibjfmafpiopaaGreatDoorPrintB
import Derived.Test.YtlibjfmafpiopaaGreatDoorSpecE
import Derived.Lib.AppendStr
namespace Go.Proofs.YtlibjfmafpiopaaGreatDoor
open Go.RowKit Go.Shelf Scr

/-- A command's line, and the error. -/
def lineO (c : Cmd) : Bs × Int := match lineR c with
  | .error e => ([], e)
  | .ok s => (s, 0)

/-- The words ahead of the numbers. -/
def idW (form : Bs) (c : Cmd) : List Bs := (if form.head? = some 105 then [c.id] else []) ++ (if form = [105, 104] then [hex c.bytes] else [])

theorem fm_of {fm : ByteArray} {l : Bs} (h : fm.data.toList = l) : fm = ⟨l.toArray⟩ := by
  apply ByteArray.ext
  apply Array.toList_inj.1
  rw [h]

theorem take_all {l : List Int} {j : Nat} (h : j < l.length) : (l.take (j + 1)).all may = ((l.take j).all may && may (el l j)) ∧ tail32 ((l.take (j + 1)).map Lib.itoa) = tail32 ((l.take j).map Lib.itoa) ++ 32 :: Lib.itoa (el l j) := by
  have e : l.take (j + 1) = l.take j ++ [el l j] := by
    rw [List.take_succ_eq_append_getElem h]
    congr 1
    unfold el
    simp [List.getD, List.getElem?_eq_getElem h]
  rw [e]
  refine ⟨by simp, ?_⟩
  rw [List.map_append, tail32_append]
  simp [tail32]

set_option maxRecDepth 100000 in
set_option maxHeartbeats 4000000 in
theorem line39_call {a0 a1 a3 : Addr} (c : Cmd) (hcb : CmdB c) (Ab : Option Addr) (cb : Nat) (Ak : Option Addr) (ck : Nat) (w : World) (hby : Byts w Ab c.bytes) (hin : Ints w Ak c.keep) (Lw : Laid a0 a1 a3 w) :
    Calls Tryz.prog 39 #[.agg #[.string ⟨c.word.toArray⟩, .int .i64 c.kind, .string ⟨c.id.toArray⟩, .slice Ab c.bytes.length cb, .int .i64 c.n, .slice Ak c.keep.length ck]] w fun e w' => e = .returned (.tuple #[.string ⟨(lineO c).1.toArray⟩, .int .i64 (lineO c).2]) ∧ Below w.heap.size w w' := by
  obtain ⟨o, ho⟩ : ∃ o, lineO c = o := ⟨_, rfl⟩
  obtain ⟨i3, hi3, hz3, hy3, hq3⟩ := info_parts info3
  rw [ho]
  have HO := Lib.hid ho
  have HCB := Lib.hid hcb
  have HBY := Lib.hid hby
  have HIN := Lib.hid hin
  have HL := Lib.hid Lw
  obtain ⟨tw, htw⟩ : ∃ t : ByteArray, (⟨c.word.toArray⟩ : ByteArray) = t := ⟨_, rfl⟩
  obtain ⟨ti, hti⟩ : ∃ t : ByteArray, (⟨c.id.toArray⟩ : ByteArray) = t := ⟨_, rfl⟩
  rw [htw, hti]
  have HTW : Hid (tw.toList = c.word) := by rw [← htw, toList_mk]; exact rfl
  have HTWD : Hid (tw.data.toList = c.word) := by rw [← htw]; exact rfl
  have HTI : Hid (ti.data.toList = c.id) := by rw [← hti]; exact rfl
  obtain ⟨kk, fm, HKF, KC⟩ : ∃ (k : Int) (fm : ByteArray), Hid (k = (kindR c.word).1 ∧ fm.data.toList = (kindR c.word).2) ∧ Hid (∀ w, Calls Tryz.prog 53 #[.string tw] w fun e w' => e = .returned (.tuple #[.int .i64 k, .string fm]) ∧ w = w') :=
    ⟨(kindR tw.toList).1, ⟨(kindR tw.toList).2.toArray⟩, Lib.hid (by rw [HTW.out]; exact ⟨rfl, rfl⟩), Lib.hid fun w => kind_call tw w⟩
  clear ho htw hti hcb hby hin Lw
  go_enter Tryz.func39, Tryz.ntmps39
  go_upto_region 1 with fail
  have hP := heap_alloc_new w (.cells #[.string tw, .int .i64 c.kind, .string ti, .slice Ab c.bytes.length cb, .int .i64 c.n, .slice Ak c.keep.length ck] 33)
  have hb1 : Below w.heap.size w (w.alloc (.cells #[.string tw, .int .i64 c.kind, .string ti, .slice Ab c.bytes.length cb, .int .i64 c.n, .slice Ak c.keep.length ck] 33)) := (Below.refl _ _).alloc (Nat.le_refl _) _
  have hs1 : (w.alloc (.cells #[.string tw, .int .i64 c.kind, .string ti, .slice Ab c.bytes.length cb, .int .i64 c.n, .slice Ak c.keep.length ck] 33)).heap.size = w.heap.size + 1 := by simp
  obtain ⟨w1, hw1⟩ : ∃ w1, w.alloc (.cells #[.string tw, .int .i64 c.kind, .string ti, .slice Ab c.bytes.length cb, .int .i64 c.n, .slice Ak c.keep.length ck] 33) = w1 := ⟨_, rfl⟩
  rw [hw1] at hP hb1 hs1 ⊢
  clear hw1
  obtain ⟨P, hPe⟩ : ∃ P, w.heap.size = P := ⟨_, rfl⟩
  have HPE := Lib.hid hPe
  rw [hPe] at hP hs1 ⊢
  obtain ⟨c0, c1, c2, c3, c4, c5, _, _, _, _, _, _⟩ := box6_of hP
  have HB1 := Lib.hid hb1
  have HS1 := Lib.hid hs1
  have BOX := Lib.hid (fun (W : World) (hb : Below w1.heap.size w1 W) => box6_of ((hb.block P (by rw [hs1]; exact Nat.lt_succ_self _)).trans hP))
  clear hPe hP hb1 hs1
  go_wp2_with fail
  refine (KC.out _).mono ?_
  rintro e w2 ⟨rfl, rfl⟩
  by_cases hk0 : kk = 0
  · have tk : (kk == 0) = true := by rw [beq_iff_eq]; exact hk0
    have HE : Hid (o = ([], 221)) := by
      rw [← HO.out]
      unfold lineO lineR
      rw [if_pos (by rw [← HKF.out.1]; exact hk0)]
      exact rfl
    clear hk0
    go_wp2_with fail
    go_ret2
    rw [HE.out]
    exact ⟨rfl, HB1.out⟩
  · have tk : (kk == 0) = false := by rw [beq_eq_false_iff_ne]; exact hk0
    have HK0 := Lib.hid hk0
    clear hk0
    obtain ⟨bm, hbm⟩ : ∃ bm, decide (c.kind ≠ kk ∨ kk = 14 ∧ c.keep.length ≠ 4) = bm := ⟨_, rfl⟩
    have HBM := Lib.hid hbm
    clear hbm
    have hkl := HCB.out.keep
    go_upto_region 4 with fail
    go_cut [32] (fun v wx => v = .bool bm ∧ wx = w1)
    case first =>
      by_cases m1 : c.kind = kk
      · have q1 : (kk != kk) = false := by simp
        have q1' : (c.kind != kk) = false := by rw [bne_eq_false_iff_eq]; exact m1
        by_cases m2 : kk = 14
        · have q2 : (kk == 14) = true := by rw [beq_iff_eq]; exact m2
          by_cases m3 : c.keep.length = 4
          · have q3 : ((c.keep.length : Int) != 4) = false := by rw [bne_eq_false_iff_eq]; omega
            have e : bm = false := by rw [← HBM.out]; exact decide_eq_false (by rintro (h | h); exact h m1; exact h.2 m3)
            clear m1 m2 m3
            go_wp2_with fail
            go_meet
            exact ⟨by rw [e], rfl⟩
          · have q3 : ((c.keep.length : Int) != 4) = true := by rw [bne_iff_ne]; omega
            have e : bm = true := by rw [← HBM.out]; exact decide_eq_true (.inr ⟨m2, m3⟩)
            clear m1 m2 m3
            go_wp2_with fail
            go_meet
            exact ⟨by rw [e], rfl⟩
        · have q2 : (kk == 14) = false := by rw [beq_eq_false_iff_ne]; exact m2
          have e : bm = false := by rw [← HBM.out]; exact decide_eq_false (by rintro (h | h); exact h m1; exact m2 h.1)
          clear m1 m2
          go_wp2_with fail
          go_meet
          exact ⟨by rw [e], rfl⟩
      · have q1 : (c.kind != kk) = true := by rw [bne_iff_ne]; exact m1
        have e : bm = true := by rw [← HBM.out]; exact decide_eq_true (.inl m1)
        clear m1
        go_wp2_with fail
        go_meet
        exact ⟨by rw [e], rfl⟩
    case rest =>
      obtain ⟨rfl, hwc⟩ := hcut
      rw [hwc]
      clear hwc
      cases bm with
      | true =>
        have HE : Hid (o = ([], 223)) := by
          rw [← HO.out]
          unfold lineO lineR
          rw [if_neg (by rw [← HKF.out.1]; exact HK0.out), if_pos (by rw [← HKF.out.1]; exact of_decide_eq_true HBM.out)]
          exact rfl
        go_wp2_with fail
        go_ret2
        rw [HE.out]
        exact ⟨rfl, HB1.out⟩
      | false =>
        have HF : Hid ((kk = 1 ∧ fm.data.toList = [105, 104]) ∨ ((kk = 2 ∨ kk = 3 ∨ kk = 6 ∨ kk = 15 ∨ kk = 16) ∧ fm.data.toList = [105]) ∨ ((kk = 4 ∨ kk = 5) ∧ fm.data.toList = [105, 110]) ∨ ((kk = 7 ∨ kk = 8 ∨ kk = 9) ∧ fm.data.toList = []) ∨ ((kk = 10 ∨ kk = 11 ∨ kk = 12) ∧ fm.data.toList = [110]) ∨ (kk = 13 ∧ fm.data.toList = [42]) ∨ (kk = 14 ∧ fm.data.toList = [110, 110, 110, 110])) := by
          obtain ⟨k2, f2, e1, _, h⟩ := tab_form (h := c.word) (by rw [← HKF.out.1]; exact HK0.out)
          have e2 := HKF.out
          rw [e1] at e2
          show _ ∨ _
          rw [e2.1, e2.2]
          exact h
        obtain ⟨bn, hbn⟩ : ∃ bn, (fm.toList == [42] || kk == 14) = bn := ⟨_, rfl⟩
        have HBN := Lib.hid hbn
        clear hbn
        go_upto_region 8 with fail
        have hb3 : Below w1.heap.size w1 (w1.alloc (.cells #[] 3)) := (Below.refl _ _).alloc (Nat.le_refl _) _
        have hO3 := World.ownsRow_made (e := 3) (size := 1) w1 #[] 0 (Nat.le_refl w1.heap.size) (by decide) rfl
        obtain ⟨w3, hw3⟩ : ∃ w3, w1.alloc (.cells #[] 3) = w3 := ⟨_, rfl⟩
        rw [hw3] at hb3 hO3 ⊢
        clear hw3
        have HB3 := Lib.hid hb3
        have HO3 := Lib.hid hO3
        clear hb3 hO3
        go_cut [41] (fun v wx => v = .bool bn ∧ wx = w3)
        case first =>
          cases h1 : (fm.toList == [42]) with
          | true =>
            have e : bn = true := by rw [← HBN.out, h1]; rfl
            go_wp2_with fail
            go_meet
            exact ⟨by rw [e], rfl⟩
          | false =>
            cases h2 : (kk == 14) with
            | true =>
              have e : bn = true := by rw [← HBN.out, h1, h2]; rfl
              go_wp2_with fail
              go_meet
              exact ⟨by rw [e], rfl⟩
            | false =>
              have e : bn = false := by rw [← HBN.out, h1, h2]; rfl
              go_wp2_with fail
              go_meet
              exact ⟨by rw [e], rfl⟩
        case rest =>
          obtain ⟨rfl, hwc⟩ := hcut
          rw [hwc]
          clear hwc
          go_upto_if 41 with fail
          go_cut [7] (fun v wx => ∃ (A : Option Addr) (cap : Nat), v = .slice A (numsR kk fm.data.toList c).length cap ∧ Ints wx A (numsR kk fm.data.toList c) ∧ Below w1.heap.size w1 wx)
          case first =>
            cases bn with
            | true =>
              have hn : numsR kk fm.data.toList c = c.keep := by
                unfold numsR
                have h1 := HBN.out
                rw [Bool.or_eq_true, beq_iff_eq, beq_iff_eq, ByteArray.toList_eq] at h1
                exact if_pos h1
              obtain ⟨_, _, _, _, _, d5, _, _, _, _, _, _⟩ := BOX.out w3 HB3.out
              have HN := Lib.hid hn
              clear hn
              go_wp2_with fail
              go_meet
              rw [HN.out]
              exact ⟨Ak, ck, rfl, HIN.out.below ((HB1.out.trans (HB3.out.mono HB1.out.size)).mono (Nat.le_refl _)), HB3.out⟩
            | false =>
              have hnn : ¬ (fm.data.toList = [42] ∨ kk = 14) := fun h => by
                have h1 := HBN.out
                rw [Bool.or_eq_false_iff, beq_eq_false_iff_ne, beq_eq_false_iff_ne, ByteArray.toList_eq] at h1
                rcases h with h | h
                · exact h1.1 h
                · exact h1.2 h
              obtain ⟨_, _, _, _, d4, _, _, _, _, _, _, _⟩ := BOX.out w3 HB3.out
              rcases HF.out with ⟨hkk, hfm⟩ | ⟨hkk, hfm⟩ | ⟨hkk, hfm⟩ | ⟨hkk, hfm⟩ | ⟨hkk, hfm⟩ | ⟨hkk, hfm⟩ | ⟨hkk, hfm⟩
              · have hn : numsR kk fm.data.toList c = [] := by unfold numsR; rw [if_neg hnn, hfm]; exact if_neg (by decide)
                obtain rfl := fm_of hfm
                have HN := Lib.hid hn
                clear hn hnn hfm hkk
                go_wp2_with fail
                go_meet
                rw [HN.out]
                exact ⟨some ⟨w1.heap.size, 0, none⟩, 0, rfl, ⟨by simp, fun h => absurd h (by simp)⟩, HB3.out⟩
              · have hn : numsR kk fm.data.toList c = [] := by unfold numsR; rw [if_neg hnn, hfm]; exact if_neg (by decide)
                obtain rfl := fm_of hfm
                have HN := Lib.hid hn
                clear hn hnn hfm hkk
                go_wp2_with fail
                go_meet
                rw [HN.out]
                exact ⟨some ⟨w1.heap.size, 0, none⟩, 0, rfl, ⟨by simp, fun h => absurd h (by simp)⟩, HB3.out⟩
              · have hn : numsR kk fm.data.toList c = [c.n] := by unfold numsR; rw [if_neg hnn, hfm]; exact if_pos (by decide)
                obtain rfl := fm_of hfm
                have HN := Lib.hid hn
                clear hn hnn hfm hkk
                have hsz3 : w1.heap.size ≤ w3.heap.size := HB3.out.size
                go_wp2_with (at_builtin; refine wpList_app rfl (.tmp 55) (.tmp 59) 29 rfl w1.heap.size 3 i3 _ 1 8 Tryz.underlying29 hi3 hz3 hy3 hq3 rfl (by decide) (.slice (some ⟨w1.heap.size, 0, none⟩) 0 0) 0 [] rfl (HO3.out.alloc _) (some ⟨w3.heap.size, 0, none⟩) 1 1 [.int .i64 c.n] rfl (src_new1 _ _ _) (by simp [Value.oneCell']) (by unfold maxLen; omega) (by omega) (by simp; omega) ?_; intro v6 w6 hown6 hgrow6 hat6; obtain ⟨A6, k6, rfl⟩ := own_form hown6; have hb6 : Below w1.heap.size w1 w6 := Below.grown (HB3.out.alloc hsz3 _) hgrow6 (by simp; omega) (fun b e => own_blk HO3.out e); have HI6 := Lib.hid (Row.ints_in (xs := [c.n]) (.inl hown6) (by simp)); have HB6 := Lib.hid hb6; clear hown6 hgrow6 hat6 hb6)
                go_meet
                rw [HN.out]
                exact ⟨A6, k6, rfl, HI6.out.1, HB6.out⟩
              · have hn : numsR kk fm.data.toList c = [] := by unfold numsR; rw [if_neg hnn, hfm]; exact if_neg (by decide)
                obtain rfl := fm_of hfm
                have HN := Lib.hid hn
                clear hn hnn hfm hkk
                go_wp2_with fail
                go_meet
                rw [HN.out]
                exact ⟨some ⟨w1.heap.size, 0, none⟩, 0, rfl, ⟨by simp, fun h => absurd h (by simp)⟩, HB3.out⟩
              · have hn : numsR kk fm.data.toList c = [c.n] := by unfold numsR; rw [if_neg hnn, hfm]; exact if_pos (by decide)
                obtain rfl := fm_of hfm
                have HN := Lib.hid hn
                clear hn hnn hfm hkk
                have hsz3 : w1.heap.size ≤ w3.heap.size := HB3.out.size
                go_wp2_with (at_builtin; refine wpList_app rfl (.tmp 55) (.tmp 59) 29 rfl w1.heap.size 3 i3 _ 1 8 Tryz.underlying29 hi3 hz3 hy3 hq3 rfl (by decide) (.slice (some ⟨w1.heap.size, 0, none⟩) 0 0) 0 [] rfl (HO3.out.alloc _) (some ⟨w3.heap.size, 0, none⟩) 1 1 [.int .i64 c.n] rfl (src_new1 _ _ _) (by simp [Value.oneCell']) (by unfold maxLen; omega) (by omega) (by simp; omega) ?_; intro v6 w6 hown6 hgrow6 hat6; obtain ⟨A6, k6, rfl⟩ := own_form hown6; have hb6 : Below w1.heap.size w1 w6 := Below.grown (HB3.out.alloc hsz3 _) hgrow6 (by simp; omega) (fun b e => own_blk HO3.out e); have HI6 := Lib.hid (Row.ints_in (xs := [c.n]) (.inl hown6) (by simp)); have HB6 := Lib.hid hb6; clear hown6 hgrow6 hat6 hb6)
                go_meet
                rw [HN.out]
                exact ⟨A6, k6, rfl, HI6.out.1, HB6.out⟩
              · exact absurd (.inl hfm) hnn
              · exact absurd (.inr hkk) hnn
          case rest =>
            obtain ⟨A, cap, rfl, hi, hb4⟩ := hcut
            obtain ⟨w4, hw4⟩ : ∃ w4, wc = w4 := ⟨_, rfl⟩
            rw [hw4] at hi hb4 ⊢
            clear hw4
            have HB4 := Lib.hid hb4
            have HI4 := Lib.hid hi
            have hnl : (numsR kk fm.data.toList c).length ≤ 1048576 := by
              unfold numsR
              split
              · exact hkl
              · split <;> simp
            clear hi hb4 c0 c1 c2 c3 c4 c5
            obtain ⟨d0, d1, d2, d3, _, _, _, _, _, _, _, _⟩ := BOX.out w4 HB4.out
            obtain ⟨ns, hns⟩ : ∃ ns, numsR kk fm.data.toList c = ns := ⟨_, rfl⟩
            rw [hns] at hnl HI4 ⊢
            have HNS := Lib.hid hns
            clear hns
            obtain ⟨bi, hbi⟩ : ∃ bi, decide (fm.data.toList.head? = some 105) = bi := ⟨_, rfl⟩
            have HBI := Lib.hid hbi
            clear hbi
            have hl1 : Hid (¬ (kindR c.word).1 = 0) := by rw [← HKF.out.1]; exact HK0
            have hl2 : Hid (¬ (c.kind ≠ (kindR c.word).1 ∨ ((kindR c.word).1 = 14 ∧ c.keep.length ≠ 4))) := by rw [← HKF.out.1]; exact Lib.hid (of_decide_eq_false HBM.out)
            have hwl : tw.size ≤ 1048576 := by rw [size_list, HTWD.out]; exact HCB.out.word
            have hil : ti.size ≤ 1048576 := by rw [size_list, HTI.out]; exact HCB.out.id
            go_upto_region 12 with fail
            go_cut [67] (fun v wx => v = .bool bi ∧ wx = w4)
            case first =>
              rcases HF.out with ⟨hkk, hfm⟩ | ⟨hkk, hfm⟩ | ⟨hkk, hfm⟩ | ⟨hkk, hfm⟩ | ⟨hkk, hfm⟩ | ⟨hkk, hfm⟩ | ⟨hkk, hfm⟩
              · have e : bi = true := by rw [← HBI.out, hfm]; exact decide_eq_true rfl
                obtain rfl := fm_of hfm
                clear hfm hkk
                go_wp2_with fail
                go_meet
                refine ⟨?_, rfl⟩
                rw [e] <;> kernel_rfl
              · have e : bi = true := by rw [← HBI.out, hfm]; exact decide_eq_true rfl
                obtain rfl := fm_of hfm
                clear hfm hkk
                go_wp2_with fail
                go_meet
                refine ⟨?_, rfl⟩
                rw [e] <;> kernel_rfl
              · have e : bi = true := by rw [← HBI.out, hfm]; exact decide_eq_true rfl
                obtain rfl := fm_of hfm
                clear hfm hkk
                go_wp2_with fail
                go_meet
                refine ⟨?_, rfl⟩
                rw [e] <;> kernel_rfl
              · have e : bi = false := by rw [← HBI.out, hfm]; exact decide_eq_false (by decide)
                obtain rfl := fm_of hfm
                clear hfm hkk
                go_wp2_with fail
                go_meet
                refine ⟨?_, rfl⟩
                rw [e] <;> kernel_rfl
              · have e : bi = false := by rw [← HBI.out, hfm]; exact decide_eq_false (by decide)
                obtain rfl := fm_of hfm
                clear hfm hkk
                go_wp2_with fail
                go_meet
                refine ⟨?_, rfl⟩
                rw [e] <;> kernel_rfl
              · have e : bi = false := by rw [← HBI.out, hfm]; exact decide_eq_false (by decide)
                obtain rfl := fm_of hfm
                clear hfm hkk
                go_wp2_with fail
                go_meet
                refine ⟨?_, rfl⟩
                rw [e] <;> kernel_rfl
              · have e : bi = false := by rw [← HBI.out, hfm]; exact decide_eq_false (by decide)
                obtain rfl := fm_of hfm
                clear hfm hkk
                go_wp2_with fail
                go_meet
                refine ⟨?_, rfl⟩
                rw [e] <;> kernel_rfl
            case rest =>
              obtain ⟨rfl, hwc⟩ := hcut
              rw [hwc]
              clear hwc
              go_upto_if 67 with fail
              go_cut [6] (fun v wx => ∃ (t : ByteArray), v = .string t ∧ wx = w4 ∧ Hid (t.data.toList = c.word ++ tail32 (if fm.data.toList.head? = some 105 then [c.id] else [])) ∧ t.size ≤ 2097153 ∧ Hid (¬ (fm.data.toList.head? = some 105 ∧ isId c.id = false)))
              case first =>
                cases bi with
                | true =>
                  have hhd : fm.data.toList.head? = some 105 := of_decide_eq_true HBI.out
                  have IDC := Lib.hid (id_call ti w4 (by omega))
                  rw [HTI.out] at IDC
                  have HHD := Lib.hid hhd
                  clear hhd
                  have hs32 : (⟨#[32]⟩ : ByteArray).size = 1 := rfl
                  have hss : (tw ++ ⟨#[32]⟩).size = tw.size + 1 := by rw [ByteArray.size_append]; rfl
                  obtain ⟨ib, hib⟩ : ∃ ib, isId c.id = ib := ⟨_, rfl⟩
                  rw [hib] at IDC
                  have HIB := Lib.hid hib
                  clear hib
                  go_wp2_with fail
                  refine IDC.out.mono ?_
                  rintro e w5 ⟨rfl, rfl⟩
                  cases ib with
                  | true =>
                    go_wp2_with fail
                    go_meet
                    refine ⟨_, rfl, rfl, ?_, ?_, fun h => by rw [HIB.out] at h; exact absurd h.2 (by decide)⟩
                    · show _ = _
                      rw [if_pos HHD.out, ByteArray.data_append, ByteArray.data_append, Array.toList_append, Array.toList_append, HTWD.out, HTI.out]
                      simp [tail32]
                    · rw [ByteArray.size_append, hss]
                      omega
                  | false =>
                    have HE : Hid (o = ([], 223)) := by
                      rw [← HO.out]
                      unfold lineO lineR
                      rw [if_neg hl1.out, if_neg hl2.out, if_pos ⟨by rw [← HKF.out.2]; exact HHD.out, HIB.out⟩]
                      exact rfl
                    go_wp2_with fail
                    go_ret2
                    rw [HE.out]
                    exact ⟨rfl, HB1.out.trans (HB4.out.mono HB1.out.size)⟩
                | false =>
                  have hhd : ¬ fm.data.toList.head? = some 105 := of_decide_eq_false HBI.out
                  have HHD := Lib.hid hhd
                  clear hhd
                  go_wp2_with fail
                  go_meet
                  refine ⟨_, rfl, rfl, ?_, by omega, fun h => HHD.out h.1⟩
                  show _ = _
                  rw [if_neg HHD.out, HTWD.out]
                  simp [tail32]
              case rest =>
                obtain ⟨t, rfl, hwc, ht, hts, hid⟩ := hcut
                rw [hwc]
                clear hwc
                obtain ⟨b80, hb80⟩ : ∃ b, (fm.toList == [105, 104]) = b := ⟨_, rfl⟩
                have HB80 := Lib.hid hb80
                clear hb80
                go_upto_region 16 with fail
                go_cut [80] (fun v wx => v = .bool b80 ∧ wx = w4)
                case first =>
                  cases h1 : (fm.toList == [105, 104]) with
                  | true =>
                    have e : b80 = true := by rw [← HB80.out, h1]
                    go_wp2_with fail
                    go_meet
                    exact ⟨by rw [e], rfl⟩
                  | false =>
                    have e : b80 = false := by rw [← HB80.out, h1]
                    go_wp2_with fail
                    go_meet
                    exact ⟨by rw [e], rfl⟩
                case rest =>
                obtain ⟨rfl, hwc⟩ := hcut
                rw [hwc]
                clear hwc
                go_upto_if 80 with fail
                go_cut [6] (fun v wx => ∃ (t : ByteArray), v = .string t ∧ Hid (t.data.toList = c.word ++ tail32 (idW fm.data.toList c)) ∧ t.size ≤ 4194310 ∧ Ints wx A ns ∧ Below w1.heap.size w1 wx)
                case first =>
                  cases b80 with
                  | true =>
                    have hfe : fm.data.toList = [105, 104] := by have := HB80.out; rwa [beq_iff_eq, ByteArray.toList_eq] at this
                    have HFE := Lib.hid hfe
                    clear hfe
                    have HHX := Lib.hid (hex_call Ab cb c.bytes w4 (HBY.out.below (HB1.out.trans (HB4.out.mono HB1.out.size))) (by have := HCB.out.bytes; omega))
                    obtain ⟨tx, htx⟩ : ∃ t : ByteArray, (⟨(hex c.bytes).toArray⟩ : ByteArray) = t := ⟨_, rfl⟩
                    have HTX : Hid (tx.data.toList = hex c.bytes) := by rw [← htx]; exact rfl
                    have hsx : tx.size ≤ 2097153 := by
                      rw [size_list, HTX.out]
                      have := HCB.out.bytes
                      unfold hex
                      split
                      · simp
                      · rw [hexP_len]; omega
                    rw [htx] at HHX
                    clear htx
                    have hs32 : (⟨#[32]⟩ : ByteArray).size = 1 := rfl
                    have hss : (t ++ ⟨#[32]⟩).size = t.size + 1 := by rw [ByteArray.size_append]; rfl
                    go_wp2_with fail
                    refine HHX.out.mono ?_
                    rintro e w5 ⟨rfl, hb5⟩
                    have HB5 := Lib.hid hb5
                    clear hb5
                    go_wp2_with fail
                    go_meet
                    refine ⟨_, rfl, ?_, ?_, HI4.out.below HB5.out, HB4.out.trans (HB5.out.mono HB4.out.size)⟩
                    · show _ = _
                      rw [ByteArray.data_append, ByteArray.data_append, Array.toList_append, Array.toList_append, ht.out, HTX.out]
                      unfold idW
                      rw [HFE.out]
                      simp [tail32]
                    · rw [ByteArray.size_append, hss]
                      omega
                  | false =>
                    have hfe : ¬ fm.data.toList = [105, 104] := by have := HB80.out; rwa [beq_eq_false_iff_ne, ByteArray.toList_eq] at this
                    have HFE := Lib.hid hfe
                    clear hfe
                    go_wp2_with fail
                    go_meet
                    refine ⟨_, rfl, ?_, by omega, HI4.out, HB4.out⟩
                    show _ = _
                    rw [ht.out]
                    unfold idW
                    rw [if_neg HFE.out, List.append_nil]
                case rest =>
                  obtain ⟨t2, rfl, ht2, hts2, hi5, hb5⟩ := hcut
                  obtain ⟨w5, hw5⟩ : ∃ w5, wc = w5 := ⟨_, rfl⟩
                  rw [hw5] at hi5 hb5 ⊢
                  clear hw5 ht hts
                  have HI5 := Lib.hid hi5
                  have HB5 := Lib.hid hb5
                  clear hi5 hb5
                  go_wp2_with fail
                  go_loopw [6, 8] (fun sv i wq => ∃ (j : Nat) (t : ByteArray), sv = .string t ∧ i = .int .i64 j ∧ j ≤ ns.length ∧ Hid (t.data.toList = c.word ++ tail32 (idW fm.data.toList c) ++ tail32 ((ns.take j).map Lib.itoa)) ∧ t.size ≤ 4194310 + j * 22 ∧ Hid ((ns.take j).all may = true) ∧ Below w5.heap.size w5 wq)
                    (fun _ i _ => ns.length - (intOf i).toNat)
                  case atStart => exact ⟨0, t2, rfl, rfl, Nat.zero_le _, by show _ = _; rw [ht2.out]; simp [tail32], by omega, by simp [Hid], Below.refl _ _⟩
                  case round =>
                    obtain ⟨j, t, rfl, rfl, hj, ht, hts, hal, hbq⟩ := hrel
                    by_cases hjl : j < ns.length
                    · have j0 : (0 : Int) ≤ (j : Int) := Int.natCast_nonneg _
                      have j1 : (j : Int) < (ns.length : Int) := by omega
                      obtain ⟨gb, go1, rfl, hgl, hgc⟩ := HI5.out.at_ (by omega)
                      have cg : wr.cell? ⟨gb, go1 + j, none⟩ = some (.int .i64 (el ns j)) := (hbq.cell (p := ⟨gb, go1 + j, none⟩) hgl).trans (hgc j hjl)
                      obtain ⟨x, hx⟩ : ∃ x, el ns j = x := ⟨_, rfl⟩
                      have hTA := take_all hjl
                      rw [hx] at cg hTA
                      have hxm : x ∈ ns := by
                        rw [← hx]
                        unfold el
                        simp [List.getD, List.getElem?_eq_getElem hjl]
                      have HTA := Lib.hid hTA
                      have HXM := Lib.hid hxm
                      have HMC := Lib.hid (may_call x wr)
                      obtain ⟨mb, hmb⟩ : ∃ mb, may x = mb := ⟨_, rfl⟩
                      rw [hmb] at HMC
                      have HMB := Lib.hid hmb
                      have HBQ := Lib.hid hbq
                      clear hx hTA hxm hgc hmb hbq
                      go_wp2_with fail
                      refine HMC.out.mono ?_
                      rintro e wm ⟨rfl, rfl⟩
                      cases mb with
                      | false =>
                        have HE : Hid (o = ([], 223)) := by
                          rw [← HO.out]
                          unfold lineO lineR
                          rw [if_neg hl1.out, if_neg hl2.out, if_neg (by rw [← HKF.out.2]; exact hid.out), if_neg (by
                            rw [← HKF.out.1, ← HKF.out.2, HNS.out]
                            intro h
                            have := List.all_eq_true.1 h x HXM.out
                            rw [HMB.out] at this
                            exact absurd this (by decide))]
                          exact rfl
                        go_wp2_with fail
                        go_ret2
                        rw [HE.out]
                        exact ⟨rfl, HB1.out.trans ((HB5.out.trans (HBQ.out.mono HB5.out.size)).mono HB1.out.size)⟩
                      | true =>
                        have hxb : -9999999999999 ≤ x ∧ x ≤ 9999999999999 := may_iff.1 HMB.out
                        have HIT := Lib.hid (itoa_call x (by omega) (by omega) wr (HL.out.below (HB1.out.trans ((HB5.out.trans (HBQ.out.mono HB5.out.size)).mono HB1.out.size))).tab)
                        obtain ⟨tn, htn⟩ : ∃ t : ByteArray, (⟨(Lib.itoa x).toArray⟩ : ByteArray) = t := ⟨_, rfl⟩
                        have HTN : Hid (tn.data.toList = Lib.itoa x) := by rw [← htn]; exact rfl
                        have hsn : tn.size ≤ 21 := by rw [size_list, HTN.out]; exact Lib.itoa_length_le x (by omega) (by omega)
                        rw [htn] at HIT
                        clear htn hxb
                        have hs32 : (⟨#[32]⟩ : ByteArray).size = 1 := rfl
                        have hss : (t ++ ⟨#[32]⟩).size = t.size + 1 := by rw [ByteArray.size_append]; rfl
                        have hk2 : j * 22 ≤ 1048576 * 22 := Nat.mul_le_mul_right _ (by omega)
                        go_wp2_with fail
                        refine HIT.out.mono ?_
                        rintro e w6 ⟨rfl, hb6⟩
                        have HB6 := Lib.hid (HBQ.out.trans (hb6.mono HBQ.out.size))
                        clear hb6
                        go_wp2_with fail
                        refine ⟨⟨j + 1, _, rfl, by go_num, by omega, ?_, ?_, ?_, HB6.out⟩, by simp [intOf]; omega⟩
                        · show _ = _
                          rw [HTA.out.2, ByteArray.data_append, ByteArray.data_append, Array.toList_append, Array.toList_append, ht.out, HTN.out]
                          simp
                        · rw [ByteArray.size_append, hss, Nat.succ_mul]
                          omega
                        · show _ = _
                          rw [HTA.out.1, hal.out, HMB.out]
                          rfl
                    · obtain rfl : j = ns.length := by omega
                      have HBQ := Lib.hid hbq
                      clear hbq
                      have hal2 : ns.all may = true := by have := hal.out; rwa [List.take_length] at this
                      have HE : Hid (o = (c.word ++ tail32 (restR kk fm.data.toList c) ++ [10], 0)) := by
                        rw [← HO.out]
                        unfold lineO lineR
                        rw [if_neg hl1.out, if_neg hl2.out, if_neg (by rw [← HKF.out.2]; exact hid.out), if_pos (by rw [← HKF.out.1, ← HKF.out.2, HNS.out]; exact hal2), HKF.out.1, HKF.out.2]
                        exact rfl
                      have htt : t.data.toList = c.word ++ tail32 (restR kk fm.data.toList c) := by
                        rw [ht.out, List.take_length, List.append_assoc, ← tail32_append]
                        unfold restR
                        rw [HNS.out]
                        rfl
                      have HTT := Lib.hid htt
                      have hs10 : (⟨#[10]⟩ : ByteArray).size = 1 := rfl
                      have hk2 : ns.length * 22 ≤ 1048576 * 22 := Nat.mul_le_mul_right _ hnl
                      clear hal2 htt ht hal
                      go_wp2_with fail
                      go_ret2
                      refine ⟨?_, HB1.out.trans ((HB5.out.trans (HBQ.out.mono HB5.out.size)).mono HB1.out.size)⟩
                      rw [HE.out]
                      have e : (t ++ ⟨#[10]⟩ : ByteArray) = ⟨(c.word ++ tail32 (restR kk fm.data.toList c) ++ [10]).toArray⟩ := by
                        apply ByteArray.ext
                        rw [ByteArray.data_append]
                        apply Array.toList_inj.1
                        rw [Array.toList_append, HTT.out]
                      rw [← e]
                      exact rfl

end Go.Proofs.YtlibjfmafpiopaaGreatDoor
