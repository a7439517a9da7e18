/- The document's Print: the contract. -/
import Derived.Test.YtlibjfmafpiopaaGreatDoorRefP
import Derived.Test.YtlibjfmafpiopaaGreatDoorSpecF
namespace Go.Proofs.YtlibjfmafpiopaaGreatDoor
open Go.RowKit Go.Shelf Scr

theorem line_len2 {c : Cmd} (hb : CmdB c) : (lineO c).1.length ≤ 67108864 := by
  unfold lineO
  cases h : lineR c with
  | error e => simp
  | ok s => exact line_len hb (by rw [lineS_eq]; exact h)

theorem lineO_of (c : Cmd) : (lineO c).2 = 0 ∧ lineR c = .ok (lineO c).1 ∨ (lineO c).2 ≠ 0 ∧ lineR c = .error (lineO c).2 := by
  unfold lineO
  cases h : lineR c with
  | error e =>
    refine .inr ⟨?_, rfl⟩
    rcases lineR_err h with rfl | rfl
    · exact (by decide : (221 : Int) ≠ 0)
    · exact (by decide : (223 : Int) ≠ 0)
  | ok s => exact .inl ⟨rfl, rfl⟩

theorem strCells_mk (s : Bs) : Lib.strCells ⟨s.toArray⟩ = u8s (nums s) := by
  unfold Lib.strCells u8s nums
  rw [List.map_map]
  rfl

set_option maxRecDepth 100000 in
set_option maxHeartbeats 4000000 in
theorem print16_call {a0 a1 a3 : Addr} (A : Option Addr) (cap : Nat) (L : List Cmd) (w : World) (h : CmdsR w A L) (Lw : Laid a0 a1 a3 w) :
    Calls Tryz.prog 16 #[.slice A L.length cap] w fun e w' => e = .returned (.tuple #[.string ⟨(printR L).1.toArray⟩, .int .i64 (printR L).2]) ∧ Below w.heap.size w w' := by
  obtain ⟨o, ho⟩ : ∃ o, printR L = o := ⟨_, rfl⟩
  rw [ho]
  have HO := Lib.hid ho
  have HC := Lib.hid h
  have HL := Lib.hid Lw
  obtain ⟨i0, hi0, hz0, hz1, hz2'⟩ := info_parts info5
  have hlen := h.len
  clear ho h Lw
  go_enter Tryz.func16, Tryz.ntmps16
  go_wp2_with fail
  go_loopw [4, 5] (fun v i wr => ∃ (k : Nat) (out : Bs), i = .int .i64 k ∧ k ≤ L.length ∧ wr.ownsRow w.heap.size 5 1 v (nums out).length (u8s (nums out)) ∧ Below w.heap.size w wr ∧ out.length ≤ k * 67108864 ∧ Hid (linesP L = (linesP (L.drop k)).map fun t => out ++ t))
    (fun _ i _ => L.length - (intOf i).toNat)
  case atStart => exact ⟨0, [], rfl, Nat.zero_le _, World.ownsRow_made w #[] 0 (Nat.le_refl _) (by decide) rfl, by go_grown, Nat.le_refl _, Lib.hid (by cases h : linesP (L.drop 0) <;> rw [List.drop_zero] at h <;> rw [h] <;> rfl)⟩
  case round =>
    obtain ⟨k, out, rfl, hk, hown, hb, hol, hsp⟩ := hrel
    have hz := hb.size
    by_cases hlt : k < L.length
    · have k0 : (0 : Int) ≤ (k : Int) := Int.natCast_nonneg _
      have k1 : (k : Int) < (L.length : Int) := by omega
      obtain ⟨c, hc⟩ : ∃ c, L[k]? = some c := ⟨_, List.getElem?_eq_getElem hlt⟩
      have hst := linesP_step hc
      have HST := Lib.hid hst
      have HCB := Lib.hid (HC.out.bd c (List.mem_of_getElem? hc))
      obtain ⟨b, off, rfl, hbl, hcs⟩ := HC.out.at_ (by omega)
      obtain ⟨Ab, cb, Ak, ck, hby, hin, c0, c1, c2, c3, c4, c5⟩ := (hcs k c hc).below (hb.mono (Nat.le_refl _)) hbl
      have HLC := Lib.hid (line39_call c HCB.out Ab cb Ak ck wr hby hin (HL.out.below hb))
      have HLO := Lib.hid (lineO_of c)
      have hll := line_len2 HCB.out
      have HLL := Lib.hid hll
      obtain ⟨lo, hlo⟩ : ∃ lo, lineO c = lo := ⟨_, rfl⟩
      rw [hlo] at HLC HLO HLL hll
      obtain ⟨ls, le⟩ := lo
      simp only at HLC HLO HLL hll
      obtain ⟨ts, hts⟩ : ∃ t : ByteArray, (⟨ls.toArray⟩ : ByteArray) = t := ⟨_, rfl⟩
      have HTS : Hid (Lib.strCells ts = u8s (nums ls) ∧ ts.size = ls.length) := by rw [← hts]; exact ⟨strCells_mk ls, size_list _⟩
      rw [hts] at HLC
      clear hts
      have HOWN := Lib.hid hown
      clear hcs hc hst hby hin hlo
      go_wp2_with fail
      refine HLC.out.mono ?_
      rintro e w2 ⟨rfl, hb2⟩
      have HB2 := Lib.hid hb2
      clear hb2
      by_cases hle : le = 0
      · have tl : (le != 0) = false := by rw [bne_eq_false_iff_eq]; exact hle
        have hlr : lineR c = .ok ls := by
          rcases HLO.out with h | h
          · exact h.2
          · exact absurd hle h.1
        have HLR := Lib.hid hlr
        have hown2 := own_keep HOWN.out (fun b _ hl => HB2.out.block b hl)
        have hnl : (nums out).length = out.length := by unfold nums; rw [List.length_map]
        have hk2 : k * 67108864 ≤ 1048576 * 67108864 := Nat.mul_le_mul_right _ (by omega)
        have hz2 := HB2.out.size
        have hs2 := HTS.out.2
        have hq1 : (nums out).length + ts.size ≤ maxLen := by rw [hnl, hs2]; unfold maxLen; omega
        have hq2 : (nums out).length + ts.size ≤ 140737488355328 := by rw [hnl, hs2]; omega
        have hq3 : w.heap.size ≤ w2.heap.size := by omega
        have HB6 := Lib.hid (fun (w6 : World) (hg : w2.grownBy w6 u4.ownBlock) => Below.grown (hb.trans (HB2.out.mono hz)) hg hq3 (fun b e => own_blk HOWN.out e))
        clear hle hlr hown hnl hk2 hz2 hs2
        obtain ⟨U, hU⟩ : ∃ U, u8s (nums out) = U := ⟨_, rfl⟩
        obtain ⟨N, hN⟩ : ∃ N, (nums out).length = N := ⟨_, rfl⟩
        have HUN := Lib.hid (And.intro hU hN)
        rw [hU, hN] at hown2
        rw [hN] at hq1 hq2
        clear hU hN
        go_wp2_with (at_builtin; refine Lib.wpList_append_own_string w2 rfl (.tmp 26) (.tmp 27) 28 9 rfl w.heap.size 5 i0 Tryz.underlying28 Tryz.underlying9 hi0 hz0 hz1 hz2' u4 N U rfl hown2 ts rfl hq1 hq2 hq3 ?_; intro v6 w6 hown6 hgrow6 _)
        refine ⟨⟨k + 1, out ++ ls, by go_num, by omega, ?_, HB6.out _ hgrow6, ?_, Lib.hid ?_⟩, by simp [intOf]; omega⟩
        · have e1 : nums (out ++ ls) = nums out ++ nums ls := by unfold nums; rw [List.map_append]
          have e2 : u8s (nums out ++ nums ls) = u8s (nums out) ++ u8s (nums ls) := by unfold u8s; rw [List.map_append]
          have e3 : (nums ls).length = ls.length := by unfold nums; rw [List.length_map]
          rw [e1, e2, List.length_append, e3, HUN.out.1, HUN.out.2, ← HTS.out.1, ← HTS.out.2]
          exact hown6
        · rw [List.length_append, Nat.succ_mul]
          omega
        · rw [hsp.out, HST.out, HLR.out]
          cases linesP (L.drop (k + 1)) with
          | error e => exact rfl
          | ok t => show Except.ok (out ++ (ls ++ t)) = Except.ok ((out ++ ls) ++ t); rw [List.append_assoc]
      · have tl : (le != 0) = true := by rw [bne_iff_ne]; exact hle
        have hlr : lineR c = .error le := by
          rcases HLO.out with h | h
          · exact absurd h.1 hle
          · exact h.2
        have HE : Hid (o = ([], le)) := by
          rw [← HO.out]
          unfold printR
          rw [hsp.out, HST.out, hlr]
          exact rfl
        have HBZ := Lib.hid (hb.trans (HB2.out.mono hz))
        clear hle hlr hown hsp
        go_wp2_with fail
        go_ret2
        rw [HE.out]
        exact ⟨rfl, HBZ.out⟩
    · obtain rfl : k = L.length := by omega
      have hsp2 : linesP L = .ok out := by
        have h1 := hsp.out
        rw [List.drop_length] at h1
        rw [h1]
        show Except.ok (out ++ []) = _
        rw [List.append_nil]
      have HSP := Lib.hid hsp2
      have hnl : (nums out).length = out.length := by unfold nums; rw [List.length_map]
      have hcv := own_str hown
      rw [strOf_nums] at hcv
      obtain ⟨A6, k6, rfl⟩ := own_form hown
      rw [hnl] at hcv ⊢
      have HB := Lib.hid hb
      have hk2 : L.length * 67108864 ≤ 1048576 * 67108864 := Nat.mul_le_mul_right _ hlen
      clear hsp hsp2 hlt hown hnl hb
      by_cases m1 : 65536 < out.length
      · have q1 : (65536 : Int) < (out.length : Int) := by omega
        have HE : Hid (o = ([], 220)) := by
          rw [← HO.out]
          unfold printR
          rw [HSP.out]
          exact if_pos (.inl m1)
        clear m1
        go_wp2_with fail
        go_ret2
        rw [HE.out]
        exact ⟨rfl, HB.out⟩
      · have q1 : ¬ ((65536 : Int) < (out.length : Int)) := by omega
        by_cases m2 : 4096 < L.length + 1
        · have q2 : (4096 : Int) < (L.length : Int) + 1 := by omega
          have HE : Hid (o = ([], 220)) := by
            rw [← HO.out]
            unfold printR
            rw [HSP.out]
            exact if_pos (.inr m2)
          clear m1 m2
          go_wp2_with fail
          go_ret2
          rw [HE.out]
          exact ⟨rfl, HB.out⟩
        · have q2 : ¬ ((4096 : Int) < (L.length : Int) + 1) := by omega
          have HE : Hid (o = (out, 0)) := by
            rw [← HO.out]
            unfold printR
            rw [HSP.out]
            exact if_neg (by rintro (h | h); exact m1 h; exact m2 h)
          clear m1 m2
          go_wp2_with fail
          go_ret2
          rw [HE.out]
          exact ⟨rfl, HB.out⟩
end Go.Proofs.YtlibjfmafpiopaaGreatDoor
