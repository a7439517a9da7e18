/- Telling an answer: the contract. -/
import Derived.Test.YtlibjfmafpiopaaGreatDoorTellC
namespace Go.Proofs.YtlibjfmafpiopaaGreatDoor
open Go.RowKit Go.Shelf Scr

set_option maxRecDepth 100000 in
set_option maxHeartbeats 4000000 in
theorem tell17_call {a0 a1 a3 : Addr} (op : Array Value) (k : Int) (a : Ans) (vb vi vp : Value) (w : World) (_ho : op.size = 5) (hk : op[0]? = some (.int .i64 k)) (ha : AnsAt w a vb vi vp) (Lw : Laid a0 a1 a3 w) :
    Calls Tryz.prog 17 #[.agg op, .agg (ansCells a vb vi vp).toArray] w fun e w' => e = .returned (.string ⟨(tellR k a).toArray⟩) ∧ Below w.heap.size w w' := by
  obtain ⟨i0, hi0, hz0, hz1, hz2⟩ := info_parts info9
  have HL := Lib.hid Lw
  have HAN := Lib.hid ha
  have hr := ha.root
  have hh := ha.hroot
  obtain ⟨c0, c1⟩ := ha.code
  clear Lw ha
  go_enter Tryz.func17, Tryz.ntmps17
  go_upto_region 1 with fail
  have hb1 : Below w.heap.size w ((w.alloc (.cells op 31)).alloc (.cells (ansCells a vb vi vp).toArray 47)) := ((Below.refl _ w).alloc (Nat.le_refl _) _).alloc (by simp) _
  have hB := heap_alloc_new (w.alloc (.cells op 31)) (.cells (ansCells a vb vi vp).toArray 47)
  have hP := (Below.heap_alloc (w.alloc (.cells op 31)) (.cells (ansCells a vb vi vp).toArray 47) w.heap.size (by simp)).trans (heap_alloc_new w (.cells op 31))
  have hz1' : ((w.alloc (.cells op 31)).alloc (.cells (ansCells a vb vi vp).toArray 47)).heap.size = w.heap.size + 1 + 1 := by simp
  rw [World.size_alloc] at hB
  obtain ⟨w1, hw1⟩ : ∃ w1, (w.alloc (.cells op 31)).alloc (.cells (ansCells a vb vi vp).toArray 47) = w1 := ⟨_, rfl⟩
  rw [hw1] at hb1 hB hP hz1' ⊢
  clear hw1
  have cell : ∀ (W : World), Below w1.heap.size w1 W → ∀ i v, (ansCells a vb vi vp)[i]? = some v → W.cell? ⟨w.heap.size + 1, i, none⟩ = some v := fun W hb i v hv => by
    rw [hb.cell (p := ⟨w.heap.size + 1, i, none⟩) (by rw [hz1']; exact Nat.lt_succ_self _), cell_of_row _ _ i _ _ _ hB, List.getElem?_toArray]
    exact hv
  have CELL := Lib.hid cell
  have ck : w1.cell? ⟨w.heap.size, 0, none⟩ = some (.int .i64 k) := by rw [cell_of_row _ _ 0 _ _ _ hP]; exact hk
  have cc := cell w1 (Below.refl _ _) 0 _ rfl
  have HB1 := Lib.hid hb1
  have HZ1 := Lib.hid hz1'
  have HIT := Lib.hid (fun W (hb : Below w.heap.size w W) => itoa_call a.code c0 c1 W (HL.out.below hb).tab)
  clear hb1 hB hP hz1' cell
  by_cases hc : a.code = 0
  · have tc : (a.code != 0) = false := by rw [bne_eq_false_iff_eq]; exact hc
    have HC := Lib.hid hc
    clear hc
    go_upto_region 6 with fail
    have hs2 : (w1.alloc (.cells #[.slice none 0 0] 42)).heap.size = w1.heap.size + 1 := by simp
    have hR := heap_alloc_new w1 (.cells #[.slice none 0 0] 42)
    have hb2 : Below w1.heap.size w1 (w1.alloc (.cells #[.slice none 0 0] 42)) := (Below.refl _ _).alloc (Nat.le_refl _) _
    obtain ⟨w2, hw2⟩ : ∃ w2, w1.alloc (.cells #[.slice none 0 0] 42) = w2 := ⟨_, rfl⟩
    rw [hw2] at hs2 hR hb2 ⊢
    have HS2 := Lib.hid hs2
    clear hw2 hs2
    have hsl := statCells_len hr
    have hst : w2.rangeAt (w.heap.size + 1) 2 (statCells a) := fun j v hv => CELL.out w2 hb2 (2 + j) v (ans_stat j v hv)
    obtain ⟨d41, hu41, hd41⟩ : ∃ d, Tryz.prog.underlying 41 = some d ∧ d.isRow = true := ⟨_, Tryz.underlying41, rfl⟩
    have hi41 : (Tryz.prog.info? 41).map (·.size) = some (statCells a).length := by rw [hsl]; kernel_rfl
    go_wp2_with (refine wpList_load_mid rfl 41 (.tmp 20) rfl (w.heap.size + 1) 2 rfl (statCells a) d41 hst hu41 hd41 hi41 ?_)
    obtain ⟨w3, e3, b3, s3, c3⟩ := store_new w2 #[.int .i64 0, .int .u8 0, .int .u8 0, .int .u8 0, .int .u8 0, .int .u8 0, .int .u8 0, .int .u8 0, .int .u8 0, .int .u8 0, .int .u8 0, .int .u8 0, .int .u8 0, .int .u8 0, .int .u8 0, .int .u8 0, .int .u8 0, .int .u8 0, .int .u8 0, .int .u8 0, .int .u8 0, .int .u8 0, .int .u8 0, .int .u8 0, .int .u8 0, .int .u8 0, .int .u8 0, .int .u8 0, .int .u8 0, .int .u8 0, .int .u8 0, .int .u8 0, .int .u8 0, .int .i64 0, .int .i64 0, .bool false, .bool false] 41 (statCells a) (by rw [hsl]; rfl) (statCells_one a)
    rw [e3]
    clear e3
    have HS3 := Lib.hid s3
    have HC3 := Lib.hid c3
    have HR := Lib.hid hR
    clear hst hu41 hd41 hi41 hsl s3 c3 hR
    have ck3 : w3.cell? ⟨w.heap.size, 0, none⟩ = some (.int .i64 k) := (b3.cell (p := ⟨w.heap.size, 0, none⟩) (by have := HS2.out; have := HZ1.out; simp; omega)).trans ((hb2.cell (p := ⟨w.heap.size, 0, none⟩) (by have := HZ1.out; simp; omega)).trans ck)
    have b23 : Below w1.heap.size w1 w3 := hb2.trans (b3.mono (by have := HS2.out; omega))
    have b03 : Below w.heap.size w w3 := HB1.out.trans (b23.mono HB1.out.size)
    have CE := Lib.hid (fun W (hb : Below w1.heap.size w3 W) i v hv => CELL.out W (b23.trans hb) i v hv)
    have hrow : RowT w3 w1.heap.size w1.heap.size (fun b => b = w1.heap.size ∨ b = w2.heap.size) [] (.slice none 0 0) :=
      ⟨(b3.block w1.heap.size (by have := HS2.out; omega)).trans HR.out, ⟨rfl, .inl ⟨rfl, rfl⟩⟩, fun b e => by cases e⟩
    have HTB := Lib.hid (show Lib.TabBelow Tryz.prog w1.heap.size w3 "internal/strconv.uint64pow10" .u64 Lib.pow10Tab from fun W hb => (HL.out.below (b03.trans (hb.mono HB1.out.size))).tab)
    have HX3 := Lib.hid (show ∀ b, (b = w1.heap.size ∨ b = w2.heap.size) → b < w3.heap.size from fun b hb => by have := HS2.out; have := HS3.out; rcases hb with rfl | rfl <;> omega)
    have HROW := Lib.hid hrow
    have HB03 := Lib.hid b03
    have HB23 := Lib.hid b23
    have hR1 : w1.heap.size < w3.heap.size := HX3.out _ (.inl rfl)
    have cR3 : w3.cell? ⟨w1.heap.size, 0, none⟩ = some (.slice none 0 0) := by rw [cell_of_row _ _ 0 _ _ _ hrow.1]; rfl
    clear hrow b03 b23 hb2 b3 HIT cc
    have hT : tellR k a = match tellW k a with
        | some (w, L) => w ++ tail32 L
        | none => [111, 107] := if_neg (by rw [HC.out]; exact fun h => h rfl)
    have HTL := Lib.hid hT
    clear hT
    have END := Lib.hid (fun (W : World) (x : Bs) (L : List Bs) (v : Value) (hr : RowT W w1.heap.size w1.heap.size (fun b => b = w1.heap.size ∨ b = w2.heap.size) (x :: L) v) (hp : PF w1.heap.size (fun b => b = w1.heap.size ∨ b = w2.heap.size) w1.heap.size w1.heap.size w3 W) (h1 : (x :: L).length ≤ 4194304) (h2 : (x ++ tail32 L).length ≤ 140737488355328) =>
      show W.cell? ⟨w1.heap.size, 0, none⟩ = some v ∧ Calls Tryz.prog 36 #[v, .string ⟨#[32]⟩] W fun e w' => e = .returned (.string ⟨(x ++ tail32 L).toArray⟩) ∧ Below w.heap.size w w' from
      ⟨by rw [cell_of_row _ _ 0 _ _ _ hr.1]; rfl, (hr.join h1 h2).mono fun e w' ⟨he, hb⟩ => ⟨he, (HB03.out.trans ((hp.below (Nat.le_refl _) (Nat.le_of_lt hR1)).mono HB1.out.size)).trans (hb.mono (Nat.le_trans (Nat.le_trans HB1.out.size (Nat.le_of_lt hR1)) hp.size))⟩⟩)
    by_cases k2 : k = 2
    · have t2 : (k == 2) = true := by rw [beq_iff_eq]; exact k2
      have HE : Hid (tellR k a = hex a.bytes ++ tail32 []) := by rw [HTL.out]; unfold tellW; rw [if_pos k2]; exact rfl
      obtain ⟨Ab, cb, rfl, hby, hbl⟩ := HAN.out.bytes
      have c1b := CE.out w3 (Below.refl _ _) 1 _ rfl
      have HHX := Lib.hid (fun W (hb : Below w3.heap.size w3 W) => hex33_call Ab cb a.bytes W ((hby.below HB03.out).below (hb.mono (Nat.le_refl _))) (by omega))
      have CL := Lib.hid (fun (W : World) (hb : Below w3.heap.size w3 W) => show W.cell? ⟨w1.heap.size, 0, none⟩ = some (.slice none 0 0) from by rw [cell_of_row _ _ 0 _ _ _ (HROW.out.below hb).1]; rfl)
      have hxl : (hex a.bytes).length ≤ 2097154 := by
        unfold hex
        split
        · simp
        · rw [hexP_len]; omega
      have HRW := Lib.hid hR1
      clear k2 hby
      go_upto_region 10 with fail
      go_region_law (first
          | ((refine step_app rfl (.tmp 26) (.tmp 30) 42 rfl w1.heap.size 9 i0 _ 1 16 Tryz.underlying42 hi0 hz0 hz1 hz2 rfl (by decide) (.slice none 0 0) 0 (sv []) rfl ((own_keep HROW.out.2.1 (fun b _ hl => Below.block hBW b hl)).alloc _) (some ⟨_, 0, none⟩) 1 1 [.string ⟨(hex a.bytes).toArray⟩] rfl (src_new1 _ _ _) (by simp [Value.oneCell']) (by unfold maxLen; omega) (by omega) (by have h1 := hBW.size; have h2 := HRW.out; simp; omega) ?_); intro v6 w6' hown6 hgrow6 hat6; obtain ⟨A6, k6, rfl⟩ := own_form hown6; obtain ⟨qR, qF, qB⟩ := (HROW.out.below hBW).app (x := hex a.bytes) (Nat.le_refl _) (.inl rfl) (fun b e => Nat.lt_of_lt_of_le (HX3.out b e) hBW.size) hgrow6 hat6 hown6; have cR6 : w6'.cell? ⟨w1.heap.size, 0, none⟩ = some (.slice none 0 0) := (by rw [cell_of_row _ _ 0 _ _ _ qB]; rfl); have fR6 := frozen_of_row _ _ 0 _ _ qB)
          | (go_simp; go_at_call 33; (refine (HHX.out _ ((Below.refl _ _).drew)).mono ?_); rintro e wn ⟨rfl, hbn⟩; have hBW : Below w3.heap.size w3 wn := ((Below.refl _ _).drew).trans hbn; have cRn := CL.out _ hBW; have hRn : w1.heap.size < wn.heap.size := Nat.lt_of_lt_of_le HRW.out hBW.size; have hRne : w1.heap.size ≠ wn.heap.size := Nat.ne_of_lt hRn))
      all_goals
        simp only [Nat.zero_add, List.nil_append] at qR qF
        obtain ⟨w7, hw7⟩ : ∃ w7, w6'.setCell ⟨w1.heap.size, 0, none⟩ (.slice A6 1 k6) = w7 := ⟨_, rfl⟩
        rw [hw7] at qR qF ⊢
        clear hw7 cR6 fR6 qB hown6 hgrow6 hat6
        obtain ⟨cE, hE⟩ := END.out _ _ _ _ qR ((PF.of hBW).trans qF) (by simp) (by simp [tail32]; omega)
        have HEE := Lib.hid hE
        clear hE qR qF
        go_wp2_with fail
        refine HEE.out.mono ?_
        rintro e wz ⟨rfl, hbz⟩
        have HBZ := Lib.hid hbz
        clear hbz
        go_wp2_with fail
        go_ret
        exact ⟨(by rw [HE.out]; rfl), HBZ.out⟩
    · have t2 : (k == 2) = false := by rw [beq_eq_false_iff_ne]; exact k2
      by_cases k3 : k = 3
      · have t3 : (k == 3) = true := by rw [beq_iff_eq]; exact k3
        have HE : Hid (tellR k a = Lib.itoa a.length ++ tail32 [hex a.root, Lib.itoa a.index, Lib.itoa a.expiry, bit a.hold, bit a.gone]) := by rw [HTL.out]; unfold tellW; rw [if_neg k2, if_pos k3]; exact rfl
        have XC := Lib.hid (fun (W : World) (hp : PF w1.heap.size (fun b => b = w1.heap.size ∨ b = w2.heap.size) w1.heap.size w1.heap.size w3 W) (i : Nat) (v : Value) (hv : (statCells a)[i]? = some v) => show W.cell? ⟨w2.heap.size, i, none⟩ = some v from
          (World.cell?_of_block (w := w3) (a := ⟨w2.heap.size, i, none⟩) (hp.block w2.heap.size (HX3.out _ (.inr rfl)) (.inr ⟨.inr rfl, by have := HS2.out; omega, by have := HS2.out; omega⟩))).trans (HC3.out i v hv))
        have cN : w3.cell? ⟨w2.heap.size, 0, none⟩ = some (.int .i64 a.length) := HC3.out 0 _ rfl
        have HN := Lib.hid (num_arg HROW.out [a.length] (Nat.le_refl _) (.inl rfl) HX3.out HTB.out (by simpa using HAN.out.length) (by simp) 1 rfl)
        have hl1 : (Lib.itoa a.length).length ≤ 21 := Lib.itoa_length_le a.length HAN.out.length.1 HAN.out.length.2
        have hl2 : (Lib.itoa a.index).length ≤ 21 := Lib.itoa_length_le a.index HAN.out.index.1 HAN.out.index.2
        have hl3 : (Lib.itoa a.expiry).length ≤ 21 := Lib.itoa_length_le a.expiry HAN.out.expiry.1 HAN.out.expiry.2
        have hl4 : ∀ b, (bit b).length = 1 := fun b => by cases b <;> rfl
        have hxl : (hex a.root).length ≤ 64 := by
          unfold hex
          split
          · simp
          · rw [hexP_len]; omega
        clear k2 k3
        go_wp2_with fail
        refine HN.out.mono ?_
        rintro e wa ⟨⟨u, rfl⟩, va, qRa, qFa⟩
        simp only [List.nil_append, List.map_cons, List.map_nil] at qRa
        have hBa : Below w1.heap.size w3 wa := qFa.below (Nat.le_refl _) (Nat.le_of_lt hR1)
        have HRa := Lib.hid qRa
        have HPa := Lib.hid qFa
        have HXa := Lib.hid (show ∀ b, (b = w1.heap.size ∨ b = w2.heap.size) → b < wa.heap.size from fun b e => Nat.lt_of_lt_of_le (HX3.out b e) qFa.size)
        have HRWa := Lib.hid (show w1.heap.size < wa.heap.size from HXa.out _ (.inl rfl))
        have CLa := Lib.hid (fun (W : World) (hb : Below wa.heap.size wa W) => show W.cell? ⟨w1.heap.size, 0, none⟩ = some va from by rw [cell_of_row _ _ 0 _ _ _ (HRa.out.below hb).1]; rfl)
        have cRa := CLa.out _ (Below.refl _ _)
        have hbyt : Byts wa (some ⟨w2.heap.size, 1, none⟩) a.root := byts_of (HXa.out _ (.inr rfl)) (fun i x hx => XC.out wa HPa.out _ _ (stat_root i x hx)) HAN.out.rootR
        have HHX := Lib.hid (show ∀ W, Below wa.heap.size wa W → Calls Tryz.prog 33 #[.slice (some ⟨w2.heap.size, 1, none⟩) 32 32] W fun e w' => e = .returned (.string ⟨(hex a.root).toArray⟩) ∧ Below W.heap.size W w' from fun W hb => by
          have h1 := hex33_call (some ⟨w2.heap.size, 1, none⟩) 32 a.root W (hbyt.below hb) (by omega)
          rwa [hr] at h1)
        clear qRa qFa hbyt hBa cN
        go_upto_region 13 with fail
        go_region_law (first
            | ((refine step_app rfl (.tmp 39) (.tmp 43) 42 rfl w1.heap.size 9 i0 _ 1 16 Tryz.underlying42 hi0 hz0 hz1 hz2 rfl (by decide) va ([Lib.itoa a.length]).length (sv ([Lib.itoa a.length])) rfl ((own_keep HRa.out.2.1 (fun b _ hl => Below.block hBW b hl)).alloc _) (some ⟨_, 0, none⟩) 1 1 [.string ⟨(hex a.root).toArray⟩] rfl (src_new1 _ _ _) (by simp [Value.oneCell']) (by unfold maxLen; simp) (by simp) (by have h1 := hBW.size; have h2 := HRWa.out; simp; omega) ?_); intro v6 w6' hown6 hgrow6 hat6; obtain ⟨A6, k6, rfl⟩ := own_form hown6; obtain ⟨qR, qF, qB⟩ := (HRa.out.below hBW).app (x := hex a.root) (Nat.le_refl _) (.inl rfl) (fun b e => Nat.lt_of_lt_of_le (HXa.out b e) hBW.size) hgrow6 hat6 hown6; have cR6 : w6'.cell? ⟨w1.heap.size, 0, none⟩ = some va := (by rw [cell_of_row _ _ 0 _ _ _ qB]; rfl); have fR6 := frozen_of_row _ _ 0 _ _ qB)
            | (go_simp; go_at_call 33; (refine (HHX.out _ ((Below.refl _ _).drew)).mono ?_); rintro e wn ⟨rfl, hbn⟩; have hBW : Below wa.heap.size wa wn := ((Below.refl _ _).drew).trans hbn; have cRn := CLa.out _ hBW; have hRn : w1.heap.size < wn.heap.size := Nat.lt_of_lt_of_le HRWa.out hBW.size; have hRne : w1.heap.size ≠ wn.heap.size := Nat.ne_of_lt hRn))
        all_goals
          obtain ⟨w7, hw7⟩ : ∃ w7, w6'.setCell ⟨w1.heap.size, 0, none⟩ (.slice A6 2 k6) = w7 := ⟨_, rfl⟩
          have qR7 : RowT w7 w1.heap.size w1.heap.size (fun b => b = w1.heap.size ∨ b = w2.heap.size) [Lib.itoa a.length, hex a.root] (.slice A6 2 k6) := by rw [← hw7]; exact qR
          have qF7 : PF w1.heap.size (fun b => b = w1.heap.size ∨ b = w2.heap.size) w1.heap.size w1.heap.size w3 w7 := (HPa.out.trans (PF.of hBW)).trans (by rw [← hw7]; exact qF)
          rw [hw7]
          clear hw7 cR6 fR6 qB hown6 hgrow6 hat6 qR qF
          have HR7 := Lib.hid qR7
          have HP7 := Lib.hid qF7
          have HX7 := Lib.hid (show ∀ b, (b = w1.heap.size ∨ b = w2.heap.size) → b < w7.heap.size from fun b e => Nat.lt_of_lt_of_le (HX3.out b e) qF7.size)
          have cI := XC.out w7 qF7 33 _ (stat_tail hr 0 _ rfl)
          have cE := XC.out w7 qF7 34 _ (stat_tail hr 1 _ rfl)
          have HT7 := Lib.hid (show Lib.TabBelow Tryz.prog w1.heap.size w7 "internal/strconv.uint64pow10" .u64 Lib.pow10Tab from fun W hb => HTB.out W ((HP7.out.below (Nat.le_refl _) (Nat.le_of_lt hR1)).trans hb))
          have HN2 := Lib.hid (num_arg HR7.out [a.index, a.expiry] (Nat.le_refl _) (.inl rfl) HX7.out HT7.out (by simpa using ⟨HAN.out.index, HAN.out.expiry⟩) (by simp) 2 rfl)
          clear qR7 qF7
          go_wp2_with fail
          refine HN2.out.mono ?_
          rintro e wb ⟨⟨u2, rfl⟩, vc, qRb, qFb⟩
          simp only [List.cons_append, List.nil_append, List.map_cons, List.map_nil] at qRb
          have HPb := Lib.hid (HP7.out.trans qFb)
          have HRb := Lib.hid qRb
          have HXb := Lib.hid (show ∀ b, (b = w1.heap.size ∨ b = w2.heap.size) → b < wb.heap.size from fun b e => Nat.lt_of_lt_of_le (HX7.out b e) qFb.size)
          have cH := XC.out wb HPb.out 35 _ (stat_tail hr 2 _ rfl)
          have cG := XC.out wb HPb.out 36 _ (stat_tail hr 3 _ rfl)
          have HBI := Lib.hid (bit_arg HRb.out [a.hold, a.gone] (Nat.le_refl _) (.inl rfl) HXb.out (by simp) 2 rfl)
          clear qRb qFb cI cE
          go_wp2_with fail
          refine HBI.out.mono ?_
          rintro e wc ⟨⟨u3, rfl⟩, vd, qRc, qFc⟩
          simp only [List.cons_append, List.nil_append, List.map_cons, List.map_nil] at qRc
          obtain ⟨cE, hE⟩ := END.out _ _ _ _ qRc (HPb.out.trans qFc) (by simp) (by simp [tail32, hl4]; omega)
          have HEE := Lib.hid hE
          clear hE qRc qFc
          go_wp2_with fail
          refine HEE.out.mono ?_
          rintro e wz ⟨rfl, hbz⟩
          have HBZ := Lib.hid hbz
          clear hbz
          go_wp2_with fail
          go_ret
          exact ⟨(by rw [HE.out]; rfl), HBZ.out⟩
      · have t3 : (k == 3) = false := by rw [beq_eq_false_iff_ne]; exact k3
        by_cases k9 : k = 9
        · have t9 : (k == 9) = true := by rw [beq_iff_eq]; exact k9
          have HE : Hid (tellR k a = Lib.itoa a.hsize ++ tail32 [hex a.hroot]) := by rw [HTL.out]; unfold tellW; rw [if_neg k2, if_neg k3, if_pos k9]; exact rfl
          have cN := CE.out w3 (Below.refl _ _) 40 _ (ans_hsize hr)
          have HN := Lib.hid (num_arg HROW.out [a.hsize] (Nat.le_refl _) (.inl rfl) HX3.out HTB.out (by simpa using HAN.out.hsize) (by simp) 1 rfl)
          have hile : (Lib.itoa a.hsize).length ≤ 21 := Lib.itoa_length_le a.hsize HAN.out.hsize.1 HAN.out.hsize.2
          have hxl : (hex a.hroot).length ≤ 64 := by
            unfold hex
            split
            · simp
            · rw [hexP_len]; omega
          clear k2 k3 k9
          go_wp2_with fail
          refine HN.out.mono ?_
          rintro e wa ⟨⟨u, rfl⟩, va, qRa, qFa⟩
          simp only [List.nil_append, List.map_cons, List.map_nil] at qRa
          have hBa : Below w1.heap.size w3 wa := qFa.below (Nat.le_refl _) (Nat.le_of_lt hR1)
          have HRa := Lib.hid qRa
          have HPa := Lib.hid qFa
          have HXa := Lib.hid (show ∀ b, (b = w1.heap.size ∨ b = w2.heap.size) → b < wa.heap.size from fun b e => Nat.lt_of_lt_of_le (HX3.out b e) qFa.size)
          have HRWa := Lib.hid (show w1.heap.size < wa.heap.size from HXa.out _ (.inl rfl))
          have CLa := Lib.hid (fun (W : World) (hb : Below wa.heap.size wa W) => show W.cell? ⟨w1.heap.size, 0, none⟩ = some va from by rw [cell_of_row _ _ 0 _ _ _ (HRa.out.below hb).1]; rfl)
          have cRa := CLa.out _ (Below.refl _ _)
          have hbyt : Byts wa (some ⟨w.heap.size + 1, 41, none⟩) a.hroot := byts_of (by have := HZ1.out; have := HXa.out _ (.inl rfl); omega) (fun i x hx => CE.out wa hBa _ _ (ans_hroot hr i x hx)) HAN.out.hrootR
          have HHX := Lib.hid (show ∀ W, Below wa.heap.size wa W → Calls Tryz.prog 33 #[.slice (some ⟨w.heap.size + 1, 41, none⟩) 32 32] W fun e w' => e = .returned (.string ⟨(hex a.hroot).toArray⟩) ∧ Below W.heap.size W w' from fun W hb => by
            have h1 := hex33_call (some ⟨w.heap.size + 1, 41, none⟩) 32 a.hroot W (hbyt.below hb) (by omega)
            rwa [hh] at h1)
          clear qRa qFa hbyt hBa
          go_upto_region 18 with fail
          go_region_law (first
              | ((refine step_app rfl (.tmp 67) (.tmp 72) 42 rfl w1.heap.size 9 i0 _ 1 16 Tryz.underlying42 hi0 hz0 hz1 hz2 rfl (by decide) va ([Lib.itoa a.hsize]).length (sv ([Lib.itoa a.hsize])) rfl ((own_keep HRa.out.2.1 (fun b _ hl => Below.block hBW b hl)).alloc _) (some ⟨_, 0, none⟩) 1 1 [.string ⟨(hex a.hroot).toArray⟩] rfl (src_new1 _ _ _) (by simp [Value.oneCell']) (by unfold maxLen; simp) (by simp) (by have h1 := hBW.size; have h2 := HRWa.out; simp; omega) ?_); intro v6 w6' hown6 hgrow6 hat6; obtain ⟨A6, k6, rfl⟩ := own_form hown6; obtain ⟨qR, qF, qB⟩ := (HRa.out.below hBW).app (x := hex a.hroot) (Nat.le_refl _) (.inl rfl) (fun b e => Nat.lt_of_lt_of_le (HXa.out b e) hBW.size) hgrow6 hat6 hown6; have cR6 : w6'.cell? ⟨w1.heap.size, 0, none⟩ = some va := (by rw [cell_of_row _ _ 0 _ _ _ qB]; rfl); have fR6 := frozen_of_row _ _ 0 _ _ qB)
              | (go_simp; go_at_call 33; (refine (HHX.out _ ((Below.refl _ _).drew)).mono ?_); rintro e wn ⟨rfl, hbn⟩; have hBW : Below wa.heap.size wa wn := ((Below.refl _ _).drew).trans hbn; have cRn := CLa.out _ hBW; have hRn : w1.heap.size < wn.heap.size := Nat.lt_of_lt_of_le HRWa.out hBW.size; have hRne : w1.heap.size ≠ wn.heap.size := Nat.ne_of_lt hRn))
          all_goals
            obtain ⟨w7, hw7⟩ : ∃ w7, w6'.setCell ⟨w1.heap.size, 0, none⟩ (.slice A6 2 k6) = w7 := ⟨_, rfl⟩
            have qR7 : RowT w7 w1.heap.size w1.heap.size (fun b => b = w1.heap.size ∨ b = w2.heap.size) [Lib.itoa a.hsize, hex a.hroot] (.slice A6 2 k6) := by rw [← hw7]; exact qR
            have qF7 : PF w1.heap.size (fun b => b = w1.heap.size ∨ b = w2.heap.size) w1.heap.size w1.heap.size w3 w7 := (HPa.out.trans (PF.of hBW)).trans (by rw [← hw7]; exact qF)
            rw [hw7]
            clear hw7 cR6 fR6 qB hown6 hgrow6 hat6 qR qF
            obtain ⟨cE, hE⟩ := END.out _ _ _ _ qR7 qF7 (by simp) (by simp [tail32]; omega)
            have HEE := Lib.hid hE
            clear hE qR7 qF7
            go_wp2_with fail
            refine HEE.out.mono ?_
            rintro e wz ⟨rfl, hbz⟩
            have HBZ := Lib.hid hbz
            clear hbz
            go_wp2_with fail
            go_ret
            exact ⟨(by rw [HE.out]; rfl), HBZ.out⟩
        · have t9 : (k == 9) = false := by rw [beq_eq_false_iff_ne]; exact k9
          by_cases kn : k = 15 ∨ k = 11 ∨ k = 14
          · have HE : Hid (tellR k a = Lib.itoa a.num ++ tail32 []) := by rw [HTL.out]; unfold tellW; rw [if_neg k2, if_neg k3, if_neg k9, if_pos kn]; exact rfl
            have cN := CE.out w3 (Below.refl _ _) 73 _ (ans_num hr hh)
            have HN := Lib.hid (num_arg HROW.out [a.num] (Nat.le_refl _) (.inl rfl) HX3.out HTB.out (by simpa using HAN.out.num) (by simp) 1 rfl)
            have hile : (Lib.itoa a.num).length ≤ 21 := Lib.itoa_length_le a.num HAN.out.num.1 HAN.out.num.2
            have fin : True := trivial
            rcases kn with rfl | rfl | rfl
            all_goals
              go_wp2_with fail
              refine HN.out.mono ?_
              rintro e w7 ⟨⟨u, rfl⟩, v', qR, qF⟩
              obtain ⟨cE, hE⟩ := END.out _ _ _ _ qR qF (by simp) (by simp [tail32]; omega)
              have HEE := Lib.hid hE
              clear hE qR qF
              go_wp2_with fail
              refine HEE.out.mono ?_
              rintro e wz ⟨rfl, hbz⟩
              have HBZ := Lib.hid hbz
              clear hbz
              go_wp2_with fail
              go_ret
              exact ⟨(by rw [HE.out]; rfl), HBZ.out⟩
          · have hn1 : ¬ k = 15 := fun h => kn (.inl h)
            have hn2 : ¬ k = 11 := fun h => kn (.inr (.inl h))
            have hn3 : ¬ k = 14 := fun h => kn (.inr (.inr h))
            have t15 : (k == 15) = false := by rw [beq_eq_false_iff_ne]; exact hn1
            have t11 : (k == 11) = false := by rw [beq_eq_false_iff_ne]; exact hn2
            have t14 : (k == 14) = false := by rw [beq_eq_false_iff_ne]; exact hn3
            by_cases ki : k = 7 ∨ k = 8
            · have HE : Hid (tellR k a = Lib.itoa a.ids.length ++ tail32 a.ids) := by rw [HTL.out]; unfold tellW; rw [if_neg k2, if_neg k3, if_neg k9, if_neg kn, if_pos ki]; exact rfl
              obtain ⟨Ai, ci, rfl, hil, hib, hic⟩ := HAN.out.ids
              have cN := CE.out w3 (Below.refl _ _) 39 _ (ans_ids hr)
              have HN := Lib.hid (num_arg HROW.out [(a.ids.length : Int)] (Nat.le_refl _) (.inl rfl) HX3.out HTB.out (by simp; omega) (by simp) 1 rfl)
              have hile : (Lib.itoa a.ids.length).length ≤ 21 := Lib.itoa_length_le a.ids.length (by omega) (by omega)
              have htl : (tail32 a.ids).length ≤ 1048576 * 1048577 := Nat.le_trans (tail32_len 1048576 _ hib) (Nat.mul_le_mul_right _ hil)
              have HIC := Lib.hid hic
              have k78 : (k == 7) = true ∨ ((k == 7) = false ∧ (k == 8) = true) := by
                rcases ki with rfl | rfl
                · exact .inl rfl
                · exact .inr ⟨rfl, rfl⟩
              clear k2 k3 k9 kn hn1 hn2 hn3 ki hib hic
              rcases k78 with k7 | ⟨k7, k8⟩
              all_goals
                go_wp2_with fail
                refine HN.out.mono ?_
                rintro e wa ⟨⟨u, rfl⟩, va, qRa, qFa⟩
                simp only [List.nil_append, List.map_cons, List.map_nil] at qRa
                have hBa : Below w1.heap.size w3 wa := qFa.below (Nat.le_refl _) (Nat.le_of_lt hR1)
                have HRa := Lib.hid qRa
                have HPa := Lib.hid qFa
                have HXa := Lib.hid (show ∀ b, (b = w1.heap.size ∨ b = w2.heap.size) → b < wa.heap.size from fun b e => Nat.lt_of_lt_of_le (HX3.out b e) qFa.size)
                have HRWa := Lib.hid (show w1.heap.size < wa.heap.size from HXa.out _ (.inl rfl))
                have CLa := Lib.hid (fun (W : World) (hb : Below wa.heap.size wa W) => show W.cell? ⟨w1.heap.size, 0, none⟩ = some va from by rw [cell_of_row _ _ 0 _ _ _ (HRa.out.below hb).1]; rfl)
                have cRa := CLa.out _ (Below.refl _ _)
                have cNa := CE.out wa hBa 39 _ (ans_ids hr)
                have HSRC := Lib.hid (show Src wa 1 Ai a.ids.length (sv a.ids) from ⟨by simp [sv], fun h0 => by
                  obtain ⟨b, off, e, hbl, hc⟩ := HIC.out h0
                  refine ⟨_, e, fun j u hu => ?_⟩
                  unfold sv at hu
                  rw [List.getElem?_map] at hu
                  cases hq : a.ids[j]? with
                  | none => rw [hq] at hu; cases hu
                  | some l =>
                    rw [hq] at hu
                    cases hu
                    rw [Addr.add_mid]
                    exact ((HB03.out.trans (hBa.mono HB1.out.size)).cell (p := ⟨b, off + j, none⟩) hbl).trans (hc j l hq)⟩)
                clear qRa qFa hBa cN
                go_wp2_with (at_builtin; refine wpList_app rfl (.tmp 92) (.tmp 94) 42 rfl w1.heap.size 9 i0 _ 1 16 Tryz.underlying42 hi0 hz0 hz1 hz2 rfl (by decide) va 1 (sv [Lib.itoa a.ids.length]) rfl HRa.out.2.1 Ai a.ids.length ci (sv a.ids) rfl HSRC.out (by intro u hu; simp [sv] at hu; obtain ⟨l, _, rfl⟩ := hu; simp [Value.oneCell']) (by unfold maxLen; omega) (by omega) (by have h2 := HRWa.out; omega) ?_; intro v6 w6' hown6 hgrow6 hat6; obtain ⟨A6, k6, rfl⟩ := own_form hown6; obtain ⟨qR, qF, qB⟩ := HRa.out.apps (xs := a.ids) (Nat.le_refl _) (.inl rfl) HXa.out hgrow6 hat6 hown6; have cR6 : w6'.cell? ⟨w1.heap.size, 0, none⟩ = some va := (by rw [cell_of_row _ _ 0 _ _ _ qB]; rfl); have fR6 := frozen_of_row _ _ 0 _ _ qB)
                obtain ⟨_, hE⟩ := END.out _ _ _ _ qR (HPa.out.trans qF) (by simp; omega) (by simp; omega)
                clear cR6 fR6 qB hown6 hgrow6 hat6
                refine hE.mono ?_
                rintro e wz ⟨rfl, hbz⟩
                have HBZ := Lib.hid hbz
                clear hbz hE qR qF
                go_wp2_with fail
                go_ret
                exact ⟨(by rw [HE.out]; rfl), HBZ.out⟩
            · have hn7 : ¬ k = 7 := fun h => ki (.inl h)
              have hn8 : ¬ k = 8 := fun h => ki (.inr h)
              have t7 : (k == 7) = false := by rw [beq_eq_false_iff_ne]; exact hn7
              have t8 : (k == 8) = false := by rw [beq_eq_false_iff_ne]; exact hn8
              by_cases kp : k = 16
              · have HE : Hid (tellR k a = Lib.itoa a.num ++ tail32 (a.proof.map hex)) := by rw [HTL.out]; unfold tellW; rw [if_neg k2, if_neg k3, if_neg k9, if_neg kn, if_neg ki, if_pos kp]; exact rfl
                have t16 : (k == 16) = true := by rw [beq_iff_eq]; exact kp
                obtain ⟨Ap, cp, rfl, hpl, hpb, hpc⟩ := HAN.out.proof
                have cN := CE.out w3 (Below.refl _ _) 73 _ (ans_num hr hh)
                have HN := Lib.hid (num_arg HROW.out [a.num] (Nat.le_refl _) (.inl rfl) HX3.out HTB.out (by simpa using HAN.out.num) (by simp) 1 rfl)
                have hile : (Lib.itoa a.num).length ≤ 21 := Lib.itoa_length_le a.num HAN.out.num.1 HAN.out.num.2
                have hxh : ∀ l ∈ a.proof.map hex, l.length ≤ 64 := by
                  intro l hm
                  obtain ⟨q, hq, rfl⟩ := List.mem_map.1 hm
                  have := (hpb q hq).1
                  unfold hex
                  split
                  · simp
                  · rw [hexP_len]; omega
                have htl : (tail32 (a.proof.map hex)).length ≤ 1048576 * 65 := Nat.le_trans (tail32_len 64 _ hxh) (Nat.mul_le_mul_right _ (by simpa using hpl))
                have HPC := Lib.hid hpc
                have HPBB := Lib.hid hpb
                obtain ⟨d39, hu39, hd39⟩ : ∃ d, Tryz.prog.underlying 39 = some d ∧ d.isRow = true := ⟨_, Tryz.underlying39, rfl⟩
                have HU39 := Lib.hid hu39
                have HD39 := Lib.hid hd39
                have HI39 : Hid ((Tryz.prog.info? 39).map (·.size) = some 32) := by show (Tryz.prog.info? 39).map (·.size) = some 32; kernel_rfl
                clear k2 k3 k9 kn hn1 hn2 hn3 ki hn7 hn8 kp hpb hpc hxh hu39 hd39
                go_wp2_with fail
                refine HN.out.mono ?_
                rintro e wa ⟨⟨u, rfl⟩, va, qRa, qFa⟩
                simp only [List.nil_append, List.map_cons, List.map_nil] at qRa
                have HRa := Lib.hid qRa
                have HPa := Lib.hid qFa
                have cPa := CE.out wa (qFa.below (Nat.le_refl _) (Nat.le_of_lt hR1)) 74 _ (ans_proof hr hh)
                clear qRa qFa cN
                go_wp2_with fail
                go_loopw [106] (fun i wr => ∃ (j : Nat) (v' : Value), i = .int .i64 j ∧ j ≤ a.proof.length ∧ RowT wr w1.heap.size w1.heap.size (fun b => b = w1.heap.size ∨ b = w2.heap.size) ([Lib.itoa a.num] ++ (a.proof.take j).map hex) v' ∧ PF w1.heap.size (fun b => b = w1.heap.size ∨ b = w2.heap.size) w1.heap.size w1.heap.size w3 wr)
                  (fun i _ => a.proof.length - (intOf i).toNat)
                case atStart => exact ⟨0, va, rfl, Nat.zero_le _, HRa.out, HPa.out⟩
                case round =>
                  obtain ⟨j, v', rfl, hj, hrow, hpf⟩ := hrel
                  by_cases hjl : j < a.proof.length
                  · have j0 : (0 : Int) ≤ (j : Int) := Int.natCast_nonneg _
                    have j1 : (j : Int) < (a.proof.length : Int) := by omega
                    obtain ⟨gb, go1, rfl, hgl, hgc⟩ := HPC.out (by omega)
                    obtain ⟨q, hq⟩ : ∃ q, a.proof[j]? = some q := ⟨_, List.getElem?_eq_getElem hjl⟩
                    obtain ⟨hq32, hqr⟩ := HPBB.out q (List.mem_of_getElem? hq)
                    have hbr : Below w1.heap.size w3 wr := hpf.below (Nat.le_refl _) (Nat.le_of_lt hR1)
                    have hrg : wr.rangeAt gb (go1 + j * 32) (q.map fun x => Value.int .u8 x) := fun i v hv => by
                      rw [List.getElem?_map] at hv
                      cases hi : q[i]? with
                      | none => rw [hi] at hv; cases hv
                      | some x =>
                        rw [hi] at hv
                        cases hv
                        exact ((HB03.out.trans (hbr.mono HB1.out.size)).cell (p := ⟨gb, go1 + j * 32 + i, none⟩) hgl).trans (hgc j q hq i x hi)
                    have hsl : (q.map fun x => Value.int .u8 x).length = 32 := by simpa using hq32
                    have hu39 := HU39.out
                    have hd39 := HD39.out
                    have hi39 : (Tryz.prog.info? 39).map (·.size) = some (q.map fun x => Value.int .u8 x).length := by rw [hsl]; exact HI39.out
                    have HRO := Lib.hid hrow
                    have HPF := Lib.hid hpf
                    clear hrow hpf hgc
                    go_wp2_with (refine wpList_load_mid rfl 39 (.tmp 108) rfl gb (go1 + j * 32) rfl (q.map fun x => Value.int .u8 x) d39 hrg hu39 hd39 hi39 ?_)
                    obtain ⟨w4, e4, b4, s4, c4⟩ := store_new wr #[.int .u8 0, .int .u8 0, .int .u8 0, .int .u8 0, .int .u8 0, .int .u8 0, .int .u8 0, .int .u8 0, .int .u8 0, .int .u8 0, .int .u8 0, .int .u8 0, .int .u8 0, .int .u8 0, .int .u8 0, .int .u8 0, .int .u8 0, .int .u8 0, .int .u8 0, .int .u8 0, .int .u8 0, .int .u8 0, .int .u8 0, .int .u8 0, .int .u8 0, .int .u8 0, .int .u8 0, .int .u8 0, .int .u8 0, .int .u8 0, .int .u8 0, .int .u8 0] 39 (q.map fun x => Value.int .u8 x) (by rw [hsl]; rfl) (by intro v hv; obtain ⟨x, _, rfl⟩ := List.mem_map.1 hv; simp [Value.oneCell'])
                    rw [e4]
                    have HR4 := Lib.hid (HRO.out.below b4)
                    have HP4 := Lib.hid (HPF.out.trans (PF.of b4))
                    have hbyt : Byts w4 (some ⟨wr.heap.size, 0, none⟩) q := byts_of (by omega) (fun i x hx => by rw [Nat.zero_add]; exact c4 i _ (by rw [List.getElem?_map, hx]; rfl)) hqr
                    have HHX := Lib.hid (show ∀ W, Below w4.heap.size w4 W → Calls Tryz.prog 33 #[.slice (some ⟨wr.heap.size, 0, none⟩) 32 32] W fun e w' => e = .returned (.string ⟨(hex q).toArray⟩) ∧ Below W.heap.size W w' from fun W hb => by
                      have h1 := hex33_call (some ⟨wr.heap.size, 0, none⟩) 32 q W (hbyt.below hb) (by omega)
                      rwa [hq32] at h1)
                    have HXa := Lib.hid (show ∀ b, (b = w1.heap.size ∨ b = w2.heap.size) → b < w4.heap.size from fun b e => Nat.lt_of_lt_of_le (HX3.out b e) HP4.out.size)
                    have HRWa := Lib.hid (show w1.heap.size < w4.heap.size from HXa.out _ (.inl rfl))
                    have CLa := Lib.hid (fun (W : World) (hb : Below w4.heap.size w4 W) => show W.cell? ⟨w1.heap.size, 0, none⟩ = some v' from by rw [cell_of_row _ _ 0 _ _ _ (HR4.out.below hb).1]; rfl)
                    have cRa := CLa.out _ (Below.refl _ _)
                    have HTK : Hid ([Lib.itoa a.num] ++ (a.proof.take (j + 1)).map hex = ([Lib.itoa a.num] ++ (a.proof.take j).map hex) ++ [hex q]) := by
                      have e : a.proof.take (j + 1) = a.proof.take j ++ [q] := by
                        rw [List.take_succ_eq_append_getElem hjl]
                        congr 1
                        rw [List.getElem?_eq_getElem hjl] at hq
                        rw [Option.some.inj hq]
                      show _ = _
                      rw [e, List.map_append, List.append_assoc]
                      rfl
                    have hll : ([Lib.itoa a.num] ++ (a.proof.take j).map hex).length ≤ 1048580 := by
                      rw [List.length_append, List.length_map, List.length_take]
                      simp
                      omega
                    generalize hWS : [Lib.itoa a.num] ++ (a.proof.take j).map hex = wss at hll HTK HR4 HRO
                    clear e4 b4 s4 c4 hbyt hrg hu39 hd39 hi39 hsl hq hq32 hqr hgl hbr hWS
                    go_upto_region 32 with fail
                    go_region_law (first
                        | ((refine step_app rfl (.tmp 110) (.tmp 113) 42 rfl w1.heap.size 9 i0 _ 1 16 Tryz.underlying42 hi0 hz0 hz1 hz2 rfl (by decide) v' wss.length (sv wss) rfl ((own_keep HR4.out.2.1 (fun b _ hl => Below.block hBW b hl)).alloc _) (some ⟨_, 0, none⟩) 1 1 [.string ⟨(hex q).toArray⟩] rfl (src_new1 _ _ _) (by simp [Value.oneCell']) (by unfold maxLen; omega) (by omega) (by have h1 := hBW.size; have h2 := HRWa.out; simp; omega) ?_); intro v6 w6' hown6 hgrow6 hat6; obtain ⟨A6, k6, rfl⟩ := own_form hown6; obtain ⟨qR, qF, qB⟩ := (HR4.out.below hBW).app (x := hex q) (Nat.le_refl _) (.inl rfl) (fun b e => Nat.lt_of_lt_of_le (HXa.out b e) hBW.size) hgrow6 hat6 hown6; have cR6 : w6'.cell? ⟨w1.heap.size, 0, none⟩ = some v' := (by rw [cell_of_row _ _ 0 _ _ _ qB]; rfl); have fR6 := frozen_of_row _ _ 0 _ _ qB)
                        | (go_simp; go_at_call 33; (refine (HHX.out _ ((Below.refl _ _).drew)).mono ?_); rintro e wn ⟨rfl, hbn⟩; have hBW : Below w4.heap.size w4 wn := ((Below.refl _ _).drew).trans hbn; have cRn := CLa.out _ hBW; have hRn : w1.heap.size < wn.heap.size := Nat.lt_of_lt_of_le HRWa.out hBW.size; have hRne : w1.heap.size ≠ wn.heap.size := Nat.ne_of_lt hRn))
                    all_goals
                      have HQR := Lib.hid qR
                      have HQF := Lib.hid ((HP4.out.trans (PF.of hBW)).trans qF)
                      clear cR6 fR6 qB hown6 hgrow6 hat6 qR qF
                      go_wp2_with fail
                      refine ⟨⟨j + 1, .slice A6 (wss.length + 1) k6, by go_num, by omega, ?_, HQF.out⟩, by simp [intOf]; omega⟩
                      rw [HTK.out]
                      exact HQR.out
                  · obtain rfl : j = a.proof.length := by omega
                    rw [List.take_length] at hrow
                    obtain ⟨cE, hE⟩ := END.out _ _ _ _ hrow hpf (by simp; omega) (by simp; omega)
                    have HEE := Lib.hid hE
                    clear hE hrow hpf
                    go_wp2_with fail
                    refine HEE.out.mono ?_
                    rintro e wz ⟨rfl, hbz⟩
                    have HBZ := Lib.hid hbz
                    clear hbz
                    go_wp2_with fail
                    go_ret
                    exact ⟨(by rw [HE.out]; rfl), HBZ.out⟩
              · have t16 : (k == 16) = false := by rw [beq_eq_false_iff_ne]; exact kp
                have HE : Hid (tellR k a = [111, 107]) := by rw [HTL.out]; unfold tellW; rw [if_neg k2, if_neg k3, if_neg k9, if_neg kn, if_neg ki, if_neg kp]; exact rfl
                clear k2 k3 k9 kn hn1 hn2 hn3 ki hn7 hn8 kp
                go_wp2_with fail
                go_ret
                exact ⟨(by rw [HE.out]; rfl), HB03.out⟩
  · have tc : (a.code != 0) = true := by rw [bne_iff_ne]; exact hc
    have HE : Hid (tellR k a = [101, 114, 114, 111, 114, 32] ++ Lib.itoa a.code) := if_pos hc
    clear hc
    obtain ⟨il, hil⟩ : ∃ il, Lib.itoa a.code = il := ⟨_, rfl⟩
    have hile : il.length ≤ 64 := by have := Lib.itoa_length_le a.code c0 c1; rw [hil] at this; omega
    rw [hil] at HE HIT
    clear hil
    go_wp2_with fail
    refine (HIT.out _ HB1.out).mono ?_
    rintro e w2 ⟨rfl, hb2⟩
    have HB2 := Lib.hid (HB1.out.trans (hb2.mono HB1.out.size))
    clear hb2
    go_wp2_with fail
    go_ret
    rw [HE.out]
    refine ⟨?_, HB2.out⟩
    congr 2
end Go.Proofs.YtlibjfmafpiopaaGreatDoor
