/- The document's way of telling an answer: the contract. -/
import Derived.Test.YtlibjfmafpiopaaGreatDoorTellC
namespace Go.Proofs.YtlibjfmafpiopaaGreatDoor
open Go.RowKit Go.Shelf Scr

set_option maxRecDepth 100000 in
set_option maxHeartbeats 4000000 in
theorem tell18_call {a0 a1 a3 : Addr} (op : Array Value) (k : Int) (a : Ans) (vb vi vp : Value) (w : World) (_ho : op.size = 5) (hk : op[0]? = some (.int .i64 k)) (ha : AnsAt w a vb vi vp) (Lw : Laid a0 a1 a3 w) :
    Calls Tryz.prog 18 #[.agg op, .agg (ansCells a vb vi vp).toArray] w fun e w' => e = .returned (.string ⟨(tellR k a).toArray⟩) ∧ Below w.heap.size w w' := by
  have HL := Lib.hid Lw
  have HAN := Lib.hid ha
  have hr := ha.root
  have hh := ha.hroot
  obtain ⟨c0, c1⟩ := ha.code
  clear Lw ha
  go_enter Tryz.func18, Tryz.ntmps18
  go_upto_region 1 with fail
  have hb1 : Below w.heap.size w ((w.alloc (.cells op 31)).alloc (.cells (ansCells a vb vi vp).toArray 47)) := ((Below.refl _ w).alloc (Nat.le_refl _) _).alloc (by simp) _
  have hB := heap_alloc_new (w.alloc (.cells op 31)) (.cells (ansCells a vb vi vp).toArray 47)
  have hP := (Below.heap_alloc (w.alloc (.cells op 31)) (.cells (ansCells a vb vi vp).toArray 47) w.heap.size (by simp)).trans (heap_alloc_new w (.cells op 31))
  have hz1' : ((w.alloc (.cells op 31)).alloc (.cells (ansCells a vb vi vp).toArray 47)).heap.size = w.heap.size + 1 + 1 := by simp
  rw [World.size_alloc] at hB
  obtain ⟨w1, hw1⟩ : ∃ w1, (w.alloc (.cells op 31)).alloc (.cells (ansCells a vb vi vp).toArray 47) = w1 := ⟨_, rfl⟩
  rw [hw1] at hb1 hB hP hz1' ⊢
  clear hw1
  have cell : ∀ (W : World), Below w1.heap.size w1 W → ∀ i v, (ansCells a vb vi vp)[i]? = some v → W.cell? ⟨w.heap.size + 1, i, none⟩ = some v := fun W hb i v hv => by
    rw [hb.cell (p := ⟨w.heap.size + 1, i, none⟩) (by rw [hz1']; exact Nat.lt_succ_self _), cell_of_row _ _ i _ _ _ hB, List.getElem?_toArray]
    exact hv
  have CELL := Lib.hid cell
  have ck : w1.cell? ⟨w.heap.size, 0, none⟩ = some (.int .i64 k) := by rw [cell_of_row _ _ 0 _ _ _ hP]; exact hk
  have cc := cell w1 (Below.refl _ _) 0 _ rfl
  have HB1 := Lib.hid hb1
  have HZ1 := Lib.hid hz1'
  have HIT := Lib.hid (fun (n : Int) (n0 : -9223372036854775808 ≤ n) (n1 : n ≤ 9223372036854775807) W (hb : Below w.heap.size w W) => itoa_call n n0 n1 W (HL.out.below hb).tab)
  clear hb1 hB hP hz1' cell
  by_cases hc : a.code = 0
  · have tc : (a.code != 0) = false := by rw [bne_eq_false_iff_eq]; exact hc
    have hT : tellR k a = match tellW k a with
        | some (w, L) => w ++ tail32 L
        | none => [111, 107] := if_neg (by rw [hc]; exact fun h => h rfl)
    have HTL := Lib.hid hT
    clear hc hT
    by_cases k2 : k = 2
    · have t2 : (k == 2) = true := by rw [beq_iff_eq]; exact k2
      have HE : Hid (tellR k a = hex a.bytes) := by rw [HTL.out]; unfold tellW; rw [if_pos k2]; exact List.append_nil _
      obtain ⟨Ab, cb, rfl, hby, hbl⟩ := HAN.out.bytes
      have c1b := CELL.out w1 (Below.refl _ _) 1 _ rfl
      have HHX := Lib.hid (hex_call Ab cb a.bytes w1 (hby.below HB1.out) (by omega))
      clear k2 hby
      go_wp2_with fail
      refine HHX.out.mono ?_
      rintro e w2 ⟨rfl, hb2⟩
      have HB2 := Lib.hid (HB1.out.trans (hb2.mono HB1.out.size))
      clear hb2
      go_wp2_with fail
      go_ret
      exact ⟨(by rw [HE.out]; rfl), HB2.out⟩
    · have t2 : (k == 2) = false := by rw [beq_eq_false_iff_ne]; exact k2
      by_cases k3 : k = 3
      · have t3 : (k == 3) = true := by rw [beq_iff_eq]; exact k3
        have HE : Hid (tellR k a = Lib.itoa a.length ++ tail32 [hex a.root, Lib.itoa a.index, Lib.itoa a.expiry, bit a.hold, bit a.gone]) := by rw [HTL.out]; unfold tellW; rw [if_neg k2, if_pos k3]; exact rfl
        have hst : w1.rangeAt (w.heap.size + 1) 2 (statCells a) := fun j v hv => CELL.out w1 (Below.refl _ _) (2 + j) v (ans_stat j v hv)
        have hsl := statCells_len hr
        obtain ⟨d41, hu41, hd41⟩ : ∃ d, Tryz.prog.underlying 41 = some d ∧ d.isRow = true := ⟨_, Tryz.underlying41, rfl⟩
        have hi41 : (Tryz.prog.info? 41).map (·.size) = some (statCells a).length := by rw [hsl]; kernel_rfl
        clear k2 k3
        go_wp2_with (refine wpList_load_mid rfl 41 (.tmp 26) rfl (w.heap.size + 1) 2 rfl (statCells a) d41 hst hu41 hd41 hi41 ?_)
        obtain ⟨w3, e3, b3, s3, c3⟩ := store_new w1 #[.int .i64 0, .int .u8 0, .int .u8 0, .int .u8 0, .int .u8 0, .int .u8 0, .int .u8 0, .int .u8 0, .int .u8 0, .int .u8 0, .int .u8 0, .int .u8 0, .int .u8 0, .int .u8 0, .int .u8 0, .int .u8 0, .int .u8 0, .int .u8 0, .int .u8 0, .int .u8 0, .int .u8 0, .int .u8 0, .int .u8 0, .int .u8 0, .int .u8 0, .int .u8 0, .int .u8 0, .int .u8 0, .int .u8 0, .int .u8 0, .int .u8 0, .int .u8 0, .int .u8 0, .int .i64 0, .int .i64 0, .bool false, .bool false] 41 (statCells a) (by rw [hsl]; rfl) (statCells_one a)
        rw [e3]
        clear e3 hst hu41 hd41 hi41 hsl
        have HS3 := Lib.hid s3
        have XC := Lib.hid (fun (W : World) (hb : Below w3.heap.size w3 W) (i : Nat) (v : Value) (hv : (statCells a)[i]? = some v) => show W.cell? ⟨w1.heap.size, i, none⟩ = some v from (hb.cell (p := ⟨w1.heap.size, i, none⟩) (by rw [s3]; exact Nat.lt_succ_self _)).trans (c3 i v hv))
        have HB3 := Lib.hid (HB1.out.trans (b3.mono HB1.out.size))
        clear s3 b3 c3
        obtain ⟨t1, ht1⟩ : ∃ t : ByteArray, (⟨(Lib.itoa a.length).toArray⟩ : ByteArray) = t := ⟨_, rfl⟩
        obtain ⟨t2', ht2⟩ : ∃ t : ByteArray, (⟨(Lib.itoa a.index).toArray⟩ : ByteArray) = t := ⟨_, rfl⟩
        obtain ⟨t3', ht3⟩ : ∃ t : ByteArray, (⟨(Lib.itoa a.expiry).toArray⟩ : ByteArray) = t := ⟨_, rfl⟩
        obtain ⟨tx, htx⟩ : ∃ t : ByteArray, (⟨(hex a.root).toArray⟩ : ByteArray) = t := ⟨_, rfl⟩
        have HI1 := Lib.hid (fun W (hb : Below w3.heap.size w3 W) => HIT.out a.length HAN.out.length.1 HAN.out.length.2 W (HB3.out.trans (hb.mono HB3.out.size)))
        have HI2 := Lib.hid (fun W (hb : Below w3.heap.size w3 W) => HIT.out a.index HAN.out.index.1 HAN.out.index.2 W (HB3.out.trans (hb.mono HB3.out.size)))
        have HI3 := Lib.hid (fun W (hb : Below w3.heap.size w3 W) => HIT.out a.expiry HAN.out.expiry.1 HAN.out.expiry.2 W (HB3.out.trans (hb.mono HB3.out.size)))
        have HHS := Lib.hid (fun W => hash_call a.root W HAN.out.rootR hr)
        rw [ht1] at HI1
        rw [ht2] at HI2
        rw [ht3] at HI3
        rw [htx] at HHS
        have hz1 : t1.size ≤ 21 := by rw [← ht1, size_list]; exact Lib.itoa_length_le a.length HAN.out.length.1 HAN.out.length.2
        have hz2 : t2'.size ≤ 21 := by rw [← ht2, size_list]; exact Lib.itoa_length_le a.index HAN.out.index.1 HAN.out.index.2
        have hz3 : t3'.size ≤ 21 := by rw [← ht3, size_list]; exact Lib.itoa_length_le a.expiry HAN.out.expiry.1 HAN.out.expiry.2
        have hzx : tx.size ≤ 64 := by
          rw [← htx, size_list]
          show (hex a.root).length ≤ 64
          unfold hex
          split
          · simp
          · rw [hexP_len]; omega
        have HT1 := Lib.hid ht1
        have HT2 := Lib.hid ht2
        have HT3 := Lib.hid ht3
        have HTX := Lib.hid htx
        clear ht1 ht2 ht3 htx
        have hu39 := Tryz.underlying39
        have hl32 : (u8s a.root).length = 32 := by simp [u8s, hr]
        have hi39 : (Tryz.prog.info? 39).map (·.size) = some (u8s a.root).length := by rw [hl32]; kernel_rfl
        have h1c : ∀ v ∈ u8s a.root, v.oneCell' = true := by intro v hv; unfold u8s at hv; obtain ⟨x, _, rfl⟩ := List.mem_map.1 hv; simp [Value.oneCell']
        have CLO := Lib.hid (show ∀ W, Below w3.heap.size w3 W → Below w3.heap.size w3 W ∧ W.cell? ⟨w1.heap.size, 0, none⟩ = some (.int .i64 a.length) ∧ W.rangeAt w1.heap.size 1 (u8s a.root) ∧ W.cell? ⟨w1.heap.size, 33, none⟩ = some (.int .i64 a.index) ∧ W.cell? ⟨w1.heap.size, 34, none⟩ = some (.int .i64 a.expiry) ∧ W.cell? ⟨w1.heap.size, 35, none⟩ = some (.bool a.hold) ∧ W.cell? ⟨w1.heap.size, 36, none⟩ = some (.bool a.gone) from fun W hb =>
          ⟨hb, XC.out W hb 0 _ rfl, fun i v hv => by
            unfold u8s at hv
            rw [List.getElem?_map] at hv
            cases hi : a.root[i]? with
            | none => rw [hi] at hv; cases hv
            | some x =>
              rw [hi] at hv
              cases hv
              exact XC.out W hb _ _ (stat_root i x hi), XC.out W hb 33 _ (stat_tail hr 0 _ rfl), XC.out W hb 34 _ (stat_tail hr 1 _ rfl), XC.out W hb 35 _ (stat_tail hr 2 _ rfl), XC.out W hb 36 _ (stat_tail hr 3 _ rfl)⟩)
        obtain ⟨tb1, htb1⟩ : ∃ t : ByteArray, (⟨#[if a.hold then 49 else 48]⟩ : ByteArray) = t := ⟨_, rfl⟩
        obtain ⟨tb2, htb2⟩ : ∃ t : ByteArray, (⟨#[if a.gone then 49 else 48]⟩ : ByteArray) = t := ⟨_, rfl⟩
        have HBT1 := Lib.hid (fun W => (bit_call a.hold W).mono (fun e w' h => (⟨h.1.trans (by rw [htb1]), by rw [← h.2]; exact Below.refl _ _⟩ : e = .returned (.string tb1) ∧ Below W.heap.size W w')))
        have HBT2 := Lib.hid (fun W => (bit_call a.gone W).mono (fun e w' h => (⟨h.1.trans (by rw [htb2]), by rw [← h.2]; exact Below.refl _ _⟩ : e = .returned (.string tb2) ∧ Below W.heap.size W w')))
        have hzb1 : tb1.size ≤ 1 := by rw [← htb1]; exact Nat.le_refl _
        have hzb2 : tb2.size ≤ 1 := by rw [← htb2]; exact Nat.le_refl _
        have HTB1 : Hid (tb1.data.toList = bit a.hold) := by rw [← htb1]; show (#[if a.hold then 49 else 48] : Array UInt8).toList = _; unfold bit; cases a.hold <;> rfl
        have HTB2 : Hid (tb2.data.toList = bit a.gone) := by rw [← htb2]; show (#[if a.gone then 49 else 48] : Array UInt8).toList = _; unfold bit; cases a.gone <;> rfl
        clear htb1 htb2
        have hq1 : ¬ 9223372036854775807 < t1.size + 1 := by omega
        have hq2 : ¬ 9223372036854775807 < t1.size + 1 + tx.size := by omega
        have hq3 : ¬ 9223372036854775807 < t1.size + 1 + tx.size + 1 := by omega
        have hq4 : ¬ 9223372036854775807 < t1.size + 1 + tx.size + 1 + t2'.size := by omega
        have hq5 : ¬ 9223372036854775807 < t1.size + 1 + tx.size + 1 + t2'.size + 1 := by omega
        have hq6 : ¬ 9223372036854775807 < t1.size + 1 + tx.size + 1 + t2'.size + 1 + t3'.size := by omega
        have hq7 : ¬ 9223372036854775807 < t1.size + 1 + tx.size + 1 + t2'.size + 1 + t3'.size + 1 := by omega
        have hq8 : ¬ 9223372036854775807 < t1.size + 1 + tx.size + 1 + t2'.size + 1 + t3'.size + 1 + tb1.size := by omega
        have hq9 : ¬ 9223372036854775807 < t1.size + 1 + tx.size + 1 + t2'.size + 1 + t3'.size + 1 + tb1.size + 1 := by omega
        have hq10 : ¬ 9223372036854775807 < t1.size + 1 + tx.size + 1 + t2'.size + 1 + t3'.size + 1 + tb1.size + 1 + tb2.size := by omega
        have hstart := CLO.out w3 (Below.refl _ _)
        go_upto_region 8 with fail
        go_region_held3 (fun w' => Below w3.heap.size w3 w' ∧ w'.cell? ⟨w1.heap.size, 0, none⟩ = some (.int .i64 a.length) ∧ w'.rangeAt w1.heap.size 1 (u8s a.root) ∧ w'.cell? ⟨w1.heap.size, 33, none⟩ = some (.int .i64 a.index) ∧ w'.cell? ⟨w1.heap.size, 34, none⟩ = some (.int .i64 a.expiry) ∧ w'.cell? ⟨w1.heap.size, 35, none⟩ = some (.bool a.hold) ∧ w'.cell? ⟨w1.heap.size, 36, none⟩ = some (.bool a.gone)) (first | exact hstart | exact CLO.out _ (Below.refl _ _).drew | exact CLO.out _ hbs)
          (first
            | (go_at_call 29; go_split_ands; (first | refine (HI1.out _ (by assumption)).mono ?_ | refine (HI2.out _ (by assumption)).mono ?_ | refine (HI3.out _ (by assumption)).mono ?_); rintro e wn ⟨rfl, hbn⟩; have hbs : Below w3.heap.size w3 wn := Below.trans (by assumption) (hbn.mono (Below.size (by assumption))))
            | (go_at_call 43; go_split_ands; (refine (HHS.out _).mono ?_); rintro e wm ⟨rfl, hbm⟩; have hbs : Below w3.heap.size w3 wm := Below.trans (by assumption) (hbm.mono (Below.size (by assumption))))
            | (go_at_call 44; go_split_ands; (first | refine (HBT1.out _).mono ?_ | refine (HBT2.out _).mono ?_); rintro e wb ⟨rfl, hbb⟩; have hbs : Below w3.heap.size w3 wb := Below.trans (by assumption) (hbb.mono (Below.size (by assumption)))))
        have HBZ := Lib.hid (HB3.out.trans (hbs.mono HB3.out.size))
        go_wp2_with fail
        go_ret
        refine ⟨?_, HBZ.out⟩
        rw [HE.out]
        have e : (t1 ++ ⟨#[32]⟩ ++ tx ++ ⟨#[32]⟩ ++ t2' ++ ⟨#[32]⟩ ++ t3' ++ ⟨#[32]⟩ ++ tb1 ++ ⟨#[32]⟩ ++ tb2 : ByteArray) = ⟨(Lib.itoa a.length ++ tail32 [hex a.root, Lib.itoa a.index, Lib.itoa a.expiry, bit a.hold, bit a.gone]).toArray⟩ := by
          apply ByteArray.ext
          simp only [ByteArray.data_append]
          apply Array.toList_inj.1
          simp only [Array.toList_append]
          rw [HTB1.out, HTB2.out, ← HT1.out, ← HT2.out, ← HT3.out, ← HTX.out]
          simp [tail32]
        rw [← e]
        exact rfl
      · have t3 : (k == 3) = false := by rw [beq_eq_false_iff_ne]; exact k3
        by_cases k9 : k = 9
        · have t9 : (k == 9) = true := by rw [beq_iff_eq]; exact k9
          have HE : Hid (tellR k a = Lib.itoa a.hsize ++ tail32 [hex a.hroot]) := by rw [HTL.out]; unfold tellW; rw [if_neg k2, if_neg k3, if_pos k9]; exact rfl
          have cN := CELL.out w1 (Below.refl _ _) 40 _ (ans_hsize hr)
          have HRG := Lib.hid (show ∀ W, Below w1.heap.size w1 W → W.rangeAt (w.heap.size + 1) 41 (u8s a.hroot) from fun W hb i v hv => by
            unfold u8s at hv
            rw [List.getElem?_map] at hv
            cases hi : a.hroot[i]? with
            | none => rw [hi] at hv; cases hv
            | some x =>
              rw [hi] at hv
              cases hv
              exact CELL.out W hb _ _ (ans_hroot hr i x hi))
          have hu39 := Tryz.underlying39
          have hi39 : (Tryz.prog.info? 39).map (·.size) = some (u8s a.hroot).length := by rw [show (u8s a.hroot).length = 32 from by simp [u8s, hh]]; kernel_rfl
          have HI := Lib.hid (fun W (hb : Below w1.heap.size w1 W) => HIT.out a.hsize HAN.out.hsize.1 HAN.out.hsize.2 W (HB1.out.trans (hb.mono HB1.out.size)))
          have HHS := Lib.hid (fun W => hash_call a.hroot W HAN.out.hrootR hh)
          have HCN := Lib.hid (fun W (hb : Below w1.heap.size w1 W) => CELL.out W hb 40 _ (ans_hsize hr))
          obtain ⟨th, hth⟩ : ∃ t : ByteArray, (⟨(Lib.itoa a.hsize).toArray⟩ : ByteArray) = t := ⟨_, rfl⟩
          have HTH : Hid (th.data.toList = Lib.itoa a.hsize) := by rw [← hth]; exact rfl
          have hsh : th.size ≤ 21 := by rw [size_list, HTH.out]; exact Lib.itoa_length_le a.hsize HAN.out.hsize.1 HAN.out.hsize.2
          obtain ⟨tx, htx⟩ : ∃ t : ByteArray, (⟨(hex a.hroot).toArray⟩ : ByteArray) = t := ⟨_, rfl⟩
          have HTX : Hid (tx.data.toList = hex a.hroot) := by rw [← htx]; exact rfl
          have hsx : tx.size ≤ 64 := by
            rw [size_list, HTX.out]
            unfold hex
            split
            · simp
            · rw [hexP_len]; omega
          have hss : (th ++ ⟨#[32]⟩).size = th.size + 1 := by rw [ByteArray.size_append]; rfl
          have hs32 : (⟨#[32]⟩ : ByteArray).size = 1 := rfl
          rw [hth] at HI
          rw [htx] at HHS
          clear hth htx
          clear k2 k3 k9
          have CLO := Lib.hid (show ∀ W, Below w1.heap.size w1 W → Below w1.heap.size w1 W ∧ W.cell? ⟨w.heap.size + 1, 40, none⟩ = some (.int .i64 a.hsize) ∧ W.rangeAt (w.heap.size + 1) 41 (u8s a.hroot) from fun W hb => ⟨hb, HCN.out W hb, HRG.out W hb⟩)
          have hq1 : ¬ 9223372036854775807 < th.size + 1 := by omega
          have hq2 : ¬ 9223372036854775807 < th.size + 1 + tx.size := by omega
          have hl32 : (u8s a.hroot).length = 32 := by simp [u8s, hh]
          have h1c : ∀ v ∈ u8s a.hroot, v.oneCell' = true := by intro v hv; unfold u8s at hv; obtain ⟨x, _, rfl⟩ := List.mem_map.1 hv; simp [Value.oneCell']
          have hstart := CLO.out w1 (Below.refl _ _)
          go_upto_region 10 with fail
          go_region_held3 (fun w' => Below w1.heap.size w1 w' ∧ w'.cell? ⟨w.heap.size + 1, 40, none⟩ = some (.int .i64 a.hsize) ∧ w'.rangeAt (w.heap.size + 1) 41 (u8s a.hroot)) (first | exact hstart | exact CLO.out _ (Below.refl _ _).drew | exact CLO.out _ hbs)
            (first
              | (go_at_call 29; go_split_ands; (refine (HI.out _ (by assumption)).mono ?_); rintro e wn ⟨rfl, hbn⟩; have hbs : Below w1.heap.size w1 wn := Below.trans (by assumption) (hbn.mono (Below.size (by assumption))))
              | (go_at_call 43; go_split_ands; (refine (HHS.out _).mono ?_); rintro e wm ⟨rfl, hbm⟩; have hbs : Below w1.heap.size w1 wm := Below.trans (by assumption) (hbm.mono (Below.size (by assumption)))))
          have HBZ := Lib.hid (HB1.out.trans (hbs.mono HB1.out.size))
          clear hbm hbs
          go_wp2_with fail
          go_ret
          refine ⟨?_, HBZ.out⟩
          rw [HE.out]
          have e : (th ++ ⟨#[32]⟩ ++ tx : ByteArray) = ⟨(Lib.itoa a.hsize ++ tail32 [hex a.hroot]).toArray⟩ := by
            apply ByteArray.ext
            rw [ByteArray.data_append, ByteArray.data_append]
            apply Array.toList_inj.1
            rw [Array.toList_append, Array.toList_append, HTH.out, HTX.out]
            simp [tail32]
          rw [← e]
          exact rfl
        · have t9 : (k == 9) = false := by rw [beq_eq_false_iff_ne]; exact k9
          by_cases kn : k = 15 ∨ k = 11 ∨ k = 14
          · have HE : Hid (tellR k a = Lib.itoa a.num) := by rw [HTL.out]; unfold tellW; rw [if_neg k2, if_neg k3, if_neg k9, if_pos kn]; exact List.append_nil _
            have cN := CELL.out w1 (Below.refl _ _) 73 _ (ans_num hr hh)
            have HN := Lib.hid (HIT.out a.num HAN.out.num.1 HAN.out.num.2 w1 HB1.out)
            rcases kn with rfl | rfl | rfl
            all_goals
              go_wp2_with fail
              refine HN.out.mono ?_
              rintro e w2 ⟨rfl, hb2⟩
              have HB2 := Lib.hid (HB1.out.trans (hb2.mono HB1.out.size))
              clear hb2
              go_wp2_with fail
              go_ret
              exact ⟨(by rw [HE.out]; rfl), HB2.out⟩
          · have hn1 : ¬ k = 15 := fun h => kn (.inl h)
            have hn2 : ¬ k = 11 := fun h => kn (.inr (.inl h))
            have hn3 : ¬ k = 14 := fun h => kn (.inr (.inr h))
            have t15 : (k == 15) = false := by rw [beq_eq_false_iff_ne]; exact hn1
            have t11 : (k == 11) = false := by rw [beq_eq_false_iff_ne]; exact hn2
            have t14 : (k == 14) = false := by rw [beq_eq_false_iff_ne]; exact hn3
            by_cases ki : k = 7 ∨ k = 8
            · have HE : Hid (tellR k a = Lib.itoa a.ids.length ++ tail32 a.ids) := by rw [HTL.out]; unfold tellW; rw [if_neg k2, if_neg k3, if_neg k9, if_neg kn, if_pos ki]; exact rfl
              obtain ⟨Ai, ci, rfl, hil, hib, hic⟩ := HAN.out.ids
              have cN := CELL.out w1 (Below.refl _ _) 39 _ (ans_ids hr)
              have HN := Lib.hid (HIT.out a.ids.length (by omega) (by omega) w1 HB1.out)
              have hile : (Lib.itoa a.ids.length).length ≤ 21 := Lib.itoa_length_le a.ids.length (by omega) (by omega)
              have HIC := Lib.hid hic
              have HIB := Lib.hid hib
              have k78 : (k == 7) = true ∨ ((k == 7) = false ∧ (k == 8) = true) := by
                rcases ki with rfl | rfl
                · exact .inl rfl
                · exact .inr ⟨rfl, rfl⟩
              clear k2 k3 k9 kn hn1 hn2 hn3 ki hib hic
              rcases k78 with k7 | ⟨k7, k8⟩
              all_goals
                go_wp2_with fail
                refine HN.out.mono ?_
                rintro e w2 ⟨rfl, hb2⟩
                have HB2 := Lib.hid hb2
                clear hb2
                have h12 := Lib.hid (show Below w1.heap.size w1 w2 from HB2.out)
                have hz12 := HB2.out.size
                obtain ⟨t0, ht0⟩ : ∃ t : ByteArray, (⟨(Lib.itoa a.ids.length).toArray⟩ : ByteArray) = t := ⟨_, rfl⟩
                have HT0 : Hid (t0.data.toList = Lib.itoa a.ids.length) := by rw [← ht0]; exact rfl
                have hs0 : t0.size ≤ 21 := by rw [size_list, HT0.out]; exact hile
                rw [ht0]
                clear ht0
                go_wp2_with fail
                go_loopw [6, 7] (fun sv i wq => ∃ (j : Nat) (t : ByteArray), sv = .string t ∧ i = .int .i64 j ∧ j ≤ a.ids.length ∧ Hid (t.data.toList = Lib.itoa a.ids.length ++ tail32 (a.ids.take j)) ∧ t.size ≤ 21 + j * 1048577 ∧ Below w1.heap.size w1 wq)
                  (fun _ i _ => a.ids.length - (intOf i).toNat)
                case atStart => exact ⟨0, t0, rfl, rfl, Nat.zero_le _, by show _ = _; rw [HT0.out]; simp [tail32], by omega, h12.out⟩
                case round =>
                  obtain ⟨j, t, rfl, rfl, hj, ht, hts, hbq⟩ := hrel
                  have cI := CELL.out wr hbq 39 _ (ans_ids hr)
                  by_cases hjl : j < a.ids.length
                  · have j0 : (0 : Int) ≤ (j : Int) := Int.natCast_nonneg _
                    have j1 : (j : Int) < (a.ids.length : Int) := by omega
                    obtain ⟨gb, go1, rfl, hgl, hgc⟩ := HIC.out (by omega)
                    obtain ⟨l, hl⟩ : ∃ l, a.ids[j]? = some l := ⟨_, List.getElem?_eq_getElem hjl⟩
                    have cg : wr.cell? ⟨gb, go1 + j, none⟩ = some (.string ⟨l.toArray⟩) := ((HB1.out.trans (hbq.mono HB1.out.size)).cell (p := ⟨gb, go1 + j, none⟩) hgl).trans (hgc j l hl)
                    have hll := HIB.out l (List.mem_of_getElem? hl)
                    obtain ⟨ti, hti⟩ : ∃ t : ByteArray, (⟨l.toArray⟩ : ByteArray) = t := ⟨_, rfl⟩
                    have HTI : Hid (ti.data.toList = l) := by rw [← hti]; exact rfl
                    have hsi : ti.size ≤ 1048576 := by rw [size_list, HTI.out]; exact hll
                    rw [hti] at cg
                    have hk2 : j * 1048577 ≤ 1048576 * 1048577 := Nat.mul_le_mul_right _ (by omega)
                    have hs32 : (⟨#[32]⟩ : ByteArray).size = 1 := rfl
                    have hss : (t ++ ⟨#[32]⟩).size = t.size + 1 := by rw [ByteArray.size_append]; rfl
                    have HTK : Hid (tail32 (a.ids.take (j + 1)) = tail32 (a.ids.take j) ++ 32 :: l) := by
                      have e : a.ids.take (j + 1) = a.ids.take j ++ [l] := by
                        rw [List.take_succ_eq_append_getElem hjl]
                        congr 1
                        rw [List.getElem?_eq_getElem hjl] at hl
                        rw [Option.some.inj hl]
                      show _ = _
                      rw [e, tail32_append]
                      simp [tail32]
                    have HBQ := Lib.hid hbq
                    clear hti hl hll hgc hbq
                    go_wp2_with fail
                    refine ⟨⟨j + 1, _, rfl, by go_num, by omega, ?_, ?_, HBQ.out⟩, by simp [intOf]; omega⟩
                    · show _ = _
                      rw [HTK.out, ByteArray.data_append, ByteArray.data_append, Array.toList_append, Array.toList_append, ht.out, HTI.out]
                      simp
                    · rw [ByteArray.size_append, hss, Nat.succ_mul]
                      omega
                  · obtain rfl : j = a.ids.length := by omega
                    have HBQ := Lib.hid (HB1.out.trans (hbq.mono HB1.out.size))
                    clear hbq
                    go_wp2_with fail
                    go_ret
                    refine ⟨?_, HBQ.out⟩
                    rw [HE.out]
                    have h1 := ht.out
                    rw [List.take_length] at h1
                    rw [← h1]
                    exact rfl
            · have hn7 : ¬ k = 7 := fun h => ki (.inl h)
              have hn8 : ¬ k = 8 := fun h => ki (.inr h)
              have t7 : (k == 7) = false := by rw [beq_eq_false_iff_ne]; exact hn7
              have t8 : (k == 8) = false := by rw [beq_eq_false_iff_ne]; exact hn8
              by_cases kp : k = 16
              · have HE : Hid (tellR k a = Lib.itoa a.num ++ tail32 (a.proof.map hex)) := by rw [HTL.out]; unfold tellW; rw [if_neg k2, if_neg k3, if_neg k9, if_neg kn, if_neg ki, if_pos kp]; exact rfl
                have t16 : (k == 16) = true := by rw [beq_iff_eq]; exact kp
                obtain ⟨Ap, cp, rfl, hpl, hpb, hpc⟩ := HAN.out.proof
                have cN := CELL.out w1 (Below.refl _ _) 73 _ (ans_num hr hh)
                have HN := Lib.hid (HIT.out a.num HAN.out.num.1 HAN.out.num.2 w1 HB1.out)
                have hile : (Lib.itoa a.num).length ≤ 21 := Lib.itoa_length_le a.num HAN.out.num.1 HAN.out.num.2
                have HPC := Lib.hid hpc
                have HPBB := Lib.hid hpb
                obtain ⟨d39, hu39, hd39⟩ : ∃ d, Tryz.prog.underlying 39 = some d ∧ d.isRow = true := ⟨_, Tryz.underlying39, rfl⟩
                have HI39 : Hid ((Tryz.prog.info? 39).map (·.size) = some 32) := by show (Tryz.prog.info? 39).map (·.size) = some 32; kernel_rfl
                clear k2 k3 k9 kn hn1 hn2 hn3 ki hn7 hn8 kp hpb hpc
                go_wp2_with fail
                refine HN.out.mono ?_
                rintro e w2 ⟨rfl, hb2⟩
                have h12 := Lib.hid hb2
                clear hb2
                obtain ⟨t0, ht0⟩ : ∃ t : ByteArray, (⟨(Lib.itoa a.num).toArray⟩ : ByteArray) = t := ⟨_, rfl⟩
                have HT0 : Hid (t0.data.toList = Lib.itoa a.num) := by rw [← ht0]; exact rfl
                have hs0 : t0.size ≤ 21 := by rw [size_list, HT0.out]; exact hile
                rw [ht0]
                clear ht0
                go_wp2_with fail
                go_loopw [8, 9] (fun sv i wq => ∃ (j : Nat) (t : ByteArray), sv = .string t ∧ i = .int .i64 j ∧ j ≤ a.proof.length ∧ Hid (t.data.toList = Lib.itoa a.num ++ tail32 ((a.proof.take j).map hex)) ∧ t.size ≤ 21 + j * 65 ∧ Below w1.heap.size w1 wq)
                  (fun _ i _ => a.proof.length - (intOf i).toNat)
                case atStart => exact ⟨0, t0, rfl, rfl, Nat.zero_le _, by show _ = _; rw [HT0.out]; simp [tail32], by omega, h12.out⟩
                case round =>
                  obtain ⟨j, t, rfl, rfl, hj, ht, hts, hbq⟩ := hrel
                  have cI := CELL.out wr hbq 74 _ (ans_proof hr hh)
                  by_cases hjl : j < a.proof.length
                  · have j0 : (0 : Int) ≤ (j : Int) := Int.natCast_nonneg _
                    have j1 : (j : Int) < (a.proof.length : Int) := by omega
                    obtain ⟨gb, go1, rfl, hgl, hgc⟩ := HPC.out (by omega)
                    obtain ⟨q, hq⟩ : ∃ q, a.proof[j]? = some q := ⟨_, List.getElem?_eq_getElem hjl⟩
                    obtain ⟨hq32, hqr⟩ := HPBB.out q (List.mem_of_getElem? hq)
                    have hrg : wr.rangeAt gb (go1 + j * 32) (u8s q) := fun i v hv => by
                      unfold u8s at hv
                      rw [List.getElem?_map] at hv
                      cases hi : q[i]? with
                      | none => rw [hi] at hv; cases hv
                      | some x =>
                        rw [hi] at hv
                        cases hv
                        exact ((HB1.out.trans (hbq.mono HB1.out.size)).cell (p := ⟨gb, go1 + j * 32 + i, none⟩) hgl).trans (hgc j q hq i x hi)
                    have hi39 : (Tryz.prog.info? 39).map (·.size) = some (u8s q).length := by rw [show (u8s q).length = 32 from by simp [u8s, hq32]]; exact HI39.out
                    obtain ⟨tx, htx⟩ : ∃ t : ByteArray, (⟨(hex q).toArray⟩ : ByteArray) = t := ⟨_, rfl⟩
                    have HTX : Hid (tx.data.toList = hex q) := by rw [← htx]; exact rfl
                    have hsx : tx.size ≤ 64 := by
                      rw [size_list, HTX.out]
                      unfold hex
                      split
                      · simp
                      · rw [hexP_len]; omega
                    have HHS := Lib.hid (hash_call q wr hqr hq32)
                    rw [htx] at HHS
                    have hk2 : j * 65 ≤ 1048576 * 65 := Nat.mul_le_mul_right _ (by omega)
                    have hs32 : (⟨#[32]⟩ : ByteArray).size = 1 := rfl
                    have hss : (t ++ ⟨#[32]⟩).size = t.size + 1 := by rw [ByteArray.size_append]; rfl
                    have HTK : Hid (tail32 ((a.proof.take (j + 1)).map hex) = tail32 ((a.proof.take j).map hex) ++ 32 :: hex q) := by
                      have e : a.proof.take (j + 1) = a.proof.take j ++ [q] := by
                        rw [List.take_succ_eq_append_getElem hjl]
                        congr 1
                        rw [List.getElem?_eq_getElem hjl] at hq
                        rw [Option.some.inj hq]
                      show _ = _
                      rw [e, List.map_append, tail32_append]
                      simp [tail32]
                    have HBQ := Lib.hid hbq
                    clear htx hq hq32 hqr hgc hbq
                    go_wp2_with (refine wpList_load_mid rfl 39 (.tmp 115) rfl gb (go1 + j * 32) rfl (u8s q) d39 hrg hu39 hd39 hi39 ?_)
                    refine HHS.out.mono ?_
                    rintro e wn ⟨rfl, hbn⟩
                    have HBN := Lib.hid (HBQ.out.trans (hbn.mono HBQ.out.size))
                    clear hbn
                    go_wp2_with fail
                    refine ⟨⟨j + 1, _, rfl, by go_num, by omega, ?_, ?_, HBN.out⟩, by simp [intOf]; omega⟩
                    · show _ = _
                      rw [HTK.out, ByteArray.data_append, ByteArray.data_append, Array.toList_append, Array.toList_append, ht.out, HTX.out]
                      simp
                    · rw [ByteArray.size_append, hss, Nat.succ_mul]
                      omega
                  · obtain rfl : j = a.proof.length := by omega
                    have HBQ := Lib.hid (HB1.out.trans (hbq.mono HB1.out.size))
                    clear hbq
                    go_wp2_with fail
                    go_ret
                    refine ⟨?_, HBQ.out⟩
                    rw [HE.out]
                    have h1 := ht.out
                    rw [List.take_length] at h1
                    rw [← h1]
                    exact rfl
              · have t16 : (k == 16) = false := by rw [beq_eq_false_iff_ne]; exact kp
                have HE : Hid (tellR k a = [111, 107]) := by rw [HTL.out]; unfold tellW; rw [if_neg k2, if_neg k3, if_neg k9, if_neg kn, if_neg ki, if_neg kp]; exact rfl
                clear k2 k3 k9 kn hn1 hn2 hn3 ki hn7 hn8 kp
                go_wp2_with fail
                go_ret
                exact ⟨(by rw [HE.out]; rfl), HB1.out⟩
  · have tc : (a.code != 0) = true := by rw [bne_iff_ne]; exact hc
    have HE : Hid (tellR k a = [101, 114, 114, 111, 114, 32] ++ Lib.itoa a.code) := if_pos hc
    have HIC := Lib.hid (HIT.out a.code c0 c1 w1 HB1.out)
    have hile : (Lib.itoa a.code).length ≤ 64 := by have := Lib.itoa_length_le a.code c0 c1; omega
    obtain ⟨il, hil⟩ : ∃ il, Lib.itoa a.code = il := ⟨_, rfl⟩
    rw [hil] at HE HIC hile
    clear hc hil
    go_wp2_with fail
    refine HIC.out.mono ?_
    rintro e w2 ⟨rfl, hb2⟩
    have HB2 := Lib.hid (HB1.out.trans (hb2.mono HB1.out.size))
    clear hb2
    go_wp2_with fail
    go_ret
    rw [HE.out]
    refine ⟨?_, HB2.out⟩
    congr 2
end Go.Proofs.YtlibjfmafpiopaaGreatDoor
