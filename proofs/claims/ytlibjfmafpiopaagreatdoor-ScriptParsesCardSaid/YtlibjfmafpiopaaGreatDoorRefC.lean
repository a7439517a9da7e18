/- The document's HEX (munimentref22: unhex, hex, hash): the contracts. -/
import Derived.Test.YtlibjfmafpiopaaGreatDoorRefA
import Derived.Deep.RegionHeld3
import Derived.Deep.DeepCutAuto
import Derived.Laws.BytesArg
import Derived.IntWalk
import Derived.Deep.RegionLaw
namespace Go.Proofs.YtlibjfmafpiopaaGreatDoor
open Go.RowKit Scr

theorem info5 : (Tryz.prog.info? 5).map (fun i => (i.zero, i.size, i.bytes)) = some (some (.int .u8 0), 1, 1) := by kernel_rfl

/-- Bytes as cells. -/
def u8s (bs : List Int) : List Value := bs.map (Value.int .u8)

theorem u8s_snoc (bs : List Int) (b : Int) : u8s (bs ++ [b]) = u8s bs ++ [.int .u8 b] := by simp [u8s]

theorem digit_range (c : UInt8) : -1 ≤ digit c ∧ digit c ≤ 15 := by
  unfold digit
  split
  · omega
  · split <;> omega

theorem unhexP_good {a b : UInt8} {r : Bs} (ha : 0 ≤ digit a) (hb : 0 ≤ digit b) : unhexP (a :: b :: r) = (unhexP r).map fun l => (16 * digit a + digit b) :: l := by
  simp only [unhexP]
  rw [if_neg (by omega)]

theorem unhexP_bad {a b : UInt8} {r : Bs} (h : digit a < 0 ∨ digit b < 0) : unhexP (a :: b :: r) = none := by
  simp only [unhexP]
  rw [if_pos h]

/-- What 'unhex' answers. -/
def UnhexPost (w : World) (o : Option (List Int)) (e : Ending) (w' : World) : Prop :=
  Below w.heap.size w w' ∧ ((o = none ∧ e = .returned (.tuple #[.slice none 0 0, .bool false])) ∨
    ∃ l A cap, o = some l ∧ e = .returned (.tuple #[.slice A l.length cap, .bool true]) ∧ w'.ownsRow w.heap.size 5 1 (.slice A l.length cap) l.length (u8s l))

set_option maxRecDepth 100000 in
set_option maxHeartbeats 2000000 in
theorem unhex_call (s : ByteArray) (w : World) (hs : s.size ≤ 70000) : Calls Tryz.prog 55 #[.string s] w fun e w' => UnhexPost w (unhex s.data.toList) e w' := by
  obtain ⟨i0, hi0, hz0, hz1, hz2⟩ := info_parts info5
  obtain ⟨r, hr⟩ : ∃ r, unhex s.data.toList = r := ⟨_, rfl⟩
  have HR0 := Lib.hid hr
  have HSL := Lib.hid (size_list s)
  have HTL := Lib.hid (ByteArray.toList_eq s)
  rw [hr]
  clear hr
  by_cases hd : s.data.toList = [45]
  · have t1 : (s.toList == [45]) = true := by rw [HTL.out, hd]; rfl
    have HR : Hid (r = some []) := by rw [← HR0.out]; unfold unhex; rw [if_pos hd]; exact rfl
    clear hd
    go_enter Tryz.func55, Tryz.ntmps55
    go_wp2
    go_ret2
    refine ⟨by go_grown, .inr ⟨[], _, 0, HR.out, rfl, World.ownsRow_made w #[] 0 (Nat.le_refl _) (by decide) rfl⟩⟩
  · have t1 : (s.toList == [45]) = false := by rw [HTL.out, beq_eq_false_iff_ne]; exact hd
    have hr2 : r = if s.data.toList.length = 0 ∨ s.data.toList.length % 2 ≠ 0 then none else unhexP s.data.toList := by rw [← HR0.out]; unfold unhex; rw [if_neg hd]
    rw [← HSL.out] at hr2
    have HR2 := Lib.hid hr2
    clear hd hr2
    by_cases h0 : s.size < 1
    · have t2 : ((s.size : Int) == 0) = true := by rw [beq_iff_eq]; omega
      have HR : Hid (r = none) := by rw [HR2.out, if_pos (by omega)]; exact rfl
      go_enter Tryz.func55, Tryz.ntmps55
      go_wp2
      go_ret2
      exact ⟨by go_grown, .inl ⟨HR.out, rfl⟩⟩
    · have t2 : ((s.size : Int) == 0) = false := by rw [beq_eq_false_iff_ne]; omega
      by_cases h2 : s.size % 2 = 1
      · have t3 : ((s.size : Int) % 2 != 0) = true := by rw [bne_iff_ne]; omega
        have HR : Hid (r = none) := by rw [HR2.out, if_pos (by omega)]; exact rfl
        clear h2
        go_enter Tryz.func55, Tryz.ntmps55
        go_wp2
        go_ret2
        exact ⟨by go_grown, .inl ⟨HR.out, rfl⟩⟩
      · have t3 : ((s.size : Int) % 2 != 0) = false := by rw [bne_eq_false_iff_eq]; omega
        have HR : Hid (r = unhexP s.data.toList) := by rw [HR2.out, if_neg (by omega)]; exact rfl
        obtain ⟨m, hm⟩ : ∃ m, s.size = 2 * m := ⟨s.size / 2, by omega⟩
        have hm1 : 2 * m ≤ s.size := by omega
        have hm2 : s.size ≤ 2 * m := by omega
        clear h2 hm
        go_enter Tryz.func55, Tryz.ntmps55
        go_wp2
        go_loopw [4, 5, 6, 7] (fun v i _ _ wr => ∃ (j k : Nat) (l : List Int), i = .int .i64 j ∧ j ≤ 2 * k ∧ 2 * k ≤ j ∧ k ≤ m ∧ wr.ownsRow w.heap.size 5 1 v l.length (u8s l) ∧ l.length ≤ k ∧ Below w.heap.size w wr ∧ Hid ((unhexP (s.data.toList.drop j)).map (fun t => l ++ t) = r))
          (fun _ i _ _ _ => s.size - (intOf i).toNat)
        case atStart => exact ⟨0, 0, [], rfl, by omega, by omega, by omega, World.ownsRow_made w #[] 0 (Nat.le_refl _) (by decide) rfl, by simp, by go_grown, Lib.hid (by rw [HR.out]; simp)⟩
        case round =>
          obtain ⟨j, k, l, rfl, hj1, hj2, hk, hown, hlk, hb, hsp⟩ := hrel
          have hz := hb.size
          by_cases hlt : k < m
          · have j0 : (0 : Int) ≤ (j : Int) := Int.natCast_nonneg _
            have j1 : (j : Int) < (s.size : Int) := by omega
            have j2 : (j : Int) + 1 < (s.size : Int) := by omega
            have j3 : j < s.size := by omega
            have j4 : j + 1 < s.size := by omega
            have g1 : j < s.data.toList.length := by rw [← size_list]; exact j3
            have g2 : j + 1 < s.data.toList.length := by rw [← size_list]; exact j4
            obtain ⟨c1, hc1⟩ : ∃ c, s[j] = c := ⟨_, rfl⟩
            obtain ⟨c2, hc2⟩ : ∃ c, s[j + 1] = c := ⟨_, rfl⟩
            have HDR : Hid (s.data.toList.drop j = c1 :: c2 :: s.data.toList.drop (j + 2)) := by
              rw [List.drop_eq_getElem_cons g1, List.drop_eq_getElem_cons g2, ← get_list s j j3, ← get_list s (j + 1) j4, hc1, hc2]
              exact rfl
            obtain ⟨a, ha⟩ : ∃ a, digit c1 = a := ⟨_, rfl⟩
            obtain ⟨b, hb'⟩ : ∃ b, digit c2 = b := ⟨_, rfl⟩
            have D1 : Hid (∀ w, Calls Tryz.prog 84 #[.int .u8 (c1.toNat : Int)] w fun e w' => e = .returned (.int .i64 a) ∧ w = w') := fun w => by rw [← ha]; exact digit_call c1 w
            have D2 : Hid (∀ w, Calls Tryz.prog 84 #[.int .u8 (c2.toNat : Int)] w fun e w' => e = .returned (.int .i64 b) ∧ w = w') := fun w => by rw [← hb']; exact digit_call c2 w
            obtain ⟨ra1, ra2⟩ : -1 ≤ a ∧ a ≤ 15 := by rw [← ha]; exact digit_range c1
            obtain ⟨rb1, rb2⟩ : -1 ≤ b ∧ b ≤ 15 := by rw [← hb']; exact digit_range c2
            have HA := Lib.hid ha
            have HB := Lib.hid hb'
            clear ha hb'
            go_wp2_with fail
            refine (D1.out _).mono ?_
            rintro e w' ⟨rfl, rfl⟩
            go_wp2_with fail
            refine (D2.out _).mono ?_
            rintro e w' ⟨rfl, rfl⟩
            by_cases hok : 0 ≤ a ∧ 0 ≤ b
            · obtain ⟨oa, ob⟩ := hok
              go_wp2_with (at_builtin; refine wpList_app rfl (.tmp 42) (.tmp 48) 28 rfl w.heap.size 5 i0 _ 1 1 Tryz.underlying28 hi0 hz0 hz1 hz2 rfl (by decide) u4 l.length (u8s l) rfl (hown.alloc _) (some ⟨wr.heap.size, 0, none⟩) 1 1 [.int .u8 (16 * a + b)] rfl (src_new1 _ _ _) (by simp [Value.oneCell']) (by unfold maxLen; omega) (by omega) (by first | (simp; done) | (simp; omega)) ?_; intro v6 w6 hown6 hgrow6 hat6)
              refine ⟨⟨j + 2, k + 1, l ++ [16 * a + b], by go_num, by omega, by omega, by omega, ?_, by simp; omega, split_grown hb hown hgrow6, Lib.hid ?_⟩, by simp [intOf]; omega⟩
              · rw [u8s_snoc, List.length_append]
                exact hown6
              · rw [← hsp.out, HDR.out, unhexP_good (by rw [HA.out]; exact oa) (by rw [HB.out]; exact ob), HA.out, HB.out]
                cases unhexP (s.data.toList.drop (j + 2)) <;> simp
            · have HN : Hid (r = none) := by
                rw [← hsp.out, HDR.out, unhexP_bad (by rw [HA.out, HB.out]; omega)]
                exact rfl
              have q3 : a < 0 ∨ (0 ≤ a ∧ b < 0) := by omega
              clear hok
              rcases q3 with q3 | ⟨q3, q4⟩
              all_goals
                go_wp2
                go_ret2
                exact ⟨hb, .inl ⟨HN.out, rfl⟩⟩
          · have HS : Hid (r = some l) := by
              rw [← hsp.out, List.drop_eq_nil_of_le (by rw [← size_list]; omega)]
              exact congrArg some (List.append_nil l)
            have hl0 : s.size ≤ j := by omega
            have t9 : decide ((j : Int) < (s.size : Int)) = false := decide_eq_false (by omega)
            obtain ⟨A, cap, rfl⟩ := own_form hown
            go_wp2
            go_ret2
            exact ⟨hb, .inr ⟨l, A, cap, HS.out, rfl, hown⟩⟩
theorem src_new2 (w : World) (u v : Value) (t : TypeId) : Src (w.alloc (.cells #[u, v] t)).drew 1 (some ⟨w.heap.size, 0, none⟩) 2 [u, v] :=
  src_blk (us := [u, v]) (heap_alloc_new w _) rfl

/-- A slice that reads as bytes. -/
structure Byts (w : World) (A : Option Addr) (bs : List Int) : Prop where
  at_ : 0 < bs.length → ∃ b off, A = some ⟨b, off, none⟩ ∧ b < w.heap.size ∧ ∀ k, k < bs.length → w.cell? ⟨b, off + k, none⟩ = some (.int .u8 (bs.getD k 0))
  rng : ∀ x ∈ bs, 0 ≤ x ∧ x ≤ 255

theorem Byts.below {w w' : World} {A : Option Addr} {bs : List Int} (h : Byts w A bs) (hb : Below w.heap.size w w') : Byts w' A bs :=
  ⟨fun h0 => by
    obtain ⟨b, off, e, hl, hc⟩ := h.at_ h0
    exact ⟨b, off, e, Nat.lt_of_lt_of_le hl hb.size, fun k hk => (hb.cell (p := ⟨b, off + k, none⟩) hl).trans (hc k hk)⟩, h.rng⟩

/-- Bytes as numbers. -/
def nums (l : Bs) : List Int := l.map fun c => (c.toNat : Int)

theorem strOf_nums (l : Bs) : strOfNums (nums l) = ⟨l.toArray⟩ := by
  unfold strOfNums nums
  rw [List.map_map]
  congr 2
  refine (List.map_congr_left fun c _ => ?_).trans (List.map_id l)
  simp

theorem own_str {w : World} {base : Nat} {v : Value} {bs : List Int} (h : w.ownsRow base 5 1 v bs.length (u8s bs)) : (convert 28 9 v).run Tryz.prog w = .ok (.string (strOfNums bs)) w := by
  rcases h.2 with ⟨rfl, h0⟩ | ⟨g, cap, cur, rfl, _⟩
  · have hb : bs = [] := List.eq_nil_of_length_eq_zero h0
    subst hb
    exact run_convert_bytes_nil w 28 5 Tryz.underlying28 Tryz.underlying5 _ _ 9 Tryz.underlying9
  · refine run_convert_bytes_arg w 28 5 Tryz.underlying28 Tryz.underlying5 g 0 _ _ bs rfl (fun i hi => ?_) 9 Tryz.underlying9
    rw [Nat.zero_add, h.cellAt i (by omega)]
    unfold u8s
    rw [List.getElem?_map, List.getElem?_eq_getElem hi, List.getD_eq_getElem?_getD, List.getElem?_eq_getElem hi]
    rfl

theorem hexVal (n : Nat) (h1 : n ≤ 15) : ∀ h, (⟨#[48, 49, 50, 51, 52, 53, 54, 55, 56, 57, 97, 98, 99, 100, 101, 102]⟩ : ByteArray)[n]'h = hexd n := by
  have : n = 0 ∨ n = 1 ∨ n = 2 ∨ n = 3 ∨ n = 4 ∨ n = 5 ∨ n = 6 ∨ n = 7 ∨ n = 8 ∨ n = 9 ∨ n = 10 ∨ n = 11 ∨ n = 12 ∨ n = 13 ∨ n = 14 ∨ n = 15 := by omega
  rcases this with rfl | rfl | rfl | rfl | rfl | rfl | rfl | rfl | rfl | rfl | rfl | rfl | rfl | rfl | rfl | rfl <;> exact fun _ => rfl

set_option maxRecDepth 100000 in
theorem hexIdx (q : Int) (h0 : 0 ≤ q) (h1 : q ≤ 15) : ∀ W, (Instr.index 9 (.string ⟨#[48, 49, 50, 51, 52, 53, 54, 55, 56, 57, 97, 98, 99, 100, 101, 102]⟩) (.int .u8 q)).run Tryz.prog W = .ok (.int .u8 ((hexd q.toNat).toNat : Int)) W := by
  have : q = 0 ∨ q = 1 ∨ q = 2 ∨ q = 3 ∨ q = 4 ∨ q = 5 ∨ q = 6 ∨ q = 7 ∨ q = 8 ∨ q = 9 ∨ q = 10 ∨ q = 11 ∨ q = 12 ∨ q = 13 ∨ q = 14 ∨ q = 15 := by omega
  rcases this with rfl | rfl | rfl | rfl | rfl | rfl | rfl | rfl | rfl | rfl | rfl | rfl | rfl | rfl | rfl | rfl <;> exact fun W => by kernel_rfl

theorem hexP_snoc (bs : List Int) (x : Int) : hexP (bs ++ [x]) = hexP bs ++ [hexd (x.toNat / 16), hexd (x.toNat % 16)] := by
  induction bs with
  | nil => rfl
  | cons b r ih => simp [hexP, ih]

theorem hexP_len : ∀ bs : List Int, (hexP bs).length = 2 * bs.length
  | [] => rfl
  | b :: r => by simp [hexP, hexP_len r]; omega

set_option maxRecDepth 100000 in
set_option maxHeartbeats 2000000 in
theorem hex_call (A : Option Addr) (c : Nat) (bs : List Int) (w : World) (h : Byts w A bs) (hl : bs.length ≤ 4194304) :
    Calls Tryz.prog 42 #[.slice A bs.length c] w fun e w' => e = .returned (.string ⟨(hex bs).toArray⟩) ∧ Below w.heap.size w w' := by
  obtain ⟨i0, hi0, hz0, hz1, hz2⟩ := info_parts info5
  by_cases h0 : bs.length < 1
  · have t2 : ((bs.length : Int) == 0) = true := by rw [beq_iff_eq]; omega
    have HX : Hid (hex bs = [45]) := by unfold hex; rw [if_pos (by omega)]; exact rfl
    go_enter Tryz.func42, Tryz.ntmps42
    go_wp2
    go_ret
    exact ⟨by rw [HX.out]; rfl, Below.refl _ _⟩
  · have t2 : ((bs.length : Int) == 0) = false := by rw [beq_eq_false_iff_ne]; omega
    have HX : Hid (hex bs = hexP bs) := by unfold hex; rw [if_neg (by omega)]; exact rfl
    obtain ⟨b, off, rfl, hbl, hc⟩ := h.at_ (by omega)
    have HC := Lib.hid hc
    have HRG := Lib.hid h.rng
    clear hc h
    go_enter Tryz.func42, Tryz.ntmps42
    go_wp2
    go_loopw [3, 4] (fun v i wr => ∃ k : Nat, i = .int .i64 k ∧ k ≤ bs.length ∧ wr.ownsRow w.heap.size 5 1 v (nums (hexP (bs.take k))).length (u8s (nums (hexP (bs.take k)))) ∧ Below w.heap.size w wr) (fun _ i _ => bs.length - (intOf i).toNat)
    case atStart => exact ⟨0, rfl, by omega, World.ownsRow_made w #[] 0 (Nat.le_refl _) (by decide) rfl, by go_grown⟩
    case round =>
      obtain ⟨k, rfl, hk, hown, hb⟩ := hrel
      have hz := hb.size
      by_cases hlt : k < bs.length
      · have k0 : (0 : Int) ≤ (k : Int) := Int.natCast_nonneg _
        have k1 : (k : Int) < (bs.length : Int) := by omega
        obtain ⟨x, hx⟩ : ∃ x, bs.getD k 0 = x := ⟨_, rfl⟩
        have hcell := (hb.cell (p := ⟨b, off + k, none⟩) hbl).trans (HC.out k hlt)
        have hgk : bs[k] = x := by rw [← hx, List.getD_eq_getElem?_getD, List.getElem?_eq_getElem hlt]; rfl
        obtain ⟨x0, x1⟩ := HRG.out x (by rw [← hgk]; exact List.getElem_mem _)
        rw [hx] at hcell
        have q1 := hexIdx (x / 16) (by omega) (by omega)
        have q2 := hexIdx (x % 16) (by omega) (by omega)
        have hln : (nums (hexP (bs.take k))).length ≤ 2 * k := by unfold nums; rw [List.length_map, hexP_len, List.length_take]; omega
        have r1 : IntKind.u8.wrap (x.tdiv 16) = x / 16 := by rw [Int.tdiv_eq_ediv_of_nonneg x0]; exact IntWalk.u8_in _ (by omega)
        have r2 : IntKind.u8.wrap (x.tmod 16) = x % 16 := by rw [Int.tmod_eq_emod_of_nonneg x0]; exact IntWalk.u8_in _ (by omega)
        have r3 : x.tmod 16 = x % 16 := Int.tmod_eq_emod_of_nonneg x0
        have r4 : x.tdiv 16 = x / 16 := Int.tdiv_eq_ediv_of_nonneg x0
        have r5 : IntKind.u8.wrap (x / 16) = x / 16 := IntWalk.u8_in _ (by omega)
        have r6 : IntKind.u8.wrap (x % 16) = x % 16 := IntWalk.u8_in _ (by omega)
        have HTN : Hid (x.toNat / 16 = (x / 16).toNat ∧ x.toNat % 16 = (x % 16).toNat) := by constructor <;> omega
        have v1 := hexVal (x / 16).toNat (by omega)
        have v2 := hexVal (x % 16).toNat (by omega)
        have b1 : 0 ≤ x / 16 := by omega
        have b2 : x / 16 < 16 := by omega
        have b3 : 0 ≤ x % 16 := by omega
        have b4 : x % 16 < 16 := by omega
        go_wp2_with fail
        go_region_law ((refine step_app rfl (.tmp 15) (.tmp 28) 28 rfl w.heap.size 5 i0 _ 1 1 Tryz.underlying28 hi0 hz0 hz1 hz2 rfl (by decide) u3 (nums (hexP (bs.take k))).length _ rfl (hown.alloc _) (some ⟨wr.heap.size, 0, none⟩) 2 2 [.int .u8 ((hexd (x / 16).toNat).toNat : Int), .int .u8 ((hexd (x % 16).toNat).toNat : Int)] rfl (src_new2 _ _ _ _) (by simp [Value.oneCell']) (by unfold maxLen; omega) (by omega) (by first | (simp; done) | (simp; omega)) ?_); intro v6 w6 hown6 hgrow6 hat6)
        all_goals go_wp2
        all_goals
          refine ⟨⟨k + 1, by go_num, by omega, ?_, Below.grown ((hb.alloc hz _).drew) hgrow6 (by simp; omega) (fun b e => own_blk hown e)⟩, by simp [intOf]; omega⟩
          rw [List.take_succ_eq_append_getElem hlt, hgk, hexP_snoc, HTN.out.1, HTN.out.2]
          simpa [nums, u8s] using hown6
      · obtain rfl : k = bs.length := by omega
        rw [List.take_length] at hown
        obtain ⟨A, cap, rfl⟩ := own_form hown
        have hcv := own_str hown
        rw [strOf_nums] at hcv
        clear hown
        go_wp2
        go_ret
        exact ⟨by rw [HX.out]; rfl, hb⟩

theorem byts_new (w : World) (bs : List Int) (t : TypeId) (h : ∀ x ∈ bs, 0 ≤ x ∧ x ≤ 255) : Byts (w.alloc (.cells (u8s bs).toArray t)) (some ⟨w.heap.size, 0, none⟩) bs :=
  ⟨fun _ => ⟨w.heap.size, 0, rfl, by simp, fun k hk => by
    rw [Nat.zero_add, cell_of_row _ _ k _ _ _ (heap_alloc_new w _)]
    unfold u8s
    simp [List.getElem?_eq_getElem hk]⟩, h⟩

/-- HEX of a hash in a box. -/
theorem hash_call (bs : List Int) (w : World) (h : ∀ x ∈ bs, 0 ≤ x ∧ x ≤ 255) (hl : bs.length = 32) :
    Calls Tryz.prog 43 #[.agg (u8s bs).toArray] w fun e w' => e = .returned (.string ⟨(hex bs).toArray⟩) ∧ Below w.heap.size w w' := by
  go_enter Tryz.func43, Tryz.ntmps43
  go_wp2_with fail
  have H := hex_call (some ⟨w.heap.size, 0, none⟩) 32 bs _ (byts_new w bs 39 h) (by omega)
  rw [hl] at H
  refine H.mono ?_
  rintro e w' ⟨rfl, hb⟩
  clear H
  go_wp2_with fail
  go_ret
  exact ⟨rfl, ((Below.refl _ _).alloc (Nat.le_refl _) _).trans (hb.mono (by simp))⟩
end Go.Proofs.YtlibjfmafpiopaaGreatDoor
