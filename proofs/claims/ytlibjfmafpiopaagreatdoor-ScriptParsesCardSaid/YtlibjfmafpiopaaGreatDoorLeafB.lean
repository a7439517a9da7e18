/- The program's unhex: the contract. -/
import Derived.Test.YtlibjfmafpiopaaGreatDoorLeaf
import Derived.BigQuiet
import Derived.Deep.QuietTactic
namespace Go.Proofs.YtlibjfmafpiopaaGreatDoor
open Go.RowKit Go.Shelf Scr

/-- What 'unhex' answers. -/
def UnhexP (w : World) (o : Option (List Int)) (e : Ending) (w' : World) : Prop :=
  Below w.heap.size w w' ∧ ∃ l A cap b, e = .returned (.tuple #[.slice A l.length cap, .bool b]) ∧ w'.ownsRow w.heap.size 5 1 (.slice A l.length cap) l.length (u8s l) ∧ o = (if b then some l else none)

set_option maxRecDepth 100000 in
theorem digit_index : ∀ n, n < 256 → digit (UInt8.ofNat n) = Lib.indexByte [48, 49, 50, 51, 52, 53, 54, 55, 56, 57, 97, 98, 99, 100, 101, 102] (UInt8.ofNat n) := by
  decide

theorem digit_shelf (c : UInt8) (w : World) : Calls Tryz.prog 98 #[.string ⟨#[48, 49, 50, 51, 52, 53, 54, 55, 56, 57, 97, 98, 99, 100, 101, 102]⟩, .int .u8 (c.toNat : Int)] w fun e w' => e = .returned (.int .i64 (digit c)) ∧ w' = w := by
  have h := Tryz.strings_IndexByte ⟨#[48, 49, 50, 51, 52, 53, 54, 55, 56, 57, 97, 98, 99, 100, 101, 102]⟩ (c.toNat : Int) w
  have e1 : ((c.toNat : Int).toNat.toUInt8) = c := by simp
  have e2 := digit_index c.toNat c.toNat_lt
  have e3 : UInt8.ofNat c.toNat = c := by simp
  rw [e3] at e2
  rw [e1] at h
  rw [e2]
  exact h

theorem strIdx (s : ByteArray) (j : Nat) (h : j < s.size) : ∀ W, (Instr.index 9 (.string s) (.int .i64 (j : Int))).run Tryz.prog W = .ok (.int .u8 ((s[j]'h).toNat : Int)) W := fun W => by
  have h0 : (0 : Int) ≤ (j : Int) := Int.natCast_nonneg _
  have h1 : (j : Int) < (s.size : Int) := by omega
  simp [go_sem, Instr.index, h0, h]

theorem heap_drewN (w : World) : ∀ n, (w.drewN n).heap = w.heap
  | 0 => rfl
  | n + 1 => heap_drewN w n

theorem below_drewN (w : World) : ∀ n, Below w.heap.size w (w.drewN n)
  | 0 => Below.refl _ _
  | n + 1 => (below_drewN w n).drew

set_option maxRecDepth 100000 in
theorem nib : ∀ a : Nat, a < 16 → ∀ b : Nat, b < 16 → bits BinOp.or IntKind.i64 ((a : Int) * 16) (b : Int) % 256 = 16 * (a : Int) + (b : Int) := by decide

theorem nibI {a b : Int} (h1 : 0 ≤ a) (h2 : a ≤ 15) (h3 : 0 ≤ b) (h4 : b ≤ 15) : bits BinOp.or IntKind.i64 (a * 16) b % 256 = 16 * a + b := by
  have := nib a.toNat (by omega) b.toNat (by omega)
  rwa [Int.toNat_of_nonneg h1, Int.toNat_of_nonneg h3] at this

theorem unhexP_len : ∀ {l : Bs} {r : List Int}, unhexP l = some r → l.length % 2 = 0
  | [], _, _ => rfl
  | [_], _, h => by simp [unhexP] at h
  | a :: b :: t, r, h => by
    simp only [unhexP] at h
    split at h
    · cases h
    · cases ht : unhexP t with
      | none => rw [ht] at h; cases h
      | some q =>
        have := unhexP_len ht
        simp
        omega

set_option maxRecDepth 100000 in
set_option maxHeartbeats 4000000 in
theorem unhex75_call (s : ByteArray) (w : World) (hs : s.size ≤ 70000) : Calls Tryz.prog 75 #[.string s] w fun e w' => UnhexP w (unhex s.data.toList) e w' := by
  obtain ⟨i0, hi0, hz0, hz1, hz2⟩ := info_parts info5
  obtain ⟨r, hr⟩ : ∃ r, unhex s.data.toList = r := ⟨_, rfl⟩
  have HR0 := Lib.hid hr
  have HTL := Lib.hid (ByteArray.toList_eq s)
  rw [hr]
  clear hr
  by_cases hd : s.data.toList = [45]
  · have t1 : (s.toList == [45]) = true := by rw [HTL.out, hd]; rfl
    have HR : Hid (r = some []) := by rw [← HR0.out]; unfold unhex; rw [if_pos hd]; exact rfl
    clear hd
    go_enter Tryz.func75, Tryz.ntmps75
    go_wp2
    go_ret2
    exact ⟨by go_grown, [], none, 0, true, rfl, World.ownsRow_nil _ _ _ _, HR.out⟩
  · have t1 : (s.toList == [45]) = false := by rw [HTL.out, beq_eq_false_iff_ne]; exact hd
    have HR : Hid (r = if s.size = 0 ∨ s.size % 2 ≠ 0 then none else unhexP s.data.toList) := Lib.hid (by rw [← HR0.out]; unfold unhex; rw [if_neg hd, size_list])
    clear hd HR0
    go_enter Tryz.func75, Tryz.ntmps75
    go_wp2
    go_loopw [4, 5, 6, 7] (fun v i _ _ wr => ∃ (j k : Nat) (l : List Int), i = .int .i64 j ∧ j ≤ 2 * k ∧ 2 * k ≤ j ∧ j ≤ s.size ∧ wr.ownsRow w.heap.size 5 1 v l.length (u8s l) ∧ l.length ≤ k ∧ Below w.heap.size w wr ∧ Hid ((unhexP (s.data.toList.drop j)).map (fun t => l ++ t) = unhexP s.data.toList))
      (fun _ i _ _ _ => s.size - (intOf i).toNat)
    case atStart => exact ⟨0, 0, [], rfl, by omega, by omega, by omega, World.ownsRow_nil _ _ _ _, by simp, by go_grown, Lib.hid (by simp)⟩
    case round =>
      obtain ⟨j, k, l, rfl, hjk, hjk2, hj, hown, hlk, hb, hsp⟩ := hrel
      have hz := hb.size
      by_cases hlt : j + 1 < s.size
      · have j0 : (0 : Int) ≤ (j : Int) := Int.natCast_nonneg _
        have j1 : (j : Int) < (s.size : Int) := by omega
        have j2 : (j : Int) + 1 < (s.size : Int) := by omega
        have j3 : j < s.size := by omega
        have g1 : j < s.data.toList.length := by rw [← size_list]; exact j3
        have g2 : j + 1 < s.data.toList.length := by rw [← size_list]; exact hlt
        obtain ⟨c1, hc1⟩ : ∃ c, s[j] = c := ⟨_, rfl⟩
        obtain ⟨c2, hc2⟩ : ∃ c, s[j + 1] = c := ⟨_, rfl⟩
        have HDR : Hid (s.data.toList.drop j = c1 :: c2 :: s.data.toList.drop (j + 2)) := by
          rw [List.drop_eq_getElem_cons g1, List.drop_eq_getElem_cons g2, ← get_list s j j3, ← get_list s (j + 1) hlt, hc1, hc2]
          exact rfl
        obtain ⟨a, ha⟩ : ∃ a, digit c1 = a := ⟨_, rfl⟩
        obtain ⟨b, hb'⟩ : ∃ b, digit c2 = b := ⟨_, rfl⟩
        have D1 : ∀ w, Calls Tryz.prog 98 #[.string ⟨#[48, 49, 50, 51, 52, 53, 54, 55, 56, 57, 97, 98, 99, 100, 101, 102]⟩, .int .u8 (c1.toNat : Int)] w fun e w' => e = .returned (.int .i64 a) ∧ w' = w := fun w => by rw [← ha]; exact digit_shelf c1 w
        have D2 : ∀ w, Calls Tryz.prog 98 #[.string ⟨#[48, 49, 50, 51, 52, 53, 54, 55, 56, 57, 97, 98, 99, 100, 101, 102]⟩, .int .u8 (c2.toNat : Int)] w fun e w' => e = .returned (.int .i64 b) ∧ w' = w := fun w => by rw [← hb']; exact digit_shelf c2 w
        obtain ⟨ra1, ra2⟩ : -1 ≤ a ∧ a ≤ 15 := by rw [← ha]; exact digit_range c1
        obtain ⟨rb1, rb2⟩ : -1 ≤ b ∧ b ≤ 15 := by rw [← hb']; exact digit_range c2
        have HA := Lib.hid ha
        have HB := Lib.hid hb'
        clear ha hb'
        go_wp2_with fail
        have e1 : IntKind.i64.wrap ((j : Int) + 1) = (j : Int) + 1 := IntWalk.i64_in _ (by omega)
        have e2 : (0 : Int) ≤ (j : Int) + 1 := by omega
        have e3 : ((j : Int) + 1).toNat = j + 1 := by omega
        have x1 := strIdx s j j3
        have x2 := strIdx s (j + 1) hlt
        rw [hc1] at x1
        rw [hc2, show (((j + 1 : Nat)) : Int) = (j : Int) + 1 by omega] at x2
        go_quiet ((first | (go_at_call 98; exact Calls.quiet_of_same (D1 _)) | (go_at_call 98; exact Calls.quiet_of_same (D2 _))))
        clear e1 e2 e3 x1 x2 D1 D2
        have hqb := below_drewN wr nq
        have hqh := heap_drewN wr nq
        obtain ⟨wq, hwq⟩ : ∃ wq, wr.drewN nq = wq := ⟨_, rfl⟩
        rw [hwq] at hqb hqh ⊢
        clear hwq
        have hown := own_keep (w' := wq) hown (fun b _ _ => by rw [hqh])
        have hb := hb.trans (hqb.mono hz)
        have hz := hb.size
        clear hqb hqh
        by_cases hok : 0 ≤ a ∧ 0 ≤ b
        · obtain ⟨oa, ob⟩ := hok
          have hbv := nibI oa ra2 ob rb2
          go_wp2_with (at_builtin; refine wpList_app rfl (.tmp 32) (.tmp 38) 28 rfl w.heap.size 5 i0 _ 1 1 Tryz.underlying28 hi0 hz0 hz1 hz2 rfl (by decide) u4 l.length (u8s l) rfl (hown.alloc _) (some ⟨wq.heap.size, 0, none⟩) 1 1 [.int .u8 (16 * a + b)] rfl (src_new1 _ _ _) (by simp [Value.oneCell']) (by unfold maxLen; omega) (by omega) (by first | (simp; done) | (simp; omega)) ?_; intro v6 w6 hown6 hgrow6 hat6)
          refine ⟨⟨j + 2, k + 1, l ++ [16 * a + b], by go_num, by omega, by omega, by omega, ?_, by simp; omega, split_grown hb hown hgrow6, Lib.hid ?_⟩, by simp [intOf]; omega⟩
          · rw [u8s_snoc, List.length_append]
            exact hown6
          · rw [← hsp.out, HDR.out, unhexP_good (by rw [HA.out]; exact oa) (by rw [HB.out]; exact ob), HA.out, HB.out]
            cases unhexP (s.data.toList.drop (j + 2)) <;> simp
        · have HN : Hid (r = none) := by
            refine Lib.hid ?_
            rw [HR.out]
            split
            · rfl
            · rw [← hsp.out, HDR.out, unhexP_bad (by rw [HA.out, HB.out]; omega)]
              rfl
          have q3 : a < 0 ∨ (0 ≤ a ∧ b < 0) := by omega
          clear hok
          rcases q3 with q3 | ⟨q3, q4⟩
          all_goals
            go_wp2
            go_ret2
            exact ⟨hb, [], none, 0, false, rfl, World.ownsRow_nil _ _ _ _, HN.out⟩
      · have t9 : decide ((j : Int) + 1 < (s.size : Int)) = false := decide_eq_false (by omega)
        obtain ⟨A, cap, rfl⟩ := own_form hown
        by_cases h0 : s.size = 0
        · have hs0 : ¬ (0 : Int) < (s.size : Int) := by omega
          have HN : Hid (r = none) := Lib.hid (by rw [HR.out, if_pos (.inl h0)])
          go_wp2
          go_ret2
          exact ⟨hb, l, A, cap, false, rfl, hown, HN.out⟩
        · have hs0 : (0 : Int) < (s.size : Int) := by omega
          by_cases h2 : s.size % 2 = 0
          · have t3 : ((s.size : Int) % 2 == 0) = true := by rw [beq_iff_eq]; omega
            have HN : Hid (r = some l) := Lib.hid (by
              rw [HR.out, if_neg (by omega), ← hsp.out, List.drop_eq_nil_of_le (by rw [← size_list]; omega)]
              exact congrArg some (List.append_nil l))
            clear h2
            go_wp2
            go_ret2
            exact ⟨hb, l, A, cap, true, rfl, hown, HN.out⟩
          · have t3 : ((s.size : Int) % 2 == 0) = false := by rw [beq_eq_false_iff_ne]; omega
            have HN : Hid (r = none) := Lib.hid (by rw [HR.out, if_pos (.inr h2)])
            clear h2
            go_wp2
            go_ret2
            exact ⟨hb, l, A, cap, false, rfl, hown, HN.out⟩
end Go.Proofs.YtlibjfmafpiopaaGreatDoor
