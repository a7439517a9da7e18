/- The program's Parse: the contract. -/
import Derived.Test.YtlibjfmafpiopaaGreatDoorAll
namespace Go.Proofs.YtlibjfmafpiopaaGreatDoor
open Go.RowKit Go.Shelf Scr

theorem split_count (c : UInt8) : ∀ s : Bs, ((split c s).length : Int) = Lib.countByte s c + 1
  | [] => by simp [split, Lib.countByte]
  | x :: xs => by
    have ih := split_count c xs
    have hne := split_ne c xs
    unfold split
    by_cases h : x = c
    · subst h
      simp [Lib.countByte] at ih ⊢
      omega
    · have hg : (glue [x] (split c xs)).length = (split c xs).length := by
        cases hs : split c xs with
        | nil => exact absurd hs hne
        | cons y ys => simp [glue]
      rw [if_neg h, hg, ih]
      simp [Lib.countByte, h]

set_option maxRecDepth 100000 in
theorem parse12_call {a0 a1 a3 : Addr} (s : ByteArray) (w : World) (hs : s.size ≤ 140737488351232) (L : Laid a0 a1 a3 w) : Calls Tryz.prog 12 #[.string s] w fun e w' => ParsePost w (parseR s.data.toList) e w' := by
  have hsl := size_list s
  obtain ⟨o, ho⟩ : ∃ o, parseR s.data.toList = o := ⟨_, rfl⟩
  rw [ho]
  have hpr : o = if 65536 < s.size then ([], 0, 220) else if 4096 < (split 10 s.data.toList).length then ([], 0, 220) else linesR 0 (split 10 s.data.toList) [] := by rw [← ho, hsl]; rfl
  have HP := Lib.hid hpr
  have HL := Lib.hid L
  clear ho hpr hsl L
  by_cases h1 : 65536 < s.size
  · have HR : Hid (o = ([], 0, 220)) := by rw [HP.out, if_pos h1]; exact rfl
    go_enter Tryz.func12, Tryz.ntmps12
    go_wp2
    go_ret3
    rw [HR.out]
    exact ⟨Below.refl _ _, none, 0, [], rfl, World.ownsRow_nil _ _ _ _, .nil⟩
  · have HC := Lib.hid (split_count 10 s.data.toList)
    have CC := Lib.hid (Tryz.strings_Count_one s 10 w)
    obtain ⟨n, hn⟩ : ∃ n, Lib.countByte s.data.toList 10 = n := ⟨_, rfl⟩
    rw [hn] at CC HC
    clear hn
    by_cases h2 : 4096 ≤ (n : Int)
    · have HR : Hid (o = ([], 0, 220)) := by rw [HP.out, if_neg h1, if_pos (by have := HC.out; omega)]; exact rfl
      go_enter Tryz.func12, Tryz.ntmps12
      go_wp2_with (go_at_call 21; refine CC.out.mono ?_; rintro e w1 ⟨rfl, rfl⟩)
      go_ret3
      rw [HR.out]
      exact ⟨Below.refl _ _, none, 0, [], rfl, World.ownsRow_nil _ _ _ _, .nil⟩
    · have HR : Hid (o = linesR 0 (split 10 s.data.toList) []) := by rw [HP.out, if_neg h1, if_neg (by have := HC.out; omega)]; exact rfl
      have AC := Lib.hid (all22_call s (by omega) w HL.out)
      rw [← HR.out] at AC
      go_enter Tryz.func12, Tryz.ntmps12
      go_wp2_with (go_at_call 21; refine CC.out.mono ?_; rintro e w1 ⟨rfl, rfl⟩)
      refine AC.out.mono ?_
      rintro e w1 ⟨hb1, ⟨outs, A, cap, cs, rfl, rfl, hown, hcm⟩ | ⟨at_, x, a, eb, rfl, hea, rfl, c0, c1⟩⟩
      · go_wp2_with fail
        refine (told_nil w1).mono ?_
        rintro e w2 ⟨rfl, hb2⟩
        go_wp2_with fail
        go_ret3
        have hz := hb1.size
        exact ⟨hb1.trans (hb2.mono hz), A, cap, cs, rfl, own_keep hown fun b _ hl => hb2.block b hl, hcm.grown hb2.size (fun b hl _ => hb2.block b hl) (fun _ _ h => h)⟩
      · have TC := Lib.hid (told_err eb at_ x a w1 (HL.out.below hb1) c0 c1 hea)
        clear c0 c1 hea
        go_wp2_with fail
        refine TC.out.mono ?_
        rintro e w2 ⟨rfl, hb2⟩
        go_wp2_with fail
        go_ret3
        have hz := hb1.size
        exact ⟨hb1.trans (hb2.mono hz), none, 0, [], rfl, World.ownsRow_nil _ _ _ _, .nil⟩
end Go.Proofs.YtlibjfmafpiopaaGreatDoor
