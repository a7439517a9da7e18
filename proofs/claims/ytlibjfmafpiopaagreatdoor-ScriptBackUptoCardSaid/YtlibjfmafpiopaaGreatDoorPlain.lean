/- The law's plain: the contract. -/
import Derived.Test.YtlibjfmafpiopaaGreatDoorOpen
namespace Go.Proofs.YtlibjfmafpiopaaGreatDoor
open Go.RowKit Go.Shelf Scr

set_option maxRecDepth 100000 in
set_option maxHeartbeats 4000000 in
theorem plain19_call (c : Cmd) (Ab : Option Addr) (cb : Nat) (Ak : Option Addr) (ck : Nat) (w : World) :
    Calls Tryz.prog 19 #[.agg #[.string ⟨c.word.toArray⟩, .int .i64 c.kind, .string ⟨c.id.toArray⟩, .slice Ab c.bytes.length cb, .int .i64 c.n, .slice Ak c.keep.length ck]] w fun e w' =>
      e = .returned (.agg #[.string ⟨c.word.toArray⟩, .int .i64 c.kind, .string ⟨(plainR c).id.toArray⟩, if c.kind = 1 then .slice Ab c.bytes.length cb else .slice none 0 0, .int .i64 (plainR c).n, if c.kind = 13 ∨ c.kind = 14 then .slice Ak c.keep.length ck else .slice none 0 0]) ∧ Below w.heap.size w w' := by
  obtain ⟨word, kind, id, bytes, n, keep⟩ := c
  unfold plainR
  simp only
  obtain ⟨tw, htw⟩ : ∃ t : ByteArray, (⟨word.toArray⟩ : ByteArray) = t := ⟨_, rfl⟩
  obtain ⟨ti, hti⟩ : ∃ t : ByteArray, (⟨id.toArray⟩ : ByteArray) = t := ⟨_, rfl⟩
  obtain ⟨nb, hnb⟩ : ∃ n, bytes.length = n := ⟨_, rfl⟩
  obtain ⟨nk, hnk⟩ : ∃ n, keep.length = n := ⟨_, rfl⟩
  rw [htw, hti, hnb, hnk]
  clear htw hnb hnk
  by_cases h1 : kind = 1
  · subst h1
    have he : (Value.agg #[.string tw, .int .i64 1, .string ti, .slice Ab nb cb, .int .i64 0, .slice none 0 0]) = .agg #[.string tw, .int .i64 1, .string ⟨(if ((1 : Int) = 1 ∨ (1 : Int) = 4 ∨ (1 : Int) = 5 ∨ (1 : Int) = 2 ∨ (1 : Int) = 3 ∨ (1 : Int) = 6 ∨ (1 : Int) = 15 ∨ (1 : Int) = 16) then id else []).toArray⟩, if (1 : Int) = 1 then .slice Ab nb cb else .slice none 0 0, .int .i64 (if ((1 : Int) = 4 ∨ (1 : Int) = 5 ∨ (1 : Int) = 10 ∨ (1 : Int) = 11 ∨ (1 : Int) = 12) then n else 0), if ((1 : Int) = 13 ∨ (1 : Int) = 14) then .slice Ak nk ck else .slice none 0 0] := by
      rw [← hti]; simp
    have HE := Lib.hid he
    clear he hti
    refine Calls.mono (R := fun e w' => e = .returned (.agg #[.string tw, .int .i64 1, .string ti, .slice Ab nb cb, .int .i64 0, .slice none 0 0]) ∧ Below w.heap.size w w') ?_ (fun e w' h => ⟨h.1.trans (by rw [HE.out]), h.2⟩)
    go_enter Tryz.func19, Tryz.ntmps19
    go_wp2_with fail
    exact bodyPost_ret (v := .agg #[.string tw, .int .i64 1, .string ti, .slice Ab nb cb, .int .i64 0, .slice none 0 0]) (by simp [results, Tryz.results19, go_sem]) rfl ⟨rfl, (((Below.refl _ w).alloc (Nat.le_refl _) _).alloc (by simp) _).alloc (by simp; omega) _⟩
  by_cases h4 : kind = 4
  · subst h4
    have he : (Value.agg #[.string tw, .int .i64 4, .string ti, .slice none 0 0, .int .i64 n, .slice none 0 0]) = .agg #[.string tw, .int .i64 4, .string ⟨(if ((4 : Int) = 1 ∨ (4 : Int) = 4 ∨ (4 : Int) = 5 ∨ (4 : Int) = 2 ∨ (4 : Int) = 3 ∨ (4 : Int) = 6 ∨ (4 : Int) = 15 ∨ (4 : Int) = 16) then id else []).toArray⟩, if (4 : Int) = 1 then .slice Ab nb cb else .slice none 0 0, .int .i64 (if ((4 : Int) = 4 ∨ (4 : Int) = 5 ∨ (4 : Int) = 10 ∨ (4 : Int) = 11 ∨ (4 : Int) = 12) then n else 0), if ((4 : Int) = 13 ∨ (4 : Int) = 14) then .slice Ak nk ck else .slice none 0 0] := by
      rw [← hti]; simp
    have HE := Lib.hid he
    clear he hti
    refine Calls.mono (R := fun e w' => e = .returned (.agg #[.string tw, .int .i64 4, .string ti, .slice none 0 0, .int .i64 n, .slice none 0 0]) ∧ Below w.heap.size w w') ?_ (fun e w' h => ⟨h.1.trans (by rw [HE.out]), h.2⟩)
    go_enter Tryz.func19, Tryz.ntmps19
    go_wp2_with fail
    exact bodyPost_ret (v := .agg #[.string tw, .int .i64 4, .string ti, .slice none 0 0, .int .i64 n, .slice none 0 0]) (by simp [results, Tryz.results19, go_sem]) rfl ⟨rfl, (((Below.refl _ w).alloc (Nat.le_refl _) _).alloc (by simp) _).alloc (by simp; omega) _⟩
  by_cases h5 : kind = 5
  · subst h5
    have he : (Value.agg #[.string tw, .int .i64 5, .string ti, .slice none 0 0, .int .i64 n, .slice none 0 0]) = .agg #[.string tw, .int .i64 5, .string ⟨(if ((5 : Int) = 1 ∨ (5 : Int) = 4 ∨ (5 : Int) = 5 ∨ (5 : Int) = 2 ∨ (5 : Int) = 3 ∨ (5 : Int) = 6 ∨ (5 : Int) = 15 ∨ (5 : Int) = 16) then id else []).toArray⟩, if (5 : Int) = 1 then .slice Ab nb cb else .slice none 0 0, .int .i64 (if ((5 : Int) = 4 ∨ (5 : Int) = 5 ∨ (5 : Int) = 10 ∨ (5 : Int) = 11 ∨ (5 : Int) = 12) then n else 0), if ((5 : Int) = 13 ∨ (5 : Int) = 14) then .slice Ak nk ck else .slice none 0 0] := by
      rw [← hti]; simp
    have HE := Lib.hid he
    clear he hti
    refine Calls.mono (R := fun e w' => e = .returned (.agg #[.string tw, .int .i64 5, .string ti, .slice none 0 0, .int .i64 n, .slice none 0 0]) ∧ Below w.heap.size w w') ?_ (fun e w' h => ⟨h.1.trans (by rw [HE.out]), h.2⟩)
    go_enter Tryz.func19, Tryz.ntmps19
    go_wp2_with fail
    exact bodyPost_ret (v := .agg #[.string tw, .int .i64 5, .string ti, .slice none 0 0, .int .i64 n, .slice none 0 0]) (by simp [results, Tryz.results19, go_sem]) rfl ⟨rfl, (((Below.refl _ w).alloc (Nat.le_refl _) _).alloc (by simp) _).alloc (by simp; omega) _⟩
  by_cases h2 : kind = 2
  · subst h2
    have he : (Value.agg #[.string tw, .int .i64 2, .string ti, .slice none 0 0, .int .i64 0, .slice none 0 0]) = .agg #[.string tw, .int .i64 2, .string ⟨(if ((2 : Int) = 1 ∨ (2 : Int) = 4 ∨ (2 : Int) = 5 ∨ (2 : Int) = 2 ∨ (2 : Int) = 3 ∨ (2 : Int) = 6 ∨ (2 : Int) = 15 ∨ (2 : Int) = 16) then id else []).toArray⟩, if (2 : Int) = 1 then .slice Ab nb cb else .slice none 0 0, .int .i64 (if ((2 : Int) = 4 ∨ (2 : Int) = 5 ∨ (2 : Int) = 10 ∨ (2 : Int) = 11 ∨ (2 : Int) = 12) then n else 0), if ((2 : Int) = 13 ∨ (2 : Int) = 14) then .slice Ak nk ck else .slice none 0 0] := by
      rw [← hti]; simp
    have HE := Lib.hid he
    clear he hti
    refine Calls.mono (R := fun e w' => e = .returned (.agg #[.string tw, .int .i64 2, .string ti, .slice none 0 0, .int .i64 0, .slice none 0 0]) ∧ Below w.heap.size w w') ?_ (fun e w' h => ⟨h.1.trans (by rw [HE.out]), h.2⟩)
    go_enter Tryz.func19, Tryz.ntmps19
    go_wp2_with fail
    exact bodyPost_ret (v := .agg #[.string tw, .int .i64 2, .string ti, .slice none 0 0, .int .i64 0, .slice none 0 0]) (by simp [results, Tryz.results19, go_sem]) rfl ⟨rfl, (((Below.refl _ w).alloc (Nat.le_refl _) _).alloc (by simp) _).alloc (by simp; omega) _⟩
  by_cases h3 : kind = 3
  · subst h3
    have he : (Value.agg #[.string tw, .int .i64 3, .string ti, .slice none 0 0, .int .i64 0, .slice none 0 0]) = .agg #[.string tw, .int .i64 3, .string ⟨(if ((3 : Int) = 1 ∨ (3 : Int) = 4 ∨ (3 : Int) = 5 ∨ (3 : Int) = 2 ∨ (3 : Int) = 3 ∨ (3 : Int) = 6 ∨ (3 : Int) = 15 ∨ (3 : Int) = 16) then id else []).toArray⟩, if (3 : Int) = 1 then .slice Ab nb cb else .slice none 0 0, .int .i64 (if ((3 : Int) = 4 ∨ (3 : Int) = 5 ∨ (3 : Int) = 10 ∨ (3 : Int) = 11 ∨ (3 : Int) = 12) then n else 0), if ((3 : Int) = 13 ∨ (3 : Int) = 14) then .slice Ak nk ck else .slice none 0 0] := by
      rw [← hti]; simp
    have HE := Lib.hid he
    clear he hti
    refine Calls.mono (R := fun e w' => e = .returned (.agg #[.string tw, .int .i64 3, .string ti, .slice none 0 0, .int .i64 0, .slice none 0 0]) ∧ Below w.heap.size w w') ?_ (fun e w' h => ⟨h.1.trans (by rw [HE.out]), h.2⟩)
    go_enter Tryz.func19, Tryz.ntmps19
    go_wp2_with fail
    exact bodyPost_ret (v := .agg #[.string tw, .int .i64 3, .string ti, .slice none 0 0, .int .i64 0, .slice none 0 0]) (by simp [results, Tryz.results19, go_sem]) rfl ⟨rfl, (((Below.refl _ w).alloc (Nat.le_refl _) _).alloc (by simp) _).alloc (by simp; omega) _⟩
  by_cases h6 : kind = 6
  · subst h6
    have he : (Value.agg #[.string tw, .int .i64 6, .string ti, .slice none 0 0, .int .i64 0, .slice none 0 0]) = .agg #[.string tw, .int .i64 6, .string ⟨(if ((6 : Int) = 1 ∨ (6 : Int) = 4 ∨ (6 : Int) = 5 ∨ (6 : Int) = 2 ∨ (6 : Int) = 3 ∨ (6 : Int) = 6 ∨ (6 : Int) = 15 ∨ (6 : Int) = 16) then id else []).toArray⟩, if (6 : Int) = 1 then .slice Ab nb cb else .slice none 0 0, .int .i64 (if ((6 : Int) = 4 ∨ (6 : Int) = 5 ∨ (6 : Int) = 10 ∨ (6 : Int) = 11 ∨ (6 : Int) = 12) then n else 0), if ((6 : Int) = 13 ∨ (6 : Int) = 14) then .slice Ak nk ck else .slice none 0 0] := by
      rw [← hti]; simp
    have HE := Lib.hid he
    clear he hti
    refine Calls.mono (R := fun e w' => e = .returned (.agg #[.string tw, .int .i64 6, .string ti, .slice none 0 0, .int .i64 0, .slice none 0 0]) ∧ Below w.heap.size w w') ?_ (fun e w' h => ⟨h.1.trans (by rw [HE.out]), h.2⟩)
    go_enter Tryz.func19, Tryz.ntmps19
    go_wp2_with fail
    exact bodyPost_ret (v := .agg #[.string tw, .int .i64 6, .string ti, .slice none 0 0, .int .i64 0, .slice none 0 0]) (by simp [results, Tryz.results19, go_sem]) rfl ⟨rfl, (((Below.refl _ w).alloc (Nat.le_refl _) _).alloc (by simp) _).alloc (by simp; omega) _⟩
  by_cases h15 : kind = 15
  · subst h15
    have he : (Value.agg #[.string tw, .int .i64 15, .string ti, .slice none 0 0, .int .i64 0, .slice none 0 0]) = .agg #[.string tw, .int .i64 15, .string ⟨(if ((15 : Int) = 1 ∨ (15 : Int) = 4 ∨ (15 : Int) = 5 ∨ (15 : Int) = 2 ∨ (15 : Int) = 3 ∨ (15 : Int) = 6 ∨ (15 : Int) = 15 ∨ (15 : Int) = 16) then id else []).toArray⟩, if (15 : Int) = 1 then .slice Ab nb cb else .slice none 0 0, .int .i64 (if ((15 : Int) = 4 ∨ (15 : Int) = 5 ∨ (15 : Int) = 10 ∨ (15 : Int) = 11 ∨ (15 : Int) = 12) then n else 0), if ((15 : Int) = 13 ∨ (15 : Int) = 14) then .slice Ak nk ck else .slice none 0 0] := by
      rw [← hti]; simp
    have HE := Lib.hid he
    clear he hti
    refine Calls.mono (R := fun e w' => e = .returned (.agg #[.string tw, .int .i64 15, .string ti, .slice none 0 0, .int .i64 0, .slice none 0 0]) ∧ Below w.heap.size w w') ?_ (fun e w' h => ⟨h.1.trans (by rw [HE.out]), h.2⟩)
    go_enter Tryz.func19, Tryz.ntmps19
    go_wp2_with fail
    exact bodyPost_ret (v := .agg #[.string tw, .int .i64 15, .string ti, .slice none 0 0, .int .i64 0, .slice none 0 0]) (by simp [results, Tryz.results19, go_sem]) rfl ⟨rfl, (((Below.refl _ w).alloc (Nat.le_refl _) _).alloc (by simp) _).alloc (by simp; omega) _⟩
  by_cases h16 : kind = 16
  · subst h16
    have he : (Value.agg #[.string tw, .int .i64 16, .string ti, .slice none 0 0, .int .i64 0, .slice none 0 0]) = .agg #[.string tw, .int .i64 16, .string ⟨(if ((16 : Int) = 1 ∨ (16 : Int) = 4 ∨ (16 : Int) = 5 ∨ (16 : Int) = 2 ∨ (16 : Int) = 3 ∨ (16 : Int) = 6 ∨ (16 : Int) = 15 ∨ (16 : Int) = 16) then id else []).toArray⟩, if (16 : Int) = 1 then .slice Ab nb cb else .slice none 0 0, .int .i64 (if ((16 : Int) = 4 ∨ (16 : Int) = 5 ∨ (16 : Int) = 10 ∨ (16 : Int) = 11 ∨ (16 : Int) = 12) then n else 0), if ((16 : Int) = 13 ∨ (16 : Int) = 14) then .slice Ak nk ck else .slice none 0 0] := by
      rw [← hti]; simp
    have HE := Lib.hid he
    clear he hti
    refine Calls.mono (R := fun e w' => e = .returned (.agg #[.string tw, .int .i64 16, .string ti, .slice none 0 0, .int .i64 0, .slice none 0 0]) ∧ Below w.heap.size w w') ?_ (fun e w' h => ⟨h.1.trans (by rw [HE.out]), h.2⟩)
    go_enter Tryz.func19, Tryz.ntmps19
    go_wp2_with fail
    exact bodyPost_ret (v := .agg #[.string tw, .int .i64 16, .string ti, .slice none 0 0, .int .i64 0, .slice none 0 0]) (by simp [results, Tryz.results19, go_sem]) rfl ⟨rfl, (((Below.refl _ w).alloc (Nat.le_refl _) _).alloc (by simp) _).alloc (by simp; omega) _⟩
  by_cases h10 : kind = 10
  · subst h10
    have he : (Value.agg #[.string tw, .int .i64 10, .string ⟨#[]⟩, .slice none 0 0, .int .i64 n, .slice none 0 0]) = .agg #[.string tw, .int .i64 10, .string ⟨(if ((10 : Int) = 1 ∨ (10 : Int) = 4 ∨ (10 : Int) = 5 ∨ (10 : Int) = 2 ∨ (10 : Int) = 3 ∨ (10 : Int) = 6 ∨ (10 : Int) = 15 ∨ (10 : Int) = 16) then id else []).toArray⟩, if (10 : Int) = 1 then .slice Ab nb cb else .slice none 0 0, .int .i64 (if ((10 : Int) = 4 ∨ (10 : Int) = 5 ∨ (10 : Int) = 10 ∨ (10 : Int) = 11 ∨ (10 : Int) = 12) then n else 0), if ((10 : Int) = 13 ∨ (10 : Int) = 14) then .slice Ak nk ck else .slice none 0 0] := by
      simp
    have HE := Lib.hid he
    clear he hti
    refine Calls.mono (R := fun e w' => e = .returned (.agg #[.string tw, .int .i64 10, .string ⟨#[]⟩, .slice none 0 0, .int .i64 n, .slice none 0 0]) ∧ Below w.heap.size w w') ?_ (fun e w' h => ⟨h.1.trans (by rw [HE.out]), h.2⟩)
    go_enter Tryz.func19, Tryz.ntmps19
    go_wp2_with fail
    exact bodyPost_ret (v := .agg #[.string tw, .int .i64 10, .string ⟨#[]⟩, .slice none 0 0, .int .i64 n, .slice none 0 0]) (by simp [results, Tryz.results19, go_sem]) rfl ⟨rfl, (((Below.refl _ w).alloc (Nat.le_refl _) _).alloc (by simp) _).alloc (by simp; omega) _⟩
  by_cases h11 : kind = 11
  · subst h11
    have he : (Value.agg #[.string tw, .int .i64 11, .string ⟨#[]⟩, .slice none 0 0, .int .i64 n, .slice none 0 0]) = .agg #[.string tw, .int .i64 11, .string ⟨(if ((11 : Int) = 1 ∨ (11 : Int) = 4 ∨ (11 : Int) = 5 ∨ (11 : Int) = 2 ∨ (11 : Int) = 3 ∨ (11 : Int) = 6 ∨ (11 : Int) = 15 ∨ (11 : Int) = 16) then id else []).toArray⟩, if (11 : Int) = 1 then .slice Ab nb cb else .slice none 0 0, .int .i64 (if ((11 : Int) = 4 ∨ (11 : Int) = 5 ∨ (11 : Int) = 10 ∨ (11 : Int) = 11 ∨ (11 : Int) = 12) then n else 0), if ((11 : Int) = 13 ∨ (11 : Int) = 14) then .slice Ak nk ck else .slice none 0 0] := by
      simp
    have HE := Lib.hid he
    clear he hti
    refine Calls.mono (R := fun e w' => e = .returned (.agg #[.string tw, .int .i64 11, .string ⟨#[]⟩, .slice none 0 0, .int .i64 n, .slice none 0 0]) ∧ Below w.heap.size w w') ?_ (fun e w' h => ⟨h.1.trans (by rw [HE.out]), h.2⟩)
    go_enter Tryz.func19, Tryz.ntmps19
    go_wp2_with fail
    exact bodyPost_ret (v := .agg #[.string tw, .int .i64 11, .string ⟨#[]⟩, .slice none 0 0, .int .i64 n, .slice none 0 0]) (by simp [results, Tryz.results19, go_sem]) rfl ⟨rfl, (((Below.refl _ w).alloc (Nat.le_refl _) _).alloc (by simp) _).alloc (by simp; omega) _⟩
  by_cases h12 : kind = 12
  · subst h12
    have he : (Value.agg #[.string tw, .int .i64 12, .string ⟨#[]⟩, .slice none 0 0, .int .i64 n, .slice none 0 0]) = .agg #[.string tw, .int .i64 12, .string ⟨(if ((12 : Int) = 1 ∨ (12 : Int) = 4 ∨ (12 : Int) = 5 ∨ (12 : Int) = 2 ∨ (12 : Int) = 3 ∨ (12 : Int) = 6 ∨ (12 : Int) = 15 ∨ (12 : Int) = 16) then id else []).toArray⟩, if (12 : Int) = 1 then .slice Ab nb cb else .slice none 0 0, .int .i64 (if ((12 : Int) = 4 ∨ (12 : Int) = 5 ∨ (12 : Int) = 10 ∨ (12 : Int) = 11 ∨ (12 : Int) = 12) then n else 0), if ((12 : Int) = 13 ∨ (12 : Int) = 14) then .slice Ak nk ck else .slice none 0 0] := by
      simp
    have HE := Lib.hid he
    clear he hti
    refine Calls.mono (R := fun e w' => e = .returned (.agg #[.string tw, .int .i64 12, .string ⟨#[]⟩, .slice none 0 0, .int .i64 n, .slice none 0 0]) ∧ Below w.heap.size w w') ?_ (fun e w' h => ⟨h.1.trans (by rw [HE.out]), h.2⟩)
    go_enter Tryz.func19, Tryz.ntmps19
    go_wp2_with fail
    exact bodyPost_ret (v := .agg #[.string tw, .int .i64 12, .string ⟨#[]⟩, .slice none 0 0, .int .i64 n, .slice none 0 0]) (by simp [results, Tryz.results19, go_sem]) rfl ⟨rfl, (((Below.refl _ w).alloc (Nat.le_refl _) _).alloc (by simp) _).alloc (by simp; omega) _⟩
  by_cases h13 : kind = 13
  · subst h13
    have he : (Value.agg #[.string tw, .int .i64 13, .string ⟨#[]⟩, .slice none 0 0, .int .i64 0, .slice Ak nk ck]) = .agg #[.string tw, .int .i64 13, .string ⟨(if ((13 : Int) = 1 ∨ (13 : Int) = 4 ∨ (13 : Int) = 5 ∨ (13 : Int) = 2 ∨ (13 : Int) = 3 ∨ (13 : Int) = 6 ∨ (13 : Int) = 15 ∨ (13 : Int) = 16) then id else []).toArray⟩, if (13 : Int) = 1 then .slice Ab nb cb else .slice none 0 0, .int .i64 (if ((13 : Int) = 4 ∨ (13 : Int) = 5 ∨ (13 : Int) = 10 ∨ (13 : Int) = 11 ∨ (13 : Int) = 12) then n else 0), if ((13 : Int) = 13 ∨ (13 : Int) = 14) then .slice Ak nk ck else .slice none 0 0] := by
      simp
    have HE := Lib.hid he
    clear he hti
    refine Calls.mono (R := fun e w' => e = .returned (.agg #[.string tw, .int .i64 13, .string ⟨#[]⟩, .slice none 0 0, .int .i64 0, .slice Ak nk ck]) ∧ Below w.heap.size w w') ?_ (fun e w' h => ⟨h.1.trans (by rw [HE.out]), h.2⟩)
    go_enter Tryz.func19, Tryz.ntmps19
    go_wp2_with fail
    exact bodyPost_ret (v := .agg #[.string tw, .int .i64 13, .string ⟨#[]⟩, .slice none 0 0, .int .i64 0, .slice Ak nk ck]) (by simp [results, Tryz.results19, go_sem]) rfl ⟨rfl, (((Below.refl _ w).alloc (Nat.le_refl _) _).alloc (by simp) _).alloc (by simp; omega) _⟩
  by_cases h14 : kind = 14
  · subst h14
    have he : (Value.agg #[.string tw, .int .i64 14, .string ⟨#[]⟩, .slice none 0 0, .int .i64 0, .slice Ak nk ck]) = .agg #[.string tw, .int .i64 14, .string ⟨(if ((14 : Int) = 1 ∨ (14 : Int) = 4 ∨ (14 : Int) = 5 ∨ (14 : Int) = 2 ∨ (14 : Int) = 3 ∨ (14 : Int) = 6 ∨ (14 : Int) = 15 ∨ (14 : Int) = 16) then id else []).toArray⟩, if (14 : Int) = 1 then .slice Ab nb cb else .slice none 0 0, .int .i64 (if ((14 : Int) = 4 ∨ (14 : Int) = 5 ∨ (14 : Int) = 10 ∨ (14 : Int) = 11 ∨ (14 : Int) = 12) then n else 0), if ((14 : Int) = 13 ∨ (14 : Int) = 14) then .slice Ak nk ck else .slice none 0 0] := by
      simp
    have HE := Lib.hid he
    clear he hti
    refine Calls.mono (R := fun e w' => e = .returned (.agg #[.string tw, .int .i64 14, .string ⟨#[]⟩, .slice none 0 0, .int .i64 0, .slice Ak nk ck]) ∧ Below w.heap.size w w') ?_ (fun e w' h => ⟨h.1.trans (by rw [HE.out]), h.2⟩)
    go_enter Tryz.func19, Tryz.ntmps19
    go_wp2_with fail
    exact bodyPost_ret (v := .agg #[.string tw, .int .i64 14, .string ⟨#[]⟩, .slice none 0 0, .int .i64 0, .slice Ak nk ck]) (by simp [results, Tryz.results19, go_sem]) rfl ⟨rfl, (((Below.refl _ w).alloc (Nat.le_refl _) _).alloc (by simp) _).alloc (by simp; omega) _⟩
  have he : (Value.agg #[.string tw, .int .i64 kind, .string ⟨#[]⟩, .slice none 0 0, .int .i64 0, .slice none 0 0]) = .agg #[.string tw, .int .i64 kind, .string ⟨(if (kind = 1 ∨ kind = 4 ∨ kind = 5 ∨ kind = 2 ∨ kind = 3 ∨ kind = 6 ∨ kind = 15 ∨ kind = 16) then id else []).toArray⟩, if kind = 1 then .slice Ab nb cb else .slice none 0 0, .int .i64 (if (kind = 4 ∨ kind = 5 ∨ kind = 10 ∨ kind = 11 ∨ kind = 12) then n else 0), if (kind = 13 ∨ kind = 14) then .slice Ak nk ck else .slice none 0 0] := by
    rw [if_neg (by omega), if_neg h1, if_neg (by omega), if_neg (by omega)]
  have HE := Lib.hid he
  have t1 : (kind == 1) = false := by rw [beq_eq_false_iff_ne]; exact h1
  have t4 : (kind == 4) = false := by rw [beq_eq_false_iff_ne]; exact h4
  have t5 : (kind == 5) = false := by rw [beq_eq_false_iff_ne]; exact h5
  have t2 : (kind == 2) = false := by rw [beq_eq_false_iff_ne]; exact h2
  have t3 : (kind == 3) = false := by rw [beq_eq_false_iff_ne]; exact h3
  have t6 : (kind == 6) = false := by rw [beq_eq_false_iff_ne]; exact h6
  have t15 : (kind == 15) = false := by rw [beq_eq_false_iff_ne]; exact h15
  have t16 : (kind == 16) = false := by rw [beq_eq_false_iff_ne]; exact h16
  have t10 : (kind == 10) = false := by rw [beq_eq_false_iff_ne]; exact h10
  have t11 : (kind == 11) = false := by rw [beq_eq_false_iff_ne]; exact h11
  have t12 : (kind == 12) = false := by rw [beq_eq_false_iff_ne]; exact h12
  have t13 : (kind == 13) = false := by rw [beq_eq_false_iff_ne]; exact h13
  have t14 : (kind == 14) = false := by rw [beq_eq_false_iff_ne]; exact h14
  clear he hti h1 h4 h5 h2 h3 h6 h15 h16 h10 h11 h12 h13 h14
  refine Calls.mono (R := fun e w' => e = .returned (.agg #[.string tw, .int .i64 kind, .string ⟨#[]⟩, .slice none 0 0, .int .i64 0, .slice none 0 0]) ∧ Below w.heap.size w w') ?_ (fun e w' h => ⟨h.1.trans (by rw [HE.out]), h.2⟩)
  go_enter Tryz.func19, Tryz.ntmps19
  go_wp2_with fail
  exact bodyPost_ret (v := .agg #[.string tw, .int .i64 kind, .string ⟨#[]⟩, .slice none 0 0, .int .i64 0, .slice none 0 0]) (by simp [results, Tryz.results19, go_sem]) rfl ⟨rfl, (((Below.refl _ w).alloc (Nat.le_refl _) _).alloc (by simp) _).alloc (by simp; omega) _⟩
end Go.Proofs.YtlibjfmafpiopaaGreatDoor
