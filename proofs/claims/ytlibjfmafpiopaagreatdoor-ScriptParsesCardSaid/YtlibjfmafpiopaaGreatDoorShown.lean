/- The law's examples hold: the contract of 'shown'. -/
import Derived.Test.YtlibjfmafpiopaaGreatDoorSame
import Derived.Test.YtlibjfmafpiopaaGreatDoorConv
import Derived.Test.YtlibjfmafpiopaaGreatDoorParse
import Derived.Test.YtlibjfmafpiopaaGreatDoorTellD
namespace Go.Proofs.YtlibjfmafpiopaaGreatDoor
open Go.RowKit Go.Shelf Scr

def shT1 : Bs := [112, 117, 116, 32, 97, 32, 54, 49, 54, 50, 10, 35, 32, 97, 110, 100, 32, 115, 111, 32, 111, 110, 10, 10, 98, 111, 111, 116, 32, 49, 32, 45, 50, 32, 48, 10, 104, 101, 97, 100]
def shT2 : Bs := [105, 100, 115, 10, 108, 111, 99, 107, 32, 97, 32, 48, 49]
def shC1 : Cmd := ⟨[112, 117, 116], 1, [97], [97, 98], 0, []⟩
def shC2 : Cmd := ⟨[98, 111, 111, 116], 13, [], [], 0, [1, -2, 0]⟩
def shC3 : Cmd := ⟨[104, 101, 97, 100], 9, [], [], 0, []⟩
def shL : List Cmd := [shC1, shC2, shC3]
def shS : Bs := [112, 117, 116, 32, 97, 32, 54, 49, 54, 50, 10, 98, 111, 111, 116, 32, 49, 32, 45, 50, 32, 48, 10, 104, 101, 97, 100, 10]

theorem sh_parse1 : parseR (⟨shT1.toArray⟩ : ByteArray).data.toList = (shL, 0, 0) := by kernel_rfl
theorem sh_parse2 : parseR (⟨shT2.toArray⟩ : ByteArray).data.toList = ([], 2, 223) := by kernel_rfl
theorem sh_i0 : Lib.itoa 0 = [48] := by unfold Lib.itoa; rw [if_neg (by decide)]; exact Lib.decDigits_one (by decide)
theorem sh_i1 : Lib.itoa 1 = [49] := by unfold Lib.itoa; rw [if_neg (by decide)]; exact Lib.decDigits_one (by decide)
theorem sh_i2 : Lib.itoa 2 = [50] := by unfold Lib.itoa; rw [if_neg (by decide)]; exact Lib.decDigits_one (by decide)
theorem sh_im2 : Lib.itoa (-2) = [45, 50] := by unfold Lib.itoa; rw [if_pos (by decide)]; congr 1; exact Lib.decDigits_one (by decide)
theorem sh_i212 : Lib.itoa 212 = [50, 49, 50] := by
  unfold Lib.itoa
  rw [if_neg (by decide), Lib.decDigits, dif_neg (by decide), Lib.decDigits_two (by decide) (by decide)]
  rfl

theorem sh_line2 : lineR shC2 = .ok [98, 111, 111, 116, 32, 49, 32, 45, 50, 32, 48, 10] := by
  have e : lineR shC2 = .ok (shC2.word ++ tail32 ([1, -2, 0].map Lib.itoa) ++ [10]) := by kernel_rfl
  rw [e]
  simp [sh_i0, sh_i1, sh_im2, tail32, shC2]

theorem sh_print : printR shL = (shS, 0) := by
  have e1 : lineR shC1 = .ok [112, 117, 116, 32, 97, 32, 54, 49, 54, 50, 10] := by kernel_rfl
  have e3 : lineR shC3 = .ok [104, 101, 97, 100, 10] := by kernel_rfl
  have e : linesP shL = .ok shS := by
    unfold shL
    rw [linesP_cons, e1, linesP_cons, sh_line2, linesP_cons, e3]
    rfl
  unfold printR
  rw [e]
  exact if_neg (by decide)

def ans0 : Ans := { code := 0, bytes := [], length := 0, root := List.replicate 32 0, index := 0, expiry := 0, hold := false, gone := false, ids := [], hsize := 0, hroot := List.replicate 32 0, num := 0, proof := [] }

theorem ans_small {w : World} (code : Int) (hc : 0 ≤ code ∧ code ≤ 1000) (bs : List Int) (ids : List Bs) {vb vi : Value} (hb : ∃ A c, vb = .slice A bs.length c ∧ Byts w A bs ∧ bs.length ≤ 1048576)
    (hi : ∃ A c, vi = .slice A ids.length c ∧ ids.length ≤ 1048576 ∧ (∀ l ∈ ids, l.length ≤ 1048576) ∧ (0 < ids.length → ∃ b off, A = some ⟨b, off, none⟩ ∧ b < w.heap.size ∧ ∀ j l, ids[j]? = some l → w.cell? ⟨b, off + j, none⟩ = some (.string ⟨l.toArray⟩))) :
    AnsAt w { ans0 with code := code, bytes := bs, ids := ids } vb vi (.slice none 0 0) := by
  have z : ∀ x ∈ List.replicate 32 (0 : Int), 0 ≤ x ∧ x ≤ 255 := fun x hx => by rw [(List.mem_replicate.1 hx).2]; decide
  exact ⟨by simp [ans0], by simp [ans0], z, z, by simp; omega, by simp [ans0], by simp [ans0], by simp [ans0], by simp [ans0], by simp [ans0], hb, hi, ⟨none, 0, rfl, by simp [ans0], by simp [ans0], by simp [ans0]⟩⟩

theorem sh_tell1 : tellR 2 { ans0 with code := 0, bytes := [97, 98], ids := [] } = [54, 49, 54, 50] := by kernel_rfl
theorem sh_tell2 : tellR 2 { ans0 with code := 0, bytes := [], ids := [] } = [45] := by kernel_rfl
theorem sh_tell3 : tellR 7 { ans0 with code := 0, bytes := [], ids := [[97], [98]] } = [50, 32, 97, 32, 98] := by
  have e : tellR 7 { ans0 with code := 0, bytes := [], ids := [[97], [98]] } = Lib.itoa 2 ++ tail32 [[97], [98]] := by kernel_rfl
  rw [e, sh_i2]
  rfl
theorem sh_tell4 : tellR 1 { ans0 with code := 212, bytes := [], ids := [] } = [101, 114, 114, 111, 114, 32, 50, 49, 50] := by
  have e : tellR 1 { ans0 with code := 212, bytes := [], ids := [] } = [101, 114, 114, 111, 114, 32] ++ Lib.itoa 212 := by kernel_rfl
  rw [e, sh_i212]
  rfl

theorem sh_want (w : World) : CmdsR (((w.alloc (.cells #[.int .u8 97, .int .u8 98] 5)).alloc (.cells #[.int .i64 1, .int .i64 (-2), .int .i64 0] 3)).alloc (.cells #[.string ⟨#[112, 117, 116]⟩, .int .i64 1, .string ⟨#[97]⟩, .slice (some ⟨w.heap.size, 0, none⟩) 2 2, .int .i64 0, .slice none 0 0, .string ⟨#[98, 111, 111, 116]⟩, .int .i64 13, .string ⟨#[]⟩, .slice none 0 0, .int .i64 0, .slice (some ⟨w.heap.size + 1, 0, none⟩) 3 3, .string ⟨#[104, 101, 97, 100]⟩, .int .i64 9, .string ⟨#[]⟩, .slice none 0 0, .int .i64 0, .slice none 0 0] 33)) (some ⟨w.heap.size + 1 + 1, 0, none⟩) shL ∧
    Below w.heap.size w (((w.alloc (.cells #[.int .u8 97, .int .u8 98] 5)).alloc (.cells #[.int .i64 1, .int .i64 (-2), .int .i64 0] 3)).alloc (.cells #[.string ⟨#[112, 117, 116]⟩, .int .i64 1, .string ⟨#[97]⟩, .slice (some ⟨w.heap.size, 0, none⟩) 2 2, .int .i64 0, .slice none 0 0, .string ⟨#[98, 111, 111, 116]⟩, .int .i64 13, .string ⟨#[]⟩, .slice none 0 0, .int .i64 0, .slice (some ⟨w.heap.size + 1, 0, none⟩) 3 3, .string ⟨#[104, 101, 97, 100]⟩, .int .i64 9, .string ⟨#[]⟩, .slice none 0 0, .int .i64 0, .slice none 0 0] 33)) := by
  refine ⟨?_, (((Below.refl _ w).alloc (Nat.le_refl _) _).alloc (by simp) _).alloc (by simp; omega) _⟩
  have h1 := heap_alloc_new w (.cells #[.int .u8 97, .int .u8 98] 5)
  have h2 := heap_alloc_new (w.alloc (.cells #[.int .u8 97, .int .u8 98] 5)) (.cells #[.int .i64 1, .int .i64 (-2), .int .i64 0] 3)
  have h3 := heap_alloc_new ((w.alloc (.cells #[.int .u8 97, .int .u8 98] 5)).alloc (.cells #[.int .i64 1, .int .i64 (-2), .int .i64 0] 3)) (.cells #[.string ⟨#[112, 117, 116]⟩, .int .i64 1, .string ⟨#[97]⟩, .slice (some ⟨w.heap.size, 0, none⟩) 2 2, .int .i64 0, .slice none 0 0, .string ⟨#[98, 111, 111, 116]⟩, .int .i64 13, .string ⟨#[]⟩, .slice none 0 0, .int .i64 0, .slice (some ⟨w.heap.size + 1, 0, none⟩) 3 3, .string ⟨#[104, 101, 97, 100]⟩, .int .i64 9, .string ⟨#[]⟩, .slice none 0 0, .int .i64 0, .slice none 0 0] 33)
  rw [World.size_alloc] at h2 h3
  rw [World.size_alloc] at h3
  have g1 := (Below.heap_alloc ((w.alloc (.cells #[.int .u8 97, .int .u8 98] 5)).alloc (.cells #[.int .i64 1, .int .i64 (-2), .int .i64 0] 3)) (.cells #[.string ⟨#[112, 117, 116]⟩, .int .i64 1, .string ⟨#[97]⟩, .slice (some ⟨w.heap.size, 0, none⟩) 2 2, .int .i64 0, .slice none 0 0, .string ⟨#[98, 111, 111, 116]⟩, .int .i64 13, .string ⟨#[]⟩, .slice none 0 0, .int .i64 0, .slice (some ⟨w.heap.size + 1, 0, none⟩) 3 3, .string ⟨#[104, 101, 97, 100]⟩, .int .i64 9, .string ⟨#[]⟩, .slice none 0 0, .int .i64 0, .slice none 0 0] 33) w.heap.size (by simp; omega)).trans ((Below.heap_alloc (w.alloc (.cells #[.int .u8 97, .int .u8 98] 5)) (.cells #[.int .i64 1, .int .i64 (-2), .int .i64 0] 3) w.heap.size (by simp)).trans h1)
  have g2 := (Below.heap_alloc ((w.alloc (.cells #[.int .u8 97, .int .u8 98] 5)).alloc (.cells #[.int .i64 1, .int .i64 (-2), .int .i64 0] 3)) (.cells #[.string ⟨#[112, 117, 116]⟩, .int .i64 1, .string ⟨#[97]⟩, .slice (some ⟨w.heap.size, 0, none⟩) 2 2, .int .i64 0, .slice none 0 0, .string ⟨#[98, 111, 111, 116]⟩, .int .i64 13, .string ⟨#[]⟩, .slice none 0 0, .int .i64 0, .slice (some ⟨w.heap.size + 1, 0, none⟩) 3 3, .string ⟨#[104, 101, 97, 100]⟩, .int .i64 9, .string ⟨#[]⟩, .slice none 0 0, .int .i64 0, .slice none 0 0] 33) (w.heap.size + 1) (by simp)).trans h2
  generalize (((w.alloc (.cells #[.int .u8 97, .int .u8 98] 5)).alloc (.cells #[.int .i64 1, .int .i64 (-2), .int .i64 0] 3)).alloc (.cells #[.string ⟨#[112, 117, 116]⟩, .int .i64 1, .string ⟨#[97]⟩, .slice (some ⟨w.heap.size, 0, none⟩) 2 2, .int .i64 0, .slice none 0 0, .string ⟨#[98, 111, 111, 116]⟩, .int .i64 13, .string ⟨#[]⟩, .slice none 0 0, .int .i64 0, .slice (some ⟨w.heap.size + 1, 0, none⟩) 3 3, .string ⟨#[104, 101, 97, 100]⟩, .int .i64 9, .string ⟨#[]⟩, .slice none 0 0, .int .i64 0, .slice none 0 0] 33)) = W at h3 g1 g2 ⊢
  clear h1 h2
  have k3 : ∀ i, W.cell? ⟨w.heap.size + 1 + 1, i, none⟩ = _ := fun i => cell_of_row _ _ i _ _ _ h3
  have nb : ∀ A, Byts W A [] := fun A => ⟨fun h => absurd h (by decide), by simp⟩
  have ni : ∀ A, Ints W A [] := fun A => ⟨by decide, fun h => absurd h (by decide)⟩
  have b1 : Byts W (some ⟨w.heap.size, 0, none⟩) [97, 98] := ⟨fun _ => ⟨_, 0, rfl, (Array.getElem?_eq_some_iff.1 g1).1, fun k hk => by
    rw [Nat.zero_add, cell_of_row _ _ k _ _ _ g1]
    rcases (by simp at hk; omega : k = 0 ∨ k = 1) with rfl | rfl <;> rfl⟩, by decide⟩
  have i1 : Ints W (some ⟨w.heap.size + 1, 0, none⟩) [1, -2, 0] := ⟨by decide, fun _ => ⟨_, 0, rfl, (Array.getElem?_eq_some_iff.1 g2).1, fun k hk => by
    rw [Nat.zero_add, cell_of_row _ _ k _ _ _ g2]
    rcases (by simp at hk; omega : k = 0 ∨ k = 1 ∨ k = 2) with rfl | rfl | rfl <;> rfl⟩⟩
  refine ⟨fun _ => ⟨w.heap.size + 1 + 1, 0, rfl, (Array.getElem?_eq_some_iff.1 h3).1, fun k c hk => ?_⟩, fun c hc => ?_, by decide⟩
  · have hk3 : k < 3 := (List.getElem?_eq_some_iff.1 hk).1
    rcases (by omega : k = 0 ∨ k = 1 ∨ k = 2) with rfl | rfl | rfl
    · cases hk
      exact ⟨_, 2, none, 0, b1, ni none, (k3 0).trans rfl, (k3 1).trans rfl, (k3 2).trans rfl, (k3 3).trans rfl, (k3 4).trans rfl, (k3 5).trans rfl⟩
    · cases hk
      exact ⟨none, 0, _, 3, nb none, i1, (k3 6).trans rfl, (k3 7).trans rfl, (k3 8).trans rfl, (k3 9).trans rfl, (k3 10).trans rfl, (k3 11).trans rfl⟩
    · cases hk
      exact ⟨none, 0, none, 0, nb none, ni none, (k3 12).trans rfl, (k3 13).trans rfl, (k3 14).trans rfl, (k3 15).trans rfl, (k3 16).trans rfl, (k3 17).trans rfl⟩
  · have hc3 : c = shC1 ∨ c = shC2 ∨ c = shC3 := by simpa [shL] using hc
    rcases hc3 with rfl | rfl | rfl <;> exact ⟨by decide, by decide, by decide, by decide, by decide, by decide, by decide⟩

set_option maxRecDepth 100000 in
theorem sh_t1 {a0 a1 a3 : Addr} (w : World) (Lw : Laid a0 a1 a3 w) : Calls Tryz.prog 17 #[.agg #[.int .i64 2, .string ⟨#[]⟩, .slice none 0 0, .int .i64 0, .slice none 0 0], .agg #[.int .i64 0, .slice (some ⟨w.heap.size, 0, none⟩) 2 2, .int .i64 0, .int .u8 0, .int .u8 0, .int .u8 0, .int .u8 0, .int .u8 0, .int .u8 0, .int .u8 0, .int .u8 0, .int .u8 0, .int .u8 0, .int .u8 0, .int .u8 0, .int .u8 0, .int .u8 0, .int .u8 0, .int .u8 0, .int .u8 0, .int .u8 0, .int .u8 0, .int .u8 0, .int .u8 0, .int .u8 0, .int .u8 0, .int .u8 0, .int .u8 0, .int .u8 0, .int .u8 0, .int .u8 0, .int .u8 0, .int .u8 0, .int .u8 0, .int .u8 0, .int .i64 0, .int .i64 0, .bool false, .bool false, .slice none 0 0, .int .i64 0, .int .u8 0, .int .u8 0, .int .u8 0, .int .u8 0, .int .u8 0, .int .u8 0, .int .u8 0, .int .u8 0, .int .u8 0, .int .u8 0, .int .u8 0, .int .u8 0, .int .u8 0, .int .u8 0, .int .u8 0, .int .u8 0, .int .u8 0, .int .u8 0, .int .u8 0, .int .u8 0, .int .u8 0, .int .u8 0, .int .u8 0, .int .u8 0, .int .u8 0, .int .u8 0, .int .u8 0, .int .u8 0, .int .u8 0, .int .u8 0, .int .u8 0, .int .u8 0, .int .i64 0, .slice none 0 0]] (w.alloc (.cells #[.int .u8 97, .int .u8 98] 5)) fun e w' => e = .returned (.string ⟨#[54, 49, 54, 50]⟩) ∧ Below w.heap.size w w' := by
  have hb : Below w.heap.size w (w.alloc (.cells #[.int .u8 97, .int .u8 98] 5)) := (Below.refl _ _).alloc (Nat.le_refl _) _
  have hbs : Byts (w.alloc (.cells #[.int .u8 97, .int .u8 98] 5)) (some ⟨w.heap.size, 0, none⟩) [97, 98] := byts_new w [97, 98] 5 (by decide)
  have ha : AnsAt (w.alloc (.cells #[.int .u8 97, .int .u8 98] 5)) { ans0 with code := 0, bytes := [97, 98], ids := [] } (.slice (some ⟨w.heap.size, 0, none⟩) 2 2) (.slice none 0 0) (.slice none 0 0) :=
    ans_small 0 (by decide) [97, 98] [] ⟨_, 2, rfl, hbs, by decide⟩ ⟨none, 0, rfl, by decide, by simp, fun h => absurd h (by decide)⟩
  have h := tell17_call #[.int .i64 2, .string ⟨#[]⟩, .slice none 0 0, .int .i64 0, .slice none 0 0] 2 _ _ _ _ _ rfl rfl ha (Lw.below hb)
  rw [sh_tell1] at h
  refine h.mono ?_
  rintro e w' ⟨rfl, h2⟩
  exact ⟨rfl, hb.trans (h2.mono hb.size)⟩

set_option maxRecDepth 100000 in
theorem sh_t2 {a0 a1 a3 : Addr} (w : World) (Lw : Laid a0 a1 a3 w) : Calls Tryz.prog 17 #[.agg #[.int .i64 2, .string ⟨#[]⟩, .slice none 0 0, .int .i64 0, .slice none 0 0], .agg #[.int .i64 0, .slice none 0 0, .int .i64 0, .int .u8 0, .int .u8 0, .int .u8 0, .int .u8 0, .int .u8 0, .int .u8 0, .int .u8 0, .int .u8 0, .int .u8 0, .int .u8 0, .int .u8 0, .int .u8 0, .int .u8 0, .int .u8 0, .int .u8 0, .int .u8 0, .int .u8 0, .int .u8 0, .int .u8 0, .int .u8 0, .int .u8 0, .int .u8 0, .int .u8 0, .int .u8 0, .int .u8 0, .int .u8 0, .int .u8 0, .int .u8 0, .int .u8 0, .int .u8 0, .int .u8 0, .int .u8 0, .int .i64 0, .int .i64 0, .bool false, .bool false, .slice none 0 0, .int .i64 0, .int .u8 0, .int .u8 0, .int .u8 0, .int .u8 0, .int .u8 0, .int .u8 0, .int .u8 0, .int .u8 0, .int .u8 0, .int .u8 0, .int .u8 0, .int .u8 0, .int .u8 0, .int .u8 0, .int .u8 0, .int .u8 0, .int .u8 0, .int .u8 0, .int .u8 0, .int .u8 0, .int .u8 0, .int .u8 0, .int .u8 0, .int .u8 0, .int .u8 0, .int .u8 0, .int .u8 0, .int .u8 0, .int .u8 0, .int .u8 0, .int .u8 0, .int .u8 0, .int .i64 0, .slice none 0 0]] w fun e w' => e = .returned (.string ⟨#[45]⟩) ∧ Below w.heap.size w w' := by
  have ha : AnsAt w { ans0 with code := 0, bytes := [], ids := [] } (.slice none 0 0) (.slice none 0 0) (.slice none 0 0) :=
    ans_small 0 (by decide) [] [] ⟨none, 0, rfl, ⟨fun h => absurd h (by decide), by simp⟩, by decide⟩ ⟨none, 0, rfl, by decide, by simp, fun h => absurd h (by decide)⟩
  have h := tell17_call #[.int .i64 2, .string ⟨#[]⟩, .slice none 0 0, .int .i64 0, .slice none 0 0] 2 _ _ _ _ _ rfl rfl ha Lw
  rw [sh_tell2] at h
  exact h

set_option maxRecDepth 100000 in
theorem sh_t3 {a0 a1 a3 : Addr} (w : World) (Lw : Laid a0 a1 a3 w) : Calls Tryz.prog 17 #[.agg #[.int .i64 7, .string ⟨#[]⟩, .slice none 0 0, .int .i64 0, .slice none 0 0], .agg #[.int .i64 0, .slice none 0 0, .int .i64 0, .int .u8 0, .int .u8 0, .int .u8 0, .int .u8 0, .int .u8 0, .int .u8 0, .int .u8 0, .int .u8 0, .int .u8 0, .int .u8 0, .int .u8 0, .int .u8 0, .int .u8 0, .int .u8 0, .int .u8 0, .int .u8 0, .int .u8 0, .int .u8 0, .int .u8 0, .int .u8 0, .int .u8 0, .int .u8 0, .int .u8 0, .int .u8 0, .int .u8 0, .int .u8 0, .int .u8 0, .int .u8 0, .int .u8 0, .int .u8 0, .int .u8 0, .int .u8 0, .int .i64 0, .int .i64 0, .bool false, .bool false, .slice (some ⟨w.heap.size, 0, none⟩) 2 2, .int .i64 0, .int .u8 0, .int .u8 0, .int .u8 0, .int .u8 0, .int .u8 0, .int .u8 0, .int .u8 0, .int .u8 0, .int .u8 0, .int .u8 0, .int .u8 0, .int .u8 0, .int .u8 0, .int .u8 0, .int .u8 0, .int .u8 0, .int .u8 0, .int .u8 0, .int .u8 0, .int .u8 0, .int .u8 0, .int .u8 0, .int .u8 0, .int .u8 0, .int .u8 0, .int .u8 0, .int .u8 0, .int .u8 0, .int .u8 0, .int .u8 0, .int .u8 0, .int .u8 0, .int .i64 0, .slice none 0 0]] (w.alloc (.cells #[.string ⟨#[97]⟩, .string ⟨#[98]⟩] 9)) fun e w' => e = .returned (.string ⟨#[50, 32, 97, 32, 98]⟩) ∧ Below w.heap.size w w' := by
  have hb : Below w.heap.size w (w.alloc (.cells #[.string ⟨#[97]⟩, .string ⟨#[98]⟩] 9)) := (Below.refl _ _).alloc (Nat.le_refl _) _
  have hn := heap_alloc_new w (.cells #[.string ⟨#[97]⟩, .string ⟨#[98]⟩] 9)
  have ha : AnsAt (w.alloc (.cells #[.string ⟨#[97]⟩, .string ⟨#[98]⟩] 9)) { ans0 with code := 0, bytes := [], ids := [[97], [98]] } (.slice none 0 0) (.slice (some ⟨w.heap.size, 0, none⟩) 2 2) (.slice none 0 0) :=
    ans_small 0 (by decide) [] [[97], [98]] ⟨none, 0, rfl, ⟨fun h => absurd h (by decide), by simp⟩, by decide⟩ ⟨_, 2, rfl, by decide, by decide, fun _ => ⟨w.heap.size, 0, rfl, by simp, fun j l hj => by
      have hj2 : j < 2 := (List.getElem?_eq_some_iff.1 hj).1
      rw [Nat.zero_add, cell_of_row _ _ j _ _ _ hn]
      rcases (by omega : j = 0 ∨ j = 1) with rfl | rfl <;> cases hj <;> rfl⟩⟩
  have h := tell17_call #[.int .i64 7, .string ⟨#[]⟩, .slice none 0 0, .int .i64 0, .slice none 0 0] 7 _ _ _ _ _ rfl rfl ha (Lw.below hb)
  rw [sh_tell3] at h
  refine h.mono ?_
  rintro e w' ⟨rfl, h2⟩
  exact ⟨rfl, hb.trans (h2.mono hb.size)⟩

set_option maxRecDepth 100000 in
theorem sh_t4 {a0 a1 a3 : Addr} (w : World) (Lw : Laid a0 a1 a3 w) : Calls Tryz.prog 17 #[.agg #[.int .i64 1, .string ⟨#[]⟩, .slice none 0 0, .int .i64 0, .slice none 0 0], .agg #[.int .i64 212, .slice none 0 0, .int .i64 0, .int .u8 0, .int .u8 0, .int .u8 0, .int .u8 0, .int .u8 0, .int .u8 0, .int .u8 0, .int .u8 0, .int .u8 0, .int .u8 0, .int .u8 0, .int .u8 0, .int .u8 0, .int .u8 0, .int .u8 0, .int .u8 0, .int .u8 0, .int .u8 0, .int .u8 0, .int .u8 0, .int .u8 0, .int .u8 0, .int .u8 0, .int .u8 0, .int .u8 0, .int .u8 0, .int .u8 0, .int .u8 0, .int .u8 0, .int .u8 0, .int .u8 0, .int .u8 0, .int .i64 0, .int .i64 0, .bool false, .bool false, .slice none 0 0, .int .i64 0, .int .u8 0, .int .u8 0, .int .u8 0, .int .u8 0, .int .u8 0, .int .u8 0, .int .u8 0, .int .u8 0, .int .u8 0, .int .u8 0, .int .u8 0, .int .u8 0, .int .u8 0, .int .u8 0, .int .u8 0, .int .u8 0, .int .u8 0, .int .u8 0, .int .u8 0, .int .u8 0, .int .u8 0, .int .u8 0, .int .u8 0, .int .u8 0, .int .u8 0, .int .u8 0, .int .u8 0, .int .u8 0, .int .u8 0, .int .u8 0, .int .u8 0, .int .u8 0, .int .i64 0, .slice none 0 0]] w fun e w' => e = .returned (.string ⟨#[101, 114, 114, 111, 114, 32, 50, 49, 50]⟩) ∧ Below w.heap.size w w' := by
  have ha : AnsAt w { ans0 with code := 212, bytes := [], ids := [] } (.slice none 0 0) (.slice none 0 0) (.slice none 0 0) :=
    ans_small 212 (by decide) [] [] ⟨none, 0, rfl, ⟨fun h => absurd h (by decide), by simp⟩, by decide⟩ ⟨none, 0, rfl, by decide, by simp, fun h => absurd h (by decide)⟩
  have h := tell17_call #[.int .i64 1, .string ⟨#[]⟩, .slice none 0 0, .int .i64 0, .slice none 0 0] 1 _ _ _ _ _ rfl rfl ha Lw
  rw [sh_tell4] at h
  exact h

set_option maxRecDepth 100000 in
set_option maxHeartbeats 4000000 in
theorem shown11_call {a0 a1 a3 : Addr} (w : World) (Lw : Laid a0 a1 a3 w) : Calls Tryz.prog 11 #[] w fun e w' => e = .returned (.bool true) ∧ Below w.heap.size w w' := by
  have HL := Lib.hid Lw
  have HP1 := Lib.hid (fun W (hb : Below w.heap.size w W) => ((parse12_call ⟨shT1.toArray⟩ W (by decide) (HL.out.below hb)).mono fun e w' h => parse_reads h sh_parse1))
  have HP2 := Lib.hid (fun W (hb : Below w.heap.size w W) => ((parse12_call ⟨shT2.toArray⟩ W (by decide) (HL.out.below hb)).mono fun e w' h => parse_reads h sh_parse2))
  clear Lw
  go_enter Tryz.func11, Tryz.ntmps11
  go_wp2_with fail
  refine (HP1.out _ (Below.refl _ _)).mono ?_
  rintro e w1 ⟨hb1, A1, k1, rfl, hr1⟩
  have HB1 := Lib.hid hb1
  have HR1 := Lib.hid hr1
  clear hb1 hr1
  go_wp2_with fail
  refine (HP2.out _ HB1.out).mono ?_
  rintro e w2 ⟨hb2, A2, k2, rfl, _⟩
  have HB2 := Lib.hid (HB1.out.trans (hb2.mono HB1.out.size))
  have HR2 := Lib.hid (HR1.out.below hb2)
  clear hb2
  go_upto_region 4 with fail
  obtain ⟨hw3, hb3⟩ := sh_want w2
  generalize (((w2.alloc (.cells #[.int .u8 97, .int .u8 98] 5)).alloc (.cells #[.int .i64 1, .int .i64 (-2), .int .i64 0] 3)).alloc (.cells #[.string ⟨#[112, 117, 116]⟩, .int .i64 1, .string ⟨#[97]⟩, .slice (some ⟨w2.heap.size, 0, none⟩) 2 2, .int .i64 0, .slice none 0 0, .string ⟨#[98, 111, 111, 116]⟩, .int .i64 13, .string ⟨#[]⟩, .slice none 0 0, .int .i64 0, .slice (some ⟨w2.heap.size + 1, 0, none⟩) 3 3, .string ⟨#[104, 101, 97, 100]⟩, .int .i64 9, .string ⟨#[]⟩, .slice none 0 0, .int .i64 0, .slice none 0 0] 33)) = w3 at hw3 hb3 ⊢
  have HW3 := Lib.hid hw3
  have HR3 := Lib.hid (HR2.out.below hb3)
  have HB3 := Lib.hid (HB2.out.trans (hb3.mono HB2.out.size))
  clear hw3 hb3
  obtain ⟨ts, hts⟩ : ∃ t : ByteArray, (⟨shS.toArray⟩ : ByteArray) = t := ⟨_, rfl⟩
  have hpr := print15_call (some ⟨w2.heap.size + 1 + 1, 0, none⟩) 3 shL w3 HW3.out (HL.out.below HB3.out)
  rw [sh_print] at hpr
  simp only at hpr
  rw [hts] at hpr
  have HPR := Lib.hid hpr
  have n1 : (ts.toList == [112, 117, 116, 32, 97, 32, 54, 49, 54, 50, 10, 98, 111, 111, 116, 32, 49, 32, 45, 50, 32, 48, 10, 104, 101, 97, 100, 10]) = true := by rw [← hts, toList_mk]; exact beq_self_eq_true _
  have n2 : (ts.toList != [112, 117, 116, 32, 97, 32, 54, 49, 54, 50, 10, 98, 111, 111, 116, 32, 49, 32, 45, 50, 32, 48, 10, 104, 101, 97, 100, 10]) = false := by rw [← hts, toList_mk]; exact bne_self_eq_false _
  clear hpr hts
  go_wp2_with fail
  refine HPR.out.mono ?_
  rintro e w4 ⟨rfl, hb4⟩
  have HR4 := Lib.hid (HR3.out.below hb4)
  have HW4 := Lib.hid (HW3.out.below hb4)
  have HB4 := Lib.hid (HB3.out.trans (hb4.mono HB3.out.size))
  clear hb4
  go_wp2_with fail
  refine (sh_t1 w4 (HL.out.below HB4.out)).mono ?_
  rintro e w5 ⟨rfl, hb5⟩
  have HR5 := Lib.hid (HR4.out.below hb5)
  have HW5 := Lib.hid (HW4.out.below hb5)
  have HB5 := Lib.hid (HB4.out.trans (hb5.mono HB4.out.size))
  clear hb5
  go_wp2_with fail
  refine (sh_t2 w5 (HL.out.below HB5.out)).mono ?_
  rintro e w6 ⟨rfl, hb6⟩
  have HR6 := Lib.hid (HR5.out.below hb6)
  have HW6 := Lib.hid (HW5.out.below hb6)
  have HB6 := Lib.hid (HB5.out.trans (hb6.mono HB5.out.size))
  clear hb6
  go_wp2_with fail
  refine (same_call A1 (some ⟨w2.heap.size + 1 + 1, 0, none⟩) k1 3 shL w6 HR6.out HW6.out).mono ?_
  rintro e w7 ⟨rfl, hb7⟩
  have HB7 := Lib.hid (HB6.out.trans (hb7.mono HB6.out.size))
  clear hb7
  go_wp2_with fail
  refine (sh_t3 w7 (HL.out.below HB7.out)).mono ?_
  rintro e w8 ⟨rfl, hb8⟩
  have HB8 := Lib.hid (HB7.out.trans (hb8.mono HB7.out.size))
  clear hb8
  go_wp2_with fail
  refine (sh_t4 w8 (HL.out.below HB8.out)).mono ?_
  rintro e w9 ⟨rfl, hb9⟩
  have HB9 := Lib.hid (HB8.out.trans (hb9.mono HB8.out.size))
  clear hb9
  go_wp2_with fail
  go_ret
  exact ⟨rfl, HB9.out⟩
end Go.Proofs.YtlibjfmafpiopaaGreatDoor
