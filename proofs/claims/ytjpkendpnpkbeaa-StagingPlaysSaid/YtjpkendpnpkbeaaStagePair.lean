/- The program's stage and the document's side by side: what a step of both keeps. -/
import Derived.Test.YtjpkendpnpkbeaaStageRef
import Derived.Test.YtjpkendpnpkbeaaStageShown
namespace Go.Proofs.Ytjpkendpnpkbeaa
open Go.RowKit

theorem find_at {no : Int} : ∀ {l : List (Int × List Int)}, (∀ p ∈ l, p.1 ≠ no) ∨ ∃ (j : Nat) (bs : List Int), l[j]? = some (no, bs) ∧ (∃ r, l.find? (fun p => p.1 == no) = some r ∧ r.2 = bs)
  | [] => .inl fun _ h => by cases h
  | p :: l => by
    by_cases e : p.1 = no
    · exact .inr ⟨0, p.2, by simp [← e], p, by simp [e], rfl⟩
    · rcases find_at (no := no) (l := l) with h | ⟨j, bs, h1, r, h2, h3⟩
      · exact .inl fun q hq => by
          rcases List.mem_cons.1 hq with rfl | hq
          · exact e
          · exact h q hq
      · exact .inr ⟨j + 1, bs, by simpa using h1, r, by simp [e, h2], h3⟩

theorem upd_set {no : Int} {zs : List Int} : ∀ {l : List (Int × List Int)} {j : Nat} {bs : List Int}, l.Pairwise (fun p q => p.1 ≠ q.1) → l[j]? = some (no, bs) → upd no zs l = l.set j (no, zs)
  | [], j, _, _, h => by simp at h
  | p :: l, 0, bs, _, h => by simp at h; subst h; simp [upd]
  | p :: l, j + 1, bs, hp, h => by
    obtain ⟨h1, h2⟩ := List.pairwise_cons.1 hp
    simp at h
    have hne : ¬ no = p.1 := fun e => h1 _ (List.mem_of_getElem? h) e.symm
    simp [upd, hne, upd_set h2 h]

theorem cut_erase {no : Int} : ∀ {l : List (Int × List Int)} {j : Nat} {bs : List Int}, l.Pairwise (fun p q => p.1 ≠ q.1) → l[j]? = some (no, bs) → cut no l = l.eraseIdx j
  | [], j, _, _, h => by simp at h
  | p :: l, 0, bs, _, h => by simp at h; subst h; simp [cut]
  | p :: l, j + 1, bs, hp, h => by
    obtain ⟨h1, h2⟩ := List.pairwise_cons.1 hp
    simp at h
    have hne : ¬ no = p.1 := fun e => h1 _ (List.mem_of_getElem? h) e.symm
    simp [cut, hne, cut_erase h2 h]

theorem keys_set {no : Int} {zs : List Int} : ∀ {l : List (Int × List Int)} {j : Nat} {bs : List Int}, l[j]? = some (no, bs) → (l.set j (no, zs)).map (·.1) = l.map (·.1)
  | [], j, _, h => by simp at h
  | p :: l, 0, bs, h => by simp at h; subst h; simp
  | p :: l, j + 1, bs, h => by
    simp at h
    simp [keys_set (zs := zs) h]

theorem total_set {no : Int} {zs : List Int} : ∀ {l : List (Int × List Int)} {j : Nat} {bs : List Int}, l[j]? = some (no, bs) → total (l.set j (no, zs)) + bs.length = total l + zs.length
  | [], j, _, h => by simp at h
  | p :: l, 0, bs, h => by simp at h; subst h; simp [total]; omega
  | p :: l, j + 1, bs, h => by
    simp at h
    have := total_set (zs := zs) h
    simp [total]
    omega

theorem total_erase {no : Int} : ∀ {l : List (Int × List Int)} {j : Nat} {bs : List Int}, l[j]? = some (no, bs) → total (l.eraseIdx j) + bs.length = total l
  | [], j, _, h => by simp at h
  | p :: l, 0, bs, h => by simp at h; subst h; simp [total]; omega
  | p :: l, j + 1, bs, h => by
    simp at h
    have := total_erase h
    simp [total]
    omega

theorem total_snoc (l : List (Int × List Int)) (n : Int) : total (l ++ [(n, [])]) = total l := by
  induction l with
  | nil => rfl
  | cons p l ih => simp only [List.cons_append, total, ih]

/-- Both stages, in blocks that are apart; the blocks of X are neither's. -/
structure St (N : Nat) (w wr : World) (gx Bx gy : Nat) (m : Nat) (X F G : Nat → Prop) (l : List (Int × List Int)) (nx : Int) : Prop where
  sx : Stg wr F gx Bx nx (total l) l
  sy : Rf wr G gy nx l
  hF : ∀ b, F b → N ≤ b ∧ b < wr.heap.size
  hG : ∀ b, G b → N ≤ b ∧ b < wr.heap.size
  hFG : ∀ b, F b → ¬ G b
  hX : ∀ b, X b → ¬ F b ∧ ¬ G b ∧ N ≤ b ∧ b < wr.heap.size
  l8 : l.length ≤ 8
  hp : l.Pairwise fun p q => p.1 ≠ q.1
  hm : ∀ p ∈ l, 0 ≤ p.1 ∧ p.1 < nx
  h5 : ∀ p ∈ l, p.2.length ≤ 512
  ht : total l ≤ 2048
  n0 : 0 ≤ nx
  nm : nx ≤ m
  T : Below N w wr
  hN : N ≤ wr.heap.size

section
variable {N : Nat} {w wr : World} {gx Bx gy m : Nat} {X F G : Nat → Prop} {l : List (Int × List Int)} {nx : Int}

/-- A step that touches neither. -/
theorem St.touch (h : St N w wr gx Bx gy m X F G l nx) {w' : World} {Y : Nat → Prop} (t : Touch Y wr w') (hY : ∀ b, Y b → X b) {X' : Nat → Prop} (hX' : ∀ b, X' b → X b ∨ (wr.heap.size ≤ b ∧ b < w'.heap.size)) : St N w w' gx Bx gy m X' F G l nx := by
  have hz := t.size
  have keep : ∀ b, b < wr.heap.size → ¬ X b → w'.heap[b]? = wr.heap[b]? := fun b hb hn => t.block b hb fun hy => hn (hY b hy)
  refine ⟨h.sx.keep fun b hb => keep b (h.hF b hb).2 fun hx => (h.hX b hx).1 hb, h.sy.keep hz fun b hb hl => keep b hl fun hx => (h.hX b hx).2.1 hb, fun b hb => ⟨(h.hF b hb).1, by have := (h.hF b hb).2; omega⟩, fun b hb => ⟨(h.hG b hb).1, by have := (h.hG b hb).2; omega⟩, h.hFG, fun b hb => ?_,
    h.l8, h.hp, h.hm, h.h5, h.ht, h.n0, h.nm, h.T.trans (below_of_touch t (fun b hb => (h.hX b (hY b hb)).2.2.1) h.hN), Nat.le_trans h.hN hz⟩
  rcases hX' b hb with hx | ⟨h1, h2⟩
  · obtain ⟨a, b, c, d⟩ := h.hX b hx
    exact ⟨a, b, c, by omega⟩
  · exact ⟨fun hf => by have := (h.hF b hf).2; omega, fun hg => by have := (h.hG b hg).2; omega, by have := h.hN; omega, h2⟩

/-- The document's stage behind a step of the program's. -/
theorem St.y5 (h : St N w wr gx Bx gy m X F G l nx) {w5 : World} (U : Touch F wr w5) : Rf w5 G gy nx l :=
  h.sy.keep U.size fun b hb hl => U.block b hl fun hf => h.hFG b hf hb

/-- A block that is neither's lies as it lay. -/
theorem St.keepX (h : St N w wr gx Bx gy m X F G l nx) {w5 w6 : World} (U5 : Touch F wr w5) (U6 : Touch G w5 w6) {b : Nat} (hb : X b) : w6.heap[b]? = wr.heap[b]? := by
  obtain ⟨h1, h2, h3, h4⟩ := h.hX b hb
  exact (U6.block b (Nat.lt_of_lt_of_le h4 U5.size) h2).trans (U5.block b h4 h1)

theorem St.step (h : St N w wr gx Bx gy m X F G l nx) {w5 w6 : World} {F' : Nat → Prop} {l' : List (Int × List Int)} {nx' : Int} {by' : Int} {m' : Nat} {X' : Nat → Prop}
    (S5 : Stg w5 F' gx Bx nx' by' l') (hby : by' = total l') (hF' : ∀ b, F' b → F b ∨ (wr.heap.size ≤ b ∧ b < w5.heap.size)) (U5 : Touch F wr w5) (R6 : RfStep w5 G gy nx' l' w6)
    (hX' : ∀ b, X' b → X b ∨ (F b ∧ ¬ F' b)) (l8 : l'.length ≤ 8) (hp : l'.Pairwise fun p q => p.1 ≠ q.1) (hm : ∀ p ∈ l', 0 ≤ p.1 ∧ p.1 < nx') (h5 : ∀ p ∈ l', p.2.length ≤ 512) (ht : total l' ≤ 2048) (n0 : 0 ≤ nx') (nm : nx' ≤ m') :
    ∃ G', St N w w6 gx Bx gy m' X' F' G' l' nx' := by
  obtain ⟨G', r6, hGG, hG', U6⟩ := R6
  have z5 := U5.size
  have z6 := U6.size
  subst hby
  have hF5 : ∀ b, F' b → N ≤ b ∧ b < w5.heap.size := fun b hb => by
    rcases hF' b hb with h1 | h1
    · have := h.hF b h1
      omega
    · have := h.hN
      omega
  have hFG5 : ∀ b, F' b → ¬ G b := fun b hb hg => by
    rcases hF' b hb with h1 | h1
    · exact h.hFG b h1 hg
    · have := (h.hG b hg).2
      omega
  refine ⟨G', S5.keep fun b hb => U6.block b (hF5 b hb).2 (hFG5 b hb), r6, fun b hb => ⟨(hF5 b hb).1, by have := (hF5 b hb).2; omega⟩, fun b hb => ?_, fun b hb hg => ?_, fun b hb => ?_, l8, hp, hm, h5, ht, n0, nm,
    (h.T.trans (below_of_touch U5 (fun b hb => (h.hF b hb).1) h.hN)).trans (below_of_touch U6 (fun b hb => (h.hG b hb).1) (Nat.le_trans h.hN z5)), by have := h.hN; omega⟩
  · rcases hG' b hb with h1 | h1
    · have := h.hG b h1
      omega
    · have := h.hN
      omega
  · rcases hG' b hg with h1 | h1
    · exact hFG5 b hb h1
    · have := (hF5 b hb).2
      omega
  · rcases hX' b hb with hx | ⟨h1, h2⟩
    · obtain ⟨a1, a2, a3, a4⟩ := h.hX b hx
      refine ⟨fun hf => ?_, fun hg => ?_, a3, by omega⟩
      · rcases hF' b hf with h1 | h1
        · exact a1 h1
        · omega
      · rcases hG' b hg with h1 | h1
        · exact a2 h1
        · omega
    · obtain ⟨b1, b2⟩ := h.hF b h1
      refine ⟨h2, fun hg => ?_, b1, by omega⟩
      rcases hG' b hg with h3 | h3
      · exact h.hFG b h1 h3
      · omega

theorem St.begin (h : St N w wr gx Bx gy m X F G l nx) (h8 : l.length < 8) {w5 w6 : World} (S5 : Stg w5 F gx Bx (nx + 1) (total l) (l ++ [(nx, [])])) (U5 : Touch F wr w5) (R6 : RfStep w5 G gy (nx + 1) (l ++ [(nx, [])]) w6) :
    ∃ F' G' l' nx', St N w w6 gx Bx gy (m + 1) X F' G' l' nx' := by
  have n0 := h.n0
  have nm := h.nm
  have hp : (l ++ [(nx, [])]).Pairwise fun (p q : Int × List Int) => p.1 ≠ q.1 := by
    refine List.pairwise_append.2 ⟨h.hp, List.pairwise_singleton _ _, fun a ha b hb => ?_⟩
    simp at hb
    subst hb
    have := (h.hm a ha).2
    simp only
    omega
  have hm : ∀ p ∈ l ++ [(nx, [])], 0 ≤ p.1 ∧ p.1 < nx + 1 := fun p hp => by
    rcases List.mem_append.1 hp with hp | hp
    · have := h.hm p hp
      omega
    · simp at hp
      subst hp
      simp only
      omega
  have h5 : ∀ p ∈ l ++ [(nx, [])], p.2.length ≤ 512 := fun p hp => by
    rcases List.mem_append.1 hp with hp | hp
    · exact h.h5 p hp
    · simp at hp
      subst hp
      simp
  obtain ⟨G', hs⟩ := h.step (m' := m + 1) (X' := X) S5 (by rw [total_snoc]) (fun b hb => .inl hb) U5 R6 (fun b hb => .inl hb) (by simp; omega) hp hm h5 (by rw [total_snoc]; exact h.ht) (by omega) (by omega)
  exact ⟨_, _, _, _, hs⟩

theorem St.next (h : St N w wr gx Bx gy m X F G l nx) : St N w wr gx Bx gy (m + 1) X F G l nx :=
  ⟨h.sx, h.sy, h.hF, h.hG, h.hFG, h.hX, h.l8, h.hp, h.hm, h.h5, h.ht, h.n0, by have := h.nm; omega, h.T, h.hN⟩

theorem St.mono (h : St N w wr gx Bx gy m X F G l nx) {X' : Nat → Prop} (hX : ∀ b, X' b → X b) : St N w wr gx Bx gy m X' F G l nx :=
  ⟨h.sx, h.sy, h.hF, h.hG, h.hFG, fun b hb => h.hX b (hX b hb), h.l8, h.hp, h.hm, h.h5, h.ht, h.n0, h.nm, h.T, h.hN⟩

theorem mem_set {l : List (Int × List Int)} {j : Nat} {q p : Int × List Int} (h : p ∈ l.set j q) : p = q ∨ p ∈ l := by
  rcases List.mem_or_eq_of_mem_set h with h | h
  · exact .inr h
  · exact .inl h

theorem St.add (h : St N w wr gx Bx gy m X F G l nx) {no : Int} {j : Nat} {bs ys : List Int} (hj : l[j]? = some (no, bs)) (hl : bs.length + ys.length ≤ 512) (ht : total l + ys.length ≤ 2048) {w5 w6 : World} {F' : Nat → Prop}
    (S5 : Stg w5 F' gx Bx nx ((total l : Int) + (ys.length : Int)) (upd no (bs ++ ys) l)) (hF' : ∀ b, F' b → F b ∨ (wr.heap.size ≤ b ∧ b < w5.heap.size)) (U5 : Touch F wr w5) (R6 : RfStep w5 G gy nx (l.set j (no, bs ++ ys)) w6) :
    ∃ G', St N w w6 gx Bx gy (m + 1) X F' G' (l.set j (no, bs ++ ys)) nx := by
  have hjl : j < l.length := (List.getElem?_eq_some_iff.1 hj).1
  have hts := total_set (zs := bs ++ ys) hj
  have nm := h.nm
  rw [List.length_append] at hts
  rw [upd_set h.hp hj] at S5
  refine h.step S5 (by omega) hF' U5 R6 (fun b hb => .inl hb) (by rw [List.length_set]; exact h.l8) ?_ (fun p hp => ?_) (fun p hp => ?_) (by omega) h.n0 (by omega)
  · have hk := keys_set (zs := bs ++ ys) hj
    have e1 : ∀ l : List (Int × List Int), l.Pairwise (fun p q => p.1 ≠ q.1) ↔ (l.map (·.1)).Pairwise (· ≠ ·) := fun l => by rw [List.pairwise_map]
    rw [e1, hk, ← e1]
    exact h.hp
  · rcases mem_set hp with rfl | hp
    · exact h.hm (no, bs) (List.mem_of_getElem? hj)
    · exact h.hm p hp
  · rcases mem_set hp with rfl | hp
    · simpa using hl
    · exact h.h5 p hp

theorem St.take (h : St N w wr gx Bx gy m X F G l nx) {no : Int} {j : Nat} {bs : List Int} (hj : l[j]? = some (no, bs)) {w5 w6 : World} {F' X' : Nat → Prop}
    (S5 : Stg w5 F' gx Bx nx ((total l : Int) - (bs.length : Int)) (cut no l)) (hF' : ∀ b, F' b → F b) (hX' : ∀ b, X' b → X b ∨ (F b ∧ ¬ F' b)) (U5 : Touch F wr w5) (R6 : RfStep w5 G gy nx (l.eraseIdx j) w6) :
    ∃ G', St N w w6 gx Bx gy (m + 1) X' F' G' (l.eraseIdx j) nx := by
  have hts := total_erase hj
  have nm := h.nm
  have ht := h.ht
  rw [cut_erase h.hp hj] at S5
  refine h.step S5 (by omega) (fun b hb => .inl (hF' b hb)) U5 R6 hX' (Nat.le_trans (List.length_eraseIdx_le _ _) h.l8) (h.hp.sublist (List.eraseIdx_sublist _ _)) (fun p hp => h.hm p (List.mem_of_mem_eraseIdx hp)) (fun p hp => h.h5 p (List.mem_of_mem_eraseIdx hp)) (by omega) h.n0 (by omega)
end
end Go.Proofs.Ytjpkendpnpkbeaa
