/- The document's staging (munimentref13): what its stage holds, and the contracts of its methods. -/
import Derived.Test.YtjpkendpnpkbeaaStage
import Derived.Test.YtjpkendpnpkbeaaMem3
import Derived.Deep.RegionLaw
namespace Go.Proofs.Ytjpkendpnpkbeaa
open Go.RowKit

/-- The cells of sessions. -/
def scells (lv : List (Int × Value)) : List Value := lv.flatMap fun p => [.int .i64 p.1, p.2]

theorem scells_cons (p : Int × Value) (lv : List (Int × Value)) : scells (p :: lv) = .int .i64 p.1 :: p.2 :: scells lv := rfl
theorem scells_append (a b : List (Int × Value)) : scells (a ++ b) = scells a ++ scells b := by simp [scells]
theorem scells_len : ∀ (lv : List (Int × Value)), (scells lv).length = lv.length * 2
  | [] => rfl
  | p :: lv => by rw [scells_cons]; simp [scells_len lv]; omega

theorem scells_at0 : ∀ (lv : List (Int × Value)) (k : Nat), (scells lv)[k * 2]? = lv[k]?.map fun p => .int .i64 p.1
  | [], k => by simp [scells]
  | p :: lv, 0 => by simp [scells_cons]
  | p :: lv, k + 1 => by
    rw [scells_cons, show (k + 1) * 2 = k * 2 + 1 + 1 by omega]
    simpa using scells_at0 lv k

theorem scells_at1 : ∀ (lv : List (Int × Value)) (k : Nat), (scells lv)[k * 2 + 1]? = lv[k]?.map fun p => p.2
  | [], k => by simp [scells]
  | p :: lv, 0 => by simp [scells_cons]
  | p :: lv, k + 1 => by
    rw [scells_cons, show (k + 1) * 2 + 1 = (k * 2 + 1) + 1 + 1 by omega]
    simpa using scells_at1 lv k

theorem scells_take : ∀ (lv : List (Int × Value)) (k : Nat), (scells lv).take (k * 2) = scells (lv.take k)
  | [], k => by simp [scells]
  | p :: lv, 0 => by simp [scells]
  | p :: lv, k + 1 => by
    rw [scells_cons, show (k + 1) * 2 = k * 2 + 1 + 1 by omega]
    simp [scells_take lv k, scells_cons]

theorem scells_drop : ∀ (lv : List (Int × Value)) (k : Nat), (scells lv).drop (k * 2) = scells (lv.drop k)
  | [], k => by simp [scells]
  | p :: lv, 0 => by simp [scells]
  | p :: lv, k + 1 => by
    rw [scells_cons, show (k + 1) * 2 = k * 2 + 1 + 1 by omega]
    simp [scells_drop lv k]

theorem scells_set : ∀ (lv : List (Int × Value)) (k : Nat) (n : Int) (v u : Value), lv[k]? = some (n, v) → (scells lv).set (k * 2 + 1) u = scells (lv.set k (n, u))
  | [], k, _, _, _, h => by simp at h
  | p :: lv, 0, n, v, u, h => by simp at h; subst h; simp [scells_cons]
  | p :: lv, k + 1, n, v, u, h => by
    rw [scells_cons, show (k + 1) * 2 + 1 = (k * 2 + 1) + 1 + 1 by omega]
    simp at h
    simp [scells_cons, scells_set lv k n v u h]

/-- A value that reads as bytes, in a block of G. -/
def Rd (w : World) (G : Nat → Prop) (v : Value) (bs : List Int) : Prop :=
  ∃ A c, v = .slice A bs.length c ∧ (0 < bs.length → ∃ b, A = some ⟨b, 0, none⟩ ∧ G b ∧ b < w.heap.size ∧ ∀ k, k < bs.length → w.cell? ⟨b, k, none⟩ = some (.int .u8 (bs.getD k 0)))

theorem Rd.keep {w w' : World} {G G' : Nat → Prop} {v : Value} {bs : List Int} (h : Rd w G v bs) (hz : w.heap.size ≤ w'.heap.size) (hg : ∀ b, G b → b < w.heap.size → G' b) (hk : ∀ b, G b → b < w.heap.size → w'.heap[b]? = w.heap[b]?) : Rd w' G' v bs := by
  obtain ⟨A, c, e, h⟩ := h
  refine ⟨A, c, e, fun h0 => ?_⟩
  obtain ⟨b, e, g, hl, hc⟩ := h h0
  refine ⟨b, e, hg b g hl, by omega, fun k hk' => ?_⟩
  exact (World.cell?_of_block (hk b g hl)).trans (hc k hk')

theorem Rd.one {w : World} {G : Nat → Prop} {v : Value} {bs : List Int} (h : Rd w G v bs) : v.oneCell' = true := by
  obtain ⟨A, c, rfl, _⟩ := h
  rfl

/-- Sessions, and what they read as. -/
inductive Rds (w : World) (G : Nat → Prop) : List (Int × Value) → List (Int × List Int) → Prop
  | nil : Rds w G [] []
  | cons {k : Int} {v : Value} {bs : List Int} {lv : List (Int × Value)} {l : List (Int × List Int)} (hr : Rd w G v bs) (ht : Rds w G lv l) : Rds w G ((k, v) :: lv) ((k, bs) :: l)

theorem Rds.keep {w w' : World} {G G' : Nat → Prop} (hz : w.heap.size ≤ w'.heap.size) (hg : ∀ b, G b → b < w.heap.size → G' b) (hk : ∀ b, G b → b < w.heap.size → w'.heap[b]? = w.heap[b]?) : ∀ {lv : List (Int × Value)} {l : List (Int × List Int)}, Rds w G lv l → Rds w' G' lv l
  | _, _, .nil => .nil
  | _, _, .cons hr ht => .cons (hr.keep hz hg hk) (ht.keep hz hg hk)

theorem Rds.len {w : World} {G : Nat → Prop} : ∀ {lv : List (Int × Value)} {l : List (Int × List Int)}, Rds w G lv l → lv.length = l.length
  | _, _, .nil => rfl
  | _, _, .cons _ ht => by simp [ht.len]

theorem Rds.at_ {w : World} {G : Nat → Prop} : ∀ {lv : List (Int × Value)} {l : List (Int × List Int)}, Rds w G lv l → ∀ {k : Nat} {n : Int} {bs : List Int}, l[k]? = some (n, bs) → ∃ v, lv[k]? = some (n, v) ∧ Rd w G v bs
  | _, _, .nil, k, _, _, h => by simp at h
  | _, _, .cons hr _, 0, _, _, h => by simp at h; obtain ⟨rfl, rfl⟩ := h; exact ⟨_, by simp, hr⟩
  | _, _, .cons _ ht, k + 1, _, _, h => by
    simp at h
    obtain ⟨v, h1, h2⟩ := ht.at_ h
    exact ⟨v, by simpa using h1, h2⟩

theorem Rds.snoc {w : World} {G : Nat → Prop} {n : Int} {v : Value} {bs : List Int} (hv : Rd w G v bs) : ∀ {lv : List (Int × Value)} {l : List (Int × List Int)}, Rds w G lv l → Rds w G (lv ++ [(n, v)]) (l ++ [(n, bs)])
  | _, _, .nil => .cons hv .nil
  | _, _, .cons hr ht => .cons hr (ht.snoc hv)

theorem Rds.set {w : World} {G : Nat → Prop} {n : Int} {v : Value} {bs : List Int} (hv : Rd w G v bs) : ∀ {lv : List (Int × Value)} {l : List (Int × List Int)} (k : Nat), Rds w G lv l → Rds w G (lv.set k (n, v)) (l.set k (n, bs))
  | _, _, _, .nil => .nil
  | _, _, 0, .cons _ ht => .cons hv ht
  | _, _, k + 1, .cons hr ht => .cons hr (ht.set hv k)

theorem Rds.erase {w : World} {G : Nat → Prop} : ∀ {lv : List (Int × Value)} {l : List (Int × List Int)} (k : Nat), Rds w G lv l → Rds w G (lv.eraseIdx k) (l.eraseIdx k)
  | _, _, _, .nil => .nil
  | _, _, 0, .cons _ ht => ht
  | _, _, k + 1, .cons hr ht => .cons hr (ht.erase k)

theorem Rds.one {w : World} {G : Nat → Prop} : ∀ {lv : List (Int × Value)} {l : List (Int × List Int)}, Rds w G lv l → ∀ u ∈ scells lv, u.oneCell' = true
  | _, _, .nil, u, h => by simp [scells] at h
  | _, _, .cons hr ht, u, h => by
    rw [scells_cons] at h
    simp at h
    rcases h with rfl | rfl | h
    · rfl
    · exact hr.one
    · exact ht.one u h

theorem Row.keep {w w' : World} {base : Nat} {e : TypeId} {size : Nat} {v : Value} {n : Nat} {xs : List Value} (h : Row w base e size v n xs) (hk : ∀ b, v.ownBlock = some b → b < w.heap.size → w'.heap[b]? = w.heap[b]?) : Row w' base e size v n xs := by
  rcases h with h | h
  · refine .inl ⟨h.1, ?_⟩
    rcases h.2 with h0 | ⟨g, cap, cur, rfl, a, b, c⟩
    · exact .inl h0
    · exact .inr ⟨g, cap, cur, rfl, a, (hk g rfl (Array.getElem?_eq_some_iff.1 b).1).trans b, c⟩
  · exact .inr h

/-- The document's stage at block g. -/
structure Rf (w : World) (G : Nat → Prop) (g : Nat) (nx : Int) (l : List (Int × List Int)) : Prop where
  fg : G g
  rows : ∃ v lv, w.heap[g]? = some (.cells #[.int .i64 nx, v] 59 (0, 0)) ∧ Row w 0 61 2 v lv.length (scells lv) ∧ (∀ b, v.ownBlock = some b → G b ∧ b ≠ g) ∧ Rds w (fun b => G b ∧ b ≠ g ∧ v.ownBlock ≠ some b) lv l

theorem Rf.keep {w w' : World} {G : Nat → Prop} {g : Nat} {nx : Int} {l : List (Int × List Int)} (h : Rf w G g nx l) (hz : w.heap.size ≤ w'.heap.size) (hk : ∀ b, G b → b < w.heap.size → w'.heap[b]? = w.heap[b]?) : Rf w' G g nx l := by
  obtain ⟨v, lv, h1, h2, h3, h4⟩ := h.rows
  exact ⟨h.fg, v, lv, (hk g h.fg (Array.getElem?_eq_some_iff.1 h1).1).trans h1, h2.keep fun b e hl => hk b (h3 b e).1 hl, h3, h4.keep hz (fun b hb _ => hb) fun b hb hl => hk b hb.1 hl⟩

theorem Rf.cells {w : World} {G : Nat → Prop} {g : Nat} {nx : Int} {l : List (Int × List Int)} (h : Rf w G g nx l) : ∃ A c lv, w.heap[g]? = some (.cells #[.int .i64 nx, .slice A l.length c] 59 (0, 0)) ∧ w.cell? ⟨g, 0, none⟩ = some (.int .i64 nx) ∧ w.cell? ⟨g, 1, none⟩ = some (.slice A l.length c) ∧ l.length ≤ c ∧ c ≤ 9223372036854775807 ∧
    lv.length = l.length ∧ Row w 0 61 2 (.slice A l.length c) l.length (scells lv) ∧ (∀ b, (Value.slice A l.length c).ownBlock = some b → G b ∧ b ≠ g) ∧ Rds w (fun b => G b ∧ b ≠ g ∧ (Value.slice A l.length c).ownBlock ≠ some b) lv l ∧
    (0 < l.length → ∃ r, A = some ⟨r, 0, none⟩ ∧ r < w.heap.size ∧ ∀ k n bs, l[k]? = some (n, bs) → ∃ v, w.cell? ⟨r, k * 2, none⟩ = some (.int .i64 n) ∧ w.cell? ⟨r, k * 2 + 1, none⟩ = some v ∧ lv[k]? = some (n, v) ∧ Rd w (fun b => G b ∧ b ≠ g ∧ (Value.slice A l.length c).ownBlock ≠ some b) v bs) := by
  obtain ⟨v, lv, h1, h2, h3, h4⟩ := h.rows
  have hl := h4.len
  have hcap : ∃ A c, v = .slice A l.length c ∧ l.length ≤ c ∧ c ≤ 9223372036854775807 := by
    rcases h2 with h | ⟨A0, rfl, h0, _⟩
    · rcases h.2 with ⟨rfl, h0⟩ | ⟨g, cap, cur, rfl, _, _, hcap, hmax, _⟩
      · exact ⟨none, 0, by rw [← hl, h0], by omega, by omega⟩
      · exact ⟨_, cap, by rw [hl], by omega, by unfold maxLen at hmax; exact hmax⟩
    · exact ⟨A0, 0, by rw [← hl, h0], by omega, by omega⟩
  obtain ⟨A, c, rfl, hc1, hc2⟩ := hcap
  rw [hl] at h2
  refine ⟨A, c, lv, h1, by rw [cell_of_row w g 0 _ _ _ h1]; rfl, by rw [cell_of_row w g 1 _ _ _ h1]; rfl, hc1, hc2, hl, h2, h3, h4, fun h0 => ?_⟩
  obtain ⟨A', c', e, _, hf⟩ := h2.form
  cases e
  obtain ⟨r, e, _, hr, hcell⟩ := hf h0
  refine ⟨r, e, hr, fun k n bs hk => ?_⟩
  obtain ⟨v, hv, hrd⟩ := h4.at_ hk
  have hkl : k < l.length := (List.getElem?_eq_some_iff.1 hk).1
  refine ⟨v, ?_, ?_, hv, hrd⟩
  · rw [hcell (k * 2) (by omega), scells_at0, hv]; rfl
  · rw [hcell (k * 2 + 1) (by omega), scells_at1, hv]; rfl

theorem new13_call (w : World) : Calls Try.prog 16 #[] w fun e w' => e = .returned (.pointer (some ⟨w.heap.size, 0, none⟩)) ∧ Below w.heap.size w w' ∧ w'.heap.size = w.heap.size + 1 ∧ Rf w' (fun b => b = w.heap.size) w.heap.size 0 [] := by
  go_enter Try.func16, Try.ntmps16
  go_wp2
  go_ret
  refine ⟨rfl, by go_grown, by simp, rfl, .slice none 0 0, [], heap_alloc_new w _, .inl (World.ownsRow_nil _ _ _ _), (fun b e => by cases e), .nil⟩

theorem count13_call {w : World} {G : Nat → Prop} {g : Nat} {nx : Int} {l : List (Int × List Int)} (h : Rf w G g nx l) :
    Calls Try.prog 23 #[.pointer (some ⟨g, 0, none⟩)] w fun e w' => e = .returned (.int .i64 l.length) ∧ w = w' := by
  obtain ⟨A, c, lv, _, _, c1, _⟩ := h.cells
  go_enter Try.func23, Try.ntmps23
  go_wp2
  go_ret
  exact ⟨rfl, rfl⟩

theorem find_none {w : World} {G : Nat → Prop} {g : Nat} {nx : Int} {l : List (Int × List Int)} (h : Rf w G g nx l) (no : Int) (hk : ∀ p ∈ l, p.1 ≠ no) :
    Calls Try.prog 33 #[.pointer (some ⟨g, 0, none⟩), .int .i64 no] w fun e w' => e = .returned (.int .i64 (-1)) ∧ w = w' := by
  obtain ⟨A, c, lv, _, _, c1, hc, hm, _, _, _, _, hcell⟩ := h.cells
  have HC := Lib.hid hcell
  have HK := Lib.hid hk
  clear hcell hk
  go_enter Try.func33, Try.ntmps33
  go_wp2
  go_loop [5] (fun i => ∃ k : Nat, k ≤ l.length ∧ i = .int .i64 k) (fun i => l.length - (intOf i).toNat)
  case atStart => exact ⟨0, by omega, rfl⟩
  case round =>
    obtain ⟨k, hk, rfl⟩ := hrel
    by_cases hlt : k < l.length
    · obtain ⟨r, rfl, hr, hr2⟩ := HC.out (by omega)
      obtain ⟨v, d0, d1, _, _⟩ := hr2 k (l[k]).1 (l[k]).2 (by rw [List.getElem?_eq_getElem hlt])
      have hne := HK.out _ (List.getElem_mem hlt)
      obtain ⟨n, hn⟩ : ∃ n, (l[k]).1 = n := ⟨_, rfl⟩
      rw [hn] at d0 hne
      have hb : (n == no) = false := by simpa using hne
      clear hr2 hn hne
      have i0 : (0 : Int) ≤ (k : Int) := Int.natCast_nonneg _
      have i1 : (k : Int) < (l.length : Int) := by omega
      go_wp2
      go_round
      case rel => exact ⟨k + 1, by omega, by go_num⟩
      case measure => simp [intOf]; omega
    · go_wp2
      go_ret
      exact ⟨rfl, rfl⟩

theorem find_some {w : World} {G : Nat → Prop} {g : Nat} {nx : Int} {l : List (Int × List Int)} (h : Rf w G g nx l) (no : Int) (j : Nat) (bs : List Int) (hj : l[j]? = some (no, bs)) (hd : l.Pairwise fun p q => p.1 ≠ q.1) :
    Calls Try.prog 33 #[.pointer (some ⟨g, 0, none⟩), .int .i64 no] w fun e w' => e = .returned (.int .i64 j) ∧ w = w' := by
  obtain ⟨A, c, lv, _, _, c1, hc, hm, _, _, _, _, hcell⟩ := h.cells
  have hjl : j < l.length := (List.getElem?_eq_some_iff.1 hj).1
  have hbef : ∀ k (hk : k < j), (l[k]'(by omega)).1 ≠ no := fun k hk => by
    have h1 := List.pairwise_iff_getElem.1 hd k j (by omega) hjl hk
    rw [List.getElem?_eq_getElem hjl] at hj
    rw [Option.some.inj hj] at h1
    exact h1
  obtain ⟨r, rfl, hr, hr2⟩ := hcell (by omega)
  have HC := Lib.hid hr2
  have HB := Lib.hid hbef
  have HJ := Lib.hid hj
  clear hr2 hbef hcell hj
  go_enter Try.func33, Try.ntmps33
  go_wp2
  go_loop [5] (fun i => ∃ k : Nat, k ≤ j ∧ i = .int .i64 k) (fun i => l.length - (intOf i).toNat)
  case atStart => exact ⟨0, by omega, rfl⟩
  case round =>
    obtain ⟨k, hk, rfl⟩ := hrel
    have i0 : (0 : Int) ≤ (k : Int) := Int.natCast_nonneg _
    have i1 : (k : Int) < (l.length : Int) := by omega
    have i2 : k < l.length := by omega
    by_cases hlt : k < j
    · obtain ⟨v, d0, d1, _, _⟩ := HC.out k (l[k]).1 (l[k]).2 (by rw [List.getElem?_eq_getElem i2])
      have hne := HB.out k hlt
      obtain ⟨n, hn⟩ : ∃ n, (l[k]).1 = n := ⟨_, rfl⟩
      rw [hn] at d0 hne
      have hb : (n == no) = false := by simpa using hne
      clear hn hne
      go_wp2
      go_round
      case rel => exact ⟨k + 1, by omega, by go_num⟩
      case measure => simp [intOf]; omega
    · obtain rfl : k = j := by omega
      obtain ⟨v, d0, d1, _, _⟩ := HC.out k no bs HJ.out
      go_wp2
      go_ret
      exact ⟨rfl, rfl⟩
theorem info61 : (Try.prog.info? 61).map (fun i => (i.zero, i.size, i.bytes)) = some (some (.agg #[.int .i64 0, .slice none 0 0]), 2, 32) := by kernel_rfl

theorem src_blk {W : World} {b m size : Nat} {us : List Value} {t : TypeId} {fr : Nat × Nat} (h : W.heap[b]? = some (.cells us.toArray t fr)) (hl : us.length = m * size) : Src W size (some ⟨b, 0, none⟩) m us :=
  ⟨hl, fun _ => ⟨_, rfl, fun j v hv => by
    have hadd : (⟨b, 0, none⟩ : Addr).add j = ⟨b, j, none⟩ := by unfold Addr.add; split <;> simp_all
    rw [hadd, cell_of_row _ _ j _ _ _ h]
    simpa using hv⟩⟩

theorem Row.src {w : World} {base : Nat} {e : TypeId} {size : Nat} {A : Option Addr} {c n : Nat} {xs : List Value} (h : Row w base e size (.slice A n c) n xs) : Src w size A n xs := by
  obtain ⟨A', c', e1, hl, hf⟩ := h.form
  cases e1
  refine ⟨hl, fun h0 => ?_⟩
  obtain ⟨g, rfl, _, _, hc⟩ := hf h0
  refine ⟨_, rfl, fun j u hu => ?_⟩
  have hadd : (⟨g, 0, none⟩ : Addr).add j = ⟨g, j, none⟩ := by unfold Addr.add; split <;> simp_all
  have hj : j < n * size := by
    rw [← hl]
    exact (List.getElem?_eq_some_iff.1 hu).1
  rw [hadd, hc j hj, hu]

theorem Src.take2 {w : World} {A : Option Addr} {n size : Nat} {us : List Value} (h : Src w size A n us) {j : Nat} (hj : j ≤ n) : Src w size A j (us.take (j * size)) := by
  have hl := h.len
  have hm : j * size ≤ n * size := Nat.mul_le_mul_right _ hj
  refine ⟨by rw [List.length_take]; omega, fun h0 => ?_⟩
  obtain ⟨ad, rfl, hc⟩ := h.at_ (by omega)
  refine ⟨ad, rfl, fun i u hu => ?_⟩
  rw [List.getElem?_take] at hu
  split at hu
  · exact hc i u hu
  · cases hu

theorem Src.drop2 {w : World} {b off n size : Nat} {us : List Value} (h : Src w size (some ⟨b, off, none⟩) n us) (j : Nat) {A : Option Addr} (hA : j < n → A = some ⟨b, off + j * size, none⟩) : Src w size A (n - j) (us.drop (j * size)) := by
  have hl := h.len
  refine ⟨by rw [List.length_drop, hl, Nat.sub_mul], fun h0 => ?_⟩
  obtain ⟨ad, e, hc⟩ := h.at_ (by omega)
  cases e
  refine ⟨_, hA (by omega), fun i u hu => ?_⟩
  rw [List.getElem?_drop] at hu
  have h1 := hc (j * size + i) u hu
  have e1 : (⟨b, off, none⟩ : Addr).add (j * size + i) = ⟨b, off + (j * size + i), none⟩ := by unfold Addr.add; split <;> simp_all
  have e2 : (⟨b, off + j * size, none⟩ : Addr).add i = ⟨b, off + j * size + i, none⟩ := by unfold Addr.add; split <;> simp_all
  rw [e1] at h1
  rw [e2, Nat.add_assoc]
  exact h1

/-- `s[lo:]` for elements of two cells. -/
theorem slice_from2 {P : Program} {t e : TypeId} {i : TypeInfo} (ht : P.underlying t = some (.slice e)) (hi : P.info? e = some i) (hsize : i.size = 2) (b off n c lo : Nat) (h1 : lo ≤ n) (h2 : n ≤ c) :
    ∃ A : Option Addr, (lo < n → A = some ⟨b, off + lo * 2, none⟩) ∧ ∀ W, (Instr.slice t (.slice (some ⟨b, off, none⟩) n c) (some (.int .i64 (lo : Int))) none none).run P W = .ok (.slice A (n - lo) (c - lo)) W := by
  by_cases hc : c = lo
  · refine ⟨some ⟨b, off, none⟩, fun h => by omega, fun W => ?_⟩
    have e1 : (lo : Int) ≤ (n : Int) := by omega
    subst hc
    simp [Instr.slice, Instr.sliceBounds, Instr.sliceBound, asIntOf, run_underlying ht, sizeOf, typeInfo, hi, hsize, e1, go_sem]
    intro h
    omega
  · refine ⟨some ⟨b, off + lo * 2, none⟩, fun _ => rfl, fun W => ?_⟩
    have e1 : (lo : Int) ≤ (n : Int) := by omega
    simp [Instr.slice, Instr.sliceBounds, Instr.sliceBound, asIntOf, run_underlying ht, sizeOf, typeInfo, hi, hsize, e1, hc, go_sem]
    intro h
    omega

theorem begin13_full {w : World} {G : Nat → Prop} {g : Nat} {nx : Int} {l : List (Int × List Int)} (h : Rf w G g nx l) (h8 : l.length = 8) :
    Calls Try.prog 18 #[.pointer (some ⟨g, 0, none⟩)] w fun e w' => e = .returned (.tuple #[.int .i64 0, .int .i64 131]) ∧ w = w' := by
  obtain ⟨A, c, lv, _, _, c1, _⟩ := h.cells
  rw [h8] at c1
  clear h8
  go_enter Try.func18, Try.ntmps18
  go_wp2
  go_ret2
  exact ⟨rfl, rfl⟩

/-- A step of the document's stage: what it may touch. -/
def RfStep (w : World) (G : Nat → Prop) (g : Nat) (nx : Int) (l : List (Int × List Int)) (w' : World) : Prop :=
  ∃ G' : Nat → Prop, Rf w' G' g nx l ∧ (∀ b, G b → G' b) ∧ (∀ b, G' b → G b ∨ (w.heap.size ≤ b ∧ b < w'.heap.size)) ∧ Touch G w w'

theorem begin13_close {w w6 : World} {G : Nat → Prop} {g : Nat} {nx : Int} {l : List (Int × List Int)} {A A6 : Option Addr} {c k6 : Nat} {lv : List (Int × Value)} (fg : G g)
    (hA : ∀ b, (Value.slice A l.length c).ownBlock = some b → G b ∧ b ≠ g) (hB : w.heap[g]? = some (.cells #[.int .i64 nx, .slice A l.length c] 59 (0, 0)))
    (hR : Rds w (fun b => G b ∧ b ≠ g ∧ (Value.slice A l.length c).ownBlock ≠ some b) lv l) (hL : lv.length = l.length)
    (T6 : Touch (fun b => (Value.slice A l.length c).ownBlock = some b) w w6)
    (hrow6 : Row w6 0 61 2 (.slice A6 (l.length + 1) k6) (l.length + 1) (scells lv ++ [.int .i64 nx, .slice none 0 0]))
    (hat : ∀ b, (Value.slice A6 (l.length + 1) k6).ownBlock = some b → (Value.slice A l.length c).ownBlock = some b ∨ w.heap.size ≤ b) :
    RfStep w G g (nx + 1) (l ++ [(nx, [])]) ((w6.setCell ⟨g, 1, none⟩ (.slice A6 (l.length + 1) k6)).setCell ⟨g, 0, none⟩ (.int .i64 (nx + 1))) := by
  have hg := lt_of_block hB
  have hlt : ∀ b, (Value.slice A6 (l.length + 1) k6).ownBlock = some b → b < w6.heap.size := fun b e => by
    rcases hrow6 with h | ⟨_, _, h, _⟩
    · exact (World.ownsRow.lt h b e).2
    · omega
  have hB6 := (T6.block g hg (fun e => (hA g e).2 rfl)).trans hB
  have hne6 : ∀ b, (Value.slice A6 (l.length + 1) k6).ownBlock = some b → b ≠ g := fun b e => by
    rcases hat b e with h | h
    · exact (hA b h).2
    · omega
  have keep : ∀ b, b ≠ g → ((w6.setCell ⟨g, 1, none⟩ (.slice A6 (l.length + 1) k6)).setCell ⟨g, 0, none⟩ (.int .i64 (nx + 1))).heap[b]? = w6.heap[b]? := fun b hb => by
    rw [Below.heap_setCell _ _ _ _ hb, Below.heap_setCell _ _ _ _ hb]
  refine ⟨fun b => G b ∨ (Value.slice A6 (l.length + 1) k6).ownBlock = some b, ⟨.inl fg, .slice A6 (l.length + 1) k6, lv ++ [(nx, .slice none 0 0)], heap_setCell_same (heap_setCell_same hB6 _) _, ?_, fun b e => ⟨.inr e, hne6 b e⟩, ?_⟩, fun b h => .inl h, fun b h => ?_, ?_⟩
  · rw [scells_append, List.length_append, List.length_singleton, hL]
    exact hrow6.keep fun b e _ => keep b (hne6 b e)
  · refine Rds.snoc (v := .slice none 0 0) (bs := []) ⟨none, 0, rfl, fun h => absurd h (by simp)⟩ (hR.keep (by have := T6.size; simpa using this) ?_ fun b hb hlt => (keep b hb.2.1).trans (T6.block b hlt hb.2.2))
    intro b hb hlt
    refine ⟨.inl hb.1, hb.2.1, fun e => ?_⟩
    rcases hat b e with h | h
    · exact hb.2.2 h
    · omega
  · rcases h with h | h
    · exact .inl h
    · rcases hat b h with h1 | h1
      · exact .inl (hA b h1).1
      · exact .inr ⟨h1, by simpa using hlt b h⟩
  · exact ((T6.mono fun b _ e => (hA b e).1).setCell fg _).setCell fg _

set_option maxHeartbeats 1000000 in
theorem begin13_call {w : World} {G : Nat → Prop} {g : Nat} {nx : Int} {l : List (Int × List Int)} (h : Rf w G g nx l) (h8 : l.length < 8) (h0 : 0 ≤ nx) (h1 : nx ≤ 4611686018427387904) :
    Calls Try.prog 18 #[.pointer (some ⟨g, 0, none⟩)] w fun e w' => e = .returned (.tuple #[.int .i64 nx, .int .i64 0]) ∧ RfStep w G g (nx + 1) (l ++ [(nx, [])]) w' := by
  obtain ⟨A, c, lv, hblk, c0, c1, hc, hm, hlen, hrow, hA, hrds, _⟩ := h.cells
  obtain ⟨i0, hi0, hz0, hz1, hz2⟩ := info_parts info61
  have e8 : ((l.length : Int) == 8) = false := by rw [beq_eq_false_iff_ne]; omega
  have hg := lt_of_block hblk
  have HRow : Hid (∀ W : World, (∀ b, b < w.heap.size → W.heap[b]? = w.heap[b]?) → Row W 0 61 2 (.slice A l.length c) l.length (scells lv)) := fun W hW => hrow.keep fun b _ hlt => hW b hlt
  have HA := Lib.hid hA
  have HB := Lib.hid hblk
  have HR := Lib.hid hrds
  have HL := Lib.hid hlen
  clear hrow hA hblk hrds hlen
  go_enter Try.func18, Try.ntmps18
  go_wp2_with fail
  go_region_law
      ((refine step_app_row rfl (.tmp 14) (.tmp 20) 57 rfl 0 61 i0 _ 2 32 Try.underlying57 hi0 hz0 hz1 hz2 rfl (by omega) (.slice A l.length c) l.length (scells lv) (by simp [Act.eval, Act.put]) (HRow.out _ (fun b hb => Below.heap_alloc w _ _ hb)) (some ⟨w.heap.size, 0, none⟩) 1 1 [.int .i64 nx, .slice none 0 0] (by simp [Act.eval, Act.put]) (src_blk (heap_alloc_new w _) rfl) (by simp [Value.oneCell']) (by unfold maxLen; omega) (by omega) (Nat.zero_le _) ?_); intro A6 k6 w6 hrow6 hgrow6 hat6
       have hb6 := ((hgrow6.block g (by simp; omega) (fun e => (HA.out g e.symm).2 rfl)).trans (Below.heap_alloc w _ _ hg)).trans HB.out
       have x1 : w6.cell? ⟨g, 1, none⟩ = some (.slice A l.length c) := by rw [cell_of_row _ g 1 _ _ _ hb6]; rfl
       have x0 : w6.cell? ⟨g, 0, none⟩ = some (.int .i64 nx) := by rw [cell_of_row _ g 0 _ _ _ hb6]; rfl
       have y1 : w6.frozen? ⟨g, 1, none⟩ = false := by simp [World.frozen?, hb6]
       have y0 : w6.frozen? ⟨g, 0, none⟩ = false := by simp [World.frozen?, hb6]
       have HB6 := Lib.hid hb6
       clear hb6)
  all_goals go_wp2
  all_goals
    go_ret2
    exact ⟨by simp, begin13_close h.fg HA.out HB.out HR.out HL.out ((Touch.of_below (by go_grown)).trans (Touch.of_grown hgrow6 (fun k e => e))) hrow6 (fun b e => (hat6 b e).imp (fun h => h) (fun h => by simp at h; omega))⟩

/-- How many bytes all sessions have. -/
def total : List (Int × List Int) → Nat
  | [] => 0
  | p :: l => p.2.length + total l

theorem total_take : ∀ {l : List (Int × List Int)} {k : Nat} (hk : k < l.length), total (l.take (k + 1)) = total (l.take k) + (l[k]).2.length
  | [], _, hk => absurd hk (by simp)
  | p :: l, 0, _ => by simp [total]
  | p :: l, k + 1, hk => by
    have := total_take (l := l) (k := k) (by simpa using hk)
    simp only [List.take_succ_cons, total, List.getElem_cons_succ]
    omega

theorem total_le : ∀ (l : List (Int × List Int)) (k : Nat), total (l.take k) ≤ total l
  | [], k => by simp [total]
  | p :: l, 0 => by simp [total]
  | p :: l, k + 1 => by
    have := total_le l k
    simp only [List.take_succ_cons, total]
    omega

/-- What an Add that finds its session comes to. -/
def AddPost (w : World) (G : Nat → Prop) (g : Nat) (nx : Int) (l : List (Int × List Int)) (no : Int) (j : Nat) (bs ys : List Int) (e : Ending) (w' : World) : Prop :=
  (2048 < total l + ys.length ∧ e = .returned (.int .i64 131) ∧ w = w') ∨ (total l + ys.length ≤ 2048 ∧ e = .returned (.int .i64 0) ∧ RfStep w G g nx (l.set j (no, bs ++ ys)) w')

theorem add13_absent {w : World} {G : Nat → Prop} {g : Nat} {nx : Int} {l : List (Int × List Int)} (h : Rf w G g nx l) (no : Int) (hk : ∀ p ∈ l, p.1 ≠ no) (A : Option Addr) (m c : Nat) :
    Calls Try.prog 19 #[.pointer (some ⟨g, 0, none⟩), .int .i64 no, .slice A m c] w fun e w' => e = .returned (.int .i64 130) ∧ w = w' := by
  go_enter Try.func19, Try.ntmps19
  go_wp2_with (go_at_call 33; refine (find_none h no hk).mono ?_; rintro e w' ⟨rfl, rfl⟩)
  go_ret
  exact ⟨rfl, rfl⟩

theorem add13_long {w : World} {G : Nat → Prop} {g : Nat} {nx : Int} {l : List (Int × List Int)} (h : Rf w G g nx l) (no : Int) (j : Nat) (bs : List Int) (hj : l[j]? = some (no, bs)) (hd : l.Pairwise fun p q => p.1 ≠ q.1) (A : Option Addr) (m c : Nat)
    (hm : m ≤ 140737488355328) (hb : bs.length ≤ 512) (hl : 512 < bs.length + m) :
    Calls Try.prog 19 #[.pointer (some ⟨g, 0, none⟩), .int .i64 no, .slice A m c] w fun e w' => e = .returned (.int .i64 5) ∧ w = w' := by
  obtain ⟨A, c, lv, _, _, c1, hc, hcm, _, _, _, _, hcell⟩ := h.cells
  have hjl : j < l.length := (List.getElem?_eq_some_iff.1 hj).1
  obtain ⟨r, rfl, hr, hr2⟩ := hcell (by omega)
  obtain ⟨v, d0, d1, _, Av, cv, rfl, _⟩ := hr2 j no bs hj
  have i0 : (0 : Int) ≤ (j : Int) := Int.natCast_nonneg _
  have i1 : (j : Int) < (l.length : Int) := by omega
  have F := Lib.hid (find_some h no j bs hj hd)
  clear hr2 hcell hj
  go_enter Try.func19, Try.ntmps19
  go_wp2_with (go_at_call 33; refine (F.out).mono ?_; rintro e w' ⟨rfl, rfl⟩)
  go_ret
  exact ⟨rfl, rfl⟩

theorem Src.lt {w : World} {A : Option Addr} {m : Nat} {us : List Value} (h : Src w 1 A m us) : ∀ ad, A = some ad → 0 < m → ad.block < w.heap.size := fun ad e h0 => by
  obtain ⟨ad', e', hc⟩ := h.at_ h0
  rw [e] at e'
  cases e'
  have hl := h.len
  have h1 := hc 0 us[0] (List.getElem?_eq_getElem (by omega))
  have h2 := World.block_lt_of_cell? w _ h1
  simpa [Addr.add] using h2

theorem Rd.src {w : World} {G : Nat → Prop} {A : Option Addr} {c : Nat} {bs : List Int} (h : Rd w G (.slice A bs.length c) bs) : Src w 1 A bs.length (u8s bs) := by
  obtain ⟨A', c', e, hf⟩ := h
  cases e
  refine ⟨by simp [u8s], fun h0 => ?_⟩
  obtain ⟨b, rfl, _, _, hc⟩ := hf h0
  refine ⟨_, rfl, fun j u hu => ?_⟩
  have hj : j < bs.length := by
    have := (List.getElem?_eq_some_iff.1 hu).1
    simpa [u8s] using this
  have hadd : (⟨b, 0, none⟩ : Addr).add j = ⟨b, j, none⟩ := by unfold Addr.add; split <;> simp_all
  rw [hadd, hc j hj]
  unfold u8s at hu
  rw [List.getElem?_map, List.getElem?_eq_getElem hj] at hu
  cases hu
  rw [List.getD_eq_getElem?_getD, List.getElem?_eq_getElem hj]
  rfl

theorem add13_close {w w8 : World} {G : Nat → Prop} {g r c k8 j n8 : Nat} {nx no : Int} {l : List (Int × List Int)} {A8 : Option Addr} {lv : List (Int × Value)} {v : Value} {bs ys : List Int} {us : List Value} (fg : G g)
    (hA : G r ∧ r ≠ g) (hB : w.heap[g]? = some (.cells #[.int .i64 nx, .slice (some ⟨r, 0, none⟩) l.length c] 59 (0, 0)))
    (hrow : Row w 0 61 2 (.slice (some ⟨r, 0, none⟩) l.length c) l.length (scells lv)) (hlr : r < w.heap.size)
    (hR : Rds w (fun b => G b ∧ b ≠ g ∧ (Value.slice (some ⟨r, 0, none⟩) l.length c).ownBlock ≠ some b) lv l) (hL : lv.length = l.length) (hv : lv[j]? = some (no, v)) (hjl : j < l.length)
    (T8 : Below w.heap.size w w8) (hn : n8 = bs.length + ys.length) (hu : us = u8s bs ++ u8s ys) (hrow8 : Row w8 w.heap.size 5 1 (.slice A8 n8 k8) n8 us) :
    RfStep w G g nx (l.set j (no, bs ++ ys)) (w8.setCell ⟨r, j * 2 + 1, none⟩ (.slice A8 n8 k8)) := by
  have hg := lt_of_block hB
  have z8 := T8.size
  have hrne : r ≠ g := hA.2
  have keep : ∀ b, b < w.heap.size → b ≠ r → (w8.setCell ⟨r, j * 2 + 1, none⟩ (.slice A8 n8 k8)).heap[b]? = w.heap[b]? := fun b hb hn => by
    rw [Below.heap_setCell _ _ _ _ hn]; exact T8.block b hb
  have hlen : (bs ++ ys).length = n8 := by simp; omega
  have hbs : us = u8s (bs ++ ys) := by rw [hu]; simp [u8s]
  have hown : w8.ownsRow 0 61 2 (.slice (some ⟨r, 0, none⟩) l.length c) l.length (scells lv) := by
    have := hrow.keep (w' := w8) fun b _ hlt => T8.block b hlt
    rcases this with h | ⟨_, _, h, _⟩
    · exact h
    · omega
  have hst := (hown.stored (j * 2 + 1) (.slice A8 n8 k8)).1
  rw [scells_set lv j no v _ hv] at hst
  have hset : (lv.set j (no, .slice A8 n8 k8)).length = l.length := by simp [hL]
  refine ⟨fun b => G b ∨ (∃ c', A8 = some ⟨b, c', none⟩ ∧ w.heap.size ≤ b ∧ b < w8.heap.size), ⟨.inl fg, .slice (some ⟨r, 0, none⟩) l.length c, lv.set j (no, .slice A8 n8 k8), (keep g hg (Ne.symm hrne)).trans hB, by rw [hset]; exact .inl hst, fun b e => ?_, ?_⟩, fun b h => .inl h, fun b h => ?_, ?_⟩
  · simp [Value.ownBlock] at e
    subst e
    exact ⟨.inl hA.1, hrne⟩
  · refine Rds.set ⟨A8, k8, by rw [hlen], fun h0 => ?_⟩ j (hR.keep (by simpa using z8) (fun b hb _ => ⟨.inl hb.1, hb.2⟩) fun b hb hlt => keep b hlt fun e => hb.2.2 (by simp [Value.ownBlock, e]))
    obtain ⟨A', c', e, hl, hf⟩ := hrow8.form
    cases e
    obtain ⟨b, rfl, hb1, hb2, hc⟩ := hf (by omega)
    refine ⟨b, rfl, ⟨.inr ⟨0, rfl, hb1, hb2⟩, by omega, fun e => ?_⟩, by simpa using hb2, fun k hk => ?_⟩
    · simp [Value.ownBlock] at e
      omega
    · rw [World.cell?_setCell_other _ _ _ _ (by first | (simp; done) | (simp; omega)), hc k (by omega), hbs]
      unfold u8s
      rw [List.getElem?_map, List.getElem?_eq_getElem hk, List.getD_eq_getElem?_getD, List.getElem?_eq_getElem hk]
      rfl
  · rcases h with h | ⟨_, _, h1, h2⟩
    · exact .inl h
    · exact .inr ⟨h1, by simpa using h2⟩
  · exact (Touch.of_below T8).setCell hA.1 _

set_option maxHeartbeats 1000000 in
theorem add13_call {w : World} {G : Nat → Prop} {g : Nat} {nx : Int} {l : List (Int × List Int)} (h : Rf w G g nx l) (no : Int) (j : Nat) (bs : List Int) (hj : l[j]? = some (no, bs)) (hd : l.Pairwise fun p q => p.1 ≠ q.1) (A : Option Addr) (c0 : Nat) (ys : List Int)
    (hs : Src w 1 A ys.length (u8s ys)) (hl : bs.length + ys.length ≤ 512) (ht : total l ≤ 2048) :
    Calls Try.prog 19 #[.pointer (some ⟨g, 0, none⟩), .int .i64 no, .slice A ys.length c0] w fun e w' => AddPost w G g nx l no j bs ys e w' := by
  obtain ⟨A1, c, lv, hblk, _, c1, hc, hcm, hlen, hrow, hA, hrds, hcell⟩ := h.cells
  have hjl : j < l.length := (List.getElem?_eq_some_iff.1 hj).1
  obtain ⟨r, rfl, hr, hr2⟩ := hcell (by omega)
  obtain ⟨i5, hi5, hx0, hx1, hx2⟩ := info_parts info5
  obtain ⟨v, d0, d1, hlv, hrd⟩ := hr2 j no bs hj
  have hsv := hrd
  obtain ⟨Av, cv, rfl, _⟩ := hrd
  have hsrc := hsv.src
  have i0 : (0 : Int) ≤ (j : Int) := Int.natCast_nonneg _
  have i1 : (j : Int) < (l.length : Int) := by omega
  have F := Lib.hid (find_some h no j bs hj hd)
  have HC := Lib.hid hr2
  have HB := Lib.hid hblk
  have HR := Lib.hid hrds
  have HL := Lib.hid hlen
  have HLV := Lib.hid hlv
  have HA := hA r rfl
  have HRow := Lib.hid hrow
  have hg := lt_of_block hblk
  have fz : w.frozen? ⟨r, j * 2 + 1, none⟩ = false := by
    rcases hrow with h | ⟨_, _, h, _⟩
    · exact World.ownsRow.frozenAt h _
    · omega
  clear hr2 hcell hj hrow hA hblk hrds hlen hlv hsv
  go_enter Try.func19, Try.ntmps19
  go_wp2_with (go_at_call 33; refine (F.out).mono ?_; rintro e w' ⟨rfl, rfl⟩)
  go_loop [8, 9] (fun t i => ∃ k : Nat, k ≤ l.length ∧ i = .int .i64 k ∧ t = .int .i64 ((ys.length : Int) + (total (l.take k) : Int))) (fun _ i => l.length - (intOf i).toNat)
  case atStart => exact ⟨0, by omega, rfl, by simp [total]⟩
  case round =>
    obtain ⟨k, hk, rfl, rfl⟩ := hrel
    have hle := total_le l k
    by_cases hlt : k < l.length
    · obtain ⟨v, q0, q1, _, hrk⟩ := HC.out k (l[k]).1 (l[k]).2 (by rw [List.getElem?_eq_getElem hlt])
      have ht1 := total_le l (k + 1)
      have HT := Lib.hid (total_take hlt)
      rw [HT.out] at ht1
      obtain ⟨zs, hzs⟩ : ∃ zs, (l[k]).2 = zs := ⟨_, rfl⟩
      rw [hzs] at hrk ht1 HT
      obtain ⟨Ak, ck, rfl, _⟩ := hrk
      have k0 : (0 : Int) ≤ (k : Int) := Int.natCast_nonneg _
      have k1 : (k : Int) < (l.length : Int) := by omega
      clear hzs
      go_wp2
      go_round
      case rel => exact ⟨k + 1, by omega, by go_num, by rw [HT.out]; go_num⟩
      case measure => simp [intOf]; omega
    · obtain rfl : k = l.length := by omega
      rw [List.take_length] at *
      by_cases hq : 2048 < total l + ys.length
      · go_wp2
        go_ret
        exact .inl ⟨hq, rfl, rfl⟩
      · go_wp2_with (at_builtin; refine wpList_app_row rfl (.tmp 53) (.tmp 61) 29 rfl w.heap.size 5 i5 _ 1 1 Try.underlying29 hi5 hx0 hx1 hx2 rfl (by omega) (.slice (some ⟨w.heap.size, 0, none⟩) 0 0) 0 [] rfl (.inr ⟨_, rfl, rfl, rfl⟩) Av bs.length cv (u8s bs) rfl (hsrc.below hsrc.lt ((Below.refl _ _).alloc (Nat.le_refl _) _)) (u8s_one bs) (by unfold maxLen; omega) (by omega) (by simp) ?_; intro A6 k6 w6 hrow6 hgrow6 hat6)
        have T6 : Below w.heap.size w w6 := by
          refine Below.grown (w := w.alloc (.cells #[] 5)) ((Below.refl _ _).alloc (Nat.le_refl _) _) hgrow6 (by simp) (fun b e => ?_)
          simp [Value.ownBlock] at e
          omega
        have CL : Hid (∀ W, Below w.heap.size w W → W.cell? ⟨g, 1, none⟩ = some (.slice (some ⟨r, 0, none⟩) l.length c) ∧ W.cell? ⟨r, j * 2 + 1, none⟩ = some (.slice Av bs.length cv) ∧ W.frozen? ⟨r, j * 2 + 1, none⟩ = false) :=
          fun W hb => ⟨(hb.cell (p := ⟨g, 1, none⟩) hg).trans c1, (hb.cell (p := ⟨r, j * 2 + 1, none⟩) hr).trans d1, (hb.frozen (p := ⟨r, j * 2 + 1, none⟩) hr).trans fz⟩
        have hs6 := hs.below hs.lt T6.drew
        have hat6' : ∀ b, (Value.slice A6 (0 + bs.length) k6).ownBlock = some b → w.heap.size ≤ b := fun b e => by
          rcases hat6 b e with h | h
          · simp [Value.ownBlock] at h
            omega
          · simp at h
            omega
        have hrow6' : Row w6.drew w.heap.size 5 1 (.slice A6 bs.length k6) bs.length (u8s bs) := by
          rw [Nat.zero_add, List.nil_append] at hrow6
          exact hrow6.keep fun b _ _ => rfl
        rw [Nat.zero_add] at hat6'
        obtain ⟨x1, x2, x3⟩ := CL.out _ T6
        have HAT6 := Lib.hid hat6'
        have HROW6 := Lib.hid hrow6'
        have hz6 := T6.size
        clear hrow6 hgrow6 hat6 hat6' hrow6'
        go_region_law
          ((refine step_app_row rfl (.tmp 68) (.tmp 69) 29 rfl w.heap.size 5 i5 _ 1 1 Try.underlying29 hi5 hx0 hx1 hx2 rfl (by omega) (.slice A6 bs.length k6) bs.length (u8s bs) (by simp [Act.eval, Act.put]) HROW6.out A ys.length c0 (u8s ys) (by simp [Act.eval, Act.put]) hs6 (u8s_one ys) (by unfold maxLen; omega) (by omega) hz6 ?_); intro A8 k8 w8 hrow8 hgrow8 hat8
           have T8 := Below.grown T6.drew hgrow8 hz6 HAT6.out
           obtain ⟨z1, z2, z3⟩ := CL.out _ T8)
        all_goals go_wp2
        all_goals
          go_ret
          exact .inr ⟨by omega, rfl, add13_close h.fg HA HB.out HRow.out hr HR.out HL.out HLV.out hjl T8 rfl rfl hrow8⟩

section
variable {P : Program}
theorem run_app_rowB (w : World) {base : Nat} {t e : TypeId} {i : TypeInfo} {z : Value} {size bytes : Nat} (ty : TypeId) (ht : P.underlying t = some (.slice e)) (hi : P.info? e = some i) (hz : i.zero = some z)
    (hsize : i.size = size) (hby : i.bytes = bytes) (hzs : z.cells.size = size) (hsz : 0 < size)
    {v : Value} {n : Nat} {xs : List Value} (hrow : Row w base e size v n xs)
    {A : Option Addr} {m : Nat} (c : Nat) {us : List Value} (hs : Src w size A m us) (h1 : ∀ u ∈ us, u.oneCell' = true)
    (h63 : n + m ≤ maxLen) (hb : (n + m) * bytes ≤ 140737488355328) (hbase : base ≤ w.heap.size) :
    ∃ A' cap w', (Builtin.append_ #[t, t] ty #[v, .slice A m c]).run P w = .ok (.slice A' (n + m) cap) w' ∧ Row w' base e size (.slice A' (n + m) cap) (n + m) (xs ++ us) ∧ w.grownBy w' v.ownBlock ∧
      (∀ b, (Value.slice A' (n + m) cap).ownBlock = some b → v.ownBlock = some b ∨ (w.heap.size ≤ b ∧ b < w'.heap.size)) := by
  rcases hrow with hown | ⟨A0, rfl, rfl, rfl⟩
  · obtain ⟨v', w', a1, a2, a3, a4⟩ := run_app (P := P) w ty ht hi hz hsize hby hzs hsz hown c hs h1 h63 hb hbase
    obtain ⟨A', cap, rfl, _⟩ := Row.form (.inl a2)
    refine ⟨A', cap, w', a1, .inl a2, a3, ?_⟩
    intro b e
    rcases a4 with h | h
    · exact .inl (h.symm.trans e)
    · exact .inr ⟨Nat.le_of_eq (Option.some.inj (h.symm.trans e)), (World.ownsRow.lt a2 b e).2⟩
  · rw [Nat.zero_add] at h63 hb ⊢
    rw [List.nil_append]
    by_cases h0 : 0 < m
    · obtain ⟨v', w', a1, a2, a3⟩ := run_clone (P := P) w ty ht hi hz hsize hby hzs hsz A0 c hs h1 h63 hb
      obtain ⟨A', cap, rfl, _⟩ := a2.form
      obtain ⟨g, rfl, hg, hgl, hO⟩ := a2.own h0
      exact ⟨_, cap, w', a1, .inl (own_base hO hbase), ⟨a3.os, a3.tape, a3.output, a3.size, fun k hk _ => a3.block k hk⟩, fun b e => by cases e; exact .inr ⟨hg, hgl⟩⟩
    · obtain rfl : m = 0 := by omega
      rw [hs.empty]
      refine ⟨A0, 0, w, ?_, .inr ⟨A0, rfl, rfl, rfl⟩, World.grownBy.refl w _, fun b e => .inl e⟩
      cases A <;> cases A0 <;> simp [Builtin.append_, run_underlying ht, sizeOf, typeInfo, hi, Builtin.lenOf, Builtin.firstCells, storeCells] <;> rfl

theorem wp_app_rowB {w : World} {o : Oper} {a : Act} {K : Act → World → Prop} {Q : Exit → Act → World → Prop} (s x : Operand) (t : TypeId)
    (ho : o.op = .call { callee := .builtin .append, args := #[s, x], argTypes := #[t, t] })
    (base : Nat) (e : TypeId) (i : TypeInfo) (z : Value) (size bytes : Nat) (ht : P.underlying t = some (.slice e)) (hi : P.info? e = some i) (hz : i.zero = some z)
    (hsize : i.size = size) (hby : i.bytes = bytes) (hzs : z.cells.size = size) (hsz : 0 < size)
    (v : Value) (n : Nat) (xs : List Value) (hv : a.eval s = v) (hrow : Row w base e size v n xs)
    (A : Option Addr) (m c : Nat) (us : List Value) (hx : a.eval x = .slice A m c) (hs : Src w size A m us) (h1 : ∀ u ∈ us, u.oneCell' = true)
    (h63 : n + m ≤ maxLen) (hb : (n + m) * bytes ≤ 140737488355328) (hbase : base ≤ w.heap.size)
    (h : ∀ A' cap w', Row w' base e size (.slice A' (n + m) cap) (n + m) (xs ++ us) → w.grownBy w' v.ownBlock → (∀ b, (Value.slice A' (n + m) cap).ownBlock = some b → v.ownBlock = some b ∨ (w.heap.size ≤ b ∧ b < w'.heap.size)) → K (a.put o.dst (.slice A' (n + m) cap)) w') : o.wp P a w K Q := by
  obtain ⟨A', cap, w', hr, a2, a3, a4⟩ := run_app_rowB (P := P) w o.type ht hi hz hsize hby hzs hsz hrow c hs h1 h63 hb hbase
  unfold Oper.wp execOp
  simp only [ho, resolve, invoke, builtin, Sem.run_bind, Sem.run_pure, Result.andThen_ok, List.map_toArray, List.map_cons, List.map_nil, hv, hx, hr]
  exact h A' cap w' a2 a3 a4

/-- In a plain region. -/
theorem wpList_app_rowB {w : World} {ops : Array Oper} {rest : List Oper} {o : Oper} {a : Act} {Q : Exit → Act → World → Prop} (hgd : o.guard = none) (s x : Operand) (t : TypeId)
    (ho : o.op = .call { callee := .builtin .append, args := #[s, x], argTypes := #[t, t] })
    (base : Nat) (e : TypeId) (i : TypeInfo) (z : Value) (size bytes : Nat) (ht : P.underlying t = some (.slice e)) (hi : P.info? e = some i) (hz : i.zero = some z)
    (hsize : i.size = size) (hby : i.bytes = bytes) (hzs : z.cells.size = size) (hsz : 0 < size)
    (v : Value) (n : Nat) (xs : List Value) (hv : a.eval s = v) (hrow : Row w base e size v n xs)
    (A : Option Addr) (m c : Nat) (us : List Value) (hx : a.eval x = .slice A m c) (hs : Src w size A m us) (h1 : ∀ u ∈ us, u.oneCell' = true)
    (h63 : n + m ≤ maxLen) (hb : (n + m) * bytes ≤ 140737488355328) (hbase : base ≤ w.heap.size)
    (h : ∀ A' cap w', Row w' base e size (.slice A' (n + m) cap) (n + m) (xs ++ us) → w.grownBy w' v.ownBlock → (∀ b, (Value.slice A' (n + m) cap).ownBlock = some b → v.ownBlock = some b ∨ (w.heap.size ≤ b ∧ b < w'.heap.size)) → wpList P ops Q rest (a.put o.dst (.slice A' (n + m) cap)) w') : wpList P ops Q (o :: rest) a w :=
  wpList_plain hgd fun _ hK => wp_app_rowB s x t ho base e i z size bytes ht hi hz hsize hby hzs hsz v n xs hv hrow A m c us hx hs h1 h63 hb hbase fun A' cap w' b2 b3 b4 => hK _ _ (h A' cap w' b2 b3 b4)

end

theorem take13_absent {w : World} {G : Nat → Prop} {g : Nat} {nx : Int} {l : List (Int × List Int)} (h : Rf w G g nx l) (no : Int) (hk : ∀ p ∈ l, p.1 ≠ no) :
    Calls Try.prog 20 #[.pointer (some ⟨g, 0, none⟩), .int .i64 no] w fun e w' => e = .returned (.tuple #[.slice none 0 0, .int .i64 130]) ∧ w = w' := by
  go_enter Try.func20, Try.ntmps20
  go_wp2_with (go_at_call 33; refine (find_none h no hk).mono ?_; rintro e w' ⟨rfl, rfl⟩)
  go_ret2
  exact ⟨rfl, rfl⟩

theorem scells_erase (lv : List (Int × Value)) (j : Nat) : (scells lv).take (j * 2) ++ (scells lv).drop ((j + 1) * 2) = scells (lv.eraseIdx j) := by
  rw [scells_take, scells_drop, ← scells_append, ← List.eraseIdx_eq_take_drop_succ]

theorem take13_close {w w8 : World} {G : Nat → Prop} {g r c k8 j n8 : Nat} {nx : Int} {l : List (Int × List Int)} {A8 : Option Addr} {lv : List (Int × Value)} {v : Value} {bs : List Int} {us : List Value} (fg : G g)
    (hA : G r ∧ r ≠ g) (hB : w.heap[g]? = some (.cells #[.int .i64 nx, .slice (some ⟨r, 0, none⟩) l.length c] 59 (0, 0)))
    (hR : Rds w (fun b => G b ∧ b ≠ g ∧ (Value.slice (some ⟨r, 0, none⟩) l.length c).ownBlock ≠ some b) lv l) (hL : lv.length = l.length) (hjl : j < l.length)
    (hv : Rd w (fun b => G b ∧ b ≠ g ∧ (Value.slice (some ⟨r, 0, none⟩) l.length c).ownBlock ≠ some b) v bs)
    (T8 : Below w.heap.size w w8) (hn : n8 = j + (l.length - (j + 1))) (hu : us = [] ++ (scells lv).take (j * 2) ++ (scells lv).drop ((j + 1) * 2)) (hrow8 : Row w8 w.heap.size 61 2 (.slice A8 n8 k8) n8 us)
    (hat : ∀ b, (Value.slice A8 n8 k8).ownBlock = some b → w.heap.size ≤ b ∧ b < w8.heap.size) :
    Rd (w8.setCell ⟨g, 1, none⟩ (.slice A8 n8 k8)) G v bs ∧ RfStep w G g nx (l.eraseIdx j) (w8.setCell ⟨g, 1, none⟩ (.slice A8 n8 k8)) := by
  have hg := lt_of_block hB
  have z8 := T8.size
  have keep : ∀ b, b < w.heap.size → b ≠ g → (w8.setCell ⟨g, 1, none⟩ (.slice A8 n8 k8)).heap[b]? = w.heap[b]? := fun b hb hn => by
    rw [Below.heap_setCell _ _ _ _ hn]; exact T8.block b hb
  have hl8 : (lv.eraseIdx j).length = n8 := by rw [List.length_eraseIdx_of_lt (by omega)]; omega
  rw [List.nil_append, scells_erase] at hu
  refine ⟨hv.keep (by simpa using z8) (fun b hb _ => hb.1) fun b hb hlt => keep b hlt hb.2.1, fun b => G b ∨ (Value.slice A8 n8 k8).ownBlock = some b, ⟨.inl fg, .slice A8 n8 k8, lv.eraseIdx j, heap_setCell_same ((T8.block g hg).trans hB) _, ?_, fun b e => ⟨.inr e, by have := (hat b e).1; omega⟩, ?_⟩, fun b h => .inl h, fun b h => ?_, ?_⟩
  · rw [hl8, ← hu]
    have h0 : Row w8 0 61 2 (.slice A8 n8 k8) n8 us := by
      rcases hrow8 with h | h
      · exact .inl (own_base h (Nat.zero_le _))
      · exact .inr h
    exact h0.keep fun b e _ => Below.heap_setCell _ _ _ _ (show b ≠ g by have := (hat b e).1; omega)
  · refine Rds.erase j (hR.keep (by simpa using z8) (fun b hb hlt => ⟨.inl hb.1, hb.2.1, fun e => ?_⟩) fun b hb hlt => keep b hlt hb.2.1)
    have := (hat b e).1
    omega
  · rcases h with h | h
    · exact .inl h
    · exact .inr ⟨(hat b h).1, by simpa using (hat b h).2⟩
  · exact (Touch.of_below T8).setCell fg _

set_option maxHeartbeats 1000000 in
theorem take13_call {w : World} {G : Nat → Prop} {g : Nat} {nx : Int} {l : List (Int × List Int)} (h : Rf w G g nx l) (no : Int) (j : Nat) (bs : List Int) (hj : l[j]? = some (no, bs)) (hd : l.Pairwise fun p q => p.1 ≠ q.1) (hl8 : l.length ≤ 8) :
    Calls Try.prog 20 #[.pointer (some ⟨g, 0, none⟩), .int .i64 no] w fun e w' => ∃ A c, e = .returned (.tuple #[.slice A bs.length c, .int .i64 0]) ∧ Rd w' G (.slice A bs.length c) bs ∧ RfStep w G g nx (l.eraseIdx j) w' := by
  obtain ⟨A1, c, lv, hblk, _, c1, hc, hcm, hlen, hrow, hA, hrds, hcell⟩ := h.cells
  have hjl : j < l.length := (List.getElem?_eq_some_iff.1 hj).1
  obtain ⟨r, rfl, hr, hr2⟩ := hcell (by omega)
  obtain ⟨i0', hi0, hz0, hz1, hz2⟩ := info_parts info61
  obtain ⟨v, d0, d1, hlv, hrd⟩ := hr2 j no bs hj
  have hsv := hrd
  obtain ⟨Av, cv, rfl, _⟩ := hrd
  have i0 : (0 : Int) ≤ (j : Int) := Int.natCast_nonneg _
  have i1 : (j : Int) < (l.length : Int) := by omega
  have jc0 : (j : Int) ≤ (c : Int) := by omega
  have jc1 : (j : Int) + 1 ≤ (l.length : Int) := by omega
  have jc2 : (l.length : Int) ≤ (c : Int) := by omega
  have F := Lib.hid (find_some h no j bs hj hd)
  have HB := Lib.hid hblk
  have HR := Lib.hid hrds
  have HL := Lib.hid hlen
  have HV := Lib.hid hsv
  have HA := hA r rfl
  have hsr := hrow.src
  have hone := hrds.one
  have hg := lt_of_block hblk
  have fz : w.frozen? ⟨g, 1, none⟩ = false := by simp [World.frozen?, hblk]
  obtain ⟨A7, hA7, hsl7⟩ := slice_from2 Try.underlying57 hi0 hz1 r 0 l.length c (j + 1) (by omega) (by omega)
  have ecj : ((j + 1 : Nat) : Int) = (j : Int) + 1 := by omega
  rw [ecj] at hsl7
  have HA7 := Lib.hid hA7
  clear hr2 hcell hj hrow hA hblk hrds hlen hlv hsv ecj hA7
  go_enter Try.func20, Try.ntmps20
  go_wp2_with (first
    | (go_at_call 33; refine (F.out).mono ?_; rintro e w' ⟨rfl, rfl⟩)
    | (at_builtin; refine wpList_app_rowB rfl (.tmp 22) (.tmp 28) 57 rfl w.heap.size 61 i0' _ 2 32 Try.underlying57 hi0 hz0 hz1 hz2 rfl (by omega) (.slice (some ⟨w.heap.size, 0, none⟩) 0 0) 0 [] rfl (.inr ⟨_, rfl, rfl, rfl⟩) (some ⟨r, 0, none⟩) j c ((scells lv).take (j * 2)) rfl ((hsr.take2 (by omega)).below (fun ad e _ => by cases e; exact hr) ((Below.refl _ _).alloc (Nat.le_refl _) _)) (fun u hu => hone u (List.mem_of_mem_take hu)) (by unfold maxLen; omega) (by omega) (by simp) ?_; intro A6 k6 w6 hrow6 hgrow6 hat6
       have T6 : Below w.heap.size w w6 := by
          refine Below.grown (w := w.alloc (.cells #[] 61)) ((Below.refl _ _).alloc (Nat.le_refl _) _) hgrow6 (by simp) (fun b e => ?_)
          simp [Value.ownBlock] at e
          omega
       have x1 := (T6.cell (p := ⟨g, 1, none⟩) hg).trans c1
       have hat6' : ∀ b, (Value.slice A6 (0 + j) k6).ownBlock = some b → w.heap.size ≤ b ∧ b < w6.heap.size := fun b e => by
          have hz := hgrow6.size
          simp at hz
          rcases hat6 b e with h | h
          · simp [Value.ownBlock] at h
            omega
          · simp at h
            omega
       rw [Nat.zero_add] at hat6' hrow6
       have HAT6 := Lib.hid hat6'
       have HROW6 := Lib.hid hrow6
       have hz6 := T6.size
       clear hrow6 hgrow6 hat6 hat6')
    | (at_builtin; refine wpList_app_rowB rfl (.tmp 31) (.tmp 38) 57 rfl w.heap.size 61 i0' _ 2 32 Try.underlying57 hi0 hz0 hz1 hz2 rfl (by omega) (.slice A6 j k6) j _ rfl HROW6.out A7 (l.length - (j + 1)) (c - (j + 1)) ((scells lv).drop ((j + 1) * 2)) rfl ((hsr.drop2 (j + 1) (fun h => HA7.out h)).below (fun ad e h => by have := HA7.out (by omega); rw [this] at e; cases e; exact hr) T6) (fun u hu => hone u (List.mem_of_mem_drop hu)) (by unfold maxLen; omega) (by omega) hz6 ?_; intro A8 k8 w8 hrow8 hgrow8 hat8
       have T8 := Below.grown T6 hgrow8 hz6 (fun b e => (HAT6.out b e).1)
       have x8 := (T8.cell (p := ⟨g, 1, none⟩) hg).trans c1
       have y8 := (T8.frozen (p := ⟨g, 1, none⟩) hg).trans fz
       have hat8' : ∀ b, (Value.slice A8 (j + (l.length - (j + 1))) k8).ownBlock = some b → w.heap.size ≤ b ∧ b < w8.heap.size := fun b e => by
          have hz := hgrow8.size
          rcases hat8 b e with h | h
          · have := HAT6.out b h
            omega
          · omega
       have HAT8 := Lib.hid hat8'
       clear hgrow8 hat8 hat8'))
  go_ret2
  exact ⟨Av, cv, rfl, take13_close h.fg HA HB.out HR.out HL.out hjl HV.out T8 rfl rfl hrow8 HAT8.out⟩

theorem abort13_absent {w : World} {G : Nat → Prop} {g : Nat} {nx : Int} {l : List (Int × List Int)} (h : Rf w G g nx l) (no : Int) (hk : ∀ p ∈ l, p.1 ≠ no) :
    Calls Try.prog 22 #[.pointer (some ⟨g, 0, none⟩), .int .i64 no] w fun e w' => e = .returned (.int .i64 130) ∧ w = w' := by
  go_enter Try.func22, Try.ntmps22
  go_wp2_with (go_at_call 20; refine (take13_absent h no hk).mono ?_; rintro e w' ⟨rfl, rfl⟩)
  go_ret
  exact ⟨rfl, rfl⟩

theorem abort13_call {w : World} {G : Nat → Prop} {g : Nat} {nx : Int} {l : List (Int × List Int)} (h : Rf w G g nx l) (no : Int) (j : Nat) (bs : List Int) (hj : l[j]? = some (no, bs)) (hd : l.Pairwise fun p q => p.1 ≠ q.1) (hl8 : l.length ≤ 8) :
    Calls Try.prog 22 #[.pointer (some ⟨g, 0, none⟩), .int .i64 no] w fun e w' => e = .returned (.int .i64 0) ∧ RfStep w G g nx (l.eraseIdx j) w' := by
  go_enter Try.func22, Try.ntmps22
  go_wp2_with (go_at_call 20; refine (take13_call h no j bs hj hd hl8).mono ?_; rintro e w' ⟨A, c, rfl, _, hS⟩)
  go_ret
  exact ⟨rfl, hS⟩

/-- The law's count of eight. -/
theorem kind_call (n : Int) (w : World) (h1 : -9223372036854775808 ≤ n) (h2 : n ≤ 9223372036854775807) :
    Calls Try.prog 17 #[.int .i64 n] w fun e w' => (∃ k : Int, 0 ≤ k ∧ k ≤ 7 ∧ e = .returned (.int .i64 k)) ∧ w = w' := by
  by_cases h : n < 0
  · go_enter Try.func17, Try.ntmps17
    go_wp2
    go_ret
    have q := tdiv_lin (n + 1) 8 (by omega)
    have e := Int.tmod_add_mul_tdiv (n + 1) 8
    exact ⟨⟨_, by omega, by omega, rfl⟩, rfl⟩
  · go_enter Try.func17, Try.ntmps17
    go_wp2
    go_ret
    exact ⟨⟨_, by omega, by omega, rfl⟩, rfl⟩

end Go.Proofs.Ytjpkendpnpkbeaa
