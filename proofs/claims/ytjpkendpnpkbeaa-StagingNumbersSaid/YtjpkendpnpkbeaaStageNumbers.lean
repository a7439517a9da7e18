/- Proved: munimentlaw13.StagingNumbers returns true for every row of numbers, and leaves its argument as it was. Conditions: none beyond the given row's own. -/
import Derived.Test.YtjpkendpnpkbeaaStageShown
import Derived.Test.YtjpkendpnpkbeaaLaw
import Derived.Test.YtjpkendpnpkbeaaMem3
import Derived.Test.YtjpkendpnpkbeaaQuotaBox
import Derived.Deep.RegionHeld3
import Derived.Deep.DeepCutAuto
namespace Go.Proofs.Ytjpkendpnpkbeaa
open Go.RowKit

/-- A row of ints of the law's own (or a slice without room). -/
def ORow (w : World) (v : Value) (xs : List Int) : Prop := Row w 0 3 1 v xs.length (xs.map (Value.int .i64))

theorem ORow.keep {w w' : World} {v : Value} {xs : List Int} (h : ORow w v xs) (hk : ∀ b, v.ownBlock = some b → b < w.heap.size → w'.heap[b]? = w.heap[b]?) : ORow w' v xs := by
  rcases h with h | h
  · refine .inl ⟨h.1, ?_⟩
    rcases h.2 with h0 | ⟨g, cap, cur, rfl, a, b, c⟩
    · exact .inl h0
    · exact .inr ⟨g, cap, cur, rfl, a, (hk g rfl (Array.getElem?_eq_some_iff.1 b).1).trans b, c⟩
  · exact .inr h

theorem ORow.form {w : World} {v : Value} {xs : List Int} (h : ORow w v xs) : ∃ A cap, v = .slice A xs.length cap ∧ xs.length ≤ cap ∧ cap ≤ 9223372036854775807 ∧ (0 < xs.length → ∃ g, A = some ⟨g, 0, none⟩ ∧ g < w.heap.size ∧ ∀ k, k < xs.length → w.cell? ⟨g, k, none⟩ = some (.int .i64 (el xs k))) := by
  rcases h with h | ⟨A0, rfl, h0, _⟩
  · rcases h.2 with ⟨rfl, h0⟩ | ⟨g, cap, cur, rfl, _, hlt, hcap, hmax, _⟩
    · exact ⟨none, 0, by rw [h0], by omega, by omega, fun h1 => by omega⟩
    · refine ⟨_, cap, rfl, hcap, by unfold maxLen at hmax; exact hmax, fun _ => ⟨g, rfl, (Array.getElem?_eq_some_iff.1 hlt).1, fun k hk => ?_⟩⟩
      rw [h.cellAt k (by omega), List.getElem?_map, List.getElem?_eq_getElem hk]
      unfold el
      rw [List.getD_eq_getElem?_getD, List.getElem?_eq_getElem hk]
      rfl
  · exact ⟨A0, 0, by rw [h0], by omega, by omega, fun h1 => by omega⟩

/-- The sessions that are open: each empty. -/
def ses (os : List Int) : List (Int × List Int) := os.map fun n => (n, [])

theorem ses_snoc (os : List Int) (n : Int) : ses (os ++ [n]) = ses os ++ [(n, [])] := by simp [ses]

theorem find_ses {n : Int} : ∀ {os : List Int}, n ∈ os → ∃ r, (ses os).find? (fun p => p.1 == n) = some r ∧ r.2 = []
  | [], h => by cases h
  | o :: os, h => by
    by_cases e : o = n
    · exact ⟨(o, []), by simp [ses, e], rfl⟩
    · obtain ⟨r, h1, h2⟩ := find_ses (os := os) (n := n) (by rcases List.mem_cons.1 h with h | h; exact absurd h.symm e; exact h)
      exact ⟨r, by simpa [ses, e] using h1, h2⟩

/-- What the loop keeps: the sessions are those of 'open', in their order, each below 'next'. -/
def InvN (N : Nat) (w wr : World) (g B : Nat) (vO : Value) (nx : Int) (m : Nat) : Prop :=
  ∃ (F : Nat → Prop) (os : List Int), Stg wr F g B nx 0 (ses os) ∧ (∀ b, F b → N ≤ b ∧ b < wr.heap.size) ∧ ORow wr vO os ∧ (∀ b, vO.ownBlock = some b → N ≤ b ∧ ¬ F b) ∧
    os.length ≤ 8 ∧ os.Pairwise (· ≠ ·) ∧ (∀ n ∈ os, 0 ≤ n ∧ n < nx) ∧ 0 ≤ nx ∧ nx ≤ m ∧ Below N w wr ∧ N ≤ wr.heap.size

theorem cut_ses {j : Nat} : ∀ {os : List Int}, os.Pairwise (· ≠ ·) → ∀ (hj : j < os.length), cut (os[j]) (ses os) = ses (os.eraseIdx j) ∧ (∀ p ∈ ses (os.eraseIdx j), p.1 ≠ os[j])
  | [], _, hj => absurd hj (by simp)
  | o :: os, hp, hj => by
    obtain ⟨h1, h2⟩ := List.pairwise_cons.1 hp
    cases j with
    | zero =>
      refine ⟨by simp [ses, cut], fun p hp' => ?_⟩
      simp only [List.eraseIdx_cons_zero, ses, List.mem_map] at hp'
      obtain ⟨n, hn, rfl⟩ := hp'
      exact fun e => h1 n hn e.symm
    | succ j =>
      have hj' : j < os.length := by simpa using hj
      obtain ⟨a, b⟩ := cut_ses (j := j) h2 hj'
      have hne : ¬ os[j] = o := fun e => h1 _ (List.getElem_mem hj') e.symm
      refine ⟨?_, fun p hp' => ?_⟩
      · simp only [List.getElem_cons_succ, List.eraseIdx_cons_succ, ses, List.map_cons, cut]
        rw [if_neg hne]
        exact congrArg (List.cons _) a
      · simp only [List.eraseIdx_cons_succ, ses, List.map_cons, List.mem_cons] at hp'
        rcases hp' with rfl | hp'
        · simpa using fun e : o = os[j] => hne e.symm
        · simpa using b p hp'

theorem count_ses {w : World} {F : Nat → Prop} {g B : Nat} {nx by_ : Int} {os : List Int} (h : Stg w F g B nx by_ (ses os)) :
    Calls Try.prog 15 #[.pointer (some ⟨g, 0, none⟩)] w fun e w' => e = .returned (.int .i64 os.length) ∧ w = w' :=
  (count_call h).mono fun _ _ ⟨a, b⟩ => ⟨by rw [a]; simp [ses], b⟩

namespace stagingNumbers

theorem info3 : (Try.prog.info? 3).map (fun i => (i.zero, i.size, i.bytes)) = some (some (.int .i64 0), 1, 8) := by kernel_rfl

theorem orow_snoc {w : World} {v : Value} {os : List Int} {n : Int} (h : Row w 0 3 1 v (os.length + 1) (os.map (Value.int .i64) ++ [.int .i64 n])) : ORow w v (os ++ [n]) := by
  unfold ORow
  rw [List.length_append, List.map_append]
  exact h

/-- What 'open = append(append([]int{}, open[:k]...), open[k+1:]...)' leaves. -/
def Cut29 (w5 : World) (os : List Int) (j : Nat) (v : Value) (wx : World) : Prop := ORow wx v (os.eraseIdx j) ∧ (∀ b, v.ownBlock = some b → w5.heap.size ≤ b) ∧ Below w5.heap.size w5 wx

theorem ORow.src {w : World} {b cap : Nat} {xs : List Int} (h : ORow w (.slice (some ⟨b, 0, none⟩) xs.length cap) xs) : Src w 1 (some ⟨b, 0, none⟩) xs.length (xs.map (Value.int .i64)) := by
  refine ⟨by simp, fun h0 => ⟨_, rfl, fun i u hu => ?_⟩⟩
  obtain ⟨A, c, e, _, _, hf⟩ := h.form
  cases e
  obtain ⟨g, e2, _, hc⟩ := hf h0
  cases e2
  have hi : i < xs.length := by
    rcases Nat.lt_or_ge i xs.length with h1 | h1
    · exact h1
    · rw [List.getElem?_eq_none (by simpa using h1)] at hu; cases hu
  have hadd : (⟨b, 0, none⟩ : Addr).add i = ⟨b, i, none⟩ := by unfold Addr.add; split <;> simp_all
  rw [hadd, hc i hi]
  rw [List.getElem?_map, List.getElem?_eq_getElem hi] at hu
  cases hu
  unfold el
  rw [List.getD_eq_getElem?_getD, List.getElem?_eq_getElem hi]
  rfl

theorem inv_begin {N : Nat} {w wr w5 w6 : World} {g B : Nat} {F : Nat → Prop} {os : List Int} {vO v' : Value} {nx : Int} {m : Nat} (hF : ∀ b, F b → N ≤ b ∧ b < wr.heap.size) (hr : ORow wr vO os) (hd : ∀ b, vO.ownBlock = some b → N ≤ b ∧ ¬ F b)
    (l8 : os.length < 8) (hp : os.Pairwise (· ≠ ·)) (hm : ∀ n ∈ os, 0 ≤ n ∧ n < nx) (n0 : 0 ≤ nx) (nm : nx ≤ m) (T : Below N w wr) (hN : N ≤ wr.heap.size)
    (S5 : Stg w5 F g B (nx + 1) 0 (ses os ++ [(nx, [])])) (U5 : Touch F wr w5) (z5 : w5.heap.size = wr.heap.size) (o : Obj)
    (hown : Row w6 0 3 1 v' (os.length + 1) (os.map (Value.int .i64) ++ [.int .i64 nx])) (hg : (w5.alloc o).grownBy w6 vO.ownBlock) (hat : ∀ b, v'.ownBlock = some b → vO.ownBlock = some b ∨ (w5.alloc o).heap.size ≤ b) : InvN N w w6 g B v' (nx + 1) (m + 1) := by
  have T5 : Below N w w5 := T.trans (below_of_touch U5 (fun b hb => (hF b hb).1) hN)
  have hs := hg.size
  simp at hs
  have keep : ∀ b, b < w5.heap.size → vO.ownBlock ≠ some b → w6.heap[b]? = w5.heap[b]? := fun b hb hn => (hg.block b (by simp; omega) (fun e => hn e.symm)).trans (Below.heap_alloc _ _ _ hb)
  rw [← ses_snoc] at S5
  refine ⟨F, os ++ [nx], S5.keep fun b hb => keep b (by rw [z5]; exact (hF b hb).2) (fun e => (hd b e).2 hb), fun b hb => ⟨(hF b hb).1, by have := (hF b hb).2; omega⟩, orow_snoc hown, fun b e => ?_, by simp; omega, ?_, fun n hn => ?_, by omega, by omega,
    T5.trans ⟨hg.os, hg.tape, hg.output, by omega, fun b hb => keep b (by omega) (fun e => by have := (hd b e).1; omega)⟩, by omega⟩
  · rcases hat b e with h | h
    · exact hd b h
    · simp at h
      exact ⟨by omega, fun hf => by have := (hF _ hf).2; omega⟩
  · refine List.pairwise_append.2 ⟨hp, List.pairwise_singleton _ _, fun a ha b hb => ?_⟩
    simp at hb
    subst hb
    have := (hm a ha).2
    omega
  · rcases List.mem_append.1 hn with hn | hn
    · have := hm n hn
      omega
    · simp at hn
      omega

theorem cut29_of {w5 w8 W6 W8 : World} {os : List Int} {j : Nat} (hj : j < os.length) {A6 A8 : Option Addr} {k6 k8 n8 : Nat} (hn : n8 = j + (os.length - (j + 1)))
    (h8 : Row w8 w5.heap.size 3 1 (.slice A8 n8 k8) n8 ([] ++ (os.map (Value.int .i64)).take j ++ (os.map (Value.int .i64)).drop (j + 1)))
    (h6 : ∀ b, (Value.slice A6 j k6).ownBlock = some b → (Value.slice (some ⟨w5.heap.size, 0, none⟩) 0 0).ownBlock = some b ∨ W6.heap.size ≤ b) (e6 : w5.heap.size ≤ W6.heap.size)
    (h7 : ∀ b, (Value.slice A8 n8 k8).ownBlock = some b → (Value.slice A6 j k6).ownBlock = some b ∨ W8.heap.size ≤ b) (e8 : w5.heap.size ≤ W8.heap.size) (hb : Below w5.heap.size w5 w8) : Cut29 w5 os j (.slice A8 n8 k8) w8 := by
  have hl : (os.eraseIdx j).length = n8 := by rw [List.length_eraseIdx_of_lt hj]; omega
  have hx : [] ++ (os.map (Value.int .i64)).take j ++ (os.map (Value.int .i64)).drop (j + 1) = (os.eraseIdx j).map (Value.int .i64) := by
    rw [List.nil_append, ← List.eraseIdx_eq_take_drop_succ, map_erase]
  refine ⟨?_, fun b e => ?_, hb⟩
  · rw [hx, ← hl] at h8
    unfold ORow
    rw [hl] at h8 ⊢
    rcases h8 with h | h
    · exact .inl (own_base h (Nat.zero_le _))
    · exact .inr h
  · rcases h7 b e with h | h
    · rcases h6 b h with h | h
      · simp [Value.ownBlock] at h
        omega
      · omega
    · omega

theorem inv_take {N : Nat} {w wr w5 wx : World} {g B : Nat} {F : Nat → Prop} {os os' : List Int} {v A5 : Value} {nx : Int} {m j : Nat} (ho : os' = os.eraseIdx j) (hF : ∀ b, F b → N ≤ b ∧ b < wr.heap.size)
    (l8 : os.length ≤ 8) (hp : os.Pairwise (· ≠ ·)) (hm : ∀ n ∈ os, 0 ≤ n ∧ n < nx) (n0 : 0 ≤ nx) (nm : nx ≤ m) (T : Below N w wr) (hN : N ≤ wr.heap.size)
    (S5 : Stg wx (fun b => F b ∧ A5.ownBlock ≠ some b) g B nx 0 (ses os')) (U5 : Touch F wr w5)
    (hr : ORow wx v os') (hv : ∀ b, v.ownBlock = some b → w5.heap.size ≤ b) (hb : Below w5.heap.size w5 wx) : InvN N w wx g B v nx (m + 1) := by
  have z5 := U5.size
  have zx := hb.size
  have T5 : Below N w w5 := T.trans (below_of_touch U5 (fun b hb => (hF b hb).1) hN)
  refine ⟨_, os', S5, fun b h => ?_, hr, fun b e => ?_, ?_, ?_, fun n hn => ?_, n0, by omega, T5.trans (hb.mono (by omega)), by omega⟩
  · have := hF b h.1
    omega
  · have h1 := hv b e
    exact ⟨by omega, fun h => by have := hF b h.1; omega⟩
  · rw [ho]
    exact Nat.le_trans (List.length_eraseIdx_le os j) l8
  · rw [ho]
    exact hp.sublist (List.eraseIdx_sublist _ _)
  · rw [ho] at hn
    exact hm n (List.mem_of_mem_eraseIdx hn)

set_option maxRecDepth 100000 in
set_option maxHeartbeats 4000000 in
theorem walk (A1 : Option Addr) (c1 : Nat) (ls : List Int) (w : World) (ha : Ints w A1 ls) (hbd : ∀ j, -9223372036854775808 ≤ el ls j ∧ el ls j ≤ 9223372036854775807) :
    Calls Try.prog 5 #[.slice A1 ls.length c1] w fun e w' => e = .returned (.bool true) ∧ Below w.heap.size w w' := by
  have hla := ha.1
  have HBd := Lib.hid hbd
  clear hbd
  go_enter Try.func5, Try.ntmps5
  go_wp2_with fail
  refine (shown13_call _).mono ?_
  rintro e w1 ⟨rfl, B1⟩
  go_wp2_with fail
  refine (new_call _).mono ?_
  rintro e w2 ⟨rfl, B2, z2, S2⟩
  have hz1 := B1.size
  obtain ⟨g, hg⟩ : ∃ g, w1.heap.size + 1 = g := ⟨_, rfl⟩
  obtain ⟨B, hB⟩ : ∃ B, w1.heap.size = B := ⟨_, rfl⟩
  have F2 : ∀ b, (b = w1.heap.size ∨ b = w1.heap.size + 1) → w.heap.size ≤ b ∧ b < w2.heap.size := fun b hb => by omega
  obtain ⟨F, hF⟩ : ∃ F : Nat → Prop, F = fun b => b = w1.heap.size ∨ b = w1.heap.size + 1 := ⟨_, rfl⟩
  rw [← hF, hg, hB] at S2
  have T2 : Below w.heap.size w w2 := B1.trans (B2.mono hz1)
  have G2 : ∀ b, F b → w.heap.size ≤ b ∧ b < w2.heap.size := by rw [hF]; exact F2
  have hz2' := T2.size
  simp only [hg]
  clear hF F2 hg hB B1 B2 z2 hz1
  go_wp2
  go_loopw [5, 6, 7] (fun vO nx i wr => ∃ (k : Nat) (n : Int), i = .int .i64 k ∧ k ≤ 80 ∧ nx = .int .i64 n ∧ InvN w.heap.size w wr g B vO n k) (fun _ _ i _ => 80 - (intOf i).toNat)
  case atStart =>
    refine ⟨0, 0, rfl, by omega, rfl, F, [], (S2.keep fun b hb => Below.heap_alloc _ _ _ (G2 b hb).2), fun b hb => ?_, .inl (World.ownsRow_made w2 #[] 0 (Nat.zero_le _) (by decide) rfl), fun b e => ?_, by simp, List.Pairwise.nil, (fun n hn => by cases hn), by omega, by simp, by go_grown, by simp; omega⟩
    · have := G2 b hb
      simp; omega
    · simp [Value.ownBlock] at e
      subst e
      refine ⟨hz2', fun hf => ?_⟩
      have := G2 _ hf
      omega
  case round =>
    clear S2 T2 G2 hz2'
    obtain ⟨k, n, rfl, hk80, rfl, hI⟩ := hrel
    obtain ⟨vO, rfl⟩ : ∃ v : Value, v = u5 := ⟨_, rfl⟩
    obtain ⟨F, os, S, hF, hr, hd, l8, hp, hm, n0, nm, T, hN⟩ := hI
    obtain ⟨Ao, co, rfl, hcap, hcmax, hoc⟩ := hr.form
    have hsl : (ses os).length = os.length := by simp [ses]
    have HSL := Lib.hid hsl
    clear hsl
    by_cases hk : k < ls.length ∧ k < 80
    · obtain ⟨hk1, hk2⟩ := hk
      have t1 : decide (k < ls.length) = true := decide_eq_true hk1
      have t2 : decide ((k : Int) < 80) = true := decide_eq_true (by omega)
      have i0' : (0 : Int) ≤ (k : Int) := Int.natCast_nonneg _
      obtain ⟨bl, ol, rfl, hbl, hcl⟩ := ha.at_ (by omega)
      have hc := (T.cell (p := ⟨bl, ol + k, none⟩) hbl).trans (hcl k hk1)
      obtain ⟨x1, x2⟩ := HBd.out k
      have hq := tdiv_lin (el ls k) 3 (by omega)
      obtain ⟨R, hR⟩ : ∃ R, (el ls k).tmod 3 = R := ⟨_, rfl⟩
      have hRb : -3 < R ∧ R < 3 := by
        have := Int.tmod_add_mul_tdiv (el ls k) 3
        omega
      obtain ⟨r1, r2⟩ := hRb
      clear hcl hq
      by_cases hr3 : R = 0
      · have hb3 : (R != 0) = false := by rw [hr3]; rfl
        clear hr3
        by_cases hemp : os.length < 1
        · have e0 : ((os.length : Int) == 0) = true := by rw [beq_iff_eq]; omega
          go_wp2
          exact ⟨⟨k + 1, n, by go_num, by omega, rfl, F, os, S, hF, hr, hd, l8, hp, hm, n0, by omega, T, hN⟩, by simp [intOf]; omega⟩
        · have e0 : ((os.length : Int) == 0) = false := by rw [beq_eq_false_iff_ne]; omega
          have hq := tdiv_lin (el ls k) 3 (by omega)
          obtain ⟨D, hD⟩ : ∃ D, (el ls k).tdiv 3 = D := ⟨_, rfl⟩
          rw [hD] at hq
          have hDb : -3074457345618258603 ≤ D ∧ D ≤ 3074457345618258603 := by omega
          obtain ⟨D1, D2⟩ := hDb
          clear hq
          obtain ⟨ob, rfl, hobl, hcells⟩ := hoc (by omega)
          obtain ⟨K, hK0, hK⟩ : ∃ K : Int, 0 ≤ K ∧ (D < 0 ∧ K = -D ∨ 0 ≤ D ∧ K = D) := by
            by_cases h : D < 0
            · exact ⟨-D, by omega, .inl ⟨h, rfl⟩⟩
            · exact ⟨D, by omega, .inr ⟨by omega, rfl⟩⟩
          obtain ⟨j, hj⟩ : ∃ j : Nat, K % (os.length : Int) = (j : Int) := ⟨(K % (os.length : Int)).toNat, by have := Int.emod_nonneg K (b := (os.length : Int)) (by omega); omega⟩
          have hjl : j < os.length := by have := Int.emod_lt_of_pos K (b := (os.length : Int)) (by omega); omega
          have j0 : (0 : Int) ≤ (j : Int) := Int.natCast_nonneg _
          have j1 : (j : Int) < (os.length : Int) := by omega
          have hcj := hcells j hjl
          have hel : el os j = os[j] := by unfold el; rw [List.getD_eq_getElem?_getD, List.getElem?_eq_getElem hjl]; rfl
          obtain ⟨hc1, hc2⟩ := cut_ses hp hjl
          rw [← hel] at hc1 hc2
          have hmem : el os j ∈ os := by rw [hel]; exact List.getElem_mem hjl
          have HC1 := Lib.hid hc1
          have HC2 := Lib.hid hc2
          have HME := Lib.hid hmem
          clear hcells hel hc1 hc2 hmem
          have hneg : (D < 0 ∧ D.tmod (os.length : Int) = -(j : Int)) ∨ (0 ≤ D ∧ D % (os.length : Int) = (j : Int)) := by
            rcases hK with ⟨h, rfl⟩ | ⟨h, rfl⟩
            · refine .inl ⟨h, ?_⟩
              have h1 : (-D).tmod (os.length : Int) = (-D) % (os.length : Int) := Int.tmod_eq_emod_of_nonneg (by omega)
              rw [hj, Int.neg_tmod] at h1
              omega
            · exact .inr ⟨h, hj⟩
          clear hj hK hK0
          rcases hneg with ⟨hD0, hj⟩ | ⟨hD0, hj⟩
          all_goals
            go_wp2_with fail
            refine (take_call S (el os j) [] (find_ses HME.out) (by omega) (by omega) (by simp)).mono ?_
            rintro e w5 ⟨A5, k5, rfl, r5, f5, S5, U5, z5⟩
            have HZ5 := Lib.hid z5
            have e50 : (0 : Int) - (([] : List Int).length : Int) = 0 := rfl
            rw [HC1.out, e50] at S5
            have hcj5 : w5.cell? ⟨ob, j, none⟩ = some (.int .i64 (el os j)) := (World.cell?_of_block (U5.block ob hobl (hd ob rfl).2)).trans hcj
            clear z5 e50
            go_wp2_with fail
            refine (add_absent S5 (el os j) HC2.out none 0 0).mono ?_
            rintro e w' ⟨rfl, rfl⟩
            go_wp2_with fail
            refine (abort_absent S5 (el os j) HC2.out).mono ?_
            rintro e w' ⟨rfl, rfl⟩
            obtain ⟨i0, hi0, hz0, hz1, hz2⟩ := info_parts info3
            have hrow5 : ORow w5 (.slice (some ⟨ob, 0, none⟩) os.length co) os := hr.keep fun b e hlt => U5.block b hlt (hd b e).2
            have hsr : Src w5 1 (some ⟨ob, 0, none⟩) os.length (os.map (Value.int .i64)) := ORow.src hrow5
            have hobl5 : ob < w5.heap.size := Nat.lt_of_lt_of_le hobl U5.size
            have jc0 : (j : Int) ≤ (co : Int) := by omega
            have jc1 : (j : Int) + 1 ≤ (os.length : Int) := by omega
            have jc2 : (os.length : Int) ≤ (co : Int) := by omega
            have ew : IntKind.i64.wrap ((j : Int) + 1) = (j : Int) + 1 := IntWalk.i64_in _ (by omega)
            obtain ⟨A7, hA7, hsl7⟩ := slice_from Try.underlying43 hi0 hz1 ob 0 os.length co (j + 1) (by omega) (by omega)
            have ecj : ((j + 1 : Nat) : Int) = (j : Int) + 1 := by omega
            rw [ecj] at hsl7
            have HA7 := Lib.hid hA7
            clear ecj hA7
            have CLB : Hid (∀ W, Below w5.heap.size w5 W → Below w5.heap.size w5 W ∧ w5.heap.size ≤ W.heap.size) := fun W h => ⟨h, h.size⟩
            go_upto_region 29 with fail
            go_cut [5] (fun v wx => Cut29 w5 os j v wx)
            case first =>
              go_region_held3 (fun w' => Below w5.heap.size w5 w' ∧ w5.heap.size ≤ w'.heap.size)
                (first | exact CLB.out _ ((Below.refl _ _).drew) | (go_split_ands; refine CLB.out _ ?_; first | assumption | (go_grown; done)))
                (first
                  | (go_split_ands; (refine step_app_row rfl (.tmp 109) (.tmp 112) 43 rfl w5.heap.size 3 i0 _ 1 8 Try.underlying43 hi0 hz0 hz1 hz2 rfl (by omega) (.slice (some ⟨w5.heap.size, 0, none⟩) 0 0) 0 [] rfl (.inr ⟨_, rfl, rfl, rfl⟩) (some ⟨ob, 0, none⟩) j co ((os.map (Value.int .i64)).take j) rfl ((hsr.take (by omega)).below (fun ad e _ => by cases e; exact hobl5) (by assumption)) (fun u hu => ints_one os u (List.mem_of_mem_take hu)) (by unfold maxLen; omega) (by omega) (by assumption) ?_); intro A6 k6 w6 hrow6 hgrow6 hat6; have hs6 := CLB.out _ (Below.grown (by assumption) hgrow6 (by assumption) (fun b e => by simp [Value.ownBlock] at e; omega))
                     go_split_ands)
                  | (go_split_ands; (refine step_app_row rfl (.tmp 113) (.tmp 117) 43 rfl w5.heap.size 3 i0 _ 1 8 Try.underlying43 hi0 hz0 hz1 hz2 rfl (by omega) (.slice A6 (0 + j) k6) (0 + j) _ (by simp [Act.eval]) hrow6 A7 (os.length - (j + 1)) (co - (j + 1)) ((os.map (Value.int .i64)).drop (j + 1)) rfl ((hsr.drop (j + 1) (fun h => HA7.out h)).below (fun ad e h => by have := HA7.out (by omega); rw [this] at e; cases e; exact hobl5) (by assumption)) (fun u hu => ints_one os u (List.mem_of_mem_drop hu)) (by unfold maxLen; omega) (by omega) (by assumption) ?_); intro A8 k8 w8 hrow8 hgrow8 hat8; have hs8 := CLB.out _ (Below.grown (by assumption) hgrow8 (by assumption) (fun b e => by rcases hat6 b e with h | h; simp [Value.ownBlock] at h; omega; simp at h; omega))
                     go_split_ands))
              all_goals (go_wp2_with fail; go_meet)
              all_goals
                go_split_ands
                simp only [Nat.zero_add] at hrow8 hat6 hat8
                exact cut29_of hjl (by omega) hrow8 hat6 (by first | omega | (simp; done) | (simp; omega)) hat8 (by first | omega | (simp; done) | (simp; omega)) (by assumption)
            case rest =>
            obtain ⟨vX, rfl⟩ : ∃ v : Value, v = u5 := ⟨_, rfl⟩
            obtain ⟨wq, rfl⟩ : ∃ w' : World, w' = wc := ⟨_, rfl⟩
            obtain ⟨os', hos'⟩ : ∃ l : List Int, l = os.eraseIdx j := ⟨_, rfl⟩
            obtain ⟨hr', hv', hb'⟩ := hcut
            rw [← hos'] at hr' S5
            have HO := Lib.hid hos'
            obtain ⟨Ao', co', rfl, _⟩ := hr'.form
            have hI := inv_take HO.out hF l8 hp hm n0 nm T hN (S5.keep fun b hb => hb'.block b (Nat.lt_of_lt_of_le (hF b hb.1).2 U5.size)) U5 hr' hv' hb'
            have hcount := count_ses (S5.keep fun b hb => hb'.block b (Nat.lt_of_lt_of_le (hF b hb.1).2 U5.size))
            clear hos' hr' hv' hb' S5 hsr hrow5 hsl7 hcj5 hcj hj ew
            go_wp2_with (go_at_call 15; refine hcount.mono ?_; rintro e w' ⟨rfl, rfl⟩)
            exact ⟨⟨k + 1, n, by go_num, by omega, rfl, hI⟩, by simp [intOf]; omega⟩
      · have hb3 : (R != 0) = true := by rw [bne_iff_ne]; exact hr3
        clear hr3
        by_cases h8 : 8 ≤ os.length
        · have u8 : decide ((os.length : Int) < 8) = false := decide_eq_false (by omega)
          go_wp2_with (go_at_call 12; refine (begin_full S (by rw [HSL.out]; omega)).mono ?_; rintro e w5 ⟨rfl, rfl⟩)
          exact ⟨⟨k + 1, n, by go_num, by omega, rfl, F, os, S, hF, hr, hd, l8, hp, hm, n0, by omega, T, hN⟩, by simp [intOf]; omega⟩
        · have u8 : decide ((os.length : Int) < 8) = true := decide_eq_true (by omega)
          have hnn : (n != n) = false := by simp
          have hfresh : ∀ p ∈ ses os, p.1 ≠ n := fun p hp' => by
            obtain ⟨q, hq, rfl⟩ := List.mem_map.1 hp'
            have := (hm q hq).2
            simp only
            omega
          obtain ⟨i0, hi0, hz0, hz1, hz2⟩ := info_parts info3
          go_wp2_with (first
            | (go_at_call 12; refine (begin_call S (by rw [HSL.out]; omega) hfresh n0 (by omega)).mono ?_; rintro e w5 ⟨rfl, S5, U5, z5⟩; have HZ5 := Lib.hid z5; clear z5; have hrow5 : ORow w5 (.slice Ao os.length co) os := hr.keep fun b e hlt => U5.block b hlt (hd b e).2)
            | (at_builtin; refine wpList_app_row rfl (.tmp 58) (.tmp 60) 43 rfl 0 3 i0 _ 1 8 Try.underlying43 hi0 hz0 hz1 hz2 rfl (by omega) (.slice Ao os.length co) os.length (os.map (Value.int .i64)) rfl (hrow5.keep fun b _ hlt => Below.heap_alloc _ _ _ hlt) (some ⟨w5.heap.size, 0, none⟩) 1 1 [.int .i64 n] rfl (src_new1 _ _ _) (by simp [Value.oneCell']) (by unfold maxLen; omega) (by omega) (Nat.zero_le _) ?_; intro A6 k6 w6 hown6 hgrow6 hat6))
          exact ⟨⟨k + 1, n + 1, by go_num, by omega, rfl, inv_begin hF hr hd (by omega) hp hm n0 nm T hN S5 U5 HZ5.out _ hown6 hgrow6 hat6⟩, by simp [intOf]; omega⟩
    · have t12 : decide (k < ls.length) = false ∨ decide (k < ls.length) = true ∧ decide ((k : Int) < 80) = false := by
        by_cases h1 : k < ls.length
        · exact .inr ⟨decide_eq_true h1, decide_eq_false (fun h => hk ⟨h1, by omega⟩)⟩
        · exact .inl (decide_eq_false h1)
      clear hk
      rcases t12 with t1 | ⟨t1, t2⟩
      all_goals
        go_wp2_with (go_at_call 15; refine (count_call S).mono ?_; rintro e w5 ⟨rfl, rfl⟩)
        go_ret
        exact ⟨ret_bool (by rw [HSL.out]; simp), T⟩

section
open Go.ChangeShapes Go.WideShapes Go.ChangeAt Go.Deep
variable {H : Type} {enc : TypeId × Value → H}

theorem open_43 {W : World} {v : Value} {d : DataW H} {p : List MemPlace} {base : Nat} (hv : Value.okWide Try.prog W .any base 43 v) (h : DataW.Trod enc Try.prog W 0 (fun _ => true) true 43 v d p) :
    ∃ A c xs, v = .slice A xs.length c ∧ Ints W A xs ∧ (∀ j, -9223372036854775808 ≤ el xs j ∧ el xs j ≤ 9223372036854775807) := by
  obtain ⟨a0, len0, cap0, rfl⟩ := okWide_slice Try.underlying43 hv
  obtain ⟨fuel, hf⟩ := h
  have hf' : DataW.trod enc Try.prog W 0 (fun _ => true) true fuel 43 [.slice a0 len0 cap0] = some (d, p) := by simpa [Value.cells] using hf
  obtain ⟨A, c, xs, e, h1, h2, _⟩ := open_Ints hf'
  exact ⟨A, c, xs, e, h1, h2⟩

theorem own : ownKnob Try.prog.godebug = none := by kernel_rfl
theorem laidOut : laidOutB Try.prog = true := by kernel_rfl

set_option maxRecDepth 100000 in
theorem lifted (os : Os) (started : os.Started) (H : Type) (enc : TypeId × Value → H) :
    ReturnsInHanded {} Try.checked os 5 .any (fun w args => Rows.stagingNumbersSpec.pre6 enc Try.prog Try.f5 Rows.stagingNumbersRow.domain false w args) (Rows.stagingNumbersSpec.post enc Try.prog Try.f5 false true false false) := by
  refine returnsInHanded_of_change_sized (C := Try.checked) own started (by kernel_rfl) Try.func5
    (ChangeSpec.witness6 (enc := enc) (C := Try.checked) false ⟨#[], #[.slice none 0 0], []⟩ 8 (by kernel_rfl) (by kernel_rfl) (by kernel_rfl) (by kernel_rfl)) ?_
  intro W base args ds gs before hval0 hW hcnd hsz _
  have hval : ∀ (j : Nat) t v, Try.f5.params[j]? = some t → args[j]? = some v → Value.okWide Try.prog W .any base t v := hval0
  have hW' := hW
  obtain ⟨p, q, hA0, hV, rfl, hfz, hnd⟩ := hW
  have hA : DataW.TrodAll enc Try.prog W 0 (fun _ => true) true Try.f5.params.toList args.toList ds p := hA0
  rw [Try.params5] at hA hval
  obtain ⟨v0, d0, rfl, rfl, h0⟩ := trodAll_one hA
  obtain ⟨rfl, rfl⟩ := trodVars_none hV
  obtain ⟨A1, c1, ls, rfl, ha, hbd⟩ := open_43 (hval 0 43 v0 rfl rfl) h0
  clear hA0 hval0 hA hsz
  refine (walk A1 c1 ls W ha hbd).mono fun e W' ⟨he, hg⟩ => ?_
  subst he
  exact ⟨_, rfl, law_post laidOut Try.underlying4 (by kernel_rfl) rfl (by kernel_rfl) hW' rfl hg⟩

theorem proved : Rows.StagingNumbersSaid :=
  OpenClaim.holds_of_wide 5 Try.f5 rfl rfl rfl rfl rfl rfl rfl ⟨rfl, rfl, rfl, rfl, rfl⟩ rfl rfl rfl rfl rfl (by kernel_rfl) Try.func5 (by kernel_rfl)
    (of_decide_eq_true (by kernel_rfl)) (by unfold Func.isWrapper; first | (rw [if_pos (by decide +kernel)]; kernel_rfl) | (rw [if_neg (by decide +kernel)]; exact ⟨rfl, rfl⟩))
    (fun os started H enc _ => lifted os started H enc)
#print axioms proved
end
end stagingNumbers
end Go.Proofs.Ytjpkendpnpkbeaa
