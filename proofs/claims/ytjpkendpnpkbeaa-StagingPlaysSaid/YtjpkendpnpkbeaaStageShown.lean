/- The document's first example of staging holds. -/
import Derived.Test.YtjpkendpnpkbeaaStage
import Derived.Laws.BytesArg
import Derived.Lib.SlBytesConst
namespace Go.Proofs.Ytjpkendpnpkbeaa
open Go.RowKit

theorem below_of_touch {F : Nat → Prop} {n : Nat} {w w' : World} (h : Touch F w w') (hF : ∀ b, F b → n ≤ b) (hn : n ≤ w.heap.size) : Below n w w' :=
  ⟨h.os, h.tape, h.output, h.size, fun k hk => h.block k (by omega) (fun hf => by have := hF k hf; omega)⟩

/-- A stage all of whose blocks lie from n on. -/
def StgN (n : Nat) (w : World) (g B : Nat) (nx by_ : Int) (l : List (Int × List Int)) : Prop := ∃ F : Nat → Prop, Stg w F g B nx by_ l ∧ (∀ b, F b → n ≤ b) ∧ n ≤ w.heap.size ∧ ∀ b, F b → b < w.heap.size

theorem StgN.alloc {n : Nat} {w : World} {g B : Nat} {nx by_ : Int} {l : List (Int × List Int)} (h : StgN n w g B nx by_ l) (o : Obj) : StgN n (w.alloc o) g B nx by_ l := by
  obtain ⟨F, hS, h1, h2, h3⟩ := h
  exact ⟨F, hS.keep fun b hb => Below.heap_alloc w o b (h3 b hb), h1, by simp; omega, fun b hb => by have := h3 b hb; simp; omega⟩

theorem newN_call (w : World) : Calls Try.prog 11 #[] w fun e w' => e = .returned (.pointer (some ⟨w.heap.size + 1, 0, none⟩)) ∧ Below w.heap.size w w' ∧ StgN w.heap.size w' (w.heap.size + 1) w.heap.size 0 0 [] :=
  (new_call w).mono fun _ _ ⟨a, b, c, d⟩ => ⟨a, b, _, d, fun b hb => by rcases hb with rfl | rfl <;> omega, by omega, fun b hb => by rcases hb with rfl | rfl <;> omega⟩

theorem beginN_call {n : Nat} {w : World} {g B : Nat} {nx by_ : Int} {l : List (Int × List Int)} (h : StgN n w g B nx by_ l) (h8 : l.length ≠ 8) (hk : ∀ p ∈ l, p.1 ≠ nx) (h0 : 0 ≤ nx) (h1 : nx ≤ 4611686018427387904) :
    Calls Try.prog 12 #[.pointer (some ⟨g, 0, none⟩)] w fun e w' => e = .returned (.tuple #[.int .i64 nx, .int .i64 0]) ∧ StgN n w' g B (nx + 1) by_ (l ++ [(nx, [])]) ∧ Below n w w' := by
  obtain ⟨F, hS, hF, hn, hlt⟩ := h
  exact (begin_call hS h8 hk h0 h1).mono fun _ _ ⟨a, b, c, d⟩ => ⟨a, ⟨F, b, hF, by omega, fun b hb => by rw [d]; exact hlt b hb⟩, below_of_touch c hF hn⟩

theorem addN_call {n : Nat} {w : World} {g B : Nat} {nx by_ : Int} {l : List (Int × List Int)} (h : StgN n w g B nx by_ l) (k : Int) (bs : List Int) (hl : ∃ r, l.find? (fun p => p.1 == k) = some r ∧ r.2 = bs)
    (A : Option Addr) (c : Nat) (ys : List Int) (hs : Src w 1 A ys.length (u8s ys)) (h0 : 0 ≤ by_) (h2 : bs.length + ys.length ≤ 512) (h1 : by_ + ys.length ≤ 2048) :
    Calls Try.prog 13 #[.pointer (some ⟨g, 0, none⟩), .int .i64 k, .slice A ys.length c] w fun e w' => e = .returned (.int .i64 0) ∧ StgN n w' g B nx (by_ + ys.length) (upd k (bs ++ ys) l) ∧ Below n w w' := by
  obtain ⟨F, hS, hF, hn, hlt⟩ := h
  refine (add_call hS k bs hl A c ys hs h0 h2 h1).mono fun _ w' ⟨a, F', b, c, d, t⟩ => ⟨a, ⟨F', b, fun b hb => ?_, Nat.le_trans hn t.size, fun b hb => ?_⟩, below_of_touch t hF hn⟩
  · rcases d b hb with h3 | h3
    · exact hF b h3
    · omega
  · rcases d b hb with h3 | h3
    · exact Nat.lt_of_lt_of_le (hlt b h3) t.size
    · exact h3.2

theorem takeN_call {n : Nat} {w : World} {g B : Nat} {nx by_ : Int} {l : List (Int × List Int)} (h : StgN n w g B nx by_ l) (k : Int) (bs : List Int) (hl : ∃ r, l.find? (fun p => p.1 == k) = some r ∧ r.2 = bs)
    (h0 : 0 ≤ by_) (h1 : by_ ≤ 2048) (h2 : bs.length ≤ 2048) :
    Calls Try.prog 14 #[.pointer (some ⟨g, 0, none⟩), .int .i64 k] w fun e w' => ∃ A cap, e = .returned (.tuple #[.slice A bs.length cap, .int .i64 0]) ∧ BRow w' (.slice A bs.length cap) bs ∧ StgN n w' g B nx (by_ - bs.length) (cut k l) ∧ Below n w w' := by
  obtain ⟨F, hS, hF, hn, hlt⟩ := h
  exact (take_call hS k bs hl h0 h1 h2).mono fun _ w' ⟨A, cap, a, b, _, c, t, z⟩ => ⟨A, cap, a, b, ⟨_, c, fun b hb => hF b hb.1, by omega, fun b hb => by rw [z]; exact hlt b hb.1⟩, below_of_touch t hF hn⟩

theorem takeN_absent {n : Nat} {w : World} {g B : Nat} {nx by_ : Int} {l : List (Int × List Int)} (h : StgN n w g B nx by_ l) (k : Int) (hk : ∀ p ∈ l, p.1 ≠ k) :
    Calls Try.prog 14 #[.pointer (some ⟨g, 0, none⟩), .int .i64 k] w fun e w' => e = .returned (.tuple #[.slice none 0 0, .int .i64 130]) ∧ w = w' := by
  obtain ⟨F, hS, _⟩ := h
  exact take_absent hS k hk

theorem countN_call {n : Nat} {w : World} {g B : Nat} {nx by_ : Int} {l : List (Int × List Int)} (h : StgN n w g B nx by_ l) : Calls Try.prog 15 #[.pointer (some ⟨g, 0, none⟩)] w fun e w' => e = .returned (.int .i64 l.length) ∧ w = w' := by
  obtain ⟨F, hS, _⟩ := h
  exact count_call hS

/-- A row of bytes as a string. -/
theorem brow_str {w : World} {A : Option Addr} {m cap : Nat} {bs : List Int} (h : BRow w (.slice A m cap) bs) (hm : m = bs.length) : (convert 29 9 (.slice A m cap)).run Try.prog w = .ok (.string (strOfNums bs)) w := by
  subst hm
  rcases h.2 with ⟨e, h0⟩ | ⟨g, cap', cur, e, _⟩
  · have hb : bs = [] := List.eq_nil_of_length_eq_zero h0
    subst hb
    cases e
    exact run_convert_bytes_nil w 29 5 Try.underlying29 Try.underlying5 _ _ 9 Try.underlying9
  · cases e
    refine run_convert_bytes_arg w 29 5 Try.underlying29 Try.underlying5 g 0 _ _ bs rfl (fun i hi => ?_) 9 Try.underlying9
    have h1 : w.ownsRow 0 5 1 (.slice (some ⟨g, 0, none⟩) bs.length cap) bs.length (u8s bs) := h
    rw [Nat.zero_add, h1.cellAt i (by omega)]
    unfold u8s
    rw [List.getElem?_map, List.getElem?_eq_getElem hi, List.getD_eq_getElem?_getD, List.getElem?_eq_getElem hi]
    rfl

theorem src_new {w : World} (us : List Value) (t : TypeId) (fr : Nat × Nat) : Src (w.alloc (.cells us.toArray t fr)) 1 (some ⟨w.heap.size, 0, none⟩) us.length us :=
  ⟨by simp, fun _ => ⟨_, rfl, fun j v hv => by
    have hadd : (⟨w.heap.size, 0, none⟩ : Addr).add j = ⟨w.heap.size, j, none⟩ := by unfold Addr.add; split <;> simp_all
    rw [hadd, cell_of_row _ _ j _ _ _ (heap_alloc_new w _)]
    simpa using hv⟩⟩

set_option maxRecDepth 100000 in
set_option maxHeartbeats 1000000 in
theorem shown13_call (w : World) : Calls Try.prog 10 #[] w fun e w' => e = .returned (.bool true) ∧ Below w.heap.size w w' := by
  have hcs := fun (w : World) (C : Array Value) (n c : Nat) => Lib.run_convert_bytes_const (P := Try.prog) w 29 5 C n c Try.underlying29 Try.underlying5
  go_enter Try.func10, Try.ntmps10
  go_wp2_with fail
  refine (newN_call w).mono ?_
  rintro e w1 ⟨rfl, B1, S1⟩
  go_wp2_with fail
  refine (beginN_call S1 (by decide) (by simp) (by omega) (by omega)).mono ?_
  rintro e w2 ⟨rfl, S2, B2⟩
  go_wp2_with fail
  refine (beginN_call S2 (by decide) (by simp) (by omega) (by omega)).mono ?_
  rintro e w3 ⟨rfl, S3, B3⟩
  have T3 : Below w.heap.size w w3 := (B1.trans B2).trans B3
  have hz : w.heap.size ≤ w3.heap.size := T3.size
  go_wp2_with fail
  refine (addN_call (S3.alloc _) 0 [] ⟨(0, []), rfl, rfl⟩ _ 2 [97, 98] (src_new [.int .u8 97, .int .u8 98] 5 _) (by omega) (by simp) (by simp)).mono ?_
  rintro e w4 ⟨rfl, S4, B4⟩
  have T4 : Below w.heap.size w w4 := (T3.alloc hz _).trans B4
  have hz4 : w.heap.size ≤ w4.heap.size := T4.size
  clear B1 B2 B3 B4 S1 S2 S3 T3
  go_wp2_with fail
  refine (addN_call (S4.alloc _) 0 [97, 98] ⟨(0, [97, 98]), rfl, rfl⟩ _ 1 [99] (src_new [.int .u8 99] 5 _) (by simp) (by simp) (by simp)).mono ?_
  rintro e w5 ⟨rfl, S5, B5⟩
  have T5 : Below w.heap.size w w5 := (T4.alloc hz4 _).trans B5
  clear T4 B5 S4
  go_wp2_with fail
  refine (takeN_call S5 0 [97, 98, 99] ⟨(0, [97, 98, 99]), rfl, rfl⟩ (by simp) (by simp) (by simp)).mono ?_
  rintro e w6 ⟨A, cap, rfl, hr6, S6, B6⟩
  have T6 : Below w.heap.size w w6 := T5.trans B6
  have hstr : strOfNums [97, 98, 99] = ⟨#[97, 98, 99]⟩ := by decide
  have hconv : (convert 29 9 (.slice A 3 cap)).run Try.prog w6 = .ok (.string ⟨#[97, 98, 99]⟩) w6 := by rw [← hstr]; exact brow_str hr6 rfl
  clear T5 B6 S5 hstr
  go_wp2_with fail
  refine (takeN_absent S6 0 (by decide)).mono ?_
  rintro e w' ⟨rfl, rfl⟩
  go_wp2_with fail
  refine (countN_call S6).mono ?_
  rintro e w' ⟨rfl, rfl⟩
  go_wp2_with fail
  go_ret
  exact ⟨rfl, T6⟩
end Go.Proofs.Ytjpkendpnpkbeaa
