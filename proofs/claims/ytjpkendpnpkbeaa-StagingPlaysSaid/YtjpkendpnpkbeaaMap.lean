/- Maps with int keys, entry by entry: what a lookup, an update, a delete and len do. -/
import Derived.Test.YtjpkendpnpkbeaaMem2
import Derived.MapKept
namespace Go.Proofs.Ytjpkendpnpkbeaa
open Go.RowKit

/-- Block B is a map whose entries are, in their order, the pairs l. -/
def IMap (w : World) (B : Nat) (l : List (Int × Value)) : Prop :=
  ∃ es clock, w.heap[B]? = some (.map es clock) ∧ es.toList.map (fun e => (e.key, e.val)) = l.map (fun p => (Value.int .i64 p.1, p.2))

/-- The place of a key. -/
def findAt (k : Int) : List (Int × Value) → Nat → Option (Nat × Value)
  | [], _ => none
  | p :: r, i => if k = p.1 then some (i, p.2) else findAt k r (i + 1)

theorem IMap.of_heap {w w' : World} {B : Nat} {l : List (Int × Value)} (h : IMap w B l) (hb : w'.heap[B]? = w.heap[B]?) : IMap w' B l := by
  obtain ⟨es, c, h1, h2⟩ := h
  exact ⟨es, c, hb.trans h1, h2⟩

theorem IMap.lt {w : World} {B : Nat} {l : List (Int × Value)} (h : IMap w B l) : B < w.heap.size := by
  obtain ⟨_, _, h1, _⟩ := h
  exact (Array.getElem?_eq_some_iff.1 h1).1

theorem findNow_int (k : Int) : ∀ (es : List MapEntry) (l : List (Int × Value)) (i : Nat), es.map (fun e => (e.key, e.val)) = l.map (fun p => (Value.int .i64 p.1, p.2)) →
    Instr.findNow (.int .i64) (.int .i64 k) es i = some (findAt k l i)
  | [], [], _, _ => rfl
  | [], _ :: _, _, h => by simp at h
  | _ :: _, [], _, h => by simp at h
  | e :: es, p :: l, i, h => by
    simp only [List.map_cons, List.cons.injEq, Prod.mk.injEq] at h
    obtain ⟨⟨h1, h2⟩, h3⟩ := h
    have ih := findNow_int k es l (i + 1) h3
    by_cases hk : k = p.1
    · simp [Instr.findNow, Instr.sameNow, h1, h2, findAt, hk]
    · have hb : (k == p.1) = false := by simp [hk]
      simp [Instr.findNow, Instr.sameNow, h1, findAt, hk, ih, hb]

def putAt (k : Int) (v : Value) : List (Int × Value) → List (Int × Value)
  | [] => [(k, v)]
  | p :: r => if k = p.1 then (k, v) :: r else p :: putAt k v r

def delAt (k : Int) : List (Int × Value) → List (Int × Value)
  | [] => []
  | p :: r => if k = p.1 then r else p :: delAt k r

theorem findAt_none {k : Int} {v : Value} : ∀ {l : List (Int × Value)} {i : Nat}, findAt k l i = none → putAt k v l = l ++ [(k, v)] ∧ delAt k l = l ∧ ∀ p ∈ l, p.1 ≠ k
  | [], _, _ => ⟨rfl, rfl, fun _ h => by cases h⟩
  | p :: r, i, h => by
    unfold findAt at h
    by_cases hk : k = p.1
    · rw [if_pos hk] at h; cases h
    · rw [if_neg hk] at h
      obtain ⟨h1, h2, h3⟩ := findAt_none (k := k) (v := v) h
      refine ⟨by simp [putAt, hk, h1], by simp [delAt, hk, h2], fun q hq => ?_⟩
      rcases List.mem_cons.1 hq with rfl | hq
      · exact fun e => hk e.symm
      · exact h3 q hq

theorem findAt_some {k : Int} {v u : Value} : ∀ {l : List (Int × Value)} {i j : Nat}, findAt k l i = some (j, u) → ∃ n, j = i + n ∧ l[n]? = some (k, u) ∧ putAt k v l = l.set n (k, v) ∧ delAt k l = l.eraseIdx n
  | [], _, _, h => by cases h
  | p :: r, i, j, h => by
    unfold findAt at h
    by_cases hk : k = p.1
    · rw [if_pos hk] at h
      cases h
      obtain ⟨p1, p2⟩ := p
      simp only at hk
      subst hk
      exact ⟨0, rfl, rfl, by simp [putAt], by simp [delAt]⟩
    · rw [if_neg hk] at h
      obtain ⟨n, h1, h2, h3, h4⟩ := findAt_some (k := k) (v := v) h
      exact ⟨n + 1, by omega, by simpa using h2, by simp [putAt, hk, h3], by simp [delAt, hk, h4]⟩

theorem map_erase {α β : Type} (f : α → β) : ∀ (l : List α) (i : Nat), (l.eraseIdx i).map f = (l.map f).eraseIdx i
  | [], _ => by simp
  | a :: l, 0 => by simp
  | a :: l, i + 1 => by simp [map_erase f l i]

/-- The world with another map in block B. -/
def setMap (w : World) (B : Nat) (o : Obj) : World := { w with heap := w.heap.setIfInBounds B o }

theorem setMap_grown (w : World) (B : Nat) (o : Obj) : w.grownBy (setMap w B o) (some B) :=
  ⟨rfl, rfl, rfl, by simp [setMap], fun k _ hne => by
    unfold setMap
    simp only []
    rw [Array.getElem?_setIfInBounds_ne (fun e => hne (by rw [e]))]⟩

theorem setMap_size (w : World) (B : Nat) (o : Obj) : (setMap w B o).heap.size = w.heap.size := by simp [setMap]

section
variable {P : Program} {t kt et : TypeId} (ht : P.underlying t = some (.map kt et)) (hk : P.underlying kt = some (.int .i64))
include ht hk

theorem run_ilookup {w : World} {B : Nat} {l : List (Int × Value)} (h : IMap w B l) (k : Int) (z : Value) (hz : (zeroValue et).run P w = .ok z w) :
    (Instr.lookup t (.map (some B)) (.int .i64 k) true).run P w = .ok (.tuple #[((findAt k l 0).map (·.2)).getD z, .bool (findAt k l 0).isSome]) w := by
  obtain ⟨es, c, h1, h2⟩ := h
  have hkey : MapKept.IsKey (.int .i64) (.int .i64 k) := rfl
  have hn := findNow_int k es.toList l 0 h2
  cases hh : findAt k l 0 with
  | none =>
    rw [hh] at hn
    simp [Instr.lookup, run_underlying ht, MapKept.run_getObj_map h1, MapKept.run_checkKey hk hkey, MapKept.run_findKey hk hn, hz, Result.andThen]
  | some r =>
    rw [hh] at hn
    simp [Instr.lookup, run_underlying ht, MapKept.run_getObj_map h1, MapKept.run_checkKey hk hkey, MapKept.run_findKey hk hn, Result.andThen]

theorem run_iupdate {w : World} {B : Nat} {l : List (Int × Value)} (h : IMap w B l) (k : Int) (v : Value) :
    ∃ o, (Instr.mapUpdate t (.map (some B)) (.int .i64 k) v).run P w = .ok () (setMap w B o) ∧ IMap (setMap w B o) B (putAt k v l) := by
  have hlt := h.lt
  obtain ⟨es, c, h1, h2⟩ := h
  have hkey : MapKept.IsKey (.int .i64) (.int .i64 k) := rfl
  have hn := findNow_int k es.toList l 0 h2
  have hat : ∀ o : Obj, (setMap w B o).heap[B]? = some o := fun o => by simp [setMap, hlt]
  cases hh : findAt k l 0 with
  | none =>
    rw [hh] at hn
    refine ⟨.map (es.push { key := .int .i64 k, val := v, born := c }) (c + 1), ?_, _, _, hat _, ?_⟩
    · simp [Instr.mapUpdate, run_underlying ht, MapKept.run_getObj_map h1, MapKept.run_checkKey hk hkey, MapKept.run_findKey hk hn, MapKept.run_setObj_map _ h1, Result.andThen, setMap]
    · rw [(findAt_none (v := v) hh).1]
      simp [h2]
  | some r =>
    obtain ⟨j, u⟩ := r
    rw [hh] at hn
    obtain ⟨n, hj, hl, hp, _⟩ := findAt_some (v := v) hh
    rw [Nat.zero_add] at hj
    subst hj
    have hjl : j < es.toList.length := by
      have e1 : es.toList.length = l.length := by simpa using congrArg List.length h2
      rw [e1]
      exact (List.getElem?_eq_some_iff.1 hl).1
    have hj' : j < es.size := by simpa using hjl
    have hkj : (es[j]'hj').key = .int .i64 k := by
      have e1 := congrArg (fun x => x[j]?) h2
      simp only [List.getElem?_map, hl, Option.map_some] at e1
      have e2 : es.toList[j]? = some (es[j]'hj') := by simp [hj']
      rw [e2] at e1
      simp only [Option.map_some, Option.some.injEq, Prod.mk.injEq] at e1
      exact e1.1
    have hej : es[j]? = some (es[j]'hj') := Array.getElem?_eq_getElem hj'
    refine ⟨.map (es.modify j fun e => { e with key := .int .i64 k, val := v }) c, ?_, _, _, hat _, ?_⟩
    · simp [Instr.mapUpdate, run_underlying ht, MapKept.run_getObj_map h1, MapKept.run_checkKey hk hkey, MapKept.run_findKey hk hn, hej, hkj, MapKept.run_keyThatStays hkey, MapKept.run_setObj_map _ h1, Result.andThen, setMap]
    · rw [hp, List.map_set, ← h2]
      apply List.ext_getElem?
      intro m
      rw [List.getElem?_map, Array.getElem?_toList, Array.getElem?_modify, List.getElem?_set, List.getElem?_map, Array.getElem?_toList]
      by_cases hm : j = m
      · subst hm
        simp [hj']
      · simp [hm]

theorem run_idelete {w : World} {B : Nat} {l : List (Int × Value)} (h : IMap w B l) (k : Int) (ty : TypeId) :
    ∃ o, (Builtin.delete_ #[t, kt] ty #[.map (some B), .int .i64 k]).run P w = .ok (.tuple #[]) (setMap w B o) ∧ IMap (setMap w B o) B (delAt k l) := by
  have hlt := h.lt
  obtain ⟨es, c, h1, h2⟩ := h
  have hkey : MapKept.IsKey (.int .i64) (.int .i64 k) := rfl
  have hn := findNow_int k es.toList l 0 h2
  have hat : ∀ o : Obj, (setMap w B o).heap[B]? = some o := fun o => by simp [setMap, hlt]
  cases hh : findAt k l 0 with
  | none =>
    rw [hh] at hn
    refine ⟨.map es c, ?_, _, _, hat _, ?_⟩
    · simp [Builtin.delete_, run_underlying ht, MapKept.run_getObj_map h1, MapKept.run_checkKey hk hkey, MapKept.run_findKey hk hn, MapKept.run_setObj_map _ h1, Result.andThen, setMap]
    · rw [(findAt_none (v := .bool true) hh).2.1]
      exact h2
  | some r =>
    obtain ⟨j, u⟩ := r
    rw [hh] at hn
    obtain ⟨n, hj, hl, _, hd⟩ := findAt_some (v := .bool true) hh
    rw [Nat.zero_add] at hj
    subst hj
    refine ⟨.map (es.eraseIdxIfInBounds j) c, ?_, _, _, hat _, ?_⟩
    · simp [Builtin.delete_, run_underlying ht, MapKept.run_getObj_map h1, MapKept.run_checkKey hk hkey, MapKept.run_findKey hk hn, MapKept.run_setObj_map _ h1, Result.andThen, setMap]
    · have hjl : j < es.toList.length := by
        have e1 : es.toList.length = l.length := by simpa using congrArg List.length h2
        rw [e1]
        exact (List.getElem?_eq_some_iff.1 hl).1
      have hj' : j < es.size := by simpa using hjl
      rw [hd, Array.eraseIdxIfInBounds, dif_pos hj', Array.toList_eraseIdx, map_erase, h2, map_erase]

omit hk in
theorem run_ilen {w : World} {B : Nat} {l : List (Int × Value)} (h : IMap w B l) (ty : TypeId) :
    (Builtin.len_ #[t] ty #[.map (some B)]).run P w = .ok (.int .i64 l.length) w := by
  obtain ⟨es, c, h1, h2⟩ := h
  have e1 : es.size = l.length := by simpa using congrArg List.length h2
  simp [Builtin.len_, run_underlying ht, MapKept.run_getObj_map h1, Result.andThen, goInt, e1]
end
end Go.Proofs.Ytjpkendpnpkbeaa
