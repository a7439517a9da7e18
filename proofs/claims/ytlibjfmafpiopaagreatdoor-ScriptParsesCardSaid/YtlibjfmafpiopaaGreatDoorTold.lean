/- What the listed variables hold; the program's told: the contract. -/
import Derived.Test.YtlibjfmafpiopaaGreatDoorErrs
import Derived.Test.YtlibjfmafpiopaaGreatDoorErrsB
import Derived.Lib.LaidTab
import Derived.Lib.ItoaMem
namespace Go.Proofs.YtlibjfmafpiopaaGreatDoor
open Go.RowKit

/-- What the walks ask of the listed variables. -/
structure Laid (a0 a1 a3 : Addr) (w : World) : Prop where
  et : w.cell? ⟨4, 0, none⟩ = some (.iface 146 (.agg #[.pointer (some ⟨12, 55, none⟩)]))
  e0 : w.cell? ⟨0, 0, none⟩ = some (.iface 200 (.pointer (some a0)))
  e1 : w.cell? ⟨1, 0, none⟩ = some (.iface 200 (.pointer (some a1)))
  e3 : w.cell? ⟨3, 0, none⟩ = some (.iface 200 (.pointer (some a3)))
  n01 : a0 ≠ a1
  n03 : a0 ≠ a3
  n13 : a1 ≠ a3
  h0 : ∃ c t, w.heap[a0.block]? = some (.cells c t (0, 0))
  h1 : ∃ c t, w.heap[a1.block]? = some (.cells c t (0, 0))
  h3 : ∃ c t, w.heap[a3.block]? = some (.cells c t (0, 0))
  tab : Lib.TabIs Tryz.prog w "internal/strconv.uint64pow10" .u64 Lib.pow10Tab
  syn : ∃ tp p, w.var? Tryz.prog "strconv.ErrSyntax" = some #[.iface tp p]
  rng : ∃ tp p, w.var? Tryz.prog "strconv.ErrRange" = some #[.iface tp p]

theorem var_below {w w' : World} {n : String} {cs : Array Value} (h : w.var? Tryz.prog n = some cs) (hb : Below w.heap.size w w') : w'.var? Tryz.prog n = some cs := by
  unfold World.var? at h ⊢
  cases hg : Tryz.prog.globalNamed n with
  | none => simp [hg] at h
  | some g =>
    simp only [hg, Option.bind_some] at h ⊢
    have hlt : g < w.heap.size := by
      rcases Nat.lt_or_ge g w.heap.size with h' | h'
      · exact h'
      · simp [Array.getElem?_eq_none h'] at h
    rw [hb.block g hlt]
    exact h

theorem tab_below {w w' : World} {n : String} {k : IntKind} {zs : List Int} (h : Lib.TabIs Tryz.prog w n k zs) (hb : Below w.heap.size w w') : Lib.TabIs Tryz.prog w' n k zs := var_below h hb

theorem Laid.below {a0 a1 a3 : Addr} {w w' : World} (h : Laid a0 a1 a3 w) (hb : Below w.heap.size w w') : Laid a0 a1 a3 w' := by
  have hc : ∀ {p : Addr} {v : Value}, w.cell? p = some v → w'.cell? p = some v := fun {p v} e => (hb.cell (p := p) (World.block_lt_of_cell? w _ e)).trans e
  have hk : ∀ {b : Nat}, (∃ c t, w.heap[b]? = some (.cells c t (0, 0))) → ∃ c t, w'.heap[b]? = some (.cells c t (0, 0)) := fun {b} ⟨c, t, e⟩ => ⟨c, t, (hb.block b (Array.getElem?_eq_some_iff.1 e).1).trans e⟩
  exact ⟨hc h.et, hc h.e0, hc h.e1, hc h.e3, h.n01, h.n03, h.n13, hk h.h0, hk h.h1, hk h.h3, tab_below h.tab hb, h.syn.elim fun tp e => e.elim fun p e => ⟨tp, p, var_below e hb⟩, h.rng.elim fun tp e => e.elim fun p e => ⟨tp, p, var_below e hb⟩⟩

theorem as_err {a0 a1 a3 : Addr} (eb : Nat) (w : World) (L : Laid a0 a1 a3 w) :
    Calls Tryz.prog 51 #[.iface 93 (.pointer (some ⟨eb, 0, none⟩)), .iface 97 (.pointer (some ⟨w.heap.size, 0, none⟩))] (w.alloc (.cells #[.pointer none] 93)) fun e w' => e = .returned (.bool true) ∧ Below w.heap.size w w' ∧ w'.cell? ⟨w.heap.size, 0, none⟩ = some (.pointer (some ⟨eb, 0, none⟩)) := by
  have hb0 := (Below.refl w.heap.size w).alloc (Nat.le_refl _) (.cells #[.pointer none] 93)
  refine (as_hit ⟨eb, 0, none⟩ ⟨w.heap.size, 0, none⟩ (.pointer none) _ (L.below hb0).et (by simp) (by simp)).mono ?_
  rintro e w' ⟨rfl, rfl⟩
  refine ⟨rfl, ?_, ?_⟩
  · exact ((((hb0.alloc (by simp) _).alloc (by simp; omega) _).alloc (by simp; omega) _).alloc (by simp; omega) _).setCell (by simp) _
  · refine World.cell?_setCell_same _ _ _ (u := .pointer none) ?_
    rw [World.cell?_alloc_lt _ _ _ (by simp; omega), World.cell?_alloc_lt _ _ _ (by simp; omega), World.cell?_alloc_lt _ _ _ (by simp; omega), World.cell?_alloc_lt _ _ _ (by simp)]
    simp

/-- Which error a number stands for. -/
def errAt (a0 a1 a3 : Addr) (x : Int) (a : Addr) : Prop := (x = 221 ∧ a = a0) ∨ (x = 222 ∧ a = a1) ∨ (x = 223 ∧ a = a3)

theorem told_nil (w : World) : Calls Tryz.prog 23 #[.nilIface] w fun e w' => e = .returned (.tuple #[.int .i64 0, .int .i64 0]) ∧ Below w.heap.size w w' := by
  go_enter Tryz.func23, Tryz.ntmps23
  go_wp2_with (go_at_call 51; refine (as_nil _ _).mono ?_; rintro e w' ⟨rfl, rfl⟩)
  go_ret2
  exact ⟨rfl, by go_grown⟩

set_option maxRecDepth 100000 in
set_option maxHeartbeats 2000000 in
theorem told_err {a0 a1 a3 : Addr} (eb : Nat) (at_ x : Int) (a : Addr) (w : World) (L : Laid a0 a1 a3 w) (hc0 : w.cell? ⟨eb, 0, none⟩ = some (.int .i64 at_)) (hc1 : w.cell? ⟨eb, 1, none⟩ = some (.iface 200 (.pointer (some a)))) (hx : errAt a0 a1 a3 x a) :
    Calls Tryz.prog 23 #[.iface 93 (.pointer (some ⟨eb, 0, none⟩))] w fun e w' => e = .returned (.tuple #[.int .i64 at_, .int .i64 x]) ∧ Below w.heap.size w w' := by
  have hl := World.block_lt_of_cell? w _ hc0
  have HA := Lib.hid (as_err eb w L)
  have key : ∀ (w' : World), Below w.heap.size w w' → w'.cell? ⟨eb, 0, none⟩ = some (.int .i64 at_) ∧ w'.cell? ⟨eb, 0 + 1, none⟩ = some (.iface 200 (.pointer (some a))) ∧ Laid a0 a1 a3 w' :=
    fun w' hb => ⟨(hb.cell (p := ⟨eb, 0, none⟩) hl).trans hc0, (hb.cell (p := ⟨eb, 1, none⟩) hl).trans hc1, L.below hb⟩
  have HK := Lib.hid key
  have HX := Lib.hid hx
  clear key hc0 hc1 hl L hx
  go_enter Tryz.func23, Tryz.ntmps23
  go_wp2_with (go_at_call 51; refine HA.out.mono ?_; rintro e w1 ⟨rfl, hb1, hp1⟩; obtain ⟨hc0, hc1, L⟩ := HK.out w1 hb1; have he0 := L.e0; have he1 := L.e1; have HL := Lib.hid L; have HC1 := Lib.hid hc1; clear L hc1)
  rcases HX.out with ⟨rfl, rfl⟩ | ⟨rfl, rfl⟩ | ⟨rfl, rfl⟩
  · refine (is_wrap_same eb 0 _ _ HC1.out).mono ?_
    rintro e w2 ⟨rfl, rfl⟩
    go_wp2
    go_ret2
    exact ⟨rfl, hb1⟩
  · obtain ⟨ca, ta, ha⟩ := HL.out.h0
    obtain ⟨cb, tb, hb⟩ := HL.out.h1
    have M := Lib.hid (is_wrap_other eb 0 _ _ cb ca tb ta w1 HC1.out HL.out.n01.symm hb ha)
    clear ha hb
    refine M.out.mono ?_
    rintro e w2 ⟨rfl, rfl⟩
    go_wp2_with (go_at_call 52; refine (is_wrap_same eb 0 _ _ HC1.out).mono ?_; rintro e w2 ⟨rfl, rfl⟩)
    go_ret2
    exact ⟨rfl, hb1⟩
  · obtain ⟨ca, ta, ha⟩ := HL.out.h0
    obtain ⟨cb, tb, hb⟩ := HL.out.h3
    obtain ⟨cc, tc, hc⟩ := HL.out.h1
    have M := Lib.hid (is_wrap_other eb 0 _ _ cb ca tb ta w1 HC1.out HL.out.n03.symm hb ha)
    have M2 := Lib.hid (is_wrap_other eb 0 _ _ cb cc tb tc w1 HC1.out HL.out.n13.symm hb hc)
    clear ha hb hc
    refine M.out.mono ?_
    rintro e w2 ⟨rfl, rfl⟩
    go_wp2_with (go_at_call 52; refine M2.out.mono ?_; rintro e w2 ⟨rfl, rfl⟩)
    go_ret2
    exact ⟨rfl, hb1⟩
end Go.Proofs.YtlibjfmafpiopaaGreatDoor
