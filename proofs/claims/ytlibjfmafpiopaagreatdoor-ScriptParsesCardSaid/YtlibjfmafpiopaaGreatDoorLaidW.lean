/- From what the rows list to what the walks ask; a world that meets it. -/
import Derived.Test.YtlibjfmafpiopaaGreatDoorCards
import Derived.Test.YtlibjfmafpiopaaGreatDoorTie
import Derived.Test.YtlibjfmafpiopaaGreatDoorTold
import Derived.WalkKit
import Derived.ProofKit
import Derived.OpenShut
import Derived.Deep.DeepHandedRow
import Derived.Deep.DeepWitnessRowRef
import Derived.Deep.DeepLaidRun
import Derived.LaidHandle
import Derived.Lib.LaidTab
import Derived.Stop.ErrReads
namespace Go.Proofs.YtlibjfmafpiopaaGreatDoor
open Go.ChangeShapes Go.WideShapes Go.ChangeAt Go.RowKit
set_option maxRecDepth 100000

/-- What each row lists. -/
def laids : List (String × DataW Unit) := [("math/bits.deBruijn32tab", Rows.laid_math_bits_deBruijn32tab), ("math/bits.deBruijn64tab", Rows.laid_math_bits_deBruijn64tab), ("internal/strconv.uint64pow10", Rows.laid_internal_strconv_uint64pow10), ("unicode/utf8.acceptRanges", Rows.laid_unicode_utf8_acceptRanges), ("errors.errorType", Rows.laid_errors_errorType), ("strconv.ErrRange", Rows.laid_strconv_ErrRange), ("strconv.ErrSyntax", Rows.laid_strconv_ErrSyntax), ("muniment/script.errCommand", Rows.laid_muniment_script_errCommand), ("muniment/script.errWords", Rows.laid_muniment_script_errWords), ("muniment/script.errWord", Rows.laid_muniment_script_errWord), ("unicode/utf8.first", Rows.laid_unicode_utf8_first)]

namespace LW
theorem own : ownKnob Tryz.prog.godebug = none := by kernel_rfl
theorem g0 : Tryz.prog.globalNamed "muniment/script.errCommand" = some 0 := by kernel_rfl
theorem g1 : Tryz.prog.globalNamed "muniment/script.errWords" = some 1 := by kernel_rfl
theorem g3 : Tryz.prog.globalNamed "muniment/script.errWord" = some 3 := by kernel_rfl
theorem g4 : Tryz.prog.globalNamed "errors.errorType" = some 4 := by kernel_rfl
theorem g5 : Tryz.prog.globalNamed "internal/strconv.uint64pow10" = some 5 := by kernel_rfl
theorem g8 : Tryz.prog.globalNamed "strconv.ErrSyntax" = some 8 := by kernel_rfl
theorem g9 : Tryz.prog.globalNamed "strconv.ErrRange" = some 9 := by kernel_rfl
theorem g10 : Tryz.prog.globalNamed "math/bits.deBruijn32tab" = some 10 := by kernel_rfl
theorem g11 : Tryz.prog.globalNamed "math/bits.deBruijn64tab" = some 11 := by kernel_rfl
theorem g7 : Tryz.prog.globalNamed "unicode/utf8.acceptRanges" = some 7 := by kernel_rfl
theorem t0 : (Tryz.prog.globals[0]?).map (·.type) = some 55 := by kernel_rfl
theorem t1 : (Tryz.prog.globals[1]?).map (·.type) = some 55 := by kernel_rfl
theorem t3 : (Tryz.prog.globals[3]?).map (·.type) = some 55 := by kernel_rfl
theorem t5 : (Tryz.prog.globals[5]?).map (·.type) = some 178 := by kernel_rfl
theorem t8 : (Tryz.prog.globals[8]?).map (·.type) = some 55 := by kernel_rfl
theorem t9 : (Tryz.prog.globals[9]?).map (·.type) = some 55 := by kernel_rfl
theorem rt : (Tryz.prog.cutTypes.find? (·.1 == "internal/reflectlite.rtype")).map (·.2) = some 146 := by kernel_rfl
theorem oneRow : ((List.range Tryz.prog.types.size).filter fun t => Tryz.prog.rowNamed t [101, 114, 114, 111, 114]) = [55] := by kernel_rfl
theorem cells178 : Tryz.prog.cellsOf 178 = 20 := by kernel_rfl
theorem cells202 : Tryz.prog.cellsOf 202 = 1 := by kernel_rfl
theorem cells9 : Tryz.prog.cellsOf 9 = 1 := by kernel_rfl
theorem star : "*" ++ "errors.errorString" = "*errors.errorString" := by decide
theorem row200 (u : TypeId) (h : Tryz.prog.typeName? 3 u = some "*errors.errorString") : u = 200 :=
  typeName_ptr_named (nm := "errors.errorString") (by rw [star]; kernel_rfl) (by kernel_rfl) (by decide) u (by rw [star]; exact h)

/-- The places of what is listed: never closed, and errors are in their type's range. -/
def RowsOk (W : World) (ps : List MemPlace) : Prop := ∀ b off, MemPlace.cell b off ∈ ps →
    (∃ c t, W.heap[b]? = some (.cells c t (0, 0))) ∧ ∀ u v, W.cell? ⟨b, off, none⟩ = some (.iface u v) → Value.okWide Tryz.prog W .any 0 u v

theorem peel {W : World} {n : String} {d : DataW Unit} {r : List (String × DataW Unit)} {ps : List MemPlace} (h : DataW.LaidVars Tryz.prog W ((n, d) :: r) ps) (hr : RowsOk W ps) : ∃ q, DataW.LaidVars Tryz.prog W r q ∧ RowsOk W q := by
  obtain ⟨g, t, cs, fuel, p, q, hg, ht, hv, hd, hq, e⟩ := h
  exact ⟨q, hq, fun b off hm => hr b off (by rw [e]; exact List.mem_append_right _ hm)⟩

theorem err_peel {W : World} {n : String} {text : List UInt8} {r : List (String × DataW Unit)} {ps : List MemPlace} {g : Nat} (hg : Tryz.prog.globalNamed n = some g) (ht : (Tryz.prog.globals[g]?).map (·.type) = some 55)
    (h : DataW.LaidVars Tryz.prog W ((n, .iface "*errors.errorString" (.ptr (.agg [.lit (.string text)]))) :: r) ps) (hr : RowsOk W ps) :
    (∃ a s, W.var? Tryz.prog n = some #[.iface 200 (.pointer (some a))] ∧ W.cell? ⟨g, 0, none⟩ = some (.iface 200 (.pointer (some a))) ∧ W.cell? a = some (.string s) ∧ s.data.toList = text ∧ ∃ c t, W.heap[a.block]? = some (.cells c t (0, 0))) ∧ ∃ q, DataW.LaidVars Tryz.prog W r q ∧ RowsOk W q := by
  refine ⟨?_, peel h hr⟩
  obtain ⟨g', t, cs, fuel, p, q, hg', ht', hv, hd, hq, e⟩ := h
  obtain rfl := Option.some.inj (hg.symm.trans hg')
  obtain rfl := Option.some.inj (ht.symm.trans ht')
  obtain ⟨l⟩ := cs
  have ok : ∀ u v, l = [.iface u v] → Value.okWide Tryz.prog W .any 0 u v := fun u v e2 => by
    subst e2
    exact (hr g 0 (by rw [e]; simp [MemPlace.row])).2 u v (by simpa using World.var?_cell hg hv 0)
  obtain ⟨a, s, rfl, hc, hs, hz, rfl⟩ := errorString_of_trod Tryz.underlying55 row200 Tryz.underlying200 Tryz.underlying202 rfl rfl Tryz.underlying9 cells202 cells9 hd ok
  exact ⟨a, s, hv, by simpa using World.var?_cell hg hv 0, hc, hs, (hr a.block a.off (by rw [e]; simp [MemPlace.row])).1⟩

theorem tab_peel {W : World} {r : List (String × DataW Unit)} {ps : List MemPlace}
    (h : DataW.LaidVars Tryz.prog W (("internal/strconv.uint64pow10", Rows.laid_internal_strconv_uint64pow10) :: r) ps) : Lib.TabIs Tryz.prog W "internal/strconv.uint64pow10" .u64 Lib.pow10Tab := by
  obtain ⟨g, t, cs, fuel, p, q, hg, ht, hv, hd, _, _⟩ := h
  obtain rfl := Option.some.inj (g5.symm.trans hg)
  obtain rfl := Option.some.inj (t5.symm.trans ht)
  have e : Rows.laid_internal_strconv_uint64pow10 (H := Unit) = Lib.tabData .u64 Lib.pow10Tab := by kernel_rfl
  rw [e] at hd
  have := Lib.cells_of_tab Tryz.underlying178 (k := .u64) Tryz.underlying162 (by kernel_rfl) cells178 hd
  unfold Lib.TabIs
  rw [hv]
  congr 1
  apply Array.toList_inj.1
  rw [this]

/-- What the walks ask. -/
theorem laid_of {W : World} (h : laidMetH Tryz.prog laids W) : ∃ a0 a1 a3, Laid a0 a1 a3 W := by
  have hf : (laids.filter fun x => x.2.handleName?.isSome) = [("errors.errorType", Rows.laid_errors_errorType)] := by kernel_rfl
  have hf2 : (laids.filter fun x => x.2.handleName?.isNone) = [("math/bits.deBruijn32tab", Rows.laid_math_bits_deBruijn32tab), ("math/bits.deBruijn64tab", Rows.laid_math_bits_deBruijn64tab), ("internal/strconv.uint64pow10", Rows.laid_internal_strconv_uint64pow10), ("unicode/utf8.acceptRanges", Rows.laid_unicode_utf8_acceptRanges), ("strconv.ErrRange", Rows.laid_strconv_ErrRange), ("strconv.ErrSyntax", Rows.laid_strconv_ErrSyntax), ("muniment/script.errCommand", Rows.laid_muniment_script_errCommand), ("muniment/script.errWords", Rows.laid_muniment_script_errWords), ("muniment/script.errWord", Rows.laid_muniment_script_errWord), ("unicode/utf8.first", Rows.laid_unicode_utf8_first)] := by kernel_rfl
  unfold laidMetH at h
  rw [hf] at h
  dsimp only at h
  rw [hf2] at h
  obtain ⟨⟨ps, hl, _, hr⟩, hh⟩ := h
  have hr' : RowsOk W ps := hr
  obtain ⟨q1, l1, r1⟩ := peel hl hr'
  obtain ⟨q2, l2, r2⟩ := peel l1 r1
  have htab := tab_peel l2
  obtain ⟨q3, l3, r3⟩ := peel l2 r2
  obtain ⟨q4, l4, r4⟩ := peel l3 r3
  obtain ⟨⟨ar, sr, vr, _⟩, q5, l5, r5⟩ := err_peel g9 t9 l4 r4
  obtain ⟨⟨ay, sy, vs, _⟩, q6, l6, r6⟩ := err_peel g8 t8 l5 r5
  obtain ⟨⟨a0, s0, v0, c0, b0, x0, k0⟩, q7, l7, r7⟩ := err_peel g0 t0 l6 r6
  obtain ⟨⟨a1, s1, v1, c1, b1, x1, k1⟩, q8, l8, r8⟩ := err_peel g1 t1 l7 r7
  obtain ⟨⟨a3, s3, v3, c3, b3, x3, k3⟩, q9, l9, r9⟩ := err_peel g3 t3 l8 r8
  have het : W.cell? ⟨4, 0, none⟩ = some (.iface 146 (.agg #[.pointer (some ⟨12, 55, none⟩)])) := by
    obtain ⟨name, u, ty, e1, e2, e3, e4, e5⟩ := hh _ (List.mem_singleton.2 rfl)
    have en : name = [101, 114, 114, 111, 114] := (Option.some.inj e1).symm
    subst en
    obtain rfl := Option.some.inj (rt.symm.trans e2)
    have hm : ty ∈ (List.range Tryz.prog.types.size).filter fun t => Tryz.prog.rowNamed t [101, 114, 114, 111, 114] := List.mem_filter.2 ⟨List.mem_range.2 e3, e4⟩
    rw [oneRow] at hm
    obtain rfl := List.mem_singleton.1 hm
    have hth : typeHandle Tryz.prog 55 = .pointer (some ⟨12, 55, none⟩) := by kernel_rfl
    rw [hth] at e5
    simpa using World.var?_cell g4 e5 0
  refine ⟨a0, a1, a3, ⟨het, c0, c1, c3, ?_, ?_, ?_, k0, k1, k3, htab, ⟨_, _, vs⟩, ⟨_, _, vr⟩⟩⟩
  · rintro rfl
    rw [b0] at b1
    injection b1 with b1
    injection b1 with b1
    rw [b1, x1] at x0
    exact absurd x0 (by decide)
  · rintro rfl
    rw [b0] at b3
    injection b3 with b3
    injection b3 with b3
    rw [b3, x3] at x0
    exact absurd x0 (by decide)
  · rintro rfl
    rw [b1] at b3
    injection b3 with b3
    injection b3 with b3
    rw [b3, x3] at x1
    exact absurd x1 (by decide)

/-! A world that meets it. -/

noncomputable def low : Nat := (World.holding Tryz.prog default ⟨#[], #[], []⟩).heap.size

def layAt (h : Array Obj) (i : Nat) (cs : Array Value) : Array Obj := h.modify i fun
  | .cells _ t frozen => .cells cs t frozen
  | o => o

def numCells : DataW Unit → List Value
  | .lit (.int k n) => [.int k n]
  | .agg l => numAll l
  | _ => []
where numAll : List (DataW Unit) → List Value
  | [] => []
  | d :: r => numCells d ++ numAll r

def sent (text : List UInt8) : Obj := .cells #[.string ⟨text.toArray⟩] 202
def textOf : DataW Unit → List UInt8
  | .iface _ (.ptr (.agg [.lit (.string s)])) => s
  | _ => []

noncomputable def laidWorld (os : Os) (more : Array Obj) : World :=
  let w0 := World.holding Tryz.prog os ⟨#[sent (textOf Rows.laid_muniment_script_errCommand), sent (textOf Rows.laid_muniment_script_errWords), sent (textOf Rows.laid_muniment_script_errWord), sent (textOf Rows.laid_strconv_ErrSyntax), sent (textOf Rows.laid_strconv_ErrRange)] ++ more, #[], []⟩
  { w0 with heap := layAt (layAt (layAt (layAt (layAt (layAt (layAt (layAt (layAt (layAt (layAt w0.heap 0 #[.iface 200 (.pointer (some ⟨low, 0, none⟩))]) 1 #[.iface 200 (.pointer (some ⟨low + 1, 0, none⟩))]) 3 #[.iface 200 (.pointer (some ⟨low + 2, 0, none⟩))])
      8 #[.iface 200 (.pointer (some ⟨low + 3, 0, none⟩))]) 9 #[.iface 200 (.pointer (some ⟨low + 4, 0, none⟩))]) 4 #[.iface 146 (.agg #[.pointer (some ⟨12, 55, none⟩)])]) 5 (numCells Rows.laid_internal_strconv_uint64pow10).toArray) 6 (numCells Rows.laid_unicode_utf8_first).toArray)
      7 (numCells Rows.laid_unicode_utf8_acceptRanges).toArray) 10 (numCells Rows.laid_math_bits_deBruijn32tab).toArray) 11 (numCells Rows.laid_math_bits_deBruijn64tab).toArray }

theorem laid_met (os : Os) (args : Array Value) : laidMetH Tryz.prog laids ((laidWorld os #[]).forCall (fun _ _ => 0) ⟨#[], args, []⟩).memory :=
  laidMetH_of_parts (laidMet_of_run3 8 (by kernel_rfl) (by kernel_rfl) (by kernel_rfl)) (by kernel_rfl)
end LW
end Go.Proofs.YtlibjfmafpiopaaGreatDoor
