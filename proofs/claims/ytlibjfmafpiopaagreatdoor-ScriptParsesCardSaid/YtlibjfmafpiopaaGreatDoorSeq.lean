/- Ranges over iterators that keep state in cells of their own: a contract for such an iterator, and the law of the statement (turned from the kit's RangeFuncNested: ownH, ownN). -/
import Derived.Test.YtlibjfmafpiopaaGreatDoorRows
import Derived.RangeFuncNested
import Derived.RangeFuncBound
import Derived.RangeFuncCalls
import Derived.RangeFuncLeaves
namespace Go.Proofs.YtlibjfmafpiopaaGreatDoor
open Go.RowKit

/-- J does not mind new blocks, nor a turn of a block of Z. -/
def AbZ {β : Type} (Z : Nat → Prop) (J : β → World → Prop) : Prop := ∀ s A B row, J s A → A.grownBy B row → (∀ r, row = some r → Z r) → J s B

theorem AbZ.mono {β : Type} {Z Z' : Nat → Prop} {J : β → World → Prop} (h : AbZ Z J) (hz : ∀ r, Z' r → Z r) : AbZ Z' J := fun s A B row hs hg hr => h s A B row hs hg fun r e => hz r (hr r e)
theorem AbZ.alloc {β : Type} {Z : Nat → Prop} {J : β → World → Prop} (h : AbZ Z J) {s : β} {W : World} (o : Obj) (hs : J s W) : J s (W.alloc o) :=
  h s W _ none hs ⟨rfl, rfl, rfl, by simp, fun k hk _ => Below.heap_alloc W o k hk⟩ (fun r e => by cases e)
theorem AbZ.putObj {β : Type} {Z : Nat → Prop} {J : β → World → Prop} (h : AbZ Z J) {s : β} {W : World} {l : Nat} (o : Obj) (hs : J s W) (hl : Z l) : J s (W.putObj l o) :=
  h s W _ (some l) hs (grownBy_putObj' W l o) (fun r e => by cases e; exact hl)

/-- The contract of an iterator that turns blocks of Z (W's size) alone; the first K blocks from there on lie when a round begins; a round keeps what lies in Z. -/
def SeqZ {α : Type} (F : Fence) (n : Nat) (P : Program) (g : Nat) (lb : Array Value) (encs : α → Array Value) (Z : Nat → Nat → Prop) (K : Nat) (S Sp : List α → Prop) (w : World) : Prop :=
  ∀ (l : Nat) (J Jx : List α → World → Prop) (W : World), Below w.heap.size w W → AbZ (Z W.heap.size) J → AbZ (Z W.heap.size) Jx →
    (∀ pre x W1, W.heap.size + K ≤ W1.heap.size → J pre W1 → Sp (pre ++ [x]) → YieldAt F (n - 1) P l (encs x) W1 fun e W' =>
      (e = .returned (.bool true) ∧ J (pre ++ [x]) W' ∧ (∀ r, Z W.heap.size r → r < W1.heap.size → W'.heap[r]? = W1.heap[r]?) ∧ W1.heap.size ≤ W'.heap.size) ∨ (e = .returned (.bool false) ∧ Jx (pre ++ [x]) W' ∧ (∀ r, Z W.heap.size r → r < W1.heap.size → W'.heap[r]? = W1.heap[r]?))) →
    J [] W →
    CallsIn F n P g (#[.func (.yield l) #[] #[]] ++ lb) W fun e W' => (∃ v, e = .returned v) ∧ ((∃ xs, S xs ∧ J xs W') ∨ (∃ pre, Sp pre ∧ Jx pre W'))

/-- How the body of a round may be left: what of R lay, lies as it lay. -/
def ownPostZ {α : Type} (R : Nat → Prop) (I : List α → World → Prop) (Ix : Code → List α → World → Prop) (xs : List α) (W : World) : Exit → Act → World → Prop
  | .normal, _, W' => (∀ r, R r → r < W.heap.size → W'.heap[r]? = W.heap[r]?) ∧ W.heap.size ≤ W'.heap.size ∧ I xs W'
  | .ret, _, W' => (∀ r, R r → r < W.heap.size → W'.heap[r]? = W.heap[r]?) ∧ Ix .ret xs W'
  | .exit id, _, W' => (∀ r, R r → r < W.heap.size → W'.heap[r]? = W.heap[r]?) ∧ Ix (.exit id) xs W'
  | .goto t, _, W' => (∀ r, R r → r < W.heap.size → W'.heap[r]? = W.heap[r]?) ∧ Ix (.goto t) xs W'
  | .panic _, _, _ => False
  | .outgrown, _, _ => False

variable {F : Fence} {n : Nat} {P : Program}

/-- The statement, outermost in its function: the loop's record is block w.heap.size + 1, the block for the rounds' deferred calls is w.heap.size. -/
theorem wpIn_rangeFunc_Z {α : Type} {g : Operand} {ps : Array Tmp} {assign body : Code} {Q : Exit → Act → World → Prop} {a : Act} {w : World}
    (hro : F.round = none) (h1 : 1 ≤ n) {gf : Nat} {lb : Array Value} (hg : a.eval g = .func (.func gf) #[] lb) (hFg : F.fn gf) (eg : ∀ args w, (callFunc gf args).run P w = .ok (.enter gf args) w)
    {encs : α → Array Value} {Z : Nat → Nat → Prop} {KK : Nat} {S Sp : List α → Prop} {w0 : World} (hseq : SeqZ F (n - 1) P gf lb encs Z KK S Sp w0)
    (hZ : ∀ r, Z (w.heap.size + 2) r → r ≠ w.heap.size ∧ r ≠ w.heap.size + 1) (hb0 : Below w0.heap.size w0 w) (hps : ∀ x, (encs x).size = ps.size)
    (I : List α → World → Prop) (Ix : Code → List α → World → Prop) (hI : AbZ (fun r => r = w.heap.size + 1 ∨ Z (w.heap.size + 2) r) I) (hIx : ∀ c, AbZ (fun r => r = w.heap.size + 1 ∨ Z (w.heap.size + 2) r) (Ix c)) (h0 : I [] w)
    (Ax : α → Act → World → Prop) (hAx : ∀ x a', AbZ (fun r => r = w.heap.size + 1 ∨ Z (w.heap.size + 2) r) (fun (_ : Unit) W => Ax x a' W))
    (hassign : ∀ (pre : List α) (x : α) (W : World) (K : Act → World → Prop), I pre W → w.heap.size + 2 + KK ≤ W.heap.size → (∀ a' W', Below W.heap.size W W' → I pre W' → Ax x a' W' → K a' W') →
      assign.wpIn (F.inRound (w.heap.size + 1)) (n - 1 - 1) P (Exit.then K (fun _ _ _ => False)) { tmps := (ps.zip (encs x)).foldl (fun t (p, v) => t.setIfInBounds p v) a.tmps, defers := [] } W)
    (hbody : ∀ (pre : List α) (x : α) (a' : Act) (W : World), (∃ r, W.heap[w.heap.size + 1]? = some (.loop r)) → I pre W → Ax x a' W → Sp (pre ++ [x]) → w.heap.size + 2 + KK ≤ W.heap.size →
      body.wpIn (F.inRound (w.heap.size + 1)) (n - 1 - 1) P (ownPostZ (fun r => r = w.heap.size + 1 ∨ r = w.heap.size ∨ Z (w.heap.size + 2) r) I Ix (pre ++ [x]) W) a' W)
    (hdone : ∀ (xs : List α) (W : World), S xs → I xs W → W.heap[w.heap.size]? = some (.deferred (some [])) → Q .normal { a with defers := { target := .collected w.heap.size, args := #[] } :: a.defers } W)
    (hstop : ∀ (c : Code) (pre : List α) (W : World), Sp pre → Ix c pre W → W.heap[w.heap.size]? = some (.deferred (some [])) → c.wpIn F n P Q { a with defers := { target := .collected w.heap.size, args := #[] } :: a.defers } W) :
    (Code.rangeFunc g ps assign body).wpIn F n P Q a w := by
  refine wpIn_rangeFunc ?_
  intro fn hfn
  rw [hro]
  obtain ⟨rec, hrec⟩ : ∃ rec : LoopState → Option Code → Loop, rec = fun st pe => { state := st, pending := pe, fn, tmps := a.tmps, params := ps, assign, body, defers := w.heap.size } := ⟨_, rfl⟩
  obtain ⟨W1, hW1⟩ : ∃ W1, (w.alloc (.deferred (some []))).alloc (.loop (rec .ready none)) = W1 := ⟨_, rfl⟩
  have hL1 : W1.heap[w.heap.size + 1]? = some (.loop (rec .ready none)) := by
    rw [← hW1]; have := World.alloc_heap_new (w.alloc (.deferred (some []))) (.loop (rec .ready none)); rwa [World.size_alloc] at this
  have hK1 : W1.heap[w.heap.size]? = some (.deferred (some [])) := by
    rw [← hW1]; exact (Below.heap_alloc _ _ _ (by simp)).trans (World.alloc_heap_new w _)
  have hI1 : I [] W1 := by rw [← hW1]; exact hI.alloc _ (hI.alloc _ h0)
  have hb1 : Below w0.heap.size w0 W1 := by
    rw [← hW1]; exact hb0.trans ((((Below.refl _ w).alloc (Nat.le_refl _) _).alloc (by simp) _).mono hb0.size)
  have hs1 : W1.heap.size = w.heap.size + 2 := by rw [← hW1]; simp
  refine ⟨w.heap.size + 1, [{ target := .collected w.heap.size, args := #[] }], W1, { target := .fn (.func gf) lb, args := #[.func (.yield (w.heap.size + 1)) #[] #[]] }, W1, gf,
    #[.func (.yield (w.heap.size + 1)) #[] #[]] ++ lb, W1, ?_, ?_, ?_, ?_, fun _ => h1, ?_⟩
  · rw [← hW1, hrec]; exact run_enterLoop_outer _ _ _ _ _
  · simp only [resolve, hg]
    simp [go_sem]
  · intro f' hf'; simp [Target.leads] at hf'; subst hf'; exact hFg
  · simp [invoke, go_sem, eg]
  · refine (hseq (w.heap.size + 1)
      (fun pre W => I pre W ∧ W.heap[w.heap.size + 1]? = some (.loop (rec .ready none)) ∧ W.heap[w.heap.size]? = some (.deferred (some [])))
      (fun pre W => ∃ c, Ix c pre W ∧ W.heap[w.heap.size + 1]? = some (.loop (rec .done (some c))) ∧ W.heap[w.heap.size]? = some (.deferred (some [])))
      W1 hb1
      (fun s A B row hs hg' hr => by
        rw [hs1] at hr
        exact ⟨hI s A B row hs.1 hg' (fun r e => .inr (hr r e)), (hg'.block _ (Array.getElem?_eq_some_iff.1 hs.2.1).1 (fun e => (hZ _ (hr _ e.symm)).2 rfl)).trans hs.2.1, (hg'.block _ (Array.getElem?_eq_some_iff.1 hs.2.2).1 (fun e => (hZ _ (hr _ e.symm)).1 rfl)).trans hs.2.2⟩)
      (fun s A B row hs hg' hr => by
        rw [hs1] at hr
        obtain ⟨c, hc, hl, hk⟩ := hs
        exact ⟨c, hIx c s A B row hc hg' (fun r e => .inr (hr r e)), (hg'.block _ (Array.getElem?_eq_some_iff.1 hl).1 (fun e => (hZ _ (hr _ e.symm)).2 rfl)).trans hl, (hg'.block _ (Array.getElem?_eq_some_iff.1 hk).1 (fun e => (hZ _ (hr _ e.symm)).1 rfl)).trans hk⟩)
      ?_ ⟨hI1, hL1, hK1⟩).mono ?_
    · rintro pre x W hKK ⟨hi, hl, hk⟩ hlen
      rw [hs1] at hKK ⊢
      have hlt : w.heap.size + 1 < W.heap.size := (Array.getElem?_eq_some_iff.1 hl).1
      have hy := run_yield (P := P) (args := encs x) hl (by rw [hrec]; exact hps x)
      rw [hrec] at hy
      refine ⟨fn, _, assign, body, hy, roundIn_of_wpIn hfn (hassign pre x W _ hi (by omega) ?_)⟩
      clear hy
      intro a' Wa hba hia hax
      have hza := hba.size
      replace hl := (hba.block _ hlt).trans hl
      replace hk := (hba.block _ (by omega)).trans hk
      have hlta : w.heap.size + 1 < Wa.heap.size := by omega
      refine ⟨_, run_beginRound hl (by rw [hrec]), ?_⟩
      have hl2 : (Wa.putObj (w.heap.size + 1) (.loop { rec .ready none with state := .busy })).heap[w.heap.size + 1]? = some (.loop { rec .ready none with state := .busy }) := World.putObj_heap_same hlta
      have hk2 : (Wa.putObj (w.heap.size + 1) (.loop { rec .ready none with state := .busy })).heap[w.heap.size]? = some (.deferred (some [])) := (World.putObj_heap_other (by omega)).trans hk
      have hsz2 : (Wa.putObj (w.heap.size + 1) (.loop { rec .ready none with state := .busy })).heap.size = Wa.heap.size := by simp
      refine wpIn_mono (hbody pre x a' _ ⟨_, hl2⟩ (hI.putObj _ hia (.inl rfl)) ((hAx x a').putObj (s := ()) _ hax (.inl rfl)) hlen (by rw [hsz2]; omega)) ?_
      have fin : ∀ (jump : Option Code) (W3 : World), (∀ r, (r = w.heap.size + 1 ∨ r = w.heap.size ∨ Z (w.heap.size + 2) r) → r < (Wa.putObj (w.heap.size + 1) (.loop { rec .ready none with state := .busy })).heap.size → W3.heap[r]? = (Wa.putObj (w.heap.size + 1) (.loop { rec .ready none with state := .busy })).heap[r]?) →
          (Instr.endRound (w.heap.size + 1) jump).run P W3 = .ok (.bool jump.isNone) (W3.putObj (w.heap.size + 1) (.loop (rec (if jump.isNone then .ready else .done) jump))) ∧
          (W3.putObj (w.heap.size + 1) (.loop (rec (if jump.isNone then .ready else .done) jump))).heap[w.heap.size + 1]? = some (.loop (rec (if jump.isNone then .ready else .done) jump)) ∧
          (W3.putObj (w.heap.size + 1) (.loop (rec (if jump.isNone then .ready else .done) jump))).heap[w.heap.size]? = some (.deferred (some [])) := fun jump W3 hk3 => by
        have hl3 := (hk3 _ (.inl rfl) (by rw [hsz2]; omega)).trans hl2
        have hd3 := (hk3 _ (.inr (.inl rfl)) (by rw [hsz2]; omega)).trans hk2
        have := run_endRound (P := P) jump hl3
        rw [hrec] at this ⊢
        exact ⟨this, World.putObj_heap_same (Array.getElem?_eq_some_iff.1 hl3).1, (World.putObj_heap_other (by omega)).trans hd3⟩
      rintro e a3 W3 hp
      cases e with
      | normal =>
        obtain ⟨hk3, hsz3, hi3⟩ := hp
        have hsz3' : Wa.heap.size ≤ W3.heap.size := by simpa using hsz3
        obtain ⟨hr, hl4, hk4⟩ := fin none W3 hk3
        refine ⟨_, _, hr, .inl ⟨rfl, ⟨hI.putObj _ hi3 (.inl rfl), hl4, hk4⟩, fun r hzr hrl => ?_, by simp; omega⟩⟩
        have hne := (hZ r hzr).2
        rw [World.putObj_heap_other hne, hk3 r (.inr (.inr hzr)) (by rw [hsz2]; omega), World.putObj_heap_other hne]
        exact hba.block r hrl
      | ret =>
        obtain ⟨hk3, hi3⟩ := hp
        obtain ⟨hr, hl4, hk4⟩ := fin (some .ret) W3 hk3
        exact ⟨_, _, hr, .inr ⟨rfl, ⟨.ret, (hIx _).putObj _ hi3 (.inl rfl), hl4, hk4⟩, fun r hzr hrl => (by rw [World.putObj_heap_other (hZ r hzr).2, hk3 r (.inr (.inr hzr)) (by rw [hsz2]; omega), World.putObj_heap_other (hZ r hzr).2]; exact hba.block r hrl)⟩⟩
      | exit id =>
        obtain ⟨hk3, hi3⟩ := hp
        obtain ⟨hr, hl4, hk4⟩ := fin (some (.exit id)) W3 hk3
        exact ⟨_, _, hr, .inr ⟨rfl, ⟨.exit id, (hIx _).putObj _ hi3 (.inl rfl), hl4, hk4⟩, fun r hzr hrl => (by rw [World.putObj_heap_other (hZ r hzr).2, hk3 r (.inr (.inr hzr)) (by rw [hsz2]; omega), World.putObj_heap_other (hZ r hzr).2]; exact hba.block r hrl)⟩⟩
      | goto t =>
        obtain ⟨hk3, hi3⟩ := hp
        obtain ⟨hr, hl4, hk4⟩ := fin (some (.goto t)) W3 hk3
        exact ⟨_, _, hr, .inr ⟨rfl, ⟨.goto t, (hIx _).putObj _ hi3 (.inl rfl), hl4, hk4⟩, fun r hzr hrl => (by rw [World.putObj_heap_other (hZ r hzr).2, hk3 r (.inr (.inr hzr)) (by rw [hsz2]; omega), World.putObj_heap_other (hZ r hzr).2]; exact hba.block r hrl)⟩⟩
      | panic ch => exact hp.elim
      | outgrown => exact hp.elim
    · rintro e W2 ⟨⟨v, rfl⟩, (⟨xs, hS, hi, hl, hk⟩ | ⟨pre, hSp, c, hi, hl, hk⟩)⟩
      · exact ⟨none, _, by have := run_endLoop (P := P) hl (by rw [hrec]; simp); rw [hrec] at this; exact this, hdone xs _ hS (hI.putObj _ hi (.inl rfl)) ((World.putObj_heap_other (by omega)).trans hk)⟩
      · exact ⟨some c, _, by have := run_endLoop (P := P) hl (by rw [hrec]; simp); rw [hrec] at this; exact this, hstop c pre _ hSp ((hIx c).putObj _ hi (.inl rfl)) ((World.putObj_heap_other (by omega)).trans hk)⟩

/-- The statement within a round of loop l₀: the loop's record is block w.heap.size. -/
theorem wpIn_rangeFunc_ZN {α : Type} {g : Operand} {ps : Array Tmp} {assign body : Code} {Q : Exit → Act → World → Prop} {a : Act} {w : World}
    {l₀ : Nat} {r₀ : Loop} (hro : F.round = some l₀) (hl₀ : w.heap[l₀]? = some (.loop r₀)) (h1 : 1 ≤ n) {gf : Nat} {lb : Array Value} (hg : a.eval g = .func (.func gf) #[] lb) (hFg : F.fn gf) (eg : ∀ args w, (callFunc gf args).run P w = .ok (.enter gf args) w)
    {encs : α → Array Value} {Z : Nat → Nat → Prop} {KK : Nat} {S Sp : List α → Prop} {w0 : World} (hseq : SeqZ F (n - 1) P gf lb encs Z KK S Sp w0)
    (hZ : ∀ r, Z (w.heap.size + 1) r → r ≠ w.heap.size) (hb0 : Below w0.heap.size w0 w) (hps : ∀ x, (encs x).size = ps.size)
    (I : List α → World → Prop) (Ix : Code → List α → World → Prop) (hI : AbZ (fun r => r = w.heap.size ∨ Z (w.heap.size + 1) r) I) (hIx : ∀ c, AbZ (fun r => r = w.heap.size ∨ Z (w.heap.size + 1) r) (Ix c)) (h0 : I [] w)
    (Ax : α → Act → World → Prop) (hAx : ∀ x a', AbZ (fun r => r = w.heap.size ∨ Z (w.heap.size + 1) r) (fun (_ : Unit) W => Ax x a' W))
    (hassign : ∀ (pre : List α) (x : α) (W : World) (K : Act → World → Prop), I pre W → w.heap.size + 1 + KK ≤ W.heap.size → (∀ a' W', Below W.heap.size W W' → I pre W' → Ax x a' W' → K a' W') →
      assign.wpIn (F.inRound w.heap.size) (n - 1 - 1) P (Exit.then K (fun _ _ _ => False)) { tmps := (ps.zip (encs x)).foldl (fun t (p, v) => t.setIfInBounds p v) a.tmps, defers := [] } W)
    (hbody : ∀ (pre : List α) (x : α) (a' : Act) (W : World), (∃ r, W.heap[w.heap.size]? = some (.loop r)) → I pre W → Ax x a' W → Sp (pre ++ [x]) → w.heap.size + 1 + KK ≤ W.heap.size →
      body.wpIn (F.inRound w.heap.size) (n - 1 - 1) P (ownPostZ (fun r => r = w.heap.size ∨ Z (w.heap.size + 1) r) I Ix (pre ++ [x]) W) a' W)
    (hdone : ∀ (xs : List α) (W : World), S xs → I xs W → Q .normal a W)
    (hstop : ∀ (c : Code) (pre : List α) (W : World), Sp pre → Ix c pre W → c.wpIn F n P Q a W) :
    (Code.rangeFunc g ps assign body).wpIn F n P Q a w := by
  refine wpIn_rangeFunc ?_
  intro fn hfn
  rw [hro]
  obtain ⟨rec, hrec⟩ : ∃ rec : LoopState → Option Code → Loop, rec = fun st pe => { state := st, pending := pe, fn, tmps := a.tmps, params := ps, assign, body, defers := r₀.defers } := ⟨_, rfl⟩
  obtain ⟨W1, hW1⟩ : ∃ W1, w.alloc (.loop (rec .ready none)) = W1 := ⟨_, rfl⟩
  have hL1 : W1.heap[w.heap.size]? = some (.loop (rec .ready none)) := by rw [← hW1]; exact World.alloc_heap_new w _
  have hI1 : I [] W1 := by rw [← hW1]; exact hI.alloc _ h0
  have hb1 : Below w0.heap.size w0 W1 := by
    rw [← hW1]; exact hb0.trans (((Below.refl _ w).alloc (Nat.le_refl _) _).mono hb0.size)
  have hs1 : W1.heap.size = w.heap.size + 1 := by rw [← hW1]; simp
  refine ⟨w.heap.size, [], W1, { target := .fn (.func gf) lb, args := #[.func (.yield w.heap.size) #[] #[]] }, W1, gf,
    #[.func (.yield w.heap.size) #[] #[]] ++ lb, W1, ?_, ?_, ?_, ?_, fun _ => h1, ?_⟩
  · rw [← hW1, hrec]; exact run_enterLoop_inner hl₀ _ _ _ _ _
  · simp only [resolve, hg]
    simp [go_sem]
  · intro f' hf'; simp [Target.leads] at hf'; subst hf'; exact hFg
  · simp [invoke, go_sem, eg]
  · refine (hseq w.heap.size
      (fun pre W => I pre W ∧ W.heap[w.heap.size]? = some (.loop (rec .ready none)))
      (fun pre W => ∃ c, Ix c pre W ∧ W.heap[w.heap.size]? = some (.loop (rec .done (some c))))
      W1 hb1
      (fun s A B row hs hg' hr => by
        rw [hs1] at hr
        exact ⟨hI s A B row hs.1 hg' (fun r e => .inr (hr r e)), (hg'.block _ (Array.getElem?_eq_some_iff.1 hs.2).1 (fun e => hZ _ (hr _ e.symm) rfl)).trans hs.2⟩)
      (fun s A B row hs hg' hr => by
        rw [hs1] at hr
        obtain ⟨c, hc, hl⟩ := hs
        exact ⟨c, hIx c s A B row hc hg' (fun r e => .inr (hr r e)), (hg'.block _ (Array.getElem?_eq_some_iff.1 hl).1 (fun e => hZ _ (hr _ e.symm) rfl)).trans hl⟩)
      ?_ ⟨hI1, hL1⟩).mono ?_
    · rintro pre x W hKK ⟨hi, hl⟩ hlen
      rw [hs1] at hKK ⊢
      have hlt : w.heap.size < W.heap.size := (Array.getElem?_eq_some_iff.1 hl).1
      have hy := run_yield (P := P) (args := encs x) hl (by rw [hrec]; exact hps x)
      rw [hrec] at hy
      refine ⟨fn, _, assign, body, hy, roundIn_of_wpIn hfn (hassign pre x W _ hi (by omega) ?_)⟩
      clear hy
      intro a' Wa hba hia hax
      have hza := hba.size
      replace hl := (hba.block _ hlt).trans hl
      have hlta : w.heap.size < Wa.heap.size := by omega
      refine ⟨_, run_beginRound hl (by rw [hrec]), ?_⟩
      have hl2 : (Wa.putObj w.heap.size (.loop { rec .ready none with state := .busy })).heap[w.heap.size]? = some (.loop { rec .ready none with state := .busy }) := World.putObj_heap_same hlta
      have hsz2 : (Wa.putObj w.heap.size (.loop { rec .ready none with state := .busy })).heap.size = Wa.heap.size := by simp
      refine wpIn_mono (hbody pre x a' _ ⟨_, hl2⟩ (hI.putObj _ hia (.inl rfl)) ((hAx x a').putObj (s := ()) _ hax (.inl rfl)) hlen (by rw [hsz2]; omega)) ?_
      have fin : ∀ (jump : Option Code) (W3 : World), (∀ r, (r = w.heap.size ∨ Z (w.heap.size + 1) r) → r < (Wa.putObj w.heap.size (.loop { rec .ready none with state := .busy })).heap.size → W3.heap[r]? = (Wa.putObj w.heap.size (.loop { rec .ready none with state := .busy })).heap[r]?) →
          (Instr.endRound w.heap.size jump).run P W3 = .ok (.bool jump.isNone) (W3.putObj w.heap.size (.loop (rec (if jump.isNone then .ready else .done) jump))) ∧
          (W3.putObj w.heap.size (.loop (rec (if jump.isNone then .ready else .done) jump))).heap[w.heap.size]? = some (.loop (rec (if jump.isNone then .ready else .done) jump)) := fun jump W3 hk3 => by
        have hl3 := (hk3 _ (.inl rfl) (by rw [hsz2]; omega)).trans hl2
        have := run_endRound (P := P) jump hl3
        rw [hrec] at this ⊢
        exact ⟨this, World.putObj_heap_same (Array.getElem?_eq_some_iff.1 hl3).1⟩
      rintro e a3 W3 hp
      cases e with
      | normal =>
        obtain ⟨hk3, hsz3, hi3⟩ := hp
        have hsz3' : Wa.heap.size ≤ W3.heap.size := by simpa using hsz3
        obtain ⟨hr, hl4⟩ := fin none W3 hk3
        refine ⟨_, _, hr, .inl ⟨rfl, ⟨hI.putObj _ hi3 (.inl rfl), hl4⟩, fun r hzr hrl => ?_, by simp; omega⟩⟩
        have hne := hZ r hzr
        rw [World.putObj_heap_other hne, hk3 r (.inr hzr) (by rw [hsz2]; omega), World.putObj_heap_other hne]
        exact hba.block r hrl
      | ret =>
        obtain ⟨hk3, hi3⟩ := hp
        obtain ⟨hr, hl4⟩ := fin (some .ret) W3 hk3
        exact ⟨_, _, hr, .inr ⟨rfl, ⟨.ret, (hIx _).putObj _ hi3 (.inl rfl), hl4⟩, fun r hzr hrl => (by rw [World.putObj_heap_other (hZ r hzr), hk3 r (.inr hzr) (by rw [hsz2]; omega), World.putObj_heap_other (hZ r hzr)]; exact hba.block r hrl)⟩⟩
      | exit id =>
        obtain ⟨hk3, hi3⟩ := hp
        obtain ⟨hr, hl4⟩ := fin (some (.exit id)) W3 hk3
        exact ⟨_, _, hr, .inr ⟨rfl, ⟨.exit id, (hIx _).putObj _ hi3 (.inl rfl), hl4⟩, fun r hzr hrl => (by rw [World.putObj_heap_other (hZ r hzr), hk3 r (.inr hzr) (by rw [hsz2]; omega), World.putObj_heap_other (hZ r hzr)]; exact hba.block r hrl)⟩⟩
      | goto t =>
        obtain ⟨hk3, hi3⟩ := hp
        obtain ⟨hr, hl4⟩ := fin (some (.goto t)) W3 hk3
        exact ⟨_, _, hr, .inr ⟨rfl, ⟨.goto t, (hIx _).putObj _ hi3 (.inl rfl), hl4⟩, fun r hzr hrl => (by rw [World.putObj_heap_other (hZ r hzr), hk3 r (.inr hzr) (by rw [hsz2]; omega), World.putObj_heap_other (hZ r hzr)]; exact hba.block r hrl)⟩⟩
      | panic ch => exact hp.elim
      | outgrown => exact hp.elim
    · rintro e W2 ⟨⟨v, rfl⟩, (⟨xs, hS, hi, hl⟩ | ⟨pre, hSp, c, hi, hl⟩)⟩
      · exact ⟨none, _, by have := run_endLoop (P := P) hl (by rw [hrec]; simp); rw [hrec] at this; exact this, hdone xs _ hS (hI.putObj _ hi (.inl rfl))⟩
      · exact ⟨some c, _, by have := run_endLoop (P := P) hl (by rw [hrec]; simp); rw [hrec] at this; exact this, hstop c pre _ hSp ((hIx c).putObj _ hi (.inl rfl))⟩
end Go.Proofs.YtlibjfmafpiopaaGreatDoor
