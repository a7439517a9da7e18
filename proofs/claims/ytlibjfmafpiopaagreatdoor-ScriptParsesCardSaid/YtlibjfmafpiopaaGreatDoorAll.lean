/- The program's reading of all lines: the contract. -/
import Derived.Test.YtlibjfmafpiopaaGreatDoorReadB
namespace Go.Proofs.YtlibjfmafpiopaaGreatDoor
open Go.RowKit Go.Shelf Scr
attribute [local go_sem] Oper.semAt_some

theorem callsIn_any {l n : Nat} {f : FuncId} {args : Array Value} {w : World} {R : Ending → World → Prop} (h : Calls Tryz.prog f args w R) : CallsIn (Fence.wide.inRound l) n Tryz.prog f args w R :=
  ⟨trivial, fun cs _ => let ⟨e, w', fr, r, s, x⟩ := h cs; ⟨e, w', fr, r, comesIn_wide.2 s, x⟩⟩

theorem wpListIn_app {F : Fence} {n : Nat} {P : Program} {w : World} {ops : Array Oper} {rest : List Oper} {o : Oper} {a : Act} {Q : Exit → Act → World → Prop} (hgd : o.guard = none) (s x : Operand) (t : TypeId)
    (ho : o.op = .call { callee := .builtin .append, args := #[s, x], argTypes := #[t, t] })
    (base : Nat) (e : TypeId) (i : TypeInfo) (z : Value) (size bytes : Nat) (ht : P.underlying t = some (.slice e)) (hi : P.info? e = some i) (hz : i.zero = some z)
    (hsize : i.size = size) (hby : i.bytes = bytes) (hzs : z.cells.size = size) (hsz : 0 < size)
    (v : Value) (k : Nat) (xs : List Value) (hv : a.eval s = v) (hown : w.ownsRow base e size v k xs)
    (A : Option Addr) (m c : Nat) (us : List Value) (hx : a.eval x = .slice A m c) (hs : Src w size A m us) (h1 : ∀ u ∈ us, u.oneCell' = true)
    (h63 : k + m ≤ maxLen) (hb : (k + m) * bytes ≤ 140737488355328) (hbase : base ≤ w.heap.size)
    (h : ∀ v' w', w'.ownsRow base e size v' (k + m) (xs ++ us) → w.grownBy w' v.ownBlock → (v'.ownBlock = v.ownBlock ∨ v'.ownBlock = some w.heap.size) → wpListIn F n P ops Q rest (a.put o.dst v') w') : wpListIn F n P ops Q (o :: rest) a w := by
  refine wpListIn_plain hgd fun K hK' => ?_
  obtain ⟨v', w', hr, a2, a3, a4⟩ := run_app (P := P) w o.type ht hi hz hsize hby hzs hsz hown c hs h1 h63 hb hbase
  unfold Oper.wpIn
  refine ⟨?_, ?_⟩
  · simp [Oper.about, ho, resolve, Target.leads, Sem.run_pure]
  · rw [Oper.semAt_plain F _ _ (by rw [ho]; intro c hc'; cases hc')]
    simp [execOp, ho, resolve, invoke, builtin, hv, hx, hr, Result.andThen]
    exact hK' _ _ (h v' w' a2 a3 a4)

/-- What the loop over the lines keeps. -/
structure AllS (w W : World) (n : Nat) (outs : List Cmd) (Y : Nat → Prop) : Prop where
  lb : ∃ v cs, W.heap[w.heap.size]? = some (.cells #[v] 23 (0, 0)) ∧ W.ownsRow (w.heap.size + 8) 33 6 v outs.length cs ∧ Cmds W (w.heap.size + 8) (fun b => v.ownBlock = some b ∨ Y b) outs cs ∧ (∀ b, v.ownBlock = some b → ¬ Y b)
  eb : W.heap[w.heap.size + 1]? = some (.cells #[.nilIface] 55 (0, 0))
  ab : W.heap[w.heap.size + 2]? = some (.cells #[.int .i64 n] 3 (0, 0))
  bl : Below w.heap.size w W

theorem AllS.keep {w A B : World} {n : Nat} {outs : List Cmd} {Y : Nat → Prop} (h : AllS w A n outs Y) (hos : B.os = A.os) (htp : B.tape = A.tape) (hout : B.output = A.output) (hz : A.heap.size ≤ B.heap.size)
    (hY : ∀ b, Y b → w.heap.size + 3 ≤ b) (hk : ∀ b, b < A.heap.size → ¬ Y b → B.heap[b]? = A.heap[b]?) : AllS w B n outs Y := by
  obtain ⟨⟨v, cs, h1, h2, h3, h4⟩, h5, h6, h7⟩ := h
  have l1 := (Array.getElem?_eq_some_iff.1 h1).1
  have l5 := (Array.getElem?_eq_some_iff.1 h5).1
  have l6 := (Array.getElem?_eq_some_iff.1 h6).1
  refine ⟨⟨v, cs, (hk _ l1 (fun e => by have := hY _ e; omega)).trans h1, ?_, h3.grown hz (fun b hl hn => hk b hl fun e => hn (.inr e)) (fun _ _ e => e), h4⟩,
    (hk _ l5 (fun e => by have := hY _ e; omega)).trans h5, (hk _ l6 (fun e => by have := hY _ e; omega)).trans h6, h7.trans ⟨hos, htp, hout, hz, fun b hb => hk b (by have := h7.size; omega) (fun e => by have := hY _ e; omega)⟩⟩
  refine ⟨h2.1, ?_⟩
  rcases h2.2 with h0 | ⟨g, cap, cur, rfl, a, b, c⟩
  · exact .inl h0
  · exact .inr ⟨g, cap, cur, rfl, a, (hk g (Array.getElem?_eq_some_iff.1 b).1 (h4 g rfl)).trans b, c⟩

theorem AllS.grown {w A B : World} {n : Nat} {outs : List Cmd} {Y : Nat → Prop} {row : Option Nat} (h : AllS w A n outs Y) (hY : ∀ b, Y b → w.heap.size + 3 ≤ b) (hg : A.grownBy B row) (hr : ∀ r, row = some r → Y r) : AllS w B n outs Y :=
  h.keep hg.os hg.tape hg.output hg.size hY fun b hl hn => hg.block b hl (fun e => hn (hr b e.symm))

theorem AllS.below {w A B : World} {n : Nat} {outs : List Cmd} {Y : Nat → Prop} (h : AllS w A n outs Y) (hY : ∀ b, Y b → w.heap.size + 3 ≤ b) (hb : Below A.heap.size A B) : AllS w B n outs Y :=
  h.keep hb.os hb.tape hb.output hb.size hY fun b hl _ => hb.block b hl

/-- The blocks that change are others; they lie apart from what is kept. -/
theorem AllS.widen {w A : World} {n : Nat} {outs : List Cmd} {Y Y' : Nat → Prop} (h : AllS w A n outs Y) (hY : ∀ b, b < A.heap.size → Y' b → Y b) : AllS w A n outs Y' := by
  obtain ⟨⟨v, cs, h1, h2, h3, h4⟩, h5, h6, h7⟩ := h
  refine ⟨⟨v, cs, h1, h2, h3.grown (Nat.le_refl _) (fun _ _ _ => rfl) (fun b hl e => e.elim .inl fun e => .inr (hY b hl e)), fun b e hy => h4 b e (hY b (World.ownsRow.lt h2 b e).2 hy)⟩, h5, h6, h7⟩

/-- The end at a line that is wrong. -/
structure ErrS (a0 a1 a3 : Addr) (w W : World) (at_ x : Int) (Y : Nat → Prop) : Prop where
  lb : W.heap[w.heap.size]? = some (.cells #[.slice none 0 0] 23 (0, 0))
  eb : ∃ eb a, W.heap[w.heap.size + 1]? = some (.cells #[.iface 93 (.pointer (some ⟨eb, 0, none⟩))] 55 (0, 0)) ∧ W.heap[eb]? = some (.cells #[.int .i64 at_, .iface 200 (.pointer (some a))] 95 (0, 0)) ∧ errAt a0 a1 a3 x a ∧ ¬ Y eb ∧ w.heap.size + 3 ≤ eb
  bl : Below w.heap.size w W

theorem ErrS.keep {a0 a1 a3 : Addr} {w A B : World} {at_ x : Int} {Y : Nat → Prop} (h : ErrS a0 a1 a3 w A at_ x Y) (hos : B.os = A.os) (htp : B.tape = A.tape) (hout : B.output = A.output) (hz : A.heap.size ≤ B.heap.size)
    (hY : ∀ b, Y b → w.heap.size + 3 ≤ b) (hk : ∀ b, b < A.heap.size → ¬ Y b → B.heap[b]? = A.heap[b]?) : ErrS a0 a1 a3 w B at_ x Y := by
  obtain ⟨h1, ⟨eb, a, h2, h3, h4, h5, h6⟩, h7⟩ := h
  have l1 := (Array.getElem?_eq_some_iff.1 h1).1
  have l2 := (Array.getElem?_eq_some_iff.1 h2).1
  have l3 := (Array.getElem?_eq_some_iff.1 h3).1
  exact ⟨(hk _ l1 (fun e => by have := hY _ e; omega)).trans h1, ⟨eb, a, (hk _ l2 (fun e => by have := hY _ e; omega)).trans h2, (hk _ l3 h5).trans h3, h4, h5, h6⟩,
    h7.trans ⟨hos, htp, hout, hz, fun b hb => hk b (by have := h7.size; omega) (fun e => by have := hY _ e; omega)⟩⟩

theorem ErrS.grown {a0 a1 a3 : Addr} {w A B : World} {at_ x : Int} {Y : Nat → Prop} {row : Option Nat} (h : ErrS a0 a1 a3 w A at_ x Y) (hY : ∀ b, Y b → w.heap.size + 3 ≤ b) (hg : A.grownBy B row) (hr : ∀ r, row = some r → Y r) : ErrS a0 a1 a3 w B at_ x Y :=
  h.keep hg.os hg.tape hg.output hg.size hY fun b hl hn => hg.block b hl (fun e => hn (hr b e.symm))

theorem ErrS.narrow {a0 a1 a3 : Addr} {w A : World} {at_ x : Int} {Y Y' : Nat → Prop} (h : ErrS a0 a1 a3 w A at_ x Y) (hY : ∀ b, Y' b → Y b) : ErrS a0 a1 a3 w A at_ x Y' := by
  obtain ⟨h1, ⟨eb, a, h2, h3, h4, h5, h6⟩, h7⟩ := h
  exact ⟨h1, ⟨eb, a, h2, h3, h4, fun e => h5 (hY _ e), h6⟩, h7⟩

theorem linesR_nil {x : Bs} {n : Nat} {rest : List Bs} {outs : List Cmd} (h : words x = []) : linesR n (x :: rest) outs = linesR (n + 1) rest outs := by
  show (match words x with | [] => _ | _ :: _ => _) = _
  rw [h]

theorem linesR_hash {x y : Bs} {t : List Bs} {n : Nat} {rest : List Bs} {outs : List Cmd} (h : words x = y :: t) (hh : y.head? = some 35) : linesR n (x :: rest) outs = linesR (n + 1) rest outs := by
  show (match words x with | [] => _ | _ :: _ => _) = _
  rw [h]
  simp only [hh, if_true]

theorem linesR_ok {x y : Bs} {t : List Bs} {n : Nat} {rest : List Bs} {outs : List Cmd} {c : Cmd} (h : words x = y :: t) (hh : y.head? ≠ some 35) (hr : readS (words x) = .ok c) : linesR n (x :: rest) outs = linesR (n + 1) rest (outs ++ [c]) := by
  rw [readS_eq, h] at hr
  show (match words x with | [] => _ | _ :: _ => _) = _
  rw [h]
  simp only [if_neg hh, hr]

theorem linesR_err {x y : Bs} {t : List Bs} {n : Nat} {rest : List Bs} {outs : List Cmd} {e : Int} (h : words x = y :: t) (hh : y.head? ≠ some 35) (hr : readS (words x) = .error e) : linesR n (x :: rest) outs = ([], (n : Int) + 1, e) := by
  rw [readS_eq, h] at hr
  show (match words x with | [] => _ | _ :: _ => _) = _
  rw [h]
  simp only [if_neg hh, hr]

theorem read50_spelt {a0 a1 a3 : Addr} (s : ByteArray) (hs : s.size ≤ 70000) (w : World) (L : Laid a0 a1 a3 w) (hne : words s.data.toList ≠ []) :
    Calls Tryz.prog 50 #[.string s] w fun e w' => Below w.heap.size w w' ∧ ((∃ x a, readS (words s.data.toList) = .error x ∧ errAt a0 a1 a3 x a ∧ e = .returned (.tuple #[.agg #[.string ⟨#[]⟩, .int .i64 0, .string ⟨#[]⟩, .slice none 0 0, .int .i64 0, .slice none 0 0], .iface 200 (.pointer (some a))])) ∨
      ∃ (c : Cmd) (wd id : ByteArray) (Ab : Option Addr) (cb : Nat) (Ak : Option Addr) (ck : Nat), readS (words s.data.toList) = .ok c ∧ Hid (wd = ⟨c.word.toArray⟩ ∧ id = ⟨c.id.toArray⟩) ∧
        e = .returned (.tuple #[.agg #[.string wd, .int .i64 c.kind, .string id, .slice Ab c.bytes.length cb, .int .i64 c.n, .slice Ak c.keep.length ck], .nilIface]) ∧ RdI .u8 w' w.heap.size (.slice Ab c.bytes.length cb) c.bytes ∧ RdI .i64 w' w.heap.size (.slice Ak c.keep.length ck) c.keep) :=
  (read50_call s hs w L hne).mono fun e w' ⟨hb, hc⟩ => ⟨hb, hc.elim (fun ⟨x, a, h1, h2, h3⟩ => .inl ⟨x, a, h1, h2, h3⟩) fun ⟨c, vb, vk, h1, h2, h3, h4⟩ => by
    obtain ⟨Ab, cb, e1, h3'⟩ := h3
    obtain ⟨Ak, ck, e2, h4'⟩ := h4
    subst e1 e2
    exact .inr ⟨c, _, _, Ab, cb, Ak, ck, h1, Lib.hid ⟨rfl, rfl⟩, h2, ⟨Ab, cb, rfl, h3'⟩, ⟨Ak, ck, rfl, h4'⟩⟩⟩

/-- What 'all' answers. -/
def AllPost (a0 a1 a3 : Addr) (w : World) (o : List Cmd × Int × Int) (e : Ending) (w' : World) : Prop :=
  Below w.heap.size w w' ∧ ((∃ outs A cap cs, o = (outs, 0, 0) ∧ e = .returned (.tuple #[.slice A outs.length cap, .nilIface]) ∧ w'.ownsRow w.heap.size 33 6 (.slice A outs.length cap) outs.length cs ∧ Cmds w' w.heap.size (fun b => (Value.slice A outs.length cap).ownBlock = some b) outs cs) ∨
    ∃ at_ x a eb, o = ([], at_, x) ∧ errAt a0 a1 a3 x a ∧ e = .returned (.tuple #[.slice none 0 0, .iface 93 (.pointer (some ⟨eb, 0, none⟩))]) ∧ w'.cell? ⟨eb, 0, none⟩ = some (.int .i64 at_) ∧ w'.cell? ⟨eb, 1, none⟩ = some (.iface 200 (.pointer (some a))))

/-- The world ahead of the range over the lines. -/
def allW (w : World) (s : ByteArray) : World := boxes3 (((w.alloc (.cells #[.slice none 0 0] 23)).alloc (.cells #[.nilIface] 55)).alloc (.cells #[.int .i64 0] 3)) s 10

/-- The blocks that the outer iterator and its loop turn. -/
def Y0 (w : World) (b : Nat) : Prop := w.heap.size + 3 ≤ b ∧ b ≤ w.heap.size + 7

theorem allW_spec (w : World) (s : ByteArray) : (allW w s).heap.size = w.heap.size + 6 ∧ SBox (allW w s) (w.heap.size + 1 + 1 + 1) 10 s ∧ AllS w (allW w s) 0 [] (Y0 w) := by
  have h1 := heap_alloc_new w (.cells #[.slice none 0 0] 23)
  have h2 := heap_alloc_new (w.alloc (.cells #[.slice none 0 0] 23)) (.cells #[.nilIface] 55)
  have h3 := heap_alloc_new ((w.alloc (.cells #[.slice none 0 0] 23)).alloc (.cells #[.nilIface] 55)) (.cells #[.int .i64 0] 3)
  rw [World.size_alloc] at h2 h3
  rw [World.size_alloc] at h3
  have e1 : (((w.alloc (.cells #[.slice none 0 0] 23)).alloc (.cells #[.nilIface] 55)).alloc (.cells #[.int .i64 0] 3)).heap[w.heap.size]? = some (.cells #[.slice none 0 0] 23 (0, 0)) :=
    (Below.heap_alloc _ _ _ (by simp; omega)).trans ((Below.heap_alloc _ _ _ (by simp)).trans h1)
  have e2 : (((w.alloc (.cells #[.slice none 0 0] 23)).alloc (.cells #[.nilIface] 55)).alloc (.cells #[.int .i64 0] 3)).heap[w.heap.size + 1]? = some (.cells #[.nilIface] 55 (0, 0)) :=
    (Below.heap_alloc _ _ _ (by simp)).trans h2
  have hb : Below w.heap.size w (((w.alloc (.cells #[.slice none 0 0] 23)).alloc (.cells #[.nilIface] 55)).alloc (.cells #[.int .i64 0] 3)) :=
    (((Below.refl _ w).alloc (Nat.le_refl _) _).alloc (by simp) _).alloc (by simp; omega) _
  have hz : (((w.alloc (.cells #[.slice none 0 0] 23)).alloc (.cells #[.nilIface] 55)).alloc (.cells #[.int .i64 0] 3)).heap.size = w.heap.size + 1 + 1 + 1 := by simp
  unfold allW
  generalize (((w.alloc (.cells #[.slice none 0 0] 23)).alloc (.cells #[.nilIface] 55)).alloc (.cells #[.int .i64 0] 3)) = A at e1 e2 h3 hb hz
  have hB := boxes3_below A s 10
  rw [hz] at hB
  refine ⟨by rw [boxes3_size, hz], by have := boxes3_box A s 10; rwa [hz] at this, ⟨⟨_, [], (hB.block _ (by omega)).trans e1, World.ownsRow_nil _ _ _ _, .nil, fun b e => by cases e⟩, (hB.block _ (by omega)).trans e2, (hB.block _ (by omega)).trans h3, hb.trans (hB.mono (by omega))⟩⟩

theorem words49_plain (s : ByteArray) (w : World) : Calls Tryz.prog 49 #[.string s] w fun e w' => e = .returned (.func (.func 73) #[] #[.pointer (some ⟨w.heap.size, 0, none⟩)]) ∧ w' = w.alloc (.cells #[.string s] 9) :=
  (callsIn_wide (n := 100)).1 (words49_call 100 s w)

/-- What a round of the outer loop keeps of the blocks that the iterator turns. -/
def FR (w Wb W' : World) : Prop := Wb.heap.size ≤ W'.heap.size ∧ ∀ r, w.heap.size + 3 ≤ r → r ≤ w.heap.size + 7 → r < Wb.heap.size → W'.heap[r]? = Wb.heap[r]?

theorem FR.grown {w Wb A B : World} {row : Option Nat} (h : FR w Wb A) (hg : A.grownBy B row) (hr : ∀ r, row = some r → Wb.heap.size ≤ r) : FR w Wb B :=
  ⟨Nat.le_trans h.1 hg.size, fun r h1 h2 h3 => (hg.block r (by have := h.1; omega) (fun e => by have := hr r e.symm; omega)).trans (h.2 r h1 h2 h3)⟩

theorem FR.below {w Wb A B : World} (h : FR w Wb A) (hb : Below A.heap.size A B) : FR w Wb B :=
  ⟨Nat.le_trans h.1 hb.size, fun r h1 h2 h3 => (hb.block r (by have := h.1; omega)).trans (h.2 r h1 h2 h3)⟩

theorem Cmds.setc {A : World} {lo : Nat} {X : Nat → Prop} {L : List Cmd} {cs : List Value} (hc : Cmds A lo X L cs) {p : Addr} (hp : p.block < lo) (v : Value) : Cmds (A.setCell p v) lo X L cs := by
  induction hc with
  | nil => exact .nil
  | cons hb hk xb xk _ ih => exact .cons (hb.set hp _) (hk.set hp _) xb xk ih

theorem errS_of {a0 a1 a3 : Addr} {w W4 : World} {n : Nat} {outs : List Cmd} {Y : Nat → Prop} (h : AllS w W4 n outs Y) (hn : w.heap.size + 8 ≤ W4.heap.size) (hYn : ¬ Y W4.heap.size) {m x : Int} {a : Addr} (hx : errAt a0 a1 a3 x a) {Wf : World}
    (hW : Wf = (((W4.setCell ⟨w.heap.size, 0, none⟩ (.slice none 0 0)).setCell ⟨w.heap.size + 1, 0, none⟩ (.iface 93 (.pointer (some ⟨W4.heap.size, 0, none⟩)))).alloc (.cells #[.int .i64 m, .iface 200 (.pointer (some a))] 95)).drew) :
    ErrS a0 a1 a3 w Wf m x Y ∧ (∀ r, w.heap.size + 3 ≤ r → r < W4.heap.size → Wf.heap[r]? = W4.heap[r]?) ∧ W4.heap.size ≤ Wf.heap.size := by
  obtain ⟨⟨v, cs, h1, h2, h3, h4⟩, h5, h6, h7⟩ := h
  have l1 := (Array.getElem?_eq_some_iff.1 h1).1
  have l5 := (Array.getElem?_eq_some_iff.1 h5).1
  have a1' : (W4.setCell ⟨w.heap.size, 0, none⟩ (.slice none 0 0)).heap[w.heap.size]? = some (.cells #[.slice none 0 0] 23 (0, 0)) := heap_setCell_same h1 _
  have a2' : (W4.setCell ⟨w.heap.size, 0, none⟩ (.slice none 0 0)).heap[w.heap.size + 1]? = some (.cells #[.nilIface] 55 (0, 0)) := (Below.heap_setCell _ _ _ _ (by simp)).trans h5
  have a3' : ∀ r, r ≠ w.heap.size → (W4.setCell ⟨w.heap.size, 0, none⟩ (.slice none 0 0)).heap[r]? = W4.heap[r]? := fun r hr => Below.heap_setCell _ _ _ _ (by simpa using hr)
  have a4' : (W4.setCell ⟨w.heap.size, 0, none⟩ (.slice none 0 0)).heap.size = W4.heap.size := by simp
  have a5' := h7.setCell (p := ⟨w.heap.size, 0, none⟩) (Nat.le_refl _) (.slice none 0 0)
  generalize W4.setCell ⟨w.heap.size, 0, none⟩ (.slice none 0 0) = A at hW a1' a2' a3' a4' a5'
  have b1 : (A.setCell ⟨w.heap.size + 1, 0, none⟩ (.iface 93 (.pointer (some ⟨W4.heap.size, 0, none⟩)))).heap[w.heap.size + 1]? = some (.cells #[.iface 93 (.pointer (some ⟨W4.heap.size, 0, none⟩))] 55 (0, 0)) := heap_setCell_same a2' _
  have b2 : ∀ r, r ≠ w.heap.size + 1 → (A.setCell ⟨w.heap.size + 1, 0, none⟩ (.iface 93 (.pointer (some ⟨W4.heap.size, 0, none⟩)))).heap[r]? = A.heap[r]? := fun r hr => Below.heap_setCell _ _ _ _ (by simpa using hr)
  have b3 : (A.setCell ⟨w.heap.size + 1, 0, none⟩ (.iface 93 (.pointer (some ⟨W4.heap.size, 0, none⟩)))).heap.size = W4.heap.size := by simp [a4']
  have b4 := a5'.setCell (p := ⟨w.heap.size + 1, 0, none⟩) (by simp) (.iface 93 (.pointer (some ⟨W4.heap.size, 0, none⟩)))
  generalize A.setCell ⟨w.heap.size + 1, 0, none⟩ (.iface 93 (.pointer (some ⟨W4.heap.size, 0, none⟩))) = B at hW b1 b2 b3 b4
  have c1 := heap_alloc_new B (.cells #[.int .i64 m, .iface 200 (.pointer (some a))] 95)
  have c2 : ∀ r, r < B.heap.size → (B.alloc (.cells #[.int .i64 m, .iface 200 (.pointer (some a))] 95)).heap[r]? = B.heap[r]? := fun r hr => Below.heap_alloc _ _ _ hr
  have c3 : (B.alloc (.cells #[.int .i64 m, .iface 200 (.pointer (some a))] 95)).heap.size = W4.heap.size + 1 := by simp [b3]
  have c4 := b4.alloc (by omega) (.cells #[.int .i64 m, .iface 200 (.pointer (some a))] 95)
  rw [b3] at c1
  generalize B.alloc (.cells #[.int .i64 m, .iface 200 (.pointer (some a))] 95) = C at hW c1 c2 c3 c4
  subst hW
  refine ⟨⟨(c2 _ (by omega)).trans ((b2 _ (by omega)).trans a1'), ⟨W4.heap.size, a, (c2 _ (by omega)).trans b1, c1, hx, hYn, by omega⟩, c4.drew⟩, fun r h1 h2 => (c2 r (by omega)).trans ((b2 r (by omega)).trans (a3' r (by omega))), ?_⟩
  show W4.heap.size ≤ C.heap.size
  omega

theorem app_box {w W4 w6 : World} {v : Value} (l14 : W4.heap[w.heap.size]? = some (.cells #[v] 23 (0, 0))) (hob : ∀ b, v.ownBlock = some b → w.heap.size + 8 ≤ b) {o : Obj} (hg : (W4.alloc o).grownBy w6 v.ownBlock) : w6.heap[w.heap.size]? = some (.cells #[v] 23 (0, 0)) := by
  have l := (Array.getElem?_eq_some_iff.1 l14).1
  exact (hg.block _ (by simp; omega) (fun e => by have := hob _ e.symm; omega)).trans ((Below.heap_alloc _ _ _ l).trans l14)

theorem app_all {w W' W4 w6 : World} {n : Nat} {outs : List Cmd} {Y : Nat → Prop} {v v6 : Value} {cs : List Value} {c : Cmd} (l1 : W'.heap[w.heap.size]? = some (.cells #[v] 23 (0, 0))) (l2 : W'.ownsRow (w.heap.size + 8) 33 6 v outs.length cs)
    (l3 : Cmds W' (w.heap.size + 8) (fun b => v.ownBlock = some b ∨ Y b) outs cs) (l4 : ∀ b, v.ownBlock = some b → ¬ Y b) (e1 : W'.heap[w.heap.size + 1]? = some (.cells #[.nilIface] 55 (0, 0))) (e2 : W'.heap[w.heap.size + 2]? = some (.cells #[.int .i64 n] 3 (0, 0)))
    (bl : Below w.heap.size w W') (hb : Below W'.heap.size W' W4) (hY : ∀ b, Y b → w.heap.size + 3 ≤ b) (hYs : ∀ b, Y b → b < W'.heap.size) (hN : w.heap.size + 8 ≤ W'.heap.size) {vb vk : Value} (rb : RdI .u8 W4 W'.heap.size vb c.bytes) (rk : RdI .i64 W4 W'.heap.size vk c.keep)
    {o : Obj} (hg : (W4.alloc o).grownBy w6 v.ownBlock) (hat : v6.ownBlock = v.ownBlock ∨ v6.ownBlock = some (W4.alloc o).heap.size) (ho : w6.ownsRow (w.heap.size + 8) 33 6 v6 (outs.length + 1) (cs ++ (cmdCells c vb vk).toList)) :
    AllS w (w6.setCell ⟨w.heap.size, 0, none⟩ v6) n (outs ++ [c]) Y ∧ (∀ r, Y r → (w6.setCell ⟨w.heap.size, 0, none⟩ v6).heap[r]? = W'.heap[r]?) ∧ W'.heap.size ≤ (w6.setCell ⟨w.heap.size, 0, none⟩ v6).heap.size := by
  have hz := hb.size
  have hs := hg.size
  simp at hs
  have hvl : ∀ b, v.ownBlock = some b → w.heap.size + 8 ≤ b ∧ b < W'.heap.size := fun b e => World.ownsRow.lt l2 b e
  have blk : ∀ b, b < W'.heap.size → v.ownBlock ≠ some b → w6.heap[b]? = W'.heap[b]? := fun b hl hne => (hg.block b (by simp; omega) (fun e => hne e.symm)).trans ((Below.heap_alloc _ _ _ (by omega)).trans (hb.block b hl))
  have set : ∀ b, b ≠ w.heap.size → (w6.setCell ⟨w.heap.size, 0, none⟩ v6).heap[b]? = w6.heap[b]? := fun b hb => Below.heap_setCell _ _ _ _ (by simpa using hb)
  have hsn := Cmds.snoc (L := outs) (cs := cs) (X := fun b => v.ownBlock = some b ∨ Y b) (rb.lo (lo' := w.heap.size + 8) hN) (rk.lo (lo' := w.heap.size + 8) hN)
    (fun h0 b e hx => by have h1 := (rb.lt h0 e).1; rcases hx with hx | hx; have h2 := (hvl b hx).2; omega; have h2 := hYs b hx; omega) (fun h0 b e hx => by have h1 := (rk.lt h0 e).1; rcases hx with hx | hx; have h2 := (hvl b hx).2; omega; have h2 := hYs b hx; omega)
    (l3.grown (w' := W4) hz (fun b hlt _ => hb.block b hlt) (fun b _ h => h))
  have hsn6 : Cmds w6 (w.heap.size + 8) (fun b => v6.ownBlock = some b ∨ Y b) (outs ++ [c]) (cs ++ (cmdCells c vb vk).toList) := hsn.grown (by omega)
    (fun b hlt hx => (hg.block b (by simp; omega) (fun e => hx (.inl e.symm))).trans (Below.heap_alloc _ _ _ hlt))
    (fun b hlt e => e.elim (fun e => by
      rcases hat with h1 | h1
      · exact .inl (h1.symm.trans e)
      · have h2 := Option.some.inj (h1.symm.trans e)
        simp at h2
        omega) .inr)
  refine ⟨⟨⟨v6, _, heap_setCell_same ((blk _ (by omega) (fun e => by have := (hvl _ e).1; omega)).trans l1) _, ?_, Cmds.setc hsn6 (by simp) _, ?_⟩, (set _ (by omega)).trans ((blk _ (by omega) (fun e => by have := (hvl _ e).1; omega)).trans e1), (set _ (by omega)).trans ((blk _ (by omega) (fun e => by have := (hvl _ e).1; omega)).trans e2), ?_⟩, ?_, ?_⟩
  · rw [List.length_append]
    exact own_set ho (by simp) _
  · intro b e hy
    rcases hat with h1 | h1
    · exact l4 b (h1.symm.trans e) hy
    · have h2 := Option.some.inj (h1.symm.trans e)
      have h3 := hYs b hy
      simp at h2
      omega
  · exact (bl.trans ⟨hg.os.trans hb.os, hg.tape.trans hb.tape, hg.output.trans hb.output, by omega, fun b hl => blk b (by omega) (fun e => by have := (hvl _ e).1; omega)⟩).setCell (by simp) _
  · intro r hr
    exact (set r (by have := hY r hr; omega)).trans (blk r (hYs r hr) (fun e => l4 r e hr))
  · simp
    omega

theorem AllS.step {w A : World} {n : Nat} {outs : List Cmd} {Y : Nat → Prop} (h : AllS w A n outs Y) (_hY : ∀ b, Y b → w.heap.size + 3 ≤ b) (v : Value) (hv : v = .int .i64 ((n + 1 : Nat) : Int)) : AllS w (A.setCell ⟨w.heap.size + 2, 0, none⟩ v) (n + 1) outs Y := by
  subst hv
  obtain ⟨⟨v, cs, h1, h2, h3, h4⟩, h5, h6, h7⟩ := h
  have set : ∀ b, b ≠ w.heap.size + 2 → (A.setCell ⟨w.heap.size + 2, 0, none⟩ (.int .i64 ((n + 1 : Nat) : Int))).heap[b]? = A.heap[b]? := fun b hb => Below.heap_setCell _ _ _ _ (by simpa using hb)
  refine ⟨⟨v, cs, (set _ (by omega)).trans h1, own_set h2 (by simp) _, ?_, h4⟩, (set _ (by omega)).trans h5, heap_setCell_same h6 _, h7.setCell (by simp) _⟩
  exact Cmds.setc h3 (by simp) _

theorem all_end {N D n c : Nat} {A : Option Addr} {wz : World} {tm : Array Value} {u : Value} {R : Ending → World → Prop} (h1 : wz.heap[N]? = some (.cells #[.slice A n c] 23 (0, 0))) (h2 : wz.heap[N + 1]? = some (.cells #[u] 55 (0, 0)))
    (hdk : wz.heap[D]? = some (.deferred (some []))) (hD1 : D ≠ N) (hD2 : D ≠ N + 1) (t2 : tm[2]?.getD undef = .pointer (some ⟨N, 0, none⟩)) (t3 : tm[3]?.getD undef = .pointer (some ⟨N + 1, 0, none⟩))
    (hR : R (.returned (.tuple #[.slice A n c, u])) (wz.putObj D (.deferred none))) :
    bodyPostM Fence.wide 100 Tryz.prog Tryz.f22 R .ret { tmps := tm, defers := [{ target := .collected D, args := #[] }] } wz := by
  have h1' : (wz.putObj D (.deferred none)).heap[N]? = some (.cells #[.slice A n c] 23 (0, 0)) := (World.putObj_heap_other (Ne.symm hD1)).trans h1
  have h2' : (wz.putObj D (.deferred none)).heap[N + 1]? = some (.cells #[u] 55 (0, 0)) := (World.putObj_heap_other (Ne.symm hD2)).trans h2
  have q0 := (cell_of_row _ _ 0 _ _ _ h1')
  have q1 := (cell_of_row _ _ 0 _ _ _ h2')
  generalize hw : wz.putObj D (.deferred none) = wp at q0 q1 h1' h2' hR
  refine leaves_one (v := .tuple #[.slice A n c, u]) hdk ?_ (by rw [hw]; exact hR)
  rw [hw]
  simp [results, Tryz.results22, go_sem, q0, q1, t2, t3]

theorem cmds_put {A : World} {lo D : Nat} {X : Nat → Prop} {L : List Cmd} {cs : List Value} (hc : Cmds A lo X L cs) {d : Option (List Deferred)} (hd : A.heap[D]? = some (.deferred d)) (o : Obj) : Cmds (A.putObj D o) lo X L cs := by
  induction hc with
  | nil => exact .nil
  | cons hb hk xb xk _ ih => exact .cons (hb.put hd _) (hk.put hd _) xb xk ih

theorem own_put {w : World} {base D : Nat} {e : TypeId} {size : Nat} {v : Value} {n : Nat} {xs : List Value} (h : w.ownsRow base e size v n xs) {d : Option (List Deferred)} (hd : w.heap[D]? = some (.deferred d)) (o : Obj) : (w.putObj D o).ownsRow base e size v n xs := by
  refine ⟨h.1, ?_⟩
  rcases h.2 with h0 | ⟨g, cap, cur, rfl, a, b, c⟩
  · exact .inl h0
  · exact .inr ⟨g, cap, cur, rfl, a, (World.putObj_heap_other (fun e => by subst e; rw [hd] at b; cases b)).trans b, c⟩

theorem cmds_lessX {w : World} {lo : Nat} {X X' : Nat → Prop} {L : List Cmd} {cs : List Value} (h : Cmds w lo X L cs) (hX : ∀ b, X' b → X b) : Cmds w lo X' L cs := by
  induction h with
  | nil => exact .nil
  | cons hb hk xb xk _ ih => exact .cons hb hk (fun h0 b e hx => xb h0 b e (hX b hx)) (fun h0 b e hx => xk h0 b e (hX b hx)) ih

set_option maxRecDepth 100000 in
set_option maxHeartbeats 4000000 in
theorem all22_call {a0 a1 a3 : Addr} (s : ByteArray) (hs : s.size ≤ 65536) (w : World) (L : Laid a0 a1 a3 w) :
    Calls Tryz.prog 22 #[.string s] w fun e w' => AllPost a0 a1 a3 w (linesR 0 (split 10 s.data.toList) []) e w' := by
  have HL := Lib.hid L
  clear L
  obtain ⟨i0, hi0, hz0, hz1, hz2⟩ := info_parts info33
  refine (callsIn_wide (n := 100)).1 (callsIn_of_wp_marks Tryz.func22 rfl trivial ?_ rfl)
  simp only [Tryz.ntmps22, List.size_toArray, List.length_cons, List.length_nil, Nat.reduceAdd, Nat.reduceSub, Array.replicate_succ, Array.replicate_zero, List.push_toArray, List.append_toArray, List.nil_append, List.cons_append]
  gi_wp2
  refine ⟨trivial, (boxes3_call (100 - 1) s 10 _).mono ?_⟩
  rintro e w' ⟨rfl, rfl⟩
  gi_wp2
  obtain ⟨hsz, hbx, hA0⟩ := allW_spec w s
  show Code.wpIn Fence.wide 100 Tryz.prog _ _ _ (allW w s)
  obtain ⟨W0, hW0⟩ : ∃ W0, allW w s = W0 := ⟨_, rfl⟩
  rw [hW0] at hsz hbx hA0 ⊢
  clear hW0
  have HSL := Lib.hid (split_len 10 s.data.toList)
  have HST := Lib.hid (split_total 10 s.data.toList)
  refine wpIn_rangeFunc_Z (F := Fence.wide) rfl (by omega) (gf := 97) (lb := #[.pointer (some ⟨w.heap.size + 1 + 1 + 1 + 1, 0, none⟩), .pointer (some ⟨w.heap.size + 1 + 1 + 1, 0, none⟩), .pointer (some ⟨w.heap.size + 1 + 1 + 1 + 1 + 1, 0, none⟩)]) rfl trivial (enters_of Tryz.func97 (by kernel_rfl) rfl)
    (split_seq (100 - 1) (w.heap.size + 1 + 1 + 1) 10 s W0 hbx (by omega)) (fun r hr => by omega) (Below.refl _ _) (fun _ => rfl)
    (fun (pre : List Bs) W' => ∃ outs, AllS w W' pre.length outs (Y0 w) ∧ outs.length ≤ pre.length ∧ Hid (∀ rest, linesR 0 (pre ++ rest) [] = linesR pre.length rest outs))
    (fun c (pre : List Bs) W' => c = .ret ∧ ∃ at_ x, ErrS a0 a1 a3 w W' at_ x (Y0 w) ∧ Hid (∀ rest, linesR 0 (pre ++ rest) [] = ([], at_, x)))
    (fun s A B row hs hg hr => by obtain ⟨outs, h1, h2⟩ := hs; exact ⟨outs, h1.grown (fun b h => h.1) hg (fun r e => by have := hr r e; unfold Y0; omega), h2⟩)
    (fun c s A B row hs hg hr => by obtain ⟨h0, a, x, h1, h2⟩ := hs; exact ⟨h0, a, x, h1.grown (fun b h => h.1) hg (fun r e => by have := hr r e; unfold Y0; omega), h2⟩)
    ⟨[], hA0, Nat.le_refl _, Lib.hid fun rest => rfl⟩
    (fun x a' W' => ∃ b5, a' = { tmps := #[.string s, undef, .pointer (some ⟨w.heap.size, 0, none⟩), .pointer (some ⟨w.heap.size + 1, 0, none⟩), .pointer (some ⟨w.heap.size + 1 + 1, 0, none⟩), .pointer (some ⟨b5, 0, none⟩), undef, undef, undef, .string s, .func (.func 97) #[] #[.pointer (some ⟨w.heap.size + 1 + 1 + 1 + 1, 0, none⟩), .pointer (some ⟨w.heap.size + 1 + 1 + 1, 0, none⟩), .pointer (some ⟨w.heap.size + 1 + 1 + 1 + 1 + 1, 0, none⟩)], .string ⟨x.toArray⟩, undef, undef, undef, undef, undef, undef, undef, undef, undef, undef, undef, undef, undef, undef, undef, undef, undef, undef, undef, undef, undef, undef, undef, undef, undef], defers := [] } ∧ w.heap.size + 8 ≤ b5 ∧ Boxed W' b5 9 (.string ⟨x.toArray⟩))
    (fun x a' _ A B row hs hg hr => by obtain ⟨b5, h1, h2, h3⟩ := hs; exact ⟨b5, h1, h2, h3.kept hg (fun e => by have := hr _ e.symm; omega)⟩)
    ?assign ?body ?done ?stop
  case assign =>
    rintro pre x W' K ⟨outs, hi, hi2, hi3⟩ hK8 hK
    gi_wp2
    refine hK _ _ ((Below.refl _ _).alloc (Nat.le_refl _) _) ⟨outs, hi.below (fun b h => h.1) ((Below.refl _ _).alloc (Nat.le_refl _) _), hi2, hi3⟩ ⟨W'.heap.size, rfl, by omega, Boxed.new _ _ _⟩
  case body =>
    rintro pre x a' Wb ⟨r0, hr0⟩ ⟨outs, hi, hi2, hi3⟩ ⟨b5, rfl, hb5, hbx5⟩ hp hsz'
    rw [hsz] at hsz' hr0
    have cab : Wb.cell? ⟨w.heap.size + 1 + 1, 0, none⟩ = some (.int .i64 (pre.length : Int)) := by rw [cell_of_row _ _ 0 _ _ _ hi.ab]; rfl
    have fab : Wb.frozen? ⟨w.heap.size + 1 + 1, 0, none⟩ = false := frozen_of_row _ _ 0 _ _ hi.ab
    obtain ⟨xt, hxt⟩ : ∃ xt : ByteArray, (⟨x.toArray⟩ : ByteArray) = xt := ⟨_, rfl⟩
    rw [hxt] at hbx5 ⊢
    have HXT : Hid (xt.data.toList = x) := by rw [← hxt]; exact rfl
    have cb5 := hbx5.cell
    have hpl : pre.length + 1 ≤ 65537 := by
      have h1 := hp.length_le
      have h2 := HSL.out
      rw [← size_list] at h2
      simp at h1
      omega
    have hxl : xt.size ≤ 65536 := by
      rw [size_list, HXT.out]
      have h1 := HST.out x (hp.subset (by simp))
      rw [← size_list] at h1
      omega
    have hb5l := hbx5.lt
    have hne5 : b5 ≠ w.heap.size + 1 + 1 := by omega
    have hne5' : w.heap.size + 1 + 1 ≠ b5 := hne5.symm
    gi_wp2
    refine ⟨trivial, (callsIn_any (words49_plain xt _)).mono ?_⟩
    rintro e W2' ⟨rfl, rfl⟩
    have hi1 := hi.step (fun b h => h.1) (.int .i64 ((pre.length : Int) + 1)) (by simp)
    have hbl1 := Below.heap_setCell Wb ⟨w.heap.size + 1 + 1, 0, none⟩ (.int .i64 ((pre.length : Int) + 1))
    have hs1 : (Wb.setCell ⟨w.heap.size + 1 + 1, 0, none⟩ (.int .i64 ((pre.length : Int) + 1))).heap.size = Wb.heap.size := by simp
    have hi1' : AllS w (Wb.setCell ⟨w.heap.size + 1 + 1, 0, none⟩ (.int .i64 ((pre.length : Int) + 1))) (pre.length + 1) outs (Y0 w) := hi1
    clear hi1
    have hr1 := (hbl1 (w.heap.size + 6 + 1) (by simp)).trans hr0
    have hx1 := (hbl1 b5 (by simpa using hne5)).trans hbx5
    have hfr1 : FR w Wb (Wb.setCell ⟨w.heap.size + 1 + 1, 0, none⟩ (.int .i64 ((pre.length : Int) + 1))) := ⟨by rw [hs1]; exact Nat.le_refl _, fun r h1 h2 h3 => hbl1 r (by simp; omega)⟩
    obtain ⟨W1, hW1⟩ : ∃ W1, Wb.setCell ⟨w.heap.size + 1 + 1, 0, none⟩ (.int .i64 ((pre.length : Int) + 1)) = W1 := ⟨_, rfl⟩
    rw [hW1] at hs1 hi1' hr1 hx1 hfr1 ⊢
    clear hW1 hbl1 cab fab cb5
    have hB2 := heap_alloc_new W1 (.cells #[.string xt] 9)
    have hbA : Below W1.heap.size W1 (W1.alloc (.cells #[.string xt] 9)) := (Below.refl _ _).alloc (Nat.le_refl _) _
    have hs2 : (W1.alloc (.cells #[.string xt] 9)).heap.size = Wb.heap.size + 1 := by simp [hs1]
    have hi2' := hi1'.below (fun b h => h.1) hbA
    have hr2 := (hbA.block _ (Array.getElem?_eq_some_iff.1 hr1).1).trans hr1
    have hx2 : Boxed (W1.alloc (.cells #[.string xt] 9)) b5 9 (.string xt) := (hbA.block _ (Array.getElem?_eq_some_iff.1 hx1).1).trans hx1
    have hfr2 : FR w Wb (W1.alloc (.cells #[.string xt] 9)) := ⟨by rw [hs2]; omega, fun r h1 h2 h3 => (hbA.block r (by omega)).trans (hfr1.2 r h1 h2 h3)⟩
    gi_wp2
    obtain ⟨W2, hW2⟩ : ∃ W2, W1.alloc (.cells #[.string xt] 9) = W2 := ⟨_, rfl⟩
    rw [hW2] at hB2 hs2 hi2' hr2 hx2 hfr2 ⊢
    clear hW2 hbA hi1' hr1 hx1 hfr1
    rw [hs1] at hB2
    clear hs1
    have hiY : AllS w W2 (pre.length + 1) outs (fun b => Y0 w b ∨ (W2.heap.size ≤ b ∧ b ≤ W2.heap.size + 6)) := hi2'.widen fun b hl h => h.elim id fun h => by omega
    have hY2 : ∀ b, (Y0 w b ∨ (W2.heap.size ≤ b ∧ b ≤ W2.heap.size + 6)) → w.heap.size + 3 ≤ b := fun b h => h.elim (fun h => h.1) fun h => by omega
    refine wpIn_rangeFunc_ZN (F := Fence.wide.inRound (W0.heap.size + 1)) rfl (by rw [hsz]; exact hr2) (by omega) (gf := 73) (lb := #[.pointer (some ⟨Wb.heap.size, 0, none⟩)]) rfl trivial (enters_of Tryz.func73 (by kernel_rfl) rfl)
      ((words_seq 97 (by omega) Wb.heap.size xt W2 hB2 (by omega)).inRound _) (fun r hr => by omega) (Below.refl _ _) (fun _ => rfl)
      (fun (pre2 : List Bs) W' => pre2 = [] ∧ AllS w W' (pre.length + 1) outs (fun b => Y0 w b ∨ (W2.heap.size ≤ b ∧ b ≤ W2.heap.size + 6)) ∧ FR w Wb W' ∧ Boxed W' b5 9 (.string xt))
      (fun c (pre2 : List Bs) W' => ∃ y, pre2 = [y] ∧ FR w Wb W' ∧ ((c = .exit 2 ∧ ((y.head? = some 35 ∧ AllS w W' (pre.length + 1) outs (fun b => Y0 w b ∨ (W2.heap.size ≤ b ∧ b ≤ W2.heap.size + 6))) ∨
          (y.head? ≠ some 35 ∧ ∃ c0, readS (words x) = .ok c0 ∧ AllS w W' (pre.length + 1) (outs ++ [c0]) (fun b => Y0 w b ∨ (W2.heap.size ≤ b ∧ b ≤ W2.heap.size + 6))))) ∨
          (c = .ret ∧ y.head? ≠ some 35 ∧ ∃ e, readS (words x) = .error e ∧ ErrS a0 a1 a3 w W' ((pre.length : Int) + 1) e (fun b => Y0 w b ∨ (W2.heap.size ≤ b ∧ b ≤ W2.heap.size + 6)))))
      (fun s A B row hs hg hr => ⟨hs.1, hs.2.1.grown hY2 hg (fun r e => by have := hr r e; omega), hs.2.2.1.grown hg (fun r e => by have := hr r e; omega), hs.2.2.2.kept hg (fun e => by have := hr _ e.symm; omega)⟩)
      (fun c s A B row hs hg hr => by
        obtain ⟨y, h1, h2, h3⟩ := hs
        have hrY : ∀ r, row = some r → (Y0 w r ∨ (W2.heap.size ≤ r ∧ r ≤ W2.heap.size + 6)) := fun r e => by have := hr r e; omega
        refine ⟨y, h1, h2.grown hg (fun r e => by have := hr r e; omega), ?_⟩
        rcases h3 with ⟨rfl, (⟨h4, h5⟩ | ⟨h4, c0, h5, h6⟩)⟩ | ⟨rfl, h4, e, h5, h6⟩
        · exact .inl ⟨rfl, .inl ⟨h4, h5.grown hY2 hg hrY⟩⟩
        · exact .inl ⟨rfl, .inr ⟨h4, c0, h5, h6.grown hY2 hg hrY⟩⟩
        · exact .inr ⟨rfl, h4, e, h5, h6.grown hY2 hg hrY⟩)
      ⟨rfl, hiY, hfr2, hx2⟩
      (fun y a' _ => a' = { tmps := #[.string s, undef, .pointer (some ⟨w.heap.size, 0, none⟩), .pointer (some ⟨w.heap.size + 1, 0, none⟩), .pointer (some ⟨w.heap.size + 1 + 1, 0, none⟩), .pointer (some ⟨b5, 0, none⟩), .string ⟨y.toArray⟩, undef, undef, .string s, .func (.func 97) #[] #[.pointer (some ⟨w.heap.size + 1 + 1 + 1 + 1, 0, none⟩), .pointer (some ⟨w.heap.size + 1 + 1 + 1, 0, none⟩), .pointer (some ⟨w.heap.size + 1 + 1 + 1 + 1 + 1, 0, none⟩)], .string xt, .int .i64 (pre.length : Int), .int .i64 ((pre.length : Int) + 1), .string xt, .func (.func 73) #[] #[.pointer (some ⟨Wb.heap.size, 0, none⟩)], .string ⟨y.toArray⟩, undef, undef, undef, undef, undef, undef, undef, undef, undef, undef, undef, undef, undef, undef, undef, undef, undef, undef, undef, undef], defers := [] })
      (fun _ _ _ _ _ _ hs _ _ => hs)
      ?assign2 ?body2 ?done2 ?stop2
    case assign2 =>
      rintro pre2 y W' K hi _ hK
      gi_wp2
      exact hK _ _ (Below.refl _ _) hi rfl
    case body2 =>
      rintro pre2 y a' W' _ ⟨rfl, h2, h3, h4⟩ rfl hp2 hsz2
      have hyw : y ∈ words xt.data.toList := hp2.subset (by simp)
      have hne : words xt.data.toList ≠ [] := fun e => by rw [e] at hyw; cases hyw
      have hyne := words_ne hyw
      obtain ⟨yt, hyt⟩ : ∃ yt : ByteArray, (⟨y.toArray⟩ : ByteArray) = yt := ⟨_, rfl⟩
      rw [hyt]
      have HYT : Hid (yt.data.toList = y) := by rw [← hyt]; exact rfl
      have hy0 : 0 < yt.size := by rw [size_list, HYT.out]; exact List.length_pos_iff.2 hyne
      obtain ⟨n0, hn0⟩ : ∃ n0, yt[0].toNat = n0 := ⟨_, rfl⟩
      have HHD : Hid (n0 = 35 ↔ y.head? = some 35) := by
        have e4 : y.head? = some yt[0] := by
          have e1 := get_list yt 0 hy0
          rw [e1]
          have e2 : 0 < yt.data.toList.length := by rw [← size_list]; exact hy0
          have e3 := head_get e2
          rw [← e3, HYT.out]
        refine ⟨fun e => ?_, fun e => ?_⟩
        · rw [e4]
          exact congrArg some (UInt8.toNat_inj.1 (by rw [hn0, e]; rfl))
        · rw [e4] at e
          have e5 : yt[0] = 35 := Option.some.inj e
          rw [← hn0, e5]
          rfl
      have H2 := Lib.hid h2
      have H3 := Lib.hid h3
      have cb5 := h4.cell
      have HNE := Lib.hid hne
      clear h2 h3 hyt hyw hyne hne
      by_cases hn35 : n0 = 35
      · have t1 : ((n0 : Int) != 35) = false := by rw [bne_eq_false_iff_eq]; omega
        have HX := Lib.hid (HHD.out.1 hn35)
        clear hn35
        gi_wp2
        exact ⟨fun _ _ _ => rfl, y, rfl, H3.out, .inl ⟨rfl, .inl ⟨HX.out, H2.out⟩⟩⟩
      · have t1 : ((n0 : Int) != 35) = true := by rw [bne_iff_ne]; omega
        have HX : Hid (y.head? ≠ some 35) := fun e => hn35 (HHD.out.2 e)
        clear hn35
        gi_wp2
        have RC := Lib.hid (read50_spelt xt (by omega) W' (HL.out.below H2.out.bl) HNE.out)
        rw [HXT.out] at RC
        refine ⟨trivial, (callsIn_any RC.out).mono ?_⟩
        rintro e W3 ⟨hb3, hcase⟩
        have hA3 := H2.out.below hY2 hb3
        have hF3 := H3.out.below hb3
        rcases hcase with ⟨x3, a3', he3, hea, rfl⟩ | ⟨c3, wd, id3, Ab, cb, Ak, ck, he3, ⟨rfl, rfl⟩, rfl, rb3, rk3⟩
        · have hb4 : Below W3.heap.size W3 (W3.alloc (.cells #[.string ⟨#[]⟩, .int .i64 0, .string ⟨#[]⟩, .slice none 0 0, .int .i64 0, .slice none 0 0] 33)) := (Below.refl _ _).alloc (Nat.le_refl _) _
          have hA4 := hA3.below hY2 hb4
          have hF4 := hF3.below hb4
          have hz3 := hb3.size
          have hz4 := hb4.size
          gi_wp2
          obtain ⟨W4, hW4⟩ : ∃ W4, W3.alloc (.cells #[.string ⟨#[]⟩, .int .i64 0, .string ⟨#[]⟩, .slice none 0 0, .int .i64 0, .slice none 0 0] 33) = W4 := ⟨_, rfl⟩
          rw [hW4] at hb4 hA4 hF4 hz4 ⊢
          clear hW4
          have hfr4 : ∀ r, r < W'.heap.size → W4.heap[r]? = W'.heap[r]? := fun r hr => (hb4.block r (by omega)).trans (hb3.block r hr)
          obtain ⟨v4, cs4, lb4, _, _, _⟩ := hA4.lb
          have cab : W4.cell? ⟨w.heap.size + 1 + 1, 0, none⟩ = some (.int .i64 ((pre.length : Int) + 1)) := by rw [cell_of_row _ _ 0 _ _ _ hA4.ab]; simp
          have clb : W4.cell? ⟨w.heap.size, 0, none⟩ = some v4 := by rw [cell_of_row _ _ 0 _ _ _ lb4]; rfl
          have ceb : W4.cell? ⟨w.heap.size + 1, 0, none⟩ = some .nilIface := by rw [cell_of_row _ _ 0 _ _ _ hA4.eb]; rfl
          have flb := frozen_of_row _ _ 0 _ _ lb4
          have feb := frozen_of_row _ _ 0 _ _ hA4.eb
          have HA4 := Lib.hid hA4
          have HF4 := Lib.hid hF4
          have HR4 := Lib.hid hfr4
          have HEA := Lib.hid hea
          have HE3 := Lib.hid he3
          have hz44 : W'.heap.size ≤ W4.heap.size := Nat.le_trans hz3 hz4
          clear hA4 hF4 hfr4 hea he3 hA3 hF3 hb3 hb4 lb4 hz3 hz4
          have hmix : Tryz.prog.follows Departure.mixedOrders = true := by kernel_rfl
          have n0' : w.heap.size + 8 ≤ W4.heap.size := by omega
          have l1 : w.heap.size < W4.heap.size := by omega
          have l2 : w.heap.size + 1 < W4.heap.size := by omega
          have l3 : w.heap.size + 1 + 1 < W4.heap.size := by omega
          have n1 : w.heap.size ≠ W4.heap.size := by omega
          have n2 : w.heap.size + 1 ≠ W4.heap.size := by omega
          have n3 : w.heap.size + 1 + 1 ≠ W4.heap.size := by omega
          gi_region_elder_o
          all_goals gi_wp2
          all_goals
            obtain ⟨q1, q2, q3⟩ := errS_of (m := (pre.length : Int) + 1) HA4.out n0' (by intro h; rcases h with h | h; have := h.2; omega; omega) HEA.out rfl
            exact ⟨fun r hr hl => (q2 r (by omega) (by omega)).trans (HR4.out r hl), y, rfl, ⟨Nat.le_trans HF4.out.1 q3, fun r h1 h2 h3 => (q2 r h1 (by have := HF4.out.1; omega)).trans (HF4.out.2 r h1 h2 h3)⟩, .inr ⟨rfl, HX.out, x3, HE3.out, q1⟩⟩
        · obtain ⟨⟨v, cs, l1, l2, l3, l4⟩, e1, e2, bl⟩ := H2.out
          obtain ⟨A0, cap0, rfl⟩ := own_form l2
          have hz3 := hb3.size
          have hb4 : Below W'.heap.size W' (W3.alloc (.cells #[.string ⟨c3.word.toArray⟩, .int .i64 c3.kind, .string ⟨c3.id.toArray⟩, .slice Ab c3.bytes.length cb, .int .i64 c3.n, .slice Ak c3.keep.length ck] 33)) := hb3.alloc hz3 _
          have hp4 := heap_alloc_new W3 (.cells #[.string ⟨c3.word.toArray⟩, .int .i64 c3.kind, .string ⟨c3.id.toArray⟩, .slice Ab c3.bytes.length cb, .int .i64 c3.n, .slice Ak c3.keep.length ck] 33)
          have rb4 := rb3.below ((Below.refl _ _).alloc (Nat.le_refl _) (.cells #[.string ⟨c3.word.toArray⟩, .int .i64 c3.kind, .string ⟨c3.id.toArray⟩, .slice Ab c3.bytes.length cb, .int .i64 c3.n, .slice Ak c3.keep.length ck] 33))
          have rk4 := rk3.below ((Below.refl _ _).alloc (Nat.le_refl _) (.cells #[.string ⟨c3.word.toArray⟩, .int .i64 c3.kind, .string ⟨c3.id.toArray⟩, .slice Ab c3.bytes.length cb, .int .i64 c3.n, .slice Ak c3.keep.length ck] 33))
          have hs4 : (W3.alloc (.cells #[.string ⟨c3.word.toArray⟩, .int .i64 c3.kind, .string ⟨c3.id.toArray⟩, .slice Ab c3.bytes.length cb, .int .i64 c3.n, .slice Ak c3.keep.length ck] 33)).heap.size = W3.heap.size + 1 := by simp
          have hbox4 := box6_of hp4
          have ll1 := (Array.getElem?_eq_some_iff.1 l1).1
          have l14 := (hb4.block _ ll1).trans l1
          have l24 : (W3.alloc (.cells #[.string ⟨c3.word.toArray⟩, .int .i64 c3.kind, .string ⟨c3.id.toArray⟩, .slice Ab c3.bytes.length cb, .int .i64 c3.n, .slice Ak c3.keep.length ck] 33)).ownsRow (w.heap.size + 8) 33 6 (.slice A0 outs.length cap0) outs.length cs := own_keep l2 fun b _ hlt => hb4.block b hlt
          have hol : outs.length ≤ 65537 := by omega
          have clb3 : W3.cell? ⟨w.heap.size, 0, none⟩ = some (.slice A0 outs.length cap0) := by rw [cell_of_row _ _ 0 _ _ _ ((hb3.block _ ll1).trans l1)]; rfl
          have flb3 : W3.frozen? ⟨w.heap.size, 0, none⟩ = false := frozen_of_row _ _ 0 _ _ ((hb3.block _ ll1).trans l1)
          have n0' : w.heap.size + 8 ≤ W'.heap.size := by omega
          have k1 : w.heap.size < W3.heap.size := by omega
          have k2 : w.heap.size ≠ W3.heap.size := by omega
          have k3 : w.heap.size + 8 ≤ W3.heap.size + 1 + 1 := by omega
          have HOB := Lib.hid (fun b (e : (Value.slice A0 outs.length cap0).ownBlock = some b) => (World.ownsRow.lt l2 b e).1)
          have HL24 := Lib.hid l24
          have HALL := Lib.hid (⟨l1, l2, l3, l4, e1, e2, bl⟩ : _ ∧ _ ∧ _ ∧ _ ∧ _ ∧ _ ∧ _)
          have HB4 := Lib.hid hb4
          have HRB := Lib.hid rb4
          have HRK := Lib.hid rk4
          have HL14 := Lib.hid l14
          have HHE := Lib.hid he3
          clear l1 l2 l3 l4 e1 e2 bl hb4 rb4 rk4 l14 l24 hbox4 hp4 rb3 rk3 he3 hA3 hF3
          gi_wp2_with (gi_at_builtin; refine wpListIn_app rfl (.tmp 32) (.tmp 34) 23 rfl (w.heap.size + 8) 33 i0 _ 6 96 Tryz.underlying23 hi0 hz0 hz1 hz2 rfl (by decide) (.slice A0 outs.length cap0) outs.length cs rfl (HL24.out.alloc _) (some ⟨W3.heap.size + 1, 0, none⟩) 1 1 (cmdCells c3 (.slice Ab c3.bytes.length cb) (.slice Ak c3.keep.length ck)).toList rfl (src_cmd _ _ _ _ _) (cmd_one _ _ _ _ _ _ _) (by unfold maxLen; omega) (by omega) (by first | (simp; done) | (simp; omega)) ?_; intro v6 w6 hown6 hgrow6 hat6; obtain ⟨A6, k6, rfl⟩ := own_form hown6; have hb6 := app_box HL14.out HOB.out hgrow6; have c6 : w6.cell? ⟨w.heap.size, 0, none⟩ = some (.slice A0 outs.length cap0) := (by rw [cell_of_row _ _ 0 _ _ _ hb6]; rfl); have f6 : w6.frozen? ⟨w.heap.size, 0, none⟩ = false := (by exact frozen_of_row _ _ 0 _ _ hb6); clear hb6)
          obtain ⟨q1, q2, q3⟩ := app_all HALL.out.1 HALL.out.2.1 HALL.out.2.2.1 HALL.out.2.2.2.1 HALL.out.2.2.2.2.1 HALL.out.2.2.2.2.2.1 HALL.out.2.2.2.2.2.2 HB4.out hY2 (fun b h => by rcases h with h | h; have := h.2; omega; omega) n0' HRB.out HRK.out hgrow6 hat6 hown6
          exact ⟨fun r hr hl => q2 r (.inr (by omega)), y, rfl, ⟨Nat.le_trans H3.out.1 q3, fun r h1 h2 h3 => (q2 r (.inl ⟨h1, h2⟩)).trans (H3.out.2 r h1 h2 h3)⟩, .inl ⟨rfl, .inr ⟨HX.out, c3, HHE.out, q1⟩⟩⟩
    case done2 =>
      rintro xs W' rfl ⟨h1, h2, h3, h4⟩
      rw [HXT.out] at h1
      refine ⟨fun r hr hl => h3.2 r (by omega) (by omega) hl, h3.1, outs, ?_, by simp; omega, Lib.hid fun rest => ?_⟩
      · rw [List.length_append]
        exact h2.widen fun b _ h => .inl h
      · rw [List.append_assoc, hi3.out, List.length_append]
        exact linesR_nil h1
    case stop2 =>
      rintro c pre2 W' hp2 ⟨y, rfl, h2, h3⟩
      obtain ⟨t, ht⟩ := hp2
      rw [HXT.out] at ht
      have ht' : words x = y :: t := ht.symm
      rcases h3 with ⟨rfl, (⟨h4, h5⟩ | ⟨h4, c0, h5, h6⟩)⟩ | ⟨rfl, h4, e, h5, h6⟩
      · gi_wp2
        refine ⟨fun r hr hl => h2.2 r (by omega) (by omega) hl, h2.1, outs, ?_, by simp; omega, Lib.hid fun rest => ?_⟩
        · rw [List.length_append]
          exact h5.widen fun b _ h => .inl h
        · rw [List.append_assoc, hi3.out, List.length_append]
          exact linesR_hash ht' h4
      · gi_wp2
        refine ⟨fun r hr hl => h2.2 r (by omega) (by omega) hl, h2.1, outs ++ [c0], ?_, by simp; omega, Lib.hid fun rest => ?_⟩
        · rw [List.length_append]
          exact h6.widen fun b _ h => .inl h
        · rw [List.append_assoc, hi3.out, List.length_append]
          exact linesR_ok ht' h4 h5
      · gi_wp2
        refine ⟨fun r hr hl => h2.2 r (by omega) (by omega) hl, rfl, (pre.length : Int) + 1, e, h6.narrow fun b h => .inl h, Lib.hid fun rest => ?_⟩
        rw [List.append_assoc, hi3.out]
        exact linesR_err ht' h4 h5
  case done =>
    rintro xs W' rfl ⟨outs, hi, hi2, hi3⟩ hK
    simp only [hsz] at hK ⊢
    rename_i KK aK
    refine aK _ _ (wpIn_wide.2 ?_)
    obtain ⟨⟨v, cs, l1, l2, l3, l4⟩, e1, e2, bl⟩ := hi
    obtain ⟨A, cap, rfl⟩ := own_form l2
    have clb : W'.cell? ⟨w.heap.size, 0, none⟩ = some (.slice A outs.length cap) := by rw [cell_of_row _ _ 0 _ _ _ l1]; rfl
    have flb : W'.frozen? ⟨w.heap.size, 0, none⟩ = false := frozen_of_row _ _ 0 _ _ l1
    have ceb : W'.cell? ⟨w.heap.size + 1, 0, none⟩ = some .nilIface := by rw [cell_of_row _ _ 0 _ _ _ e1]; rfl
    have feb : W'.frozen? ⟨w.heap.size + 1, 0, none⟩ = false := frozen_of_row _ _ 0 _ _ e1
    clear hA0 hbx hsz
    go_wp2_with fail
    have a1' : (W'.setCell ⟨w.heap.size, 0, none⟩ (.slice A outs.length cap)).heap[w.heap.size]? = some (.cells #[.slice A outs.length cap] 23 (0, 0)) := heap_setCell_same l1 _
    have a3' : ∀ r, r ≠ w.heap.size → (W'.setCell ⟨w.heap.size, 0, none⟩ (.slice A outs.length cap)).heap[r]? = W'.heap[r]? := fun r hr => Below.heap_setCell _ _ _ _ (by simpa using hr)
    have a5' := bl.setCell (p := ⟨w.heap.size, 0, none⟩) (Nat.le_refl _) (.slice A outs.length cap)
    have o1 := own_set l2 (p := ⟨w.heap.size, 0, none⟩) (by simp) (.slice A outs.length cap)
    have c1 := Cmds.setc l3 (p := ⟨w.heap.size, 0, none⟩) (by simp) (.slice A outs.length cap)
    obtain ⟨B, hB⟩ : ∃ B, W'.setCell ⟨w.heap.size, 0, none⟩ (.slice A outs.length cap) = B := ⟨_, rfl⟩
    rw [hB] at a1' a3' a5' o1 c1 ⊢
    clear hB
    have b1 : (B.setCell ⟨w.heap.size + 1, 0, none⟩ .nilIface).heap[w.heap.size + 1]? = some (.cells #[.nilIface] 55 (0, 0)) := heap_setCell_same ((a3' _ (by omega)).trans e1) _
    have b3 : ∀ r, r ≠ w.heap.size + 1 → (B.setCell ⟨w.heap.size + 1, 0, none⟩ .nilIface).heap[r]? = B.heap[r]? := fun r hr => Below.heap_setCell _ _ _ _ (by simpa using hr)
    have b5 := a5'.setCell (p := ⟨w.heap.size + 1, 0, none⟩) (by simp) .nilIface
    have o2 := own_set o1 (p := ⟨w.heap.size + 1, 0, none⟩) (by simp) .nilIface
    have c2 := Cmds.setc c1 (p := ⟨w.heap.size + 1, 0, none⟩) (by simp) .nilIface
    obtain ⟨C, hC⟩ : ∃ C, B.setCell ⟨w.heap.size + 1, 0, none⟩ .nilIface = C := ⟨_, rfl⟩
    rw [hC] at b1 b3 b5 o2 c2 ⊢
    clear hC
    have hdk := (b3 (w.heap.size + 6) (by omega)).trans ((a3' _ (by omega)).trans hK)
    refine all_end (R := fun e w' => AllPost a0 a1 a3 w (linesR 0 (split 10 s.data.toList) []) e w') (wz := C) ((b3 _ (by omega)).trans a1') b1 hdk (by omega) (by omega) rfl rfl ?_
    have hl := hi3.out []
    rw [List.append_nil] at hl
    refine ⟨below_put b5 (by omega) _, .inl ⟨outs, A, cap, cs, ?_, rfl, own_base (own_put o2 hdk _) (by omega), cmds_lo (cmds_lessX (cmds_put c2 hdk _) (fun b e => .inl e)) (by omega)⟩⟩
    rw [hl]
    exact rfl
  case stop =>
    rintro c pre W' hp ⟨rfl, at_, x, ⟨l1, ⟨eb, a, e1, e2, e3, e4, e5⟩, bl⟩, hl⟩ hK
    gi_wp2
    refine all_end (R := fun e w' => AllPost a0 a1 a3 w (linesR 0 (split 10 s.data.toList) []) e w') (wz := W') l1 e1 hK (by omega) (by omega) rfl rfl ?_
    obtain ⟨rest, hrest⟩ := hp
    have hl2 := hl.out rest
    rw [hrest] at hl2
    have hne : eb ≠ W0.heap.size := fun e => by rw [e, hK] at e2; cases e2
    have hput : (W'.putObj W0.heap.size (.deferred none)).heap[eb]? = some (.cells #[.int .i64 at_, .iface 200 (.pointer (some a))] 95 (0, 0)) := (World.putObj_heap_other hne).trans e2
    refine ⟨below_put bl (by omega) _, .inr ⟨at_, x, a, eb, hl2, e3, rfl, ?_, ?_⟩⟩
    · rw [cell_of_row _ _ 0 _ _ _ hput]; rfl
    · rw [cell_of_row _ _ 1 _ _ _ hput]; rfl
end Go.Proofs.YtlibjfmafpiopaaGreatDoor
