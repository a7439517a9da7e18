/- The program's Print: the contract. -/
import Derived.Test.YtlibjfmafpiopaaGreatDoorPrintA
import Derived.Test.YtlibjfmafpiopaaGreatDoorSpecD
import Derived.StillTailTactics
import Derived.Test.YtlibjfmafpiopaaGreatDoorReadB
namespace Go.Proofs.YtlibjfmafpiopaaGreatDoor
open Go.RowKit Go.Shelf Scr

/-- What may be asked of a command by its size. -/
structure CmdB (c : Cmd) : Prop where
  word : c.word.length ≤ 1048576
  id : c.id.length ≤ 1048576
  bytes : c.bytes.length ≤ 1048576
  keep : c.keep.length ≤ 1048576
  n0 : -9223372036854775808 ≤ c.n
  n1 : c.n ≤ 9223372036854775807
  k01 : ∀ x ∈ c.keep, -9223372036854775808 ≤ x ∧ x ≤ 9223372036854775807

/-- Six cells that hold a command. -/
def CmdAt (w : World) (b o : Nat) (c : Cmd) : Prop :=
  ∃ Ab cb Ak ck, Byts w Ab c.bytes ∧ Ints w Ak c.keep ∧ w.cell? ⟨b, o, none⟩ = some (.string ⟨c.word.toArray⟩) ∧ w.cell? ⟨b, o + 1, none⟩ = some (.int .i64 c.kind) ∧ w.cell? ⟨b, o + 2, none⟩ = some (.string ⟨c.id.toArray⟩) ∧
    w.cell? ⟨b, o + 3, none⟩ = some (.slice Ab c.bytes.length cb) ∧ w.cell? ⟨b, o + 4, none⟩ = some (.int .i64 c.n) ∧ w.cell? ⟨b, o + 5, none⟩ = some (.slice Ak c.keep.length ck)

/-- A slice that reads as commands. -/
structure CmdsR (w : World) (A : Option Addr) (L : List Cmd) : Prop where
  at_ : 0 < L.length → ∃ b off, A = some ⟨b, off, none⟩ ∧ b < w.heap.size ∧ ∀ k c, L[k]? = some c → CmdAt w b (off + k * 6) c
  bd : ∀ c ∈ L, CmdB c
  len : L.length ≤ 1048576

theorem CmdAt.below {w w' : World} {b o : Nat} {c : Cmd} (h : CmdAt w b o c) (hb : Below w.heap.size w w') (hl : b < w.heap.size) : CmdAt w' b o c := by
  obtain ⟨Ab, cb, Ak, ck, h1, h2, h3, h4, h5, h6, h7, h8⟩ := h
  exact ⟨Ab, cb, Ak, ck, h1.below hb, h2.below hb, (hb.cell (p := ⟨b, o, none⟩) hl).trans h3, (hb.cell (p := ⟨b, o + 1, none⟩) hl).trans h4, (hb.cell (p := ⟨b, o + 2, none⟩) hl).trans h5, (hb.cell (p := ⟨b, o + 3, none⟩) hl).trans h6, (hb.cell (p := ⟨b, o + 4, none⟩) hl).trans h7, (hb.cell (p := ⟨b, o + 5, none⟩) hl).trans h8⟩

theorem CmdsR.below {w w' : World} {A : Option Addr} {L : List Cmd} (h : CmdsR w A L) (hb : Below w.heap.size w w') : CmdsR w' A L :=
  ⟨fun h0 => by
    obtain ⟨b, off, e, hl, hc⟩ := h.at_ h0
    exact ⟨b, off, e, Nat.lt_of_lt_of_le hl hb.size, fun k c hk => (hc k c hk).below hb hl⟩, h.bd, h.len⟩

theorem linesP_step {L : List Cmd} {k : Nat} {c : Cmd} (h : L[k]? = some c) : linesP (L.drop k) = match lineR c with
    | .error e => .error e
    | .ok s => (linesP (L.drop (k + 1))).map fun t => s ++ t := by
  have hk : k < L.length := (List.getElem?_eq_some_iff.1 h).1
  rw [List.drop_eq_getElem_cons hk, (List.getElem?_eq_some_iff.1 h).2]
  rfl

theorem tail32_len (M : Nat) : ∀ L : List Bs, (∀ l ∈ L, l.length ≤ M) → (tail32 L).length ≤ L.length * (M + 1)
  | [], _ => by simp [tail32]
  | l :: L, h => by
    have ih := tail32_len M L fun x hx => h x (List.mem_cons_of_mem _ hx)
    have h1 := h l (by simp)
    rw [tail32_cons]
    simp
    rw [Nat.succ_mul]
    omega

theorem rowS_new (w3 : World) (x : Bs) (Ex : Nat → Prop) (hX : ¬ Ex w3.heap.size) :
    RowS (((w3.alloc (.cells #[.string ⟨x.toArray⟩] 9)).alloc (.cells #[.slice (some ⟨w3.heap.size, 0, none⟩) 1 1] 42)).alloc (.cells #[.bool true] 4)) w3.heap.size (w3.heap.size + 1) (w3.heap.size + 1 + 1) Ex [x] true (.slice (some ⟨w3.heap.size, 0, none⟩) 1 1) ∧
      Below w3.heap.size w3 (((w3.alloc (.cells #[.string ⟨x.toArray⟩] 9)).alloc (.cells #[.slice (some ⟨w3.heap.size, 0, none⟩) 1 1] 42)).alloc (.cells #[.bool true] 4)) := by
  have h1 := heap_alloc_new w3 (.cells #[.string ⟨x.toArray⟩] 9)
  have h2 := heap_alloc_new (w3.alloc (.cells #[.string ⟨x.toArray⟩] 9)) (.cells #[.slice (some ⟨w3.heap.size, 0, none⟩) 1 1] 42)
  have h3 := heap_alloc_new ((w3.alloc (.cells #[.string ⟨x.toArray⟩] 9)).alloc (.cells #[.slice (some ⟨w3.heap.size, 0, none⟩) 1 1] 42)) (.cells #[.bool true] 4)
  rw [World.size_alloc] at h2 h3
  rw [World.size_alloc] at h3
  refine ⟨⟨(Below.heap_alloc _ _ _ (by simp)).trans h2, h3, ⟨rfl, .inr ⟨w3.heap.size, 1, _, rfl, Nat.le_refl _, (Below.heap_alloc _ _ _ (by simp; omega)).trans ((Below.heap_alloc _ _ _ (by simp)).trans h1), Nat.le_refl _, by decide, rfl, rfl⟩⟩, fun b e => ?_⟩, (((Below.refl _ w3).alloc (Nat.le_refl _) _).alloc (by simp) _).alloc (by simp; omega) _⟩
  cases e
  exact hX

theorem RowS.keep {w w' : World} {base R O : Nat} {Ex : Nat → Prop} {ws : List Bs} {ok : Bool} {v : Value} (h : RowS w base R O Ex ws ok v) (_hER : Ex R) (_hEO : Ex O) {I : Nat} (hEI : Ex I) (hRI : R ≠ I) (hOI : O ≠ I) (hk : ∀ r, r ≠ I → w'.heap[r]? = w.heap[r]?) : RowS w' base R O Ex ws ok v := by
  refine ⟨(hk _ hRI).trans h.1, (hk _ hOI).trans h.2.1, ?_, h.2.2.2⟩
  refine ⟨h.2.2.1.1, ?_⟩
  rcases h.2.2.1.2 with h0 | ⟨g, cap, cur, rfl, a, b', c⟩
  · exact .inl h0
  · exact .inr ⟨g, cap, cur, rfl, a, (hk g (fun e => h.2.2.2 g rfl (e ▸ hEI))).trans b', c⟩

/-- How long a line may be. -/
theorem line_len {c : Cmd} {s : Bs} (hb : CmdB c) (h : lineS c = .ok s) : s.length ≤ 67108864 := by
  unfold lineS at h
  split at h
  · cases h
  · split at h
    · cases h
    · split at h
      · cases h
        have h1 := hb.word
        have hl : (lettersS (kindS c.word).2).length ≤ 4 := by
          have : ∀ (l cs : Bs), (Lib.trimLeftS l cs).length ≤ l.length := fun l cs => by unfold Lib.trimLeftS; exact (List.dropWhile_sublist _).length_le
          exact Nat.le_trans (this _ _) (kindS_len _)
        have ha : ((lettersS (kindS c.word).2).map (wOf c)).length ≤ 4 := by simpa using hl
        have ha2 : ∀ l ∈ (lettersS (kindS c.word).2).map (wOf c), l.length ≤ 2097153 := by
          intro l hm
          obtain ⟨f, _, rfl⟩ := List.mem_map.1 hm
          unfold wOf
          split
          · have := hb.id; omega
          · split
            · unfold hex
              have := hb.bytes
              split
              · simp
              · rw [hexP_len]; omega
            · have := Lib.itoa_length_le c.n hb.n0 hb.n1
              omega
        have hn : (numsS (kindS c.word).2 c).length ≤ 1048576 := by
          unfold numsS
          split
          · exact hb.keep
          · simp
        have hn2 : ∀ l ∈ (numsS (kindS c.word).2 c).map Lib.itoa, l.length ≤ 21 := by
          intro l hm
          obtain ⟨f, hf, rfl⟩ := List.mem_map.1 hm
          have hk : f ∈ c.keep := by
            unfold numsS at hf
            split at hf
            · exact hf
            · cases hf
          exact Lib.itoa_length_le f (hb.k01 f hk).1 (hb.k01 f hk).2
        have t1 := tail32_len 2097153 _ ha2
        have t2 := tail32_len 21 _ hn2
        unfold restS
        rw [List.length_append, List.length_append, tail32_append, List.length_append]
        rw [List.length_map] at t2
        have e1 : ((lettersS (kindS c.word).2).map (wOf c)).length * (2097153 + 1) ≤ 4 * 2097154 := Nat.mul_le_mul_right _ ha
        have e2 : (numsS (kindS c.word).2 c).length * (21 + 1) ≤ 1048576 * 22 := Nat.mul_le_mul_right _ hn
        simp
        omega
      · cases h

theorem join_tail (x : Bs) (L : List Bs) : Lib.join (x :: L) [32] = x ++ tail32 L := by
  rw [Lib.join_cons]
  unfold Lib.joinTail tail32
  rw [List.flatMap_def]
  rfl

theorem RowS.join {w : World} {base R O : Nat} {Ex : Nat → Prop} {x : Bs} {L : List Bs} {ok : Bool} {v : Value} (h : RowS w base R O Ex (x :: L) ok v) (hl : (x :: L).length ≤ 1048600) (hlen : (x ++ tail32 L).length ≤ 67108864) :
    Calls Tryz.prog 36 #[v, .string ⟨#[32]⟩] w fun e w' => e = .returned (.string ⟨(x ++ tail32 L).toArray⟩) ∧ Below w.heap.size w w' := by
  rcases h.2.2.1.2 with ⟨_, h0⟩ | ⟨g, cap, cur, rfl, a, b, c1, c2, c3, c4⟩
  · cases h0
  · have hj := join_tail x L
    have hm : ((x :: L).map fun l => (⟨l.toArray⟩ : ByteArray)).map (·.data.toList) = x :: L := by
      rw [List.map_map]
      exact List.map_id _
    have hn : ((x :: L).map fun l => (⟨l.toArray⟩ : ByteArray)).length = (x :: L).length := List.length_map ..
    have := Tryz.strings_Join g 0 cap ((x :: L).map fun l => (⟨l.toArray⟩ : ByteArray)) ⟨#[32]⟩ w (fun j y hy => by
      rw [Nat.zero_add, cell_of_row w g j cur 9 (0, 0) b]
      have hjl : j < (x :: L).length := by rw [← hn]; exact (List.getElem?_eq_some_iff.1 hy).1
      have e1 : (cur.toList.take ((x :: L).length * 1))[j]? = (sv (x :: L))[j]? := by rw [c4]
      rw [List.getElem?_take_of_lt (by omega), Array.getElem?_toList] at e1
      rw [e1]
      unfold sv
      rw [List.getElem?_map] at hy ⊢
      cases hq : (x :: L)[j]? with
      | none => rw [hq] at hy; cases hy
      | some l => rw [hq] at hy; cases hy; exact rfl) (Array.getElem?_eq_some_iff.1 b).1 (by rw [hn]; omega) (by rw [hn]; exact c1) (by rw [hm]; show (Lib.join (x :: L) [32]).length ≤ _; rw [hj]; omega)
    rw [hm, hn] at this
    show Calls Tryz.prog 36 #[_, .string ⟨#[32]⟩] w fun e w' => e = .returned (.string ⟨(x ++ tail32 L).toArray⟩) ∧ Below w.heap.size w w'
    rw [← hj]
    exact this

theorem RowS.weak {w : World} {base R O : Nat} {Ex Ex2 : Nat → Prop} {ws : List Bs} {ok : Bool} {v : Value} (h : RowS w base R O Ex ws ok v) (he : ∀ b, Ex2 b → Ex b) : RowS w base R O Ex2 ws ok v :=
  ⟨h.1, h.2.1, h.2.2.1, fun b e hx => h.2.2.2 b e (he b hx)⟩

theorem isB_below {B b : Nat} {bs : List Value} {w w' : World} (h : Lib.IsBuilderF 66 5 B b bs w) (hb : Below w.heap.size w w') : Lib.IsBuilderF 66 5 B b bs w' := by
  have one : ∀ p, Lib.BuilderAtF 66 5 B b p bs w → Lib.BuilderAtF 66 5 B b p bs w' := fun p ⟨h1, v, h2, h3, h4⟩ => by
    refine ⟨h1, v, (hb.block b (Array.getElem?_eq_some_iff.1 h2).1).trans h2, ⟨h3.1, ?_⟩, h4⟩
    rcases h3.2 with h0 | ⟨g, cap, cur, fz, e, a, b', c⟩
    · exact .inl h0
    · exact .inr ⟨g, cap, cur, fz, e, a, (hb.block g (Array.getElem?_eq_some_iff.1 b').1).trans b', c⟩
  exact h.imp (one _) (one _)

theorem take_ints {l : List Int} {j : Nat} (h : j < l.length) (ws : List Bs) (ok : Bool) :
    ws ++ (l.take (j + 1)).map Lib.itoa = (ws ++ (l.take j).map Lib.itoa) ++ [Lib.itoa (el l j)] ∧ (ok && (l.take (j + 1)).all may) = ((ok && (l.take j).all may) && may (el l j)) := by
  have e : l.take (j + 1) = l.take j ++ [el l j] := by
    rw [List.take_succ_eq_append_getElem h]
    congr 1
    unfold el
    simp [List.getD, List.getElem?_eq_getElem h]
  rw [e]
  simp [Bool.and_assoc]

theorem letter_fin {w3 wn wr : World} {X R O I : Nat} {Ex : Nat → Prop} {c : Cmd} {T : ByteArray} {p : Nat} {f : UInt8} {ws : List Bs} {okb : Bool} {v' : Value}
    (hws : (c.word :: (T.data.toList.take p).map (wOf c)) = ws) (hok : (T.data.toList.take p).all (okOf c) = okb)
    (ht : (T.data.toList.take (p + 1)).map (wOf c) = (T.data.toList.take p).map (wOf c) ++ [wOf c f] ∧ (T.data.toList.take (p + 1)).all (okOf c) = ((T.data.toList.take p).all (okOf c) && okOf c f))
    (hrow : RowS wn X R O Ex (ws ++ [wOf c f]) (okb && okOf c f) v') (hit : wn.heap[I]? = some (.stringIter T (p + 1))) (hb : Below X w3 wn) (hpt : p < T.size) (hip : wr.iterPos I = p) :
    (∃ p v, p ≤ T.size ∧ RowS wn X R O Ex (c.word :: (T.data.toList.take p).map (wOf c)) ((T.data.toList.take p).all (okOf c)) v ∧ wn.heap[I]? = some (.stringIter T p) ∧ Below X w3 wn) ∧ T.size - wn.iterPos I < T.size - wr.iterPos I := by
  refine ⟨⟨p + 1, v', hpt, ?_, hit, hb⟩, ?_⟩
  · rw [ht.1, ht.2, hok, ← List.cons_append, hws]
    exact hrow
  · rw [hip, iterPos_of hit]
    omega

set_option maxRecDepth 100000 in
set_option maxHeartbeats 4000000 in
theorem print15_call {a0 a1 a3 : Addr} (A : Option Addr) (cap : Nat) (L : List Cmd) (w : World) (h : CmdsR w A L) (Lw : Laid a0 a1 a3 w) :
    Calls Tryz.prog 15 #[.slice A L.length cap] w fun e w' => e = .returned (.tuple #[.string ⟨(printR L).1.toArray⟩, .int .i64 (printR L).2]) ∧ Below w.heap.size w w' := by
  obtain ⟨o, ho⟩ : ∃ o, printR L = o := ⟨_, rfl⟩
  rw [ho]
  have HO := Lib.hid ho
  have HC := Lib.hid h
  have HL := Lib.hid Lw
  have HB0 := Lib.hid (builder_new w)
  obtain ⟨i0, hi0, hz0, hz1, hz2⟩ := info_parts info9
  have hlen := h.len
  clear ho h Lw
  go_enter Tryz.func15, Tryz.ntmps15
  go_wp2
  go_loopw [17] (fun i wr => ∃ (k : Nat) (out : Bs), i = .int .i64 k ∧ k ≤ L.length ∧ Lib.IsBuilderF 66 5 w.heap.size w.heap.size (Lib.byteCells out) wr ∧ Below w.heap.size w wr ∧ out.length ≤ k * 67108864 ∧ Hid (linesP L = (linesP (L.drop k)).map fun t => out ++ t))
    (fun i _ => L.length - (intOf i).toNat)
  case atStart => exact ⟨0, [], rfl, Nat.zero_le _, HB0.out, by go_grown, Nat.le_refl _, Lib.hid (by cases h : linesP (L.drop 0) <;> rw [List.drop_zero] at h <;> rw [h] <;> rfl)⟩
  case round =>
    rename World => wo
    obtain ⟨k, out, rfl, hk, hbd, hb, hol, hsp⟩ := hrel
    have hz := hb.size
    have HBD := Lib.hid hbd
    clear hbd
    by_cases hlt : k < L.length
    · have k0 : (0 : Int) ≤ (k : Int) := Int.natCast_nonneg _
      have k1 : (k : Int) < (L.length : Int) := by omega
      obtain ⟨c, hc⟩ : ∃ c, L[k]? = some c := ⟨_, List.getElem?_eq_getElem hlt⟩
      have hst := linesP_step hc
      rw [← lineS_eq] at hst
      have HST := Lib.hid hst
      have HCB := Lib.hid (HC.out.bd c (List.mem_of_getElem? hc))
      obtain ⟨b, off, rfl, hbl, hcs⟩ := HC.out.at_ (by omega)
      obtain ⟨Ab, cb, Ak, ck, hby, hin, c0, c1, c2, c3, c4, c5⟩ := (hcs k c hc).below (hb.mono (Nat.le_refl _)) hbl
      have HBY := Lib.hid hby
      have HIN := Lib.hid hin
      obtain ⟨tw, htw⟩ : ∃ t : ByteArray, (⟨c.word.toArray⟩ : ByteArray) = t := ⟨_, rfl⟩
      obtain ⟨ti, hti⟩ : ∃ t : ByteArray, (⟨c.id.toArray⟩ : ByteArray) = t := ⟨_, rfl⟩
      rw [htw] at c0
      rw [hti] at c2
      have HTW : Hid (tw.toList = c.word) := by rw [← htw, toList_mk]; exact rfl
      have HTI : Hid (ti.data.toList = c.id) := by rw [← hti]; exact rfl
      have HTW2 := Lib.hid htw
      have HTI2 := Lib.hid hti
      obtain ⟨kk, fm, HKF, KC⟩ : ∃ (k : Int) (fm : ByteArray), Hid (k = (kindS c.word).1 ∧ fm.data.toList = (kindS c.word).2) ∧ Hid (∀ w, Calls Tryz.prog 27 #[.string tw] w fun e w' => e = .returned (.agg #[.int .i64 k, .string fm]) ∧ Below w.heap.size w w') :=
        ⟨(kindS tw.toList).1, ⟨(kindS tw.toList).2.toArray⟩, Lib.hid (by rw [HTW.out]; exact ⟨rfl, rfl⟩), Lib.hid fun w => known_call tw w⟩
      clear hcs hc hst hby hin htw hti
      go_wp2_with fail
      refine (KC.out _).mono ?_
      rintro e w2 ⟨rfl, hbk⟩
      go_upto_region 6 with fail
      have hz2 := hbk.size
      have hC1 := heap_alloc_new wo (.cells #[.string tw, .int .i64 c.kind, .string ti, .slice Ab c.bytes.length cb, .int .i64 c.n, .slice Ak c.keep.length ck] 33)
      have hs1 : (wo.alloc (.cells #[.string tw, .int .i64 c.kind, .string ti, .slice Ab c.bytes.length cb, .int .i64 c.n, .slice Ak c.keep.length ck] 33)).heap.size = wo.heap.size + 1 := by simp
      have hbA : Below wo.heap.size wo (wo.alloc (.cells #[.string tw, .int .i64 c.kind, .string ti, .slice Ab c.bytes.length cb, .int .i64 c.n, .slice Ak c.keep.length ck] 33)) := (Below.refl _ _).alloc (Nat.le_refl _) _
      have hbB : Below wo.heap.size wo w2 := hbA.trans (hbk.mono (by rw [hs1]; exact Nat.le_succ _))
      have hC2 := (hbk.block wo.heap.size (by rw [hs1]; exact Nat.lt_succ_self _)).trans hC1
      rw [hs1] at hz2
      have hP3 := heap_alloc_new w2 (.cells #[.int .i64 kk, .string fm] 68)
      have hs3 : (w2.alloc (.cells #[.int .i64 kk, .string fm] 68)).heap.size = w2.heap.size + 1 := by simp
      have hC3 : (w2.alloc (.cells #[.int .i64 kk, .string fm] 68)).heap[wo.heap.size]? = _ := (Below.heap_alloc _ _ _ (by omega)).trans hC2
      have hb3 : Below wo.heap.size wo (w2.alloc (.cells #[.int .i64 kk, .string fm] 68)) := hbB.alloc (by omega) _
      obtain ⟨w3, hw3⟩ : ∃ w3, w2.alloc (.cells #[.int .i64 kk, .string fm] 68) = w3 := ⟨_, rfl⟩
      rw [hw3] at hP3 hs3 hC3 hb3 ⊢
      clear hw3 hbA hbB hC1 hC2 hs1 hbk c0 c1 c2 c3 c4 c5
      obtain ⟨P, hP⟩ : ∃ P, w2.heap.size = P := ⟨_, rfl⟩
      rw [hP] at hP3 hs3 hz2 ⊢
      clear hP
      have ck0 : w3.cell? ⟨P, 0, none⟩ = some (.int .i64 kk) := by rw [cell_of_row _ _ 0 _ _ _ hP3]; rfl
      have ck1 : w3.cell? ⟨P, 1, none⟩ = some (.string fm) := by rw [cell_of_row _ _ 1 _ _ _ hP3]; rfl
      obtain ⟨c0, c1, c2, c3, c4, c5, _, _, _, _, _, _⟩ := box6_of hC3
      have HS3 := Lib.hid hs3
      have HZ2 := Lib.hid hz2
      have HP3 := Lib.hid hP3
      have HC3 := Lib.hid hC3
      have HB3 := Lib.hid hb3
      clear hs3 hz2 hP3 hC3 hb3
      by_cases hk0 : kk = 0
      · have tk : (kk == 0) = true := by rw [beq_iff_eq]; exact hk0
        have HE : Hid (o = ([], 221)) := by
          rw [← HO.out]
          unfold printR
          rw [hsp.out, HST.out]
          unfold lineS
          rw [if_pos (by rw [← HKF.out.1]; exact hk0)]
          exact rfl
        clear hk0
        go_wp2_with fail
        go_ret2
        rw [HE.out]
        exact ⟨rfl, hb.trans (HB3.out.mono hz)⟩
      · have tk : (kk == 0) = false := by rw [beq_eq_false_iff_ne]; exact hk0
        have HK0 := Lib.hid hk0
        clear hk0
        obtain ⟨bm, hbm⟩ : ∃ bm, decide (c.kind ≠ kk ∨ kk = 14 ∧ c.keep.length ≠ fm.size) = bm := ⟨_, rfl⟩
        have HBM := Lib.hid hbm
        clear hbm
        have hfs : fm.size ≤ 4 := by rw [size_list, HKF.out.2]; exact kindS_len _
        have hkl := HCB.out.keep
        go_upto_region 8 with fail
        go_cut [28] (fun v wx => v = .bool bm ∧ wx = w3)
        case first =>
          by_cases m1 : c.kind = kk
          · have q1 : (kk != kk) = false := by simp
            have q1' : (c.kind != kk) = false := by rw [bne_eq_false_iff_eq]; exact m1
            by_cases m2 : kk = 14
            · have q2 : (kk == 14) = true := by rw [beq_iff_eq]; exact m2
              by_cases m3 : c.keep.length = fm.size
              · have q3 : ((c.keep.length : Int) != (fm.size : Int)) = false := by rw [bne_eq_false_iff_eq]; omega
                have e : bm = false := by rw [← HBM.out]; exact decide_eq_false (by rintro (h | h); exact h m1; exact h.2 m3)
                clear m1 m2 m3
                go_wp2_with fail
                go_meet
                exact ⟨by rw [e], rfl⟩
              · have q3 : ((c.keep.length : Int) != (fm.size : Int)) = true := by rw [bne_iff_ne]; omega
                have e : bm = true := by rw [← HBM.out]; exact decide_eq_true (.inr ⟨m2, m3⟩)
                clear m1 m2 m3
                go_wp2_with fail
                go_meet
                exact ⟨by rw [e], rfl⟩
            · have q2 : (kk == 14) = false := by rw [beq_eq_false_iff_ne]; exact m2
              have e : bm = false := by rw [← HBM.out]; exact decide_eq_false (by rintro (h | h); exact h m1; exact m2 h.1)
              clear m1 m2
              go_wp2_with fail
              go_meet
              exact ⟨by rw [e], rfl⟩
          · have q1 : (c.kind != kk) = true := by rw [bne_iff_ne]; exact m1
            have e : bm = true := by rw [← HBM.out]; exact decide_eq_true (.inl m1)
            clear m1
            go_wp2_with fail
            go_meet
            exact ⟨by rw [e], rfl⟩
        case rest =>
          obtain ⟨rfl, hwc⟩ := hcut
          rw [hwc]
          clear hwc
          cases bm with
          | true =>
            have HE : Hid (o = ([], 223)) := by
              rw [← HO.out]
              unfold printR
              rw [hsp.out, HST.out]
              unfold lineS
              rw [if_neg (by rw [← HKF.out.1]; exact HK0.out), if_pos (by rw [← HKF.out.1, ← HKF.out.2, ← size_list]; exact of_decide_eq_true HBM.out)]
              exact rfl
            go_wp2_with fail
            go_ret2
            rw [HE.out]
            exact ⟨rfl, hb.trans (HB3.out.mono hz)⟩
          | false =>
            have HTL := Lib.hid (fun w => trimLeft fm ⟨#[42, 107]⟩ w (by decide) (ascii_of_all (by decide)))
            obtain ⟨T, hT⟩ : ∃ T : ByteArray, (⟨(Lib.trimLeftS fm.data.toList [42, 107]).toArray⟩ : ByteArray) = T := ⟨_, rfl⟩
            have HTT : Hid (T.data.toList = lettersS (kindS c.word).2) := by rw [← hT, HKF.out.2]; exact rfl
            have HTL2 : Hid (∀ w, Calls Tryz.prog 31 #[.string fm, .string ⟨#[42, 107]⟩] w fun e w' => e = .returned (.string T) ∧ Below w.heap.size w w') := by
              intro w
              have := HTL.out w
              rw [← hT]
              exact this
            clear hT HTL
            have p0 : P < w3.heap.size := by rw [HS3.out]; exact Nat.lt_succ_self _
            have p1 : P < w3.heap.size + 1 := Nat.lt_succ_of_lt p0
            have p2 : P < w3.heap.size + 1 + 1 := Nat.lt_succ_of_lt p1
            have p3 : P ≠ w3.heap.size := Nat.ne_of_lt p0
            have p4 : P ≠ w3.heap.size + 1 := Nat.ne_of_lt p1
            have p5 : P ≠ w3.heap.size + 1 + 1 := Nat.ne_of_lt p2
            go_wp2_with fail
            refine (HTL2.out _).mono ?_
            rintro e w5 ⟨rfl, hb5⟩
            have hRN := rowS_new w3 c.word (fun b => b = w3.heap.size + 1 ∨ b = w3.heap.size + 1 + 1 ∨ b = w5.heap.size)
            rw [HTW2.out] at hRN
            have hsA : (((w3.alloc (.cells #[.string tw] 9)).alloc (.cells #[.slice (some ⟨w3.heap.size, 0, none⟩) 1 1] 42)).alloc (.cells #[.bool true] 4)).heap.size = w3.heap.size + 1 + 1 + 1 := by simp
            have hz5 := hb5.size
            rw [hsA] at hz5
            obtain ⟨hR5, hbA5⟩ := hRN (by omega)
            have hR5' := hR5.below hb5
            have hb35 : Below w3.heap.size w3 w5 := hbA5.trans (hb5.mono (by rw [hsA]; omega))
            have hI5 := heap_alloc_new w5 (.stringIter T 0)
            have hb6 : Below w5.heap.size w5 (w5.alloc (.stringIter T 0)) := (Below.refl _ _).alloc (Nat.le_refl _) _
            have hs6 : (w5.alloc (.stringIter T 0)).heap.size = w5.heap.size + 1 := by simp
            have hR6 := hR5'.below hb6
            have hb36 := hb35.trans (hb6.mono (by omega))
            clear hRN hR5 hR5' hbA5 hsA hb5 hb35
            go_wp2_with fail
            have hX : w5.iter T 0 = w5.alloc (.stringIter T 0) := rfl
            rw [hX]
            clear hX
            obtain ⟨w6, hw6⟩ : ∃ w6, w5.alloc (.stringIter T 0) = w6 := ⟨_, rfl⟩
            rw [hw6] at hI5 hb6 hs6 hR6 hb36 ⊢
            clear hw6 hb6
            obtain ⟨I, hIe⟩ : ∃ I, w5.heap.size = I := ⟨_, rfl⟩
            rw [hIe] at hI5 hs6 hR6 hz5 ⊢
            clear hIe
            have HR6 := Lib.hid hR6
            have HB36 := Lib.hid hb36
            have HI5 := Lib.hid hI5
            have HZ5 := Lib.hid hz5
            have HS6 := Lib.hid hs6
            have hzX : w3.heap.size ≤ w6.heap.size := by omega
            clear hR6 hb36 hI5 hz5 hs6
            go_loopw [12] (fun u wq => ∃ (p : Nat) (v : Value), p ≤ T.size ∧ RowS wq w3.heap.size (w3.heap.size + 1) (w3.heap.size + 1 + 1) (fun b => b = w3.heap.size + 1 ∨ b = w3.heap.size + 1 + 1 ∨ b = I) (c.word :: (T.data.toList.take p).map (wOf c)) ((T.data.toList.take p).all (okOf c)) v ∧ wq.heap[I]? = some (.stringIter T p) ∧ Below w3.heap.size w3 wq)
              (fun u wq => T.size - wq.iterPos I)
            case atStart => exact ⟨0, _, Nat.zero_le _, HR6.out, HI5.out, HB36.out⟩
            case round =>
              obtain ⟨p, v, hp, hrs, hit, hbq⟩ := hrel
              have HRS := Lib.hid hrs
              have HIT := Lib.hid hit
              have HBQ := Lib.hid hbq
              clear hrs hbq
              by_cases hpt : p < T.size
              · obtain ⟨f8, hf8⟩ : ∃ f, T[p] = f := ⟨_, rfl⟩
                have hfT : T.data.toList[p]? = some f8 := by rw [← hf8, get_list T p hpt]; exact List.getElem?_eq_getElem _
                have hlet : f8 = 105 ∨ f8 = 104 ∨ f8 = 110 := by
                  have := List.mem_of_getElem? hfT
                  rw [HTT.out] at this
                  exact letters_in c.word f8 this
                have HTW3 := Lib.hid (take_words hfT c)
                have hasc : T[p].toNat < 128 := by rw [hf8]; rcases hlet with rfl | rfl | rfl <;> decide
                have hnx := fun ty => Lib.run_next_ascii_at (P := Tryz.prog) wr I T p ty hit hpt hasc
                rw [hf8] at hnx
                have hitp := Lib.hid (iterPos_of hit)
                have hp4 : p ≤ 3 := by
                  have h1 : T.data.toList.length ≤ 4 := by
                    rw [HTT.out]
                    have : ∀ (l cs : Bs), (Lib.trimLeftS l cs).length ≤ l.length := fun l cs => by unfold Lib.trimLeftS; exact (List.dropWhile_sublist _).length_le
                    exact Nat.le_trans (this _ _) (kindS_len _)
                  rw [← size_list] at h1
                  omega
                have hXI : w3.heap.size ≤ I := by have := HZ5.out; omega
                have hrsi := HRS.out.keep (w' := wr.iterAt I T (p + 1)) (.inl rfl) (.inr (.inl rfl)) (I := I) (.inr (.inr rfl)) (by have := HZ5.out; omega) (by have := HZ5.out; omega) (fun r hr => Lib.iterAt_other _ _ _ _ _ hr)
                have hiti := Lib.iterAt_heap wr I T p (p + 1) hit
                have hbi := Lib.below_iterAt HBQ.out hXI T (p + 1)
                have hzi : (wr.iterAt I T (p + 1)).heap.size = wr.heap.size := Lib.iterAt_size _ _ _ _
                clear hit hfT hasc hf8
                rcases hlet with rfl | rfl | rfl
                all_goals
                  go_upto_region 17 with fail
                  obtain ⟨wi, hwi⟩ : ∃ wi, wr.iterAt I T (p + 1) = wi := ⟨_, rfl⟩
                  rw [hwi] at hrsi hiti hbi hzi ⊢
                  have HZI := Lib.hid hzi
                  clear hwi hnx hzi
                · have hlen5 : (c.word :: (T.data.toList.take p).map (wOf c)).length ≤ 4 := by simp; omega
                  have cC2 : wi.cell? ⟨wo.heap.size, 2, none⟩ = some (.string ti) := (hbi.cell (p := ⟨wo.heap.size, 2, none⟩) (by have := HZ2.out; have := HS3.out; simp; omega)).trans c2
                  have cR : wi.cell? ⟨w3.heap.size + 1, 0, none⟩ = some v := by rw [cell_of_row _ _ 0 _ _ _ hrsi.1]; rfl
                  have hIw : I < wi.heap.size := (Array.getElem?_eq_some_iff.1 hiti).1
                  have hzi' : w3.heap.size + 1 + 1 < wi.heap.size := by have := HZ5.out; omega
                  have HNE : Hid (w3.heap.size + 1 ≠ w3.heap.size + 1 + 1) := Nat.ne_of_lt (Nat.lt_succ_self _)
                  have HEX : Hid (∀ b, (b = w3.heap.size + 1 ∨ b = w3.heap.size + 1 + 1 ∨ b = I) → b < wi.heap.size) := fun b hb => by rcases hb with rfl | rfl | rfl <;> omega
                  have HRI := Lib.hid hrsi
                  have HTI3 := Lib.hid hiti
                  have HBI := Lib.hid hbi
                  generalize hWS : (c.word :: (T.data.toList.take p).map (wOf c)) = ws at hrsi hlen5 HRI
                  have HWS := Lib.hid hWS
                  generalize hOK : (T.data.toList.take p).all (okOf c) = okb at hrsi HRI
                  have HOK := Lib.hid hOK
                  clear hrsi hiti hbi hWS hOK
                  go_upto_region 19 with (at_builtin; refine wpList_app rfl (.tmp 64) (.tmp 68) 42 rfl w3.heap.size 9 i0 _ 1 16 Tryz.underlying42 hi0 hz0 hz1 hz2 rfl (by decide) v ws.length (sv ws) rfl (HRI.out.2.2.1.alloc _) (some ⟨wi.heap.size, 0, none⟩) 1 1 [.string ti] rfl (src_new1 _ _ _) (by simp [Value.oneCell']) (by unfold maxLen; omega) (by omega) (by simp; omega) ?_; intro v6 w6' hown6 hgrow6 hat6; obtain ⟨A6, k6, rfl⟩ := own_form hown6; obtain ⟨qR, qF, qB⟩ := HRI.out.app (x := c.id) HNE.out (Nat.le_succ _) (.inl rfl) (.inr (.inl rfl)) HEX.out hgrow6 hat6 (by rw [HTI2.out]; exact hown6); have cR6 : w6'.cell? ⟨w3.heap.size + 1, 0, none⟩ = some v := (by rw [cell_of_row _ _ 0 _ _ _ qB]; rfl); have fR6 := frozen_of_row _ _ 0 _ _ qB)
                  obtain ⟨w7, hw7⟩ : ∃ w7, w6'.setCell ⟨w3.heap.size + 1, 0, none⟩ (.slice A6 (ws.length + 1) k6) = w7 := ⟨_, rfl⟩
                  rw [hw7] at qR qF ⊢
                  clear hw7 cR6 fR6 qB hown6 hgrow6 hat6 cR cC2
                  have hb7 : Below w3.heap.size wi w7 := qF.below (Nat.le_refl _) (by omega)
                  have h37 := HBI.out.trans hb7
                  have cI7 : w7.heap[I]? = some (.stringIter T (p + 1)) := (qF.block I hIw (.inr ⟨.inr (.inr rfl), by have := HZ5.out; omega, by have := HZ5.out; omega⟩)).trans HTI3.out
                  have cC7 : w7.cell? ⟨wo.heap.size, 2, none⟩ = some (.string ti) := (h37.cell (p := ⟨wo.heap.size, 2, none⟩) (by have := HZ2.out; have := HS3.out; simp; omega)).trans c2
                  have cO7 : w7.cell? ⟨w3.heap.size + 1 + 1, 0, none⟩ = some (.bool okb) := by rw [cell_of_row _ _ 0 _ _ _ qR.2.1]; rfl
                  have fO7 := frozen_of_row _ _ 0 _ _ qR.2.1
                  have HQR := Lib.hid qR
                  have HCI7 := Lib.hid cI7
                  have H37 := Lib.hid h37
                  have IDC := Lib.hid (isID_call ti w7 (by rw [size_list, HTI.out]; have := HCB.out.id; omega))
                  rw [HTI.out] at IDC
                  clear qR qF cI7 h37 hb7
                  cases okb with
                  | true =>
                    go_wp2_with fail
                    refine IDC.out.mono ?_
                    rintro e w8 ⟨rfl, hb8⟩
                    have hR8 := HQR.out.below hb8
                    have cI8 := (hb8.block I (Array.getElem?_eq_some_iff.1 HCI7.out).1).trans HCI7.out
                    have h38 := H37.out.trans (hb8.mono H37.out.size)
                    have cO8 : w8.cell? ⟨w3.heap.size + 1 + 1, 0, none⟩ = some (.bool true) := by rw [cell_of_row _ _ 0 _ _ _ hR8.2.1]; rfl
                    have fO8 := frozen_of_row _ _ 0 _ _ hR8.2.1
                    have HR8 := Lib.hid hR8
                    have HI8 := Lib.hid cI8
                    have H38 := Lib.hid h38
                    clear hR8 cI8 h38
                    go_wp2_with fail
                    obtain ⟨q1, q2⟩ := HR8.out.set HNE.out (Nat.le_succ _) (Nat.le_succ_of_le (Nat.le_succ _)) (.inr (.inl rfl)) (isId c.id)
                    refine letter_fin HWS.out HOK.out HTW3.out (v' := .slice A6 (ws.length + 1) k6) ?_ (q2.block I (Array.getElem?_eq_some_iff.1 HI8.out).1 (.inr ⟨.inr (.inr rfl), by have := HZ5.out; omega, by have := HZ5.out; omega⟩) |>.trans HI8.out) (H38.out.trans (q2.below (Nat.le_refl _) H38.out.size)) hpt hitp.out
                    exact q1
                  | false =>
                    go_wp2_with fail
                    obtain ⟨q1, q2⟩ := HQR.out.set HNE.out (Nat.le_succ _) (Nat.le_succ_of_le (Nat.le_succ _)) (.inr (.inl rfl)) false
                    refine letter_fin HWS.out HOK.out HTW3.out (v' := .slice A6 (ws.length + 1) k6) ?_ (q2.block I (Array.getElem?_eq_some_iff.1 HCI7.out).1 (.inr ⟨.inr (.inr rfl), by have := HZ5.out; omega, by have := HZ5.out; omega⟩) |>.trans HCI7.out) (H37.out.trans (q2.below (Nat.le_refl _) H37.out.size)) hpt hitp.out
                    exact q1
                · have hlen5 : (c.word :: (T.data.toList.take p).map (wOf c)).length ≤ 4 := by simp; omega
                  have c3i : wi.cell? ⟨wo.heap.size, 3, none⟩ = some (.slice Ab c.bytes.length cb) := (hbi.cell (p := ⟨wo.heap.size, 3, none⟩) (by have := HZ2.out; have := HS3.out; simp; omega)).trans c3
                  have hbw : Below wo.heap.size wo wi := HB3.out.trans (hbi.mono (by have := HZ2.out; have := HS3.out; omega))
                  have hIw : I < wi.heap.size := (Array.getElem?_eq_some_iff.1 hiti).1
                  have hzi' : w3.heap.size + 1 + 1 < wi.heap.size := by have := HZ5.out; omega
                  have HNE : Hid (w3.heap.size + 1 ≠ w3.heap.size + 1 + 1) := Nat.ne_of_lt (Nat.lt_succ_self _)
                  have HEX : Hid (∀ b, (b = w3.heap.size + 1 ∨ b = w3.heap.size + 1 + 1 ∨ b = I) → b < wi.heap.size) := fun b hb => by rcases hb with rfl | rfl | rfl <;> omega
                  have HRW : Hid (w3.heap.size + 1 < wi.heap.size) := by show _ < _; omega
                  have HHX := Lib.hid (fun W (hb : Below wi.heap.size wi W) => hex33_call Ab cb c.bytes W ((HBY.out.below hbw).below hb) (by have := HCB.out.bytes; omega))
                  have HRI := Lib.hid hrsi
                  have HTI3 := Lib.hid hiti
                  have HBI := Lib.hid hbi
                  generalize hWS : (c.word :: (T.data.toList.take p).map (wOf c)) = ws at hrsi hlen5 HRI
                  have HWS := Lib.hid hWS
                  generalize hOK : (T.data.toList.take p).all (okOf c) = okb at hrsi HRI
                  have HOK := Lib.hid hOK
                  have CL := Lib.hid (fun (W : World) (hb : Below wi.heap.size wi W) => show W.cell? ⟨w3.heap.size + 1, 0, none⟩ = some v from by rw [cell_of_row _ _ 0 _ _ _ (hrsi.below hb).1]; rfl)
                  have cR := CL.out _ (Below.refl _ _)
                  clear hrsi hiti hbi hWS hOK hbw
                  go_upto_region 21 with fail
                  go_region_law (first
                      | ((refine step_app rfl (.tmp 79) (.tmp 84) 42 rfl w3.heap.size 9 i0 _ 1 16 Tryz.underlying42 hi0 hz0 hz1 hz2 rfl (by decide) v ws.length (sv ws) rfl ((own_keep HRI.out.2.2.1 (fun b _ hl => Below.block hBW b hl)).alloc _) (some ⟨_, 0, none⟩) 1 1 [.string ⟨(hex c.bytes).toArray⟩] rfl (src_new1 _ _ _) (by simp [Value.oneCell']) (by unfold maxLen; omega) (by omega) (by have := hBW.size; simp; omega) ?_); intro v6 w6' hown6 hgrow6 hat6; obtain ⟨A6, k6, rfl⟩ := own_form hown6; obtain ⟨qR, qF, qB⟩ := (HRI.out.below hBW).app (x := hex c.bytes) HNE.out (Nat.le_succ _) (.inl rfl) (.inr (.inl rfl)) (fun b e => Nat.lt_of_lt_of_le (HEX.out b e) hBW.size) hgrow6 hat6 hown6; have cR6 : w6'.cell? ⟨w3.heap.size + 1, 0, none⟩ = some v := (by rw [cell_of_row _ _ 0 _ _ _ qB]; rfl); have fR6 := frozen_of_row _ _ 0 _ _ qB)
                      | (go_simp; go_at_call 33; (refine (HHX.out _ ((Below.refl _ _).drew)).mono ?_); rintro e wn ⟨rfl, hbn⟩; have hBW : Below wi.heap.size wi wn := ((Below.refl _ _).drew).trans hbn; have cRn := CL.out _ hBW; have hRn : w3.heap.size + 1 < wn.heap.size := Nat.lt_of_lt_of_le HRW.out hBW.size; have hRne : w3.heap.size + 1 ≠ wn.heap.size := Nat.ne_of_lt hRn))
                  all_goals
                    go_wp2_with fail
                    have hXw := HBI.out.size
                    refine letter_fin HWS.out HOK.out HTW3.out (v' := .slice A6 (ws.length + 1) k6) ?_ ((qF.block I (Nat.lt_of_lt_of_le hIw hBW.size) (.inr ⟨.inr (.inr rfl), by have := HZ5.out; omega, by have := HZ5.out; omega⟩)).trans ((hBW.block I hIw).trans HTI3.out)) (HBI.out.trans ((hBW.mono hXw).trans (qF.below (Nat.le_refl _) (Nat.le_trans hXw hBW.size)))) hpt hitp.out
                    rw [show wOf c 104 = hex c.bytes from rfl, show okOf c 104 = true from rfl, Bool.and_true]
                    exact qR
                · have hlen5 : (c.word :: (T.data.toList.take p).map (wOf c)).length ≤ 4 := by simp; omega
                  have c4i : wi.cell? ⟨wo.heap.size, 4, none⟩ = some (.int .i64 c.n) := (hbi.cell (p := ⟨wo.heap.size, 4, none⟩) (by have := HZ2.out; have := HS3.out; simp; omega)).trans c4
                  have hb0i : Below w.heap.size w wi := hb.trans ((HB3.out.mono hz).trans (hbi.mono (by have := HZ2.out; have := HS3.out; omega)))
                  have hIw : I < wi.heap.size := (Array.getElem?_eq_some_iff.1 hiti).1
                  have hzi' : w3.heap.size + 1 + 1 < wi.heap.size := by have := HZ5.out; omega
                  have HN := Lib.hid (num28_call c.n HCB.out.n0 HCB.out.n1 wi (HL.out.below hb0i).tab hrsi (Nat.ne_of_lt (Nat.lt_succ_self _)) (Nat.le_succ _) (Nat.le_succ_of_le (Nat.le_succ _)) (.inl rfl) (.inr (.inl rfl)) (fun b hb => by rcases hb with rfl | rfl | rfl <;> omega) (by omega))
                  have HTI3 := Lib.hid hiti
                  have HBI := Lib.hid hbi
                  clear hrsi hiti hbi hb0i
                  go_wp2_with fail
                  refine HN.out.mono ?_
                  rintro e wn ⟨⟨u, rfl⟩, v', qR, qF⟩
                  have HQR := Lib.hid qR
                  have HQF := Lib.hid qF
                  clear qR qF
                  go_wp2_with fail
                  have hXw := HBI.out.size
                  refine letter_fin rfl rfl HTW3.out (v' := v') HQR.out ((HQF.out.block I hIw (.inr ⟨.inr (.inr rfl), by have := HZ5.out; omega, by have := HZ5.out; omega⟩)).trans HTI3.out) (HBI.out.trans (HQF.out.below (Nat.le_refl _) hXw)) hpt hitp.out
              · have hne := fun ty => Lib.run_next_end_at (P := Tryz.prog) wr I T p ty hit hpt
                clear hit
                have hpe : T.data.toList.take p = lettersS (kindS c.word).2 := by rw [← HTT.out, List.take_of_length_le (by rw [← size_list]; omega)]
                rw [hpe] at HRS
                clear hpe hp
                obtain ⟨bt, hbt⟩ : ∃ bt, (!Lib.trimS fm.data.toList [42, 107] == fm.toList) = bt := ⟨_, rfl⟩
                have HBT := Lib.hid hbt
                clear hbt
                have HTR : Hid (∀ w, Calls Tryz.prog 34 #[.string fm, .string ⟨#[42, 107]⟩] w fun e w' => e = .returned (.string ⟨(Lib.trimS fm.data.toList [42, 107]).toArray⟩) ∧ Below w.heap.size w w') := fun w => trim fm ⟨#[42, 107]⟩ w (by omega) (by decide) (ascii_of_all (by decide))
                have cP1 : wr.cell? ⟨P, 1, none⟩ = some (.string fm) := (HBQ.out.cell (p := ⟨P, 1, none⟩) p0).trans ck1
                have HP := Lib.hid p0
                go_upto_region 24 with fail
                go_cut [98] (fun u wx => u = .bool bt ∧ Below wr.heap.size wr wx)
                case first =>
                  go_region_law (go_simp; go_at_call 34; (refine (HTR.out _).mono ?_); rintro e wn ⟨rfl, hbn⟩; have hBW : Below wr.heap.size wr wn := ((Below.refl _ _).drew).trans hbn; have cPn := (hBW.cell (p := ⟨P, 1, none⟩) (Nat.lt_of_lt_of_le HP.out HBQ.out.size)).trans cP1)
                  all_goals
                    go_wp2_with fail
                    go_meet
                    exact ⟨by rw [HBT.out], hBW⟩
                case rest =>
                  obtain ⟨rfl, hb9⟩ := hcut
                  obtain ⟨w9, hw9⟩ : ∃ wx, wc = wx := ⟨_, rfl⟩
                  rw [hw9] at hb9 ⊢
                  clear hw9 cP1
                  have HR9 := Lib.hid (HRS.out.below hb9)
                  have H39 := Lib.hid (HBQ.out.trans (hb9.mono HBQ.out.size))
                  have hs9 : w3.heap.size + 1 + 1 < w9.heap.size := by
                    have h1 := (Array.getElem?_eq_some_iff.1 HR9.out.2.1).1
                    exact h1
                  clear hb9
                  go_upto_if 98 with fail
                  go_cut [14] (fun u wx => ∃ v', RowS wx w3.heap.size (w3.heap.size + 1) (w3.heap.size + 1 + 1) (fun b => b = w3.heap.size + 1 ∨ b = w3.heap.size + 1 + 1) (c.word :: restS (kindS c.word).2 c) (okS (kindS c.word).2 c) v' ∧ Below w3.heap.size w3 wx)
                  case first =>
                    cases bt with
                    | true =>
                      have hn : numsS (kindS c.word).2 c = c.keep := by
                        unfold numsS
                        rw [if_pos (fun e => by
                          have h1 := HBT.out
                          rw [ByteArray.toList_eq, HKF.out.2, e] at h1
                          simp at h1)]
                      have HNS := Lib.hid hn
                      have hll : (c.word :: (lettersS (kindS c.word).2).map (wOf c)).length ≤ 5 := by
                        have : ∀ (l cs : Bs), (Lib.trimLeftS l cs).length ≤ l.length := fun l cs => by unfold Lib.trimLeftS; exact (List.dropWhile_sublist _).length_le
                        have h1 := Nat.le_trans (this (kindS c.word).2 [42, 107]) (kindS_len c.word)
                        have h2 : (lettersS (kindS c.word).2).length ≤ 4 := h1
                        simp
                        omega
                      have hkl := HCB.out.keep
                      have c59 : w9.cell? ⟨wo.heap.size, 5, none⟩ = some (.slice Ak c.keep.length ck) := (H39.out.cell (p := ⟨wo.heap.size, 5, none⟩) (by have := HZ2.out; have := HS3.out; simp; omega)).trans c5
                      clear hn
                      go_wp2_with fail
                      go_loopw [103] (fun i wq => ∃ (j : Nat) (v' : Value), i = .int .i64 j ∧ j ≤ c.keep.length ∧ RowS wq w3.heap.size (w3.heap.size + 1) (w3.heap.size + 1 + 1) (fun b => b = w3.heap.size + 1 ∨ b = w3.heap.size + 1 + 1) ((c.word :: (lettersS (kindS c.word).2).map (wOf c)) ++ (c.keep.take j).map Lib.itoa) ((lettersS (kindS c.word).2).all (okOf c) && (c.keep.take j).all may) v' ∧ Below w3.heap.size w3 wq)
                        (fun i _ => c.keep.length - (intOf i).toNat)
                      case atStart =>
                        refine ⟨0, v, rfl, Nat.zero_le _, ?_, H39.out⟩
                        have := HR9.out.weak (Ex2 := fun b => b = w3.heap.size + 1 ∨ b = w3.heap.size + 1 + 1) (fun b hb => hb.elim .inl fun h => .inr (.inl h))
                        rw [List.take_zero, List.map_nil, List.append_nil, List.all_nil, Bool.and_true]
                        exact this
                      case round =>
                        rename World => wk
                        obtain ⟨j, v', rfl, hj, hrow, hbk⟩ := hrel
                        by_cases hjl : j < c.keep.length
                        · have j0 : (0 : Int) ≤ (j : Int) := Int.natCast_nonneg _
                          have j1 : (j : Int) < (c.keep.length : Int) := by omega
                          obtain ⟨gb, go1, rfl, hgl, hgc⟩ := HIN.out.at_ (by omega)
                          have cg : wk.cell? ⟨gb, go1 + j, none⟩ = some (.int .i64 (el c.keep j)) := ((HB3.out.trans (hbk.mono (by have := HZ2.out; have := HS3.out; omega))).cell (p := ⟨gb, go1 + j, none⟩) hgl).trans (hgc j hjl)
                          have hb0k : Below w.heap.size w wk := hb.trans ((HB3.out.mono hz).trans (hbk.mono (by have := HZ2.out; have := HS3.out; omega)))
                          have hxm : el c.keep j ∈ c.keep := by
                            unfold el
                            simp [List.getD, List.getElem?_eq_getElem hjl]
                          have hll2 : ((c.word :: (lettersS (kindS c.word).2).map (wOf c)) ++ (c.keep.take j).map Lib.itoa).length ≤ 4194304 := by
                            rw [List.length_append, List.length_map, List.length_take]
                            omega
                          have hRk := (Array.getElem?_eq_some_iff.1 hrow.1).1
                          have hOk := (Array.getElem?_eq_some_iff.1 hrow.2.1).1
                          have HN := Lib.hid (num28_call (el c.keep j) (HCB.out.k01 _ hxm).1 (HCB.out.k01 _ hxm).2 wk (HL.out.below hb0k).tab hrow (Nat.ne_of_lt (Nat.lt_succ_self _)) (Nat.le_succ _) (Nat.le_succ_of_le (Nat.le_succ _)) (.inl rfl) (.inr rfl) (fun b hb => by rcases hb with rfl | rfl; exact hRk; exact hOk) hll2)
                          have HTK := Lib.hid (take_ints hjl (c.word :: (lettersS (kindS c.word).2).map (wOf c)) ((lettersS (kindS c.word).2).all (okOf c)))
                          have HBK := Lib.hid hbk
                          generalize el c.keep j = x at cg HN HTK
                          clear hgc hrow hbk hb0k hxm hll2 hRk hOk
                          go_wp2_with fail
                          refine HN.out.mono ?_
                          rintro e wn ⟨⟨u, rfl⟩, v'', qR, qF⟩
                          have HQR := Lib.hid qR
                          have HQF := Lib.hid qF
                          clear qR qF
                          go_wp2_with fail
                          refine ⟨⟨j + 1, v'', by go_num, by omega, ?_, HBK.out.trans (HQF.out.below (Nat.le_refl _) HBK.out.size)⟩, by simp [intOf]; omega⟩
                          rw [HTK.out.1, HTK.out.2]
                          exact HQR.out
                        · obtain rfl : j = c.keep.length := by omega
                          rw [List.take_length] at hrow
                          have HRW := Lib.hid hrow
                          have HBK := Lib.hid hbk
                          clear hrow hbk
                          go_wp2_with fail
                          go_meet
                          refine ⟨v', ?_, HBK.out⟩
                          unfold restS okS
                          rw [HNS.out]
                          exact HRW.out
                    | false =>
                      have hn : numsS (kindS c.word).2 c = [] := by
                        unfold numsS
                        rw [if_neg (fun e => e (by
                          have h1 := HBT.out
                          rw [ByteArray.toList_eq, HKF.out.2] at h1
                          simpa using h1))]
                      have HNS := Lib.hid hn
                      clear hn
                      go_wp2_with fail
                      go_meet
                      refine ⟨v, ?_, H39.out⟩
                      unfold restS okS
                      rw [HNS.out, List.map_nil, List.append_nil, List.all_nil, Bool.and_true]
                      exact HR9.out.weak (fun b hb => hb.elim .inl fun h => .inr (.inl h))
                  case rest =>
                    obtain ⟨v', hrow, hbx⟩ := hcut
                    obtain ⟨wx, hwx⟩ : ∃ wx, wc = wx := ⟨_, rfl⟩
                    rw [hwx] at hrow hbx ⊢
                    clear hwx
                    obtain ⟨ob, hob⟩ : ∃ ob, okS (kindS c.word).2 c = ob := ⟨_, rfl⟩
                    rw [hob] at hrow
                    have cOx : wx.cell? ⟨w3.heap.size + 1 + 1, 0, none⟩ = some (.bool ob) := by rw [cell_of_row _ _ 0 _ _ _ hrow.2.1]; rfl
                    have cRx : wx.cell? ⟨w3.heap.size + 1, 0, none⟩ = some v' := by rw [cell_of_row _ _ 0 _ _ _ hrow.1]; rfl
                    have HRW := Lib.hid hrow
                    have HBX := Lib.hid (HB3.out.trans (hbx.mono (by have := HZ2.out; have := HS3.out; omega)))
                    have HOB := Lib.hid hob
                    clear hrow hbx hob
                    have hl1 : ¬ (kindS c.word).1 = 0 := by rw [← HKF.out.1]; exact HK0.out
                    have hl2 : ¬ (c.kind ≠ (kindS c.word).1 ∨ ((kindS c.word).1 = 14 ∧ c.keep.length ≠ (kindS c.word).2.length)) := by rw [← HKF.out.1, ← HKF.out.2, ← size_list]; exact of_decide_eq_false HBM.out
                    cases ob with
                    | false =>
                      have HE : Hid (o = ([], 223)) := by
                        rw [← HO.out]
                        unfold printR
                        rw [hsp.out, HST.out]
                        unfold lineS
                        rw [if_neg hl1, if_neg hl2, if_neg (by rw [HOB.out]; exact Bool.false_ne_true)]
                        exact rfl
                      clear hl1 hl2
                      go_wp2_with fail
                      go_ret2
                      rw [HE.out]
                      exact ⟨rfl, hb.trans (HBX.out.mono hz)⟩
                    | true =>
                      obtain ⟨ln, hln⟩ : ∃ ln, c.word ++ tail32 (restS (kindS c.word).2 c) = ln := ⟨_, rfl⟩
                      have hls : lineS c = .ok (ln ++ [10]) := by
                        unfold lineS
                        rw [if_neg hl1, if_neg hl2, if_pos HOB.out, hln]
                      have hlen2 := line_len HCB.out hls
                      rw [List.length_append] at hlen2
                      simp at hlen2
                      have hwl : (c.word :: restS (kindS c.word).2 c).length ≤ 1048600 := by
                        have : ∀ (l cs : Bs), (Lib.trimLeftS l cs).length ≤ l.length := fun l cs => by unfold Lib.trimLeftS; exact (List.dropWhile_sublist _).length_le
                        have h1 := Nat.le_trans (this (kindS c.word).2 [42, 107]) (kindS_len c.word)
                        have h2 : (lettersS (kindS c.word).2).length ≤ 4 := h1
                        have h3 : (numsS (kindS c.word).2 c).length ≤ 1048576 := by
                          unfold numsS
                          split
                          · exact HCB.out.keep
                          · simp
                        unfold restS
                        simp
                        omega
                      have HJ := HRW.out.join hwl (by rw [hln]; omega)
                      rw [hln] at HJ
                      have HJ2 := Lib.hid HJ
                      have HLS := Lib.hid hls
                      clear hl1 hl2 hln hls hwl HJ
                      go_wp2_with fail
                      refine HJ2.out.mono ?_
                      rintro e w10 ⟨rfl, hb10⟩
                      have hbo : Below wo.heap.size wo w10 := HBX.out.trans (hb10.mono HBX.out.size)
                      have hz10 : w.heap.size ≤ w10.heap.size := Nat.le_trans hz hbo.size
                      have HWR := Lib.hid (writeString w.heap.size w.heap.size (Lib.byteCells out) (⟨ln.toArray⟩ ++ ⟨#[10]⟩) w10 (isB_below HBD.out hbo) (by
                        have : (Lib.byteCells out).length = out.length := by simp [Lib.byteCells]
                        rw [this, ByteArray.size_append]
                        show out.length + (ln.length + 1) ≤ _
                        have : k * 67108864 ≤ 1048576 * 67108864 := Nat.mul_le_mul_right _ (Nat.le_trans hk hlen)
                        simp
                        omega) hz10)
                      have HBO := Lib.hid hbo
                      clear hb10 hbo
                      go_wp2_with fail
                      refine HWR.out.mono ?_
                      rintro e w11 ⟨rfl, h11, b11, _⟩
                      have H11 := Lib.hid h11
                      have H12 := Lib.hid (hb.trans ((HBO.out.mono hz).trans b11))
                      have HST2 : Hid (linesP L = (linesP (L.drop (k + 1))).map fun t => (out ++ (ln ++ [10])) ++ t) := by
                        rw [hsp.out, HST.out, HLS.out]
                        cases linesP (L.drop (k + 1)) with
                        | error e => exact rfl
                        | ok t =>
                          show Except.ok (out ++ ((ln ++ [10]) ++ t)) = Except.ok ((out ++ (ln ++ [10])) ++ t)
                          rw [List.append_assoc out]
                      clear h11 b11
                      go_wp2_with fail
                      refine ⟨⟨k + 1, out ++ (ln ++ [10]), by go_num, by omega, .inr ?_, H12.out, ?_, HST2⟩, by simp [intOf]; omega⟩
                      · have e1 : Lib.byteCells out ++ Lib.strCells (⟨ln.toArray⟩ ++ ⟨#[10]⟩) = Lib.byteCells (out ++ (ln ++ [10])) := by
                          have e2 : (⟨ln.toArray⟩ ++ ⟨#[10]⟩ : ByteArray) = ⟨(ln ++ [10]).toArray⟩ := by
                            apply ByteArray.ext
                            rw [ByteArray.data_append]
                            simp
                          rw [e2, Lib.strCells_toArray]
                          simp [Lib.byteCells]
                        rw [← e1]
                        exact H11.out
                      · rw [List.length_append, List.length_append, Nat.succ_mul]
                        simp
                        omega
    · obtain rfl : k = L.length := by omega
      have hsp2 : linesP L = .ok out := by
        have h1 := hsp.out
        rw [List.drop_length] at h1
        rw [h1]
        show Except.ok (out ++ []) = _
        rw [List.append_nil]
      have HSP := Lib.hid hsp2
      have HLN : Hid (Calls Tryz.prog 37 #[.pointer (some ⟨w.heap.size, 0, none⟩)] wo fun e w' => e = .returned (.int .i64 (out.length : Int)) ∧ w' = wo) := by
        have h1 := Tryz.Builder_Len_f _ _ _ _ HBD.out
        rwa [show (Lib.byteCells out).length = out.length from by simp [Lib.byteCells]] at h1
      clear hsp hsp2 hlt
      have k1 : ¬ ((L.length : Int) < (L.length : Int)) := by omega
      by_cases m1 : 65536 < out.length
      · have q1 : (65536 : Int) < (out.length : Int) := by omega
        have HE : Hid (o = ([], 220)) := by
          rw [← HO.out]
          unfold printR
          rw [HSP.out]
          exact if_pos (.inl m1)
        clear m1
        go_wp2_with fail
        refine HLN.out.mono ?_
        rintro e w1 ⟨rfl, rfl⟩
        go_wp2_with fail
        go_ret2
        rw [HE.out]
        exact ⟨rfl, hb⟩
      · have q1 : ¬ ((65536 : Int) < (out.length : Int)) := by omega
        by_cases m2 : 4096 ≤ L.length
        · have q2 : (4096 : Int) ≤ (L.length : Int) := by omega
          have HE : Hid (o = ([], 220)) := by
            rw [← HO.out]
            unfold printR
            rw [HSP.out]
            exact if_pos (.inr (by omega))
          clear m1 m2
          go_wp2_with fail
          refine HLN.out.mono ?_
          rintro e w1 ⟨rfl, rfl⟩
          go_wp2_with fail
          go_ret2
          rw [HE.out]
          exact ⟨rfl, hb⟩
        · have q2 : ¬ ((4096 : Int) ≤ (L.length : Int)) := by omega
          have HE : Hid (o = (out, 0)) := by
            rw [← HO.out]
            unfold printR
            rw [HSP.out]
            exact if_neg (by rintro (h | h); exact m1 h; exact m2 (by omega))
          clear m1 m2
          go_wp2_with fail
          refine HLN.out.mono ?_
          rintro e w1 ⟨rfl, rfl⟩
          go_wp2_with fail
          refine (Tryz.Builder_String_any_k _ _ _ _ HBD.out hz).mono ?_
          rintro e w2 ⟨rfl, _, b1, _⟩
          have B1 := Lib.hid (hb.trans (b1.mono (Nat.le_refl _)))
          go_wp2
          go_ret2
          rw [HE.out]
          exact ⟨rfl, B1.out⟩
end Go.Proofs.YtlibjfmafpiopaaGreatDoor
