/- strings.SplitSeq; the words of a line, one by one: the contracts. -/
import Derived.Test.YtlibjfmafpiopaaGreatDoorSeqS
namespace Go.Proofs.YtlibjfmafpiopaaGreatDoor
open Go.RowKit Go.Shelf Scr
attribute [local go_sem] Oper.semAt_some

/-- The three boxes that SplitSeq lays. -/
def boxes3 (W : World) (s : ByteArray) (c : UInt8) : World := ((W.alloc (.cells #[.string s] 9)).alloc (.cells #[.string ⟨#[c]⟩] 9)).alloc (.cells #[.int .i64 0] 3)

theorem boxes3_size (W : World) (s : ByteArray) (c : UInt8) : (boxes3 W s c).heap.size = W.heap.size + 3 := by simp [boxes3]
theorem boxes3_below (W : World) (s : ByteArray) (c : UInt8) : Below W.heap.size W (boxes3 W s c) :=
  (((Below.refl _ W).alloc (Nat.le_refl _) _).alloc (by simp) _).alloc (by simp; omega) _
theorem boxes3_box (W : World) (s : ByteArray) (c : UInt8) : SBox (boxes3 W s c) W.heap.size c s := by
  refine ⟨?_, ?_, ?_⟩
  · unfold boxes3
    exact (Below.heap_alloc _ _ _ (by simp; omega)).trans ((Below.heap_alloc _ _ _ (by simp)).trans (World.alloc_heap_new W _))
  · unfold boxes3
    have h := World.alloc_heap_new (W.alloc (.cells #[.string s] 9)) (.cells #[.string ⟨#[c]⟩] 9)
    rw [World.size_alloc] at h
    exact (Below.heap_alloc _ _ _ (by simp)).trans h
  · unfold boxes3
    have h := World.alloc_heap_new ((W.alloc (.cells #[.string s] 9)).alloc (.cells #[.string ⟨#[c]⟩] 9)) (.cells #[.int .i64 0] 3)
    rw [World.size_alloc, World.size_alloc] at h
    exact h

theorem boxes3_call (n : Nat) (s : ByteArray) (c : UInt8) (w : World) :
    CallsIn Fence.wide n Tryz.prog 48 #[.string s, .string ⟨#[c]⟩] w fun e w' => e = .returned (.func (.func 97) #[] #[.pointer (some ⟨w.heap.size + 1, 0, none⟩), .pointer (some ⟨w.heap.size, 0, none⟩), .pointer (some ⟨w.heap.size + 1 + 1, 0, none⟩)]) ∧ w' = boxes3 w s c := by
  have h72 : ∀ m, CallsIn Fence.wide m Tryz.prog 72 #[.string s, .string ⟨#[c]⟩, .int .i64 0] w fun e w' => e = .returned (.func (.func 97) #[] #[.pointer (some ⟨w.heap.size + 1, 0, none⟩), .pointer (some ⟨w.heap.size, 0, none⟩), .pointer (some ⟨w.heap.size + 1 + 1, 0, none⟩)]) ∧ w' = boxes3 w s c := fun m => by
    refine callsIn_of_wp Tryz.func72 rfl trivial ?_ rfl
    simp only [Tryz.ntmps72, List.size_toArray, List.length_cons, List.length_nil, Nat.reduceAdd, Nat.reduceSub, Array.replicate_succ, Array.replicate_zero, List.push_toArray, List.append_toArray, List.nil_append, List.cons_append]
    gi_wp2
    go_ret
    exact ⟨rfl, rfl⟩
  refine callsIn_of_wp Tryz.func48 rfl trivial ?_ rfl
  simp only [Tryz.ntmps48, List.size_toArray, List.length_cons, List.length_nil, Nat.reduceAdd, Nat.reduceSub, Array.replicate_succ, Array.replicate_zero, List.push_toArray, List.append_toArray, List.nil_append, List.cons_append]
  gi_wp2
  refine ⟨trivial, fun h => (by cases h), (h72 _).mono ?_⟩
  rintro e w' ⟨rfl, rfl⟩
  gi_wp2
  go_ret
  exact ⟨rfl, rfl⟩

theorem round_any {m m' k : Nat} {P : Program} {l : Nat} {f : FuncId} {tmps : Array Value} {assign body : Code} {w : World} {R : Ending → World → Prop} (h : RoundIn Fence.wide m P l f tmps assign body w R) :
    RoundIn (Fence.wide.inRound k) m' P l f tmps assign body w R := ⟨h.1, fun c cs _ => h.2 c cs (room_wide _)⟩

/-- A contract goes into a round as it is. -/
theorem SeqZ.inRound {α : Type} {F : Fence} {n : Nat} {P : Program} {g : Nat} {lb : Array Value} {encs : α → Array Value} {Z : Nat → Nat → Prop} {K : Nat} {S Sp : List α → Prop} {w : World} (l : Nat)
    (h : SeqZ F n P g lb encs Z K S Sp w) : SeqZ (F.inRound l) n P g lb encs Z K S Sp w := h

set_option maxRecDepth 100000 in
set_option maxHeartbeats 2000000 in
theorem words_seq (n : Nat) (hn : 4 ≤ n) (B : Nat) (s : ByteArray) (w : World) (hB : w.heap[B]? = some (.cells #[.string s] 9 (0, 0))) (hs : s.size ≤ 140737488355328) :
    SeqZ Fence.wide n Tryz.prog 73 #[.pointer (some ⟨B, 0, none⟩)] (fun l : Bs => #[Value.string ⟨l.toArray⟩]) (fun z r => z ≤ r ∧ r ≤ z + 5) 6
      (fun xs => xs = words s.data.toList) (fun pre => pre <+: words s.data.toList) w := by
  intro l J Jx W hW hJ hJx hY h0
  have hBl := (Array.getElem?_eq_some_iff.1 hB).1
  have hBW : W.heap[B]? = some (.cells #[.string s] 9 (0, 0)) := (hW.block _ hBl).trans hB
  have cB : (W.alloc (.cells #[.func (.yield l) #[] #[]] 34)).cell? ⟨B, 0, none⟩ = some (.string s) := by
    rw [cell_of_row _ _ 0 _ _ _ ((Below.heap_alloc W _ _ (Array.getElem?_eq_some_iff.1 hBW).1).trans hBW)]
    rfl
  refine callsIn_of_wp_marks Tryz.func73 rfl trivial ?_ rfl
  simp only [Tryz.ntmps73, List.size_toArray, List.length_cons, List.length_nil, Nat.reduceAdd, Nat.reduceSub, Array.replicate_succ, Array.replicate_zero, List.push_toArray, List.append_toArray, List.nil_append, List.cons_append]
  gi_wp2
  refine ⟨trivial, fun h => (by cases h), (boxes3_call (n - 1) s 32 _).mono ?_⟩
  rintro e w' ⟨rfl, rfl⟩
  gi_wp2
  have bY := Boxed.new W 34 (.func (.yield l) #[] #[])
  have hJA : J [] (W.alloc (.cells #[.func (.yield l) #[] #[]] 34)) := hJ.alloc _ h0
  have hsA : (W.alloc (.cells #[.func (.yield l) #[] #[]] 34)).heap.size = W.heap.size + 1 := by simp
  obtain ⟨A, hA⟩ : ∃ A, W.alloc (.cells #[.func (.yield l) #[] #[]] 34) = A := ⟨_, rfl⟩
  rw [hA] at bY hJA hsA cB ⊢
  clear hA
  have hbox := boxes3_box A s 32
  have hsz := boxes3_size A s 32
  have hbl := boxes3_below A s 32
  have hJ3 : J [] (boxes3 A s 32) := hJ.alloc _ (hJ.alloc _ (hJ.alloc _ hJA))
  have bY3 : Boxed (boxes3 A s 32) W.heap.size 34 (.func (.yield l) #[] #[]) := (hbl.block _ (by omega)).trans bY
  obtain ⟨W0, hW0⟩ : ∃ W0, boxes3 A s 32 = W0 := ⟨_, rfl⟩
  rw [hW0] at hbox hsz hJ3 bY3 ⊢
  clear hW0 hbl
  rw [hsA] at hbox hsz
  have hab : ∀ {Y : List Bs → World → Prop}, AbZ (fun r => W.heap.size ≤ r ∧ r ≤ W.heap.size + 5) Y → AbZ (fun r => r = W0.heap.size + 1 ∨ W.heap.size + 1 ≤ r ∧ r ≤ W.heap.size + 1 + 2) (fun (pre : List Bs) W' => Y (pre.filter fun w => !w.isEmpty) W') :=
    fun h s A B row hs hg hr => h _ A B row hs hg (fun r e => by have := hr r e; omega)
  refine wpIn_rangeFunc_Z (F := Fence.wide) rfl (by omega) (gf := 97) (lb := #[.pointer (some ⟨W.heap.size + 1 + 1, 0, none⟩), .pointer (some ⟨W.heap.size + 1, 0, none⟩), .pointer (some ⟨W.heap.size + 1 + 1 + 1, 0, none⟩)]) rfl trivial (enters_of Tryz.func97 (by kernel_rfl) rfl)
    (split_seq (n - 1) (W.heap.size + 1) 32 s W0 hbox hs) (fun r hr => by omega) (Below.refl _ _) (fun _ => rfl)
    (fun (pre : List Bs) W' => J (pre.filter fun w => !w.isEmpty) W' ∧ Boxed W' W.heap.size 34 (.func (.yield l) #[] #[]))
    (fun c (pre : List Bs) W' => c = .ret ∧ Jx (pre.filter fun w => !w.isEmpty) W')
    (fun s A B row hs hg hr => ⟨hab hJ s A B row hs.1 hg hr, hs.2.kept hg (fun e => by have := hr _ e.symm; omega)⟩)
    (fun c s A B row hs hg hr => ⟨hs.1, hab hJx s A B row hs.2 hg hr⟩)
    ⟨hJ3, bY3⟩
    (fun x a' _ => a' = { tmps := #[.func (.yield l) #[] #[], .pointer (some ⟨B, 0, none⟩), .pointer (some ⟨W.heap.size, 0, none⟩), .string ⟨x.toArray⟩, .string s, .func (.func 97) #[] #[.pointer (some ⟨W.heap.size + 1 + 1, 0, none⟩), .pointer (some ⟨W.heap.size + 1, 0, none⟩), .pointer (some ⟨W.heap.size + 1 + 1 + 1, 0, none⟩)], .string ⟨x.toArray⟩, undef, undef, undef, undef, undef, undef, undef, undef], defers := [] })
    (fun _ _ _ _ _ _ hs _ _ => hs)
    ?assign ?body ?done ?stop
  case assign =>
    rintro pre x W' K hi _ hK
    gi_wp2
    exact hK _ _ (Below.refl _ _) hi rfl
  case body =>
    rintro pre x a' W' _ ⟨hi, bY'⟩ rfl hp hsz'
    have cY := bY'.cell
    have hfl : ∀ b, (!x.isEmpty) = b → (pre ++ [x]).filter (fun w => !w.isEmpty) = pre.filter (fun w => !w.isEmpty) ++ (if b then [x] else []) := by
      rintro b rfl
      rw [List.filter_append]
      cases x <;> simp
    cases x with
    | nil =>
      gi_wp2
      refine ⟨fun f h => (by cases h), ?_⟩
      gi_wp2
      exact ⟨fun _ _ _ => rfl, Nat.le_refl _, by rw [hfl false rfl]; simpa using hi, bY'⟩
    | cons y ys =>
      have hpw : pre.filter (fun w => !w.isEmpty) ++ [y :: ys] <+: words s.data.toList := by
        have := hp.filter (fun w => !w.isEmpty)
        rw [hfl true rfl] at this
        exact this
      obtain ⟨fn, tmps, assign, body, hy, hR⟩ := hY _ (y :: ys) W' (by omega) hi hpw
      gi_wp2
      refine ⟨fun h => (by cases h), (round_any hR).mono ?_⟩
      rintro e W3 (⟨rfl, hJ3, hk3, hs3⟩ | ⟨rfl, hJx3, hk3⟩)
      · gi_wp2
        exact ⟨fun r hr hl => hk3 r (by omega) hl, hs3, by rw [hfl true rfl]; exact hJ3, (hk3 _ (by omega) bY'.lt).trans bY'⟩
      · gi_wp2
        exact ⟨fun r hr hl => hk3 r (by omega) hl, rfl, by rw [hfl true rfl]; exact hJx3⟩
  case done =>
    rintro xs W' rfl ⟨hi, _⟩ hK
    gi_wp2
    refine ⟨by simp, .inl ⟨_, _, rfl, run_takeDeferred hK, ?_⟩⟩
    exact ⟨_, results_none rfl _ _ _, ⟨_, rfl⟩, .inl ⟨_, rfl, hJ.putObj _ hi (by omega)⟩⟩
  case stop =>
    rintro c pre W' hp ⟨rfl, hi⟩ hK
    gi_wp2
    refine ⟨by simp, .inl ⟨_, _, rfl, run_takeDeferred hK, ?_⟩⟩
    exact ⟨_, results_none rfl _ _ _, ⟨_, rfl⟩, .inr ⟨_, hp.filter _, hJx.putObj _ hi (by omega)⟩⟩
end Go.Proofs.YtlibjfmafpiopaaGreatDoor
