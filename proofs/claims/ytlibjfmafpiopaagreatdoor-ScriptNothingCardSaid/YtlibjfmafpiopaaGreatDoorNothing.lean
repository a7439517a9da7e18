/- Proved: munimentlaw22.ScriptNothing returns true for all texts, and leaves its arguments as they were. Conditions: none beyond the given row's own (what the listed package variables hold when the call begins; the card ties that to the program's text). -/
import Derived.Test.YtlibjfmafpiopaaGreatDoorLines
import Derived.ChangeMaps5
import Derived.Lib.AppendStr
import Derived.Lib.SlBytesConst
namespace Go.Proofs.YtlibjfmafpiopaaGreatDoor.scriptNothing
open Go.RowKit Go.Shelf Scr Go.ChangeShapes Go.WideShapes Go.ChangeAt

/-- Bytes so far: a row of the call's own, or the row of a constant that was made bytes. -/
def Lg (w : World) (base : Nat) (v : Value) (bs : Bs) : Prop :=
  w.ownsRow base 5 1 v bs.length (u8s (nums bs)) ∨ ∃ g, v = .slice (some ⟨g, 0, none⟩) bs.length bs.length ∧ base ≤ g ∧ w.heap[g]? = some (.cells (u8s (nums bs)).toArray 5 (bs.length, bs.length + 1)) ∧ 0 < bs.length

theorem u8s_app (a b : Bs) : u8s (nums (a ++ b)) = u8s (nums a) ++ u8s (nums b) := by simp [u8s, nums]
theorem u8s_len (a : Bs) : (u8s (nums a)).length = a.length := by simp [u8s, nums]

theorem run_grow {w : World} {base : Nat} {v : Value} {bs : Bs} (tx : TypeId) (x : Value) (n : Nat) (news : Bs) (ty : TypeId) (h : ∃ g, v = .slice (some ⟨g, 0, none⟩) bs.length bs.length ∧ base ≤ g ∧ w.heap[g]? = some (.cells (u8s (nums bs)).toArray 5 (bs.length, bs.length + 1)) ∧ 0 < bs.length)
    (hs : _root_.Go.Src Tryz.prog 1 tx x n (u8s (nums news)) w) (hn : 0 < n) (hl : news.length = n) (h63 : bs.length + n ≤ 1048576) (hbase : base ≤ w.heap.size) :
    ∃ v' w', (Builtin.append_ #[28, tx] ty #[v, x]).run Tryz.prog w = .ok v' w' ∧ w'.ownsRow base 5 1 v' (bs ++ news).length (u8s (nums (bs ++ news))) ∧ Below w.heap.size w w' := by
  obtain ⟨i0, hi0, hz0, hz1, hz2⟩ := info_parts info5
  obtain ⟨g, rfl, hg, hh, h0⟩ := h
  have hold : (Builtin.firstCells i0.size bs.length (.slice (some ⟨g, 0, none⟩) bs.length bs.length)).run Tryz.prog w.drew = .ok (u8s (nums bs)).toArray w.drew := by
    rw [hz1]
    refine run_firstCells_some w.drew 1 bs.length ⟨g, 0, none⟩ bs.length bs.length (u8s (nums bs)) (by rw [u8s_len, Nat.mul_one]) (fun j u hu => ?_)
    have : w.cell? ⟨g, j, none⟩ = some u := by rw [cell_of_row _ _ j _ _ _ hh, List.getElem?_toArray]; exact hu
    rw [Addr.add_lit, Nat.zero_add]
    exact this
  have hr := run_append_grow_src (P := Tryz.prog) w 28 tx ty 5 i0 _ Tryz.underlying28 hi0 hz0 (some ⟨g, 0, none⟩) bs.length bs.length (u8s (nums bs)) hold x n (u8s (nums news)) (by rw [hz1]; exact hs) (by omega) (by omega) (growslice_fits (by omega) (by rw [hz2]; omega))
  have hbl : (bs ++ news).length = bs.length + n := by rw [List.length_append, hl]
  have hcm : grownCap w (bs.length + n) bs.length 5 ≤ maxLen := grownCap_le_maxLen w (bs.length + n) bs.length 5 (by unfold maxLen; omega)
  have hge := grownCap_ge w (bs.length + n) bs.length 5
  refine ⟨.slice (some ⟨w.heap.size, 0, none⟩) (bs.length + n) (grownCap w (bs.length + n) bs.length 5), _, hr, ?_, ((Below.refl _ _).drew).alloc (Nat.le_refl _) _⟩
  rw [hbl]
  refine ⟨by rw [u8s_len, hbl, Nat.mul_one], .inr ⟨w.heap.size, grownCap w (bs.length + n) bs.length 5, _, rfl, hbase, heap_alloc_new w.drew _, hge, hcm, ?_, ?_⟩⟩
  · have hz : (Value.int IntKind.u8 0).cells.size = 1 := rfl
    simp only [Array.size_append, List.size_toArray, size_zeroCells, hz, List.length_append, u8s_len, hl]
    omega
  · rw [Nat.mul_one, u8s_app]
    simp only [Array.toList_append]
    have e : (u8s (nums bs) ++ u8s (nums news)).length = bs.length + n := by rw [List.length_append, u8s_len, u8s_len, hl]
    rw [← e]
    exact List.take_left

/-- append of bytes in a new row. -/
theorem run_lg {w : World} {base : Nat} {v : Value} {bs : Bs} (h : Lg w base v bs) {A : Option Addr} {n c : Nat} {news : Bs} (ty : TypeId) (hs : Src w 1 A n (u8s (nums news))) (hn : 0 < n) (hl : news.length = n) (h63 : bs.length + n ≤ 1048576) (hbase : base ≤ w.heap.size) :
    ∃ v' w', (Builtin.append_ #[28, 28] ty #[v, .slice A n c]).run Tryz.prog w = .ok v' w' ∧ w'.ownsRow base 5 1 v' (bs ++ news).length (u8s (nums (bs ++ news))) ∧ Below base w w' := by
  obtain ⟨i0, hi0, hz0, hz1, hz2⟩ := info_parts info5
  have one : ∀ u ∈ u8s (nums news), u.oneCell' = true := by
    intro u hu
    obtain ⟨x, _, rfl⟩ := List.mem_map.1 hu
    rfl
  rcases h with h | h
  · obtain ⟨v', w', h1, h2, h3, _⟩ := run_app (P := Tryz.prog) w (base := base) ty Tryz.underlying28 hi0 hz0 hz1 hz2 rfl (by decide) h c hs one (by unfold maxLen; omega) (by omega) hbase
    refine ⟨v', w', h1, ?_, Below.grown (Below.refl _ _) h3 hbase (fun b e => own_blk h e)⟩
    rw [List.length_append, hl, u8s_app]
    exact h2
  · obtain ⟨ad, rfl, hc⟩ := hs.at_ hn
    obtain ⟨v', w', h1, h2, h3⟩ := run_grow (base := base) 28 (.slice (some ad) n c) n news ty h (_root_.Go.Src.ofSlice w Tryz.underlying28 ad n c _ (by rw [u8s_len, hl, Nat.mul_one]) hc one) hn hl h63 hbase
    exact ⟨v', w', h1, h2, h3.mono hbase⟩

theorem wpList_lg {w : World} {ops : Array Oper} {rest : List Oper} {o : Oper} {a : Act} {Q : Exit → Act → World → Prop} (hgd : o.guard = none) (s x : Operand) (base : Nat)
    (ho : o.op = .call { callee := .builtin .append, args := #[s, x], argTypes := #[28, 28] })
    (v : Value) (bs : Bs) (hv : a.eval s = v) (h : Lg w base v bs) (A : Option Addr) (n c : Nat) (news : Bs) (hx : a.eval x = .slice A n c) (hs : Src w 1 A n (u8s (nums news))) (hn : 0 < n) (hl : news.length = n) (h63 : bs.length + n ≤ 1048576) (hbase : base ≤ w.heap.size)
    (hk : ∀ v' w', w'.ownsRow base 5 1 v' (bs ++ news).length (u8s (nums (bs ++ news))) → Below base w w' → wpList Tryz.prog ops Q rest (a.put o.dst v') w') : wpList Tryz.prog ops Q (o :: rest) a w := by
  refine wpList_plain hgd fun K hK => ?_
  obtain ⟨v', w', hr, h2, h3⟩ := run_lg (c := c) h o.type hs hn hl h63 hbase
  unfold Oper.wp execOp
  simp only [ho, resolve, invoke, builtin, Sem.run_bind, Sem.run_pure, Result.andThen_ok, List.map_toArray, List.map_cons, List.map_nil, hv, hx, hr]
  exact hK _ _ (hk v' w' h2 h3)

/-- append of a string's bytes. -/
theorem run_lgS {w : World} {base : Nat} {v : Value} {bs : Bs} (h : Lg w base v bs) (t : ByteArray) (ty : TypeId) (hn : 0 < t.size) (h63 : bs.length + t.size ≤ 1048576) (hbase : base ≤ w.heap.size) :
    ∃ v' w', (Builtin.append_ #[28, 9] ty #[v, .string t]).run Tryz.prog w = .ok v' w' ∧ w'.ownsRow base 5 1 v' (bs ++ t.data.toList).length (u8s (nums (bs ++ t.data.toList))) ∧ Below base w w' := by
  obtain ⟨i0, hi0, hz0, hz1, hz2⟩ := info_parts info5
  have hst : Lib.strCells t = u8s (nums t.data.toList) := by
    unfold Lib.strCells u8s nums
    rw [List.map_map]
    rfl
  rcases h with h | h
  · obtain ⟨v', w', h1, h2, h3, _⟩ := Lib.run_append_own_string (P := Tryz.prog) w base 28 9 ty 5 i0 Tryz.underlying28 Tryz.underlying9 hi0 hz0 hz1 hz2 v bs.length (u8s (nums bs)) h t (by unfold maxLen; omega) (by omega) hbase
    refine ⟨v', w', h1, ?_, Below.grown (Below.refl _ _) h3 hbase (fun b e => own_blk h e)⟩
    rw [List.length_append, ← size_list, u8s_app, ← hst]
    exact h2
  · have hsr : _root_.Go.Src Tryz.prog 1 9 (.string t) t.size (u8s (nums t.data.toList)) w := by
      have hb : u8s (nums t.data.toList) = byteCells t := by
        unfold byteCells u8s nums
        rw [List.map_map]
        rfl
      rw [hb]
      exact _root_.Go.Src.ofString w Tryz.underlying9 t
    obtain ⟨v', w', h1, h2, h3⟩ := run_grow (base := base) 9 (.string t) t.size t.data.toList ty h hsr hn (size_list t).symm h63 hbase
    exact ⟨v', w', h1, h2, h3.mono hbase⟩

theorem wpList_lgS {w : World} {ops : Array Oper} {rest : List Oper} {o : Oper} {a : Act} {Q : Exit → Act → World → Prop} (hgd : o.guard = none) (s x : Operand) (base : Nat)
    (ho : o.op = .call { callee := .builtin .append, args := #[s, x], argTypes := #[28, 9] })
    (v : Value) (bs : Bs) (hv : a.eval s = v) (h : Lg w base v bs) (t : ByteArray) (hx : a.eval x = .string t) (hn : 0 < t.size) (h63 : bs.length + t.size ≤ 1048576) (hbase : base ≤ w.heap.size)
    (hk : ∀ v' w', w'.ownsRow base 5 1 v' (bs ++ t.data.toList).length (u8s (nums (bs ++ t.data.toList))) → Below base w w' → wpList Tryz.prog ops Q rest (a.put o.dst v') w') : wpList Tryz.prog ops Q (o :: rest) a w := by
  refine wpList_plain hgd fun K hK => ?_
  obtain ⟨v', w', hr, h2, h3⟩ := run_lgS h t o.type hn h63 hbase
  unfold Oper.wp execOp
  simp only [ho, resolve, invoke, builtin, Sem.run_bind, Sem.run_pure, Result.andThen_ok, List.map_toArray, List.map_cons, List.map_nil, hv, hx, hr]
  exact hK _ _ (hk v' w' h2 h3)

/-- A note's bytes but for the ends of lines. -/
def noNl (l : Bs) : Bs := l.filter fun c => c != 10

theorem noNl_snoc (l : Bs) (x : UInt8) : noNl (l ++ [x]) = noNl l ++ (if x = 10 then [] else [x]) := by
  unfold noNl
  rw [List.filter_append]
  by_cases h : x = 10
  · subst h
    rw [if_pos rfl]
    rfl
  · rw [if_neg h, List.filter_cons_of_pos (by simpa using h)]
    rfl

theorem stretch_snoc (l : Bs) (x : UInt8) : stretch (l ++ [x]) = stretch l ++ (if x = 32 ∨ x = 10 then [32, x, 32] else [x]) := by simp [stretch]

theorem stretch_le (l : Bs) : (stretch l).length ≤ 3 * l.length := by
  induction l with
  | nil => simp [stretch]
  | cons c s ih =>
    rw [stretch_cons]
    split <;> simp <;> omega

theorem byte_at {t : ByteArray} {k : Nat} (h : k < t.size) : ∃ x : UInt8, t[k] = x ∧ t.data.toList.take (k + 1) = t.data.toList.take k ++ [x] := by
  have hl : k < t.data.toList.length := by rw [← size_list]; exact h
  exact ⟨t[k], rfl, by rw [List.take_succ_eq_append_getElem hl, ← get_list t k h]⟩

theorem lines_at (Ls : List Bs) : ∀ (i : Nat) (out : List Cmd), 0 ≤ (linesR i Ls out).2.1 ∧ (linesR i Ls out).2.1 ≤ (i : Int) + Ls.length := by
  induction Ls with
  | nil =>
    intro i out
    unfold linesR
    simp
  | cons l r ih =>
    intro i out
    have h1 := ih (i + 1) out
    unfold linesR
    rw [List.length_cons]
    split
    · omega
    · split
      · omega
      · rename_i h t _ _
        cases readR (h :: t) with
        | ok c =>
          have h2 := ih (i + 1) (out ++ [c])
          dsimp only
          omega
        | error e =>
          dsimp only
          omega

theorem parse_at {s : Bs} {L : List Cmd} {a e : Int} (h : parseR s = (L, a, e)) : 0 ≤ a ∧ a ≤ 4096 := by
  have e1 : a = (parseR s).2.1 := by rw [h]
  rw [e1]
  unfold parseR
  split
  · exact ⟨Int.le_refl 0, by decide⟩
  · split
    · exact ⟨Int.le_refl 0, by decide⟩
    · have := lines_at (split 10 s) 0 []
      omega

theorem noNl_ne (l : Bs) : ∀ x ∈ noNl l, x ≠ 10 := by
  intro x hx
  have := (List.mem_filter.1 hx).2
  simpa using this

theorem src_new3 (w : World) (u v x : Value) (t : TypeId) : Src (w.alloc (.cells #[u, v, x] t)) 1 (some ⟨w.heap.size, 0, none⟩) 3 [u, v, x] :=
  src_blk (us := [u, v, x]) (heap_alloc_new w _) rfl

set_option maxRecDepth 100000 in
set_option maxHeartbeats 4000000 in
theorem walk {a0 a1 a3 : Addr} (t b : ByteArray) (ht : t.size ≤ 140737488351232) (_hb : b.size ≤ 140737488351232) (w : World) (Lw : Laid a0 a1 a3 w) :
    Calls Tryz.prog 8 #[.string t, .string b] w fun e w' => e = .returned (.bool true) ∧ Below w.heap.size w w' := by
  have HL := Lib.hid Lw
  have HSH := Lib.hid (shown11_call w Lw)
  have HP1 := Lib.hid (fun W (hb : Below w.heap.size w W) => parse12_call t W ht (HL.out.below hb))
  clear Lw
  go_enter Tryz.func8, Tryz.ntmps8
  go_wp2_with fail
  refine HSH.out.mono ?_
  rintro e w1 ⟨rfl, hb1⟩
  have HB1 := Lib.hid hb1
  clear hb1
  have hcv := Lib.run_convert_bytes_const (P := Tryz.prog) w1 28 5 #[.int .u8 32, .int .u8 35] 2 2 Tryz.underlying28 Tryz.underlying5
  have hlg : Lg (w1.alloc (.cells #[.int .u8 32, .int .u8 35] 5 (2, 3))) w1.heap.size (.slice (some ⟨w1.heap.size, 0, none⟩) 2 2) [32, 35] :=
    .inr ⟨w1.heap.size, rfl, Nat.le_refl _, heap_alloc_new w1 _, by decide⟩
  have hbm : Below w1.heap.size w1 (w1.alloc (.cells #[.int .u8 32, .int .u8 35] 5 (2, 3))) := (Below.refl _ _).alloc (Nat.le_refl _) _
  have HLG := Lib.hid hlg
  have HBM := Lib.hid hbm
  clear hlg hbm
  go_wp2_with fail
  go_loopw [6, 7] (fun v i wq => ∃ (k : Nat) (bs : Bs), i = .int .i64 k ∧ k ≤ b.size ∧ k ≤ 65537 ∧ Hid (bs = [32, 35] ++ noNl (b.data.toList.take k)) ∧ bs.length ≤ 2 + k ∧ Hid (Lg wq w1.heap.size v bs) ∧ Below w1.heap.size w1 wq)
    (fun _ i _ => 65537 - (intOf i).toNat)
  case atStart => exact ⟨0, [32, 35], rfl, Nat.zero_le _, Nat.zero_le _, Lib.hid rfl, by decide, HLG, HBM.out⟩
  case round =>
    rename World => wk
    obtain ⟨k, bs, rfl, hk, hk6, hbs, hbl, hlg, hbk⟩ := hrel
    have hszk := hbk.size
    have HBK := Lib.hid hbk
    have k0 : (0 : Int) ≤ (k : Int) := Int.natCast_nonneg _
    clear hbk
    by_cases hkt : k < b.size ∧ k ≤ 65536
    · have k1 : (k : Int) < (b.size : Int) := by omega
      have k2 : (k : Int) ≤ 65536 := by omega
      have hkt1 := hkt.1
      obtain ⟨x, hx, htk⟩ := byte_at hkt1
      have hnl := noNl_snoc (b.data.toList.take k) x
      rw [← htk] at hnl
      have HNL := Lib.hid hnl
      have HX := Lib.hid hx
      clear hkt htk hnl
      by_cases h10 : x = 10
      · have t1 : ((x.toNat : Int) != 10) = false := by rw [h10]; rfl
        have HN2 := Lib.hid (show noNl (b.data.toList.take (k + 1)) = noNl (b.data.toList.take k) from HNL.out.trans (by simp [h10]))
        clear h10
        go_wp2_with fail
        exact ⟨⟨k + 1, bs, by go_num, by omega, by omega, Lib.hid (by rw [hbs.out, HN2.out]), by omega, hlg, HBK.out⟩, by simp [intOf]; omega⟩
      · have t1 : ((x.toNat : Int) != 10) = true := by
          rw [bne_iff_ne]
          intro e
          exact h10 (UInt8.toNat_inj.1 (by have : x.toNat = 10 := (by omega); rw [this]; rfl))
        have HN2 := Lib.hid (show noNl (b.data.toList.take (k + 1)) = noNl (b.data.toList.take k) ++ [x] from HNL.out.trans (by simp [h10]))
        have hsr : Src (wk.alloc (.cells #[.int .u8 (x.toNat : Int)] 5)) 1 (some ⟨wk.heap.size, 0, none⟩) 1 (u8s (nums [x])) := src_new1 _ _ _
        have hba : Below wk.heap.size wk (wk.alloc (.cells #[.int .u8 (x.toNat : Int)] 5)) := (Below.refl _ _).alloc (Nat.le_refl _) _
        have hlg2 : Lg (wk.alloc (.cells #[.int .u8 (x.toNat : Int)] 5)) w1.heap.size u6 bs := by
          rcases hlg.out with h | ⟨g, e1, e2, e3, e4⟩
          · exact .inl (h.alloc _)
          · exact .inr ⟨g, e1, e2, (Below.heap_alloc _ _ _ (Array.getElem?_eq_some_iff.1 e3).1).trans e3, e4⟩
        have hq1 : w1.heap.size ≤ (wk.alloc (.cells #[.int .u8 (x.toNat : Int)] 5)).heap.size := Nat.le_trans hszk hba.size
        have hq2 : bs.length + 1 ≤ 1048576 := by omega
        have HSR := Lib.hid hsr
        have HBA := Lib.hid hba
        have HLG2 := Lib.hid hlg2
        clear hsr hba hlg2 h10
        go_wp2_with (at_builtin; refine wpList_lg rfl (.tmp 34) (.tmp 38) w1.heap.size rfl u6 bs rfl HLG2.out (some ⟨wk.heap.size, 0, none⟩) 1 1 [x] rfl HSR.out (by decide) rfl hq2 hq1 ?_; intro v6 w6 hown6 hb6; have HO6 := Lib.hid hown6; have HB6 := Lib.hid hb6; clear hown6 hb6)
        refine ⟨⟨k + 1, bs ++ [x], by go_num, by omega, by omega, Lib.hid (by rw [hbs.out, HN2.out, List.append_assoc]), by rw [List.length_append]; simp; omega, Lib.hid (.inl HO6.out), HBK.out.trans ((HBA.out.mono hszk).trans HB6.out)⟩, by simp [intOf]; omega⟩
    · have HLEFT := Lib.hid hkt
      clear hkt
      go_upto_region 6 with fail
      go_cut [27] (fun v wx => v = .bool false ∧ wx = wk)
      case first =>
        by_cases c1 : k < b.size
        · have q1 : (k : Int) < (b.size : Int) := by omega
          have q2 : ¬ (k : Int) ≤ 65536 := by have := HLEFT.out; omega
          clear c1
          go_wp2_with fail
          go_meet
          exact ⟨rfl, rfl⟩
        · have q1 : ¬ (k : Int) < (b.size : Int) := by omega
          clear c1
          go_wp2_with fail
          go_meet
          exact ⟨rfl, rfl⟩
      case rest =>
        obtain ⟨rfl, hwc⟩ := hcut
        rw [hwc]
        clear hwc
        obtain ⟨note, hnote⟩ : ∃ z, noNl (b.data.toList.take k) = z := ⟨_, rfl⟩
        have hnn := noNl_ne (b.data.toList.take k)
        have hbs1 := hbs.out
        rw [hnote] at hnn hbs1
        have HNN := Lib.hid hnn
        have HBS := Lib.hid hbs1
        clear hnote hnn hbs1 hbs
        have hq1 : bs.length + (⟨#[10, 32, 32, 10]⟩ : ByteArray).size ≤ 1048576 := by show bs.length + 4 ≤ _; omega
        go_wp2_with (at_builtin; refine wpList_lgS rfl (.tmp 40) (.const (.string ⟨#[10, 32, 32, 10]⟩)) w1.heap.size rfl u6 bs rfl hlg.out ⟨#[10, 32, 32, 10]⟩ rfl (by decide) hq1 hszk ?_; intro v2 w2 hown2 hb2; have HO2 := Lib.hid hown2; have HB2 := Lib.hid (HBK.out.trans hb2); clear hown2 hb2)
        obtain ⟨bs2, hbs2⟩ : ∃ z, bs ++ (⟨#[10, 32, 32, 10]⟩ : ByteArray).data.toList = z := ⟨_, rfl⟩
        have hl2 : bs2.length ≤ 65543 := by rw [← hbs2, List.length_append]; show bs.length + 4 ≤ _; omega
        rw [hbs2] at HO2
        have HBS2 : Hid (bs2 = [32, 35] ++ note ++ [10, 32, 32, 10]) := by
          show _ = _
          rw [← hbs2, HBS.out]
        have ht0 : stretch (t.data.toList.take 0) = [] := rfl
        clear hbs2 hq1 hbl HBS hlg HLEFT
        go_loopw [6, 8] (fun v i wq => ∃ (k : Nat) (cs : Bs), i = .int .i64 k ∧ k ≤ t.size ∧ k ≤ 65537 ∧ Hid (cs = bs2 ++ stretch (t.data.toList.take k)) ∧ cs.length ≤ 65543 + 3 * k ∧ k ≤ cs.length ∧ Hid (wq.ownsRow w1.heap.size 5 1 v cs.length (u8s (nums cs))) ∧ Below w1.heap.size w1 wq)
          (fun _ i _ => 65537 - (intOf i).toNat)
        case atStart => exact ⟨0, bs2, rfl, Nat.zero_le _, Nat.zero_le _, Lib.hid (by rw [ht0, List.append_nil]), by omega, Nat.zero_le _, HO2, HB2.out⟩
        case round =>
          rename World => wr
          obtain ⟨j, cs, rfl, hj, hj6, hcs, hcl, hcg, hown, hbr⟩ := hrel
          have hszr := hbr.size
          have HBR := Lib.hid hbr
          have j0 : (0 : Int) ≤ (j : Int) := Int.natCast_nonneg _
          clear hbr
          by_cases hjt : j < t.size ∧ j ≤ 65536
          · have k1 : (j : Int) < (t.size : Int) := by omega
            have k2 : (j : Int) ≤ 65536 := by omega
            have hjt1 := hjt.1
            obtain ⟨x, hx, htk⟩ := byte_at hjt1
            have hst := stretch_snoc (t.data.toList.take j) x
            rw [← htk] at hst
            have HST := Lib.hid hst
            have HX := Lib.hid hx
            have HTK := Lib.hid htk
            clear hjt htk hst
            by_cases hsp : x = 32 ∨ x = 10
            · rw [if_pos hsp] at HST
              go_upto_region 14 with fail
              go_cut [61] (fun v wx => v = .bool true ∧ wx = wr)
              case first =>
                by_cases h32 : x = 32
                · have t1 : ((x.toNat : Int) == 32) = true := by rw [h32]; rfl
                  clear hsp h32
                  go_wp2_with fail
                  go_meet
                  exact ⟨rfl, rfl⟩
                · have t1 : ((x.toNat : Int) == 32) = false := by
                    rw [beq_eq_false_iff_ne]
                    intro e
                    exact h32 (UInt8.toNat_inj.1 (by have : x.toNat = 32 := (by omega); rw [this]; rfl))
                  have t2 : ((x.toNat : Int) == 10) = true := by rw [hsp.resolve_left h32]; rfl
                  clear hsp h32
                  go_wp2_with fail
                  go_meet
                  exact ⟨rfl, rfl⟩
              case rest =>
                obtain ⟨rfl, hwc⟩ := hcut
                rw [hwc]
                clear hwc hsp
                have hsr : Src (wr.alloc (.cells #[.int .u8 32, .int .u8 (x.toNat : Int), .int .u8 32] 5)) 1 (some ⟨wr.heap.size, 0, none⟩) 3 (u8s (nums [32, x, 32])) := src_new3 _ _ _ _ _
                have hba : Below wr.heap.size wr (wr.alloc (.cells #[.int .u8 32, .int .u8 (x.toNat : Int), .int .u8 32] 5)) := (Below.refl _ _).alloc (Nat.le_refl _) _
                have hlg2 : Lg (wr.alloc (.cells #[.int .u8 32, .int .u8 (x.toNat : Int), .int .u8 32] 5)) w1.heap.size u6 cs := .inl (hown.out.alloc _)
                have hq1 : w1.heap.size ≤ (wr.alloc (.cells #[.int .u8 32, .int .u8 (x.toNat : Int), .int .u8 32] 5)).heap.size := Nat.le_trans hszr hba.size
                have hq2 : cs.length + 3 ≤ 1048576 := by omega
                have HSR := Lib.hid hsr
                have HBA := Lib.hid hba
                have HLG2 := Lib.hid hlg2
                clear hsr hba hlg2
                go_wp2_with (at_builtin; refine wpList_lg rfl (.tmp 62) (.tmp 66) w1.heap.size rfl u6 cs rfl HLG2.out (some ⟨wr.heap.size, 0, none⟩) 3 3 [32, x, 32] rfl HSR.out (by decide) rfl hq2 hq1 ?_; intro v6 w6 hown6 hb6; have HO6 := Lib.hid hown6; have HB6 := Lib.hid hb6; clear hown6 hb6)
                refine ⟨⟨j + 1, cs ++ [32, x, 32], by go_num, by omega, by omega, Lib.hid (by rw [hcs.out, HST.out, List.append_assoc]), by rw [List.length_append]; simp; omega, by rw [List.length_append]; simp; omega, HO6, HBR.out.trans ((HBA.out.mono hszr).trans HB6.out)⟩, by simp [intOf]; omega⟩
            · rw [if_neg hsp] at HST
              have t1 : ((x.toNat : Int) == 32) = false := by
                rw [beq_eq_false_iff_ne]
                intro e
                exact hsp (.inl (UInt8.toNat_inj.1 (by have : x.toNat = 32 := (by omega); rw [this]; rfl)))
              have t2 : ((x.toNat : Int) == 10) = false := by
                rw [beq_eq_false_iff_ne]
                intro e
                exact hsp (.inr (UInt8.toNat_inj.1 (by have : x.toNat = 10 := (by omega); rw [this]; rfl)))
              clear hsp
              have hsr : Src (wr.alloc (.cells #[.int .u8 (x.toNat : Int)] 5)) 1 (some ⟨wr.heap.size, 0, none⟩) 1 (u8s (nums [x])) := src_new1 _ _ _
              have hba : Below wr.heap.size wr (wr.alloc (.cells #[.int .u8 (x.toNat : Int)] 5)) := (Below.refl _ _).alloc (Nat.le_refl _) _
              have hlg2 : Lg (wr.alloc (.cells #[.int .u8 (x.toNat : Int)] 5)) w1.heap.size u6 cs := .inl (hown.out.alloc _)
              have hq1 : w1.heap.size ≤ (wr.alloc (.cells #[.int .u8 (x.toNat : Int)] 5)).heap.size := Nat.le_trans hszr hba.size
              have hq2 : cs.length + 1 ≤ 1048576 := by omega
              have HSR := Lib.hid hsr
              have HBA := Lib.hid hba
              have HLG2 := Lib.hid hlg2
              clear hsr hba hlg2
              go_wp2_with (at_builtin; refine wpList_lg rfl (.tmp 68) (.tmp 72) w1.heap.size rfl u6 cs rfl HLG2.out (some ⟨wr.heap.size, 0, none⟩) 1 1 [x] rfl HSR.out (by decide) rfl hq2 hq1 ?_; intro v6 w6 hown6 hb6; have HO6 := Lib.hid hown6; have HB6 := Lib.hid hb6; clear hown6 hb6)
              refine ⟨⟨j + 1, cs ++ [x], by go_num, by omega, by omega, Lib.hid (by rw [hcs.out, HST.out, List.append_assoc]), by rw [List.length_append]; simp; omega, by rw [List.length_append]; simp; omega, HO6, HBR.out.trans ((HBA.out.mono hszr).trans HB6.out)⟩, by simp [intOf]; omega⟩
          · have HLEFT := Lib.hid hjt
            clear hjt
            go_upto_region 12 with fail
            go_cut [49] (fun v wx => v = .bool false ∧ wx = wr)
            case first =>
              by_cases c1 : j < t.size
              · have q1 : (j : Int) < (t.size : Int) := by omega
                have q2 : ¬ (j : Int) ≤ 65536 := by have := HLEFT.out; omega
                clear c1
                go_wp2_with fail
                go_meet
                exact ⟨rfl, rfl⟩
              · have q1 : ¬ (j : Int) < (t.size : Int) := by omega
                clear c1
                go_wp2_with fail
                go_meet
                exact ⟨rfl, rfl⟩
            case rest =>
              obtain ⟨rfl, hwc⟩ := hcut
              rw [hwc]
              clear hwc
              have hq1 : cs.length + (⟨#[32, 32, 10, 35, 32, 116, 104, 101, 32, 101, 110, 100]⟩ : ByteArray).size ≤ 1048576 := by show cs.length + 12 ≤ _; omega
              have hlg3 : Lg wr w1.heap.size u6 cs := .inl hown.out
              have HLG3 := Lib.hid hlg3
              clear hlg3
              go_upto_region 18 with (at_builtin; refine wpList_lgS rfl (.tmp 74) (.const (.string ⟨#[32, 32, 10, 35, 32, 116, 104, 101, 32, 101, 110, 100]⟩)) w1.heap.size rfl u6 cs rfl HLG3.out ⟨#[32, 32, 10, 35, 32, 116, 104, 101, 32, 101, 110, 100]⟩ rfl (by decide) hq1 hszr ?_; intro v4 w4 hown4 hb4; have HO4 := Lib.hid hown4; have HB4 := Lib.hid (HBR.out.trans hb4); clear hown4 hb4)
              obtain ⟨bs4, hbs4⟩ : ∃ z, cs ++ (⟨#[32, 32, 10, 35, 32, 116, 104, 101, 32, 101, 110, 100]⟩ : ByteArray).data.toList = z := ⟨_, rfl⟩
              have hl4 : bs4.length = cs.length + 12 := by rw [← hbs4, List.length_append]; rfl
              rw [hbs4] at HO4
              have HBS4 : Hid (bs4 = bs2 ++ stretch (t.data.toList.take j) ++ [32, 32, 10, 35, 32, 116, 104, 101, 32, 101, 110, 100]) := by
                show _ = _
                rw [← hbs4, hcs.out]
              obtain ⟨A4, c4, e4⟩ := own_form HO4.out
              subst e4
              have HL4 : Hid (bs4.length ≤ 1048576) := by show _ ≤ _; omega
              have HTL : Hid (j ≤ 65536 → j = t.size) := by show _ → _; intro h; have := HLEFT.out; omega
              have HJL : Hid (j ≤ bs4.length) := by show _ ≤ _; omega
              obtain ⟨n4, hn4⟩ : ∃ n, bs4.length = n := ⟨_, rfl⟩
              rw [hn4] at HO4 HL4 HJL ⊢
              clear hbs4 hl4 hq1 HLG3 hcs hown HLEFT hcl hcg
              have hn63 : n4 ≤ 1048576 := HL4.out
              have hn64 : (n4 : Int) ≤ 1048576 := by omega
              by_cases m1 : 65536 < n4
              · have t1 : (65536 : Int) < (n4 : Int) := by omega
                clear m1 hn4
                go_wp2_with fail
                go_ret
                exact ⟨rfl, HB1.out.trans (HB4.out.mono HB1.out.size)⟩
              · have t1 : ¬ (65536 : Int) < (n4 : Int) := by omega
                have HN4 : Hid (n4 ≤ 65536) := by show _ ≤ _; omega
                clear m1
                have hnu : (nums bs4).length = n4 := by rw [← hn4]; simp [nums]
                have hown4 : ∀ W, Below w4.heap.size w4 W → (convert 28 9 (.slice A4 n4 c4)).run Tryz.prog W = .ok (.string ⟨bs4.toArray⟩) W := by
                  intro W hb
                  rw [← strOf_nums]
                  refine own_str (base := w1.heap.size) ?_
                  rw [hnu]
                  exact own_keep HO4.out fun b _ hl => hb.block b hl
                have HTL4 : Hid ((⟨bs4.toArray⟩ : ByteArray).data.toList = bs4) := rfl
                have HTS : Hid ((⟨bs4.toArray⟩ : ByteArray).size = n4) := by show _ = _; rw [size_list, HTL4.out, hn4]
                obtain ⟨T, hT⟩ : ∃ T : ByteArray, (⟨bs4.toArray⟩ : ByteArray) = T := ⟨_, rfl⟩
                rw [hT] at hown4 HTL4 HTS
                have hcv4 := hown4 w4 (Below.refl _ _)
                have hcd4 := fun n : Nat => hown4 (w4.drewN n) (below_drewN w4 n)
                have HCV := Lib.hid hown4
                have HB04 := Lib.hid (HB1.out.trans (HB4.out.mono HB1.out.size))
                have HLN := Lib.hid (fun W => lines20_call T W (by rw [HTS.out]; have := HN4.out; omega))
                obtain ⟨nl, hnl⟩ : ∃ nl, (split 10 T.data.toList).length = nl := ⟨_, rfl⟩
                rw [hnl] at HLN
                have HNL := Lib.hid hnl
                have HP2 := Lib.hid (fun W (hb : Below w.heap.size w W) => parse12_call T W (by rw [HTS.out]; have := HN4.out; omega) (HL.out.below hb))
                have HN4E := Lib.hid hn4
                have HNU := Lib.hid hnu
                clear hnl hT hn4 hown4 hnu
                by_cases m2 : 4096 < nl
                · have t2 : (4096 : Int) < (nl : Int) := by omega
                  clear m2
                  go_wp2_with fail
                  refine (HLN.out _).mono ?_
                  rintro e w5 ⟨rfl, rfl⟩
                  go_wp2_with fail
                  go_ret
                  exact ⟨rfl, HB04.out⟩
                · have t2 : ¬ (4096 : Int) < (nl : Int) := by omega
                  have HNLE : Hid (nl ≤ 4096) := by show _ ≤ _; omega
                  clear m2
                  go_wp2_with fail
                  refine (HLN.out _).mono ?_
                  rintro e w5 ⟨rfl, rfl⟩
                  have hjs : j ≤ 65536 := by have := HJL.out; have := HN4.out; omega
                  obtain rfl : j = t.size := HTL.out hjs
                  have HLT : Hid (bs4 = longT note t.data.toList) := by
                    show _ = _
                    rw [HBS4.out, HBS2.out, size_list, List.take_length]
                    rfl
                  have hpn := parse_nothing note t.data.toList HNN.out (by rw [← HLT.out, HN4E.out]; exact HN4.out) (by rw [← HLT.out, ← HTL4.out, HNL.out]; exact HNLE.out)
                  rw [← HLT.out, ← HTL4.out] at hpn
                  obtain ⟨L, a, e, hp1, hp2⟩ := hpn
                  rw [hp1] at HP1
                  have hat := parse_at hp1
                  have hcb := parse_cmdB hp1
                  have HCB := Lib.hid hcb
                  clear hp1 hcb
                  unfold ParsePost at HP1
                  dsimp only at HP1
                  go_wp2_with fail
                  refine (HP1.out _ HB04.out).mono ?_
                  rintro e5 w5 ⟨hb5, A1, k1, cs1, rfl, ho1, hc1⟩
                  have HB5 := Lib.hid hb5
                  have HB05 := Lib.hid (HB04.out.trans (hb5.mono HB04.out.size))
                  have HO1 := Lib.hid ho1
                  have HC1 := Lib.hid hc1
                  clear hb5 ho1 hc1
                  have hcv5 := HCV.out w5 HB5.out
                  have hcd5 := fun n : Nat => HCV.out (w5.drewN n) (bl_drewN HB5.out n)
                  go_wp2_with fail
                  have hP2 : Calls Tryz.prog 12 #[.string T] w5 fun e w' => ParsePost w5 (parseR T.data.toList) e w' := HP2.out _ HB05.out
                  unfold ParsePost at hP2
                  rcases hp2 with ⟨rfl, hp2⟩ | ⟨ha, hp2⟩
                  · rw [hp2] at hP2
                    dsimp only at hP2
                    clear hp2 hat
                    refine hP2.mono ?_
                    rintro e6 w6 ⟨hb6, A2, k2, cs2, rfl, ho2, hc2⟩
                    have HB06 := Lib.hid (HB05.out.trans (hb6.mono HB05.out.size))
                    have hr1 : CmdsR w6 A1 L := (own_cmdsR HO1.out HC1.out (by have := HCB.out.1; omega) HCB.out.2).below hb6
                    have hr2 : CmdsR w6 A2 L := own_cmdsR ho2 hc2 (by have := HCB.out.1; omega) HCB.out.2
                    have HSM := Lib.hid (same_call A1 A2 k1 k2 L w6 hr1 hr2)
                    clear hb6 ho2 hc2 hr1 hr2
                    go_wp2_with fail
                    refine HSM.out.mono ?_
                    rintro e7 w7 ⟨rfl, hb7⟩
                    have HB07 := Lib.hid (HB06.out.trans (hb7.mono HB06.out.size))
                    clear hb7
                    go_wp2_with fail
                    go_ret
                    exact ⟨rfl, HB07.out⟩
                  · rw [hp2] at hP2
                    dsimp only at hP2
                    have t3 : (a == 0) = false := by rw [beq_eq_false_iff_ne]; omega
                    have t4 : (0 : Int) < a := ha
                    have hat1 := hat.2
                    clear hp2 hat
                    refine hP2.mono ?_
                    rintro e6 w6 ⟨hb6, A2, k2, cs2, rfl, ho2, hc2⟩
                    have HB06 := Lib.hid (HB05.out.trans (hb6.mono HB05.out.size))
                    have hr1 : CmdsR w6 A1 L := (own_cmdsR HO1.out HC1.out (by have := HCB.out.1; omega) HCB.out.2).below hb6
                    have hr2 : CmdsR w6 A2 L := own_cmdsR ho2 hc2 (by have := HCB.out.1; omega) HCB.out.2
                    have HSM := Lib.hid (same_call A1 A2 k1 k2 L w6 hr1 hr2)
                    clear hb6 ho2 hc2 hr1 hr2
                    go_wp2_with fail
                    refine HSM.out.mono ?_
                    rintro e7 w7 ⟨rfl, hb7⟩
                    have HB07 := Lib.hid (HB06.out.trans (hb7.mono HB06.out.size))
                    clear hb7
                    go_wp2_with fail
                    go_ret
                    exact ⟨rfl, HB07.out⟩
theorem laidOut : laidOutB Tryz.prog = true := by kernel_rfl

theorem reads (os : Os) {H : Type} (enc : TypeId × Value → H) : ∃ places, DataW.whole enc Tryz.prog ((LW.laidWorld os #[]).forCall (fun _ _ => 0) ⟨#[], #[.string ByteArray.empty, .string ByteArray.empty], []⟩).memory Tryz.f8.params.toList Rows.scriptNothingSpec.vars false #[Value.string ByteArray.empty, Value.string ByteArray.empty].toList 8 = some ([.lit (.string []), .lit (.string [])], [], places) :=
  ⟨[], by kernel_rfl⟩

set_option maxRecDepth 100000 in
theorem lifted (os : Os) (started : os.Started) (H : Type) (enc : TypeId × Value → H) (F : Stop.Interp) :
    ReturnsInHanded {} Tryz.checked os 8 .any ((OpenSpec.ofChange Rows.scriptNothingSpec).preRow enc Tryz.prog Tryz.f8 Rows.scriptNothingRow.domain false Rows.scriptNothingRow.laid) (((OpenSpec.ofChange Rows.scriptNothingSpec).at F).post enc Tryz.prog Tryz.f8 false true false false) := by
  obtain ⟨places, hx⟩ := reads os enc
  refine returnsInHanded_of_row (C := Tryz.checked) (s := OpenSpec.ofChange Rows.scriptNothingSpec) LW.own started (by kernel_rfl) Tryz.func8
    (witness_row_atRef (enc := enc) (C := Tryz.checked) false (LW.laidWorld os #[]) #[.string ByteArray.empty, .string ByteArray.empty] rfl (by kernel_rfl) (by kernel_rfl) (by kernel_rfl)
      (OpenSpec.preRow_of_cond 8 hx (by kernel_rfl) (fun k hk => by cases hk) (by kernel_rfl) (LW.laid_met os _))) ?_
  intro W base args ds gs before hval0 hW _ _ hwt hL _ _
  have hval : ∀ (j : Nat) t v, Tryz.f8.params[j]? = some t → args[j]? = some v → Value.okWide Tryz.prog W .any base t v := hval0
  have hW' := hW
  obtain ⟨p, q, hA0, hV, rfl, hfz, hnd⟩ := hW
  have hA : DataW.TrodAll enc Tryz.prog W 0 (fun _ => true) true Tryz.f8.params.toList args.toList ds p := hA0
  rw [Tryz.params8] at hA hval
  obtain ⟨v0, vs0, d0, ds0, p0, q0, hargs0, rfl, rfl, h0, r0⟩ := trodAll_cons hA
  obtain ⟨v1, vs1, d1, ds1, p1, q1, hargs1, rfl, rfl, h1, r1⟩ := trodAll_cons r0
  obtain ⟨rfl, rfl, rfl⟩ := trodAll_nil r1
  obtain rfl : args = #[v0, v1] := by cases args; simp_all
  obtain ⟨rfl, rfl⟩ := trodVars_none hV
  obtain ⟨a, rfl, rfl, rfl, _⟩ := ChangeMaps.open_string Tryz.underlying9 (hval 0 9 v0 rfl rfl) h0
  obtain ⟨b, rfl, rfl, rfl, _⟩ := ChangeMaps.open_string Tryz.underlying9 (hval 1 9 v1 rfl rfl) h1
  have hw2 : (([a.data.toList.length] ++ ([b.data.toList.length] ++ [])).all fun x => decide (x ≤ reachBytes)) = true := hwt
  simp only [List.all_append, List.all_cons, List.all_nil, Bool.and_true, Bool.and_eq_true, decide_eq_true_eq] at hw2
  obtain ⟨a0, a1, a3, L⟩ := LW.laid_of hL
  clear hA0 hval0
  refine (walk a b (by rw [size_list]; exact hw2.1) (by rw [size_list]; exact hw2.2) W L).mono fun e W' ⟨he, hg⟩ => ?_
  subst he
  exact ⟨_, rfl, law_post laidOut Tryz.underlying4 (by kernel_rfl) rfl (by kernel_rfl) hW' rfl hg⟩

theorem said : Rows.ScriptNothingSaid :=
  OpenClaim.holds_of_cond 8 Tryz.f8 rfl rfl rfl rfl rfl rfl rfl ⟨rfl, rfl, rfl, rfl, rfl⟩ rfl rfl rfl rfl rfl (by kernel_rfl) Tryz.func8 (by kernel_rfl)
    (of_decide_eq_true (by kernel_rfl)) (by unfold Func.isWrapper; first | (rw [if_pos (by decide +kernel)]; kernel_rfl) | (rw [if_neg (by decide +kernel)]; exact ⟨rfl, rfl⟩))
    (fun os started H enc _ F => by rw [OpenClaim.pre_eq_preRow]; exact lifted os started H enc F)

theorem plain (f : FuncId) (fn : Func) (hf : Tryz.pinned.checked.prog.funcNamed "muniment/munimentlaw22.ScriptNothing" = some f) (hfn : Tryz.pinned.checked.prog.funcs[f]? = some fn) :
    true = Tryz.pinned.checked.prog.looks [] ∧ ∀ (j : Nat) t, fn.params[j]? = some t → Tryz.pinned.checked.prog.wantsStandIn t = false := by
  obtain rfl : f = 8 := Option.some.inj ((show Tryz.prog.funcNamed "muniment/munimentlaw22.ScriptNothing" = some 8 by kernel_rfl).symm.trans hf) |>.symm
  obtain rfl : fn = Tryz.f8 := (Option.some.inj (Tryz.func8.symm.trans hfn)).symm
  refine ⟨by kernel_rfl, fun j t ht => ?_⟩
  rw [Tryz.params8] at ht
  obtain rfl : t = 9 := by
    have := Array.mem_of_getElem? ht
    simpa using this
  exact (show Tryz.prog.wantsStandIn 9 = false by kernel_rfl)

theorem proved : Rows.ScriptNothingCardSaid :=
  Claim7.holds_tied_plain_at .later [] _ _ _ _ said (fun _ h => by cases h) (by kernel_rfl) (fun _ h => by cases h) scriptNothing_row_tie rfl ⟨rfl, rfl⟩ (by kernel_rfl) rfl plain (by kernel_rfl)
#print axioms proved
end Go.Proofs.YtlibjfmafpiopaaGreatDoor.scriptNothing
