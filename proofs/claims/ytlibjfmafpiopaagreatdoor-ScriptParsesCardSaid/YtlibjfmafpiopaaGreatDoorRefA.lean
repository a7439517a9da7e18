/- The document's pieces, words, IDs and digits (munimentref22: split, words, id, digit): the contracts. -/
import Derived.Test.YtlibjfmafpiopaaGreatDoorMem
import Derived.Test.YtlibjfmafpiopaaGreatDoorSpec
import Derived.Deep.DeepCutAuto
namespace Go.Proofs.YtlibjfmafpiopaaGreatDoor
open Go.RowKit Scr

/-- Rows of bytes as strings. -/
def sv (L : List Bs) : List Value := L.map fun l => .string ⟨l.toArray⟩

theorem sv_snoc (L : List Bs) (l : Bs) : sv (L ++ [l]) = sv L ++ [.string ⟨l.toArray⟩] := by simp [sv]

theorem info9 : (Tryz.prog.info? 9).map (fun i => (i.zero, i.size, i.bytes)) = some (some (.string ByteArray.empty), 1, 16) := by kernel_rfl

theorem size_list (s : ByteArray) : s.size = s.data.toList.length := by
  show s.data.size = _
  simp

theorem extract_list (s : ByteArray) (a b : Nat) : s.extract a b = ⟨((s.data.toList.drop a).take (b - a)).toArray⟩ := by
  apply ByteArray.ext
  rw [ByteArray.data_extract]
  apply Array.ext'
  simp [List.take_drop]

theorem get_list (s : ByteArray) (k : Nat) (h : k < s.size) : s[k] = s.data.toList[k]'(by rw [← size_list]; exact h) := by
  show s.data[k] = _
  simp

theorem toList_mk (l : Bs) : (⟨l.toArray⟩ : ByteArray).toList = l := by rw [ByteArray.toList_eq]

theorem own_form {w : World} {base : Nat} {e : TypeId} {size : Nat} {v : Value} {n : Nat} {xs : List Value} (h : w.ownsRow base e size v n xs) : ∃ A cap, v = .slice A n cap := by
  rcases h.2 with ⟨rfl, h0⟩ | ⟨g, cap, cur, rfl, _⟩
  · exact ⟨none, 0, by rw [h0]⟩
  · exact ⟨_, cap, rfl⟩

theorem own_blk {w : World} {base : Nat} {e : TypeId} {size : Nat} {v : Value} {n : Nat} {xs : List Value} (h : w.ownsRow base e size v n xs) {b : Nat} (hb : v.ownBlock = some b) : base ≤ b := by
  rcases h.2 with ⟨rfl, _⟩ | ⟨g, cap, cur, rfl, hg, _⟩
  · cases hb
  · cases hb
    exact hg

theorem split_grown {N : Nat} {w wr w6 : World} {e : TypeId} {v : Value} {n : Nat} {xs : List Value} {o : Obj} (hb : Below N w wr) (hown : wr.ownsRow N e 1 v n xs) (hg : (wr.alloc o).grownBy w6 v.ownBlock) (hN : N ≤ wr.heap.size := by omega) : Below N w w6 :=
  Below.grown (hb.alloc hN o) hg (by simp; omega) (fun b e => own_blk hown e)

theorem take_grow {l : Bs} {f k : Nat} (hf : f ≤ k) (hk : k < l.length) : (l.drop f).take (k + 1 - f) = (l.drop f).take (k - f) ++ [l[k]] := by
  have h1 : k - f < (l.drop f).length := by rw [List.length_drop]; omega
  have e : (l.drop f)[k - f] = l[k] := by
    rw [List.getElem_drop]
    have e2 : f + (k - f) = k := by omega
    simp only [e2]
  rw [show k + 1 - f = (k - f) + 1 by omega, List.take_succ_eq_append_getElem h1, e]

theorem glue_len (cur : Bs) (L : List Bs) : 1 ≤ (glue cur L).length := by
  cases L <;> simp [glue]

set_option maxHeartbeats 1000000 in
theorem split_call (s : ByteArray) (c : UInt8) (ci : Int) (hci : ci = c.toNat) (w : World) (hs : s.size ≤ 70000) :
    Calls Tryz.prog 24 #[.string s, .int .u8 ci] w fun e w' => ∃ A cap, e = .returned (.slice A (split c s.data.toList).length cap) ∧ w'.ownsRow w.heap.size 9 1 (.slice A (split c s.data.toList).length cap) (split c s.data.toList).length (sv (split c s.data.toList)) ∧ Below w.heap.size w w' := by
  obtain ⟨i0, hi0, hz0, hz1, hz2⟩ := info_parts info9
  have HCI := Lib.hid hci
  clear hci
  have HSL := Lib.hid (size_list s)
  have HN := Lib.hid (split_len c s.data.toList)
  go_enter Tryz.func24, Tryz.ntmps24
  go_wp2
  go_loopw [5, 6, 7] (fun v fr i wr => ∃ (k : Nat) (outs : List Bs), i = .int .i64 k ∧ wr.ownsRow w.heap.size 9 1 v outs.length (sv outs) ∧ Below w.heap.size w wr ∧
      ((k ≤ s.size ∧ ∃ f : Nat, f ≤ k ∧ fr = .int .i64 f ∧ Hid (outs ++ glue ((s.data.toList.drop f).take (k - f)) (split c (s.data.toList.drop k)) = split c s.data.toList)) ∨ (k = s.size + 1 ∧ Hid (outs = split c s.data.toList))))
    (fun _ _ i _ => s.size + 1 - (intOf i).toNat)
  case atStart =>
    refine ⟨0, [], rfl, ?_, by go_grown, .inl ⟨by omega, 0, by omega, rfl, ?_⟩⟩
    · exact World.ownsRow_made w #[] 0 (Nat.le_refl _) (by decide) rfl
    · refine Lib.hid ?_
      simp [glue_nil (split_ne c s.data.toList)]
  case round =>
    obtain ⟨k, outs, rfl, hown, hb, hcase⟩ := hrel
    have hz := hb.size
    have HLEN := Lib.hid (split_len c s.data.toList)
    rcases hcase with ⟨hk, f, hf, rfl, hsp⟩ | ⟨rfl, hsp⟩
    · have hol : outs.length ≤ s.size := by
        have h1 := congrArg List.length hsp.out
        have h2 := glue_len ((s.data.toList.drop f).take (k - f)) (split c (s.data.toList.drop k))
        have h3 := HLEN.out
        rw [List.length_append] at h1
        have h4 := HSL.out
        omega
      have t1 : decide ((k : Int) ≤ (s.size : Int)) = true := decide_eq_true (by omega)
      have f0 : (0 : Int) ≤ (f : Int) := Int.natCast_nonneg _
      have f1 : (f : Int) ≤ (k : Int) := by omega
      have f2 : (k : Int) ≤ (s.size : Int) := by omega
      by_cases hlt : k < s.size
      · have t2 : ((k : Int) == (s.size : Int)) = false := by rw [beq_eq_false_iff_ne]; omega
        have k0 : (0 : Int) ≤ (k : Int) := Int.natCast_nonneg _
        have k1 : (k : Int) < (s.size : Int) := by omega
        have hkl : k < s.data.toList.length := by rw [← size_list]; exact hlt
        by_cases hx : s.data.toList[k] = c
        · have t3 : ((s[k].toNat : Int) == ci) = true := by
            rw [HCI.out, get_list s k hlt, hx]
            simp
          have HX := Lib.hid hx
          clear hx
          go_wp2_with (at_builtin; refine wpList_app rfl (.tmp 26) (.tmp 31) 42 rfl w.heap.size 9 i0 _ 1 16 Tryz.underlying42 hi0 hz0 hz1 hz2 rfl (by omega) u5 outs.length (sv outs) rfl (hown.alloc _) (some ⟨wr.heap.size, 0, none⟩) 1 1 [.string (s.extract f k)] rfl (src_new1 _ _ _) (by simp [Value.oneCell']) (by unfold maxLen; omega) (by omega) (by first | (simp; done) | (simp; omega)) ?_; intro v6 w6 hown6 hgrow6 hat6)
          refine ⟨⟨k + 1, outs ++ [(s.data.toList.drop f).take (k - f)], by go_num, ?_, ?_, .inl ⟨by omega, k + 1, by omega, by go_num, Lib.hid ?_⟩⟩, by simp [intOf]; omega⟩
          · rw [sv_snoc, List.length_append, ← extract_list]
            exact hown6
          · exact split_grown hb hown hgrow6
          · rw [← hsp.out, split_step_hit hkl HX.out, List.append_assoc]
            simp [glue_nil (split_ne c _)]
        · have t3 : ((s[k].toNat : Int) == ci) = false := by
            rw [HCI.out, get_list s k hlt, beq_eq_false_iff_ne]
            exact fun e => hx (UInt8.toNat_inj.1 (by omega))
          have HX := Lib.hid hx
          clear hx
          go_wp2
          refine ⟨⟨k + 1, outs, by go_num, hown, hb, .inl ⟨by omega, f, by omega, rfl, Lib.hid ?_⟩⟩, by simp [intOf]; omega⟩
          have hcur : (s.data.toList.drop f).take (k + 1 - f) = (s.data.toList.drop f).take (k - f) ++ [s.data.toList[k]] := take_grow hf hkl
          rw [← hsp.out, split_step_miss hkl HX.out, hcur]
      · obtain rfl : k = s.size := by omega
        have t2 : ((s.size : Int) == (s.size : Int)) = true := by simp
        go_wp2_with (at_builtin; refine wpList_app rfl (.tmp 26) (.tmp 31) 42 rfl w.heap.size 9 i0 _ 1 16 Tryz.underlying42 hi0 hz0 hz1 hz2 rfl (by decide) u5 outs.length (sv outs) rfl (hown.alloc _) (some ⟨wr.heap.size, 0, none⟩) 1 1 [.string (s.extract f s.size)] rfl (src_new1 _ _ _) (by simp [Value.oneCell']) (by unfold maxLen; omega) (by omega) (by first | (simp; done) | (simp; omega)) ?_; intro v6 w6 hown6 hgrow6 hat6)
        refine ⟨⟨s.size + 1, outs ++ [(s.data.toList.drop f).take (s.size - f)], by go_num, ?_, ?_, .inr ⟨rfl, Lib.hid ?_⟩⟩, by first | (simp [intOf]; done) | (simp [intOf]; omega)⟩
        · rw [sv_snoc, List.length_append, ← extract_list]
          exact hown6
        · exact split_grown hb hown hgrow6
        · rw [← hsp.out]
          rw [HSL.out, split_step_end]
    · have t1 : decide ((s.size : Int) + 1 ≤ (s.size : Int)) = false := decide_eq_false (by omega)
      obtain ⟨A, cap, rfl⟩ := own_form hown
      have h6 := hsp.out
      go_wp2
      go_ret
      rw [← h6]
      exact ⟨A, cap, rfl, hown, hb⟩
/-- A slice of strings that reads as rows of bytes: its elements' cells. -/
structure Strs (w : World) (A : Option Addr) (L : List Bs) : Prop where
  at_ : 0 < L.length → ∃ b off, A = some ⟨b, off, none⟩ ∧ b < w.heap.size ∧ ∀ k l, L[k]? = some l → w.cell? ⟨b, off + k, none⟩ = some (.string ⟨l.toArray⟩)

theorem Strs.below {w w' : World} {A : Option Addr} {L : List Bs} (h : Strs w A L) (hb : Below w.heap.size w w') : Strs w' A L :=
  ⟨fun h0 => by
    obtain ⟨b, off, e, hl, hc⟩ := h.at_ h0
    exact ⟨b, off, e, Nat.lt_of_lt_of_le hl hb.size, fun k l hk => (hb.cell (p := ⟨b, off + k, none⟩) hl).trans (hc k l hk)⟩⟩

theorem own_strs {w : World} {base : Nat} {e : TypeId} {A : Option Addr} {cap : Nat} {L : List Bs} (h : w.ownsRow base e 1 (.slice A L.length cap) L.length (sv L)) : Strs w A L := by
  refine ⟨fun h0 => ?_⟩
  obtain ⟨A', c', e1, _, hf⟩ := Row.form (.inl h)
  cases e1
  obtain ⟨g, rfl, _, hg, hc⟩ := hf h0
  refine ⟨g, 0, rfl, hg, fun k l hk => ?_⟩
  have hkl : k < L.length := (List.getElem?_eq_some_iff.1 hk).1
  rw [Nat.zero_add, hc k (by omega)]
  unfold sv
  rw [List.getElem?_map, hk]
  rfl

theorem filter_take {α : Type} (p : α → Bool) {L : List α} {k : Nat} (hk : k < L.length) : (L.take (k + 1)).filter p = (L.take k).filter p ++ if p L[k] then [L[k]] else [] := by
  rw [List.take_succ_eq_append_getElem hk, List.filter_append]
  cases h : p L[k] <;> simp [h]

set_option maxHeartbeats 1000000 in
theorem words_call (s : ByteArray) (w : World) (hs : s.size ≤ 70000) :
    Calls Tryz.prog 25 #[.string s] w fun e w' => ∃ A cap, e = .returned (.slice A (words s.data.toList).length cap) ∧ w'.ownsRow w.heap.size 9 1 (.slice A (words s.data.toList).length cap) (words s.data.toList).length (sv (words s.data.toList)) ∧ Below w.heap.size w w' := by
  obtain ⟨i0, hi0, hz0, hz1, hz2⟩ := info_parts info9
  have hsl := size_list s
  have hlen := split_len 32 s.data.toList
  obtain ⟨L, hL⟩ : ∃ L, split 32 s.data.toList = L := ⟨_, rfl⟩
  have hW : words s.data.toList = L.filter fun w => !w.isEmpty := by unfold words; rw [hL]
  rw [hL, ← hsl] at hlen
  rw [hW]
  have SC := split_call s 32 32 rfl w hs
  rw [hL] at SC
  have HSC := Lib.hid SC
  clear hL hW hsl SC
  go_enter Tryz.func25, Tryz.ntmps25
  go_wp2_with (go_at_call 24; refine HSC.out.mono ?_; rintro e w1 ⟨A1, c1, rfl, hown1, hb1⟩)
  have hS := own_strs hown1
  have HB1 := Lib.hid hb1
  have hz1' := hb1.size
  clear hown1
  go_loopw [4, 5] (fun v i wr => ∃ k : Nat, i = .int .i64 k ∧ k ≤ L.length ∧ wr.ownsRow w.heap.size 9 1 v ((L.take k).filter fun w => !w.isEmpty).length (sv ((L.take k).filter fun w => !w.isEmpty)) ∧ Below w1.heap.size w1 wr ∧ (∀ b, v.ownBlock = some b → w1.heap.size ≤ b))
    (fun _ i _ => L.length - (intOf i).toNat)
  case atStart =>
    refine ⟨0, rfl, by omega, own_base (World.ownsRow_made w1 #[] 0 (Nat.le_refl _) (by decide) rfl) hz1', by go_grown, fun b e => ?_⟩
    simp [Value.ownBlock] at e
    omega
  case round =>
    obtain ⟨k, rfl, hk, hown, hb, hat⟩ := hrel
    have hz := hb.size
    by_cases hlt : k < L.length
    · obtain ⟨bs, ofs, rfl, hbs, hcs⟩ := hS.at_ (by omega)
      obtain ⟨l, hl⟩ : ∃ l, L[k]? = some l := ⟨_, List.getElem?_eq_getElem hlt⟩
      have hcell := (hb.cell (p := ⟨bs, ofs + k, none⟩) hbs).trans (hcs k l hl)
      obtain ⟨t, ht⟩ : ∃ t : ByteArray, (⟨l.toArray⟩ : ByteArray) = t := ⟨_, rfl⟩
      rw [ht] at hcell
      have hfl : ((L.take k).filter fun w => !w.isEmpty).length ≤ k := Nat.le_trans (List.length_filter_le _ _) (List.length_take_le _ _)
      have hgetk : L[k] = l := by rw [List.getElem?_eq_getElem hlt] at hl; exact Option.some.inj hl
      have HF := Lib.hid (filter_take (fun w : Bs => !w.isEmpty) hlt)
      rw [hgetk] at HF
      have HT := Lib.hid ht
      have ht' := ht
      have k0 : (0 : Int) ≤ (k : Int) := Int.natCast_nonneg _
      have k1 : (k : Int) < (L.length : Int) := by omega
      clear hcs hl ht hgetk
      have htl : t.toList = l := by rw [← ht', toList_mk]
      by_cases hem : l = []
      · have te : t.toList.isEmpty = true := by rw [htl, hem]; rfl
        have HE := Lib.hid hem
        clear hem htl
        go_wp2
        refine ⟨⟨k + 1, by go_num, by omega, ?_, hb, hat⟩, by simp [intOf]; omega⟩
        rw [HF.out, HE.out]
        simpa using hown
      · have te : t.toList.isEmpty = false := by rw [htl]; cases l with
          | nil => exact absurd rfl hem
          | cons => rfl
        have HE : Hid ((!l.isEmpty) = true) := by
          cases l with
          | nil => exact absurd rfl hem
          | cons => rfl
        clear hem htl
        go_wp2_with (at_builtin; refine wpList_app rfl (.tmp 20) (.tmp 25) 42 rfl w.heap.size 9 i0 _ 1 16 Tryz.underlying42 hi0 hz0 hz1 hz2 rfl (by decide) u4 ((L.take k).filter fun w => !w.isEmpty).length _ rfl (hown.alloc _) (some ⟨wr.heap.size, 0, none⟩) 1 1 [.string t] rfl (src_new1 _ _ _) (by simp [Value.oneCell']) (by unfold maxLen; omega) (by omega) (by first | (simp; done) | (simp; omega)) ?_; intro v6 w6 hown6 hgrow6 hat6)
        refine ⟨⟨k + 1, by go_num, by omega, ?_, Below.grown (hb.alloc hz _) hgrow6 (by simp; omega) hat, fun b e => ?_⟩, by simp [intOf]; omega⟩
        · rw [HF.out, HE.out, if_pos rfl, sv_snoc, List.length_append, HT.out]
          exact hown6
        · rcases hat6 with h | h
          · exact hat b (h.symm.trans e)
          · have h2 := Option.some.inj (h.symm.trans e)
            simp at h2
            omega
    · obtain rfl : k = L.length := by omega
      rw [List.take_length] at hown
      obtain ⟨A, cap, rfl⟩ := own_form hown
      have hb' := HB1.out.trans (hb.mono hz1')
      go_wp2
      go_ret
      exact ⟨A, cap, rfl, hown, hb'⟩
theorem digit_call (c : UInt8) (w : World) : Calls Tryz.prog 84 #[.int .u8 (c.toNat : Int)] w fun e w' => e = .returned (.int .i64 (digit c)) ∧ w = w' := by
  have hc : c.toNat < 256 := c.toNat_lt
  obtain ⟨n, hn⟩ : ∃ n, c.toNat = n := ⟨_, rfl⟩
  have hd : digit c = if 48 ≤ n ∧ n ≤ 57 then (n : Int) - 48 else if 97 ≤ n ∧ n ≤ 102 then (n : Int) - 97 + 10 else -1 := by unfold digit; rw [hn]
  rw [hn] at hc ⊢
  have HD := Lib.hid hd
  clear hd hn
  by_cases h1 : 48 ≤ n ∧ n ≤ 57
  · obtain ⟨a, b⟩ := h1
    rw [if_pos ⟨a, b⟩] at HD
    go_enter Tryz.func84, Tryz.ntmps84
    go_wp2
    go_ret
    exact ⟨ret_int HD.out.symm, rfl⟩
  · rw [if_neg h1] at HD
    by_cases h2 : 97 ≤ n ∧ n ≤ 102
    · obtain ⟨a, b⟩ := h2
      rw [if_pos ⟨a, b⟩] at HD
      clear h1
      go_enter Tryz.func84, Tryz.ntmps84
      go_wp2
      go_ret
      exact ⟨ret_int HD.out.symm, rfl⟩
    · rw [if_neg h2] at HD
      have h3 : n < 48 ∨ (57 < n ∧ n < 97) ∨ 102 < n := by omega
      clear h1 h2
      rcases h3 with h | ⟨h, h'⟩ | h
      all_goals
        go_enter Tryz.func84, Tryz.ntmps84
        go_wp2
        go_ret
        exact ⟨ret_int HD.out.symm, rfl⟩

theorem isId_iff (l : Bs) : isId l = true ↔ (1 ≤ l.length ∧ l.length ≤ 64) ∧ ∀ c ∈ l, 33 ≤ c.toNat ∧ c.toNat ≤ 126 := by
  unfold isId
  simp [List.all_eq_true]

theorem id_call (s : ByteArray) (w : World) (hs : s.size ≤ 140737488355328) : Calls Tryz.prog 54 #[.string s] w fun e w' => e = .returned (.bool (isId s.data.toList)) ∧ w = w' := by
  have hsl := size_list s
  have hi := isId_iff s.data.toList
  obtain ⟨r, hr⟩ : ∃ r, isId s.data.toList = r := ⟨_, rfl⟩
  rw [hr] at hi ⊢
  rw [← hsl] at hi
  have hget : ∀ k (h : k < s.size), s[k] ∈ s.data.toList := fun k h => by rw [get_list s k h]; exact List.getElem_mem _
  have hmem : ∀ c ∈ s.data.toList, ∃ k, ∃ h : k < s.size, s[k] = c := fun c hc => by
    obtain ⟨k, hk, e⟩ := List.mem_iff_getElem.1 hc
    exact ⟨k, by rw [hsl]; exact hk, by rw [get_list s k (by rw [hsl]; exact hk)]; exact e⟩
  have HI := Lib.hid hi
  have HG := Lib.hid hget
  have HM := Lib.hid hmem
  clear hr hsl hi hget hmem
  by_cases h1 : 1 ≤ s.size ∧ s.size ≤ 64
  · obtain ⟨a, b⟩ := h1
    go_enter Tryz.func54, Tryz.ntmps54
    go_wp2
    go_loop [3] (fun i => ∃ k : Nat, i = .int .i64 k ∧ k ≤ s.size ∧ Hid (∀ j (h : j < s.size), j < k → 33 ≤ s[j].toNat ∧ s[j].toNat ≤ 126)) (fun i => s.size - (intOf i).toNat)
    case atStart => exact ⟨0, rfl, by omega, Lib.hid fun j _ h => by omega⟩
    case round =>
      obtain ⟨k, rfl, hk, hall⟩ := hrel
      by_cases hlt : k < s.size
      · have k0 : (0 : Int) ≤ (k : Int) := Int.natCast_nonneg _
        have k1 : (k : Int) < (s.size : Int) := by omega
        obtain ⟨n, hn⟩ : ∃ n, s[k].toNat = n := ⟨_, rfl⟩
        have hn256 : n < 256 := by rw [← hn]; exact s[k].toNat_lt
        by_cases h2 : 33 ≤ n ∧ n ≤ 126
        · obtain ⟨c, d⟩ := h2
          go_wp2
          refine ⟨⟨k + 1, by go_num, by omega, Lib.hid fun j hj hjk => ?_⟩, by simp [intOf]; omega⟩
          by_cases e : j < k
          · exact hall.out j hj e
          · obtain rfl : j = k := by omega
            omega
        · have h3 : n < 33 ∨ 126 < n := by omega
          have hr : r = false := by
            cases hr' : r with
            | false => rfl
            | true =>
              have := (HI.out.1 hr').2 s[k] (HG.out k hlt)
              omega
          have HR := Lib.hid hr
          clear h2 hr
          rcases h3 with h3 | h3
          all_goals
            go_wp2
            go_ret
            exact ⟨ret_bool HR.out.symm, rfl⟩
      · go_wp2
        go_ret
        refine ⟨ret_bool (HI.out.2 ⟨⟨a, b⟩, fun c hc => ?_⟩).symm, rfl⟩
        obtain ⟨j, hj, rfl⟩ := HM.out c hc
        exact hall.out j hj (by omega)
  · have h2 : s.size < 1 ∨ 64 < s.size := by omega
    have hr : r = false := by
      cases hr' : r with
      | false => rfl
      | true => exact absurd (HI.out.1 hr').1 h1
    have HR := Lib.hid hr
    clear h1 hr
    rcases h2 with h2 | h2
    all_goals
      go_enter Tryz.func54, Tryz.ntmps54
      go_wp2
      go_ret
      exact ⟨ret_bool HR.out.symm, rfl⟩

end Go.Proofs.YtlibjfmafpiopaaGreatDoor
