/- The law's lines; append under a guard; rows of read commands put together. -/
import Derived.Test.YtlibjfmafpiopaaGreatDoorShown
import Derived.Test.YtlibjfmafpiopaaGreatDoorLaw
namespace Go.Proofs.YtlibjfmafpiopaaGreatDoor
open Go.RowKit Go.Shelf Scr

theorem split_snoc (c x : UInt8) : ∀ l : Bs, (split c (l ++ [x])).length = (split c l).length + if x = c then 1 else 0
  | [] => by
    show (split c [x]).length = 1 + _
    by_cases h : x = c
    · rw [split, if_pos h, if_pos h]; rfl
    · rw [split, if_neg h, if_neg h]; rfl
  | y :: l => by
    have ih := split_snoc c x l
    rw [List.cons_append]
    unfold split
    by_cases hy : y = c
    · rw [if_pos hy, if_pos hy, List.length_cons, List.length_cons, ih]
      omega
    · rw [if_neg hy, if_neg hy]
      have g : ∀ L : List Bs, L ≠ [] → (glue [y] L).length = L.length := fun L h => by
        cases L with
        | nil => exact absurd rfl h
        | cons z zs => rfl
      rw [g _ (split_ne _ _), g _ (split_ne _ _), ih]

set_option maxRecDepth 100000 in
set_option maxHeartbeats 2000000 in
theorem lines20_call (s : ByteArray) (w : World) (hs : s.size ≤ 140737488355328) : Calls Tryz.prog 20 #[.string s] w fun e w' => e = .returned (.int .i64 ((split 10 s.data.toList).length : Int)) ∧ w = w' := by
  have HSL := Lib.hid (size_list s)
  go_enter Tryz.func20, Tryz.ntmps20
  go_wp2_with fail
  go_loopw [3, 4] (fun n i wr => ∃ k : Nat, i = .int .i64 k ∧ k ≤ s.size ∧ n = .int .i64 ((split 10 (s.data.toList.take k)).length : Int) ∧ wr = w)
    (fun _ i _ => s.size - (intOf i).toNat)
  case atStart => exact ⟨0, rfl, Nat.zero_le _, rfl, rfl⟩
  case round =>
    obtain ⟨k, rfl, hk, rfl, rfl⟩ := hrel
    have hle := split_len 10 (s.data.toList.take k)
    rw [List.length_take] at hle
    have HLE := Lib.hid hle
    clear hle
    by_cases hlt : k < s.size
    · have k0 : (0 : Int) ≤ (k : Int) := Int.natCast_nonneg _
      have k1 : (k : Int) < (s.size : Int) := by omega
      have hl2 : k < s.data.toList.length := by rw [← HSL.out]; exact hlt
      have hg : s.data.toList[k] = s[k] := (get_list s k hlt).symm
      have hsn := split_snoc 10 s[k] (s.data.toList.take k)
      rw [← hg, ← List.take_succ_eq_append_getElem hl2, hg] at hsn
      have hn1 : ((split 10 (s.data.toList.take k)).length : Int) + 1 ≤ 9223372036854775807 := by have := HLE.out; omega
      obtain ⟨n, hn⟩ : ∃ n : Nat, (split 10 (s.data.toList.take k)).length = n := ⟨_, rfl⟩
      rw [hn] at hsn hn1 ⊢
      by_cases hx : s[k] = 10
      · have tx : ((s[k].toNat : Int) == 10) = true := by rw [hx]; rfl
        rw [if_pos hx] at hsn
        have HS2 := Lib.hid hsn
        clear hx hg hsn hn
        go_wp2_with fail
        refine ⟨⟨k + 1, by go_num, by omega, ?_, trivial⟩, by simp [intOf]; omega⟩
        rw [HS2.out]
        go_num
      · have tx : ((s[k].toNat : Int) == 10) = false := by
          rw [beq_eq_false_iff_ne]
          intro e
          apply hx
          have : s[k].toNat = 10 := by omega
          exact UInt8.toNat_inj.1 this
        rw [if_neg hx] at hsn
        have HS2 := Lib.hid hsn
        clear hx hg hsn hn
        go_wp2_with fail
        refine ⟨⟨k + 1, by go_num, by omega, ?_, trivial⟩, by simp [intOf]; omega⟩
        rw [HS2.out]
        rfl
    · obtain rfl : k = s.size := by omega
      have ht : s.data.toList.take s.size = s.data.toList := by rw [HSL.out]; exact List.take_length ..
      rw [ht]
      clear hk hlt ht
      go_wp2_with fail

      go_ret
      exact ⟨rfl, rfl⟩

section
variable {P : Program}
theorem wpList_want {ops : Array Oper} {rest : List Oper} {o : Oper} {a : Act} {w : World} {Q : Exit → Act → World → Prop} (hg : Region.wanted o (yielded ops a.tmps) = true)
    (h : ∀ K : Act → World → Prop, (∀ a w, wpList P ops Q rest a w → K a w) → o.wp P a w K Q) : wpList P ops Q (o :: rest) a w :=
  wpList_step fun K hK => by simp only [hg, if_true]; exact h K hK

/-- append under a guard that holds. -/
theorem wpList_appG {w : World} {ops : Array Oper} {rest : List Oper} {o : Oper} {a : Act} {Q : Exit → Act → World → Prop} (hgd : Region.wanted o (yielded ops a.tmps) = true) (s x : Operand) (t : TypeId)
    (ho : o.op = .call { callee := .builtin .append, args := #[s, x], argTypes := #[t, t] })
    (base : Nat) (e : TypeId) (i : TypeInfo) (z : Value) (size bytes : Nat) (ht : P.underlying t = some (.slice e)) (hi : P.info? e = some i) (hz : i.zero = some z)
    (hsize : i.size = size) (hby : i.bytes = bytes) (hzs : z.cells.size = size) (hsz : 0 < size)
    (v : Value) (n : Nat) (xs : List Value) (hv : a.eval s = v) (hown : w.ownsRow base e size v n xs)
    (A : Option Addr) (m c : Nat) (us : List Value) (hx : a.eval x = .slice A m c) (hs : Src w size A m us) (h1 : ∀ u ∈ us, u.oneCell' = true)
    (h63 : n + m ≤ maxLen) (hb : (n + m) * bytes ≤ 140737488355328) (hbase : base ≤ w.heap.size)
    (h : ∀ v' w', w'.ownsRow base e size v' (n + m) (xs ++ us) → w.grownBy w' v.ownBlock → (v'.ownBlock = v.ownBlock ∨ v'.ownBlock = some w.heap.size) → wpList P ops Q rest (a.put o.dst v') w') : wpList P ops Q (o :: rest) a w :=
  wpList_want hgd fun _ hK => wp_app s x t ho base e i z size bytes ht hi hz hsize hby hzs hsz v n xs hv hown A m c us hx hs h1 h63 hb hbase fun v' w' b2 b3 b4 => hK _ _ (h v' w' b2 b3 b4)
end

theorem Cmds.app {w : World} {lo : Nat} {X : Nat → Prop} {L' : List Cmd} {cs' : List Value} (h' : Cmds w lo X L' cs') : ∀ {L : List Cmd} {cs : List Value}, Cmds w lo X L cs → Cmds w lo X (L ++ L') (cs ++ cs')
  | _, _, .nil => h'
  | _, _, .cons hb hk xb xk ht => by
    rw [List.cons_append, List.append_assoc]
    exact .cons hb hk xb xk (Cmds.app h' ht)

theorem Cmds.weak {w : World} {lo : Nat} {X : Nat → Prop} {L : List Cmd} {cs : List Value} (h : Cmds w lo X L cs) : Cmds w lo (fun _ => False) L cs := by
  induction h with
  | nil => exact .nil
  | cons hb hk _ _ _ ih => exact .cons hb hk (fun _ _ _ h => h) (fun _ _ _ h => h) ih

theorem Cmds.keepB {w w' : World} {lo : Nat} {L : List Cmd} {cs : List Value} (h : Cmds w lo (fun _ => False) L cs) (hb : Below w.heap.size w w') : Cmds w' lo (fun _ => False) L cs :=
  h.grown hb.size (fun b hl _ => hb.block b hl) (fun _ _ h => h)

theorem cmds_one {w : World} {lo : Nat} {X : Nat → Prop} {L : List Cmd} {cs : List Value} (h : Cmds w lo X L cs) : ∀ u ∈ cs, u.oneCell' = true := by
  induction h with
  | nil => intro u hu; cases hu
  | cons hb hk _ _ _ ih =>
    intro u hu
    obtain ⟨A, c, rfl, _⟩ := hb
    obtain ⟨A', c', rfl, _⟩ := hk
    rcases List.mem_append.1 hu with hu | hu
    · exact cmd_one _ _ _ _ _ _ _ u hu
    · exact ih u hu

theorem own_src {w : World} {base : Nat} {e : TypeId} {size n cap : Nat} {A : Option Addr} {xs : List Value} (h : w.ownsRow base e size (.slice A n cap) n xs) : Src w size A n xs := by
  refine ⟨h.1, fun h0 => ?_⟩
  obtain ⟨A', c', e1, _, hf⟩ := Row.form (.inl h)
  cases e1
  obtain ⟨g, rfl, _, _, hc⟩ := hf h0
  refine ⟨_, rfl, fun j u hu => ?_⟩
  have hj : j < xs.length := (List.getElem?_eq_some_iff.1 hu).1
  rw [h.1] at hj
  have := hc j hj
  rw [hu] at this
  rw [← this]
  unfold Addr.add
  by_cases h1 : j = 0
  · subst h1; simp
  · rw [if_neg h1]; simp

theorem Src.keep {w w' : World} {size n : Nat} {A : Option Addr} {xs : List Value} (h : Src w size A n xs) (hl : ∀ ad, A = some ad → 0 < n → ad.block < w.heap.size) (hb : Below w.heap.size w w') : Src w' size A n xs := by
  refine ⟨h.len, fun h0 => ?_⟩
  obtain ⟨ad, rfl, hc⟩ := h.at_ h0
  refine ⟨ad, rfl, fun j u hu => ?_⟩
  rw [hb.cell (by have := hl ad rfl h0; unfold Addr.add; split <;> simpa using this)]
  exact hc j u hu

theorem parse_cmdB {t : Bs} {L : List Cmd} {a x : Int} (ho : parseR t = (L, a, x)) : L.length ≤ 4096 ∧ ∀ c ∈ L, (∀ x ∈ c.bytes, 0 ≤ x ∧ x ≤ 255) ∧ CmdB c := by
  obtain ⟨b1, b2⟩ := parse_bd ho
  refine ⟨b1, fun c hm => ?_⟩
  obtain ⟨q1, _, q2, q3, q4, q5, q6, q7⟩ := b2 c hm
  exact ⟨q1, ⟨by omega, by omega, by omega, by omega, (may_bd q6).1, (may_bd q6).2, fun x hx => may_bd (q7 x hx)⟩⟩

/-- What is read with no error is small. -/
theorem parse_small {t : Bs} {L : List Cmd} {a : Int} (h : parseR t = (L, a, 0)) : t.length ≤ 65536 := by
  unfold parseR at h
  split at h
  · cases h
  · omega
end Go.Proofs.YtlibjfmafpiopaaGreatDoor
