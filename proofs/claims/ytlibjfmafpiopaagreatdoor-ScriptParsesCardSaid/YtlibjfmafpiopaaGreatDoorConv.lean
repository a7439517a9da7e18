/- What 'Parse' answers reads as a row of commands. -/
import Derived.Test.YtlibjfmafpiopaaGreatDoorPrintB
import Derived.Test.YtlibjfmafpiopaaGreatDoorSpecG
namespace Go.Proofs.YtlibjfmafpiopaaGreatDoor
open Go.RowKit Go.Shelf Scr

theorem cmds_at {w : World} {lo : Nat} {X : Nat → Prop} : ∀ {L : List Cmd} {cs : List Value}, Cmds w lo X L cs → ∀ {k : Nat} {c : Cmd}, L[k]? = some c →
    ∃ vb vk, (∀ i u, (cmdCells c vb vk)[i]? = some u → cs[k * 6 + i]? = some u) ∧ RdI .u8 w lo vb c.bytes ∧ RdI .i64 w lo vk c.keep
  | _, _, .nil, k, c, h => by simp at h
  | _, _, .cons (c := d) (vb := vb) (vk := vk) (cs := cs) hb hk _ _ ht, k, c, h => by
    cases k with
    | zero =>
      simp at h
      subst h
      refine ⟨vb, vk, fun i u hu => ?_, hb, hk⟩
      have hi : i < 6 := by
        have := (Array.getElem?_eq_some_iff.1 hu).1
        simpa [cmdCells] using this
      rw [Nat.zero_mul, Nat.zero_add, List.getElem?_append_left (by simp [cmdCells]; omega), Array.getElem?_toList]
      exact hu
    | succ k =>
      simp at h
      obtain ⟨vb', vk', h1, h2, h3⟩ := cmds_at ht h
      refine ⟨vb', vk', fun i u hu => ?_, h2, h3⟩
      rw [List.getElem?_append_right (by simp [cmdCells]; omega)]
      have := h1 i u hu
      rw [show (k + 1) * 6 + i - (cmdCells d vb vk).toList.length = k * 6 + i from by simp [cmdCells]; omega]
      exact this

theorem rdi_byts {w : World} {lo : Nat} {v : Value} {xs : List Int} (h : RdI .u8 w lo v xs) (hr : ∀ x ∈ xs, 0 ≤ x ∧ x ≤ 255) : ∃ A c, v = .slice A xs.length c ∧ Byts w A xs := by
  obtain ⟨A, c, e, hf⟩ := h
  refine ⟨A, c, e, fun h0 => ?_, hr⟩
  obtain ⟨b, e2, _, hl, hc⟩ := hf h0
  exact ⟨b, 0, e2, hl, fun k hk => by rw [Nat.zero_add]; exact hc.1 k hk⟩

theorem rdi_ints {w : World} {lo : Nat} {v : Value} {xs : List Int} (h : RdI .i64 w lo v xs) (hl : xs.length ≤ 1048576) : ∃ A c, v = .slice A xs.length c ∧ Ints w A xs := by
  obtain ⟨A, c, e, hf⟩ := h
  refine ⟨A, c, e, by omega, fun h0 => ?_⟩
  obtain ⟨b, e2, _, hl, hc⟩ := hf h0
  exact ⟨b, 0, e2, hl, fun k hk => by rw [Nat.zero_add]; exact hc.1 k hk⟩

theorem may_bd {x : Int} (h : may x = true) : -9223372036854775808 ≤ x ∧ x ≤ 9223372036854775807 := by
  have := may_iff.1 h
  omega

/-- A row of the call's own that holds read commands. -/
theorem own_cmdsR {w : World} {base : Nat} {A : Option Addr} {cap : Nat} {L : List Cmd} {cs : List Value} {X : Nat → Prop} (hown : w.ownsRow base 33 6 (.slice A L.length cap) L.length cs) (hc : Cmds w base X L cs)
    (hl : L.length ≤ 1048576) (hb : ∀ c ∈ L, (∀ x ∈ c.bytes, 0 ≤ x ∧ x ≤ 255) ∧ CmdB c) : CmdsR w A L := by
  refine ⟨fun h0 => ?_, fun c h => (hb c h).2, hl⟩
  obtain ⟨A', c', e1, _, hf⟩ := Row.form (.inl hown)
  cases e1
  obtain ⟨g, rfl, hg, hlt, hcell⟩ := hf h0
  refine ⟨g, 0, rfl, hlt, fun k c hk => ?_⟩
  have hkl : k < L.length := (List.getElem?_eq_some_iff.1 hk).1
  obtain ⟨vb, vk, h1, h2, h3⟩ := cmds_at hc hk
  obtain ⟨r1, r2⟩ := hb c (List.mem_of_getElem? hk)
  obtain ⟨Ab, cb, rfl, hby⟩ := rdi_byts h2 r1
  obtain ⟨Ak, ck, rfl, hin⟩ := rdi_ints h3 r2.keep
  have key : ∀ i u, (cmdCells c (.slice Ab c.bytes.length cb) (.slice Ak c.keep.length ck))[i]? = some u → w.cell? ⟨g, 0 + k * 6 + i, none⟩ = some u := fun i u hu => by
    have hi : i < 6 := by
      have := (Array.getElem?_eq_some_iff.1 hu).1
      simpa [cmdCells] using this
    rw [Nat.zero_add, hcell _ (by omega)]
    exact h1 i u hu
  exact ⟨Ab, cb, Ak, ck, hby, hin, key 0 _ rfl, key 1 _ rfl, key 2 _ rfl, key 3 _ rfl, key 4 _ rfl, key 5 _ rfl⟩

/-- What 'Parse' answers, for those that only read it. -/
theorem parse_reads {w w' : World} {t : Bs} {e : Ending} {L : List Cmd} {a x : Int} (h : ParsePost w (parseR t) e w') (ho : parseR t = (L, a, x)) :
    Below w.heap.size w w' ∧ ∃ A cap, e = .returned (.tuple #[.slice A L.length cap, .int .i64 a, .int .i64 x]) ∧ CmdsR w' A L := by
  rw [ho] at h
  obtain ⟨hb, A, cap, cs, he, hown, hc⟩ := h
  obtain ⟨b1, b2⟩ := parse_bd ho
  refine ⟨hb, A, cap, he, own_cmdsR hown hc (by omega) fun c hm => ?_⟩
  obtain ⟨q1, _, q2, q3, q4, q5, q6, q7⟩ := b2 c hm
  exact ⟨q1, ⟨by omega, by omega, by omega, by omega, (may_bd q6).1, (may_bd q6).2, fun x hx => may_bd (q7 x hx)⟩⟩
end Go.Proofs.YtlibjfmafpiopaaGreatDoor
