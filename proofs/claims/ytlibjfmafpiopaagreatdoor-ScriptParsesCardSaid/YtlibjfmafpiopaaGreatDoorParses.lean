/- Proved: munimentlaw22.ScriptParses returns true for all texts, and leaves its arguments as they were. Conditions: none beyond the given row's own (what the listed package variables hold when the call begins; the card ties that to the program's text). -/
import Derived.Test.YtlibjfmafpiopaaGreatDoorLines
import Derived.ChangeMaps5
import Derived.Deep.MidRow
namespace Go.Proofs.YtlibjfmafpiopaaGreatDoor.scriptParses
open Go.RowKit Go.Shelf Scr Go.ChangeShapes Go.WideShapes Go.ChangeAt

/-- What stores into blocks of [lo, hi) leave. -/
structure Mut (lo hi : Nat) (w w' : World) : Prop where
  bl : Below lo w w'
  top : ∀ b, hi ≤ b → w'.heap[b]? = w.heap[b]?
  sz : w'.heap.size = w.heap.size
  cell : ∀ x, (w.cell? x).isSome = true → (w'.cell? x).isSome = true
  fz : ∀ x, w'.frozen? x = w.frozen? x

theorem Mut.refl (lo hi : Nat) (w : World) : Mut lo hi w w := ⟨Below.refl _ _, fun _ _ => rfl, rfl, fun _ h => h, fun _ => rfl⟩

theorem isSome_setCell (w : World) (p : Addr) (u : Value) (x : Addr) (h : (w.cell? x).isSome = true) : ((w.setCell p u).cell? x).isSome = true := by
  obtain ⟨v, hv⟩ := Option.isSome_iff_exists.1 h
  by_cases e : p = x
  · subst e
    rw [World.cell?_setCell_same _ _ _ hv]
    rfl
  · rw [World.cell?_setCell_other _ _ _ _ e, hv]
    rfl

theorem Mut.set {lo hi : Nat} {w wr : World} (h : Mut lo hi w wr) {p : Addr} (h1 : lo ≤ p.block) (h2 : p.block < hi) (u : Value) : Mut lo hi w (wr.setCell p u) :=
  ⟨h.bl.setCell h1 u, fun b hb => (Below.heap_setCell _ _ _ _ (by omega)).trans (h.top b hb), by simpa using h.sz, fun x hx => isSome_setCell _ _ _ _ (h.cell x hx), fun x => by rw [World.frozen?_setCell]; exact h.fz x⟩

theorem Mut.sets {lo hi g : Nat} {w : World} (h1 : lo ≤ g) (h2 : g < hi) : ∀ (vs : List Value) (o : Nat) (wr : World), Mut lo hi w wr → Mut lo hi w (wr.setCells g o vs)
  | [], _, _, h => h
  | v :: r, o, wr, h => by
    rw [World.setCells]
    exact Mut.sets h1 h2 r (o + 1) _ (h.set (p := ⟨g, o, none⟩) h1 h2 v)

/-- A part of a command: a slice into a block of [lo, hi) that may be written. -/
def Part (w : World) (lo hi g : Nat) (v : Value) (n : Nat) : Prop :=
  ∃ A cap, v = .slice A n cap ∧ (0 < n → ∃ b o, A = some ⟨b, o, none⟩ ∧ lo ≤ b ∧ b < hi ∧ b ≠ g ∧ (∀ j, j < n → (w.cell? ⟨b, o + j, none⟩).isSome = true) ∧ ∀ j, w.frozen? ⟨b, j, none⟩ = false)

theorem rdi_part {k : IntKind} {w : World} {lo g : Nat} {v : Value} {xs : List Int} {A : Option Addr} {n c : Nat} (h : RdI k w lo v xs) (hA : A = some ⟨g, 0, none⟩) (hx : 0 < xs.length → ∀ b, v.ownBlock = some b → ¬ (Value.slice A n c).ownBlock = some b) : Part w lo w.heap.size g v xs.length := by
  obtain ⟨B, cap, rfl, hf⟩ := h
  refine ⟨B, cap, rfl, fun h0 => ?_⟩
  obtain ⟨b, rfl, h1, h2, h3, h4⟩ := hf h0
  refine ⟨b, 0, rfl, h1, h2, fun e => ?_, fun j hj => ?_, h4⟩
  · subst e
    subst hA
    exact hx h0 b rfl rfl
  · rw [Nat.zero_add, h3 j hj]
    rfl

theorem cmds_parts {w : World} {lo : Nat} {X : Nat → Prop} : ∀ {L : List Cmd} {cs : List Value}, Cmds w lo X L cs → ∀ {k : Nat} {c : Cmd}, L[k]? = some c →
    ∃ vb vk, (∀ i u, (cmdCells c vb vk)[i]? = some u → cs[k * 6 + i]? = some u) ∧ RdI .u8 w lo vb c.bytes ∧ RdI .i64 w lo vk c.keep ∧ (0 < c.bytes.length → ∀ b, vb.ownBlock = some b → ¬ X b) ∧ (0 < c.keep.length → ∀ b, vk.ownBlock = some b → ¬ X b)
  | _, _, .nil, k, c, h => by simp at h
  | _, _, .cons (c := d) (vb := vb) (vk := vk) (cs := cs) hb hk xb xk ht, k, c, h => by
    cases k with
    | zero =>
      simp at h
      subst h
      refine ⟨vb, vk, fun i u hu => ?_, hb, hk, xb, xk⟩
      have hi : i < 6 := by
        have := (Array.getElem?_eq_some_iff.1 hu).1
        simpa [cmdCells] using this
      rw [Nat.zero_mul, Nat.zero_add, List.getElem?_append_left (by simp [cmdCells]; omega), Array.getElem?_toList]
      exact hu
    | succ k =>
      simp at h
      obtain ⟨vb', vk', h1, h2⟩ := cmds_parts ht h
      refine ⟨vb', vk', fun i u hu => ?_, h2⟩
      rw [List.getElem?_append_right (by simp [cmdCells]; omega)]
      have := h1 i u hu
      rw [show (k + 1) * 6 + i - (cmdCells d vb vk).toList.length = k * 6 + i from by simp [cmdCells]; omega]
      exact this

/-- The rows of commands that were read, as a law that writes into them wants them. -/
structure RowP (w : World) (lo hi g o : Nat) (L : List Cmd) : Prop where
  lo_ : lo ≤ g
  hi_ : g < hi
  fz : ∀ j, w.frozen? ⟨g, j, none⟩ = false
  at_ : ∀ k c, L[k]? = some c → ∃ vb vk, w.cell? ⟨g, o + k * 6 + 3, none⟩ = some vb ∧ w.cell? ⟨g, o + k * 6 + 5, none⟩ = some vk ∧ Part w lo hi g vb c.bytes.length ∧ Part w lo hi g vk c.keep.length ∧ ∀ x, x < 6 → (w.cell? ⟨g, o + k * 6 + x, none⟩).isSome = true

theorem row_parts {w : World} {lo : Nat} {A : Option Addr} {cap : Nat} {L : List Cmd} {cs : List Value} (hown : w.ownsRow lo 33 6 (.slice A L.length cap) L.length cs) (hc : Cmds w lo (fun b => (Value.slice A L.length cap).ownBlock = some b) L cs) (h0 : 0 < L.length) :
    ∃ g o, A = some ⟨g, o, none⟩ ∧ RowP w lo w.heap.size g o L := by
  obtain ⟨A', c', e1, _, hf⟩ := Row.form (.inl hown)
  cases e1
  obtain ⟨g, e, hg, hlt, hcell⟩ := hf h0
  refine ⟨g, 0, e, hg, hlt, fun j => own_unfr hown (by rw [e]; rfl) j, fun k c hk => ?_⟩
  have hkl : k < L.length := (List.getElem?_eq_some_iff.1 hk).1
  obtain ⟨vb, vk, h1, h2, h3, h4, h5⟩ := cmds_parts hc hk
  have key : ∀ i u, (cmdCells c vb vk)[i]? = some u → w.cell? ⟨g, 0 + k * 6 + i, none⟩ = some u := fun i u hu => by
    have hi : i < 6 := by
      have := (Array.getElem?_eq_some_iff.1 hu).1
      simpa [cmdCells] using this
    rw [Nat.zero_add, hcell _ (by omega)]
    exact h1 i u hu
  refine ⟨vb, vk, key 3 _ rfl, key 5 _ rfl, rdi_part h2 e h4, rdi_part h3 e h5, fun x hx => ?_⟩
  have hx2 : x < (cmdCells c vb vk).size := by simpa [cmdCells] using hx
  rw [key x _ (Array.getElem?_eq_getElem hx2)]
  rfl

theorem Part.below {w w' : World} {lo hi g : Nat} {v : Value} {n : Nat} (h : Part w lo hi g v n) (hb : Below hi w w') : Part w' lo hi g v n := by
  obtain ⟨A, cap, e, hf⟩ := h
  refine ⟨A, cap, e, fun h0 => ?_⟩
  obtain ⟨b, o, e, h1, h2, h3, h4, h5⟩ := hf h0
  exact ⟨b, o, e, h1, h2, h3, fun j hj => by rw [World.cell?_of_block (a := ⟨b, o + j, none⟩) (hb.block b h2)]; exact h4 j hj, fun j => (World.frozen?_of_block (a := ⟨b, j, none⟩) (hb.block b h2)).trans (h5 j)⟩

theorem RowP.below {w w' : World} {lo hi g o : Nat} {L : List Cmd} (h : RowP w lo hi g o L) (hb : Below hi w w') : RowP w' lo hi g o L :=
  ⟨h.lo_, h.hi_, fun j => (World.frozen?_of_block (a := ⟨g, j, none⟩) (hb.block g h.hi_)).trans (h.fz j), fun k c hk => by
    obtain ⟨vb, vk, h1, h2, h3, h4, h5⟩ := h.at_ k c hk
    exact ⟨vb, vk, (World.cell?_of_block (a := ⟨g, o + k * 6 + 3, none⟩) (hb.block g h.hi_)).trans h1, (World.cell?_of_block (a := ⟨g, o + k * 6 + 5, none⟩) (hb.block g h.hi_)).trans h2, h3.below hb, h4.below hb, fun x hx => by rw [World.cell?_of_block (a := ⟨g, o + k * 6 + x, none⟩) (hb.block g h.hi_)]; exact h5 x hx⟩⟩

theorem Part.mut {w w' : World} {lo hi g : Nat} {v : Value} {n : Nat} (h : Part w lo hi g v n) (hm : Mut lo hi w w') : Part w' lo hi g v n := by
  obtain ⟨A, cap, e, hf⟩ := h
  refine ⟨A, cap, e, fun h0 => ?_⟩
  obtain ⟨b, o, e, h1, h2, h3, h4, h5⟩ := hf h0
  exact ⟨b, o, e, h1, h2, h3, fun j hj => hm.cell _ (h4 j hj), fun j => (hm.fz _).trans (h5 j)⟩

theorem rdi_top {k : IntKind} {w w' : World} {lo : Nat} {v : Value} {xs : List Int} (h : RdI k w lo v xs) (hz : w.heap.size ≤ w'.heap.size) (hk : ∀ b, lo ≤ b → b < w.heap.size → w'.heap[b]? = w.heap[b]?) : RdI k w' lo v xs := by
  obtain ⟨A, c, rfl, hf⟩ := h
  refine ⟨A, c, rfl, fun h0 => ?_⟩
  obtain ⟨b, rfl, hl, hlt, hc⟩ := hf h0
  exact ⟨b, rfl, hl, by omega, fun j hj => (World.cell?_of_block (a := ⟨b, j, none⟩) (hk b hl hlt)).trans (hc.1 j hj), fun j => (World.frozen?_of_block (a := ⟨b, j, none⟩) (hk b hl hlt)).trans (hc.2 j)⟩

theorem cmds_top {w w' : World} {lo : Nat} {X : Nat → Prop} (hz : w.heap.size ≤ w'.heap.size) (hk : ∀ b, lo ≤ b → b < w.heap.size → w'.heap[b]? = w.heap[b]?) : ∀ {L : List Cmd} {cs : List Value}, Cmds w lo X L cs → Cmds w' lo X L cs
  | _, _, .nil => .nil
  | _, _, .cons hb hkp xb xk ht => .cons (rdi_top hb hz hk) (rdi_top hkp hz hk) xb xk (cmds_top hz hk ht)

set_option maxRecDepth 100000 in
set_option maxHeartbeats 4000000 in
theorem walk {a0 a1 a3 : Addr} (t : ByteArray) (ht : t.size ≤ 140737488351232) (w : World) (Lw : Laid a0 a1 a3 w) :
    Calls Tryz.prog 3 #[.string t] w fun e w' => e = .returned (.bool true) ∧ Below w.heap.size w w' := by
  have HL := Lib.hid Lw
  have HSH := Lib.hid (shown11_call w Lw)
  obtain ⟨L, a, e, hp⟩ : ∃ L a e, parseR t.data.toList = (L, a, e) := ⟨_, _, _, rfl⟩
  have HP1 := Lib.hid (fun W (hb : Below w.heap.size w W) => parse12_call t W ht (HL.out.below hb))
  have HP2 := Lib.hid (fun W => parse13_call t W ht)
  rw [hp] at HP1 HP2
  have HCB := Lib.hid (parse_cmdB hp)
  unfold ParsePost at HP1 HP2
  dsimp only at HP1 HP2
  clear Lw hp ht
  go_enter Tryz.func3, Tryz.ntmps3
  go_wp2_with fail
  refine HSH.out.mono ?_
  rintro e1 w1 ⟨rfl, hb1⟩
  have HB1 := Lib.hid hb1
  clear hb1
  go_wp2_with fail
  refine (HP1.out _ HB1.out).mono ?_
  rintro e2 w2 ⟨hb2, A1, k1, c1, rfl, ho1, hc1⟩
  have HB12 := Lib.hid hb2
  have HB2 := Lib.hid (HB1.out.trans (hb2.mono HB1.out.size))
  have HO1 := Lib.hid ho1
  have HC1 := Lib.hid hc1
  clear hb2 ho1 hc1
  go_wp2_with fail
  refine (HP2.out w2).mono ?_
  rintro e3 w3 ⟨hb3, A2, k2, c2, rfl, ho2, hc2⟩
  have HB23 := Lib.hid hb3
  have HB3 := Lib.hid (HB2.out.trans (hb3.mono HB2.out.size))
  have HO2 := Lib.hid ho2
  have HC2 := Lib.hid hc2
  clear hb3 ho2 hc2
  have hr1 : CmdsR w3 A1 L := (own_cmdsR HO1.out HC1.out (by have := HCB.out.1; omega) HCB.out.2).below HB23.out
  have hr2 : CmdsR w3 A2 L := own_cmdsR HO2.out HC2.out (by have := HCB.out.1; omega) HCB.out.2
  have HSM := Lib.hid (same_call A1 A2 k1 k2 L w3 hr1 hr2)
  have q1 : (a != a) = false := by simp
  have q2 : (e != e) = false := by simp
  have hll : L.length ≤ 4096 := HCB.out.1
  clear hr1 hr2
  go_wp2_with fail
  refine HSM.out.mono ?_
  rintro e4 w4 ⟨rfl, hb4⟩
  have HB34 := Lib.hid hb4
  have HB4 := Lib.hid (HB3.out.trans (hb4.mono HB3.out.size))
  clear hb4
  have HB24 := Lib.hid (HB23.out.trans (HB34.out.mono HB23.out.size))
  have HRP : Hid (0 < L.length → ∃ g o, A1 = some ⟨g, o, none⟩ ∧ RowP w4 w1.heap.size w2.heap.size g o L) := by
    show _ → _
    intro h0
    obtain ⟨g, o, e, hr⟩ := row_parts HO1.out HC1.out h0
    exact ⟨g, o, e, hr.below HB24.out⟩
  go_wp2_with fail
  go_loopw [10, 11, 12] (fun i u1 u2 wr => ∃ k : Nat, i = .int .i64 k ∧ k ≤ L.length ∧ Mut w1.heap.size w2.heap.size w4 wr ∧ ∀ g o, A1 = some ⟨g, o, none⟩ → ∀ n x, k ≤ n → x < 6 → wr.cell? ⟨g, o + n * 6 + x, none⟩ = w4.cell? ⟨g, o + n * 6 + x, none⟩)
    (fun i _ _ _ => L.length - (intOf i).toNat)
  case atStart => exact ⟨0, rfl, Nat.zero_le _, Mut.refl _ _ _, fun _ _ _ _ _ _ _ => rfl⟩
  case round =>
    rename World => wr
    obtain ⟨k, rfl, hk, hm, hrow⟩ := hrel
    have HM := Lib.hid hm
    have HROW := Lib.hid hrow
    have k0 : (0 : Int) ≤ (k : Int) := Int.natCast_nonneg _
    clear hm hrow
    by_cases hlt : k < L.length
    · have k3 : (k : Int) < (L.length : Int) := by omega
      obtain ⟨c, hc⟩ : ∃ c, L[k]? = some c := ⟨_, List.getElem?_eq_getElem hlt⟩
      obtain ⟨g, o, e5, hrp⟩ := HRP.out (by omega)
      subst e5
      obtain ⟨vb, vk, p3, p5, pb, pk, ps⟩ := hrp.at_ k c hc
      obtain ⟨Ab, cb, rfl, hfb⟩ := pb
      obtain ⟨Ak, ck, rfl, hfk⟩ := pk
      have HRP2 := Lib.hid hrp
      have HFB := Lib.hid hfb
      have HFK := Lib.hid hfk
      have HPS := Lib.hid ps
      have hcc := HCB.out.2 c (List.mem_of_getElem? hc)
      have hbn : c.bytes.length ≤ 1048576 := hcc.2.bytes
      have hkn : c.keep.length ≤ 1048576 := hcc.2.keep
      have P3 := Lib.hid ((HROW.out g o rfl k 3 (Nat.le_refl _) (by omega)).trans p3)
      have P5 := Lib.hid ((HROW.out g o rfl k 5 (Nat.le_refl _) (by omega)).trans p5)
      obtain ⟨nb, hnb⟩ : ∃ n, c.bytes.length = n := ⟨_, rfl⟩
      obtain ⟨nk, hnk⟩ : ∃ n, c.keep.length = n := ⟨_, rfl⟩
      rw [hnb] at HFB P3 hbn
      rw [hnk] at HFK P5 hkn
      clear hrp p3 p5 hfb hfk ps hcc hc hnb hnk
      go_wp2_with fail
      go_loopw [11] (fun v wq => ∃ j : Nat, v = .int .i64 j ∧ j ≤ nb ∧ Mut w1.heap.size w2.heap.size w4 wq ∧ ∀ x, wq.cell? ⟨g, x, none⟩ = wr.cell? ⟨g, x, none⟩)
        (fun v _ => nb - (intOf v).toNat)
      case atStart => exact ⟨0, rfl, Nat.zero_le _, HM.out, fun _ => rfl⟩
      case round =>
        rename World => wq
        obtain ⟨j, rfl, hj, hm, hg⟩ := hrel
        have j0 : (0 : Int) ≤ (j : Int) := Int.natCast_nonneg _
        have p3 := (hg _).trans P3.out
        by_cases hjl : j < nb
        · have j1 : (j : Int) < (nb : Int) := by omega
          obtain ⟨b, ob, e6, h1, h2, h3, h4, h5⟩ := HFB.out (by omega)
          subst e6
          obtain ⟨u, hu⟩ := Option.isSome_iff_exists.1 (hm.cell _ (h4 j hjl))
          have hz : wq.frozen? ⟨b, ob + j, none⟩ = false := (hm.fz _).trans (h5 _)
          have HM2 := Lib.hid hm
          have HG2 := Lib.hid hg
          clear h4 h5 hm hg
          go_wp2_with fail
          refine ⟨⟨j + 1, by go_num, by omega, HM2.out.set h1 h2 _, fun x => ?_⟩, by simp [intOf]; omega⟩
          rw [World.cell?_setCell_other _ _ _ _ (fun e => by cases e; exact h3 rfl)]
          exact HG2.out x
        · have j1 : ¬ (j : Int) < (nb : Int) := by omega
          have HM3 := Lib.hid hm
          have HG3 := Lib.hid hg
          clear hm hg
          go_wp2_with fail
          clear p3
          go_loopw [12] (fun v wq => ∃ j : Nat, v = .int .i64 j ∧ j ≤ nk ∧ Mut w1.heap.size w2.heap.size w4 wq ∧ ∀ x, wq.cell? ⟨g, x, none⟩ = wr.cell? ⟨g, x, none⟩)
            (fun v _ => nk - (intOf v).toNat)
          case atStart => exact ⟨0, rfl, Nat.zero_le _, HM3.out, HG3.out⟩
          case round =>
            rename World => wp
            obtain ⟨m, rfl, hm1, hm, hg⟩ := hrel
            have m0 : (0 : Int) ≤ (m : Int) := Int.natCast_nonneg _
            have p5 := (hg _).trans P5.out
            by_cases hml : m < nk
            · have m1 : (m : Int) < (nk : Int) := by omega
              obtain ⟨b, ob, e6, h1, h2, h3, h4, h5⟩ := HFK.out (by omega)
              subst e6
              obtain ⟨u, hu⟩ := Option.isSome_iff_exists.1 (hm.cell _ (h4 m hml))
              have hz : wp.frozen? ⟨b, ob + m, none⟩ = false := (hm.fz _).trans (h5 _)
              have HM2 := Lib.hid hm
              have HG2 := Lib.hid hg
              clear h4 h5 hm hg
              go_wp2_with fail
              refine ⟨⟨m + 1, by go_num, by omega, HM2.out.set h1 h2 _, fun x => ?_⟩, by simp [intOf]; omega⟩
              rw [World.cell?_setCell_other _ _ _ _ (fun e => by cases e; exact h3 rfl)]
              exact HG2.out x
            · have m1 : ¬ (m : Int) < (nk : Int) := by omega
              have hth : ∀ x, x < 6 → ∃ u, wp.cell? ⟨g, o + k * 6 + x, none⟩ = some u := fun x hx => Option.isSome_iff_exists.1 (hm.cell _ (HPS.out x hx))
              have hfz : ∀ x, wp.frozen? ⟨g, x, none⟩ = false := fun x => (hm.fz _).trans (HRP2.out.fz _)
              obtain ⟨x0, y0⟩ := hth 0 (by omega)
              obtain ⟨x1, y1⟩ := hth 1 (by omega)
              obtain ⟨x2, y2⟩ := hth 2 (by omega)
              have y3 := (hg _).trans P3.out
              obtain ⟨x4, y4⟩ := hth 4 (by omega)
              rw [Nat.add_zero] at y0
              have z0 := hfz (o + k * 6)
              have z1 := hfz (o + k * 6 + 1)
              have z2 := hfz (o + k * 6 + 2)
              have z3 := hfz (o + k * 6 + 3)
              have z4 := hfz (o + k * 6 + 4)
              have z5 := hfz (o + k * 6 + 5)
              have HM4 := Lib.hid hm
              have HG4 := Lib.hid hg
              clear hm hg hth hfz
              go_wp2_with fail
              have hg1 := HRP2.out.lo_
              have hg2 := HRP2.out.hi_
              refine ⟨⟨k + 1, by go_num, by omega, (((((HM4.out.set (p := ⟨g, o + k * 6, none⟩) hg1 hg2 _).set (p := ⟨g, o + k * 6 + 1, none⟩) hg1 hg2 _).set (p := ⟨g, o + k * 6 + 2, none⟩) hg1 hg2 _).set (p := ⟨g, o + k * 6 + 3, none⟩) hg1 hg2 _).set (p := ⟨g, o + k * 6 + 4, none⟩) hg1 hg2 _).set (p := ⟨g, o + k * 6 + 5, none⟩) hg1 hg2 _, fun g' o' e n x hn hx => ?_⟩, by simp [intOf]; omega⟩
              cases e
              rw [World.cell?_setCell_other _ _ _ _ (fun e => by have := congrArg Addr.off e; simp at this; omega), World.cell?_setCell_other _ _ _ _ (fun e => by have := congrArg Addr.off e; simp at this; omega), World.cell?_setCell_other _ _ _ _ (fun e => by have := congrArg Addr.off e; simp at this; omega), World.cell?_setCell_other _ _ _ _ (fun e => by have := congrArg Addr.off e; simp at this; omega), World.cell?_setCell_other _ _ _ _ (fun e => by have := congrArg Addr.off e; simp at this; omega), World.cell?_setCell_other _ _ _ _ (fun e => by have := congrArg Addr.off e; simp at this; omega), HG4.out]
              exact HROW.out g o rfl n x (by omega) hx
    · have k3 : ¬ (k : Int) < (L.length : Int) := by omega
      clear hlt
      have HB04 := Lib.hid (HB4.out.trans (HM.out.bl.mono HB1.out.size))
      have HW : Hid (∀ W, Below wr.heap.size wr W → CmdsR W A2 L) := by
        show ∀ _, _ → _
        intro W hb
        have hbk : ∀ b, w2.heap.size ≤ b → b < w3.heap.size → W.heap[b]? = w3.heap[b]? := fun b h1 h2 => by
          have hs : w3.heap.size ≤ w4.heap.size := HB34.out.size
          rw [hb.block b (by rw [HM.out.sz]; omega), HM.out.top b h1, HB34.out.block b h2]
        have hsz : w3.heap.size ≤ W.heap.size := Nat.le_trans HB34.out.size (Nat.le_trans (Nat.le_of_eq HM.out.sz.symm) hb.size)
        exact own_cmdsR (own_keep HO2.out hbk) (cmds_top hsz hbk HC2.out) (by have := HCB.out.1; omega) HCB.out.2
      clear hll
      go_wp2_with fail
      refine (HP1.out _ HB04.out).mono ?_
      rintro e6 w6 ⟨hb6, A3, k3, c3, rfl, ho3, hc3⟩
      have HB06 := Lib.hid (HB04.out.trans (hb6.mono HB04.out.size))
      have hr1 : CmdsR w6 A3 L := own_cmdsR ho3 hc3 (by have := HCB.out.1; omega) HCB.out.2
      have hr2 : CmdsR w6 A2 L := HW.out w6 hb6
      have HSM2 := Lib.hid (same_call A3 A2 k3 k2 L w6 hr1 hr2)
      clear hr1 hr2 hb6 ho3 hc3
      have q3 : (e == e) = true := by simp
      go_wp2_with fail
      refine HSM2.out.mono ?_
      rintro e7 w7 ⟨rfl, hb7⟩
      have HB07 := Lib.hid (HB06.out.trans (hb7.mono HB06.out.size))
      clear hb7
      go_wp2_with fail
      go_ret
      exact ⟨rfl, HB07.out⟩
theorem laidOut : laidOutB Tryz.prog = true := by kernel_rfl

theorem reads (os : Os) {H : Type} (enc : TypeId × Value → H) : ∃ places, DataW.whole enc Tryz.prog ((LW.laidWorld os #[]).forCall (fun _ _ => 0) ⟨#[], #[.string ByteArray.empty], []⟩).memory Tryz.f3.params.toList Rows.scriptParsesSpec.vars false #[Value.string ByteArray.empty].toList 8 = some ([.lit (.string [])], [], places) :=
  ⟨[], by kernel_rfl⟩

set_option maxRecDepth 100000 in
theorem lifted (os : Os) (started : os.Started) (H : Type) (enc : TypeId × Value → H) (F : Stop.Interp) :
    ReturnsInHanded {} Tryz.checked os 3 .any ((OpenSpec.ofChange Rows.scriptParsesSpec).preRow enc Tryz.prog Tryz.f3 Rows.scriptParsesRow.domain false Rows.scriptParsesRow.laid) (((OpenSpec.ofChange Rows.scriptParsesSpec).at F).post enc Tryz.prog Tryz.f3 false true false false) := by
  obtain ⟨places, hx⟩ := reads os enc
  refine returnsInHanded_of_row (C := Tryz.checked) (s := OpenSpec.ofChange Rows.scriptParsesSpec) LW.own started (by kernel_rfl) Tryz.func3
    (witness_row_atRef (enc := enc) (C := Tryz.checked) false (LW.laidWorld os #[]) #[.string ByteArray.empty] rfl (by kernel_rfl) (by kernel_rfl) (by kernel_rfl)
      (OpenSpec.preRow_of_cond 8 hx (by kernel_rfl) (fun k hk => by cases hk) (by kernel_rfl) (LW.laid_met os _))) ?_
  intro W base args ds gs before hval0 hW _ _ hwt hL _ _
  have hval : ∀ (j : Nat) t v, Tryz.f3.params[j]? = some t → args[j]? = some v → Value.okWide Tryz.prog W .any base t v := hval0
  have hW' := hW
  obtain ⟨p, q, hA0, hV, rfl, hfz, hnd⟩ := hW
  have hA : DataW.TrodAll enc Tryz.prog W 0 (fun _ => true) true Tryz.f3.params.toList args.toList ds p := hA0
  rw [Tryz.params3] at hA hval
  obtain ⟨v0, vs0, d0, ds0, p0, q0, hargs0, rfl, rfl, h0, r0⟩ := trodAll_cons hA
  obtain ⟨rfl, rfl, rfl⟩ := trodAll_nil r0
  obtain rfl : args = #[v0] := by cases args; simp_all
  obtain ⟨rfl, rfl⟩ := trodVars_none hV
  obtain ⟨a, rfl, rfl, rfl, _⟩ := ChangeMaps.open_string Tryz.underlying9 (hval 0 9 v0 rfl rfl) h0
  have hw2 : (([a.data.toList.length] ++ []).all fun x => decide (x ≤ reachBytes)) = true := hwt
  simp only [List.all_append, List.all_cons, List.all_nil, Bool.and_true, decide_eq_true_eq] at hw2
  obtain ⟨a0, a1, a3, L⟩ := LW.laid_of hL
  clear hA0 hval0
  refine (walk a (by rw [size_list]; exact hw2) W L).mono fun e W' ⟨he, hg⟩ => ?_
  subst he
  exact ⟨_, rfl, law_post laidOut Tryz.underlying4 (by kernel_rfl) rfl (by kernel_rfl) hW' rfl hg⟩

theorem said : Rows.ScriptParsesSaid :=
  OpenClaim.holds_of_cond 3 Tryz.f3 rfl rfl rfl rfl rfl rfl rfl ⟨rfl, rfl, rfl, rfl, rfl⟩ rfl rfl rfl rfl rfl (by kernel_rfl) Tryz.func3 (by kernel_rfl)
    (of_decide_eq_true (by kernel_rfl)) (by unfold Func.isWrapper; first | (rw [if_pos (by decide +kernel)]; kernel_rfl) | (rw [if_neg (by decide +kernel)]; exact ⟨rfl, rfl⟩))
    (fun os started H enc _ F => by rw [OpenClaim.pre_eq_preRow]; exact lifted os started H enc F)

theorem plain (f : FuncId) (fn : Func) (hf : Tryz.pinned.checked.prog.funcNamed "muniment/munimentlaw22.ScriptParses" = some f) (hfn : Tryz.pinned.checked.prog.funcs[f]? = some fn) :
    true = Tryz.pinned.checked.prog.looks [] ∧ ∀ (j : Nat) t, fn.params[j]? = some t → Tryz.pinned.checked.prog.wantsStandIn t = false := by
  obtain rfl : f = 3 := Option.some.inj ((show Tryz.prog.funcNamed "muniment/munimentlaw22.ScriptParses" = some 3 by kernel_rfl).symm.trans hf) |>.symm
  obtain rfl : fn = Tryz.f3 := (Option.some.inj (Tryz.func3.symm.trans hfn)).symm
  refine ⟨by kernel_rfl, fun j t ht => ?_⟩
  rw [Tryz.params3] at ht
  obtain rfl : t = 9 := by
    have := Array.mem_of_getElem? ht
    simpa using this
  exact (show Tryz.prog.wantsStandIn 9 = false by kernel_rfl)

theorem proved : Rows.ScriptParsesCardSaid :=
  Claim7.holds_tied_plain_at .later [] _ _ _ _ said (fun _ h => by cases h) (by kernel_rfl) (fun _ h => by cases h) scriptParses_row_tie rfl ⟨rfl, rfl⟩ (by kernel_rfl) rfl plain (by kernel_rfl)
#print axioms proved
end Go.Proofs.YtlibjfmafpiopaaGreatDoor.scriptParses
