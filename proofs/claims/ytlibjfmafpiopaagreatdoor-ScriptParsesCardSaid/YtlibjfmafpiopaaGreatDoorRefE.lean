/- The document's reading of a script (munimentref22.Parse): the contract. -/
import Derived.Test.YtlibjfmafpiopaaGreatDoorRefD
namespace Go.Proofs.YtlibjfmafpiopaaGreatDoor
open Go.RowKit Scr

theorem read_err {A : Option Addr} {c0 : Nat} {h : Bs} {r : List Bs} {w : World} {x : Int} (hS : Strs w A (h :: r)) (hlen : r.length ≤ 70000) (hsz : ∀ l ∈ (h :: r), l.length ≤ 70000) (hr : readR (h :: r) = .error x) :
    Calls Tryz.prog 26 #[.slice A (r.length + 1) c0] w fun e w' => e = .returned (.tuple #[.agg #[.string ⟨#[]⟩, .int .i64 0, .string ⟨#[]⟩, .slice none 0 0, .int .i64 0, .slice none 0 0], .int .i64 x]) ∧ Below w.heap.size w w' := by
  refine (read_call A c0 h r w hS hlen hsz).mono fun e w' ⟨hb, hc⟩ => ?_
  rcases hc with ⟨y, h1, h2⟩ | ⟨c, _, _, h1, _⟩
  · rw [hr] at h1
    cases h1
    exact ⟨h2, hb⟩
  · rw [hr] at h1
    cases h1

theorem read_ok {A : Option Addr} {c0 : Nat} {h : Bs} {r : List Bs} {w : World} {c : Cmd} (hS : Strs w A (h :: r)) (hlen : r.length ≤ 70000) (hsz : ∀ l ∈ (h :: r), l.length ≤ 70000) (hr : readR (h :: r) = .ok c) :
    Calls Tryz.prog 26 #[.slice A (r.length + 1) c0] w fun e w' => ∃ Ab cb Ak ck, e = .returned (.tuple #[.agg #[.string ⟨c.word.toArray⟩, .int .i64 c.kind, .string ⟨c.id.toArray⟩, .slice Ab c.bytes.length cb, .int .i64 c.n, .slice Ak c.keep.length ck], .int .i64 0]) ∧ Below w.heap.size w w' ∧
      RdI .u8 w' w.heap.size (.slice Ab c.bytes.length cb) c.bytes ∧ RdI .i64 w' w.heap.size (.slice Ak c.keep.length ck) c.keep := by
  refine (read_call A c0 h r w hS hlen hsz).mono fun e w' ⟨hb, hc⟩ => ?_
  rcases hc with ⟨y, h1, h2⟩ | ⟨c', vb, vk, h1, h2, h3, h4⟩
  · rw [hr] at h1
    cases h1
  · rw [hr] at h1
    cases h1
    obtain ⟨Ab, cb, rfl, hb'⟩ := h3
    obtain ⟨Ak, ck, rfl, hk'⟩ := h4
    exact ⟨Ab, cb, Ak, ck, h2, hb, ⟨Ab, cb, rfl, hb'⟩, ⟨Ak, ck, rfl, hk'⟩⟩

theorem readR_err {h : Bs} {r : List Bs} {x : Int} (hr : readR (h :: r) = .error x) : x = 221 ∨ x = 222 ∨ x = 223 := by
  simp only [readR] at hr
  split at hr
  · cases hr; exact .inl rfl
  · split at hr
    · cases hr; exact .inr (.inl rfl)
    · split at hr
      · cases hr
      · cases hr; exact .inr (.inr rfl)

/-- Commands, and what they read as; none of their parts lies in a block of X. -/
inductive Cmds (w : World) (lo : Nat) (X : Nat → Prop) : List Cmd → List Value → Prop
  | nil : Cmds w lo X [] []
  | cons {c : Cmd} {vb vk : Value} {L : List Cmd} {cs : List Value} (hb : RdI .u8 w lo vb c.bytes) (hk : RdI .i64 w lo vk c.keep) (xb : 0 < c.bytes.length → ∀ b, vb.ownBlock = some b → ¬ X b) (xk : 0 < c.keep.length → ∀ b, vk.ownBlock = some b → ¬ X b)
      (ht : Cmds w lo X L cs) : Cmds w lo X (c :: L) ((cmdCells c vb vk).toList ++ cs)

theorem RdI.grown {k : IntKind} {w w' : World} {lo : Nat} {v : Value} {xs : List Int} {X : Nat → Prop} (h : RdI k w lo v xs) (hx : 0 < xs.length → ∀ b, v.ownBlock = some b → ¬ X b) (hz : w.heap.size ≤ w'.heap.size) (hk : ∀ b, b < w.heap.size → ¬ X b → w'.heap[b]? = w.heap[b]?) : RdI k w' lo v xs := by
  obtain ⟨A, c, rfl, hf⟩ := h
  refine ⟨A, c, rfl, fun h0 => ?_⟩
  obtain ⟨b, rfl, hl, hlt, hc⟩ := hf h0
  exact ⟨b, rfl, hl, by omega, fun j hj => (World.cell?_of_block (a := ⟨b, j, none⟩) (hk b hlt (hx h0 b rfl))).trans (hc.1 j hj), fun j => (World.frozen?_of_block (a := ⟨b, j, none⟩) (hk b hlt (hx h0 b rfl))).trans (hc.2 j)⟩

theorem RdI.lt {k : IntKind} {w : World} {lo : Nat} {v : Value} {xs : List Int} (h : RdI k w lo v xs) (h0 : 0 < xs.length) {b : Nat} (e : v.ownBlock = some b) : lo ≤ b ∧ b < w.heap.size := by
  obtain ⟨A, c, rfl, hf⟩ := h
  obtain ⟨b', rfl, hl, hlt, _⟩ := hf h0
  simp [Value.ownBlock] at e
  omega

theorem Cmds.grown {w w' : World} {lo : Nat} {X X' : Nat → Prop} (hz : w.heap.size ≤ w'.heap.size) (hk : ∀ b, b < w.heap.size → ¬ X b → w'.heap[b]? = w.heap[b]?) (hX : ∀ b, b < w.heap.size → X' b → X b) : ∀ {L : List Cmd} {cs : List Value}, Cmds w lo X L cs → Cmds w' lo X' L cs
  | _, _, .nil => .nil
  | _, _, .cons hb hkp xb xk ht => .cons (hb.grown xb hz hk) (hkp.grown xk hz hk) (fun h0 b e hx => xb h0 b e (hX b (hb.lt h0 e).2 hx)) (fun h0 b e hx => xk h0 b e (hX b (hkp.lt h0 e).2 hx)) (ht.grown hz hk hX)

theorem Cmds.snoc {w : World} {lo : Nat} {X : Nat → Prop} {c : Cmd} {vb vk : Value} (hb : RdI .u8 w lo vb c.bytes) (hk : RdI .i64 w lo vk c.keep) (xb : 0 < c.bytes.length → ∀ b, vb.ownBlock = some b → ¬ X b) (xk : 0 < c.keep.length → ∀ b, vk.ownBlock = some b → ¬ X b) :
    ∀ {L : List Cmd} {cs : List Value}, Cmds w lo X L cs → Cmds w lo X (L ++ [c]) (cs ++ (cmdCells c vb vk).toList)
  | _, _, .nil => by simpa using Cmds.cons hb hk xb xk .nil
  | _, _, .cons hb' hk' xb' xk' ht => by
    rw [List.cons_append, List.append_assoc]
    exact .cons hb' hk' xb' xk' (ht.snoc hb hk xb xk)

theorem Cmds.len {w : World} {lo : Nat} {X : Nat → Prop} : ∀ {L : List Cmd} {cs : List Value}, Cmds w lo X L cs → cs.length = L.length * 6
  | _, _, .nil => rfl
  | _, _, .cons _ _ _ _ ht => by simp [ht.len, cmdCells]; omega

theorem cmds_lo {w : World} {lo lo' : Nat} {X : Nat → Prop} {L : List Cmd} {cs : List Value} (h : Cmds w lo X L cs) (hl : lo' ≤ lo) : Cmds w lo' X L cs := by
  induction h with
  | nil => exact .nil
  | cons hb hk xb xk _ ih => exact .cons (hb.lo hl) (hk.lo hl) xb xk ih

theorem words_ne {l w : Bs} (h : w ∈ words l) : w ≠ [] := by
  unfold words at h
  have := (List.mem_filter.1 h).2
  intro e
  subst e
  simp at this

theorem words_bd {l : Bs} : (words l).length ≤ l.length + 1 ∧ ∀ w ∈ words l, w.length ≤ l.length := by
  unfold words
  exact ⟨Nat.le_trans (List.length_filter_le _ _) (split_len 32 l), fun w hw => split_total 32 l w (List.mem_filter.1 hw).1⟩

theorem linesR_step {L : List Bs} {k : Nat} {l : Bs} (h : L[k]? = some l) (out : List Cmd) : linesR k (L.drop k) out = (match words l with
    | [] => linesR (k + 1) (L.drop (k + 1)) out
    | h :: t => if h.head? = some 35 then linesR (k + 1) (L.drop (k + 1)) out else
      match readR (h :: t) with
      | .ok c => linesR (k + 1) (L.drop (k + 1)) (out ++ [c])
      | .error e => ([], (k : Int) + 1, e)) := by
  have hk : k < L.length := (List.getElem?_eq_some_iff.1 h).1
  have e : L[k] = l := (List.getElem?_eq_some_iff.1 h).2
  rw [List.drop_eq_getElem_cons hk, e]
  rfl

/-- What 'Parse' answers. -/
def ParsePost (w : World) (o : List Cmd × Int × Int) (e : Ending) (w' : World) : Prop :=
  Below w.heap.size w w' ∧ ∃ A cap cs, e = .returned (.tuple #[.slice A o.1.length cap, .int .i64 o.2.1, .int .i64 o.2.2]) ∧ w'.ownsRow w.heap.size 33 6 (.slice A o.1.length cap) o.1.length cs ∧ Cmds w' w.heap.size (fun b => (Value.slice A o.1.length cap).ownBlock = some b) o.1 cs

theorem info33 : (Tryz.prog.info? 33).map (fun i => (i.zero, i.size, i.bytes)) = some (some (.agg #[.string ByteArray.empty, .int .i64 0, .string ByteArray.empty, .slice none 0 0, .int .i64 0, .slice none 0 0]), 6, 96) := by kernel_rfl

theorem src_cmd (w : World) (o : Obj) (c : Cmd) (vb vk : Value) {t : TypeId} : Src ((w.alloc o).alloc (.cells (cmdCells c vb vk) t)) 6 (some ⟨w.heap.size + 1, 0, none⟩) 1 (cmdCells c vb vk).toList := by
  have h := heap_alloc_new (w.alloc o) (.cells (cmdCells c vb vk) t)
  rw [World.size_alloc] at h
  exact src_blk (us := (cmdCells c vb vk).toList) (by simpa using h) (by simp [cmdCells])

theorem cmd_one (c : Cmd) (Ab Ak : Option Addr) (nb cb nk ck : Nat) : ∀ u ∈ (cmdCells c (.slice Ab nb cb) (.slice Ak nk ck)).toList, u.oneCell' = true := by
  intro u hu
  simp [cmdCells] at hu
  rcases hu with rfl | rfl | rfl | rfl | rfl | rfl <;> rfl

set_option maxRecDepth 100000 in
set_option maxHeartbeats 2000000 in
theorem parse13_call (s : ByteArray) (w : World) (hs : s.size ≤ 140737488351232) : Calls Tryz.prog 13 #[.string s] w fun e w' => ParsePost w (parseR s.data.toList) e w' := by
  have hsl := size_list s
  obtain ⟨o, ho⟩ : ∃ o, parseR s.data.toList = o := ⟨_, rfl⟩
  rw [ho]
  have hpr : o = if 65536 < s.size then ([], 0, 220) else if 4096 < (split 10 s.data.toList).length then ([], 0, 220) else linesR 0 (split 10 s.data.toList) [] := by rw [← ho, hsl]; rfl
  have HP := Lib.hid hpr
  clear ho hpr hsl
  by_cases h1 : 65536 < s.size
  · have HR : Hid (o = ([], 0, 220)) := by rw [HP.out, if_pos h1]; exact rfl
    go_enter Tryz.func13, Tryz.ntmps13
    go_wp2
    go_ret3
    rw [HR.out]
    exact ⟨Below.refl _ _, none, 0, [], rfl, World.ownsRow_nil _ _ _ _, .nil⟩
  · have SC := split_call s 10 10 rfl w (by omega)
    obtain ⟨L, hL⟩ : ∃ L, split 10 s.data.toList = L := ⟨_, rfl⟩
    have hLl : L.length ≤ s.size + 1 := by rw [← hL, size_list]; exact split_len 10 _
    have hLb : ∀ l ∈ L, l.length ≤ s.size := by rw [← hL, size_list]; exact split_total 10 _
    rw [hL] at SC HP
    have HSC := Lib.hid SC
    have HLB := Lib.hid hLb
    have HP2 : Hid (o = if 4096 < L.length then ([], 0, 220) else linesR 0 L []) := by rw [HP.out, if_neg h1]; exact rfl
    clear SC hL hLb
    by_cases h2 : 4096 < L.length
    · have HR : Hid (o = ([], 0, 220)) := by rw [HP2.out, if_pos h2]; exact rfl
      go_enter Tryz.func13, Tryz.ntmps13
      go_wp2_with (go_at_call 24; refine HSC.out.mono ?_; rintro e w1 ⟨A1, c1, rfl, hown1, hb1⟩)
      go_ret3
      rw [HR.out]
      exact ⟨hb1, none, 0, [], rfl, World.ownsRow_nil _ _ _ _, .nil⟩
    · have HR : Hid (o = linesR 0 L []) := by rw [HP2.out, if_neg h2]; exact rfl
      obtain ⟨i0, hi0, hz0, hz1, hz2'⟩ := info_parts info33
      go_enter Tryz.func13, Tryz.ntmps13
      go_wp2_with (go_at_call 24; refine HSC.out.mono ?_; rintro e w1 ⟨A1, c1, rfl, hown1, hb1⟩)
      have hS := own_strs hown1
      have hz1' := hb1.size
      have HB1 := Lib.hid hb1
      clear hown1
      go_loopw [6, 7] (fun v i wr => ∃ (k : Nat) (outs : List Cmd) (cs : List Value), i = .int .i64 k ∧ k ≤ L.length ∧ wr.ownsRow w1.heap.size 33 6 v outs.length cs ∧ Cmds wr w1.heap.size (fun b => v.ownBlock = some b) outs cs ∧ Below w1.heap.size w1 wr ∧ outs.length ≤ k ∧ Hid (linesR k (L.drop k) outs = o))
        (fun _ i _ => L.length - (intOf i).toNat)
      case atStart => exact ⟨0, [], [], rfl, by omega, World.ownsRow_made w1 #[] 0 (Nat.le_refl _) (by decide) rfl, .nil, by go_grown, by simp, Lib.hid HR.out.symm⟩
      case round =>
        obtain ⟨k, outs, cs, rfl, hk, hown, hcm, hb, hok, hsp⟩ := hrel
        have hz := hb.size
        by_cases hlt : k < L.length
        · obtain ⟨bs, ofs, rfl, hbs, hcs⟩ := hS.at_ (by omega)
          obtain ⟨l, hl⟩ : ∃ l, L[k]? = some l := ⟨_, List.getElem?_eq_getElem hlt⟩
          have hcell := (hb.cell (p := ⟨bs, ofs + k, none⟩) hbs).trans (hcs k l hl)
          have hll : l.length ≤ s.size := HLB.out l (List.mem_of_getElem? hl)
          obtain ⟨t, ht⟩ : ∃ t : ByteArray, (⟨l.toArray⟩ : ByteArray) = t := ⟨_, rfl⟩
          rw [ht] at hcell
          have HTD : Hid (t.data.toList = l) := by rw [← ht]; exact rfl
          have hts : t.size ≤ 70000 := by rw [size_list, HTD.out]; omega
          have WC := words_call t wr hts
          rw [HTD.out] at WC
          have hWb := words_bd (l := l)
          have hWn : ∀ w ∈ words l, w ≠ [] := fun w => words_ne
          have hst := linesR_step hl outs
          obtain ⟨W, hW⟩ : ∃ W, words l = W := ⟨_, rfl⟩
          rw [hW] at WC hWb hWn hst
          obtain ⟨hWb1, hWb2⟩ := hWb
          have HWC := Lib.hid WC
          have HST := Lib.hid hst
          have HWB := Lib.hid hWb2
          have HWN := Lib.hid hWn
          have k0 : (0 : Int) ≤ (k : Int) := Int.natCast_nonneg _
          have k1 : (k : Int) < (L.length : Int) := by omega
          clear WC hst hWb2 hWn ht hl hW hcs
          cases W with
          | nil =>
            go_wp2_with (go_at_call 25; refine HWC.out.mono ?_; rintro e w2 ⟨A2, c2, rfl, hown2, hb2⟩)
            have hz2 := hb2.size
            refine ⟨⟨k + 1, outs, cs, by go_num, by omega, own_keep hown fun b _ hlt => hb2.block b hlt, hcm.grown hz2 (fun b hlt _ => hb2.block b hlt) (fun b _ h => h), hb.trans (hb2.mono hz), by omega, Lib.hid ?_⟩, by simp [intOf]; omega⟩
            rw [← hsp.out, HST.out]
          | cons h r =>
            have hh : h ≠ [] := HWN.out h (by simp)
            obtain ⟨hs', hhs⟩ : ∃ x : ByteArray, (⟨h.toArray⟩ : ByteArray) = x := ⟨_, rfl⟩
            have HHD : Hid (hs'.data.toList = h) := by rw [← hhs]; exact rfl
            have hsz0 : 0 < hs'.size := by
              rw [size_list, HHD.out]
              exact List.length_pos_iff.2 hh
            obtain ⟨n0, hn0⟩ : ∃ n0, hs'[0].toNat = n0 := ⟨_, rfl⟩
            have hhd : h.head? = some hs'[0] := by
              have e1 := get_list hs' 0 hsz0
              rw [e1]
              have e2 : 0 < hs'.data.toList.length := by rw [← size_list]; exact hsz0
              have e3 := head_get e2
              rw [← e3, HHD.out]
            have HHD0 : Hid (n0 = 35 ↔ h.head? = some 35) := by
              refine ⟨fun e => ?_, fun e => ?_⟩
              · rw [hhd]
                exact congrArg some (UInt8.toNat_inj.1 (by rw [hn0, e]; rfl))
              · rw [hhd] at e
                have e1 : hs'[0] = 35 := Option.some.inj e
                rw [← hn0, e1]
                rfl
            have t0 : (((r.length : Int) + 1) == 0) = false := by rw [beq_eq_false_iff_ne]; omega
            have hr7 : r.length ≤ 70000 := by simp at hWb1; omega
            have hr8 : ∀ l ∈ (h :: r), l.length ≤ 70000 := fun l hl => by have := HWB.out l hl; omega
            have HR8 := Lib.hid hr8
            have HHS := Lib.hid hhs
            clear hh hhs hhd hr8
            go_wp2_with fail
            refine HWC.out.mono ?_
            rintro e w2 ⟨A2, c2, rfl, hown2, hb2⟩
            have hz2 := hb2.size
            have hS2 := own_strs hown2
            have HS2 := Lib.hid hS2
            obtain ⟨b2, o2, rfl, hb2l, hc2⟩ := hS2.at_ (by simp)
            have hcw0 := hc2 0 h rfl
            rw [Nat.add_zero, HHS.out] at hcw0
            clear hc2 hown2
            by_cases hn35 : n0 = 35
            · have t1 : ((n0 : Int) == 35) = true := by rw [beq_iff_eq]; omega
              have HX := Lib.hid (HHD0.out.1 hn35)
              clear hn35
              go_wp2
              refine ⟨⟨k + 1, outs, cs, by go_num, by omega, own_keep hown fun b _ hlt => hb2.block b hlt, hcm.grown hz2 (fun b hlt _ => hb2.block b hlt) (fun b _ h => h), hb.trans (hb2.mono hz), by omega, Lib.hid ?_⟩, by simp [intOf]; omega⟩
              rw [← hsp.out, HST.out]
              simp only [HX.out, if_true]
            · have t1 : ((n0 : Int) == 35) = false := by rw [beq_eq_false_iff_ne]; omega
              have HX : Hid (¬ h.head? = some 35) := fun e => hn35 (HHD0.out.2 e)
              clear hn35
              cases hrr : readR (h :: r) with
              | error x =>
                have HRR := Lib.hid hrr
                have hx := readR_err hrr
                have t2 : (x != 0) = true := by rw [bne_iff_ne]; omega
                have HO : Hid (o = ([], (k : Int) + 1, x)) := by
                  rw [← hsp.out, HST.out]
                  simp only [if_neg HX.out, HRR.out]
                  first | exact rfl | trivial
                clear hrr hx
                go_wp2_with (go_at_call 26; refine (read_err HS2.out hr7 HR8.out HRR.out).mono ?_; rintro e w3 ⟨rfl, hb3⟩)
                go_ret3
                rw [HO.out]
                have hz3 := hb3.size
                exact ⟨((HB1.out.trans (hb.mono hz1')).trans (hb2.mono (by omega))).trans ((hb3.mono (by omega)).alloc (by omega) _), none, 0, [], rfl, World.ownsRow_nil _ _ _ _, .nil⟩
              | ok c =>
                have HRR := Lib.hid hrr
                have HO : Hid (linesR (k + 1) (L.drop (k + 1)) (outs ++ [c]) = o) := by
                  rw [← hsp.out, HST.out]
                  simp only [if_neg HX.out, HRR.out]
                  first | exact rfl | trivial
                clear hrr
                go_wp2_with fail
                refine (read_ok HS2.out hr7 HR8.out HRR.out).mono ?_
                rintro e w3 ⟨Ab, cb, Ak, ck, rfl, hb3, rb3, rk3⟩
                have hz3 := hb3.size
                have hown3 : w3.ownsRow w1.heap.size 33 6 u6 outs.length cs := own_keep hown fun b _ hlt => (hb3.block b (by omega)).trans (hb2.block b hlt)
                have hsn := Cmds.snoc (L := outs) (cs := cs) (X := fun b => u6.ownBlock = some b) (rb3.lo (lo' := w1.heap.size) (by omega)) (rk3.lo (lo' := w1.heap.size) (by omega))
                  (fun h0 b e hx => by have h1 := (rb3.lt h0 e).1; have h2 := (World.ownsRow.lt hown b hx).2; omega) (fun h0 b e hx => by have h1 := (rk3.lt h0 e).1; have h2 := (World.ownsRow.lt hown b hx).2; omega)
                  (hcm.grown (w' := w3) (by omega) (fun b hlt _ => (hb3.block b (by omega)).trans (hb2.block b hlt)) (fun b _ h => h))
                have hb3' : Below w1.heap.size w1 w3 := (hb.trans (hb2.mono hz)).trans (hb3.mono (by omega))
                go_wp2_with (at_builtin; refine wpList_app rfl (.tmp 51) (.tmp 53) 23 rfl w1.heap.size 33 i0 _ 6 96 Tryz.underlying23 hi0 hz0 hz1 hz2' rfl (by decide) u6 outs.length cs rfl ((hown3.alloc _).alloc _) (some ⟨w3.heap.size + 1, 0, none⟩) 1 1 (cmdCells c (.slice Ab c.bytes.length cb) (.slice Ak c.keep.length ck)).toList rfl (src_cmd _ _ _ _ _) (cmd_one _ _ _ _ _ _ _) (by unfold maxLen; omega) (by omega) (by simp; omega) ?_; intro v6 w6 hown6 hgrow6 hat6)
                have hs6 := hgrow6.size
                simp at hs6
                refine ⟨⟨k + 1, outs ++ [c], _, by go_num, by omega, ?_, hsn.grown (by omega) (fun b hlt hx => ?_) (fun b hlt e => ?_), Below.grown ((hb3'.alloc (by omega) _).alloc (by simp; omega) _) hgrow6 (by simp; omega) (fun b e => own_blk hown e), by simp; omega, HO⟩, by simp [intOf]; omega⟩
                · rw [List.length_append]
                  exact hown6
                · exact (hgrow6.block b (by simp; omega) (fun e => hx e.symm)).trans ((Below.heap_alloc _ _ _ (by simp; omega)).trans (Below.heap_alloc _ _ _ hlt))
                · rcases hat6 with h1 | h1
                  · exact h1.symm.trans e
                  · have h2 := Option.some.inj (h1.symm.trans e)
                    simp at h2
                    omega
        · have HO : Hid (o = (outs, 0, 0)) := by
            rw [← hsp.out, List.drop_eq_nil_of_le (by omega)]
            exact rfl
          obtain ⟨A, cap, rfl⟩ := own_form hown
          have hb' := HB1.out.trans (hb.mono hz1')
          go_wp2
          go_ret3
          rw [HO.out]
          exact ⟨hb', A, cap, cs, rfl, own_base hown hz1', cmds_lo hcm hz1'⟩
end Go.Proofs.YtlibjfmafpiopaaGreatDoor
