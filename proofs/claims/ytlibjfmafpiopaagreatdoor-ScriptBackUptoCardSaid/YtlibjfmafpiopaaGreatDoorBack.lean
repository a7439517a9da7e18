/- Proved: munimentlaw22.ScriptBack returns true for all commands of bulk at most 1048576, and leaves its argument as it was. Conditions: those of the given second row (the bound; what the listed package variables hold when the call begins; the card ties that to the program's text). -/
import Derived.Test.YtlibjfmafpiopaaGreatDoorPlain
namespace Go.Proofs.YtlibjfmafpiopaaGreatDoor.scriptBack
open Go.RowKit Go.Shelf Scr Go.ChangeShapes Go.WideShapes Go.ChangeAt

/-- Cells that read as commands, wherever their parts lie. -/
structure PlAt (w : World) (L : List Cmd) (cs : List Value) : Prop where
  len : cs.length = L.length * 6
  at_ : ∀ k c, L[k]? = some c → ∃ (Ab : Option Addr) (cb : Nat) (Ak : Option Addr) (ck : Nat), Byts w Ab c.bytes ∧ Ints w Ak c.keep ∧ ∀ i u, (cmdCells c (.slice Ab c.bytes.length cb) (.slice Ak c.keep.length ck))[i]? = some u → cs[k * 6 + i]? = some u

theorem PlAt.nil (w : World) : PlAt w [] [] := ⟨rfl, fun k c h => by simp at h⟩

theorem cells6 {c : Cmd} {vb vk : Value} {i : Nat} {u : Value} (h : (cmdCells c vb vk)[i]? = some u) : i < 6 := by
  have := (Array.getElem?_eq_some_iff.1 h).1
  simpa [cmdCells] using this

theorem PlAt.below {w w' : World} {L : List Cmd} {cs : List Value} (h : PlAt w L cs) (hb : Below w.heap.size w w') : PlAt w' L cs :=
  ⟨h.len, fun k c hk => by
    obtain ⟨Ab, cb, Ak, ck, h1, h2, h3⟩ := h.at_ k c hk
    exact ⟨Ab, cb, Ak, ck, h1.below hb, h2.below hb, h3⟩⟩

theorem PlAt.snoc {w : World} {L : List Cmd} {cs : List Value} (h : PlAt w L cs) {c : Cmd} {Ab : Option Addr} {cb : Nat} {Ak : Option Addr} {ck : Nat} (h1 : Byts w Ab c.bytes) (h2 : Ints w Ak c.keep) :
    PlAt w (L ++ [c]) (cs ++ (cmdCells c (.slice Ab c.bytes.length cb) (.slice Ak c.keep.length ck)).toList) := by
  refine ⟨by simp [h.len, cmdCells]; omega, fun k d hk => ?_⟩
  by_cases hkl : k < L.length
  · rw [List.getElem?_append_left hkl] at hk
    obtain ⟨Ab, cb, Ak, ck, q1, q2, q3⟩ := h.at_ k d hk
    refine ⟨Ab, cb, Ak, ck, q1, q2, fun i u hu => ?_⟩
    have hi := cells6 hu
    rw [List.getElem?_append_left (by rw [h.len]; omega)]
    exact q3 i u hu
  · have hk2 : k < L.length + 1 := by
      have := (List.getElem?_eq_some_iff.1 hk).1
      simpa using this
    obtain rfl : k = L.length := by omega
    rw [List.getElem?_append_right (Nat.le_refl _), Nat.sub_self] at hk
    cases hk
    refine ⟨Ab, cb, Ak, ck, h1, h2, fun i u hu => ?_⟩
    rw [List.getElem?_append_right (by rw [h.len]; omega), h.len, Nat.add_sub_cancel_left, Array.getElem?_toList]
    exact hu

theorem own_pl {w : World} {base : Nat} {A : Option Addr} {cap : Nat} {L : List Cmd} {cs : List Value} (hown : w.ownsRow base 33 6 (.slice A L.length cap) L.length cs) (hc : PlAt w L cs) (hl : L.length ≤ 1048576) (hb : ∀ c ∈ L, CmdB c) : CmdsR w A L := by
  refine ⟨fun h0 => ?_, hb, hl⟩
  obtain ⟨A', c', e1, _, hf⟩ := Row.form (.inl hown)
  cases e1
  obtain ⟨g, rfl, hg, hlt, hcell⟩ := hf h0
  refine ⟨g, 0, rfl, hlt, fun k c hk => ?_⟩
  have hkl : k < L.length := (List.getElem?_eq_some_iff.1 hk).1
  obtain ⟨Ab, cb, Ak, ck, hby, hin, h1⟩ := hc.at_ k c hk
  have key : ∀ i u, (cmdCells c (.slice Ab c.bytes.length cb) (.slice Ak c.keep.length ck))[i]? = some u → w.cell? ⟨g, 0 + k * 6 + i, none⟩ = some u := fun i u hu => by
    have hi := cells6 hu
    rw [Nat.zero_add, hcell _ (by omega)]
    exact h1 i u hu
  exact ⟨Ab, cb, Ak, ck, hby, hin, key 0 _ rfl, key 1 _ rfl, key 2 _ rfl, key 3 _ rfl, key 4 _ rfl, key 5 _ rfl⟩

theorem plainB {c : Cmd} (h : CmdB c) : CmdB (plainR c) := by
  have h1 := h.id
  have h2 := h.bytes
  have h3 := h.keep
  have h4 := h.n0
  have h5 := h.n1
  refine ⟨h.word, ?_, ?_, ?_, ?_, ?_, ?_⟩ <;> unfold plainR <;> simp only
  · split
    · exact h1
    · simp
  · split
    · exact h2
    · simp
  · split
    · exact h3
    · simp
  · split <;> omega
  · split <;> omega
  · split
    · exact h.k01
    · simp

theorem plain_bytes {w : World} {c : Cmd} {Ab : Option Addr} (cb : Nat) (h : Byts w Ab c.bytes) : ∃ A n, (if c.kind = 1 then Value.slice Ab c.bytes.length cb else .slice none 0 0) = .slice A (plainR c).bytes.length n ∧ Byts w A (plainR c).bytes := by
  unfold plainR
  simp only
  by_cases hk : c.kind = 1
  · rw [if_pos hk, if_pos hk]
    exact ⟨Ab, cb, rfl, h⟩
  · rw [if_neg hk, if_neg hk]
    exact ⟨none, 0, rfl, fun h => absurd h (by simp), by simp⟩
theorem plain_keep {w : World} {c : Cmd} {Ak : Option Addr} (ck : Nat) (h : Ints w Ak c.keep) : ∃ A n, (if c.kind = 13 ∨ c.kind = 14 then Value.slice Ak c.keep.length ck else .slice none 0 0) = .slice A (plainR c).keep.length n ∧ Ints w A (plainR c).keep := by
  unfold plainR
  simp only
  by_cases hk : c.kind = 13 ∨ c.kind = 14
  · rw [if_pos hk, if_pos hk]
    exact ⟨Ak, ck, rfl, h⟩
  · rw [if_neg hk, if_neg hk]
    exact ⟨none, 0, rfl, by simp, fun h => absurd h (by simp)⟩

/-- The contract of plain, as a row of commands wants it. -/
theorem plain_call (c : Cmd) (Ab : Option Addr) (cb : Nat) (Ak : Option Addr) (ck : Nat) (w : World) (hb : Byts w Ab c.bytes) (hi : Ints w Ak c.keep) :
    ∃ A n B m, Byts w A (plainR c).bytes ∧ Ints w B (plainR c).keep ∧ ∀ W, Calls Tryz.prog 19 #[.agg #[.string ⟨c.word.toArray⟩, .int .i64 c.kind, .string ⟨c.id.toArray⟩, .slice Ab c.bytes.length cb, .int .i64 c.n, .slice Ak c.keep.length ck]] W fun e w' =>
      e = .returned (.agg (cmdCells (plainR c) (.slice A (plainR c).bytes.length n) (.slice B (plainR c).keep.length m))) ∧ Below W.heap.size W w' := by
  obtain ⟨A, n, e1, h1⟩ := plain_bytes cb hb
  obtain ⟨B, m, e2, h2⟩ := plain_keep ck hi
  refine ⟨A, n, B, m, h1, h2, fun W => ?_⟩
  have h := plain19_call c Ab cb Ak ck W
  rw [e1, e2] at h
  exact h

set_option maxRecDepth 100000 in
set_option maxHeartbeats 4000000 in
theorem walk {a0 a1 a3 : Addr} (A : Option Addr) (cap : Nat) (L : List Cmd) (w : World) (h : CmdsR w A L) (hbb : ∀ c ∈ L, ∀ x ∈ c.bytes, 0 ≤ x ∧ x ≤ 255) (_hcap : L.length ≤ cap) (Lw : Laid a0 a1 a3 w) :
    Calls Tryz.prog 6 #[.slice A L.length cap] w fun e w' => e = .returned (.bool true) ∧ Below w.heap.size w w' := by
  obtain ⟨i33, hi33, hz33, hs33, hb33⟩ := info_parts info33
  have HSH := Lib.hid (shown11_call w Lw)
  have HC := Lib.hid h
  have HL := Lib.hid Lw
  have HBB := Lib.hid hbb
  have hlen := h.len
  have HP1 := Lib.hid (fun W (hb : Below w.heap.size w W) => print15_call A cap L W (h.below hb) (Lw.below hb))
  obtain ⟨s, e1, hpe⟩ : ∃ s e, printR L = (s, e) := ⟨_, _, rfl⟩
  rw [hpe] at HP1
  simp only at HP1
  have HPE := Lib.hid hpe
  obtain ⟨ts, hts⟩ : ∃ t : ByteArray, (⟨s.toArray⟩ : ByteArray) = t := ⟨_, rfl⟩
  have htd : ts.data.toList = s := by rw [← hts]
  have HTD := Lib.hid htd
  have HTS := Lib.hid hts
  rw [hts] at HP1
  clear h Lw hbb hpe htd hts
  go_enter Tryz.func6, Tryz.ntmps6
  go_wp2_with fail
  refine HSH.out.mono ?_
  rintro e w1 ⟨rfl, hb1⟩
  have HB1 := Lib.hid hb1
  clear hb1
  go_wp2_with fail
  refine (HP1.out _ HB1.out).mono ?_
  rintro e w2 ⟨rfl, hb2⟩
  have HB2 := Lib.hid (HB1.out.trans (hb2.mono HB1.out.size))
  clear hb2
  by_cases hee : e1 ≠ 0
  · have t1 : (e1 != 0) = true := by rw [bne_iff_ne]; exact hee
    have hs0 : ts = ⟨#[]⟩ := by rw [← HTS.out, (printR_err HPE.out hee).1]
    subst hs0
    clear hee
    go_wp2_with fail
    go_ret
    exact ⟨rfl, HB2.out⟩
  · obtain rfl : e1 = 0 := Decidable.not_not.1 hee
    obtain ⟨pp1, pp2, pp3, _⟩ := parse_print HBB.out HPE.out
    have hs65 : ts.size ≤ 65536 := by rw [size_list, HTD.out]; exact pp2
    have hs65i : (ts.size : Int) ≤ 65536 := by omega
    rw [← HTD.out] at pp1 pp3
    have HP2 := Lib.hid (fun W (hb : Below w.heap.size w W) => (parse12_call ts W (by omega) (HL.out.below hb)).mono fun e w' h => parse_reads h pp1)
    have HLN := Lib.hid (fun W => lines20_call ts W (by omega))
    rw [pp3] at HLN
    have hs2 := HB2.out.size
    clear hee pp1 pp2 pp3
    go_wp2_with fail
    go_loopw [6, 7] (fun v i wq => ∃ (k : Nat) (cs : List Value), i = .int .i64 k ∧ k ≤ L.length ∧ wq.ownsRow w2.heap.size 33 6 v k cs ∧ Hid (PlAt w2 ((L.take k).map plainR) cs) ∧ Below w2.heap.size w2 wq)
      (fun _ i _ => L.length - (intOf i).toNat)
    case atStart => exact ⟨0, [], rfl, Nat.zero_le _, World.ownsRow_made w2 #[] 0 (Nat.le_refl _) (by decide) rfl, Lib.hid (PlAt.nil _), (Below.refl _ _).alloc (Nat.le_refl _) _⟩
    case round =>
      rename World => wk
      obtain ⟨k, cs, rfl, hk, hown, hpl, hbk⟩ := hrel
      by_cases hlt : k < L.length
      · have k0 : (0 : Int) ≤ (k : Int) := Int.natCast_nonneg _
        have k1 : (k : Int) < (L.length : Int) := by omega
        obtain ⟨c, hc⟩ : ∃ c, L[k]? = some c := ⟨_, List.getElem?_eq_getElem hlt⟩
        obtain ⟨b, off, rfl, hbl, hcs⟩ := HC.out.at_ (by omega)
        have hbw : Below w.heap.size w wk := HB2.out.trans (hbk.mono hs2)
        obtain ⟨Ab, cb, Ak, ck, hby, hin, d0, d1, d2, d3, d4, d5⟩ := hcs k c hc
        have c0 := (hbw.cell (p := ⟨b, off + k * 6, none⟩) hbl).trans d0
        have c1 := (hbw.cell (p := ⟨b, off + k * 6 + 1, none⟩) hbl).trans d1
        have c2 := (hbw.cell (p := ⟨b, off + k * 6 + 2, none⟩) hbl).trans d2
        have c3 := (hbw.cell (p := ⟨b, off + k * 6 + 3, none⟩) hbl).trans d3
        have c4 := (hbw.cell (p := ⟨b, off + k * 6 + 4, none⟩) hbl).trans d4
        have c5 := (hbw.cell (p := ⟨b, off + k * 6 + 5, none⟩) hbl).trans d5
        obtain ⟨A', n', B', m', q1, q2, q3⟩ := plain_call c Ab cb Ak ck w2 (hby.below HB2.out) (hin.below HB2.out)
        have HPC := Lib.hid q3
        have HQ := Lib.hid (And.intro q1 q2)
        have HTK := Lib.hid (show (L.take (k + 1)).map plainR = (L.take k).map plainR ++ [plainR c] from by
          rw [List.take_succ_eq_append_getElem hlt, List.map_append, (List.getElem?_eq_some_iff.1 hc).2]
          rfl)
        have HOW := Lib.hid hown
        have HBK := Lib.hid hbk
        obtain ⟨pc, hpc⟩ : ∃ p, plainR c = p := ⟨_, rfl⟩
        rw [hpc] at HPC HQ HTK
        obtain ⟨CC, hCC⟩ : ∃ C, cmdCells pc (.slice A' pc.bytes.length n') (.slice B' pc.keep.length m') = C := ⟨_, rfl⟩
        have hCC2 : CC = #[.string ⟨pc.word.toArray⟩, .int .i64 pc.kind, .string ⟨pc.id.toArray⟩, .slice A' pc.bytes.length n', .int .i64 pc.n, .slice B' pc.keep.length m'] := by rw [← hCC]; rfl
        have HCC := Lib.hid hCC
        have HCC2 := Lib.hid hCC2
        rw [hCC, hCC2] at HPC
        clear d0 d1 d2 d3 d4 d5 hc hcs hby hin q1 q2 q3 hown hbk hbw hpc hCC hCC2
        go_wp2_with fail
        refine (HPC.out _).mono ?_
        rintro e w5 ⟨rfl, hb5⟩
        have HB5 := Lib.hid hb5
        have HBK5 := Lib.hid (HBK.out.trans (hb5.mono HBK.out.size))
        have ho5 := own_keep HOW.out (fun b _ hl => hb5.block b hl)
        have hsz5 : w2.heap.size ≤ w5.heap.size := HBK5.out.size
        have hba : Below w5.heap.size w5 (w5.alloc (.cells #[.string ⟨pc.word.toArray⟩, .int .i64 pc.kind, .string ⟨pc.id.toArray⟩, .slice A' pc.bytes.length n', .int .i64 pc.n, .slice B' pc.keep.length m'] 33)) := (Below.refl _ _).alloc (Nat.le_refl _) _
        have hsr : Src (w5.alloc (.cells #[.string ⟨pc.word.toArray⟩, .int .i64 pc.kind, .string ⟨pc.id.toArray⟩, .slice A' pc.bytes.length n', .int .i64 pc.n, .slice B' pc.keep.length m'] 33)) 6 (some ⟨w5.heap.size, 0, none⟩) 1 [.string ⟨pc.word.toArray⟩, .int .i64 pc.kind, .string ⟨pc.id.toArray⟩, .slice A' pc.bytes.length n', .int .i64 pc.n, .slice B' pc.keep.length m'] :=
          src_blk (us := [.string ⟨pc.word.toArray⟩, .int .i64 pc.kind, .string ⟨pc.id.toArray⟩, .slice A' pc.bytes.length n', .int .i64 pc.n, .slice B' pc.keep.length m']) (heap_alloc_new w5 _) rfl
        have ho6 := ho5.alloc (.cells #[.string ⟨pc.word.toArray⟩, .int .i64 pc.kind, .string ⟨pc.id.toArray⟩, .slice A' pc.bytes.length n', .int .i64 pc.n, .slice B' pc.keep.length m'] 33)
        have hq1 : k + 1 ≤ maxLen := by unfold maxLen; omega
        have hq2 : (k + 1) * 96 ≤ 140737488355328 := by omega
        have hq3 : w2.heap.size ≤ (w5.alloc (.cells #[.string ⟨pc.word.toArray⟩, .int .i64 pc.kind, .string ⟨pc.id.toArray⟩, .slice A' pc.bytes.length n', .int .i64 pc.n, .slice B' pc.keep.length m'] 33)).heap.size := Nat.le_trans hsz5 hba.size
        have HBA := Lib.hid hba
        have HSR := Lib.hid hsr
        have HO6 := Lib.hid ho6
        have one6 : Hid (∀ u ∈ ([.string ⟨pc.word.toArray⟩, .int .i64 pc.kind, .string ⟨pc.id.toArray⟩, .slice A' pc.bytes.length n', .int .i64 pc.n, .slice B' pc.keep.length m'] : List Value), u.oneCell' = true) := by
          intro u hu
          simp at hu
          rcases hu with rfl | rfl | rfl | rfl | rfl | rfl <;> rfl
        clear hb5 ho5 hba hsr ho6
        go_wp2_with (at_builtin; refine wpList_app rfl (.tmp 33) (.tmp 39) 23 rfl w2.heap.size 33 i33 _ 6 96 Tryz.underlying23 hi33 hz33 hs33 hb33 rfl (by decide) u6 k cs rfl HO6.out (some ⟨w5.heap.size, 0, none⟩) 1 1 [.string ⟨pc.word.toArray⟩, .int .i64 pc.kind, .string ⟨pc.id.toArray⟩, .slice A' pc.bytes.length n', .int .i64 pc.n, .slice B' pc.keep.length m'] rfl HSR.out one6.out hq1 hq2 hq3 ?_; intro v7 w7 hown7 hgrow7 hat7; have hb7 : Below w2.heap.size w5 w7 := Below.grown (HBA.out.mono hsz5) hgrow7 hq3 (fun b e => own_blk HO6.out e); have HB7 := Lib.hid hb7; have HO7 := Lib.hid hown7; clear hown7 hgrow7 hat7 hb7)
        refine ⟨⟨k + 1, cs ++ (cmdCells pc (.slice A' pc.bytes.length n') (.slice B' pc.keep.length m')).toList, by go_num, by omega, ?_, Lib.hid ?_, HBK5.out.trans (HB7.out.mono (Nat.le_refl _))⟩, by simp [intOf]; omega⟩
        · rw [HCC.out, HCC2.out]
          exact HO7.out
        · rw [HTK.out]
          exact hpl.out.snoc HQ.out.1 HQ.out.2
      · obtain rfl : k = L.length := by omega
        obtain ⟨A6, k6, rfl⟩ := own_form hown
        rw [List.take_length] at hpl
        have HBW := Lib.hid (HB2.out.trans (hbk.mono hs2))
        have hlm : (L.map plainR).length = L.length := by simp
        have hwant : CmdsR wk A6 (L.map plainR) := own_pl (by rw [hlm]; exact hown) (hpl.out.below hbk) (by rw [hlm]; exact hlen) (fun c hc => by
          obtain ⟨d, hd, rfl⟩ := List.mem_map.1 hc
          exact plainB (HC.out.bd d hd))
        have HW := Lib.hid hwant
        clear hown hpl hbk hwant
        go_wp2_with fail
        refine (HP2.out _ HBW.out).mono ?_
        rintro e w5 ⟨hb5, A5, k5, rfl, hr5⟩
        have HB5 := Lib.hid (HBW.out.trans (hb5.mono HBW.out.size))
        have HSM := Lib.hid (same_call A5 A6 k5 k6 (L.map plainR) w5 hr5 (HW.out.below hb5))
        rw [hlm] at HSM
        rw [hlm]
        clear hb5 hr5
        go_wp2_with fail
        refine HSM.out.mono ?_
        rintro e w6 ⟨rfl, hb6⟩
        have HB6 := Lib.hid (HB5.out.trans (hb6.mono HB5.out.size))
        clear hb6
        go_wp2_with fail
        refine (HLN.out _).mono ?_
        rintro e w7 ⟨rfl, rfl⟩
        go_wp2_with fail
        go_ret
        exact ⟨rfl, HB6.out⟩

theorem laidOut : laidOutB Tryz.prog = true := by kernel_rfl

theorem reads (os : Os) {H : Type} (enc : TypeId × Value → H) : ∃ places, DataW.whole enc Tryz.prog ((LW.laidWorld os #[]).forCall (fun _ _ => 0) ⟨#[], #[.slice none 0 0], []⟩).memory Tryz.f6.params.toList Rows.scriptBackSpec.vars false #[Value.slice none 0 0].toList 8 = some ([.nil], [], places) :=
  ⟨[], by kernel_rfl⟩

set_option maxRecDepth 100000 in
theorem lifted (os : Os) (started : os.Started) (H : Type) (enc : TypeId × Value → H) (F : Stop.Interp) :
    ReturnsInHanded {} Tryz.checked os 6 .any ((Rows.OpenSpec.upto Rows.scriptBackSpec).preRow enc Tryz.prog Tryz.f6 Rows.scriptBackUptoRow.domain false Rows.scriptBackUptoRow.laid) (((Rows.OpenSpec.upto Rows.scriptBackSpec).at F).post enc Tryz.prog Tryz.f6 false true false false) := by
  obtain ⟨places, hx⟩ := reads os enc
  refine returnsInHanded_of_row (C := Tryz.checked) (s := Rows.OpenSpec.upto Rows.scriptBackSpec) LW.own started (by kernel_rfl) Tryz.func6
    (witness_row_atRef (enc := enc) (C := Tryz.checked) false (LW.laidWorld os #[]) #[.slice none 0 0] rfl (by kernel_rfl) (by kernel_rfl) (by kernel_rfl)
      (OpenSpec.preRow_of_cond 8 hx (by kernel_rfl) (fun k hk => by cases hk; kernel_rfl) (by kernel_rfl) (LW.laid_met os _))) ?_
  intro W base args ds gs before hval0 hW _ hcond _ hL _ _
  have hval : ∀ (j : Nat) t v, Tryz.f6.params[j]? = some t → args[j]? = some v → Value.okWide Tryz.prog W .any base t v := hval0
  have hW' := hW
  obtain ⟨p, q, hA0, hV, rfl, hfz, hnd⟩ := hW
  have hA : DataW.TrodAll enc Tryz.prog W 0 (fun _ => true) true Tryz.f6.params.toList args.toList ds p := hA0
  rw [Tryz.params6] at hA hval
  obtain ⟨v0, vs0, d0, ds0, p0, q0, hargs0, rfl, rfl, h0, r0⟩ := trodAll_cons hA
  obtain ⟨rfl, rfl, rfl⟩ := trodAll_nil r0
  obtain rfl : args = #[v0] := by cases args; simp_all
  obtain ⟨rfl, rfl⟩ := trodVars_none hV
  have hk : Rows.uptoBulkAll ([d0] ++ []) ≤ 1048576 := of_decide_eq_true (hcond _ rfl)
  have hk2 : Rows.uptoBulk d0 ≤ 1048576 := by
    have e : Rows.uptoBulkAll ([d0] ++ []) = Rows.uptoBulk d0 := by simp [Rows.uptoBulkAll]
    rwa [e] at hk
  obtain ⟨A, cap, L, rfl, hc, hbb, hcap⟩ := open_cmds (hval 0 23 v0 rfl rfl) h0 hk2
  obtain ⟨a0, a1, a3, LL⟩ := LW.laid_of hL
  clear hA0 hval0
  refine (walk A cap L W hc hbb hcap LL).mono fun e W' ⟨he, hg⟩ => ?_
  subst he
  exact ⟨_, rfl, law_post laidOut Tryz.underlying4 (by kernel_rfl) rfl (by kernel_rfl) hW' rfl hg⟩

theorem said : Rows.ScriptBackUptoSaid :=
  OpenClaim.holds_of_cond 6 Tryz.f6 rfl rfl rfl rfl rfl rfl rfl ⟨rfl, rfl, rfl, rfl, rfl⟩ rfl rfl rfl rfl rfl (by kernel_rfl) Tryz.func6 (by kernel_rfl)
    (of_decide_eq_true (by kernel_rfl)) (by unfold Func.isWrapper; first | (rw [if_pos (by decide +kernel)]; kernel_rfl) | (rw [if_neg (by decide +kernel)]; exact ⟨rfl, rfl⟩))
    (fun os started H enc _ F => by rw [OpenClaim.pre_eq_preRow]; exact lifted os started H enc F)

theorem plain (f : FuncId) (fn : Func) (hf : Tryz.pinned.checked.prog.funcNamed "muniment/munimentlaw22.ScriptBack" = some f) (hfn : Tryz.pinned.checked.prog.funcs[f]? = some fn) :
    true = Tryz.pinned.checked.prog.looks [] ∧ ∀ (j : Nat) t, fn.params[j]? = some t → Tryz.pinned.checked.prog.wantsStandIn t = false := by
  obtain rfl : f = 6 := Option.some.inj ((show Tryz.prog.funcNamed "muniment/munimentlaw22.ScriptBack" = some 6 by kernel_rfl).symm.trans hf) |>.symm
  obtain rfl : fn = Tryz.f6 := (Option.some.inj (Tryz.func6.symm.trans hfn)).symm
  refine ⟨by kernel_rfl, fun j t ht => ?_⟩
  rw [Tryz.params6] at ht
  obtain rfl : t = 23 := by
    have := Array.mem_of_getElem? ht
    simpa using this
  exact (show Tryz.prog.wantsStandIn 23 = false by kernel_rfl)

theorem proved : Rows.ScriptBackUptoCardSaid :=
  Claim7.holds_tied_plain_at .later [] _ _ _ _ said (fun _ h => by cases h) (by kernel_rfl) (fun _ h => by cases h) scriptBackUpto_row_tie rfl ⟨rfl, rfl⟩ (by kernel_rfl) rfl plain (by kernel_rfl)
#print axioms proved
end Go.Proofs.YtlibjfmafpiopaaGreatDoor.scriptBack

