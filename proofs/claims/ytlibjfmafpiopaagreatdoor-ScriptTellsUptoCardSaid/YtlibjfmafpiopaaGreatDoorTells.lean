/- Proved: munimentlaw22.ScriptTells returns true for all operations and answers of bulk at most 1048576, and leaves its arguments as they were. Conditions: those of the given second row (the bound; what the listed package variables hold when the call begins; the card ties that to the program's text). -/
import Derived.Test.YtlibjfmafpiopaaGreatDoorOpenA
import Derived.Test.YtlibjfmafpiopaaGreatDoorRefT
namespace Go.Proofs.YtlibjfmafpiopaaGreatDoor.scriptTells
open Go.RowKit Go.Shelf Scr Go.ChangeShapes Go.WideShapes Go.ChangeAt

theorem ansBelow {w w' : World} {a : Ans} {vb vi vp : Value} (h : AnsAt w a vb vi vp) (hb : Below w.heap.size w w') : AnsAt w' a vb vi vp := by
  refine { h with bytes := ?_, ids := ?_, proof := ?_ }
  · obtain ⟨A, c, e, h1, h2⟩ := h.bytes
    exact ⟨A, c, e, h1.below hb, h2⟩
  · obtain ⟨A, c, e, h1, h2, h3⟩ := h.ids
    refine ⟨A, c, e, h1, h2, fun h0 => ?_⟩
    obtain ⟨b, off, e2, hl, hc⟩ := h3 h0
    exact ⟨b, off, e2, Nat.lt_of_lt_of_le hl hb.size, fun j l hj => (hb.cell (p := ⟨b, off + j, none⟩) hl).trans (hc j l hj)⟩
  · obtain ⟨A, c, e, h1, h2, h3⟩ := h.proof
    refine ⟨A, c, e, h1, h2, fun h0 => ?_⟩
    obtain ⟨b, off, e2, hl, hc⟩ := h3 h0
    exact ⟨b, off, e2, Nat.lt_of_lt_of_le hl hb.size, fun j l hj i x hi => (hb.cell (p := ⟨b, off + j * 32 + i, none⟩) hl).trans (hc j l hj i x hi)⟩

theorem ansLen {a : Ans} {vb vi vp : Value} (h1 : a.root.length = 32) (h2 : a.hroot.length = 32) : (ansCells a vb vi vp).length = 75 := by simp [ansCells, h1, h2]

theorem ansOne {w : World} {a : Ans} {vb vi vp : Value} (h : AnsAt w a vb vi vp) : ∀ v ∈ ansCells a vb vi vp, v.oneCell' = true := by
  obtain ⟨_, _, rfl, _⟩ := h.bytes
  obtain ⟨_, _, rfl, _⟩ := h.ids
  obtain ⟨_, _, rfl, _⟩ := h.proof
  intro v hv
  simp only [ansCells, List.mem_append, List.mem_cons, List.mem_map, List.not_mem_nil, or_false] at hv
  rcases hv with ((((rfl | rfl | rfl) | ⟨x, _, rfl⟩) | (rfl | rfl | rfl | rfl | rfl | rfl)) | ⟨x, _, rfl⟩) | (rfl | rfl) <;> rfl

set_option maxRecDepth 100000 in
set_option maxHeartbeats 4000000 in
theorem walk {a0 a1 a3 : Addr} (ops : List Value) (k : Int) (a : Ans) (vb vi vp : Value) (w : World) (ho : ops.length = 5) (hk : ops[0]? = some (.int .i64 k)) (_hone : ∀ v ∈ ops, v.oneCell' = true) (ha : AnsAt w a vb vi vp) (Lw : Laid a0 a1 a3 w) :
    Calls Tryz.prog 5 #[.agg ops.toArray, .agg (ansCells a vb vi vp).toArray] w fun e w' => e = .returned (.bool true) ∧ Below w.heap.size w w' := by
  have HL := Lib.hid Lw
  have HA := Lib.hid ha
  have HT1 := Lib.hid (fun W (hb : Below w.heap.size w W) => tell17_call ops.toArray k a vb vi vp W (by simpa using ho) (by simpa using hk) (ansBelow ha hb) (Lw.below hb))
  have HT2 := Lib.hid (fun W (hb : Below w.heap.size w W) => tell18_call ops.toArray k a vb vi vp W (by simpa using ho) (by simpa using hk) (ansBelow ha hb) (Lw.below hb))
  obtain ⟨ts, hts⟩ : ∃ t : ByteArray, (⟨(tellR k a).toArray⟩ : ByteArray) = t := ⟨_, rfl⟩
  rw [hts] at HT1 HT2
  have t3 : (ts == ts) = true := by have := bs_ne ts; unfold bne at this; simpa using this
  have hl47 := ansLen (vb := vb) (vi := vi) (vp := vp) ha.root ha.hroot
  have h1c47 := ansOne ha
  clear hts Lw ha hk
  generalize hAC : ansCells a vb vi vp = ac at hl47 h1c47 HT1 HT2
  clear hAC
  go_enter Tryz.func5, Tryz.ntmps5
  go_upto_region 1 with fail
  have hb1 : Below w.heap.size w ((w.alloc (.cells ops.toArray 31)).alloc (.cells ac.toArray 47)) := ((Below.refl _ w).alloc (Nat.le_refl _) _).alloc (by simp) _
  have hB := heap_alloc_new (w.alloc (.cells ops.toArray 31)) (.cells ac.toArray 47)
  have hP := (Below.heap_alloc (w.alloc (.cells ops.toArray 31)) (.cells ac.toArray 47) w.heap.size (by simp)).trans (heap_alloc_new w (.cells ops.toArray 31))
  have hz1' : ((w.alloc (.cells ops.toArray 31)).alloc (.cells ac.toArray 47)).heap.size = w.heap.size + 1 + 1 := by simp
  rw [World.size_alloc] at hB
  obtain ⟨w1, hw1⟩ : ∃ w1, (w.alloc (.cells ops.toArray 31)).alloc (.cells ac.toArray 47) = w1 := ⟨_, rfl⟩
  rw [hw1] at hb1 hB hP hz1' ⊢
  clear hw1
  have hR1 : ∀ W, Below w1.heap.size w1 W → W.rangeAt w.heap.size 0 ops := fun W hb i v hv => by
    rw [Nat.zero_add, hb.cell (p := ⟨w.heap.size, i, none⟩) (by rw [hz1']; exact Nat.lt_succ_of_lt (Nat.lt_succ_self _)), cell_of_row _ _ i _ _ _ hP, List.getElem?_toArray]
    exact hv
  have hR2 : ∀ W, Below w1.heap.size w1 W → W.rangeAt (w.heap.size + 1) 0 ac := fun W hb i v hv => by
    rw [Nat.zero_add, hb.cell (p := ⟨w.heap.size + 1, i, none⟩) (by rw [hz1']; exact Nat.lt_succ_self _), cell_of_row _ _ i _ _ _ hB, List.getElem?_toArray]
    exact hv
  have HR1 := Lib.hid hR1
  have HR2 := Lib.hid hR2
  have HB1 := Lib.hid hb1
  have HSH := Lib.hid (shown11_call w1 (HL.out.below hb1))
  clear hb1 hB hP hz1' hR1 hR2
  go_wp2_with fail
  refine HSH.out.mono ?_
  rintro e w2 ⟨rfl, hb2⟩
  have HB2 := Lib.hid hb2
  clear hb2
  have HT1' := Lib.hid (fun W (hb : Below w2.heap.size w2 W) => HT1.out W (HB1.out.trans ((HB2.out.trans (hb.mono HB2.out.size)).mono HB1.out.size)))
  have HT2' := Lib.hid (fun W (hb : Below w2.heap.size w2 W) => HT2.out W (HB1.out.trans ((HB2.out.trans (hb.mono HB2.out.size)).mono HB1.out.size)))
  have hu31 := Tryz.underlying31
  have hu47 := Tryz.underlying47
  have hi31 : (Tryz.prog.info? 31).map (·.size) = some ops.length := by rw [ho]; kernel_rfl
  have hi47 : (Tryz.prog.info? 47).map (·.size) = some ac.length := by rw [hl47]; kernel_rfl
  have CLO := Lib.hid (show ∀ W, Below w2.heap.size w2 W → Below w2.heap.size w2 W ∧ W.rangeAt w.heap.size 0 ops ∧ W.rangeAt (w.heap.size + 1) 0 ac from fun W hb => ⟨hb, HR1.out W (HB2.out.trans (hb.mono HB2.out.size)), HR2.out W (HB2.out.trans (hb.mono HB2.out.size))⟩)
  have hstart := CLO.out w2 (Below.refl _ _)
  go_upto_region 4 with fail
  refine wp_region_held_drew (S := fun w' => Below w2.heap.size w2 w' ∧ w'.rangeAt w.heap.size 0 ops ∧ w'.rangeAt (w.heap.size + 1) 0 ac) (by kernel_rfl) (CLO.out _ (Below.refl _ _).drew) (fun hHeld => ?_)
  refine wpAnyH_take (i := 0) (v := .agg ops.toArray) rfl (by kernel_rfl) (by kernel_rfl) (by kernel_rfl) (fun _ _ _ h => h) (yieldsIf_load_mid (by rfl) 31 (.tmp 2) rfl w.heap.size 0 rfl ops _ (fun _ h => h.2.1) hu31 rfl hi31) (by assumption) ?_
  try simp only [Act.put, List.setIfInBounds_toArray]
  refine wpAnyH_take (i := 1) (v := .agg ac.toArray) rfl (by kernel_rfl) (by kernel_rfl) (by kernel_rfl) (fun _ _ _ h => h) (yieldsIf_load_mid (by rfl) 47 (.tmp 3) rfl (w.heap.size + 1) 0 rfl ac _ (fun _ h => h.2.2) hu47 rfl hi47) (by assumption) ?_
  try simp only [Act.put]
  refine wpAnyH_take (i := 3) (v := .agg ops.toArray) rfl (by kernel_rfl) (by kernel_rfl) (by kernel_rfl) (fun _ _ _ h => h) (yieldsIf_load_mid (by rfl) 31 (.tmp 2) rfl w.heap.size 0 rfl ops _ (fun _ h => h.2.1) hu31 rfl hi31) (by assumption) ?_
  try simp only [Act.put]
  refine wpAnyH_take (i := 4) (v := .agg ac.toArray) rfl (by kernel_rfl) (by kernel_rfl) (by kernel_rfl) (fun _ _ _ h => h) (yieldsIf_load_mid (by rfl) 47 (.tmp 3) rfl (w.heap.size + 1) 0 rfl ac _ (fun _ h => h.2.2) hu47 rfl hi47) (by assumption) ?_
  try simp only [Act.put]
  refine wpAnyH_ready (rs := [2]) (by kernel_rfl) (by simp) ?_
  refine AllReadyH.cons rfl (fun K hK => ?_) AllReadyH.nil
  go_simp
  go_at_call 17
  refine (HT1'.out _ hHeld.1).mono ?_
  rintro e wn ⟨rfl, hbn⟩
  have hbs1 : Below w2.heap.size w2 wn := hHeld.1.trans (hbn.mono hHeld.1.size)
  refine hK.out _ _ (CLO.out _ hbs1) (fun hHeld2 => ?_)
  clear hK K hHeld hbn
  try simp only [Act.put, List.setIfInBounds_toArray, List.set_cons_zero, List.set_cons_succ]
  refine wpAnyH_ready (rs := [5]) (by kernel_rfl) (by simp) ?_
  refine AllReadyH.cons rfl (fun K hK => ?_) AllReadyH.nil
  go_simp
  go_at_call 18
  refine (HT2'.out _ hHeld2.1).mono ?_
  rintro e wm ⟨rfl, hbm⟩
  have hbs2 : Below w2.heap.size w2 wm := hHeld2.1.trans (hbm.mono hHeld2.1.size)
  refine hK.out _ _ (CLO.out _ hbs2) (fun hHeld3 => ?_)
  clear hK K hHeld2 hbm
  try simp only [Act.put, List.setIfInBounds_toArray, List.set_cons_zero, List.set_cons_succ]
  refine wpAnyH_take (i := 6) (oi := { dst := some 15, op := .binOp .eql 9 (.tmp 11) (.tmp 14) 9, type := 4, pos := "law.go:115", after := #[{ on := 2, ground := .data }, { on := 5, ground := .data }], guard := none }) (v := .bool true) rfl (by kernel_rfl) (by kernel_rfl) (by kernel_rfl) (fun _ _ _ h => h) (Or.inl ⟨by rfl, fun W _ => by go_simp⟩) (by assumption) ?_
  try simp only [Act.put, List.setIfInBounds_toArray, List.set_cons_zero, List.set_cons_succ]
  refine wpAnyH_take (i := 7) (oi := { dst := some 4, op := .assign (.tmp 15), type := 4, pos := "law.go:115", after := #[{ on := 6, ground := .data }, { on := 5, ground := .chain }, { on := 0, ground := .phase }, { on := 1, ground := .phase }, { on := 2, ground := .phase }, { on := 3, ground := .phase }, { on := 4, ground := .phase }, { on := 5, ground := .phase }, { on := 6, ground := .phase }], guard := none }) (v := .bool true) rfl (by kernel_rfl) (by kernel_rfl) (by kernel_rfl) (fun _ _ _ h => h) (Or.inl ⟨by rfl, fun W _ => by go_simp⟩) (by assumption) ?_
  try simp only [Act.put, List.setIfInBounds_toArray, List.set_cons_zero, List.set_cons_succ]
  refine wpAnyH_done (by kernel_rfl) ?_ _
  have HZ := Lib.hid (HB1.out.trans ((HB2.out.trans (hbs2.mono HB2.out.size)).mono HB1.out.size))
  clear hbs1 hbs2 hHeld3 hstart
  go_wp2_with fail
  go_ret
  exact ⟨rfl, HZ.out⟩

theorem laidOut : laidOutB Tryz.prog = true := by kernel_rfl

def zOp : Array Value := #[.int .i64 0, .string ByteArray.empty, .slice none 0 0, .int .i64 0, .slice none 0 0]
def zAns : Array Value := (ansCells ans0 (.slice none 0 0) (.slice none 0 0) (.slice none 0 0)).toArray
def zHash {H : Type} : DataW H := .agg (List.replicate 32 (.lit (.int .u8 0)))

theorem reads (os : Os) {H : Type} (enc : TypeId × Value → H) : ∃ places, DataW.whole enc Tryz.prog ((LW.laidWorld os #[]).forCall (fun _ _ => 0) ⟨#[], #[.agg zOp, .agg zAns], []⟩).memory Tryz.f5.params.toList Rows.scriptTellsSpec.vars false #[Value.agg zOp, Value.agg zAns].toList 8 =
    some ([.agg [.lit (.int .i64 0), .lit (.string []), .nil, .lit (.int .i64 0), .nil], .agg [.lit (.int .i64 0), .nil, .agg [.lit (.int .i64 0), zHash, .lit (.int .i64 0), .lit (.int .i64 0), .lit (.bool false), .lit (.bool false)], .nil, .agg [.lit (.int .i64 0), zHash], .lit (.int .i64 0), .nil]], [], places) :=
  ⟨[], by kernel_rfl⟩

set_option maxRecDepth 100000 in
theorem lifted (os : Os) (started : os.Started) (H : Type) (enc : TypeId × Value → H) (F : Stop.Interp) :
    ReturnsInHanded {} Tryz.checked os 5 .any ((Rows.OpenSpec.upto Rows.scriptTellsSpec).preRow enc Tryz.prog Tryz.f5 Rows.scriptTellsUptoRow.domain false Rows.scriptTellsUptoRow.laid) (((Rows.OpenSpec.upto Rows.scriptTellsSpec).at F).post enc Tryz.prog Tryz.f5 false true false false) := by
  obtain ⟨places, hx⟩ := reads os enc
  refine returnsInHanded_of_row (C := Tryz.checked) (s := Rows.OpenSpec.upto Rows.scriptTellsSpec) LW.own started (by kernel_rfl) Tryz.func5
    (witness_row_atRef (enc := enc) (C := Tryz.checked) false (LW.laidWorld os #[]) #[.agg zOp, .agg zAns] rfl (by kernel_rfl) (by kernel_rfl) (by kernel_rfl)
      (OpenSpec.preRow_of_cond 8 hx (by kernel_rfl) (fun k hk => by cases hk; kernel_rfl) (by kernel_rfl) (LW.laid_met os _))) ?_
  intro W base args ds gs before hval0 hW _ hcond _ hL _ _
  have hval : ∀ (j : Nat) t v, Tryz.f5.params[j]? = some t → args[j]? = some v → Value.okWide Tryz.prog W .any base t v := hval0
  have hW' := hW
  obtain ⟨p, q, hA0, hV, rfl, hfz, hnd⟩ := hW
  have hA : DataW.TrodAll enc Tryz.prog W 0 (fun _ => true) true Tryz.f5.params.toList args.toList ds p := hA0
  rw [Tryz.params5] at hA hval
  obtain ⟨v0, vs0, d0, ds0, p0, q0, hargs0, rfl, rfl, h0, r0⟩ := trodAll_cons hA
  obtain ⟨v1, vs1, d1, ds1, p1, q1, hargs1, rfl, rfl, h1, r1⟩ := trodAll_cons r0
  obtain ⟨rfl, rfl, rfl⟩ := trodAll_nil r1
  obtain rfl : args = #[v0, v1] := by cases args; simp_all
  obtain ⟨rfl, rfl⟩ := trodVars_none hV
  have hk : Rows.uptoBulkAll ([d0, d1] ++ []) ≤ 1048576 := of_decide_eq_true (hcond _ rfl)
  have hk2 : Rows.uptoBulk d1 ≤ 1048576 := by
    have e : Rows.uptoBulkAll ([d0, d1] ++ []) = Rows.uptoBulk d0 + Rows.uptoBulk d1 := by simp [Rows.uptoBulkAll]
    omega
  obtain ⟨cs0, rfl, _⟩ := okWide_struct Tryz.underlying31 (hval 0 31 v0 rfl rfl)
  obtain ⟨cs1, rfl, _⟩ := okWide_struct Tryz.underlying47 (hval 1 47 v1 rfl rfl)
  obtain ⟨fu0, hf0⟩ := h0
  obtain ⟨fu1, hf1⟩ := h1
  obtain ⟨k, id, Ab, cb, bs, m, Ak, ck, ks, e0, _⟩ := open_op hf0
  obtain ⟨an, vb, vi, vp, e1, han⟩ := open_ans hf1 hk2
  have g0 : cs0 = (cs0.toList).toArray := by simp
  have g1 : cs1 = (ansCells an vb vi vp).toArray := by
    apply Array.toList_inj.1
    rw [← e1]
    rfl
  have e0' : cs0.toList = [.int .i64 k, .string ⟨(id : Bs).toArray⟩, .slice Ab (bs : List Int).length cb, .int .i64 m, .slice Ak (ks : List Int).length ck] := e0
  obtain ⟨a0, a1, a3, LL⟩ := LW.laid_of hL
  clear hA0 hval0
  have hwk := walk cs0.toList k an vb vi vp W (by rw [e0']; rfl) (by rw [e0']; rfl) (by rw [e0']; intro v hv; simp at hv; rcases hv with rfl | rfl | rfl | rfl | rfl <;> rfl) han LL
  rw [← g0, ← g1] at hwk
  refine hwk.mono fun e W' ⟨he, hg⟩ => ?_
  subst he
  exact ⟨_, rfl, law_post laidOut Tryz.underlying4 (by kernel_rfl) rfl (by kernel_rfl) hW' rfl hg⟩

theorem said : Rows.ScriptTellsUptoSaid :=
  OpenClaim.holds_of_cond 5 Tryz.f5 rfl rfl rfl rfl rfl rfl rfl ⟨rfl, rfl, rfl, rfl, rfl⟩ rfl rfl rfl rfl rfl (by kernel_rfl) Tryz.func5 (by kernel_rfl)
    (of_decide_eq_true (by kernel_rfl)) (by unfold Func.isWrapper; first | (rw [if_pos (by decide +kernel)]; kernel_rfl) | (rw [if_neg (by decide +kernel)]; exact ⟨rfl, rfl⟩))
    (fun os started H enc _ F => by rw [OpenClaim.pre_eq_preRow]; exact lifted os started H enc F)

theorem plain (f : FuncId) (fn : Func) (hf : Tryz.pinned.checked.prog.funcNamed "muniment/munimentlaw22.ScriptTells" = some f) (hfn : Tryz.pinned.checked.prog.funcs[f]? = some fn) :
    true = Tryz.pinned.checked.prog.looks [] ∧ ∀ (j : Nat) t, fn.params[j]? = some t → Tryz.pinned.checked.prog.wantsStandIn t = false := by
  obtain rfl : f = 5 := Option.some.inj ((show Tryz.prog.funcNamed "muniment/munimentlaw22.ScriptTells" = some 5 by kernel_rfl).symm.trans hf) |>.symm
  obtain rfl : fn = Tryz.f5 := (Option.some.inj (Tryz.func5.symm.trans hfn)).symm
  refine ⟨by kernel_rfl, fun j t ht => ?_⟩
  rw [Tryz.params5] at ht
  have h2 : t = 31 ∨ t = 47 := by
    have := Array.mem_of_getElem? ht
    simpa using this
  rcases h2 with rfl | rfl
  · exact (show Tryz.prog.wantsStandIn 31 = false by kernel_rfl)
  · exact (show Tryz.prog.wantsStandIn 47 = false by kernel_rfl)

theorem proved : Rows.ScriptTellsUptoCardSaid :=
  Claim7.holds_tied_plain_at .later [] _ _ _ _ said (fun _ h => by cases h) (by kernel_rfl) (fun _ h => by cases h) scriptTellsUpto_row_tie rfl ⟨rfl, rfl⟩ (by kernel_rfl) rfl plain (by kernel_rfl)
#print axioms proved
end Go.Proofs.YtlibjfmafpiopaaGreatDoor.scriptTells
