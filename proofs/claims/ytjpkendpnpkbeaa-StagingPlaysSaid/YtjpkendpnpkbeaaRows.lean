/-
  No cell of these rows narrows 'for every input' (looked for: loops, veiled, ifaces, maps, wideKeys, modest, calm, conditions, laid).
  DERIVED. THE GIVEN ROWS OF THIS SEAT. 7 by the template 'for every input the law returns true; each argument reads behind the call as it read before'; 0 by the template 'total and deterministic' (their statements: YtjpkendpnpkbeaaTotals.lean).
  GIVEN WITH THE SEED: the statements are not yours to turn. If you find one false, say at which input.
  Laid BY PROGRAM, IN A SANDBOX (cutbox-rows.mjs): the forced cells as the released guide's own fill.sh prints them over the translation 916306fa9d1e659f… (all of the seat's roots in one cut). By AI agents, Wed Nov 11 2026. No macro, syntax, notation, axiom, sorry.
-/
import Derived.Test.YtjpkendpnpkbeaaChecked
import GoSem.Claim
import GoSem.ClaimJoined
import GoSem.ClaimMapViews
import Derived.JoinedTies
import Derived.KernelRfl
namespace Go.Proofs.Ytjpkendpnpkbeaa
/- THE CELL 'sum', in the pinned program and in every row, IS THE sha256 OF THE DUMP (.gsa) THAT YtjpkendpnpkbeaaProg.lean LOADS. Nothing in Lean hashes anything: it is a label: what it is worth is what the hold of that sum in a sandbox is worth. -/
noncomputable def Try.pinned : Pinned := { name := "ytjpkendpnpkbeaa", sum := "916306fa9d1e659fef25b812eb6d6a9af050924a2e106bcddef4a0f7413ac38f", checked := Try.checked }
namespace Rows
def none {H : Type} : Left H := { results := [], args := [] }

/-- 'munimentlaw13.StagingApart': WHATEVER THE INPUT: true; the input reads as it did. -/
def stagingApartSpec : ChangeSpec := { name := "stagingApart", fn := fun _ => fun
  | [d1, d2] => { results := [.lit (.bool true)], args := [d1, d2] }
  | _ => none }
def stagingApartRow : OpenClaim := { program := "ytjpkendpnpkbeaa", sum := "916306fa9d1e659fef25b812eb6d6a9af050924a2e106bcddef4a0f7413ac38f", func := "muniment/munimentlaw13.StagingApart", spec := "stagingApart", apart := false }
def StagingApartSaid : Prop := stagingApartRow.holds Try.pinned (OpenSpec.ofChange stagingApartSpec)

/-- ITS FALSE NEIGHBOUR: 'it returns false'. Refute it at one input. -/
def stagingApartWrong : ChangeSpec := { name := "stagingApart", fn := fun _ => fun
  | [d1, d2] => { results := [.lit (.bool false)], args := [d1, d2] }
  | _ => none }
def StagingApartWrongFalsely : Prop := stagingApartRow.holds Try.pinned (OpenSpec.ofChange stagingApartWrong)

/-- 'munimentlaw13.StagingPlays': WHATEVER THE INPUT: true; the input reads as it did. -/
def stagingPlaysSpec : ChangeSpec := { name := "stagingPlays", fn := fun _ => fun
  | [d] => { results := [.lit (.bool true)], args := [d] }
  | _ => none }
def stagingPlaysRow : OpenClaim := { program := "ytjpkendpnpkbeaa", sum := "916306fa9d1e659fef25b812eb6d6a9af050924a2e106bcddef4a0f7413ac38f", func := "muniment/munimentlaw13.StagingPlays", spec := "stagingPlays", apart := false }
def StagingPlaysSaid : Prop := stagingPlaysRow.holds Try.pinned (OpenSpec.ofChange stagingPlaysSpec)

/-- ITS FALSE NEIGHBOUR: 'it returns false'. Refute it at one input. -/
def stagingPlaysWrong : ChangeSpec := { name := "stagingPlays", fn := fun _ => fun
  | [d] => { results := [.lit (.bool false)], args := [d] }
  | _ => none }
def StagingPlaysWrongFalsely : Prop := stagingPlaysRow.holds Try.pinned (OpenSpec.ofChange stagingPlaysWrong)

/-- 'munimentlaw13.StagingNumbers': WHATEVER THE INPUT: true; the input reads as it did. -/
def stagingNumbersSpec : ChangeSpec := { name := "stagingNumbers", fn := fun _ => fun
  | [d] => { results := [.lit (.bool true)], args := [d] }
  | _ => none }
def stagingNumbersRow : OpenClaim := { program := "ytjpkendpnpkbeaa", sum := "916306fa9d1e659fef25b812eb6d6a9af050924a2e106bcddef4a0f7413ac38f", func := "muniment/munimentlaw13.StagingNumbers", spec := "stagingNumbers", apart := false }
def StagingNumbersSaid : Prop := stagingNumbersRow.holds Try.pinned (OpenSpec.ofChange stagingNumbersSpec)

/-- ITS FALSE NEIGHBOUR: 'it returns false'. Refute it at one input. -/
def stagingNumbersWrong : ChangeSpec := { name := "stagingNumbers", fn := fun _ => fun
  | [d] => { results := [.lit (.bool false)], args := [d] }
  | _ => none }
def StagingNumbersWrongFalsely : Prop := stagingNumbersRow.holds Try.pinned (OpenSpec.ofChange stagingNumbersWrong)

/-- 'munimentlaw20.QuotaMays': WHATEVER THE INPUT: true; the input reads as it did. -/
def quotaMaysSpec : ChangeSpec := { name := "quotaMays", fn := fun _ => fun
  | [d1, d2] => { results := [.lit (.bool true)], args := [d1, d2] }
  | _ => none }
def quotaMaysRow : OpenClaim := { program := "ytjpkendpnpkbeaa", sum := "916306fa9d1e659fef25b812eb6d6a9af050924a2e106bcddef4a0f7413ac38f", func := "muniment/munimentlaw20.QuotaMays", spec := "quotaMays", apart := false }
def QuotaMaysSaid : Prop := quotaMaysRow.holds Try.pinned (OpenSpec.ofChange quotaMaysSpec)

/-- ITS FALSE NEIGHBOUR: 'it returns false'. Refute it at one input. -/
def quotaMaysWrong : ChangeSpec := { name := "quotaMays", fn := fun _ => fun
  | [d1, d2] => { results := [.lit (.bool false)], args := [d1, d2] }
  | _ => none }
def QuotaMaysWrongFalsely : Prop := quotaMaysRow.holds Try.pinned (OpenSpec.ofChange quotaMaysWrong)

/-- 'munimentlaw20.QuotaCosts': WHATEVER THE INPUT: true; the input reads as it did. -/
def quotaCostsSpec : ChangeSpec := { name := "quotaCosts", fn := fun _ => fun
  | [d] => { results := [.lit (.bool true)], args := [d] }
  | _ => none }
def quotaCostsRow : OpenClaim := { program := "ytjpkendpnpkbeaa", sum := "916306fa9d1e659fef25b812eb6d6a9af050924a2e106bcddef4a0f7413ac38f", func := "muniment/munimentlaw20.QuotaCosts", spec := "quotaCosts", apart := false }
def QuotaCostsSaid : Prop := quotaCostsRow.holds Try.pinned (OpenSpec.ofChange quotaCostsSpec)

/-- ITS FALSE NEIGHBOUR: 'it returns false'. Refute it at one input. -/
def quotaCostsWrong : ChangeSpec := { name := "quotaCosts", fn := fun _ => fun
  | [d] => { results := [.lit (.bool false)], args := [d] }
  | _ => none }
def QuotaCostsWrongFalsely : Prop := quotaCostsRow.holds Try.pinned (OpenSpec.ofChange quotaCostsWrong)

/-- 'munimentlaw20.QuotaMore': WHATEVER THE INPUT: true; the input reads as it did. -/
def quotaMoreSpec : ChangeSpec := { name := "quotaMore", fn := fun _ => fun
  | [d1, d2, d3, d4] => { results := [.lit (.bool true)], args := [d1, d2, d3, d4] }
  | _ => none }
def quotaMoreRow : OpenClaim := { program := "ytjpkendpnpkbeaa", sum := "916306fa9d1e659fef25b812eb6d6a9af050924a2e106bcddef4a0f7413ac38f", func := "muniment/munimentlaw20.QuotaMore", spec := "quotaMore", apart := false }
def QuotaMoreSaid : Prop := quotaMoreRow.holds Try.pinned (OpenSpec.ofChange quotaMoreSpec)

/-- ITS FALSE NEIGHBOUR: 'it returns false'. Refute it at one input. -/
def quotaMoreWrong : ChangeSpec := { name := "quotaMore", fn := fun _ => fun
  | [d1, d2, d3, d4] => { results := [.lit (.bool false)], args := [d1, d2, d3, d4] }
  | _ => none }
def QuotaMoreWrongFalsely : Prop := quotaMoreRow.holds Try.pinned (OpenSpec.ofChange quotaMoreWrong)

/-- 'munimentlaw20.QuotaKeys': WHATEVER THE INPUT: true; the input reads as it did. -/
def quotaKeysSpec : ChangeSpec := { name := "quotaKeys", fn := fun _ => fun
  | [d1, d2] => { results := [.lit (.bool true)], args := [d1, d2] }
  | _ => none }
def quotaKeysRow : OpenClaim := { program := "ytjpkendpnpkbeaa", sum := "916306fa9d1e659fef25b812eb6d6a9af050924a2e106bcddef4a0f7413ac38f", func := "muniment/munimentlaw20.QuotaKeys", spec := "quotaKeys", apart := false }
def QuotaKeysSaid : Prop := quotaKeysRow.holds Try.pinned (OpenSpec.ofChange quotaKeysSpec)

/-- ITS FALSE NEIGHBOUR: 'it returns false'. Refute it at one input. -/
def quotaKeysWrong : ChangeSpec := { name := "quotaKeys", fn := fun _ => fun
  | [d1, d2] => { results := [.lit (.bool false)], args := [d1, d2] }
  | _ => none }
def QuotaKeysWrongFalsely : Prop := quotaKeysRow.holds Try.pinned (OpenSpec.ofChange quotaKeysWrong)

/- THE SECOND FORM. 'bulk': how many values and letters a reading holds, each counted each time it is reached (what is shared counts as often as it is met; a slice's spare places count too). A statement '..UptoSaid' is the law's where the arguments, and the package variables that the reading takes, are together of bulk at most 1048576: NARROWER than '..Said'. Prove '..Said' where nothing that the law and all that it calls make is longer than what came in: it says more and counts as full. Else prove '..UptoSaid'. A law counts once. -/
mutual
def uptoBulk {H : Type} : DataW H → Nat
  | .lit (.string bytes) => bytes.length + 1
  | .lit _ => 1
  | .nil => 1
  | .ptr d => uptoBulk d + 1
  | .slice elems spare => uptoBulkAll elems + uptoBulkAll spare + 1
  | .agg parts => uptoBulkAll parts + 1
  | .iface _ d => uptoBulk d + 1
  | .map entries => uptoBulkEntries entries + 1
  | .held _ => 1
def uptoBulkAll {H : Type} : List (DataW H) → Nat
  | [] => 0
  | d :: r => uptoBulk d + uptoBulkAll r
def uptoBulkEntries {H : Type} : List (Lit × DataW H) → Nat
  | [] => 0
  | x :: r => uptoBulkEntry x + uptoBulkEntries r
def uptoBulkEntry {H : Type} : Lit × DataW H → Nat
  | (.string bytes, d) => bytes.length + uptoBulk d + 1
  | (_, d) => uptoBulk d + 1
 end
def uptoSmall : (H : Type) → List (DataW H) → Bool := fun _ ds => decide (uptoBulkAll ds ≤ 1048576)
def OpenSpec.upto (s : _root_.Go.ChangeSpec) : _root_.Go.OpenSpec := { _root_.Go.OpenSpec.ofChange s with cond := some uptoSmall }

/-- 'munimentlaw13.StagingApart', WHERE WHAT IT READS IS OF BULK AT MOST 1048576: true; the input reads as it did. -/
def stagingApartUptoRow : OpenClaim := { program := "ytjpkendpnpkbeaa", sum := "916306fa9d1e659fef25b812eb6d6a9af050924a2e106bcddef4a0f7413ac38f", func := "muniment/munimentlaw13.StagingApart", spec := "stagingApart", apart := false, narrowed := true }
def StagingApartUptoSaid : Prop := stagingApartUptoRow.holds Try.pinned (OpenSpec.upto stagingApartSpec)

/-- 'munimentlaw13.StagingPlays', WHERE WHAT IT READS IS OF BULK AT MOST 1048576: true; the input reads as it did. -/
def stagingPlaysUptoRow : OpenClaim := { program := "ytjpkendpnpkbeaa", sum := "916306fa9d1e659fef25b812eb6d6a9af050924a2e106bcddef4a0f7413ac38f", func := "muniment/munimentlaw13.StagingPlays", spec := "stagingPlays", apart := false, narrowed := true }
def StagingPlaysUptoSaid : Prop := stagingPlaysUptoRow.holds Try.pinned (OpenSpec.upto stagingPlaysSpec)

/-- 'munimentlaw13.StagingNumbers', WHERE WHAT IT READS IS OF BULK AT MOST 1048576: true; the input reads as it did. -/
def stagingNumbersUptoRow : OpenClaim := { program := "ytjpkendpnpkbeaa", sum := "916306fa9d1e659fef25b812eb6d6a9af050924a2e106bcddef4a0f7413ac38f", func := "muniment/munimentlaw13.StagingNumbers", spec := "stagingNumbers", apart := false, narrowed := true }
def StagingNumbersUptoSaid : Prop := stagingNumbersUptoRow.holds Try.pinned (OpenSpec.upto stagingNumbersSpec)

/-- 'munimentlaw20.QuotaMays', WHERE WHAT IT READS IS OF BULK AT MOST 1048576: true; the input reads as it did. -/
def quotaMaysUptoRow : OpenClaim := { program := "ytjpkendpnpkbeaa", sum := "916306fa9d1e659fef25b812eb6d6a9af050924a2e106bcddef4a0f7413ac38f", func := "muniment/munimentlaw20.QuotaMays", spec := "quotaMays", apart := false, narrowed := true }
def QuotaMaysUptoSaid : Prop := quotaMaysUptoRow.holds Try.pinned (OpenSpec.upto quotaMaysSpec)

/-- 'munimentlaw20.QuotaCosts', WHERE WHAT IT READS IS OF BULK AT MOST 1048576: true; the input reads as it did. -/
def quotaCostsUptoRow : OpenClaim := { program := "ytjpkendpnpkbeaa", sum := "916306fa9d1e659fef25b812eb6d6a9af050924a2e106bcddef4a0f7413ac38f", func := "muniment/munimentlaw20.QuotaCosts", spec := "quotaCosts", apart := false, narrowed := true }
def QuotaCostsUptoSaid : Prop := quotaCostsUptoRow.holds Try.pinned (OpenSpec.upto quotaCostsSpec)

/-- 'munimentlaw20.QuotaMore', WHERE WHAT IT READS IS OF BULK AT MOST 1048576: true; the input reads as it did. -/
def quotaMoreUptoRow : OpenClaim := { program := "ytjpkendpnpkbeaa", sum := "916306fa9d1e659fef25b812eb6d6a9af050924a2e106bcddef4a0f7413ac38f", func := "muniment/munimentlaw20.QuotaMore", spec := "quotaMore", apart := false, narrowed := true }
def QuotaMoreUptoSaid : Prop := quotaMoreUptoRow.holds Try.pinned (OpenSpec.upto quotaMoreSpec)

/-- 'munimentlaw20.QuotaKeys', WHERE WHAT IT READS IS OF BULK AT MOST 1048576: true; the input reads as it did. -/
def quotaKeysUptoRow : OpenClaim := { program := "ytjpkendpnpkbeaa", sum := "916306fa9d1e659fef25b812eb6d6a9af050924a2e106bcddef4a0f7413ac38f", func := "muniment/munimentlaw20.QuotaKeys", spec := "quotaKeys", apart := false, narrowed := true }
def QuotaKeysUptoSaid : Prop := quotaKeysUptoRow.holds Try.pinned (OpenSpec.upto quotaKeysSpec)

end Rows
end Go.Proofs.Ytjpkendpnpkbeaa
