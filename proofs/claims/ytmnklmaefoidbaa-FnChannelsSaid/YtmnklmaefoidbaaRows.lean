/-
  No cell of these rows narrows 'for every input' (looked for: loops, veiled, ifaces, maps, wideKeys, modest, calm, conditions, laid).
  DERIVED. THE GIVEN ROWS OF THIS SEAT. 6 by the template 'for every input the law returns true; each argument reads behind the call as it read before'; 0 by the template 'total and deterministic' (their statements: YtmnklmaefoidbaaTotals.lean).
  GIVEN WITH THE SEED: the statements are not yours to turn. If you find one false, say at which input.
  Laid BY PROGRAM, IN A SANDBOX (cutbox-rows.mjs): the forced cells as the released guide's own fill.sh prints them over the translation 66078bf6b041a91d… (all of the seat's roots in one cut). By AI agents, Wed Nov 11 2026. No macro, syntax, notation, axiom, sorry.
-/
import Derived.Test.YtmnklmaefoidbaaChecked
import GoSem.Claim
import GoSem.ClaimJoined
import GoSem.ClaimMapViews
import Derived.JoinedTies
import Derived.KernelRfl
namespace Go.Proofs.Ytmnklmaefoidbaa
/- THE CELL 'sum', in the pinned program and in every row, IS THE sha256 OF THE DUMP (.gsa) THAT YtmnklmaefoidbaaProg.lean LOADS. Nothing in Lean hashes anything: it is a label: what it is worth is what the hold of that sum in a sandbox is worth. -/
noncomputable def Try.pinned : Pinned := { name := "ytmnklmaefoidbaa", sum := "66078bf6b041a91d3cd6e797e1d42b5af612a31f1f8a3f7f06c8edb6f025930f", checked := Try.checked }
namespace Rows
def none {H : Type} : Left H := { results := [], args := [] }

/-- 'laws.FnExactChannelFrequency': WHATEVER THE INPUT: true; the input reads as it did. -/
def fnExactChannelFrequencySpec : ChangeSpec := { name := "fnExactChannelFrequency", fn := fun _ => fun
  | [d1, d2] => { results := [.lit (.bool true)], args := [d1, d2] }
  | _ => none }
def fnExactChannelFrequencyRow : OpenClaim := { program := "ytmnklmaefoidbaa", sum := "66078bf6b041a91d3cd6e797e1d42b5af612a31f1f8a3f7f06c8edb6f025930f", func := "loop.example/g00925/laws.FnExactChannelFrequency", spec := "fnExactChannelFrequency", apart := false }
def FnExactChannelFrequencySaid : Prop := fnExactChannelFrequencyRow.holds Try.pinned (OpenSpec.ofChange fnExactChannelFrequencySpec)

/-- ITS FALSE NEIGHBOUR: 'it returns false'. Refute it at one input. -/
def fnExactChannelFrequencyWrong : ChangeSpec := { name := "fnExactChannelFrequency", fn := fun _ => fun
  | [d1, d2] => { results := [.lit (.bool false)], args := [d1, d2] }
  | _ => none }
def FnExactChannelFrequencyWrongFalsely : Prop := fnExactChannelFrequencyRow.holds Try.pinned (OpenSpec.ofChange fnExactChannelFrequencyWrong)

/-- 'laws.FnExactChannelsClash': WHATEVER THE INPUT: true; the input reads as it did. -/
def fnExactChannelsClashSpec : ChangeSpec := { name := "fnExactChannelsClash", fn := fun _ => fun
  | [d1, d2, d3, d4] => { results := [.lit (.bool true)], args := [d1, d2, d3, d4] }
  | _ => none }
def fnExactChannelsClashRow : OpenClaim := { program := "ytmnklmaefoidbaa", sum := "66078bf6b041a91d3cd6e797e1d42b5af612a31f1f8a3f7f06c8edb6f025930f", func := "loop.example/g00925/laws.FnExactChannelsClash", spec := "fnExactChannelsClash", apart := false }
def FnExactChannelsClashSaid : Prop := fnExactChannelsClashRow.holds Try.pinned (OpenSpec.ofChange fnExactChannelsClashSpec)

/-- ITS FALSE NEIGHBOUR: 'it returns false'. Refute it at one input. -/
def fnExactChannelsClashWrong : ChangeSpec := { name := "fnExactChannelsClash", fn := fun _ => fun
  | [d1, d2, d3, d4] => { results := [.lit (.bool false)], args := [d1, d2, d3, d4] }
  | _ => none }
def FnExactChannelsClashWrongFalsely : Prop := fnExactChannelsClashRow.holds Try.pinned (OpenSpec.ofChange fnExactChannelsClashWrong)

/-- 'laws.FnExactPartnerFrequency': WHATEVER THE INPUT: true; the input reads as it did. -/
def fnExactPartnerFrequencySpec : ChangeSpec := { name := "fnExactPartnerFrequency", fn := fun _ => fun
  | [d1, d2] => { results := [.lit (.bool true)], args := [d1, d2] }
  | _ => none }
def fnExactPartnerFrequencyRow : OpenClaim := { program := "ytmnklmaefoidbaa", sum := "66078bf6b041a91d3cd6e797e1d42b5af612a31f1f8a3f7f06c8edb6f025930f", func := "loop.example/g00925/laws.FnExactPartnerFrequency", spec := "fnExactPartnerFrequency", apart := false }
def FnExactPartnerFrequencySaid : Prop := fnExactPartnerFrequencyRow.holds Try.pinned (OpenSpec.ofChange fnExactPartnerFrequencySpec)

/-- ITS FALSE NEIGHBOUR: 'it returns false'. Refute it at one input. -/
def fnExactPartnerFrequencyWrong : ChangeSpec := { name := "fnExactPartnerFrequency", fn := fun _ => fun
  | [d1, d2] => { results := [.lit (.bool false)], args := [d1, d2] }
  | _ => none }
def FnExactPartnerFrequencyWrongFalsely : Prop := fnExactPartnerFrequencyRow.holds Try.pinned (OpenSpec.ofChange fnExactPartnerFrequencyWrong)

/-- 'laws.FnExactOffsetOf': WHATEVER THE INPUT: true; the input reads as it did. -/
def fnExactOffsetOfSpec : ChangeSpec := { name := "fnExactOffsetOf", fn := fun _ => fun
  | [d1, d2, d3, d4] => { results := [.lit (.bool true)], args := [d1, d2, d3, d4] }
  | _ => none }
def fnExactOffsetOfRow : OpenClaim := { program := "ytmnklmaefoidbaa", sum := "66078bf6b041a91d3cd6e797e1d42b5af612a31f1f8a3f7f06c8edb6f025930f", func := "loop.example/g00925/laws.FnExactOffsetOf", spec := "fnExactOffsetOf", apart := false }
def FnExactOffsetOfSaid : Prop := fnExactOffsetOfRow.holds Try.pinned (OpenSpec.ofChange fnExactOffsetOfSpec)

/-- ITS FALSE NEIGHBOUR: 'it returns false'. Refute it at one input. -/
def fnExactOffsetOfWrong : ChangeSpec := { name := "fnExactOffsetOf", fn := fun _ => fun
  | [d1, d2, d3, d4] => { results := [.lit (.bool false)], args := [d1, d2, d3, d4] }
  | _ => none }
def FnExactOffsetOfWrongFalsely : Prop := fnExactOffsetOfRow.holds Try.pinned (OpenSpec.ofChange fnExactOffsetOfWrong)

/-- 'laws.FnExactOffsetAt': WHATEVER THE INPUT: true; the input reads as it did. -/
def fnExactOffsetAtSpec : ChangeSpec := { name := "fnExactOffsetAt", fn := fun _ => fun
  | [d1, d2] => { results := [.lit (.bool true)], args := [d1, d2] }
  | _ => none }
def fnExactOffsetAtRow : OpenClaim := { program := "ytmnklmaefoidbaa", sum := "66078bf6b041a91d3cd6e797e1d42b5af612a31f1f8a3f7f06c8edb6f025930f", func := "loop.example/g00925/laws.FnExactOffsetAt", spec := "fnExactOffsetAt", unfollowed := true, recurses := true, apart := false }
def FnExactOffsetAtSaid : Prop := fnExactOffsetAtRow.holds Try.pinned (OpenSpec.ofChange fnExactOffsetAtSpec)

/-- ITS FALSE NEIGHBOUR: 'it returns false'. Refute it at one input. -/
def fnExactOffsetAtWrong : ChangeSpec := { name := "fnExactOffsetAt", fn := fun _ => fun
  | [d1, d2] => { results := [.lit (.bool false)], args := [d1, d2] }
  | _ => none }
def FnExactOffsetAtWrongFalsely : Prop := fnExactOffsetAtRow.holds Try.pinned (OpenSpec.ofChange fnExactOffsetAtWrong)

/-- 'laws.FnChannels': WHATEVER THE INPUT: true; the input reads as it did. -/
def fnChannelsSpec : ChangeSpec := { name := "fnChannels", fn := fun _ => fun
  | [d] => { results := [.lit (.bool true)], args := [d] }
  | _ => none }
def fnChannelsRow : OpenClaim := { program := "ytmnklmaefoidbaa", sum := "66078bf6b041a91d3cd6e797e1d42b5af612a31f1f8a3f7f06c8edb6f025930f", func := "loop.example/g00925/laws.FnChannels", spec := "fnChannels", apart := false }
def FnChannelsSaid : Prop := fnChannelsRow.holds Try.pinned (OpenSpec.ofChange fnChannelsSpec)

/-- ITS FALSE NEIGHBOUR: 'it returns false'. Refute it at one input. -/
def fnChannelsWrong : ChangeSpec := { name := "fnChannels", fn := fun _ => fun
  | [d] => { results := [.lit (.bool false)], args := [d] }
  | _ => none }
def FnChannelsWrongFalsely : Prop := fnChannelsRow.holds Try.pinned (OpenSpec.ofChange fnChannelsWrong)

/- THE SECOND FORM. 'bulk': how many values and letters a reading holds, each counted each time it is reached (what is shared counts as often as it is met; a slice's spare places count too). A statement '..UptoSaid' is the law's where the arguments, and the package variables that the reading takes, are together of bulk at most 1048576: NARROWER than '..Said'. Prove '..Said' where nothing that the law and all that it calls make is longer than what came in: it says more and counts as full. Else prove '..UptoSaid'. A law counts once. -/
mutual
def uptoBulk {H : Type} : DataW H → Nat
  | .lit (.string bytes) => bytes.length + 1
  | .lit _ => 1
  | .nil => 1
  | .ptr d => uptoBulk d + 1
  | .slice elems spare => uptoBulkAll elems + uptoBulkAll spare + 1
  | .agg parts => uptoBulkAll parts + 1
  | .iface _ d => uptoBulk d + 1
  | .map entries => uptoBulkEntries entries + 1
  | .held _ => 1
def uptoBulkAll {H : Type} : List (DataW H) → Nat
  | [] => 0
  | d :: r => uptoBulk d + uptoBulkAll r
def uptoBulkEntries {H : Type} : List (Lit × DataW H) → Nat
  | [] => 0
  | x :: r => uptoBulkEntry x + uptoBulkEntries r
def uptoBulkEntry {H : Type} : Lit × DataW H → Nat
  | (.string bytes, d) => bytes.length + uptoBulk d + 1
  | (_, d) => uptoBulk d + 1
 end
def uptoSmall : (H : Type) → List (DataW H) → Bool := fun _ ds => decide (uptoBulkAll ds ≤ 1048576)
def OpenSpec.upto (s : _root_.Go.ChangeSpec) : _root_.Go.OpenSpec := { _root_.Go.OpenSpec.ofChange s with cond := some uptoSmall }

/-- 'laws.FnExactChannelFrequency', WHERE WHAT IT READS IS OF BULK AT MOST 1048576: true; the input reads as it did. -/
def fnExactChannelFrequencyUptoRow : OpenClaim := { program := "ytmnklmaefoidbaa", sum := "66078bf6b041a91d3cd6e797e1d42b5af612a31f1f8a3f7f06c8edb6f025930f", func := "loop.example/g00925/laws.FnExactChannelFrequency", spec := "fnExactChannelFrequency", apart := false, narrowed := true }
def FnExactChannelFrequencyUptoSaid : Prop := fnExactChannelFrequencyUptoRow.holds Try.pinned (OpenSpec.upto fnExactChannelFrequencySpec)

/-- 'laws.FnExactChannelsClash', WHERE WHAT IT READS IS OF BULK AT MOST 1048576: true; the input reads as it did. -/
def fnExactChannelsClashUptoRow : OpenClaim := { program := "ytmnklmaefoidbaa", sum := "66078bf6b041a91d3cd6e797e1d42b5af612a31f1f8a3f7f06c8edb6f025930f", func := "loop.example/g00925/laws.FnExactChannelsClash", spec := "fnExactChannelsClash", apart := false, narrowed := true }
def FnExactChannelsClashUptoSaid : Prop := fnExactChannelsClashUptoRow.holds Try.pinned (OpenSpec.upto fnExactChannelsClashSpec)

/-- 'laws.FnExactPartnerFrequency', WHERE WHAT IT READS IS OF BULK AT MOST 1048576: true; the input reads as it did. -/
def fnExactPartnerFrequencyUptoRow : OpenClaim := { program := "ytmnklmaefoidbaa", sum := "66078bf6b041a91d3cd6e797e1d42b5af612a31f1f8a3f7f06c8edb6f025930f", func := "loop.example/g00925/laws.FnExactPartnerFrequency", spec := "fnExactPartnerFrequency", apart := false, narrowed := true }
def FnExactPartnerFrequencyUptoSaid : Prop := fnExactPartnerFrequencyUptoRow.holds Try.pinned (OpenSpec.upto fnExactPartnerFrequencySpec)

/-- 'laws.FnExactOffsetOf', WHERE WHAT IT READS IS OF BULK AT MOST 1048576: true; the input reads as it did. -/
def fnExactOffsetOfUptoRow : OpenClaim := { program := "ytmnklmaefoidbaa", sum := "66078bf6b041a91d3cd6e797e1d42b5af612a31f1f8a3f7f06c8edb6f025930f", func := "loop.example/g00925/laws.FnExactOffsetOf", spec := "fnExactOffsetOf", apart := false, narrowed := true }
def FnExactOffsetOfUptoSaid : Prop := fnExactOffsetOfUptoRow.holds Try.pinned (OpenSpec.upto fnExactOffsetOfSpec)

/-- 'laws.FnExactOffsetAt', WHERE WHAT IT READS IS OF BULK AT MOST 1048576: true; the input reads as it did. -/
def fnExactOffsetAtUptoRow : OpenClaim := { program := "ytmnklmaefoidbaa", sum := "66078bf6b041a91d3cd6e797e1d42b5af612a31f1f8a3f7f06c8edb6f025930f", func := "loop.example/g00925/laws.FnExactOffsetAt", spec := "fnExactOffsetAt", unfollowed := true, recurses := true, apart := false, narrowed := true }
def FnExactOffsetAtUptoSaid : Prop := fnExactOffsetAtUptoRow.holds Try.pinned (OpenSpec.upto fnExactOffsetAtSpec)

/-- 'laws.FnChannels', WHERE WHAT IT READS IS OF BULK AT MOST 1048576: true; the input reads as it did. -/
def fnChannelsUptoRow : OpenClaim := { program := "ytmnklmaefoidbaa", sum := "66078bf6b041a91d3cd6e797e1d42b5af612a31f1f8a3f7f06c8edb6f025930f", func := "loop.example/g00925/laws.FnChannels", spec := "fnChannels", apart := false, narrowed := true }
def FnChannelsUptoSaid : Prop := fnChannelsUptoRow.holds Try.pinned (OpenSpec.upto fnChannelsSpec)

end Rows
end Go.Proofs.Ytmnklmaefoidbaa
