/-
  No cell of these rows narrows 'for every input' (looked for: loops, veiled, ifaces, maps, wideKeys, modest, calm, conditions, laid).
  DERIVED. THE GIVEN ROWS OF THIS SEAT. 11 by the template 'for every input the law returns true; each argument reads behind the call as it read before'; 0 by the template 'total and deterministic' (their statements: YtnkbilpjlbpplaaTotals.lean).
  GIVEN WITH THE SEED: the statements are not yours to turn. If you find one false, say at which input.
  Laid BY PROGRAM, IN A SANDBOX (cutbox-rows.mjs): the forced cells as the released guide's own fill.sh prints them over the translation 77514460212f7b2e… (all of the seat's roots in one cut). By AI agents, Wed Nov 11 2026. No macro, syntax, notation, axiom, sorry.
-/
import Derived.Test.YtnkbilpjlbpplaaChecked
import GoSem.Claim
import GoSem.ClaimJoined
import GoSem.ClaimMapViews
import Derived.JoinedTies
import Derived.KernelRfl
namespace Go.Proofs.Ytnkbilpjlbpplaa
/- THE CELL 'sum', in the pinned program and in every row, IS THE sha256 OF THE DUMP (.gsa) THAT YtnkbilpjlbpplaaProg.lean LOADS. Nothing in Lean hashes anything: it is a label: what it is worth is what the hold of that sum in a sandbox is worth. -/
noncomputable def Try.pinned : Pinned := { name := "ytnkbilpjlbpplaa", sum := "77514460212f7b2e7dd0104b21b34f74056a92e42bc8defa317b21720ffcc10a", checked := Try.checked }
namespace Rows
def none {H : Type} : Left H := { results := [], args := [] }

/-- 'laws.FnExactValidArea': WHATEVER THE INPUT: true; the input reads as it did. -/
def fnExactValidAreaSpec : ChangeSpec := { name := "fnExactValidArea", fn := fun _ => fun
  | [d] => { results := [.lit (.bool true)], args := [d] }
  | _ => none }
def fnExactValidAreaRow : OpenClaim := { program := "ytnkbilpjlbpplaa", sum := "77514460212f7b2e7dd0104b21b34f74056a92e42bc8defa317b21720ffcc10a", func := "loop.example/g00925/laws.FnExactValidArea", spec := "fnExactValidArea", apart := false }
def FnExactValidAreaSaid : Prop := fnExactValidAreaRow.holds Try.pinned (OpenSpec.ofChange fnExactValidAreaSpec)

/-- ITS FALSE NEIGHBOUR: 'it returns false'. Refute it at one input. -/
def fnExactValidAreaWrong : ChangeSpec := { name := "fnExactValidArea", fn := fun _ => fun
  | [d] => { results := [.lit (.bool false)], args := [d] }
  | _ => none }
def FnExactValidAreaWrongFalsely : Prop := fnExactValidAreaRow.holds Try.pinned (OpenSpec.ofChange fnExactValidAreaWrong)

/-- 'laws.FnExactAreaHas': WHATEVER THE INPUT: true; the input reads as it did. -/
def fnExactAreaHasSpec : ChangeSpec := { name := "fnExactAreaHas", fn := fun _ => fun
  | [d1, d2] => { results := [.lit (.bool true)], args := [d1, d2] }
  | _ => none }
def fnExactAreaHasRow : OpenClaim := { program := "ytnkbilpjlbpplaa", sum := "77514460212f7b2e7dd0104b21b34f74056a92e42bc8defa317b21720ffcc10a", func := "loop.example/g00925/laws.FnExactAreaHas", spec := "fnExactAreaHas", apart := false }
def FnExactAreaHasSaid : Prop := fnExactAreaHasRow.holds Try.pinned (OpenSpec.ofChange fnExactAreaHasSpec)

/-- ITS FALSE NEIGHBOUR: 'it returns false'. Refute it at one input. -/
def fnExactAreaHasWrong : ChangeSpec := { name := "fnExactAreaHas", fn := fun _ => fun
  | [d1, d2] => { results := [.lit (.bool false)], args := [d1, d2] }
  | _ => none }
def FnExactAreaHasWrongFalsely : Prop := fnExactAreaHasRow.holds Try.pinned (OpenSpec.ofChange fnExactAreaHasWrong)

/-- 'laws.FnExactMeetAreas': WHATEVER THE INPUT: true; the input reads as it did. -/
def fnExactMeetAreasSpec : ChangeSpec := { name := "fnExactMeetAreas", fn := fun _ => fun
  | [d1, d2] => { results := [.lit (.bool true)], args := [d1, d2] }
  | _ => none }
def fnExactMeetAreasRow : OpenClaim := { program := "ytnkbilpjlbpplaa", sum := "77514460212f7b2e7dd0104b21b34f74056a92e42bc8defa317b21720ffcc10a", func := "loop.example/g00925/laws.FnExactMeetAreas", spec := "fnExactMeetAreas", apart := false }
def FnExactMeetAreasSaid : Prop := fnExactMeetAreasRow.holds Try.pinned (OpenSpec.ofChange fnExactMeetAreasSpec)

/-- ITS FALSE NEIGHBOUR: 'it returns false'. Refute it at one input. -/
def fnExactMeetAreasWrong : ChangeSpec := { name := "fnExactMeetAreas", fn := fun _ => fun
  | [d1, d2] => { results := [.lit (.bool false)], args := [d1, d2] }
  | _ => none }
def FnExactMeetAreasWrongFalsely : Prop := fnExactMeetAreasRow.holds Try.pinned (OpenSpec.ofChange fnExactMeetAreasWrong)

/-- 'laws.FnExactValidLicence': WHATEVER THE INPUT: true; the input reads as it did. -/
def fnExactValidLicenceSpec : ChangeSpec := { name := "fnExactValidLicence", fn := fun _ => fun
  | [d] => { results := [.lit (.bool true)], args := [d] }
  | _ => none }
def fnExactValidLicenceRow : OpenClaim := { program := "ytnkbilpjlbpplaa", sum := "77514460212f7b2e7dd0104b21b34f74056a92e42bc8defa317b21720ffcc10a", func := "loop.example/g00925/laws.FnExactValidLicence", spec := "fnExactValidLicence", apart := false }
def FnExactValidLicenceSaid : Prop := fnExactValidLicenceRow.holds Try.pinned (OpenSpec.ofChange fnExactValidLicenceSpec)

/-- ITS FALSE NEIGHBOUR: 'it returns false'. Refute it at one input. -/
def fnExactValidLicenceWrong : ChangeSpec := { name := "fnExactValidLicence", fn := fun _ => fun
  | [d] => { results := [.lit (.bool false)], args := [d] }
  | _ => none }
def FnExactValidLicenceWrongFalsely : Prop := fnExactValidLicenceRow.holds Try.pinned (OpenSpec.ofChange fnExactValidLicenceWrong)

/-- 'laws.FnExactClashOf': WHATEVER THE INPUT: true; the input reads as it did. -/
def fnExactClashOfSpec : ChangeSpec := { name := "fnExactClashOf", fn := fun _ => fun
  | [d1, d2] => { results := [.lit (.bool true)], args := [d1, d2] }
  | _ => none }
def fnExactClashOfRow : OpenClaim := { program := "ytnkbilpjlbpplaa", sum := "77514460212f7b2e7dd0104b21b34f74056a92e42bc8defa317b21720ffcc10a", func := "loop.example/g00925/laws.FnExactClashOf", spec := "fnExactClashOf", apart := false }
def FnExactClashOfSaid : Prop := fnExactClashOfRow.holds Try.pinned (OpenSpec.ofChange fnExactClashOfSpec)

/-- ITS FALSE NEIGHBOUR: 'it returns false'. Refute it at one input. -/
def fnExactClashOfWrong : ChangeSpec := { name := "fnExactClashOf", fn := fun _ => fun
  | [d1, d2] => { results := [.lit (.bool false)], args := [d1, d2] }
  | _ => none }
def FnExactClashOfWrongFalsely : Prop := fnExactClashOfRow.holds Try.pinned (OpenSpec.ofChange fnExactClashOfWrong)

/-- 'laws.FnExactSameHoldings': WHATEVER THE INPUT: true; the input reads as it did. -/
def fnExactSameHoldingsSpec : ChangeSpec := { name := "fnExactSameHoldings", fn := fun _ => fun
  | [d1, d2] => { results := [.lit (.bool true)], args := [d1, d2] }
  | _ => none }
def fnExactSameHoldingsRow : OpenClaim := { program := "ytnkbilpjlbpplaa", sum := "77514460212f7b2e7dd0104b21b34f74056a92e42bc8defa317b21720ffcc10a", func := "loop.example/g00925/laws.FnExactSameHoldings", spec := "fnExactSameHoldings", apart := false }
def FnExactSameHoldingsSaid : Prop := fnExactSameHoldingsRow.holds Try.pinned (OpenSpec.ofChange fnExactSameHoldingsSpec)

/-- ITS FALSE NEIGHBOUR: 'it returns false'. Refute it at one input. -/
def fnExactSameHoldingsWrong : ChangeSpec := { name := "fnExactSameHoldings", fn := fun _ => fun
  | [d1, d2] => { results := [.lit (.bool false)], args := [d1, d2] }
  | _ => none }
def FnExactSameHoldingsWrongFalsely : Prop := fnExactSameHoldingsRow.holds Try.pinned (OpenSpec.ofChange fnExactSameHoldingsWrong)

/-- 'laws.FnExactValidHoldings': WHATEVER THE INPUT: true; the input reads as it did. -/
def fnExactValidHoldingsSpec : ChangeSpec := { name := "fnExactValidHoldings", fn := fun _ => fun
  | [d] => { results := [.lit (.bool true)], args := [d] }
  | _ => none }
def fnExactValidHoldingsRow : OpenClaim := { program := "ytnkbilpjlbpplaa", sum := "77514460212f7b2e7dd0104b21b34f74056a92e42bc8defa317b21720ffcc10a", func := "loop.example/g00925/laws.FnExactValidHoldings", spec := "fnExactValidHoldings", unfollowed := true, recurses := true, apart := false }
def FnExactValidHoldingsSaid : Prop := fnExactValidHoldingsRow.holds Try.pinned (OpenSpec.ofChange fnExactValidHoldingsSpec)

/-- ITS FALSE NEIGHBOUR: 'it returns false'. Refute it at one input. -/
def fnExactValidHoldingsWrong : ChangeSpec := { name := "fnExactValidHoldings", fn := fun _ => fun
  | [d] => { results := [.lit (.bool false)], args := [d] }
  | _ => none }
def FnExactValidHoldingsWrongFalsely : Prop := fnExactValidHoldingsRow.holds Try.pinned (OpenSpec.ofChange fnExactValidHoldingsWrong)

/-- 'laws.FnExactWidthOf': WHATEVER THE INPUT: true; the input reads as it did. -/
def fnExactWidthOfSpec : ChangeSpec := { name := "fnExactWidthOf", fn := fun _ => fun
  | [d1, d2, d3, d4] => { results := [.lit (.bool true)], args := [d1, d2, d3, d4] }
  | _ => none }
def fnExactWidthOfRow : OpenClaim := { program := "ytnkbilpjlbpplaa", sum := "77514460212f7b2e7dd0104b21b34f74056a92e42bc8defa317b21720ffcc10a", func := "loop.example/g00925/laws.FnExactWidthOf", spec := "fnExactWidthOf", unfollowed := true, recurses := true, apart := false }
def FnExactWidthOfSaid : Prop := fnExactWidthOfRow.holds Try.pinned (OpenSpec.ofChange fnExactWidthOfSpec)

/-- ITS FALSE NEIGHBOUR: 'it returns false'. Refute it at one input. -/
def fnExactWidthOfWrong : ChangeSpec := { name := "fnExactWidthOf", fn := fun _ => fun
  | [d1, d2, d3, d4] => { results := [.lit (.bool false)], args := [d1, d2, d3, d4] }
  | _ => none }
def FnExactWidthOfWrongFalsely : Prop := fnExactWidthOfRow.holds Try.pinned (OpenSpec.ofChange fnExactWidthOfWrong)

/-- 'laws.FnExactLicenceFor': WHATEVER THE INPUT: true; the input reads as it did. -/
def fnExactLicenceForSpec : ChangeSpec := { name := "fnExactLicenceFor", fn := fun _ => fun
  | [d1, d2, d3, d4, d5, d6] => { results := [.lit (.bool true)], args := [d1, d2, d3, d4, d5, d6] }
  | _ => none }
def fnExactLicenceForRow : OpenClaim := { program := "ytnkbilpjlbpplaa", sum := "77514460212f7b2e7dd0104b21b34f74056a92e42bc8defa317b21720ffcc10a", func := "loop.example/g00925/laws.FnExactLicenceFor", spec := "fnExactLicenceFor", unfollowed := true, recurses := true, apart := false }
def FnExactLicenceForSaid : Prop := fnExactLicenceForRow.holds Try.pinned (OpenSpec.ofChange fnExactLicenceForSpec)

/-- ITS FALSE NEIGHBOUR: 'it returns false'. Refute it at one input. -/
def fnExactLicenceForWrong : ChangeSpec := { name := "fnExactLicenceFor", fn := fun _ => fun
  | [d1, d2, d3, d4, d5, d6] => { results := [.lit (.bool false)], args := [d1, d2, d3, d4, d5, d6] }
  | _ => none }
def FnExactLicenceForWrongFalsely : Prop := fnExactLicenceForRow.holds Try.pinned (OpenSpec.ofChange fnExactLicenceForWrong)

/-- 'laws.FnExactRevokeLicence': WHATEVER THE INPUT: true; the input reads as it did. -/
def fnExactRevokeLicenceSpec : ChangeSpec := { name := "fnExactRevokeLicence", fn := fun _ => fun
  | [d1, d2] => { results := [.lit (.bool true)], args := [d1, d2] }
  | _ => none }
def fnExactRevokeLicenceRow : OpenClaim := { program := "ytnkbilpjlbpplaa", sum := "77514460212f7b2e7dd0104b21b34f74056a92e42bc8defa317b21720ffcc10a", func := "loop.example/g00925/laws.FnExactRevokeLicence", spec := "fnExactRevokeLicence", unfollowed := true, recurses := true, apart := false }
def FnExactRevokeLicenceSaid : Prop := fnExactRevokeLicenceRow.holds Try.pinned (OpenSpec.ofChange fnExactRevokeLicenceSpec)

/-- ITS FALSE NEIGHBOUR: 'it returns false'. Refute it at one input. -/
def fnExactRevokeLicenceWrong : ChangeSpec := { name := "fnExactRevokeLicence", fn := fun _ => fun
  | [d1, d2] => { results := [.lit (.bool false)], args := [d1, d2] }
  | _ => none }
def FnExactRevokeLicenceWrongFalsely : Prop := fnExactRevokeLicenceRow.holds Try.pinned (OpenSpec.ofChange fnExactRevokeLicenceWrong)

/-- 'laws.FnExactTransferLicence': WHATEVER THE INPUT: true; the input reads as it did. -/
def fnExactTransferLicenceSpec : ChangeSpec := { name := "fnExactTransferLicence", fn := fun _ => fun
  | [d1, d2, d3] => { results := [.lit (.bool true)], args := [d1, d2, d3] }
  | _ => none }
def fnExactTransferLicenceRow : OpenClaim := { program := "ytnkbilpjlbpplaa", sum := "77514460212f7b2e7dd0104b21b34f74056a92e42bc8defa317b21720ffcc10a", func := "loop.example/g00925/laws.FnExactTransferLicence", spec := "fnExactTransferLicence", unfollowed := true, recurses := true, apart := false }
def FnExactTransferLicenceSaid : Prop := fnExactTransferLicenceRow.holds Try.pinned (OpenSpec.ofChange fnExactTransferLicenceSpec)

/-- ITS FALSE NEIGHBOUR: 'it returns false'. Refute it at one input. -/
def fnExactTransferLicenceWrong : ChangeSpec := { name := "fnExactTransferLicence", fn := fun _ => fun
  | [d1, d2, d3] => { results := [.lit (.bool false)], args := [d1, d2, d3] }
  | _ => none }
def FnExactTransferLicenceWrongFalsely : Prop := fnExactTransferLicenceRow.holds Try.pinned (OpenSpec.ofChange fnExactTransferLicenceWrong)

/- THE SECOND FORM. 'bulk': how many values and letters a reading holds, each counted each time it is reached (what is shared counts as often as it is met; a slice's spare places count too). A statement '..UptoSaid' is the law's where the arguments, and the package variables that the reading takes, are together of bulk at most 1048576: NARROWER than '..Said'. Prove '..Said' where nothing that the law and all that it calls make is longer than what came in: it says more and counts as full. Else prove '..UptoSaid'. A law counts once. -/
mutual
def uptoBulk {H : Type} : DataW H → Nat
  | .lit (.string bytes) => bytes.length + 1
  | .lit _ => 1
  | .nil => 1
  | .ptr d => uptoBulk d + 1
  | .slice elems spare => uptoBulkAll elems + uptoBulkAll spare + 1
  | .agg parts => uptoBulkAll parts + 1
  | .iface _ d => uptoBulk d + 1
  | .map entries => uptoBulkEntries entries + 1
  | .held _ => 1
def uptoBulkAll {H : Type} : List (DataW H) → Nat
  | [] => 0
  | d :: r => uptoBulk d + uptoBulkAll r
def uptoBulkEntries {H : Type} : List (Lit × DataW H) → Nat
  | [] => 0
  | x :: r => uptoBulkEntry x + uptoBulkEntries r
def uptoBulkEntry {H : Type} : Lit × DataW H → Nat
  | (.string bytes, d) => bytes.length + uptoBulk d + 1
  | (_, d) => uptoBulk d + 1
 end
def uptoSmall : (H : Type) → List (DataW H) → Bool := fun _ ds => decide (uptoBulkAll ds ≤ 1048576)
def OpenSpec.upto (s : _root_.Go.ChangeSpec) : _root_.Go.OpenSpec := { _root_.Go.OpenSpec.ofChange s with cond := some uptoSmall }

/-- 'laws.FnExactValidArea', WHERE WHAT IT READS IS OF BULK AT MOST 1048576: true; the input reads as it did. -/
def fnExactValidAreaUptoRow : OpenClaim := { program := "ytnkbilpjlbpplaa", sum := "77514460212f7b2e7dd0104b21b34f74056a92e42bc8defa317b21720ffcc10a", func := "loop.example/g00925/laws.FnExactValidArea", spec := "fnExactValidArea", apart := false, narrowed := true }
def FnExactValidAreaUptoSaid : Prop := fnExactValidAreaUptoRow.holds Try.pinned (OpenSpec.upto fnExactValidAreaSpec)

/-- 'laws.FnExactAreaHas', WHERE WHAT IT READS IS OF BULK AT MOST 1048576: true; the input reads as it did. -/
def fnExactAreaHasUptoRow : OpenClaim := { program := "ytnkbilpjlbpplaa", sum := "77514460212f7b2e7dd0104b21b34f74056a92e42bc8defa317b21720ffcc10a", func := "loop.example/g00925/laws.FnExactAreaHas", spec := "fnExactAreaHas", apart := false, narrowed := true }
def FnExactAreaHasUptoSaid : Prop := fnExactAreaHasUptoRow.holds Try.pinned (OpenSpec.upto fnExactAreaHasSpec)

/-- 'laws.FnExactMeetAreas', WHERE WHAT IT READS IS OF BULK AT MOST 1048576: true; the input reads as it did. -/
def fnExactMeetAreasUptoRow : OpenClaim := { program := "ytnkbilpjlbpplaa", sum := "77514460212f7b2e7dd0104b21b34f74056a92e42bc8defa317b21720ffcc10a", func := "loop.example/g00925/laws.FnExactMeetAreas", spec := "fnExactMeetAreas", apart := false, narrowed := true }
def FnExactMeetAreasUptoSaid : Prop := fnExactMeetAreasUptoRow.holds Try.pinned (OpenSpec.upto fnExactMeetAreasSpec)

/-- 'laws.FnExactValidLicence', WHERE WHAT IT READS IS OF BULK AT MOST 1048576: true; the input reads as it did. -/
def fnExactValidLicenceUptoRow : OpenClaim := { program := "ytnkbilpjlbpplaa", sum := "77514460212f7b2e7dd0104b21b34f74056a92e42bc8defa317b21720ffcc10a", func := "loop.example/g00925/laws.FnExactValidLicence", spec := "fnExactValidLicence", apart := false, narrowed := true }
def FnExactValidLicenceUptoSaid : Prop := fnExactValidLicenceUptoRow.holds Try.pinned (OpenSpec.upto fnExactValidLicenceSpec)

/-- 'laws.FnExactClashOf', WHERE WHAT IT READS IS OF BULK AT MOST 1048576: true; the input reads as it did. -/
def fnExactClashOfUptoRow : OpenClaim := { program := "ytnkbilpjlbpplaa", sum := "77514460212f7b2e7dd0104b21b34f74056a92e42bc8defa317b21720ffcc10a", func := "loop.example/g00925/laws.FnExactClashOf", spec := "fnExactClashOf", apart := false, narrowed := true }
def FnExactClashOfUptoSaid : Prop := fnExactClashOfUptoRow.holds Try.pinned (OpenSpec.upto fnExactClashOfSpec)

/-- 'laws.FnExactSameHoldings', WHERE WHAT IT READS IS OF BULK AT MOST 1048576: true; the input reads as it did. -/
def fnExactSameHoldingsUptoRow : OpenClaim := { program := "ytnkbilpjlbpplaa", sum := "77514460212f7b2e7dd0104b21b34f74056a92e42bc8defa317b21720ffcc10a", func := "loop.example/g00925/laws.FnExactSameHoldings", spec := "fnExactSameHoldings", apart := false, narrowed := true }
def FnExactSameHoldingsUptoSaid : Prop := fnExactSameHoldingsUptoRow.holds Try.pinned (OpenSpec.upto fnExactSameHoldingsSpec)

/-- 'laws.FnExactValidHoldings', WHERE WHAT IT READS IS OF BULK AT MOST 1048576: true; the input reads as it did. -/
def fnExactValidHoldingsUptoRow : OpenClaim := { program := "ytnkbilpjlbpplaa", sum := "77514460212f7b2e7dd0104b21b34f74056a92e42bc8defa317b21720ffcc10a", func := "loop.example/g00925/laws.FnExactValidHoldings", spec := "fnExactValidHoldings", unfollowed := true, recurses := true, apart := false, narrowed := true }
def FnExactValidHoldingsUptoSaid : Prop := fnExactValidHoldingsUptoRow.holds Try.pinned (OpenSpec.upto fnExactValidHoldingsSpec)

/-- 'laws.FnExactWidthOf', WHERE WHAT IT READS IS OF BULK AT MOST 1048576: true; the input reads as it did. -/
def fnExactWidthOfUptoRow : OpenClaim := { program := "ytnkbilpjlbpplaa", sum := "77514460212f7b2e7dd0104b21b34f74056a92e42bc8defa317b21720ffcc10a", func := "loop.example/g00925/laws.FnExactWidthOf", spec := "fnExactWidthOf", unfollowed := true, recurses := true, apart := false, narrowed := true }
def FnExactWidthOfUptoSaid : Prop := fnExactWidthOfUptoRow.holds Try.pinned (OpenSpec.upto fnExactWidthOfSpec)

/-- 'laws.FnExactLicenceFor', WHERE WHAT IT READS IS OF BULK AT MOST 1048576: true; the input reads as it did. -/
def fnExactLicenceForUptoRow : OpenClaim := { program := "ytnkbilpjlbpplaa", sum := "77514460212f7b2e7dd0104b21b34f74056a92e42bc8defa317b21720ffcc10a", func := "loop.example/g00925/laws.FnExactLicenceFor", spec := "fnExactLicenceFor", unfollowed := true, recurses := true, apart := false, narrowed := true }
def FnExactLicenceForUptoSaid : Prop := fnExactLicenceForUptoRow.holds Try.pinned (OpenSpec.upto fnExactLicenceForSpec)

/-- 'laws.FnExactRevokeLicence', WHERE WHAT IT READS IS OF BULK AT MOST 1048576: true; the input reads as it did. -/
def fnExactRevokeLicenceUptoRow : OpenClaim := { program := "ytnkbilpjlbpplaa", sum := "77514460212f7b2e7dd0104b21b34f74056a92e42bc8defa317b21720ffcc10a", func := "loop.example/g00925/laws.FnExactRevokeLicence", spec := "fnExactRevokeLicence", unfollowed := true, recurses := true, apart := false, narrowed := true }
def FnExactRevokeLicenceUptoSaid : Prop := fnExactRevokeLicenceUptoRow.holds Try.pinned (OpenSpec.upto fnExactRevokeLicenceSpec)

/-- 'laws.FnExactTransferLicence', WHERE WHAT IT READS IS OF BULK AT MOST 1048576: true; the input reads as it did. -/
def fnExactTransferLicenceUptoRow : OpenClaim := { program := "ytnkbilpjlbpplaa", sum := "77514460212f7b2e7dd0104b21b34f74056a92e42bc8defa317b21720ffcc10a", func := "loop.example/g00925/laws.FnExactTransferLicence", spec := "fnExactTransferLicence", unfollowed := true, recurses := true, apart := false, narrowed := true }
def FnExactTransferLicenceUptoSaid : Prop := fnExactTransferLicenceUptoRow.holds Try.pinned (OpenSpec.upto fnExactTransferLicenceSpec)

end Rows
end Go.Proofs.Ytnkbilpjlbpplaa
