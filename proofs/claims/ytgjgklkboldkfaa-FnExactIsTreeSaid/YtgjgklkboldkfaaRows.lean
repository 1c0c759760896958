/-
  No cell of these rows narrows 'for every input' (looked for: loops, veiled, ifaces, maps, wideKeys, modest, calm, conditions, laid).
  DERIVED. THE GIVEN ROWS OF THIS SEAT. 7 by the template 'for every input the law returns true; each argument reads behind the call as it read before'; 0 by the template 'total and deterministic' (their statements: YtgjgklkboldkfaaTotals.lean).
  GIVEN WITH THE SEED: the statements are not yours to turn. If you find one false, say at which input.
  Laid BY PROGRAM, IN A SANDBOX (cutbox-rows.mjs): the forced cells as the released guide's own fill.sh prints them over the translation 0dfe7b1b749e19bd… (all of the seat's roots in one cut). By AI agents, Wed Nov 11 2026. No macro, syntax, notation, axiom, sorry.
-/
import Derived.Test.YtgjgklkboldkfaaChecked
import GoSem.Claim
import GoSem.ClaimJoined
import GoSem.ClaimMapViews
import Derived.JoinedTies
import Derived.KernelRfl
namespace Go.Proofs.Ytgjgklkboldkfaa
/- THE CELL 'sum', in the pinned program and in every row, IS THE sha256 OF THE DUMP (.gsa) THAT YtgjgklkboldkfaaProg.lean LOADS. Nothing in Lean hashes anything: it is a label: what it is worth is what the hold of that sum in a sandbox is worth. -/
noncomputable def Try.pinned : Pinned := { name := "ytgjgklkboldkfaa", sum := "0dfe7b1b749e19bd375347817760e7ff4f2dac4935299a2d4c88419aed04304d", checked := Try.checked }
namespace Rows
def none {H : Type} : Left H := { results := [], args := [] }

/-- 'laws.FnExactSameBackhaul': WHATEVER THE INPUT: true; the input reads as it did. -/
def fnExactSameBackhaulSpec : ChangeSpec := { name := "fnExactSameBackhaul", fn := fun _ => fun
  | [d1, d2] => { results := [.lit (.bool true)], args := [d1, d2] }
  | _ => none }
def fnExactSameBackhaulRow : OpenClaim := { program := "ytgjgklkboldkfaa", sum := "0dfe7b1b749e19bd375347817760e7ff4f2dac4935299a2d4c88419aed04304d", func := "loop.example/g00925/laws.FnExactSameBackhaul", spec := "fnExactSameBackhaul", apart := false }
def FnExactSameBackhaulSaid : Prop := fnExactSameBackhaulRow.holds Try.pinned (OpenSpec.ofChange fnExactSameBackhaulSpec)

/-- ITS FALSE NEIGHBOUR: 'it returns false'. Refute it at one input. -/
def fnExactSameBackhaulWrong : ChangeSpec := { name := "fnExactSameBackhaul", fn := fun _ => fun
  | [d1, d2] => { results := [.lit (.bool false)], args := [d1, d2] }
  | _ => none }
def FnExactSameBackhaulWrongFalsely : Prop := fnExactSameBackhaulRow.holds Try.pinned (OpenSpec.ofChange fnExactSameBackhaulWrong)

/-- 'laws.FnExactValidBackhaul': WHATEVER THE INPUT: true; the input reads as it did. -/
def fnExactValidBackhaulSpec : ChangeSpec := { name := "fnExactValidBackhaul", fn := fun _ => fun
  | [d] => { results := [.lit (.bool true)], args := [d] }
  | _ => none }
def fnExactValidBackhaulRow : OpenClaim := { program := "ytgjgklkboldkfaa", sum := "0dfe7b1b749e19bd375347817760e7ff4f2dac4935299a2d4c88419aed04304d", func := "loop.example/g00925/laws.FnExactValidBackhaul", spec := "fnExactValidBackhaul", apart := false }
def FnExactValidBackhaulSaid : Prop := fnExactValidBackhaulRow.holds Try.pinned (OpenSpec.ofChange fnExactValidBackhaulSpec)

/-- ITS FALSE NEIGHBOUR: 'it returns false'. Refute it at one input. -/
def fnExactValidBackhaulWrong : ChangeSpec := { name := "fnExactValidBackhaul", fn := fun _ => fun
  | [d] => { results := [.lit (.bool false)], args := [d] }
  | _ => none }
def FnExactValidBackhaulWrongFalsely : Prop := fnExactValidBackhaulRow.holds Try.pinned (OpenSpec.ofChange fnExactValidBackhaulWrong)

/-- 'laws.FnExactOverloadsOf': WHATEVER THE INPUT: true; the input reads as it did. -/
def fnExactOverloadsOfSpec : ChangeSpec := { name := "fnExactOverloadsOf", fn := fun _ => fun
  | [d1, d2] => { results := [.lit (.bool true)], args := [d1, d2] }
  | _ => none }
def fnExactOverloadsOfRow : OpenClaim := { program := "ytgjgklkboldkfaa", sum := "0dfe7b1b749e19bd375347817760e7ff4f2dac4935299a2d4c88419aed04304d", func := "loop.example/g00925/laws.FnExactOverloadsOf", spec := "fnExactOverloadsOf", apart := false }
def FnExactOverloadsOfSaid : Prop := fnExactOverloadsOfRow.holds Try.pinned (OpenSpec.ofChange fnExactOverloadsOfSpec)

/-- ITS FALSE NEIGHBOUR: 'it returns false'. Refute it at one input. -/
def fnExactOverloadsOfWrong : ChangeSpec := { name := "fnExactOverloadsOf", fn := fun _ => fun
  | [d1, d2] => { results := [.lit (.bool false)], args := [d1, d2] }
  | _ => none }
def FnExactOverloadsOfWrongFalsely : Prop := fnExactOverloadsOfRow.holds Try.pinned (OpenSpec.ofChange fnExactOverloadsOfWrong)

/-- 'laws.FnExactIsTree': WHATEVER THE INPUT: true; the input reads as it did. -/
def fnExactIsTreeSpec : ChangeSpec := { name := "fnExactIsTree", fn := fun _ => fun
  | [d1, d2] => { results := [.lit (.bool true)], args := [d1, d2] }
  | _ => none }
def fnExactIsTreeRow : OpenClaim := { program := "ytgjgklkboldkfaa", sum := "0dfe7b1b749e19bd375347817760e7ff4f2dac4935299a2d4c88419aed04304d", func := "loop.example/g00925/laws.FnExactIsTree", spec := "fnExactIsTree", unfollowed := true, recurses := true, apart := false }
def FnExactIsTreeSaid : Prop := fnExactIsTreeRow.holds Try.pinned (OpenSpec.ofChange fnExactIsTreeSpec)

/-- ITS FALSE NEIGHBOUR: 'it returns false'. Refute it at one input. -/
def fnExactIsTreeWrong : ChangeSpec := { name := "fnExactIsTree", fn := fun _ => fun
  | [d1, d2] => { results := [.lit (.bool false)], args := [d1, d2] }
  | _ => none }
def FnExactIsTreeWrongFalsely : Prop := fnExactIsTreeRow.holds Try.pinned (OpenSpec.ofChange fnExactIsTreeWrong)

/-- 'laws.FnExactCriticalLinks': WHATEVER THE INPUT: true; the input reads as it did. -/
def fnExactCriticalLinksSpec : ChangeSpec := { name := "fnExactCriticalLinks", fn := fun _ => fun
  | [d] => { results := [.lit (.bool true)], args := [d] }
  | _ => none }
def fnExactCriticalLinksRow : OpenClaim := { program := "ytgjgklkboldkfaa", sum := "0dfe7b1b749e19bd375347817760e7ff4f2dac4935299a2d4c88419aed04304d", func := "loop.example/g00925/laws.FnExactCriticalLinks", spec := "fnExactCriticalLinks", apart := false }
def FnExactCriticalLinksSaid : Prop := fnExactCriticalLinksRow.holds Try.pinned (OpenSpec.ofChange fnExactCriticalLinksSpec)

/-- ITS FALSE NEIGHBOUR: 'it returns false'. Refute it at one input. -/
def fnExactCriticalLinksWrong : ChangeSpec := { name := "fnExactCriticalLinks", fn := fun _ => fun
  | [d] => { results := [.lit (.bool false)], args := [d] }
  | _ => none }
def FnExactCriticalLinksWrongFalsely : Prop := fnExactCriticalLinksRow.holds Try.pinned (OpenSpec.ofChange fnExactCriticalLinksWrong)

/-- 'laws.FnExactLinksOf': WHATEVER THE INPUT: true; the input reads as it did. -/
def fnExactLinksOfSpec : ChangeSpec := { name := "fnExactLinksOf", fn := fun _ => fun
  | [d1, d2] => { results := [.lit (.bool true)], args := [d1, d2] }
  | _ => none }
def fnExactLinksOfRow : OpenClaim := { program := "ytgjgklkboldkfaa", sum := "0dfe7b1b749e19bd375347817760e7ff4f2dac4935299a2d4c88419aed04304d", func := "loop.example/g00925/laws.FnExactLinksOf", spec := "fnExactLinksOf", unfollowed := true, recurses := true, apart := false }
def FnExactLinksOfSaid : Prop := fnExactLinksOfRow.holds Try.pinned (OpenSpec.ofChange fnExactLinksOfSpec)

/-- ITS FALSE NEIGHBOUR: 'it returns false'. Refute it at one input. -/
def fnExactLinksOfWrong : ChangeSpec := { name := "fnExactLinksOf", fn := fun _ => fun
  | [d1, d2] => { results := [.lit (.bool false)], args := [d1, d2] }
  | _ => none }
def FnExactLinksOfWrongFalsely : Prop := fnExactLinksOfRow.holds Try.pinned (OpenSpec.ofChange fnExactLinksOfWrong)

/-- 'laws.FnExactRouteOutage': WHATEVER THE INPUT: true; the input reads as it did. -/
def fnExactRouteOutageSpec : ChangeSpec := { name := "fnExactRouteOutage", fn := fun _ => fun
  | [d1, d2] => { results := [.lit (.bool true)], args := [d1, d2] }
  | _ => none }
def fnExactRouteOutageRow : OpenClaim := { program := "ytgjgklkboldkfaa", sum := "0dfe7b1b749e19bd375347817760e7ff4f2dac4935299a2d4c88419aed04304d", func := "loop.example/g00925/laws.FnExactRouteOutage", spec := "fnExactRouteOutage", unfollowed := true, recurses := true, apart := false }
def FnExactRouteOutageSaid : Prop := fnExactRouteOutageRow.holds Try.pinned (OpenSpec.ofChange fnExactRouteOutageSpec)

/-- ITS FALSE NEIGHBOUR: 'it returns false'. Refute it at one input. -/
def fnExactRouteOutageWrong : ChangeSpec := { name := "fnExactRouteOutage", fn := fun _ => fun
  | [d1, d2] => { results := [.lit (.bool false)], args := [d1, d2] }
  | _ => none }
def FnExactRouteOutageWrongFalsely : Prop := fnExactRouteOutageRow.holds Try.pinned (OpenSpec.ofChange fnExactRouteOutageWrong)

/- THE SECOND FORM. 'bulk': how many values and letters a reading holds, each counted each time it is reached (what is shared counts as often as it is met; a slice's spare places count too). A statement '..UptoSaid' is the law's where the arguments, and the package variables that the reading takes, are together of bulk at most 1048576: NARROWER than '..Said'. Prove '..Said' where nothing that the law and all that it calls make is longer than what came in: it says more and counts as full. Else prove '..UptoSaid'. A law counts once. -/
mutual
def uptoBulk {H : Type} : DataW H → Nat
  | .lit (.string bytes) => bytes.length + 1
  | .lit _ => 1
  | .nil => 1
  | .ptr d => uptoBulk d + 1
  | .slice elems spare => uptoBulkAll elems + uptoBulkAll spare + 1
  | .agg parts => uptoBulkAll parts + 1
  | .iface _ d => uptoBulk d + 1
  | .map entries => uptoBulkEntries entries + 1
  | .held _ => 1
def uptoBulkAll {H : Type} : List (DataW H) → Nat
  | [] => 0
  | d :: r => uptoBulk d + uptoBulkAll r
def uptoBulkEntries {H : Type} : List (Lit × DataW H) → Nat
  | [] => 0
  | x :: r => uptoBulkEntry x + uptoBulkEntries r
def uptoBulkEntry {H : Type} : Lit × DataW H → Nat
  | (.string bytes, d) => bytes.length + uptoBulk d + 1
  | (_, d) => uptoBulk d + 1
 end
def uptoSmall : (H : Type) → List (DataW H) → Bool := fun _ ds => decide (uptoBulkAll ds ≤ 1048576)
def OpenSpec.upto (s : _root_.Go.ChangeSpec) : _root_.Go.OpenSpec := { _root_.Go.OpenSpec.ofChange s with cond := some uptoSmall }

/-- 'laws.FnExactSameBackhaul', WHERE WHAT IT READS IS OF BULK AT MOST 1048576: true; the input reads as it did. -/
def fnExactSameBackhaulUptoRow : OpenClaim := { program := "ytgjgklkboldkfaa", sum := "0dfe7b1b749e19bd375347817760e7ff4f2dac4935299a2d4c88419aed04304d", func := "loop.example/g00925/laws.FnExactSameBackhaul", spec := "fnExactSameBackhaul", apart := false, narrowed := true }
def FnExactSameBackhaulUptoSaid : Prop := fnExactSameBackhaulUptoRow.holds Try.pinned (OpenSpec.upto fnExactSameBackhaulSpec)

/-- 'laws.FnExactValidBackhaul', WHERE WHAT IT READS IS OF BULK AT MOST 1048576: true; the input reads as it did. -/
def fnExactValidBackhaulUptoRow : OpenClaim := { program := "ytgjgklkboldkfaa", sum := "0dfe7b1b749e19bd375347817760e7ff4f2dac4935299a2d4c88419aed04304d", func := "loop.example/g00925/laws.FnExactValidBackhaul", spec := "fnExactValidBackhaul", apart := false, narrowed := true }
def FnExactValidBackhaulUptoSaid : Prop := fnExactValidBackhaulUptoRow.holds Try.pinned (OpenSpec.upto fnExactValidBackhaulSpec)

/-- 'laws.FnExactOverloadsOf', WHERE WHAT IT READS IS OF BULK AT MOST 1048576: true; the input reads as it did. -/
def fnExactOverloadsOfUptoRow : OpenClaim := { program := "ytgjgklkboldkfaa", sum := "0dfe7b1b749e19bd375347817760e7ff4f2dac4935299a2d4c88419aed04304d", func := "loop.example/g00925/laws.FnExactOverloadsOf", spec := "fnExactOverloadsOf", apart := false, narrowed := true }
def FnExactOverloadsOfUptoSaid : Prop := fnExactOverloadsOfUptoRow.holds Try.pinned (OpenSpec.upto fnExactOverloadsOfSpec)

/-- 'laws.FnExactIsTree', WHERE WHAT IT READS IS OF BULK AT MOST 1048576: true; the input reads as it did. -/
def fnExactIsTreeUptoRow : OpenClaim := { program := "ytgjgklkboldkfaa", sum := "0dfe7b1b749e19bd375347817760e7ff4f2dac4935299a2d4c88419aed04304d", func := "loop.example/g00925/laws.FnExactIsTree", spec := "fnExactIsTree", unfollowed := true, recurses := true, apart := false, narrowed := true }
def FnExactIsTreeUptoSaid : Prop := fnExactIsTreeUptoRow.holds Try.pinned (OpenSpec.upto fnExactIsTreeSpec)

/-- 'laws.FnExactCriticalLinks', WHERE WHAT IT READS IS OF BULK AT MOST 1048576: true; the input reads as it did. -/
def fnExactCriticalLinksUptoRow : OpenClaim := { program := "ytgjgklkboldkfaa", sum := "0dfe7b1b749e19bd375347817760e7ff4f2dac4935299a2d4c88419aed04304d", func := "loop.example/g00925/laws.FnExactCriticalLinks", spec := "fnExactCriticalLinks", apart := false, narrowed := true }
def FnExactCriticalLinksUptoSaid : Prop := fnExactCriticalLinksUptoRow.holds Try.pinned (OpenSpec.upto fnExactCriticalLinksSpec)

/-- 'laws.FnExactLinksOf', WHERE WHAT IT READS IS OF BULK AT MOST 1048576: true; the input reads as it did. -/
def fnExactLinksOfUptoRow : OpenClaim := { program := "ytgjgklkboldkfaa", sum := "0dfe7b1b749e19bd375347817760e7ff4f2dac4935299a2d4c88419aed04304d", func := "loop.example/g00925/laws.FnExactLinksOf", spec := "fnExactLinksOf", unfollowed := true, recurses := true, apart := false, narrowed := true }
def FnExactLinksOfUptoSaid : Prop := fnExactLinksOfUptoRow.holds Try.pinned (OpenSpec.upto fnExactLinksOfSpec)

/-- 'laws.FnExactRouteOutage', WHERE WHAT IT READS IS OF BULK AT MOST 1048576: true; the input reads as it did. -/
def fnExactRouteOutageUptoRow : OpenClaim := { program := "ytgjgklkboldkfaa", sum := "0dfe7b1b749e19bd375347817760e7ff4f2dac4935299a2d4c88419aed04304d", func := "loop.example/g00925/laws.FnExactRouteOutage", spec := "fnExactRouteOutage", unfollowed := true, recurses := true, apart := false, narrowed := true }
def FnExactRouteOutageUptoSaid : Prop := fnExactRouteOutageUptoRow.holds Try.pinned (OpenSpec.upto fnExactRouteOutageSpec)

end Rows
end Go.Proofs.Ytgjgklkboldkfaa
