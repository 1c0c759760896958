/-
  No cell of these rows narrows 'for every input' (looked for: loops, veiled, ifaces, maps, wideKeys, modest, calm, conditions, laid).
  DERIVED. THE GIVEN ROWS OF THIS SEAT. 9 by the template 'for every input the law returns true; each argument reads behind the call as it read before'; 0 by the template 'total and deterministic' (their statements: YtglfcaioapdiaaaTotals.lean).
  GIVEN WITH THE SEED: the statements are not yours to turn. If you find one false, say at which input.
  Laid BY PROGRAM, IN A SANDBOX (cutbox-rows.mjs): the forced cells as the released guide's own fill.sh prints them over the translation bdc41e96170094a8… (all of the seat's roots in one cut). By AI agents, Wed Nov 11 2026. No macro, syntax, notation, axiom, sorry.
-/
import Derived.Test.YtglfcaioapdiaaaChecked
import GoSem.Claim
import GoSem.ClaimJoined
import GoSem.ClaimMapViews
import Derived.JoinedTies
import Derived.KernelRfl
namespace Go.Proofs.Ytglfcaioapdiaaa
/- THE CELL 'sum', in the pinned program and in every row, IS THE sha256 OF THE DUMP (.gsa) THAT YtglfcaioapdiaaaProg.lean LOADS. Nothing in Lean hashes anything: it is a label: what it is worth is what the hold of that sum in a sandbox is worth. -/
noncomputable def Try.pinned : Pinned := { name := "ytglfcaioapdiaaa", sum := "bdc41e96170094a8fcc111d5828b601c2a3637c0f04b0e425ebd5948683a17ff", checked := Try.checked }
namespace Rows
def none {H : Type} : Left H := { results := [], args := [] }

/-- 'laws.FnExactRouteOf': WHATEVER THE INPUT: true; the input reads as it did. -/
def fnExactRouteOfSpec : ChangeSpec := { name := "fnExactRouteOf", fn := fun _ => fun
  | [d1, d2, d3] => { results := [.lit (.bool true)], args := [d1, d2, d3] }
  | _ => none }
def fnExactRouteOfRow : OpenClaim := { program := "ytglfcaioapdiaaa", sum := "bdc41e96170094a8fcc111d5828b601c2a3637c0f04b0e425ebd5948683a17ff", func := "loop.example/g00925/laws.FnExactRouteOf", spec := "fnExactRouteOf", unfollowed := true, recurses := true, apart := false }
def FnExactRouteOfSaid : Prop := fnExactRouteOfRow.holds Try.pinned (OpenSpec.ofChange fnExactRouteOfSpec)

/-- ITS FALSE NEIGHBOUR: 'it returns false'. Refute it at one input. -/
def fnExactRouteOfWrong : ChangeSpec := { name := "fnExactRouteOf", fn := fun _ => fun
  | [d1, d2, d3] => { results := [.lit (.bool false)], args := [d1, d2, d3] }
  | _ => none }
def FnExactRouteOfWrongFalsely : Prop := fnExactRouteOfRow.holds Try.pinned (OpenSpec.ofChange fnExactRouteOfWrong)

/-- 'laws.FnExactBackupRoute': WHATEVER THE INPUT: true; the input reads as it did. -/
def fnExactBackupRouteSpec : ChangeSpec := { name := "fnExactBackupRoute", fn := fun _ => fun
  | [d1, d2, d3] => { results := [.lit (.bool true)], args := [d1, d2, d3] }
  | _ => none }
def fnExactBackupRouteRow : OpenClaim := { program := "ytglfcaioapdiaaa", sum := "bdc41e96170094a8fcc111d5828b601c2a3637c0f04b0e425ebd5948683a17ff", func := "loop.example/g00925/laws.FnExactBackupRoute", spec := "fnExactBackupRoute", unfollowed := true, recurses := true, apart := false }
def FnExactBackupRouteSaid : Prop := fnExactBackupRouteRow.holds Try.pinned (OpenSpec.ofChange fnExactBackupRouteSpec)

/-- ITS FALSE NEIGHBOUR: 'it returns false'. Refute it at one input. -/
def fnExactBackupRouteWrong : ChangeSpec := { name := "fnExactBackupRoute", fn := fun _ => fun
  | [d1, d2, d3] => { results := [.lit (.bool false)], args := [d1, d2, d3] }
  | _ => none }
def FnExactBackupRouteWrongFalsely : Prop := fnExactBackupRouteRow.holds Try.pinned (OpenSpec.ofChange fnExactBackupRouteWrong)

/-- 'laws.FnExactPairOutage': WHATEVER THE INPUT: true; the input reads as it did. -/
def fnExactPairOutageSpec : ChangeSpec := { name := "fnExactPairOutage", fn := fun _ => fun
  | [d1, d2, d3] => { results := [.lit (.bool true)], args := [d1, d2, d3] }
  | _ => none }
def fnExactPairOutageRow : OpenClaim := { program := "ytglfcaioapdiaaa", sum := "bdc41e96170094a8fcc111d5828b601c2a3637c0f04b0e425ebd5948683a17ff", func := "loop.example/g00925/laws.FnExactPairOutage", spec := "fnExactPairOutage", unfollowed := true, recurses := true, apart := false }
def FnExactPairOutageSaid : Prop := fnExactPairOutageRow.holds Try.pinned (OpenSpec.ofChange fnExactPairOutageSpec)

/-- ITS FALSE NEIGHBOUR: 'it returns false'. Refute it at one input. -/
def fnExactPairOutageWrong : ChangeSpec := { name := "fnExactPairOutage", fn := fun _ => fun
  | [d1, d2, d3] => { results := [.lit (.bool false)], args := [d1, d2, d3] }
  | _ => none }
def FnExactPairOutageWrongFalsely : Prop := fnExactPairOutageRow.holds Try.pinned (OpenSpec.ofChange fnExactPairOutageWrong)

/-- 'laws.FnExactLoadsOf': WHATEVER THE INPUT: true; the input reads as it did. -/
def fnExactLoadsOfSpec : ChangeSpec := { name := "fnExactLoadsOf", fn := fun _ => fun
  | [d1, d2, d3, d4] => { results := [.lit (.bool true)], args := [d1, d2, d3, d4] }
  | _ => none }
def fnExactLoadsOfRow : OpenClaim := { program := "ytglfcaioapdiaaa", sum := "bdc41e96170094a8fcc111d5828b601c2a3637c0f04b0e425ebd5948683a17ff", func := "loop.example/g00925/laws.FnExactLoadsOf", spec := "fnExactLoadsOf", unfollowed := true, recurses := true, apart := false }
def FnExactLoadsOfSaid : Prop := fnExactLoadsOfRow.holds Try.pinned (OpenSpec.ofChange fnExactLoadsOfSpec)

/-- ITS FALSE NEIGHBOUR: 'it returns false'. Refute it at one input. -/
def fnExactLoadsOfWrong : ChangeSpec := { name := "fnExactLoadsOf", fn := fun _ => fun
  | [d1, d2, d3, d4] => { results := [.lit (.bool false)], args := [d1, d2, d3, d4] }
  | _ => none }
def FnExactLoadsOfWrongFalsely : Prop := fnExactLoadsOfRow.holds Try.pinned (OpenSpec.ofChange fnExactLoadsOfWrong)

/-- 'laws.FnExactWidestRoute': WHATEVER THE INPUT: true; the input reads as it did. -/
def fnExactWidestRouteSpec : ChangeSpec := { name := "fnExactWidestRoute", fn := fun _ => fun
  | [d1, d2, d3] => { results := [.lit (.bool true)], args := [d1, d2, d3] }
  | _ => none }
def fnExactWidestRouteRow : OpenClaim := { program := "ytglfcaioapdiaaa", sum := "bdc41e96170094a8fcc111d5828b601c2a3637c0f04b0e425ebd5948683a17ff", func := "loop.example/g00925/laws.FnExactWidestRoute", spec := "fnExactWidestRoute", unfollowed := true, recurses := true, apart := false }
def FnExactWidestRouteSaid : Prop := fnExactWidestRouteRow.holds Try.pinned (OpenSpec.ofChange fnExactWidestRouteSpec)

/-- ITS FALSE NEIGHBOUR: 'it returns false'. Refute it at one input. -/
def fnExactWidestRouteWrong : ChangeSpec := { name := "fnExactWidestRoute", fn := fun _ => fun
  | [d1, d2, d3] => { results := [.lit (.bool false)], args := [d1, d2, d3] }
  | _ => none }
def FnExactWidestRouteWrongFalsely : Prop := fnExactWidestRouteRow.holds Try.pinned (OpenSpec.ofChange fnExactWidestRouteWrong)

/-- 'laws.FnExactSpanningTree': WHATEVER THE INPUT: true; the input reads as it did. -/
def fnExactSpanningTreeSpec : ChangeSpec := { name := "fnExactSpanningTree", fn := fun _ => fun
  | [d] => { results := [.lit (.bool true)], args := [d] }
  | _ => none }
def fnExactSpanningTreeRow : OpenClaim := { program := "ytglfcaioapdiaaa", sum := "bdc41e96170094a8fcc111d5828b601c2a3637c0f04b0e425ebd5948683a17ff", func := "loop.example/g00925/laws.FnExactSpanningTree", spec := "fnExactSpanningTree", unfollowed := true, recurses := true, apart := false }
def FnExactSpanningTreeSaid : Prop := fnExactSpanningTreeRow.holds Try.pinned (OpenSpec.ofChange fnExactSpanningTreeSpec)

/-- ITS FALSE NEIGHBOUR: 'it returns false'. Refute it at one input. -/
def fnExactSpanningTreeWrong : ChangeSpec := { name := "fnExactSpanningTree", fn := fun _ => fun
  | [d] => { results := [.lit (.bool false)], args := [d] }
  | _ => none }
def FnExactSpanningTreeWrongFalsely : Prop := fnExactSpanningTreeRow.holds Try.pinned (OpenSpec.ofChange fnExactSpanningTreeWrong)

/-- 'laws.FnRings': WHATEVER THE INPUT: true; the input reads as it did. -/
def fnRingsSpec : ChangeSpec := { name := "fnRings", fn := fun _ => fun
  | [d] => { results := [.lit (.bool true)], args := [d] }
  | _ => none }
def fnRingsRow : OpenClaim := { program := "ytglfcaioapdiaaa", sum := "bdc41e96170094a8fcc111d5828b601c2a3637c0f04b0e425ebd5948683a17ff", func := "loop.example/g00925/laws.FnRings", spec := "fnRings", unfollowed := true, recurses := true, apart := false }
def FnRingsSaid : Prop := fnRingsRow.holds Try.pinned (OpenSpec.ofChange fnRingsSpec)

/-- ITS FALSE NEIGHBOUR: 'it returns false'. Refute it at one input. -/
def fnRingsWrong : ChangeSpec := { name := "fnRings", fn := fun _ => fun
  | [d] => { results := [.lit (.bool false)], args := [d] }
  | _ => none }
def FnRingsWrongFalsely : Prop := fnRingsRow.holds Try.pinned (OpenSpec.ofChange fnRingsWrong)

/-- 'laws.FnBackhaul': WHATEVER THE INPUT: true; the input reads as it did. -/
def fnBackhaulSpec : ChangeSpec := { name := "fnBackhaul", fn := fun _ => fun
  | [d1, d2] => { results := [.lit (.bool true)], args := [d1, d2] }
  | _ => none }
def fnBackhaulRow : OpenClaim := { program := "ytglfcaioapdiaaa", sum := "bdc41e96170094a8fcc111d5828b601c2a3637c0f04b0e425ebd5948683a17ff", func := "loop.example/g00925/laws.FnBackhaul", spec := "fnBackhaul", unfollowed := true, recurses := true, apart := false }
def FnBackhaulSaid : Prop := fnBackhaulRow.holds Try.pinned (OpenSpec.ofChange fnBackhaulSpec)

/-- ITS FALSE NEIGHBOUR: 'it returns false'. Refute it at one input. -/
def fnBackhaulWrong : ChangeSpec := { name := "fnBackhaul", fn := fun _ => fun
  | [d1, d2] => { results := [.lit (.bool false)], args := [d1, d2] }
  | _ => none }
def FnBackhaulWrongFalsely : Prop := fnBackhaulRow.holds Try.pinned (OpenSpec.ofChange fnBackhaulWrong)

/-- 'laws.FnTrees': WHATEVER THE INPUT: true; the input reads as it did. -/
def fnTreesSpec : ChangeSpec := { name := "fnTrees", fn := fun _ => fun
  | [d1, d2] => { results := [.lit (.bool true)], args := [d1, d2] }
  | _ => none }
def fnTreesRow : OpenClaim := { program := "ytglfcaioapdiaaa", sum := "bdc41e96170094a8fcc111d5828b601c2a3637c0f04b0e425ebd5948683a17ff", func := "loop.example/g00925/laws.FnTrees", spec := "fnTrees", unfollowed := true, recurses := true, apart := false }
def FnTreesSaid : Prop := fnTreesRow.holds Try.pinned (OpenSpec.ofChange fnTreesSpec)

/-- ITS FALSE NEIGHBOUR: 'it returns false'. Refute it at one input. -/
def fnTreesWrong : ChangeSpec := { name := "fnTrees", fn := fun _ => fun
  | [d1, d2] => { results := [.lit (.bool false)], args := [d1, d2] }
  | _ => none }
def FnTreesWrongFalsely : Prop := fnTreesRow.holds Try.pinned (OpenSpec.ofChange fnTreesWrong)

/- THE SECOND FORM. 'bulk': how many values and letters a reading holds, each counted each time it is reached (what is shared counts as often as it is met; a slice's spare places count too). A statement '..UptoSaid' is the law's where the arguments, and the package variables that the reading takes, are together of bulk at most 1048576: NARROWER than '..Said'. Prove '..Said' where nothing that the law and all that it calls make is longer than what came in: it says more and counts as full. Else prove '..UptoSaid'. A law counts once. -/
mutual
def uptoBulk {H : Type} : DataW H → Nat
  | .lit (.string bytes) => bytes.length + 1
  | .lit _ => 1
  | .nil => 1
  | .ptr d => uptoBulk d + 1
  | .slice elems spare => uptoBulkAll elems + uptoBulkAll spare + 1
  | .agg parts => uptoBulkAll parts + 1
  | .iface _ d => uptoBulk d + 1
  | .map entries => uptoBulkEntries entries + 1
  | .held _ => 1
def uptoBulkAll {H : Type} : List (DataW H) → Nat
  | [] => 0
  | d :: r => uptoBulk d + uptoBulkAll r
def uptoBulkEntries {H : Type} : List (Lit × DataW H) → Nat
  | [] => 0
  | x :: r => uptoBulkEntry x + uptoBulkEntries r
def uptoBulkEntry {H : Type} : Lit × DataW H → Nat
  | (.string bytes, d) => bytes.length + uptoBulk d + 1
  | (_, d) => uptoBulk d + 1
 end
def uptoSmall : (H : Type) → List (DataW H) → Bool := fun _ ds => decide (uptoBulkAll ds ≤ 1048576)
def OpenSpec.upto (s : _root_.Go.ChangeSpec) : _root_.Go.OpenSpec := { _root_.Go.OpenSpec.ofChange s with cond := some uptoSmall }

/-- 'laws.FnExactRouteOf', WHERE WHAT IT READS IS OF BULK AT MOST 1048576: true; the input reads as it did. -/
def fnExactRouteOfUptoRow : OpenClaim := { program := "ytglfcaioapdiaaa", sum := "bdc41e96170094a8fcc111d5828b601c2a3637c0f04b0e425ebd5948683a17ff", func := "loop.example/g00925/laws.FnExactRouteOf", spec := "fnExactRouteOf", unfollowed := true, recurses := true, apart := false, narrowed := true }
def FnExactRouteOfUptoSaid : Prop := fnExactRouteOfUptoRow.holds Try.pinned (OpenSpec.upto fnExactRouteOfSpec)

/-- 'laws.FnExactBackupRoute', WHERE WHAT IT READS IS OF BULK AT MOST 1048576: true; the input reads as it did. -/
def fnExactBackupRouteUptoRow : OpenClaim := { program := "ytglfcaioapdiaaa", sum := "bdc41e96170094a8fcc111d5828b601c2a3637c0f04b0e425ebd5948683a17ff", func := "loop.example/g00925/laws.FnExactBackupRoute", spec := "fnExactBackupRoute", unfollowed := true, recurses := true, apart := false, narrowed := true }
def FnExactBackupRouteUptoSaid : Prop := fnExactBackupRouteUptoRow.holds Try.pinned (OpenSpec.upto fnExactBackupRouteSpec)

/-- 'laws.FnExactPairOutage', WHERE WHAT IT READS IS OF BULK AT MOST 1048576: true; the input reads as it did. -/
def fnExactPairOutageUptoRow : OpenClaim := { program := "ytglfcaioapdiaaa", sum := "bdc41e96170094a8fcc111d5828b601c2a3637c0f04b0e425ebd5948683a17ff", func := "loop.example/g00925/laws.FnExactPairOutage", spec := "fnExactPairOutage", unfollowed := true, recurses := true, apart := false, narrowed := true }
def FnExactPairOutageUptoSaid : Prop := fnExactPairOutageUptoRow.holds Try.pinned (OpenSpec.upto fnExactPairOutageSpec)

/-- 'laws.FnExactLoadsOf', WHERE WHAT IT READS IS OF BULK AT MOST 1048576: true; the input reads as it did. -/
def fnExactLoadsOfUptoRow : OpenClaim := { program := "ytglfcaioapdiaaa", sum := "bdc41e96170094a8fcc111d5828b601c2a3637c0f04b0e425ebd5948683a17ff", func := "loop.example/g00925/laws.FnExactLoadsOf", spec := "fnExactLoadsOf", unfollowed := true, recurses := true, apart := false, narrowed := true }
def FnExactLoadsOfUptoSaid : Prop := fnExactLoadsOfUptoRow.holds Try.pinned (OpenSpec.upto fnExactLoadsOfSpec)

/-- 'laws.FnExactWidestRoute', WHERE WHAT IT READS IS OF BULK AT MOST 1048576: true; the input reads as it did. -/
def fnExactWidestRouteUptoRow : OpenClaim := { program := "ytglfcaioapdiaaa", sum := "bdc41e96170094a8fcc111d5828b601c2a3637c0f04b0e425ebd5948683a17ff", func := "loop.example/g00925/laws.FnExactWidestRoute", spec := "fnExactWidestRoute", unfollowed := true, recurses := true, apart := false, narrowed := true }
def FnExactWidestRouteUptoSaid : Prop := fnExactWidestRouteUptoRow.holds Try.pinned (OpenSpec.upto fnExactWidestRouteSpec)

/-- 'laws.FnExactSpanningTree', WHERE WHAT IT READS IS OF BULK AT MOST 1048576: true; the input reads as it did. -/
def fnExactSpanningTreeUptoRow : OpenClaim := { program := "ytglfcaioapdiaaa", sum := "bdc41e96170094a8fcc111d5828b601c2a3637c0f04b0e425ebd5948683a17ff", func := "loop.example/g00925/laws.FnExactSpanningTree", spec := "fnExactSpanningTree", unfollowed := true, recurses := true, apart := false, narrowed := true }
def FnExactSpanningTreeUptoSaid : Prop := fnExactSpanningTreeUptoRow.holds Try.pinned (OpenSpec.upto fnExactSpanningTreeSpec)

/-- 'laws.FnRings', WHERE WHAT IT READS IS OF BULK AT MOST 1048576: true; the input reads as it did. -/
def fnRingsUptoRow : OpenClaim := { program := "ytglfcaioapdiaaa", sum := "bdc41e96170094a8fcc111d5828b601c2a3637c0f04b0e425ebd5948683a17ff", func := "loop.example/g00925/laws.FnRings", spec := "fnRings", unfollowed := true, recurses := true, apart := false, narrowed := true }
def FnRingsUptoSaid : Prop := fnRingsUptoRow.holds Try.pinned (OpenSpec.upto fnRingsSpec)

/-- 'laws.FnBackhaul', WHERE WHAT IT READS IS OF BULK AT MOST 1048576: true; the input reads as it did. -/
def fnBackhaulUptoRow : OpenClaim := { program := "ytglfcaioapdiaaa", sum := "bdc41e96170094a8fcc111d5828b601c2a3637c0f04b0e425ebd5948683a17ff", func := "loop.example/g00925/laws.FnBackhaul", spec := "fnBackhaul", unfollowed := true, recurses := true, apart := false, narrowed := true }
def FnBackhaulUptoSaid : Prop := fnBackhaulUptoRow.holds Try.pinned (OpenSpec.upto fnBackhaulSpec)

/-- 'laws.FnTrees', WHERE WHAT IT READS IS OF BULK AT MOST 1048576: true; the input reads as it did. -/
def fnTreesUptoRow : OpenClaim := { program := "ytglfcaioapdiaaa", sum := "bdc41e96170094a8fcc111d5828b601c2a3637c0f04b0e425ebd5948683a17ff", func := "loop.example/g00925/laws.FnTrees", spec := "fnTrees", unfollowed := true, recurses := true, apart := false, narrowed := true }
def FnTreesUptoSaid : Prop := fnTreesUptoRow.holds Try.pinned (OpenSpec.upto fnTreesSpec)

end Rows
end Go.Proofs.Ytglfcaioapdiaaa
