/-
  No cell of these rows narrows 'for every input' (looked for: loops, veiled, ifaces, maps, wideKeys, modest, calm, conditions, laid).
  DERIVED. THE GIVEN ROWS OF THIS SEAT. 12 by the template 'for every input the law returns true; each argument reads behind the call as it read before'; 0 by the template 'total and deterministic' (their statements: YtkogkkbiocejkaaTotals.lean).
  GIVEN WITH THE SEED: the statements are not yours to turn. If you find one false, say at which input.
  Laid BY PROGRAM, IN A SANDBOX (cutbox-rows.mjs): the forced cells as the released guide's own fill.sh prints them over the translation 66802f1e3fb285ab… (all of the seat's roots in one cut). By AI agents, Wed Nov 11 2026. No macro, syntax, notation, axiom, sorry.
-/
import Derived.Test.YtkogkkbiocejkaaChecked
import GoSem.Claim
import GoSem.ClaimJoined
import GoSem.ClaimMapViews
import Derived.JoinedTies
import Derived.KernelRfl
namespace Go.Proofs.Ytkogkkbiocejkaa
/- THE CELL 'sum', in the pinned program and in every row, IS THE sha256 OF THE DUMP (.gsa) THAT YtkogkkbiocejkaaProg.lean LOADS. Nothing in Lean hashes anything: it is a label: what it is worth is what the hold of that sum in a sandbox is worth. -/
noncomputable def Try.pinned : Pinned := { name := "ytkogkkbiocejkaa", sum := "66802f1e3fb285ab52bf3f3c2635fca0daa12a39ba07abca6ca7c217ccdcc91f", checked := Try.checked }
namespace Rows
def none {H : Type} : Left H := { results := [], args := [] }

/-- 'laws.FnExactOfferedBy': WHATEVER THE INPUT: true; the input reads as it did. -/
def fnExactOfferedBySpec : ChangeSpec := { name := "fnExactOfferedBy", fn := fun _ => fun
  | [d1, d2, d3] => { results := [.lit (.bool true)], args := [d1, d2, d3] }
  | _ => none }
def fnExactOfferedByRow : OpenClaim := { program := "ytkogkkbiocejkaa", sum := "66802f1e3fb285ab52bf3f3c2635fca0daa12a39ba07abca6ca7c217ccdcc91f", func := "loop.example/g00925/laws.FnExactOfferedBy", spec := "fnExactOfferedBy", apart := false }
def FnExactOfferedBySaid : Prop := fnExactOfferedByRow.holds Try.pinned (OpenSpec.ofChange fnExactOfferedBySpec)

/-- ITS FALSE NEIGHBOUR: 'it returns false'. Refute it at one input. -/
def fnExactOfferedByWrong : ChangeSpec := { name := "fnExactOfferedBy", fn := fun _ => fun
  | [d1, d2, d3] => { results := [.lit (.bool false)], args := [d1, d2, d3] }
  | _ => none }
def FnExactOfferedByWrongFalsely : Prop := fnExactOfferedByRow.holds Try.pinned (OpenSpec.ofChange fnExactOfferedByWrong)

/-- 'laws.FnExactErlangB': WHATEVER THE INPUT: true; the input reads as it did. -/
def fnExactErlangBSpec : ChangeSpec := { name := "fnExactErlangB", fn := fun _ => fun
  | [d1, d2] => { results := [.lit (.bool true)], args := [d1, d2] }
  | _ => none }
def fnExactErlangBRow : OpenClaim := { program := "ytkogkkbiocejkaa", sum := "66802f1e3fb285ab52bf3f3c2635fca0daa12a39ba07abca6ca7c217ccdcc91f", func := "loop.example/g00925/laws.FnExactErlangB", spec := "fnExactErlangB", apart := false }
def FnExactErlangBSaid : Prop := fnExactErlangBRow.holds Try.pinned (OpenSpec.ofChange fnExactErlangBSpec)

/-- ITS FALSE NEIGHBOUR: 'it returns false'. Refute it at one input. -/
def fnExactErlangBWrong : ChangeSpec := { name := "fnExactErlangB", fn := fun _ => fun
  | [d1, d2] => { results := [.lit (.bool false)], args := [d1, d2] }
  | _ => none }
def FnExactErlangBWrongFalsely : Prop := fnExactErlangBRow.holds Try.pinned (OpenSpec.ofChange fnExactErlangBWrong)

/-- 'laws.FnExactCarriedLoad': WHATEVER THE INPUT: true; the input reads as it did. -/
def fnExactCarriedLoadSpec : ChangeSpec := { name := "fnExactCarriedLoad", fn := fun _ => fun
  | [d1, d2] => { results := [.lit (.bool true)], args := [d1, d2] }
  | _ => none }
def fnExactCarriedLoadRow : OpenClaim := { program := "ytkogkkbiocejkaa", sum := "66802f1e3fb285ab52bf3f3c2635fca0daa12a39ba07abca6ca7c217ccdcc91f", func := "loop.example/g00925/laws.FnExactCarriedLoad", spec := "fnExactCarriedLoad", apart := false }
def FnExactCarriedLoadSaid : Prop := fnExactCarriedLoadRow.holds Try.pinned (OpenSpec.ofChange fnExactCarriedLoadSpec)

/-- ITS FALSE NEIGHBOUR: 'it returns false'. Refute it at one input. -/
def fnExactCarriedLoadWrong : ChangeSpec := { name := "fnExactCarriedLoad", fn := fun _ => fun
  | [d1, d2] => { results := [.lit (.bool false)], args := [d1, d2] }
  | _ => none }
def FnExactCarriedLoadWrongFalsely : Prop := fnExactCarriedLoadRow.holds Try.pinned (OpenSpec.ofChange fnExactCarriedLoadWrong)

/-- 'laws.FnExactOverflowLoad': WHATEVER THE INPUT: true; the input reads as it did. -/
def fnExactOverflowLoadSpec : ChangeSpec := { name := "fnExactOverflowLoad", fn := fun _ => fun
  | [d1, d2] => { results := [.lit (.bool true)], args := [d1, d2] }
  | _ => none }
def fnExactOverflowLoadRow : OpenClaim := { program := "ytkogkkbiocejkaa", sum := "66802f1e3fb285ab52bf3f3c2635fca0daa12a39ba07abca6ca7c217ccdcc91f", func := "loop.example/g00925/laws.FnExactOverflowLoad", spec := "fnExactOverflowLoad", apart := false }
def FnExactOverflowLoadSaid : Prop := fnExactOverflowLoadRow.holds Try.pinned (OpenSpec.ofChange fnExactOverflowLoadSpec)

/-- ITS FALSE NEIGHBOUR: 'it returns false'. Refute it at one input. -/
def fnExactOverflowLoadWrong : ChangeSpec := { name := "fnExactOverflowLoad", fn := fun _ => fun
  | [d1, d2] => { results := [.lit (.bool false)], args := [d1, d2] }
  | _ => none }
def FnExactOverflowLoadWrongFalsely : Prop := fnExactOverflowLoadRow.holds Try.pinned (OpenSpec.ofChange fnExactOverflowLoadWrong)

/-- 'laws.FnErlang': WHATEVER THE INPUT: true; the input reads as it did. -/
def fnErlangSpec : ChangeSpec := { name := "fnErlang", fn := fun _ => fun
  | [d] => { results := [.lit (.bool true)], args := [d] }
  | _ => none }
def fnErlangRow : OpenClaim := { program := "ytkogkkbiocejkaa", sum := "66802f1e3fb285ab52bf3f3c2635fca0daa12a39ba07abca6ca7c217ccdcc91f", func := "loop.example/g00925/laws.FnErlang", spec := "fnErlang", unfollowed := true, recurses := true, apart := false }
def FnErlangSaid : Prop := fnErlangRow.holds Try.pinned (OpenSpec.ofChange fnErlangSpec)

/-- ITS FALSE NEIGHBOUR: 'it returns false'. Refute it at one input. -/
def fnErlangWrong : ChangeSpec := { name := "fnErlang", fn := fun _ => fun
  | [d] => { results := [.lit (.bool false)], args := [d] }
  | _ => none }
def FnErlangWrongFalsely : Prop := fnErlangRow.holds Try.pinned (OpenSpec.ofChange fnErlangWrong)

/-- 'laws.FnExactErlangC': WHATEVER THE INPUT: true; the input reads as it did. -/
def fnExactErlangCSpec : ChangeSpec := { name := "fnExactErlangC", fn := fun _ => fun
  | [d1, d2] => { results := [.lit (.bool true)], args := [d1, d2] }
  | _ => none }
def fnExactErlangCRow : OpenClaim := { program := "ytkogkkbiocejkaa", sum := "66802f1e3fb285ab52bf3f3c2635fca0daa12a39ba07abca6ca7c217ccdcc91f", func := "loop.example/g00925/laws.FnExactErlangC", spec := "fnExactErlangC", apart := false }
def FnExactErlangCSaid : Prop := fnExactErlangCRow.holds Try.pinned (OpenSpec.ofChange fnExactErlangCSpec)

/-- ITS FALSE NEIGHBOUR: 'it returns false'. Refute it at one input. -/
def fnExactErlangCWrong : ChangeSpec := { name := "fnExactErlangC", fn := fun _ => fun
  | [d1, d2] => { results := [.lit (.bool false)], args := [d1, d2] }
  | _ => none }
def FnExactErlangCWrongFalsely : Prop := fnExactErlangCRow.holds Try.pinned (OpenSpec.ofChange fnExactErlangCWrong)

/-- 'laws.FnExactChannelsFor': WHATEVER THE INPUT: true; the input reads as it did. -/
def fnExactChannelsForSpec : ChangeSpec := { name := "fnExactChannelsFor", fn := fun _ => fun
  | [d1, d2] => { results := [.lit (.bool true)], args := [d1, d2] }
  | _ => none }
def fnExactChannelsForRow : OpenClaim := { program := "ytkogkkbiocejkaa", sum := "66802f1e3fb285ab52bf3f3c2635fca0daa12a39ba07abca6ca7c217ccdcc91f", func := "loop.example/g00925/laws.FnExactChannelsFor", spec := "fnExactChannelsFor", apart := false }
def FnExactChannelsForSaid : Prop := fnExactChannelsForRow.holds Try.pinned (OpenSpec.ofChange fnExactChannelsForSpec)

/-- ITS FALSE NEIGHBOUR: 'it returns false'. Refute it at one input. -/
def fnExactChannelsForWrong : ChangeSpec := { name := "fnExactChannelsFor", fn := fun _ => fun
  | [d1, d2] => { results := [.lit (.bool false)], args := [d1, d2] }
  | _ => none }
def FnExactChannelsForWrongFalsely : Prop := fnExactChannelsForRow.holds Try.pinned (OpenSpec.ofChange fnExactChannelsForWrong)

/-- 'laws.FnExactBusyHour': WHATEVER THE INPUT: true; the input reads as it did. -/
def fnExactBusyHourSpec : ChangeSpec := { name := "fnExactBusyHour", fn := fun _ => fun
  | [d1, d2] => { results := [.lit (.bool true)], args := [d1, d2] }
  | _ => none }
def fnExactBusyHourRow : OpenClaim := { program := "ytkogkkbiocejkaa", sum := "66802f1e3fb285ab52bf3f3c2635fca0daa12a39ba07abca6ca7c217ccdcc91f", func := "loop.example/g00925/laws.FnExactBusyHour", spec := "fnExactBusyHour", unfollowed := true, recurses := true, apart := false }
def FnExactBusyHourSaid : Prop := fnExactBusyHourRow.holds Try.pinned (OpenSpec.ofChange fnExactBusyHourSpec)

/-- ITS FALSE NEIGHBOUR: 'it returns false'. Refute it at one input. -/
def fnExactBusyHourWrong : ChangeSpec := { name := "fnExactBusyHour", fn := fun _ => fun
  | [d1, d2] => { results := [.lit (.bool false)], args := [d1, d2] }
  | _ => none }
def FnExactBusyHourWrongFalsely : Prop := fnExactBusyHourRow.holds Try.pinned (OpenSpec.ofChange fnExactBusyHourWrong)

/-- 'laws.FnExactShareLoad': WHATEVER THE INPUT: true; the input reads as it did. -/
def fnExactShareLoadSpec : ChangeSpec := { name := "fnExactShareLoad", fn := fun _ => fun
  | [d1, d2] => { results := [.lit (.bool true)], args := [d1, d2] }
  | _ => none }
def fnExactShareLoadRow : OpenClaim := { program := "ytkogkkbiocejkaa", sum := "66802f1e3fb285ab52bf3f3c2635fca0daa12a39ba07abca6ca7c217ccdcc91f", func := "loop.example/g00925/laws.FnExactShareLoad", spec := "fnExactShareLoad", unfollowed := true, recurses := true, apart := false }
def FnExactShareLoadSaid : Prop := fnExactShareLoadRow.holds Try.pinned (OpenSpec.ofChange fnExactShareLoadSpec)

/-- ITS FALSE NEIGHBOUR: 'it returns false'. Refute it at one input. -/
def fnExactShareLoadWrong : ChangeSpec := { name := "fnExactShareLoad", fn := fun _ => fun
  | [d1, d2] => { results := [.lit (.bool false)], args := [d1, d2] }
  | _ => none }
def FnExactShareLoadWrongFalsely : Prop := fnExactShareLoadRow.holds Try.pinned (OpenSpec.ofChange fnExactShareLoadWrong)

/-- 'laws.FnExactLoadFor': WHATEVER THE INPUT: true; the input reads as it did. -/
def fnExactLoadForSpec : ChangeSpec := { name := "fnExactLoadFor", fn := fun _ => fun
  | [d1, d2] => { results := [.lit (.bool true)], args := [d1, d2] }
  | _ => none }
def fnExactLoadForRow : OpenClaim := { program := "ytkogkkbiocejkaa", sum := "66802f1e3fb285ab52bf3f3c2635fca0daa12a39ba07abca6ca7c217ccdcc91f", func := "loop.example/g00925/laws.FnExactLoadFor", spec := "fnExactLoadFor", unfollowed := true, recurses := true, apart := false }
def FnExactLoadForSaid : Prop := fnExactLoadForRow.holds Try.pinned (OpenSpec.ofChange fnExactLoadForSpec)

/-- ITS FALSE NEIGHBOUR: 'it returns false'. Refute it at one input. -/
def fnExactLoadForWrong : ChangeSpec := { name := "fnExactLoadFor", fn := fun _ => fun
  | [d1, d2] => { results := [.lit (.bool false)], args := [d1, d2] }
  | _ => none }
def FnExactLoadForWrongFalsely : Prop := fnExactLoadForRow.holds Try.pinned (OpenSpec.ofChange fnExactLoadForWrong)

/-- 'laws.FnTraffic': WHATEVER THE INPUT: true; the input reads as it did. -/
def fnTrafficSpec : ChangeSpec := { name := "fnTraffic", fn := fun _ => fun
  | [d1, d2] => { results := [.lit (.bool true)], args := [d1, d2] }
  | _ => none }
def fnTrafficRow : OpenClaim := { program := "ytkogkkbiocejkaa", sum := "66802f1e3fb285ab52bf3f3c2635fca0daa12a39ba07abca6ca7c217ccdcc91f", func := "loop.example/g00925/laws.FnTraffic", spec := "fnTraffic", unfollowed := true, recurses := true, apart := false }
def FnTrafficSaid : Prop := fnTrafficRow.holds Try.pinned (OpenSpec.ofChange fnTrafficSpec)

/-- ITS FALSE NEIGHBOUR: 'it returns false'. Refute it at one input. -/
def fnTrafficWrong : ChangeSpec := { name := "fnTraffic", fn := fun _ => fun
  | [d1, d2] => { results := [.lit (.bool false)], args := [d1, d2] }
  | _ => none }
def FnTrafficWrongFalsely : Prop := fnTrafficRow.holds Try.pinned (OpenSpec.ofChange fnTrafficWrong)

/-- 'laws.FnExactPlanChannels': WHATEVER THE INPUT: true; the input reads as it did. -/
def fnExactPlanChannelsSpec : ChangeSpec := { name := "fnExactPlanChannels", fn := fun _ => fun
  | [d1, d2, d3] => { results := [.lit (.bool true)], args := [d1, d2, d3] }
  | _ => none }
def fnExactPlanChannelsRow : OpenClaim := { program := "ytkogkkbiocejkaa", sum := "66802f1e3fb285ab52bf3f3c2635fca0daa12a39ba07abca6ca7c217ccdcc91f", func := "loop.example/g00925/laws.FnExactPlanChannels", spec := "fnExactPlanChannels", unfollowed := true, recurses := true, apart := false }
def FnExactPlanChannelsSaid : Prop := fnExactPlanChannelsRow.holds Try.pinned (OpenSpec.ofChange fnExactPlanChannelsSpec)

/-- ITS FALSE NEIGHBOUR: 'it returns false'. Refute it at one input. -/
def fnExactPlanChannelsWrong : ChangeSpec := { name := "fnExactPlanChannels", fn := fun _ => fun
  | [d1, d2, d3] => { results := [.lit (.bool false)], args := [d1, d2, d3] }
  | _ => none }
def FnExactPlanChannelsWrongFalsely : Prop := fnExactPlanChannelsRow.holds Try.pinned (OpenSpec.ofChange fnExactPlanChannelsWrong)

/- THE SECOND FORM. 'bulk': how many values and letters a reading holds, each counted each time it is reached (what is shared counts as often as it is met; a slice's spare places count too). A statement '..UptoSaid' is the law's where the arguments, and the package variables that the reading takes, are together of bulk at most 1048576: NARROWER than '..Said'. Prove '..Said' where nothing that the law and all that it calls make is longer than what came in: it says more and counts as full. Else prove '..UptoSaid'. A law counts once. -/
mutual
def uptoBulk {H : Type} : DataW H → Nat
  | .lit (.string bytes) => bytes.length + 1
  | .lit _ => 1
  | .nil => 1
  | .ptr d => uptoBulk d + 1
  | .slice elems spare => uptoBulkAll elems + uptoBulkAll spare + 1
  | .agg parts => uptoBulkAll parts + 1
  | .iface _ d => uptoBulk d + 1
  | .map entries => uptoBulkEntries entries + 1
  | .held _ => 1
def uptoBulkAll {H : Type} : List (DataW H) → Nat
  | [] => 0
  | d :: r => uptoBulk d + uptoBulkAll r
def uptoBulkEntries {H : Type} : List (Lit × DataW H) → Nat
  | [] => 0
  | x :: r => uptoBulkEntry x + uptoBulkEntries r
def uptoBulkEntry {H : Type} : Lit × DataW H → Nat
  | (.string bytes, d) => bytes.length + uptoBulk d + 1
  | (_, d) => uptoBulk d + 1
 end
def uptoSmall : (H : Type) → List (DataW H) → Bool := fun _ ds => decide (uptoBulkAll ds ≤ 1048576)
def OpenSpec.upto (s : _root_.Go.ChangeSpec) : _root_.Go.OpenSpec := { _root_.Go.OpenSpec.ofChange s with cond := some uptoSmall }

/-- 'laws.FnExactOfferedBy', WHERE WHAT IT READS IS OF BULK AT MOST 1048576: true; the input reads as it did. -/
def fnExactOfferedByUptoRow : OpenClaim := { program := "ytkogkkbiocejkaa", sum := "66802f1e3fb285ab52bf3f3c2635fca0daa12a39ba07abca6ca7c217ccdcc91f", func := "loop.example/g00925/laws.FnExactOfferedBy", spec := "fnExactOfferedBy", apart := false, narrowed := true }
def FnExactOfferedByUptoSaid : Prop := fnExactOfferedByUptoRow.holds Try.pinned (OpenSpec.upto fnExactOfferedBySpec)

/-- 'laws.FnExactErlangB', WHERE WHAT IT READS IS OF BULK AT MOST 1048576: true; the input reads as it did. -/
def fnExactErlangBUptoRow : OpenClaim := { program := "ytkogkkbiocejkaa", sum := "66802f1e3fb285ab52bf3f3c2635fca0daa12a39ba07abca6ca7c217ccdcc91f", func := "loop.example/g00925/laws.FnExactErlangB", spec := "fnExactErlangB", apart := false, narrowed := true }
def FnExactErlangBUptoSaid : Prop := fnExactErlangBUptoRow.holds Try.pinned (OpenSpec.upto fnExactErlangBSpec)

/-- 'laws.FnExactCarriedLoad', WHERE WHAT IT READS IS OF BULK AT MOST 1048576: true; the input reads as it did. -/
def fnExactCarriedLoadUptoRow : OpenClaim := { program := "ytkogkkbiocejkaa", sum := "66802f1e3fb285ab52bf3f3c2635fca0daa12a39ba07abca6ca7c217ccdcc91f", func := "loop.example/g00925/laws.FnExactCarriedLoad", spec := "fnExactCarriedLoad", apart := false, narrowed := true }
def FnExactCarriedLoadUptoSaid : Prop := fnExactCarriedLoadUptoRow.holds Try.pinned (OpenSpec.upto fnExactCarriedLoadSpec)

/-- 'laws.FnExactOverflowLoad', WHERE WHAT IT READS IS OF BULK AT MOST 1048576: true; the input reads as it did. -/
def fnExactOverflowLoadUptoRow : OpenClaim := { program := "ytkogkkbiocejkaa", sum := "66802f1e3fb285ab52bf3f3c2635fca0daa12a39ba07abca6ca7c217ccdcc91f", func := "loop.example/g00925/laws.FnExactOverflowLoad", spec := "fnExactOverflowLoad", apart := false, narrowed := true }
def FnExactOverflowLoadUptoSaid : Prop := fnExactOverflowLoadUptoRow.holds Try.pinned (OpenSpec.upto fnExactOverflowLoadSpec)

/-- 'laws.FnErlang', WHERE WHAT IT READS IS OF BULK AT MOST 1048576: true; the input reads as it did. -/
def fnErlangUptoRow : OpenClaim := { program := "ytkogkkbiocejkaa", sum := "66802f1e3fb285ab52bf3f3c2635fca0daa12a39ba07abca6ca7c217ccdcc91f", func := "loop.example/g00925/laws.FnErlang", spec := "fnErlang", unfollowed := true, recurses := true, apart := false, narrowed := true }
def FnErlangUptoSaid : Prop := fnErlangUptoRow.holds Try.pinned (OpenSpec.upto fnErlangSpec)

/-- 'laws.FnExactErlangC', WHERE WHAT IT READS IS OF BULK AT MOST 1048576: true; the input reads as it did. -/
def fnExactErlangCUptoRow : OpenClaim := { program := "ytkogkkbiocejkaa", sum := "66802f1e3fb285ab52bf3f3c2635fca0daa12a39ba07abca6ca7c217ccdcc91f", func := "loop.example/g00925/laws.FnExactErlangC", spec := "fnExactErlangC", apart := false, narrowed := true }
def FnExactErlangCUptoSaid : Prop := fnExactErlangCUptoRow.holds Try.pinned (OpenSpec.upto fnExactErlangCSpec)

/-- 'laws.FnExactChannelsFor', WHERE WHAT IT READS IS OF BULK AT MOST 1048576: true; the input reads as it did. -/
def fnExactChannelsForUptoRow : OpenClaim := { program := "ytkogkkbiocejkaa", sum := "66802f1e3fb285ab52bf3f3c2635fca0daa12a39ba07abca6ca7c217ccdcc91f", func := "loop.example/g00925/laws.FnExactChannelsFor", spec := "fnExactChannelsFor", apart := false, narrowed := true }
def FnExactChannelsForUptoSaid : Prop := fnExactChannelsForUptoRow.holds Try.pinned (OpenSpec.upto fnExactChannelsForSpec)

/-- 'laws.FnExactBusyHour', WHERE WHAT IT READS IS OF BULK AT MOST 1048576: true; the input reads as it did. -/
def fnExactBusyHourUptoRow : OpenClaim := { program := "ytkogkkbiocejkaa", sum := "66802f1e3fb285ab52bf3f3c2635fca0daa12a39ba07abca6ca7c217ccdcc91f", func := "loop.example/g00925/laws.FnExactBusyHour", spec := "fnExactBusyHour", unfollowed := true, recurses := true, apart := false, narrowed := true }
def FnExactBusyHourUptoSaid : Prop := fnExactBusyHourUptoRow.holds Try.pinned (OpenSpec.upto fnExactBusyHourSpec)

/-- 'laws.FnExactShareLoad', WHERE WHAT IT READS IS OF BULK AT MOST 1048576: true; the input reads as it did. -/
def fnExactShareLoadUptoRow : OpenClaim := { program := "ytkogkkbiocejkaa", sum := "66802f1e3fb285ab52bf3f3c2635fca0daa12a39ba07abca6ca7c217ccdcc91f", func := "loop.example/g00925/laws.FnExactShareLoad", spec := "fnExactShareLoad", unfollowed := true, recurses := true, apart := false, narrowed := true }
def FnExactShareLoadUptoSaid : Prop := fnExactShareLoadUptoRow.holds Try.pinned (OpenSpec.upto fnExactShareLoadSpec)

/-- 'laws.FnExactLoadFor', WHERE WHAT IT READS IS OF BULK AT MOST 1048576: true; the input reads as it did. -/
def fnExactLoadForUptoRow : OpenClaim := { program := "ytkogkkbiocejkaa", sum := "66802f1e3fb285ab52bf3f3c2635fca0daa12a39ba07abca6ca7c217ccdcc91f", func := "loop.example/g00925/laws.FnExactLoadFor", spec := "fnExactLoadFor", unfollowed := true, recurses := true, apart := false, narrowed := true }
def FnExactLoadForUptoSaid : Prop := fnExactLoadForUptoRow.holds Try.pinned (OpenSpec.upto fnExactLoadForSpec)

/-- 'laws.FnTraffic', WHERE WHAT IT READS IS OF BULK AT MOST 1048576: true; the input reads as it did. -/
def fnTrafficUptoRow : OpenClaim := { program := "ytkogkkbiocejkaa", sum := "66802f1e3fb285ab52bf3f3c2635fca0daa12a39ba07abca6ca7c217ccdcc91f", func := "loop.example/g00925/laws.FnTraffic", spec := "fnTraffic", unfollowed := true, recurses := true, apart := false, narrowed := true }
def FnTrafficUptoSaid : Prop := fnTrafficUptoRow.holds Try.pinned (OpenSpec.upto fnTrafficSpec)

/-- 'laws.FnExactPlanChannels', WHERE WHAT IT READS IS OF BULK AT MOST 1048576: true; the input reads as it did. -/
def fnExactPlanChannelsUptoRow : OpenClaim := { program := "ytkogkkbiocejkaa", sum := "66802f1e3fb285ab52bf3f3c2635fca0daa12a39ba07abca6ca7c217ccdcc91f", func := "loop.example/g00925/laws.FnExactPlanChannels", spec := "fnExactPlanChannels", unfollowed := true, recurses := true, apart := false, narrowed := true }
def FnExactPlanChannelsUptoSaid : Prop := fnExactPlanChannelsUptoRow.holds Try.pinned (OpenSpec.upto fnExactPlanChannelsSpec)

end Rows
end Go.Proofs.Ytkogkkbiocejkaa
