/-
  No cell of these rows narrows 'for every input' (looked for: loops, veiled, ifaces, maps, wideKeys, modest, calm, conditions, laid).
  DERIVED. THE GIVEN ROWS OF THIS SEAT. 7 by the template 'for every input the law returns true; each argument reads behind the call as it read before'; 0 by the template 'total and deterministic' (their statements: YtiificaolakgdaaTotals.lean).
  GIVEN WITH THE SEED: the statements are not yours to turn. If you find one false, say at which input.
  Laid BY PROGRAM, IN A SANDBOX (cutbox-rows.mjs): the forced cells as the released guide's own fill.sh prints them over the translation c9d33b88ea722890… (all of the seat's roots in one cut). By AI agents, Wed Nov 11 2026. No macro, syntax, notation, axiom, sorry.
-/
import Derived.Test.YtiificaolakgdaaChecked
import GoSem.Claim
import GoSem.ClaimJoined
import GoSem.ClaimMapViews
import Derived.JoinedTies
import Derived.KernelRfl
namespace Go.Proofs.Ytiificaolakgdaa
/- THE CELL 'sum', in the pinned program and in every row, IS THE sha256 OF THE DUMP (.gsa) THAT YtiificaolakgdaaProg.lean LOADS. Nothing in Lean hashes anything: it is a label: what it is worth is what the hold of that sum in a sandbox is worth. -/
noncomputable def Try.pinned : Pinned := { name := "ytiificaolakgdaa", sum := "c9d33b88ea7228905109aebaa9283866fd6ec04fa4d32afdfb5cc15bcb0e2c5d", checked := Try.checked }
namespace Rows
def none {H : Type} : Left H := { results := [], args := [] }

/-- 'laws.FnSplit': WHATEVER THE INPUT: true; the input reads as it did. -/
def fnSplitSpec : ChangeSpec := { name := "fnSplit", fn := fun _ => fun
  | [d1, d2] => { results := [.lit (.bool true)], args := [d1, d2] }
  | _ => none }
def fnSplitRow : OpenClaim := { program := "ytiificaolakgdaa", sum := "c9d33b88ea7228905109aebaa9283866fd6ec04fa4d32afdfb5cc15bcb0e2c5d", func := "loop.example/g00925/laws.FnSplit", spec := "fnSplit", inPlace := ["internal/bytealg.abigen_runtime_cmpstring", "slices.overlaps[loop.example/g00925/impl.Licence]"], unfollowed := true, recurses := true, apart := false }
def FnSplitSaid : Prop := fnSplitRow.holds Try.pinned (OpenSpec.ofChange fnSplitSpec)

/-- ITS FALSE NEIGHBOUR: 'it returns false'. Refute it at one input. -/
def fnSplitWrong : ChangeSpec := { name := "fnSplit", fn := fun _ => fun
  | [d1, d2] => { results := [.lit (.bool false)], args := [d1, d2] }
  | _ => none }
def FnSplitWrongFalsely : Prop := fnSplitRow.holds Try.pinned (OpenSpec.ofChange fnSplitWrong)

/-- 'laws.FnExactRevokeLicence': WHATEVER THE INPUT: true; the input reads as it did. -/
def fnExactRevokeLicenceSpec : ChangeSpec := { name := "fnExactRevokeLicence", fn := fun _ => fun
  | [d1, d2] => { results := [.lit (.bool true)], args := [d1, d2] }
  | _ => none }
def fnExactRevokeLicenceRow : OpenClaim := { program := "ytiificaolakgdaa", sum := "c9d33b88ea7228905109aebaa9283866fd6ec04fa4d32afdfb5cc15bcb0e2c5d", func := "loop.example/g00925/laws.FnExactRevokeLicence", spec := "fnExactRevokeLicence", unfollowed := true, recurses := true, apart := false }
def FnExactRevokeLicenceSaid : Prop := fnExactRevokeLicenceRow.holds Try.pinned (OpenSpec.ofChange fnExactRevokeLicenceSpec)

/-- ITS FALSE NEIGHBOUR: 'it returns false'. Refute it at one input. -/
def fnExactRevokeLicenceWrong : ChangeSpec := { name := "fnExactRevokeLicence", fn := fun _ => fun
  | [d1, d2] => { results := [.lit (.bool false)], args := [d1, d2] }
  | _ => none }
def FnExactRevokeLicenceWrongFalsely : Prop := fnExactRevokeLicenceRow.holds Try.pinned (OpenSpec.ofChange fnExactRevokeLicenceWrong)

/-- 'laws.FnExactTransferLicence': WHATEVER THE INPUT: true; the input reads as it did. -/
def fnExactTransferLicenceSpec : ChangeSpec := { name := "fnExactTransferLicence", fn := fun _ => fun
  | [d1, d2, d3] => { results := [.lit (.bool true)], args := [d1, d2, d3] }
  | _ => none }
def fnExactTransferLicenceRow : OpenClaim := { program := "ytiificaolakgdaa", sum := "c9d33b88ea7228905109aebaa9283866fd6ec04fa4d32afdfb5cc15bcb0e2c5d", func := "loop.example/g00925/laws.FnExactTransferLicence", spec := "fnExactTransferLicence", unfollowed := true, recurses := true, apart := false }
def FnExactTransferLicenceSaid : Prop := fnExactTransferLicenceRow.holds Try.pinned (OpenSpec.ofChange fnExactTransferLicenceSpec)

/-- ITS FALSE NEIGHBOUR: 'it returns false'. Refute it at one input. -/
def fnExactTransferLicenceWrong : ChangeSpec := { name := "fnExactTransferLicence", fn := fun _ => fun
  | [d1, d2, d3] => { results := [.lit (.bool false)], args := [d1, d2, d3] }
  | _ => none }
def FnExactTransferLicenceWrongFalsely : Prop := fnExactTransferLicenceRow.holds Try.pinned (OpenSpec.ofChange fnExactTransferLicenceWrong)

/-- 'laws.FnExactExtendLicence': WHATEVER THE INPUT: true; the input reads as it did. -/
def fnExactExtendLicenceSpec : ChangeSpec := { name := "fnExactExtendLicence", fn := fun _ => fun
  | [d1, d2, d3] => { results := [.lit (.bool true)], args := [d1, d2, d3] }
  | _ => none }
def fnExactExtendLicenceRow : OpenClaim := { program := "ytiificaolakgdaa", sum := "c9d33b88ea7228905109aebaa9283866fd6ec04fa4d32afdfb5cc15bcb0e2c5d", func := "loop.example/g00925/laws.FnExactExtendLicence", spec := "fnExactExtendLicence", unfollowed := true, recurses := true, apart := false }
def FnExactExtendLicenceSaid : Prop := fnExactExtendLicenceRow.holds Try.pinned (OpenSpec.ofChange fnExactExtendLicenceSpec)

/-- ITS FALSE NEIGHBOUR: 'it returns false'. Refute it at one input. -/
def fnExactExtendLicenceWrong : ChangeSpec := { name := "fnExactExtendLicence", fn := fun _ => fun
  | [d1, d2, d3] => { results := [.lit (.bool false)], args := [d1, d2, d3] }
  | _ => none }
def FnExactExtendLicenceWrongFalsely : Prop := fnExactExtendLicenceRow.holds Try.pinned (OpenSpec.ofChange fnExactExtendLicenceWrong)

/-- 'laws.FnExactGrantLicence': WHATEVER THE INPUT: true; the input reads as it did. -/
def fnExactGrantLicenceSpec : ChangeSpec := { name := "fnExactGrantLicence", fn := fun _ => fun
  | [d1, d2] => { results := [.lit (.bool true)], args := [d1, d2] }
  | _ => none }
def fnExactGrantLicenceRow : OpenClaim := { program := "ytiificaolakgdaa", sum := "c9d33b88ea7228905109aebaa9283866fd6ec04fa4d32afdfb5cc15bcb0e2c5d", func := "loop.example/g00925/laws.FnExactGrantLicence", spec := "fnExactGrantLicence", inPlace := ["internal/bytealg.abigen_runtime_cmpstring", "slices.overlaps[loop.example/g00925/impl.Licence]"], unfollowed := true, recurses := true, apart := false }
def FnExactGrantLicenceSaid : Prop := fnExactGrantLicenceRow.holds Try.pinned (OpenSpec.ofChange fnExactGrantLicenceSpec)

/-- ITS FALSE NEIGHBOUR: 'it returns false'. Refute it at one input. -/
def fnExactGrantLicenceWrong : ChangeSpec := { name := "fnExactGrantLicence", fn := fun _ => fun
  | [d1, d2] => { results := [.lit (.bool false)], args := [d1, d2] }
  | _ => none }
def FnExactGrantLicenceWrongFalsely : Prop := fnExactGrantLicenceRow.holds Try.pinned (OpenSpec.ofChange fnExactGrantLicenceWrong)

/-- 'laws.FnExactSplitBand': WHATEVER THE INPUT: true; the input reads as it did. -/
def fnExactSplitBandSpec : ChangeSpec := { name := "fnExactSplitBand", fn := fun _ => fun
  | [d1, d2, d3, d4] => { results := [.lit (.bool true)], args := [d1, d2, d3, d4] }
  | _ => none }
def fnExactSplitBandRow : OpenClaim := { program := "ytiificaolakgdaa", sum := "c9d33b88ea7228905109aebaa9283866fd6ec04fa4d32afdfb5cc15bcb0e2c5d", func := "loop.example/g00925/laws.FnExactSplitBand", spec := "fnExactSplitBand", inPlace := ["internal/bytealg.abigen_runtime_cmpstring", "slices.overlaps[loop.example/g00925/impl.Licence]"], unfollowed := true, recurses := true, apart := false }
def FnExactSplitBandSaid : Prop := fnExactSplitBandRow.holds Try.pinned (OpenSpec.ofChange fnExactSplitBandSpec)

/-- ITS FALSE NEIGHBOUR: 'it returns false'. Refute it at one input. -/
def fnExactSplitBandWrong : ChangeSpec := { name := "fnExactSplitBand", fn := fun _ => fun
  | [d1, d2, d3, d4] => { results := [.lit (.bool false)], args := [d1, d2, d3, d4] }
  | _ => none }
def FnExactSplitBandWrongFalsely : Prop := fnExactSplitBandRow.holds Try.pinned (OpenSpec.ofChange fnExactSplitBandWrong)

/-- 'laws.FnExactSplitDays': WHATEVER THE INPUT: true; the input reads as it did. -/
def fnExactSplitDaysSpec : ChangeSpec := { name := "fnExactSplitDays", fn := fun _ => fun
  | [d1, d2, d3, d4] => { results := [.lit (.bool true)], args := [d1, d2, d3, d4] }
  | _ => none }
def fnExactSplitDaysRow : OpenClaim := { program := "ytiificaolakgdaa", sum := "c9d33b88ea7228905109aebaa9283866fd6ec04fa4d32afdfb5cc15bcb0e2c5d", func := "loop.example/g00925/laws.FnExactSplitDays", spec := "fnExactSplitDays", inPlace := ["internal/bytealg.abigen_runtime_cmpstring", "slices.overlaps[loop.example/g00925/impl.Licence]"], unfollowed := true, recurses := true, apart := false }
def FnExactSplitDaysSaid : Prop := fnExactSplitDaysRow.holds Try.pinned (OpenSpec.ofChange fnExactSplitDaysSpec)

/-- ITS FALSE NEIGHBOUR: 'it returns false'. Refute it at one input. -/
def fnExactSplitDaysWrong : ChangeSpec := { name := "fnExactSplitDays", fn := fun _ => fun
  | [d1, d2, d3, d4] => { results := [.lit (.bool false)], args := [d1, d2, d3, d4] }
  | _ => none }
def FnExactSplitDaysWrongFalsely : Prop := fnExactSplitDaysRow.holds Try.pinned (OpenSpec.ofChange fnExactSplitDaysWrong)

/- THE SECOND FORM. 'bulk': how many values and letters a reading holds, each counted each time it is reached (what is shared counts as often as it is met; a slice's spare places count too). A statement '..UptoSaid' is the law's where the arguments, and the package variables that the reading takes, are together of bulk at most 1048576: NARROWER than '..Said'. Prove '..Said' where nothing that the law and all that it calls make is longer than what came in: it says more and counts as full. Else prove '..UptoSaid'. A law counts once. -/
mutual
def uptoBulk {H : Type} : DataW H → Nat
  | .lit (.string bytes) => bytes.length + 1
  | .lit _ => 1
  | .nil => 1
  | .ptr d => uptoBulk d + 1
  | .slice elems spare => uptoBulkAll elems + uptoBulkAll spare + 1
  | .agg parts => uptoBulkAll parts + 1
  | .iface _ d => uptoBulk d + 1
  | .map entries => uptoBulkEntries entries + 1
  | .held _ => 1
def uptoBulkAll {H : Type} : List (DataW H) → Nat
  | [] => 0
  | d :: r => uptoBulk d + uptoBulkAll r
def uptoBulkEntries {H : Type} : List (Lit × DataW H) → Nat
  | [] => 0
  | x :: r => uptoBulkEntry x + uptoBulkEntries r
def uptoBulkEntry {H : Type} : Lit × DataW H → Nat
  | (.string bytes, d) => bytes.length + uptoBulk d + 1
  | (_, d) => uptoBulk d + 1
 end
def uptoSmall : (H : Type) → List (DataW H) → Bool := fun _ ds => decide (uptoBulkAll ds ≤ 1048576)
def OpenSpec.upto (s : _root_.Go.ChangeSpec) : _root_.Go.OpenSpec := { _root_.Go.OpenSpec.ofChange s with cond := some uptoSmall }

/-- 'laws.FnSplit', WHERE WHAT IT READS IS OF BULK AT MOST 1048576: true; the input reads as it did. -/
def fnSplitUptoRow : OpenClaim := { program := "ytiificaolakgdaa", sum := "c9d33b88ea7228905109aebaa9283866fd6ec04fa4d32afdfb5cc15bcb0e2c5d", func := "loop.example/g00925/laws.FnSplit", spec := "fnSplit", inPlace := ["internal/bytealg.abigen_runtime_cmpstring", "slices.overlaps[loop.example/g00925/impl.Licence]"], unfollowed := true, recurses := true, apart := false, narrowed := true }
def FnSplitUptoSaid : Prop := fnSplitUptoRow.holds Try.pinned (OpenSpec.upto fnSplitSpec)

/-- 'laws.FnExactRevokeLicence', WHERE WHAT IT READS IS OF BULK AT MOST 1048576: true; the input reads as it did. -/
def fnExactRevokeLicenceUptoRow : OpenClaim := { program := "ytiificaolakgdaa", sum := "c9d33b88ea7228905109aebaa9283866fd6ec04fa4d32afdfb5cc15bcb0e2c5d", func := "loop.example/g00925/laws.FnExactRevokeLicence", spec := "fnExactRevokeLicence", unfollowed := true, recurses := true, apart := false, narrowed := true }
def FnExactRevokeLicenceUptoSaid : Prop := fnExactRevokeLicenceUptoRow.holds Try.pinned (OpenSpec.upto fnExactRevokeLicenceSpec)

/-- 'laws.FnExactTransferLicence', WHERE WHAT IT READS IS OF BULK AT MOST 1048576: true; the input reads as it did. -/
def fnExactTransferLicenceUptoRow : OpenClaim := { program := "ytiificaolakgdaa", sum := "c9d33b88ea7228905109aebaa9283866fd6ec04fa4d32afdfb5cc15bcb0e2c5d", func := "loop.example/g00925/laws.FnExactTransferLicence", spec := "fnExactTransferLicence", unfollowed := true, recurses := true, apart := false, narrowed := true }
def FnExactTransferLicenceUptoSaid : Prop := fnExactTransferLicenceUptoRow.holds Try.pinned (OpenSpec.upto fnExactTransferLicenceSpec)

/-- 'laws.FnExactExtendLicence', WHERE WHAT IT READS IS OF BULK AT MOST 1048576: true; the input reads as it did. -/
def fnExactExtendLicenceUptoRow : OpenClaim := { program := "ytiificaolakgdaa", sum := "c9d33b88ea7228905109aebaa9283866fd6ec04fa4d32afdfb5cc15bcb0e2c5d", func := "loop.example/g00925/laws.FnExactExtendLicence", spec := "fnExactExtendLicence", unfollowed := true, recurses := true, apart := false, narrowed := true }
def FnExactExtendLicenceUptoSaid : Prop := fnExactExtendLicenceUptoRow.holds Try.pinned (OpenSpec.upto fnExactExtendLicenceSpec)

/-- 'laws.FnExactGrantLicence', WHERE WHAT IT READS IS OF BULK AT MOST 1048576: true; the input reads as it did. -/
def fnExactGrantLicenceUptoRow : OpenClaim := { program := "ytiificaolakgdaa", sum := "c9d33b88ea7228905109aebaa9283866fd6ec04fa4d32afdfb5cc15bcb0e2c5d", func := "loop.example/g00925/laws.FnExactGrantLicence", spec := "fnExactGrantLicence", inPlace := ["internal/bytealg.abigen_runtime_cmpstring", "slices.overlaps[loop.example/g00925/impl.Licence]"], unfollowed := true, recurses := true, apart := false, narrowed := true }
def FnExactGrantLicenceUptoSaid : Prop := fnExactGrantLicenceUptoRow.holds Try.pinned (OpenSpec.upto fnExactGrantLicenceSpec)

/-- 'laws.FnExactSplitBand', WHERE WHAT IT READS IS OF BULK AT MOST 1048576: true; the input reads as it did. -/
def fnExactSplitBandUptoRow : OpenClaim := { program := "ytiificaolakgdaa", sum := "c9d33b88ea7228905109aebaa9283866fd6ec04fa4d32afdfb5cc15bcb0e2c5d", func := "loop.example/g00925/laws.FnExactSplitBand", spec := "fnExactSplitBand", inPlace := ["internal/bytealg.abigen_runtime_cmpstring", "slices.overlaps[loop.example/g00925/impl.Licence]"], unfollowed := true, recurses := true, apart := false, narrowed := true }
def FnExactSplitBandUptoSaid : Prop := fnExactSplitBandUptoRow.holds Try.pinned (OpenSpec.upto fnExactSplitBandSpec)

/-- 'laws.FnExactSplitDays', WHERE WHAT IT READS IS OF BULK AT MOST 1048576: true; the input reads as it did. -/
def fnExactSplitDaysUptoRow : OpenClaim := { program := "ytiificaolakgdaa", sum := "c9d33b88ea7228905109aebaa9283866fd6ec04fa4d32afdfb5cc15bcb0e2c5d", func := "loop.example/g00925/laws.FnExactSplitDays", spec := "fnExactSplitDays", inPlace := ["internal/bytealg.abigen_runtime_cmpstring", "slices.overlaps[loop.example/g00925/impl.Licence]"], unfollowed := true, recurses := true, apart := false, narrowed := true }
def FnExactSplitDaysUptoSaid : Prop := fnExactSplitDaysUptoRow.holds Try.pinned (OpenSpec.upto fnExactSplitDaysSpec)

end Rows
end Go.Proofs.Ytiificaolakgdaa
