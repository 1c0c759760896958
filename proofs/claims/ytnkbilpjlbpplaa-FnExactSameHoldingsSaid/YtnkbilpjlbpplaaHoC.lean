/-
  Holdings: the laws' ends.
-/
import Derived.Test.YtnkbilpjlbpplaaShapeL
import Derived.Test.YtnkbilpjlbpplaaLhC
namespace Go.Proofs.Ytnkbilpjlbpplaa.Li
open Go Go.RowKit Go.Proofs.Ytnkbilpjlbpplaa.Aw

theorem closeSameHoldings (v v' : Value) (w : World) (h : Fr.IsLics w v) (h' : Fr.IsLics w v') : Calls Try.prog 8 #[v, v'] w fun r w' => r = .returned (.bool true) ∧ Below w.heap.size w w' := by
  obtain ⟨xs, hv, hs, hn⟩ := h
  obtain ⟨ys, hv', hs', hn'⟩ := h'
  exact RO.calls (k := 0) (lawSameHoldings_ro xs ys hs hs' hn hn' 0) (K := fun k => k < w.heap.size) (fun _ h => h) (VRs.cons hv (VRs.cons hv' VRs.nil))
end Go.Proofs.Ytnkbilpjlbpplaa.Li
