/-
  Backhauls: the laws' ends.
-/
import Derived.Test.YtgjgklkboldkfaaShapeK
import Derived.Test.YtgjgklkboldkfaaBkE
namespace Go.Proofs.Ytgjgklkboldkfaa.Bk
open Go Go.RowKit Go.Proofs.Ytgjgklkboldkfaa.Aw

theorem closeValidBackhaul (v : Value) (w : World) (h : Fr.IsBack w v) : Calls Try.prog 4 #[v] w fun r w' => r = .returned (.bool true) ∧ Below w.heap.size w w' := by
  obtain ⟨n, ls, s, rfl, hv, _, _⟩ := h
  exact RO.calls (k := 0) (lawValidBackhaul_ro n ls hv.2 0) (K := fun k => k < w.heap.size) (fun _ h => h) (VRs.cons (Fr.back_vr hv) VRs.nil)
theorem closeSameBackhaul (v v' : Value) (w : World) (h : Fr.IsBack w v) (h' : Fr.IsBack w v') : Calls Try.prog 3 #[v, v'] w fun r w' => r = .returned (.bool true) ∧ Below w.heap.size w w' := by
  obtain ⟨n, ls, s, rfl, hv, _, _⟩ := h
  obtain ⟨n', ls', s', rfl, hv', _, _⟩ := h'
  exact RO.calls (k := 0) (lawSameBackhaul_ro n n' ls ls' hv.2 hv'.2 0) (K := fun k => k < w.heap.size) (fun _ h => h) (VRs.cons (Fr.back_vr hv) (VRs.cons (Fr.back_vr hv') VRs.nil))
end Go.Proofs.Ytgjgklkboldkfaa.Bk
