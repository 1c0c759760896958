/-
  Critical links: the law's end.
-/
import Derived.Test.YtgjgklkboldkfaaShapeK
import Derived.Test.YtgjgklkboldkfaaCrC
namespace Go.Proofs.Ytgjgklkboldkfaa.Bk
open Go Go.RowKit Go.Proofs.Ytgjgklkboldkfaa.Aw

theorem closeCriticalLinks (v : Value) (w : World) (h : Fr.IsBack w v) : Calls Try.prog 7 #[v] w fun r w' => r = .returned (.bool true) ∧ Below w.heap.size w w' := by
  obtain ⟨n, ls, s, rfl, hv, _, _⟩ := h
  exact RO.calls (k := 0) (lawCriticalLinks_ro n ls hv.2 0) (K := fun k => k < w.heap.size) (fun _ h => h) (VRs.cons (Fr.back_vr hv) VRs.nil)
end Go.Proofs.Ytgjgklkboldkfaa.Bk
