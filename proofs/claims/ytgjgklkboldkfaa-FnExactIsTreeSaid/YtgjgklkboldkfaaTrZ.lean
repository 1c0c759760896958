/-
  Trees: the law's end.
-/
import Derived.Test.YtgjgklkboldkfaaShapeK
import Derived.Test.YtgjgklkboldkfaaTrC
namespace Go.Proofs.Ytgjgklkboldkfaa.Bk
open Go Go.RowKit Go.Proofs.Ytgjgklkboldkfaa.Aw

theorem closeIsTree (v v' : Value) (w : World) (h : Fr.IsBack w v) (h' : Fr.IsInts w v') : Calls Try.prog 6 #[v, v'] w fun r w' => r = .returned (.bool true) ∧ Below w.heap.size w w' := by
  obtain ⟨n, ls, s, rfl, hv, _, _⟩ := h
  obtain ⟨xs, hv', _⟩ := h'
  exact RO.calls (k := 0) (lawIsTree_ro n ls xs hv.2 hv'.2 0) (K := fun k => k < w.heap.size) (fun _ h => h) (VRs.cons (Fr.back_vr hv) (VRs.cons hv'.1 VRs.nil))
end Go.Proofs.Ytgjgklkboldkfaa.Bk
