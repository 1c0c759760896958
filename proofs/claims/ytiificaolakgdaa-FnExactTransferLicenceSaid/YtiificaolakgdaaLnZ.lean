/-
  Licences: laws' ends.
-/
import Derived.Test.YtiificaolakgdaaShapeL
import Derived.Test.YtiificaolakgdaaLnF
namespace Go.Proofs.Ytiificaolakgdaa.Li
open Go Go.RowKit Go.Proofs.Ytiificaolakgdaa.Aw

theorem closeTransferLicence (v v1 v2 : Value) (w : World) (h : Fr.IsLics w v) (h1 : Fr.IsStr w v1) (h2 : Fr.IsStr w v2) : Calls Try.prog 5 #[v, v1, v2] w fun r w' => r = .returned (.bool true) ∧ Below w.heap.size w w' := by
  obtain ⟨xs, hv, hs, hn⟩ := h
  obtain ⟨s, rfl, _⟩ := h1
  obtain ⟨t, rfl, _⟩ := h2
  exact RO.calls (k := 0) (lawTransferLicence_ro xs s t hs hn 0) (K := fun k => k < w.heap.size) (fun _ h => h) (VRs.cons hv (VRs.cons (.v _ _) (VRs.cons (.v _ _) VRs.nil)))
end Go.Proofs.Ytiificaolakgdaa.Li
