/-
  A list without one licence: the law's end.
-/
import Derived.Test.YtiificaolakgdaaShapeL
import Derived.Test.YtiificaolakgdaaLmD
namespace Go.Proofs.Ytiificaolakgdaa.Li
open Go Go.RowKit Go.Proofs.Ytiificaolakgdaa.Aw

theorem closeRevokeLicence (v v1 : Value) (w : World) (h : Fr.IsLics w v) (h1 : Fr.IsStr w v1) : Calls Try.prog 4 #[v, v1] w fun r w' => r = .returned (.bool true) ∧ Below w.heap.size w w' := by
  obtain ⟨xs, hv, hs, hn⟩ := h
  obtain ⟨s, rfl, _⟩ := h1
  exact RO.calls (k := 0) (lawRevokeLicence_ro xs s hs hn 0) (K := fun k => k < w.heap.size) (fun _ h => h) (VRs.cons hv (VRs.cons (.v _ _) VRs.nil))
end Go.Proofs.Ytiificaolakgdaa.Li
