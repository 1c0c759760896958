/-
  Profiles: the law's end.
-/
import Derived.Test.YtmnklmaefoidbaaShapeP
import Derived.Test.YtmnklmaefoidbaaPrF
namespace Go.Proofs.Ytmnklmaefoidbaa.Pr
open Go Go.RowKit Go.Proofs.Ytmnklmaefoidbaa.Aw

theorem closeOffsetAt (v v' : Value) (w : World) (h : Fr.IsProf w v) (h' : Fr.IsInt w v') : Calls Try.prog 7 #[v, v'] w fun r w' => r = .returned (.bool true) ∧ Below w.heap.size w w' := by
  obtain ⟨p, s, rfl, hv⟩ := h
  obtain ⟨i, rfl, _⟩ := h'
  exact RO.calls (k := 0) (lawOffsetAt_ro p i hv.2 0) (K := fun k => k < w.heap.size) (fun _ h => h) (VRs.cons (Fr.prof_vr hv) (VRs.cons (.v _ _) VRs.nil))
end Go.Proofs.Ytmnklmaefoidbaa.Pr
