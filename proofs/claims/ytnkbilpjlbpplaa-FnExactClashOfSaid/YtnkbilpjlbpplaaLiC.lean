/-
  ValidLicence, ClashOf: the laws' ends.
-/
import Derived.Test.YtnkbilpjlbpplaaShapeL
namespace Go.Proofs.Ytnkbilpjlbpplaa.Li
open Go Go.RowKit Go.Proofs.Ytnkbilpjlbpplaa.Aw

theorem closeValidLicence (v : Value) (w : World) (h : Fr.IsLic w v) : Calls Try.prog 6 #[v] w fun r w' => r = .returned (.bool true) ∧ Below w.heap.size w w' := by
  obtain ⟨l, rfl, hs⟩ := h
  exact RO.calls (k := 0) (lawValidLicence_ro l hs 0) (K := NoK) (fun _ h => h.elim) (VRs.cons (VR.aggv (Fr.licC l)) VRs.nil)
theorem closeClashOf (v v' : Value) (w : World) (h : Fr.IsLic w v) (h' : Fr.IsLic w v') : Calls Try.prog 7 #[v, v'] w fun r w' => r = .returned (.bool true) ∧ Below w.heap.size w w' := by
  obtain ⟨l, rfl, hs⟩ := h
  obtain ⟨l', rfl, hs'⟩ := h'
  exact RO.calls (k := 0) (lawClashOf_ro l l' hs hs' 0) (K := NoK) (fun _ h => h.elim) (VRs.cons (VR.aggv (Fr.licC l)) (VRs.cons (VR.aggv (Fr.licC l')) VRs.nil))
end Go.Proofs.Ytnkbilpjlbpplaa.Li
