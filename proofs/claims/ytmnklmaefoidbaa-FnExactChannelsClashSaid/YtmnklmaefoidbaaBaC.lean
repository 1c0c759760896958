/-
  Bands: the laws' ends.
-/
import Derived.Test.YtmnklmaefoidbaaBbA
import Derived.Test.YtmnklmaefoidbaaShapeB
namespace Go.Proofs.Ytmnklmaefoidbaa.Ba
open Go Go.RowKit Go.Proofs.Ytmnklmaefoidbaa.Aw

theorem closeChannelFrequency (v c : Value) (w : World) (h : Fr.IsBand w v) (hc : Fr.IsInt w c) : Calls Try.prog 3 #[v, c] w fun r w' => r = .returned (.bool true) ∧ Below w.heap.size w w' := by
  obtain ⟨b, rfl, hs⟩ := h
  obtain ⟨x, rfl, _⟩ := hc
  exact RO.calls (k := 0) (lawChannelFrequency_ro b x hs 0) (K := NoK) (fun _ h => h.elim) (VRs.cons (VR.aggv (Fr.baC b)) (VRs.cons (.v _ _) VRs.nil))
theorem closePartnerFrequency (v c : Value) (w : World) (h : Fr.IsBand w v) (hc : Fr.IsInt w c) : Calls Try.prog 5 #[v, c] w fun r w' => r = .returned (.bool true) ∧ Below w.heap.size w w' := by
  obtain ⟨b, rfl, hs⟩ := h
  obtain ⟨x, rfl, _⟩ := hc
  exact RO.calls (k := 0) (lawPartnerFrequency_ro b x hs 0) (K := NoK) (fun _ h => h.elim) (VRs.cons (VR.aggv (Fr.baC b)) (VRs.cons (.v _ _) VRs.nil))
theorem closeChannelsClash (v c v' c' : Value) (w : World) (h : Fr.IsBand w v) (hc : Fr.IsInt w c) (h' : Fr.IsBand w v') (hc' : Fr.IsInt w c') : Calls Try.prog 4 #[v, c, v', c'] w fun r w' => r = .returned (.bool true) ∧ Below w.heap.size w w' := by
  obtain ⟨b, rfl, hs⟩ := h
  obtain ⟨x, rfl, _⟩ := hc
  obtain ⟨b', rfl, hs'⟩ := h'
  obtain ⟨x', rfl, _⟩ := hc'
  exact RO.calls (k := 0) (lawChannelsClash_ro b x b' x' hs hs' 0) (K := NoK) (fun _ h => h.elim) (VRs.cons (VR.aggv (Fr.baC b)) (VRs.cons (.v _ _) (VRs.cons (VR.aggv (Fr.baC b')) (VRs.cons (.v _ _) VRs.nil))))
theorem closeOffsetOf (v c v' c' : Value) (w : World) (h : Fr.IsBand w v) (hc : Fr.IsInt w c) (h' : Fr.IsBand w v') (hc' : Fr.IsInt w c') : Calls Try.prog 6 #[v, c, v', c'] w fun r w' => r = .returned (.bool true) ∧ Below w.heap.size w w' := by
  obtain ⟨b, rfl, hs⟩ := h
  obtain ⟨x, rfl, _⟩ := hc
  obtain ⟨b', rfl, hs'⟩ := h'
  obtain ⟨x', rfl, _⟩ := hc'
  exact RO.calls (k := 0) (lawOffsetOf_ro b x b' x' hs hs' 0) (K := NoK) (fun _ h => h.elim) (VRs.cons (VR.aggv (Fr.baC b)) (VRs.cons (.v _ _) (VRs.cons (VR.aggv (Fr.baC b')) (VRs.cons (.v _ _) VRs.nil))))
end Go.Proofs.Ytmnklmaefoidbaa.Ba
