/-
  Holdings: the laws' ends.
-/
import Derived.Test.YtnkbilpjlbpplaaShapeL
import Derived.Test.YtnkbilpjlbpplaaLiY
namespace Go.Proofs.Ytnkbilpjlbpplaa.Li
open Go Go.RowKit Go.Proofs.Ytnkbilpjlbpplaa.Aw

theorem closeSameHoldings (v v' : Value) (w : World) (h : Fr.IsLics w v) (h' : Fr.IsLics w v') : Calls Try.prog 8 #[v, v'] w fun r w' => r = .returned (.bool true) ∧ Below w.heap.size w w' := by
  obtain ⟨xs, hv, hs, hn⟩ := h
  obtain ⟨ys, hv', hs', hn'⟩ := h'
  exact RO.calls (k := 0) (lawSameHoldings_ro xs ys hs hs' hn hn' 0) (K := fun k => k < w.heap.size) (fun _ h => h) (VRs.cons hv (VRs.cons hv' VRs.nil))
theorem closeValidHoldings (v : Value) (w : World) (h : Fr.IsLics w v) : Calls Try.prog 9 #[v] w fun r w' => r = .returned (.bool true) ∧ Below w.heap.size w w' := by
  obtain ⟨xs, hv, hs, hn⟩ := h
  exact RO.calls (k := 0) (lawValidHoldings_ro xs hs hn 0) (K := fun k => k < w.heap.size) (fun _ h => h) (VRs.cons hv VRs.nil)
theorem closeWidthOf (v v1 v2 v3 : Value) (w : World) (h : Fr.IsLics w v) (h1 : Fr.IsStr w v1) (h2 : Fr.IsPoint w v2) (h3 : Fr.IsInt w v3) : Calls Try.prog 10 #[v, v1, v2, v3] w fun r w' => r = .returned (.bool true) ∧ Below w.heap.size w w' := by
  obtain ⟨xs, hv, hs, hn⟩ := h
  obtain ⟨ho, rfl, _⟩ := h1
  obtain ⟨x, y, rfl, _⟩ := h2
  obtain ⟨d, rfl, _⟩ := h3
  exact RO.calls (k := 0) (lawWidthOf_ro xs ho x y d hs hn 0) (K := fun k => k < w.heap.size) (fun _ h => h) (VRs.cons hv (VRs.cons (.v _ _) (VRs.cons (VR.aggv [.int .i64 x, .int .i64 y]) (VRs.cons (.v _ _) VRs.nil))))
theorem closeLicenceFor (v v1 v2 v3 v4 v5 : Value) (w : World) (h : Fr.IsLics w v) (h1 : Fr.IsStr w v1) (h2 : Fr.IsPoint w v2) (h3 : Fr.IsInt w v3) (h4 : Fr.IsInt w v4) (h5 : Fr.IsInt w v5) :
    Calls Try.prog 11 #[v, v1, v2, v3, v4, v5] w fun r w' => r = .returned (.bool true) ∧ Below w.heap.size w w' := by
  obtain ⟨xs, hv, hs, hn⟩ := h
  obtain ⟨ho, rfl, _⟩ := h1
  obtain ⟨x, y, rfl, _⟩ := h2
  obtain ⟨a, rfl, _⟩ := h3
  obtain ⟨b, rfl, _⟩ := h4
  obtain ⟨d, rfl, _⟩ := h5
  exact RO.calls (k := 0) (lawLicenceFor_ro xs ho x y a b d hs hn 0) (K := fun k => k < w.heap.size) (fun _ h => h) (VRs.cons hv (VRs.cons (.v _ _) (VRs.cons (VR.aggv [.int .i64 x, .int .i64 y]) (VRs.cons (.v _ _) (VRs.cons (.v _ _) (VRs.cons (.v _ _) VRs.nil))))))
end Go.Proofs.Ytnkbilpjlbpplaa.Li
