/-
  Best routes: the law's end.
-/
import Derived.Test.YtglfcaioapdiaaaShapeK
import Derived.Test.YtglfcaioapdiaaaRuB
namespace Go.Proofs.Ytglfcaioapdiaaa.Bk
open Go Go.RowKit Go.Proofs.Ytglfcaioapdiaaa.Aw

theorem closeRouteOf (v x y : Value) (w : World) (h : Fr.IsBack w v) (hx : Fr.IsInt w x) (hy : Fr.IsInt w y) : Calls Try.prog 3 #[v, x, y] w fun r w' => r = .returned (.bool true) ∧ Below w.heap.size w w' := by
  obtain ⟨n, ls, s, rfl, hv, _, _⟩ := h
  obtain ⟨a, rfl, _⟩ := hx
  obtain ⟨b, rfl, _⟩ := hy
  exact RO.calls (k := 0) (lawRouteOf_ro n ls a b hv.2 0) (K := fun k => k < w.heap.size) (fun _ h => h) (VRs.cons (Fr.back_vr hv) (VRs.cons (.v _ _) (VRs.cons (.v _ _) VRs.nil)))
end Go.Proofs.Ytglfcaioapdiaaa.Bk
