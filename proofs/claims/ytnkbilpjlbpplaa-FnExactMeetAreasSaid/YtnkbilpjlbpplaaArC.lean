/-
  MeetAreas: the law's end.
-/
import Derived.Test.YtnkbilpjlbpplaaArA
import Derived.Test.YtnkbilpjlbpplaaShape
namespace Go.Proofs.Ytnkbilpjlbpplaa.Ar
open Go Go.RowKit Go.Proofs.Ytnkbilpjlbpplaa.Aw

theorem closeMeetAreas (v v' : Value) (w : World) (h : Fr.IsArea w v) (h' : Fr.IsArea w v') : Calls Try.prog 5 #[v, v'] w fun r w' => r = .returned (.bool true) ∧ Below w.heap.size w w' := by
  obtain ⟨x, y, e, n, rfl, _⟩ := h
  obtain ⟨x', y', e', n', rfl, _⟩ := h'
  exact RO.calls (k := 0) (lawMeet_ro x y e n x' y' e' n' 0) (K := NoK) (fun _ h => h.elim) (VRs.cons (VR.aggv [.int .i64 x, .int .i64 y, .int .i64 e, .int .i64 n]) (VRs.cons (VR.aggv [.int .i64 x', .int .i64 y', .int .i64 e', .int .i64 n']) VRs.nil))

end Go.Proofs.Ytnkbilpjlbpplaa.Ar
