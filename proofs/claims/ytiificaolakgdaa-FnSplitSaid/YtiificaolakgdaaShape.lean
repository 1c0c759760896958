/-
  What the frame tells a walk of its arguments: their shapes, each with its lemma.
-/
import Derived.Test.YtiificaolakgdaaRows
import Derived.WalkKit
import Derived.ProofKit
import Derived.OpenShut
import Derived.ShutString
import Derived.ChangeOld
import Derived.Below
import Derived.Deep.Slices
namespace Go.Proofs.Ytiificaolakgdaa.Fr
open Go.ChangeShapes Go.WideShapes Go.ChangeAt Go.RowKit
open Go.ChangeMaps (open_string shut_string)

def IsInt (_w : World) (v : Value) : Prop := ∃ x : Int, v = .int .i64 x ∧ (Lit.int .i64 x).wf = true
def IsStr (_w : World) (v : Value) : Prop := ∃ s : ByteArray, v = .string s ∧ s.size ≤ maxLen
def IsArea (_w : World) (v : Value) : Prop := ∃ x y e n : Int, v = .agg #[.int .i64 x, .int .i64 y, .int .i64 e, .int .i64 n] ∧ (Lit.int .i64 x).wf = true ∧ (Lit.int .i64 y).wf = true ∧ (Lit.int .i64 e).wf = true ∧ (Lit.int .i64 n).wf = true
def IsPoint (_w : World) (v : Value) : Prop := ∃ x y : Int, v = .agg #[.int .i64 x, .int .i64 y] ∧ (Lit.int .i64 x).wf = true ∧ (Lit.int .i64 y).wf = true

section
variable {H : Type} {enc : TypeId × Value → H} {W : World} {r : Reach} {b0 base : Nat} {spare : Nat → Bool} {held : Bool} {v : Value} {d : DataW H} {p : List MemPlace}
set_option maxRecDepth 100000 in
theorem isInt_of (hv : Value.okWide Try.prog W r b0 2 v) (h : DataW.Trod enc Try.prog W base spare held 2 v d p) : IsInt W v := by
  obtain ⟨x, rfl, _, _, wx⟩ := open_int Try.underlying2 hv h
  exact ⟨x, rfl, wx⟩
set_option maxRecDepth 100000 in
theorem isStr_of (hv : Value.okWide Try.prog W r b0 9 v) (h : DataW.Trod enc Try.prog W base spare held 9 v d p) : IsStr W v := by
  obtain ⟨x, rfl, _, _, wx⟩ := open_string Try.underlying9 hv h
  exact ⟨x, rfl, wx⟩
theorem cellsInt : Try.prog.cellsOf 2 = 1 := by kernel_rfl
theorem cellsArea : Try.prog.cellsOf 49 = 4 := by kernel_rfl
set_option maxRecDepth 100000 in
theorem isArea_of (hv : Value.okWide Try.prog W r b0 49 v) (h : DataW.Trod enc Try.prog W base spare held 49 v d p) : IsArea W v := by
  obtain ⟨cs, rfl, hsz⟩ := okWide_struct Try.underlying49 hv
  obtain ⟨l⟩ := cs
  match l, hsz.trans cellsArea with
  | [c0, c1, c2, c3], _ =>
    obtain ⟨fuel, hf⟩ := h
    obtain ⟨xs, n, _, _, _, hlen, hg⟩ := DataW.trod_struct Try.underlying49 hf
    match xs, hlen with
    | [y0, y1, y2, y3], _ =>
      have g0 := hg 0 _ rfl
      have g1 := hg 1 _ rfl
      have g2 := hg 2 _ rfl
      have g3 := hg 3 _ rfl
      simp [Value.cells, cellsInt] at g0 g1 g2 g3
      obtain ⟨x, e0, _, w0⟩ := DataW.trod_int Try.underlying2 g0
      obtain ⟨y, e1, _, w1⟩ := DataW.trod_int Try.underlying2 g1
      obtain ⟨e, e2, _, w2⟩ := DataW.trod_int Try.underlying2 g2
      obtain ⟨n, e3, _, w3⟩ := DataW.trod_int Try.underlying2 g3
      simp at e0 e1 e2 e3
      subst e0 e1 e2 e3
      exact ⟨x, y, e, n, rfl, w0, w1, w2, w3⟩
end
end Go.Proofs.Ytiificaolakgdaa.Fr
