/-
  What the frame tells a walk of its arguments: integers, strings, bands.
-/
import Derived.Test.YtmnklmaefoidbaaRows
import Derived.WalkKit
import Derived.ProofKit
import Derived.OpenShut
import Derived.ShutString
import Derived.ChangeOld
import Derived.Below
import Derived.Deep.Slices
import Derived.Test.YtmnklmaefoidbaaBaA
namespace Go.Proofs.Ytmnklmaefoidbaa.Fr
open Go.ChangeShapes Go.WideShapes Go.ChangeAt Go.RowKit
open Go.ChangeMaps (open_string shut_string)
open Go.Proofs.Ytmnklmaefoidbaa.Ba
set_option linter.unusedSimpArgs false

def IsInt (_w : World) (v : Value) : Prop := ∃ x : Int, v = .int .i64 x ∧ (Lit.int .i64 x).wf = true
def baC (b : Band) : List Value := [.string b.nm, .int .i64 b.lo, .int .i64 b.hi, .int .i64 b.ra, .int .i64 b.du]
theorem baC_v (b : Band) : (baC b).map .v = baL b := rfl
def IsBand (_w : World) (v : Value) : Prop := ∃ b : Band, v = .agg (baC b).toArray ∧ b.sm
section
variable {H : Type} {enc : TypeId × Value → H} {W : World} {r : Reach} {b0 base : Nat} {spare : Nat → Bool} {held : Bool} {v : Value} {d : DataW H} {p : List MemPlace}
set_option maxRecDepth 100000 in
theorem isInt_of (hv : Value.okWide Try.prog W r b0 2 v) (h : DataW.Trod enc Try.prog W base spare held 2 v d p) : IsInt W v := by
  obtain ⟨x, rfl, _, _, wx⟩ := open_int Try.underlying2 hv h
  exact ⟨x, rfl, wx⟩
theorem cellsInt : Try.prog.cellsOf 2 = 1 := by kernel_rfl
theorem cellsStr : Try.prog.cellsOf 9 = 1 := by kernel_rfl
theorem cellsBand : Try.prog.cellsOf 23 = 5 := by kernel_rfl
set_option maxRecDepth 100000 in
set_option maxHeartbeats 1000000 in
theorem band_cells {fuel : Nat} {cs : List Value} {x : DataW H × List MemPlace} (h : DataW.trod enc Try.prog W base spare held fuel 23 cs = some x) : ∃ b : Band, cs = baC b ∧ b.sm := by
  obtain ⟨xs, n, _, _, hcl, hlen, hg⟩ := DataW.trod_struct Try.underlying23 h
  rw [cellsBand] at hcl
  match cs, hcl with
  | [c0, c1, c2, c3, c4], _ =>
    match xs, hlen with
    | [y0, y1, y2, y3, y4], _ =>
      have g0 := hg 0 _ rfl
      have g1 := hg 1 _ rfl
      have g2 := hg 2 _ rfl
      have g3 := hg 3 _ rfl
      have g4 := hg 4 _ rfl
      simp [Value.cells, cellsInt, cellsStr] at g0 g1 g2 g3 g4
      obtain ⟨s0, e0, _, w0⟩ := DataW.trod_string Try.underlying9 g0
      obtain ⟨i1, e1, _, w1⟩ := DataW.trod_int Try.underlying2 g1
      obtain ⟨i2, e2, _, w2⟩ := DataW.trod_int Try.underlying2 g2
      obtain ⟨i3, e3, _, w3⟩ := DataW.trod_int Try.underlying2 g3
      obtain ⟨i4, e4, _, w4⟩ := DataW.trod_int Try.underlying2 g4
      simp at e0 e1 e2 e3 e4
      subst e0 e1 e2 e3 e4
      exact ⟨⟨s0, i1, i2, i3, i4⟩, rfl, by simpa [maxLen, Band.sm] using w0⟩
set_option maxRecDepth 100000 in
theorem isBand_of (hv : Value.okWide Try.prog W r b0 23 v) (h : DataW.Trod enc Try.prog W base spare held 23 v d p) : IsBand W v := by
  obtain ⟨cs, rfl, _⟩ := okWide_struct Try.underlying23 hv
  obtain ⟨fuel, hf⟩ := h
  obtain ⟨b, hl, hs⟩ := band_cells hf
  refine ⟨b, ?_, hs⟩
  simp only [Value.cells] at hl
  rw [← hl]
end
end Go.Proofs.Ytmnklmaefoidbaa.Fr
