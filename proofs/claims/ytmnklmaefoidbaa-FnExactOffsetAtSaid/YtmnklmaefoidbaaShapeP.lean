/-
  What the frame tells a walk of its arguments: numbers, lists of numbers, profiles.
-/
import Derived.Test.YtmnklmaefoidbaaShapeG
import Derived.Test.YtmnklmaefoidbaaPrA
namespace Go.Proofs.Ytmnklmaefoidbaa.Fr
open Go.ChangeShapes Go.WideShapes Go.ChangeAt Go.RowKit Go.Deep
open Go.ChangeMaps (open_string shut_string)
open Go.Proofs.Ytmnklmaefoidbaa.Pr Go.Proofs.Ytmnklmaefoidbaa.Il
set_option linter.unusedSimpArgs false

def inC (x : Int) : List Value := [.int .i64 x]
def IsInts (w : World) (v : Value) : Prop := ∃ xs : List Int, SlV inC 1 w v xs ∧ ∀ x ∈ xs, (Lit.int .i64 x).wf = true
def IsProf (w : World) (v : Value) : Prop := ∃ (p : Pf) (s : Value), v = .agg #[.int .i64 p.d, .int .i64 p.f, .int .i64 p.l, s] ∧ SlV inC 1 w s p.hs
section
variable {H : Type} {enc : TypeId × Value → H} {W : World} {r : Reach} {b0 base : Nat} {spare : Nat → Bool} {held : Bool} {v : Value} {d : DataW H} {p : List MemPlace}
theorem cellsInt : Try.prog.cellsOf 2 = 1 := by kernel_rfl
theorem cellsProf : Try.prog.cellsOf 36 = 4 := by kernel_rfl
theorem cellsInts : Try.prog.cellsOf 34 = 1 := by kernel_rfl
set_option maxRecDepth 100000 in
theorem isInt_of (hv : Value.okWide Try.prog W r b0 2 v) (h : DataW.Trod enc Try.prog W base spare held 2 v d p) : IsInt W v := by
  obtain ⟨x, rfl, _, _, wx⟩ := open_int Try.underlying2 hv h
  exact ⟨x, rfl, wx⟩
theorem int_cells {fuel : Nat} {cs : List Value} {x : DataW H × List MemPlace} (h : DataW.trod enc Try.prog W base spare held fuel 2 cs = some x) : ∃ n : Int, cs = inC n ∧ (Lit.int .i64 n).wf = true := by
  obtain ⟨n, e, _, w⟩ := DataW.trod_int Try.underlying2 h
  exact ⟨n, e, w⟩
set_option maxRecDepth 100000 in
theorem isInts_of (hv : Value.okWide Try.prog W r b0 34 v) (h : DataW.Trod enc Try.prog W base spare held 34 v d p) : IsInts W v := by
  obtain ⟨fuel, hf⟩ := h
  rw [sl_cell Try.underlying34 hv] at hf
  obtain ⟨xs, h1, h2⟩ := sl_open (Q := fun n => (Lit.int .i64 n).wf = true) Try.underlying34 cellsInt (by omega) (fun _ => rfl) (fun a y hy => by simp [inC] at hy; subst hy; rfl) (fun _ _ _ h => int_cells h) hf
  exact ⟨xs, h1, h2⟩
set_option maxRecDepth 100000 in
theorem isProf_of (hv : Value.okWide Try.prog W r b0 36 v) (h : DataW.Trod enc Try.prog W base spare held 36 v d p) : IsProf W v := by
  obtain ⟨cs, rfl, hsz⟩ := okWide_struct Try.underlying36 hv
  obtain ⟨l⟩ := cs
  match l, hsz.trans cellsProf with
  | [c0, c1, c2, c3], _ =>
    obtain ⟨fuel, hf⟩ := h
    obtain ⟨xs, n, _, _, _, hlen, hg⟩ := DataW.trod_struct Try.underlying36 hf
    match xs, hlen with
    | [y0, y1, y2, y3], _ =>
      have g0 := hg 0 _ rfl
      have g1 := hg 1 _ rfl
      have g2 := hg 2 _ rfl
      have g3 := hg 3 _ rfl
      simp [Value.cells, cellsInt, cellsInts] at g0 g1 g2 g3
      obtain ⟨i0, e0, _, w0⟩ := DataW.trod_int Try.underlying2 g0
      obtain ⟨i1, e1, _, w1⟩ := DataW.trod_int Try.underlying2 g1
      obtain ⟨i2, e2, _, w2⟩ := DataW.trod_int Try.underlying2 g2
      simp at e0 e1 e2
      subst e0 e1 e2
      obtain ⟨ls, h1, h2⟩ := sl_open (Q := fun n => (Lit.int .i64 n).wf = true) Try.underlying34 cellsInt (by omega) (fun _ => rfl) (fun a y hy => by simp [inC] at hy; subst hy; rfl) (fun _ _ _ h => int_cells h) g3
      exact ⟨⟨i0, i1, i2, ls⟩, c3, rfl, h1⟩
theorem prof_vr {q : Pf} {s : Value} (h : SlV inC 1 W s q.hs) : Aw.VR (fun k => k < W.heap.size) W (fun _ => ⟨0, 0, 0, false⟩) Aw.NoS (.agg (pfL q)) (.agg #[.int .i64 q.d, .int .i64 q.f, .int .i64 q.l, s]) := by
  refine .agg _ _ [.int .i64 q.d, .int .i64 q.f, .int .i64 q.l, s] rfl fun j cv x h1 h2 => ?_
  match j with
  | 0 => simp [pfL] at h1 h2; subst h1 h2; exact .v _ _
  | 1 => simp [pfL] at h1 h2; subst h1 h2; exact .v _ _
  | 2 => simp [pfL] at h1 h2; subst h1 h2; exact .v _ _
  | 3 => simp [pfL] at h1 h2; subst h1 h2; exact h.1
  | j + 4 => simp [pfL] at h1
end
end Go.Proofs.Ytmnklmaefoidbaa.Fr
