/-
  What the frame tells a walk of its arguments: numbers, lists of numbers, backhauls.
-/
import Derived.Test.YtglfcaioapdiaaaShapeG
import Derived.Test.YtglfcaioapdiaaaBkA
namespace Go.Proofs.Ytglfcaioapdiaaa.Fr
open Go.ChangeShapes Go.WideShapes Go.ChangeAt Go.RowKit Go.Deep
open Go.ChangeMaps (open_string shut_string)
open Go.Proofs.Ytglfcaioapdiaaa.Bk
set_option linter.unusedSimpArgs false

def lnC (l : Ln) : List Value := [.int .i64 l.a, .int .i64 l.b, .int .i64 l.o, .int .i64 l.c]
def Ln.wf (l : Ln) : Prop := (Lit.int .i64 l.a).wf = true ∧ (Lit.int .i64 l.b).wf = true ∧ (Lit.int .i64 l.o).wf = true ∧ (Lit.int .i64 l.c).wf = true
def inC (x : Int) : List Value := [.int .i64 x]
def IsInts (w : World) (v : Value) : Prop := ∃ xs : List Int, SlV inC 1 w v xs ∧ ∀ x ∈ xs, (Lit.int .i64 x).wf = true
def IsBack (w : World) (v : Value) : Prop := ∃ (n : Int) (ls : List Ln) (s : Value), v = .agg #[.int .i64 n, s] ∧ SlV lnC 4 w s ls ∧ (Lit.int .i64 n).wf = true ∧ ∀ l ∈ ls, Ln.wf l
instance : Inhabited Ln := ⟨⟨0, 0, 0, 0⟩⟩
section
variable {H : Type} {enc : TypeId × Value → H} {W : World} {r : Reach} {b0 base : Nat} {spare : Nat → Bool} {held : Bool} {v : Value} {d : DataW H} {p : List MemPlace}
theorem cellsInt : Try.prog.cellsOf 2 = 1 := by kernel_rfl
theorem cellsLink : Try.prog.cellsOf 113 = 4 := by kernel_rfl
theorem cellsBack : Try.prog.cellsOf 24 = 2 := by kernel_rfl
theorem cellsLinks : Try.prog.cellsOf 22 = 1 := by kernel_rfl
set_option maxRecDepth 100000 in
theorem isInt_of (hv : Value.okWide Try.prog W r b0 2 v) (h : DataW.Trod enc Try.prog W base spare held 2 v d p) : IsInt W v := by
  obtain ⟨x, rfl, _, _, wx⟩ := open_int Try.underlying2 hv h
  exact ⟨x, rfl, wx⟩
theorem int_cells {fuel : Nat} {cs : List Value} {x : DataW H × List MemPlace} (h : DataW.trod enc Try.prog W base spare held fuel 2 cs = some x) : ∃ n : Int, cs = inC n ∧ (Lit.int .i64 n).wf = true := by
  obtain ⟨n, e, _, w⟩ := DataW.trod_int Try.underlying2 h
  exact ⟨n, e, w⟩
set_option maxRecDepth 100000 in
theorem isInts_of (hv : Value.okWide Try.prog W r b0 26 v) (h : DataW.Trod enc Try.prog W base spare held 26 v d p) : IsInts W v := by
  obtain ⟨fuel, hf⟩ := h
  rw [sl_cell Try.underlying26 hv] at hf
  obtain ⟨xs, h1, h2⟩ := sl_open (Q := fun n => (Lit.int .i64 n).wf = true) Try.underlying26 cellsInt (by omega) (fun _ => rfl) (fun a y hy => by simp [inC] at hy; subst hy; rfl) (fun _ _ _ h => int_cells h) hf
  exact ⟨xs, h1, h2⟩
set_option maxRecDepth 100000 in
theorem link_cells {fuel : Nat} {cs : List Value} {x : DataW H × List MemPlace} (h : DataW.trod enc Try.prog W base spare held fuel 113 cs = some x) : ∃ l : Ln, cs = lnC l ∧ Ln.wf l := by
  obtain ⟨xs, n, _, _, hcl, hlen, hg⟩ := DataW.trod_struct Try.underlying113 h
  rw [cellsLink] at hcl
  match cs, hcl with
  | [c0, c1, c2, c3], _ =>
    match xs, hlen with
    | [y0, y1, y2, y3], _ =>
      have g0 := hg 0 _ rfl
      have g1 := hg 1 _ rfl
      have g2 := hg 2 _ rfl
      have g3 := hg 3 _ rfl
      simp [Value.cells, cellsInt] at g0 g1 g2 g3
      obtain ⟨i0, e0, _, w0⟩ := DataW.trod_int Try.underlying2 g0
      obtain ⟨i1, e1, _, w1⟩ := DataW.trod_int Try.underlying2 g1
      obtain ⟨i2, e2, _, w2⟩ := DataW.trod_int Try.underlying2 g2
      obtain ⟨i3, e3, _, w3⟩ := DataW.trod_int Try.underlying2 g3
      simp at e0 e1 e2 e3
      subst e0 e1 e2 e3
      exact ⟨⟨i0, i1, i2, i3⟩, rfl, w0, w1, w2, w3⟩
set_option maxRecDepth 100000 in
theorem isBack_of (hv : Value.okWide Try.prog W r b0 24 v) (h : DataW.Trod enc Try.prog W base spare held 24 v d p) : IsBack W v := by
  obtain ⟨cs, rfl, hsz⟩ := okWide_struct Try.underlying24 hv
  obtain ⟨l⟩ := cs
  match l, hsz.trans cellsBack with
  | [c0, c1], _ =>
    obtain ⟨fuel, hf⟩ := h
    obtain ⟨xs, n, _, _, _, hlen, hg⟩ := DataW.trod_struct Try.underlying24 hf
    match xs, hlen with
    | [y0, y1], _ =>
      have g0 := hg 0 _ rfl
      have g1 := hg 1 _ rfl
      simp [Value.cells, cellsInt, cellsLinks] at g0 g1
      obtain ⟨i0, e0, _, w0⟩ := DataW.trod_int Try.underlying2 g0
      simp at e0
      subst e0
      obtain ⟨ls, h1, h2⟩ := sl_open (Q := Ln.wf) Try.underlying22 cellsLink (by omega) (fun _ => rfl) (fun a y hy => by simp [lnC] at hy; rcases hy with rfl | rfl | rfl | rfl <;> rfl) (fun _ _ _ h => link_cells h) g1
      exact ⟨i0, ls, c1, rfl, h1, w0, h2⟩
/-- a backhaul as a tree -/
theorem back_vr {n : Int} {ls : List Ln} {s : Value} (h : SlV lnC 4 W s ls) : Aw.VR (fun k => k < W.heap.size) W (fun _ => ⟨0, 0, 0, false⟩) Aw.NoS (.agg (bkL n ls)) (.agg #[.int .i64 n, s]) := by
  refine .agg _ _ [.int .i64 n, s] rfl fun j cv x h1 h2 => ?_
  match j with
  | 0 => simp [bkL] at h1 h2; subst h1 h2; exact .v _ _
  | 1 => simp [bkL] at h1 h2; subst h1 h2; exact h.1
  | j + 2 => simp [bkL] at h1
end
end Go.Proofs.Ytglfcaioapdiaaa.Fr
