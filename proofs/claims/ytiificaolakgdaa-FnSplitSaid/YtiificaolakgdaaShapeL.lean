/-
  What the frame tells a walk of its arguments: licences.
-/
import Derived.Test.YtiificaolakgdaaShape
import Derived.Test.YtiificaolakgdaaLiA
namespace Go.Proofs.Ytiificaolakgdaa.Fr
open Go.ChangeShapes Go.WideShapes Go.ChangeAt Go.RowKit
open Go.ChangeMaps (open_string shut_string)
open Go.Proofs.Ytiificaolakgdaa.Li Go.Deep
set_option linter.unusedSimpArgs false

def licC (l : Lic) : List Value := [.string l.id, .string l.ho, .int .i64 l.lo, .int .i64 l.hi, .int .i64 l.x, .int .i64 l.y, .int .i64 l.e, .int .i64 l.n, .int .i64 l.fr, .int .i64 l.un, .int .i64 l.po]
theorem licC_v (l : Lic) : (licC l).map .v = licL l := rfl
def IsLic (_w : World) (v : Value) : Prop := ∃ l : Lic, v = .agg (licC l).toArray ∧ l.sm
section
variable {H : Type} {enc : TypeId × Value → H} {W : World} {r : Reach} {b0 base : Nat} {spare : Nat → Bool} {held : Bool} {v : Value} {d : DataW H} {p : List MemPlace}
theorem cellsStr : Try.prog.cellsOf 9 = 1 := by kernel_rfl
theorem cellsLic : Try.prog.cellsOf 51 = 11 := by kernel_rfl
set_option maxRecDepth 100000 in
set_option maxHeartbeats 1000000 in
theorem lic_cells {fuel : Nat} {cs : List Value} {x : DataW H × List MemPlace} (h : DataW.trod enc Try.prog W base spare held fuel 51 cs = some x) : ∃ l : Lic, cs = licC l ∧ l.sm := by
  obtain ⟨xs, n, _, _, hcl, hlen, hg⟩ := DataW.trod_struct Try.underlying51 h
  rw [cellsLic] at hcl
  match cs, hcl with
  | [c0, c1, c2, c3, c4, c5, c6, c7, c8, c9, c10], _ =>
    match xs, hlen with
    | [y0, y1, y2, y3, y4, y5, y6, y7], _ =>
      have g0 := hg 0 _ rfl
      have g1 := hg 1 _ rfl
      have g2 := hg 2 _ rfl
      have g3 := hg 3 _ rfl
      have g4 := hg 4 _ rfl
      have g5 := hg 5 _ rfl
      have g6 := hg 6 _ rfl
      have g7 := hg 7 _ rfl
      simp [Value.cells, cellsInt, cellsStr, cellsArea] at g0 g1 g2 g3 g4 g5 g6 g7
      obtain ⟨s0, e0, _, w0⟩ := DataW.trod_string Try.underlying9 g0
      obtain ⟨s1, e1, _, w1⟩ := DataW.trod_string Try.underlying9 g1
      obtain ⟨i2, e2, _, w2⟩ := DataW.trod_int Try.underlying2 g2
      obtain ⟨i3, e3, _, w3⟩ := DataW.trod_int Try.underlying2 g3
      obtain ⟨i5, e5, _, w5⟩ := DataW.trod_int Try.underlying2 g5
      obtain ⟨i6, e6, _, w6⟩ := DataW.trod_int Try.underlying2 g6
      obtain ⟨i7, e7, _, w7⟩ := DataW.trod_int Try.underlying2 g7
      obtain ⟨zs, n4, _, _, _, hl4, hg4⟩ := DataW.trod_struct Try.underlying49 g4
      match zs, hl4 with
      | [z0, z1, z2, z3], _ =>
        have k0 := hg4 0 _ rfl
        have k1 := hg4 1 _ rfl
        have k2 := hg4 2 _ rfl
        have k3 := hg4 3 _ rfl
        simp [Value.cells, cellsInt] at k0 k1 k2 k3
        obtain ⟨a0, b0, _, _⟩ := DataW.trod_int Try.underlying2 k0
        obtain ⟨a1, b1, _, _⟩ := DataW.trod_int Try.underlying2 k1
        obtain ⟨a2, b2, _, _⟩ := DataW.trod_int Try.underlying2 k2
        obtain ⟨a3, b3, _, _⟩ := DataW.trod_int Try.underlying2 k3
        simp at e0 e1 e2 e3 e5 e6 e7 b0 b1 b2 b3
        subst e0 e1 e2 e3 e5 e6 e7 b0 b1 b2 b3
        exact ⟨⟨s0, s1, i2, i3, a0, a1, a2, a3, i5, i6, i7⟩, rfl, by simpa [maxLen] using w0, by simpa [maxLen] using w1⟩
set_option maxRecDepth 100000 in
theorem isLic_of (hv : Value.okWide Try.prog W r b0 51 v) (h : DataW.Trod enc Try.prog W base spare held 51 v d p) : IsLic W v := by
  obtain ⟨cs, rfl, _⟩ := okWide_struct Try.underlying51 hv
  obtain ⟨fuel, hf⟩ := h
  obtain ⟨l, hl, hs⟩ := lic_cells hf
  refine ⟨l, ?_, hs⟩
  simp only [Value.cells] at hl
  rw [← hl]

def IsLics (w : World) (v : Value) : Prop := ∃ xs : List Lic, Aw.VR (fun k => k < w.heap.size) w (fun _ => ⟨0, 0, 0, false⟩) Aw.NoS (.dsl 11 (xs.map licL)) v ∧ (∀ l ∈ xs, l.sm) ∧ xs.length ≤ 9223372036854775807
theorem licL_get (l : Lic) (j : Nat) (cv : Aw.AV) (h : (licL l)[j]? = some cv) : ∃ y, (licC l)[j]? = some y ∧ cv = .v y ∧ y.oneCell' = true := by
  rw [← licC_v, List.getElem?_map] at h
  cases hj : (licC l)[j]? with
  | none => simp [hj] at h
  | some y =>
    simp only [hj, Option.map_some, Option.some.injEq] at h
    refine ⟨y, rfl, h.symm, ?_⟩
    have : y ∈ licC l := List.mem_of_getElem? hj
    simp only [licC, List.mem_cons, List.not_mem_nil, or_false] at this
    rcases this with rfl | rfl | rfl | rfl | rfl | rfl | rfl | rfl | rfl | rfl | rfl <;> rfl
instance : Inhabited Lic := ⟨⟨.empty, .empty, 0, 0, 0, 0, 0, 0, 0, 0, 0⟩⟩
set_option maxRecDepth 100000 in
theorem isLics_of (hv : Value.okWide Try.prog W r b0 40 v) (h : DataW.Trod enc Try.prog W base spare held 40 v d p) : IsLics W v := by
  obtain ⟨fuel, hf⟩ := h
  have hsl : ∃ a n c, v = .slice a n c := by
    simp only [Value.okWide, Try.underlying40, Cell.okWide] at hv
    cases v <;> simp_all [Cell.ok]
  have hcell : v.cells.toList = [v] := by
    obtain ⟨a, n, c, rfl⟩ := hsl
    rfl
  rcases open_slice Try.underlying40 hf with ⟨hc, _⟩ | ⟨a, len, cap, m, n, D, Pl, hc, hb, hl, hm, hmm, _, hel⟩
  · rw [hcell] at hc
    simp only [List.cons.injEq, and_true] at hc
    subst hc
    exact ⟨[], .dsl0 _ _ _ _, by simp, by simp⟩
  · rw [hcell] at hc
    simp only [List.cons.injEq, and_true] at hc
    subst hc
    have hlm : len ≤ m := by rw [hmm]; split <;> omega
    obtain ⟨f, hf2⟩ := choose_lt (n := len) (p := fun i (l : Lic) => W.cells? base (a.add (i * 11)) 11 = some (licC l) ∧ l.sm) fun i hi => by
      obtain ⟨cs', h1, h2⟩ := hel i (by omega)
      rw [cellsLic] at h1
      obtain ⟨l, rfl, hs⟩ := lic_cells h2
      exact ⟨l, h1, hs⟩
    refine ⟨(List.range len).map f, ?_, fun l hl => ?_, by simp only [maxLen] at hm; simp; omega⟩
    · obtain ⟨b, off, spot⟩ := a
      cases len with
      | zero => exact .dsl0 _ _ _ _
      | succ len =>
        have hc0 : ∀ r, r < len + 1 → ∀ j, j < 11 → W.cell? ((⟨b, off, spot⟩ : Addr).add (r * 11 + j)) = (licC (f r))[j]? := fun r hr j hj => by
          obtain ⟨_, _, hc⟩ := World.cells?_some (hf2 r hr).1
          rw [← add_add]
          exact hc j hj
        have hspot : spot = none := by
          have := hc0 0 (by omega) 0 (by omega)
          simp only [Nat.zero_mul, Nat.add_zero] at this
          have h2 : W.cell? ((⟨b, off, spot⟩ : Addr).add 0) = some (.string (f 0).id) := this
          simpa [Addr.add] using World.cell?_spot h2
        subst hspot
        have hlt : b < W.heap.size := by
          have h2 : W.cell? ((⟨b, off, none⟩ : Addr).add 0) = some (.string (f 0).id) := hc0 0 (by omega) 0 (by omega)
          exact block_lt_of_cell h2
        refine .dsl _ 11 _ _ b off cap (fun r j => ((licC (f r))[j]?).getD undef) (by simp) (by simpa using hl) hlt (fun r row hr => ?_) (fun r row j cv hr hj => ?_) (fun r row j cv hr hj => ?_)
        all_goals
          rw [List.getElem?_map, List.getElem?_map] at hr
          have hrl : r < len + 1 := by
            rcases Nat.lt_or_ge r (len + 1) with h | h
            · exact h
            · rw [List.getElem?_eq_none (by simpa using h)] at hr; simp at hr
          rw [List.getElem?_range hrl] at hr
          simp only [Option.map_some, Option.some.injEq] at hr
          subst hr
        · rfl
        · obtain ⟨y, hy, rfl, hone⟩ := licL_get _ _ _ hj
          have hj11 : j < 11 := (List.getElem?_eq_some_iff.1 hy).1
          have := hc0 r hrl j hj11
          rw [Go.WideShapes.add_plain] at this
          simp only [hy, Option.getD_some]
          refine ⟨?_, hone⟩
          rw [Nat.add_assoc, this, hy]
        · obtain ⟨y, hy, rfl, hone⟩ := licL_get _ _ _ hj
          simp only [hy, Option.getD_some]
          exact .v _ _
    · obtain ⟨i, hi, rfl⟩ := List.mem_map.1 hl
      exact (hf2 i (by simpa using hi)).2
end
end Go.Proofs.Ytiificaolakgdaa.Fr
