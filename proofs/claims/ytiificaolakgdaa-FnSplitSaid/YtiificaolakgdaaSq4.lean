/-
  What the frame tells a walk of its arguments: slices of anything plain, in general.
-/
import Derived.Test.YtiificaolakgdaaAw
import Derived.Test.YtiificaolakgdaaRows
import Derived.WalkKit
import Derived.ProofKit
import Derived.OpenShut
import Derived.ShutString
import Derived.ChangeOld
import Derived.Below
import Derived.Deep.Slices
import Derived.Test.YtiificaolakgdaaSq0
import Derived.Test.YtiificaolakgdaaSq2
import Derived.Test.YtiificaolakgdaaSq3
import Derived.Test.YtiificaolakgdaaLhB
namespace Go.Proofs.Ytiificaolakgdaa.Fg
open Go.ChangeShapes Go.WideShapes Go.ChangeAt Go.RowKit Go.Deep
open Go.ChangeMaps (open_string shut_string)
set_option linter.unusedSimpArgs false

/-- a slice of plain rows, as a tree -/
def SlV {α : Type} (cV : α → List Value) (sz : Nat) (w : World) (v : Value) (xs : List α) : Prop :=
  Aw.VR (fun k => k < w.heap.size) w (fun _ => ⟨0, 0, 0, false⟩) Aw.NoS (.dsl sz (xs.map fun a => (cV a).map .v)) v ∧ xs.length ≤ 9223372036854775807
section
variable {P : Program} {H : Type} {enc : TypeId × Value → H} {W : World} {r : Reach} {b0 base : Nat} {spare : Nat → Bool} {held : Bool} {v : Value} {d : DataW H} {p : List MemPlace}
theorem sl_open {t e : TypeId} {sz : Nat} {α : Type} [Inhabited α] {cV : α → List Value} {Q : α → Prop} {fuel : Nat} {x : DataW H × List MemPlace} (hU : P.underlying t = some (.slice e)) (hcells : P.cellsOf e = sz) (hsz : 0 < sz) (hlen : ∀ a, (cV a).length = sz)
    (hone : ∀ a, ∀ y ∈ cV a, y.oneCell' = true) (hel : ∀ fuel cs x, DataW.trod enc P W base spare held fuel e cs = some x → ∃ a, cs = cV a ∧ Q a) (h : DataW.trod enc P W base spare held fuel t [v] = some x) :
    ∃ xs : List α, SlV cV sz W v xs ∧ ∀ a ∈ xs, Q a := by
  rcases open_slice hU h with ⟨hc, _⟩ | ⟨a, len, cap, m, n, D, Pl, hc, hb, hl, hm, hmm, _, hels⟩
  · simp only [List.cons.injEq, and_true] at hc
    subst hc
    exact ⟨[], ⟨.dsl0 _ _ _ _, by simp⟩, by simp⟩
  · simp only [List.cons.injEq, and_true] at hc
    subst hc
    have hlm : len ≤ m := by rw [hmm]; split <;> omega
    obtain ⟨f, hf2⟩ := choose_lt (n := len) (p := fun i (l : α) => W.cells? base (a.add (i * sz)) sz = some (cV l) ∧ Q l) fun i hi => by
      obtain ⟨cs', h1, h2⟩ := hels i (by omega)
      rw [hcells] at h1
      obtain ⟨l, rfl, hs⟩ := hel _ _ _ h2
      exact ⟨l, h1, hs⟩
    refine ⟨(List.range len).map f, ⟨?_, by simp only [maxLen] at hm; simp; omega⟩, fun l hl => ?_⟩
    · obtain ⟨b, off, spot⟩ := a
      cases len with
      | zero => exact .dsl0 _ _ _ _
      | succ len =>
        have hc0 : ∀ r, r < len + 1 → ∀ j, j < sz → W.cell? ((⟨b, off, spot⟩ : Addr).add (r * sz + j)) = (cV (f r))[j]? := fun r hr j hj => by
          obtain ⟨_, _, hc⟩ := World.cells?_some (hf2 r hr).1
          rw [← add_add]
          exact hc j hj
        obtain ⟨y0, hy0⟩ : ∃ y0, (cV (f 0))[0]? = some y0 := ⟨_, List.getElem?_eq_getElem (by rw [hlen]; exact hsz)⟩
        have h2 : W.cell? ((⟨b, off, spot⟩ : Addr).add 0) = some y0 := by
          have := hc0 0 (by omega) 0 hsz
          simp only [Nat.zero_mul, Nat.add_zero] at this
          rw [this, hy0]
        have hspot : spot = none := by simpa [Addr.add] using World.cell?_spot h2
        subst hspot
        have hlt : b < W.heap.size := block_lt_of_cell h2
        have get : ∀ (l : α) (j : Nat) (cv : Aw.AV), ((cV l).map Aw.AV.v)[j]? = some cv → ∃ y, (cV l)[j]? = some y ∧ cv = .v y ∧ y.oneCell' = true := fun l j cv h => by
          rw [List.getElem?_map] at h
          cases hj : (cV l)[j]? with
          | none => simp [hj] at h
          | some y =>
            simp only [hj, Option.map_some, Option.some.injEq] at h
            exact ⟨y, rfl, h.symm, hone l y (List.mem_of_getElem? hj)⟩
        refine .dsl _ sz _ _ b off cap (fun r j => ((cV (f r))[j]?).getD undef) (by simp) (by simpa using hl) hlt (fun r row hr => ?_) (fun r row j cv hr hj => ?_) (fun r row j cv hr hj => ?_)
        all_goals
          rw [List.getElem?_map, List.getElem?_map] at hr
          have hrl : r < len + 1 := by
            rcases Nat.lt_or_ge r (len + 1) with h | h
            · exact h
            · rw [List.getElem?_eq_none (by simpa using h)] at hr; simp at hr
          rw [List.getElem?_range hrl] at hr
          simp only [Option.map_some, Option.some.injEq] at hr
          subst hr
        · simp [hlen]
        · obtain ⟨y, hy, rfl, hone⟩ := get _ _ _ hj
          have hjl : j < sz := by rw [← hlen (f r)]; exact (List.getElem?_eq_some_iff.1 hy).1
          have := hc0 r hrl j hjl
          rw [Go.WideShapes.add_plain] at this
          simp only [hy, Option.getD_some]
          refine ⟨?_, hone⟩
          rw [Nat.add_assoc, this, hy]
        · obtain ⟨y, hy, rfl, hone⟩ := get _ _ _ hj
          simp only [hy, Option.getD_some]
          exact .v _ _
    · obtain ⟨i, hi, rfl⟩ := List.mem_map.1 hl
      exact (hf2 i (by simpa using hi)).2
/-- an argument that is a slice is one cell -/
theorem sl_cell {t e : TypeId} (hU : P.underlying t = some (.slice e)) (hv : Value.okWide P W r b0 t v) : v.cells.toList = [v] := by
  have hsl : ∃ a n c, v = .slice a n c := by
    simp only [Value.okWide, hU, Cell.okWide] at hv
    cases v <;> simp_all [Cell.ok]
  obtain ⟨a, n, c, rfl⟩ := hsl
  rfl
end
end Go.Proofs.Ytiificaolakgdaa.Fg

namespace Go.Proofs.Ytiificaolakgdaa.Fr
open Go.ChangeShapes Go.WideShapes Go.ChangeAt Go.RowKit Go.Deep
open Go.Proofs.Ytiificaolakgdaa.Sr Go.Proofs.Ytiificaolakgdaa.Fg
def byC (x : Int) : List Value := [.int .u8 x]
def IsBytes (w : World) (v : Value) : Prop := ∃ bs : List Int, Aw.VR (fun k => k < w.heap.size) w (fun _ => ⟨0, 0, 0, false⟩) Aw.NoS (.dsl 1 (byL bs)) v ∧ (∀ b ∈ bs, 0 ≤ b ∧ b ≤ 255) ∧ bs.length ≤ 9223372036854775807
section
variable {H : Type} {enc : TypeId × Value → H} {W : World} {r : Reach} {b0 base : Nat} {spare : Nat → Bool} {held : Bool} {v : Value} {d : DataW H} {p : List MemPlace}
theorem cellsByte : Try.prog.cellsOf 5 = 1 := by kernel_rfl
theorem byte_cells {fuel : Nat} {cs : List Value} {x : DataW H × List MemPlace} (h : DataW.trod enc Try.prog W base spare held fuel 5 cs = some x) : ∃ n : Int, cs = byC n ∧ (0 ≤ n ∧ n ≤ 255) := by
  obtain ⟨n, e, _, w⟩ := DataW.trod_int Try.underlying5 h
  have := bounds_u8 w
  exact ⟨n, e, by omega⟩
set_option maxRecDepth 100000 in
theorem isBytes_of (hv : Value.okWide Try.prog W r b0 22 v) (h : DataW.Trod enc Try.prog W base spare held 22 v d p) : IsBytes W v := by
  obtain ⟨fuel, hf⟩ := h
  rw [sl_cell Try.underlying22 hv] at hf
  obtain ⟨xs, h1, h2⟩ := sl_open (Q := fun n => 0 ≤ n ∧ n ≤ 255) Try.underlying22 cellsByte (by omega) (fun _ => rfl) (fun a y hy => by simp [byC] at hy; subst hy; rfl) (fun _ _ _ h => byte_cells h) hf
  exact ⟨xs, h1.1, h2, h1.2⟩
end
end Go.Proofs.Ytiificaolakgdaa.Fr

-- The law of divided licences: what holds of the lists, no program in sight.
namespace Go.Proofs.Ytiificaolakgdaa.Li
open Go Go.RowKit Go.Proofs.Ytiificaolakgdaa.Aw Go.Proofs.Ytiificaolakgdaa.Ar Go.Proofs.Ytiificaolakgdaa.Sr
set_option linter.unusedSimpArgs false
set_option linter.unusedVariables false
attribute [local irreducible] AW SQ Step RO RC DE Thn InB

def zz : ByteArray := ⟨#[122, 122]⟩
theorem eqS_irr {a b : ByteArray} (h : ltS a b = true) : eqS a b = false := by
  have := ltS_le b a
  cases hc : eqS a b with
  | false => rfl
  | true =>
    have e : eqS b a = true := by unfold eqS at hc ⊢; rw [beq_iff_eq] at hc ⊢; exact hc.symm
    rw [e, h, Bool.or_true] at this
    cases this
theorem eqS_self (a : ByteArray) : eqS a a = true := by simp [eqS]
theorem ix_self {xs : List Lic} (h : HoldP xs) {m : Nat} (hm : m < xs.length) : ixOf (idP xs[m].id) xs = (m : Int) := by
  have e : xs = xs.take m ++ xs[m] :: xs.drop (m + 1) := by rw [← List.drop_eq_getElem_cons hm, List.take_append_drop]
  have := ixOf_at (idP xs[m].id) (xs.take m) xs[m] (xs.drop (m + 1)) (fun y hy => by
    obtain ⟨k, hk, rfl⟩ := List.mem_take_iff_getElem.1 hy
    exact eqS_irr (h.lt' (i := k) (j := m) (by omega) hm)) (eqS_self _)
  rw [← e] at this
  rw [this]
  simp; omega
theorem zz_five {w : ByteArray} (h : w ∈ fiveT) : eqS w zz = false := by
  simp only [fiveT, List.mem_cons, List.not_mem_nil, or_false] at h
  rcases h with rfl | rfl | rfl | rfl | rfl <;> kernel_rfl
theorem two_zero {xs : List Lic} (hG : GoodL xs) (hl : xs.length ≤ 5) {m : Nat} (hm : m < xs.length) : twoC xs xs[m].id zz = 0 := by
  have hP := (holdP_iff xs).1 hG.hold
  have h1 := ix_self hP hm
  have h2 : ixOf (idP zz) xs = -1 := ixOf_none _ _ fun y hy => zz_five (hG.ids y hy)
  unfold twoC
  rw [hG.hold, show Nm.nameB zz = true by decide, h1, h2]
  simp
  omega
theorem sameB_self : ∀ xs : List Lic, sameB xs xs = true
  | [] => rfl
  | x :: xs => by simp [sameB, sameB_self xs, eqLB]
theorem wd_t {p : Lic → Bool} {l : Lic} (h : p l = true) : wd p l = l.hi - l.lo := by unfold wd; rw [if_pos h]
theorem wd_f {p : Lic → Bool} {l : Lic} (h : p l = false) : wd p l = 0 := by unfold wd; rw [if_neg (by rw [h]; simp)]
/-- what a day and a place of a licence say of its parts -/
theorem band_two {xs : List Lic} (hG : GoodL xs) (hl : xs.length ≤ 5) {m : Nat} (hm : m < xs.length) {q : Int} (h1 : ¬ q ≤ xs[m].lo) (h2 : ¬ xs[m].hi ≤ q) {a : Nat} (ha : AtP (xs.set m (bA xs[m] q)) (bB xs[m] q zz) a) (ho : ByteArray) (x y day : Int) :
    HoldP (insL (xs.set m (bA xs[m] q)) a (bB xs[m] q zz)) ∧ sumN (fun l => forB l ho x y day) (insL (xs.set m (bA xs[m] q)) a (bB xs[m] q zz)) = sumN (fun l => forB l ho x y day) xs := by
  have hP := (holdP_iff xs).1 hG.hold
  have hok := hP.ok m hm
  have hA : licB (bA xs[m] q) = true := by
    unfold licB inB at hok ⊢
    simp only [Bool.and_eq_true, decide_eq_true_eq] at hok ⊢
    simp only [bA]
    obtain ⟨⟨⟨⟨⟨⟨⟨⟨a1, a2⟩, a3⟩, a4⟩, a5⟩, a6⟩, a7⟩, a8⟩, a9⟩ := hok
    exact ⟨⟨⟨⟨⟨⟨⟨⟨a1, a2⟩, a3⟩, by omega⟩, by omega⟩, a6⟩, a7⟩, a8⟩, a9⟩
  have hB : licB (bB xs[m] q zz) = true := by
    unfold licB inB at hok ⊢
    simp only [Bool.and_eq_true, decide_eq_true_eq] at hok ⊢
    simp only [bB]
    obtain ⟨⟨⟨⟨⟨⟨⟨⟨a1, a2⟩, a3⟩, a4⟩, a5⟩, a6⟩, a7⟩, a8⟩, a9⟩ := hok
    exact ⟨⟨⟨⟨⟨⟨⟨⟨by decide, a2⟩, by omega⟩, a4⟩, by omega⟩, a6⟩, a7⟩, a8⟩, a9⟩
  refine ⟨hold_two hP hm rfl hA hB ⟨by simp [bA], by simp [bA]; omega, rfl, rfl, rfl, rfl, by simp [bA], by simp [bA]⟩ ⟨by simp [bB]; omega, by simp [bB], rfl, rfl, rfl, rfl, by simp [bB], by simp [bB]⟩ ?_ ha (by omega), sumN_two _ hm _ _ ha.le ?_⟩
  · simp [clB, bA, bB]
  · have pA : forB (bA xs[m] q) ho x y day = forB xs[m] ho x y day := rfl
    have pB : forB (bB xs[m] q zz) ho x y day = forB xs[m] ho x y day := rfl
    cases hp : forB xs[m] ho x y day with
    | true => rw [wd_t (p := fun l => forB l ho x y day) (pA.trans hp), wd_t (p := fun l => forB l ho x y day) (pB.trans hp), wd_t (p := fun l => forB l ho x y day) hp]; simp only [bA, bB]; omega
    | false => rw [wd_f (p := fun l => forB l ho x y day) (pA.trans hp), wd_f (p := fun l => forB l ho x y day) (pB.trans hp), wd_f (p := fun l => forB l ho x y day) hp]; rfl
theorem days_two {xs : List Lic} (hG : GoodL xs) (hl : xs.length ≤ 5) {m : Nat} (hm : m < xs.length) {q : Int} (h1 : ¬ q ≤ xs[m].fr) (h2 : ¬ xs[m].un < q) {a : Nat} (ha : AtP (xs.set m (dA xs[m] q)) (dB xs[m] q zz) a) (ho : ByteArray) (x y day : Int) :
    HoldP (insL (xs.set m (dA xs[m] q)) a (dB xs[m] q zz)) ∧ sumN (fun l => forB l ho x y day) (insL (xs.set m (dA xs[m] q)) a (dB xs[m] q zz)) = sumN (fun l => forB l ho x y day) xs := by
  have hP := (holdP_iff xs).1 hG.hold
  have hok := hP.ok m hm
  have bd : 0 ≤ xs[m].fr ∧ xs[m].fr ≤ xs[m].un ∧ xs[m].un ≤ 99999 := by
    unfold licB inB at hok
    simp only [Bool.and_eq_true, decide_eq_true_eq] at hok
    omega
  have hw : IntKind.i64.wrap (q - 1) = q - 1 := IntWalk.i64_in _ (by omega)
  have hA : licB (dA xs[m] q) = true := by
    unfold licB inB at hok ⊢
    simp only [Bool.and_eq_true, decide_eq_true_eq] at hok ⊢
    simp only [dA, hw]
    obtain ⟨⟨⟨⟨⟨⟨⟨⟨a1, a2⟩, a3⟩, a4⟩, a5⟩, a6⟩, a7⟩, a8⟩, a9⟩ := hok
    exact ⟨⟨⟨⟨⟨⟨⟨⟨a1, a2⟩, a3⟩, a4⟩, a5⟩, a6⟩, by omega⟩, by omega⟩, a9⟩
  have hB : licB (dB xs[m] q zz) = true := by
    unfold licB inB at hok ⊢
    simp only [Bool.and_eq_true, decide_eq_true_eq] at hok ⊢
    simp only [dB]
    obtain ⟨⟨⟨⟨⟨⟨⟨⟨a1, a2⟩, a3⟩, a4⟩, a5⟩, a6⟩, a7⟩, a8⟩, a9⟩ := hok
    exact ⟨⟨⟨⟨⟨⟨⟨⟨by decide, a2⟩, a3⟩, a4⟩, a5⟩, a6⟩, by omega⟩, a8⟩, a9⟩
  refine ⟨hold_two hP hm rfl hA hB ⟨by simp [dA], by simp [dA], rfl, rfl, rfl, rfl, by simp [dA], by simp [dA, hw]; omega⟩ ⟨by simp [dB], by simp [dB], rfl, rfl, rfl, rfl, by simp [dB]; omega, by simp [dB]⟩ ?_ ha (by omega), sumN_two _ hm _ _ ha.le ?_⟩
  · have : ¬ q ≤ q - 1 := by omega
    simp [clB, dA, dB, hw, this]
  · have pA : forB (dA xs[m] q) ho x y day = ((eqS xs[m].ho ho && hasB xs[m] x y) && inB day xs[m].fr (q - 1)) := by rw [← hw]; rfl
    have pB : forB (dB xs[m] q zz) ho x y day = ((eqS xs[m].ho ho && hasB xs[m] x y) && inB day q xs[m].un) := rfl
    have pX : forB xs[m] ho x y day = ((eqS xs[m].ho ho && hasB xs[m] x y) && inB day xs[m].fr xs[m].un) := rfl
    cases hc : (eqS xs[m].ho ho && hasB xs[m] x y) with
    | false =>
      rw [hc] at pA pB pX
      rw [wd_f (p := fun l => forB l ho x y day) pA, wd_f (p := fun l => forB l ho x y day) pB, wd_f (p := fun l => forB l ho x y day) pX]; rfl
    | true =>
      rw [hc, Bool.true_and] at pA pB pX
      have i1 : inB day xs[m].fr (q - 1) = (decide (xs[m].fr ≤ day) && decide (day ≤ q - 1)) := rfl
      have i2 : inB day q xs[m].un = (decide (q ≤ day) && decide (day ≤ xs[m].un)) := rfl
      have i3 : inB day xs[m].fr xs[m].un = (decide (xs[m].fr ≤ day) && decide (day ≤ xs[m].un)) := rfl
      rw [i1] at pA
      rw [i2] at pB
      rw [i3] at pX
      by_cases d1 : xs[m].fr ≤ day
      · by_cases d2 : day ≤ xs[m].un
        · by_cases d3 : day ≤ q - 1
          · have d4 : ¬ q ≤ day := by omega
            rw [wd_t (p := fun l => forB l ho x y day) (pA.trans (by simp [d1, d3])), wd_f (p := fun l => forB l ho x y day) (pB.trans (by simp [d4])), wd_t (p := fun l => forB l ho x y day) (pX.trans (by simp [d1, d2]))]; simp only [dA]; omega
          · have d4 : q ≤ day := by omega
            rw [wd_f (p := fun l => forB l ho x y day) (pA.trans (by simp [d3])), wd_t (p := fun l => forB l ho x y day) (pB.trans (by simp [d4, d2])), wd_t (p := fun l => forB l ho x y day) (pX.trans (by simp [d1, d2]))]; simp only [dB]; omega
        · have d3 : ¬ day ≤ q - 1 := by omega
          rw [wd_f (p := fun l => forB l ho x y day) (pA.trans (by simp [d3])), wd_f (p := fun l => forB l ho x y day) (pB.trans (by simp [d2])), wd_f (p := fun l => forB l ho x y day) (pX.trans (by simp [d2]))]; rfl
      · have d4 : ¬ q ≤ day := by omega
        rw [wd_f (p := fun l => forB l ho x y day) (pA.trans (by simp [d1])), wd_f (p := fun l => forB l ho x y day) (pB.trans (by simp [d4])), wd_f (p := fun l => forB l ho x y day) (pX.trans (by simp [d1]))]; rfl
theorem ext_same {xs : List Lic} (hG : GoodL xs) (hl : xs.length ≤ 5) {m : Nat} (hm : m < xs.length) : OkR 18 [.dsl 11 (xs.map licL), .v (.string xs[m].id), .v (.int .i64 xs[m].un)] xs := by
  have hP := (holdP_iff xs).1 hG.hold
  have e1 : toUn xs[m] xs[m].un = xs[m] := rfl
  have e2 : xs.set m xs[m] = xs := List.set_getElem_self hm
  have := (implExtend xs xs[m].id xs[m].un m hG.sm (by omega) hG.hold (ix_self hP hm) hm (by rw [e1]; exact hP.ok m hm)).2
  rw [e1, e2] at this
  exact this hG.hold
end Go.Proofs.Ytiificaolakgdaa.Li

-- The law of divided licences.
namespace Go.Proofs.Ytiificaolakgdaa.Li
open Go Go.RowKit Go.Proofs.Ytiificaolakgdaa.Aw Go.Proofs.Ytiificaolakgdaa.Ar Go.Proofs.Ytiificaolakgdaa.Sr
set_option linter.unusedSimpArgs false
set_option linter.unusedVariables false
attribute [local irreducible] AW SQ Step RO RC DE Thn InB

set_option maxHeartbeats 4000000 in
theorem width_ro {xs : List Lic} (hP : HoldP xs) (hs : ∀ l ∈ xs, l.sm) (ho : ByteArray) (x y day : Int) (w : Int) (hw : sumN (fun l => forB l ho x y day) xs = w) (k : Nat) : RO Try.prog 13 [.dsl 11 (xs.map licL), .v (.string ho), .agg [.v (.int .i64 x), .v (.int .i64 y)], .v (.int .i64 day)] k (.tup [.v (.int .i64 w), .v (.int .i64 0)]) [] k := by
  have h := specWidthOf_ro xs ho x y day hs (by have := hP.n; omega) k
  unfold widR at h
  rw [(holdP_iff xs).2 hP, if_pos rfl, hP.sumW, hw] at h
  exact h
set_option maxHeartbeats 4000000 in
theorem valid_ro {xs : List Lic} (hP : HoldP xs) (hs : ∀ l ∈ xs, l.sm) (k : Nat) : RO Try.prog 16 [.dsl 11 (xs.map licL)] k (.v (.bool true)) [] k := by
  have h := specValidHoldings_ro xs hs (by have := hP.n; omega) k
  rw [(holdP_iff xs).2 hP] at h
  exact h
/-- what a division gives: nothing, or two parts for one -/
def Two (f : FuncId) (xs : List Lic) (m : Nat) (hm : m < xs.length) (q : Int) (out : Bool) : Prop :=
  (out = true ∧ ErrR f [.dsl 11 (xs.map licL), .v (.string xs[m].id), .v (.int .i64 q), .v (.string zz)] 2) ∨
  (out = false ∧ ∃ ys, OkR f [.dsl 11 (xs.map licL), .v (.string xs[m].id), .v (.int .i64 q), .v (.string zz)] ys ∧ HoldP ys ∧ (∀ l ∈ ys, l.sm) ∧ ys.length = xs.length + 1 ∧ ∀ ho x y day, sumN (fun l => forB l ho x y day) ys = sumN (fun l => forB l ho x y day) xs)
theorem two_sm {xs : List Lic} (hs : ∀ l ∈ xs, l.sm) {m a : Nat} {A B : Lic} (hA : A.sm) (hB : B.sm) : ∀ l ∈ insL (xs.set m A) a B, l.sm := fun l h => by
  rcases ins_mem h with h | h
  · rw [h]; exact hB
  · exact set_sm hs m A hA l h
theorem zz_sm : zz.size ≤ 9223372036854775807 := by decide
theorem bandTwo {xs : List Lic} (hG : GoodL xs) (hl : xs.length ≤ 5) {m : Nat} (hm : m < xs.length) (q : Int) (hq : ¬ q ≤ xs[m].lo) : Two 15 xs m hm q (decide (xs[m].hi ≤ q)) := by
  have hP := (holdP_iff xs).1 hG.hold
  obtain ⟨h1, h2⟩ := SplitBand_impl xs xs[m].id zz q m hG.sm (by omega) zz_sm (two_zero hG hl hm) (ix_self hP hm) hm
  by_cases c : xs[m].hi ≤ q
  · exact .inl ⟨by simpa using c, h1 (.inr c)⟩
  · obtain ⟨a, ha, hO⟩ := h2 hq c
    have hb := band_two hG hl hm hq c ha
    have hx := hG.sm xs[m] (List.getElem_mem hm)
    exact .inr ⟨by simpa using c, _, hO, (hb .empty 0 0 0).1, two_sm hG.sm ⟨hx.1, hx.2⟩ ⟨zz_sm, hx.2⟩, by rw [insL_len ha.le]; simp, fun ho x y day => (hb ho x y day).2⟩
theorem daysTwo {xs : List Lic} (hG : GoodL xs) (hl : xs.length ≤ 5) {m : Nat} (hm : m < xs.length) (q : Int) : Two 17 xs m hm q (decide (q ≤ xs[m].fr) || decide (xs[m].un < q)) := by
  have hP := (holdP_iff xs).1 hG.hold
  obtain ⟨h1, h2⟩ := SplitDays_impl xs xs[m].id zz q m hG.sm (by omega) zz_sm (two_zero hG hl hm) (ix_self hP hm) hm
  by_cases c : q ≤ xs[m].fr ∨ xs[m].un < q
  · exact .inl ⟨by simpa using c, h1 c⟩
  · have c1 : ¬ q ≤ xs[m].fr := fun h => c (.inl h)
    have c2 : ¬ xs[m].un < q := fun h => c (.inr h)
    obtain ⟨a, ha, hO⟩ := h2 c1 c2
    have hb := days_two hG hl hm c1 c2 ha
    have hx := hG.sm xs[m] (List.getElem_mem hm)
    exact .inr ⟨by simp [c1, c2], _, hO, (hb .empty 0 0 0).1, two_sm hG.sm ⟨hx.1, hx.2⟩ ⟨zz_sm, hx.2⟩, by rw [insL_len ha.le]; simp, fun ho x y day => (hb ho x y day).2⟩
set_option maxHeartbeats 4000000 in
theorem lawFnSplit_ro (cs ms : List Int) (hc : ∀ b ∈ cs, 0 ≤ b ∧ b ≤ 255) (hm : ∀ b ∈ ms, 0 ≤ b ∧ b ≤ 255) (hnc : cs.length ≤ 9223372036854775807) (hnm : ms.length ≤ 9223372036854775807) (k : Nat) :
    RO Try.prog 3 [.dsl 1 (byL cs), .dsl 1 (byL ms)] k (.v (.bool true)) [] k := by
  have hLong := r8Long_ro cs ms
  cases hlong : longB cs ms with
  | true =>
    rw [hlong] at hLong
    refine RO.ofv' Try.func3 Try.ntmps3 rfl (goFn_of Try.func3 rfl (by kernel_rfl)) rfl rfl ?_
    ((repeat' (first
    | (show SQ _ _ _ _ _ _ _ _; first | apply sq_nil | (apply q_move; exact rfl; exact rfl) | (apply q_assign; exact rfl; exact rfl))
    | (show SQ _ _ _ _ _ _ _ _; (first | (apply q_callU; exact rfl; exact rfl; exact rfl; exact FzL.of rfl; exact hLong _)); (try simp only [put, rowsOf, plR, List.all_cons, selE, ovr, setH, del, cellsA, splice, isV, List.nil_append, List.cons_append, List.map_cons, List.map_nil, List.length_cons, List.length_nil, List.set_cons_zero, List.set_cons_succ, List.take_succ_cons, List.take_zero, List.take_nil, List.drop_succ_cons, List.drop_zero, List.drop_nil, List.append_nil, List.all_cons, List.all_nil, Bool.and_true, Bool.true_and, Bool.and_false, Bool.false_and, Nat.reduceAdd, Nat.zero_add, Nat.add_zero, Nat.reduceEqDiff, if_true, if_false, reduceIte]))
    | (show AW _ _ _ _ _ _ _ _; first | refine aw_region ?_ | (refine aw_seqk ?_; intro K hK) | (apply aw_cond_t; exact rfl; exact rfl) | refine aw_ret ?_)
    | refine thn_n ?_
    | (refine hK _ _ _ ?_; clear hK K)
    | refine thn_r ?_)); all_goals (repeat (clear hK K)))
    all_goals exact fin_r (fin_b rfl rfl)
  | false =>
    rw [hlong] at hLong
    obtain ⟨hG, hl, _⟩ := dL_good (s := ⟨cs, 0, 0⟩) (c := 0) ⟨hc, by simp, by simp, hnc⟩ (by omega)
    have hR := R8Holdings_ro cs hc hnc
    generalize (dL ⟨cs, 0, 0⟩).1 = xs at *
    by_cases c1 : xs.length = 0
    · have b1 : (((xs.length : Nat) : Int) == 0) = true := by simpa using c1
      refine RO.ofv' Try.func3 Try.ntmps3 rfl (goFn_of Try.func3 rfl (by kernel_rfl)) rfl rfl ?_
      ((repeat' (first
    | (show SQ _ _ _ _ _ _ _ _; first | apply sq_nil | (apply q_move; exact rfl; exact rfl) | (apply q_assign; exact rfl; exact rfl) | (apply q_lenl; exact rfl; exact rfl; exact (ty rfl); exact rfl) | (apply q_eql; exact rfl; exact rfl; exact rfl))
    | (show SQ _ _ _ _ _ _ _ _; (first | (apply q_callU; exact rfl; exact rfl; exact rfl; exact FzL.of rfl; exact hLong _) | (apply q_callU; exact rfl; exact rfl; exact rfl; exact FzL.of rfl; exact hR _)); (try simp only [put, rowsOf, plR, List.all_cons, selE, ovr, setH, del, cellsA, splice, isV, List.nil_append, List.cons_append, List.map_cons, List.map_nil, List.length_cons, List.length_nil, List.set_cons_zero, List.set_cons_succ, List.take_succ_cons, List.take_zero, List.take_nil, List.drop_succ_cons, List.drop_zero, List.drop_nil, List.append_nil, List.all_cons, List.all_nil, Bool.and_true, Bool.true_and, Bool.and_false, Bool.false_and, Nat.reduceAdd, Nat.zero_add, Nat.add_zero, Nat.reduceEqDiff, if_true, if_false, reduceIte]))
    | (show AW _ _ _ _ _ _ _ _; first | refine aw_region ?_ | (refine aw_seqk ?_; intro K hK) | (apply aw_cond_f; exact rfl; exact rfl) | (apply aw_cond_t; exact rfl; exact (by assumption)) | refine aw_ret ?_ | refine aw_skip ?_)
    | refine thn_n ?_
    | (refine hK _ _ _ ?_; clear hK K)
    | refine thn_r ?_)); all_goals (repeat (clear hK K)))
      all_goals exact fin_r (fin_b rfl rfl)
    have b1 : (((xs.length : Nat) : Int) == 0) = false := by simp only [beq_eq_false_iff_ne, ne_eq]; omega
    have hA0 := r8At_ro ms hm hnm 0 (xs.length : Int) (by omega) (by omega) (by omega)
    have bd0 := at8_bd ms 0 (xs.length : Int) (by omega)
    obtain ⟨m, hm0⟩ : ∃ m : Nat, at8 ms 0 (xs.length : Int) = m := ⟨(at8 ms 0 (xs.length : Int)).toNat, by omega⟩
    rw [hm0] at hA0 bd0
    have hml : m < xs.length := by omega
    have hP := (holdP_iff xs).1 hG.hold
    have hok := hP.ok m hml
    have bd : 1 ≤ xs[m].lo ∧ xs[m].lo ≤ 100000000 ∧ 1 ≤ xs[m].hi ∧ xs[m].hi ≤ 100000000 ∧ 0 ≤ xs[m].fr ∧ xs[m].fr ≤ xs[m].un ∧ xs[m].un ≤ 99999 := by
      unfold licB inB at hok
      simp only [Bool.and_eq_true, decide_eq_true_eq] at hok
      omega
    have hr2 : (xs.map licL)[0 + ((m : Int)).toNat]? = some (licL xs[m]) := by simp [hml]
    rw [licL_eq xs[m]] at hr2
    have wA : IntKind.i64.wrap (xs[m].un - xs[m].fr) = xs[m].un - xs[m].fr := IntWalk.i64_in _ (by omega)
    have wB : IntKind.i64.wrap (IntKind.i64.wrap (xs[m].un - xs[m].fr) + 1) = xs[m].un - xs[m].fr + 1 := by rw [wA]; exact IntWalk.i64_in _ (by omega)
    have hA1 := r8At_ro ms hm hnm 1 (IntKind.i64.wrap (IntKind.i64.wrap (xs[m].un - xs[m].fr) + 1)) (by omega) (by omega) (by omega)
    generalize at8 ms 1 (IntKind.i64.wrap (IntKind.i64.wrap (xs[m].un - xs[m].fr) + 1)) = D at hA1
    have hW0 := r8Wide_ro ms hm hnm 2 1000 (by omega) (by omega) (by omega) (by omega)
    have bdW := wide8_bd ms 2 1000 (by omega)
    generalize wide8 ms 2 1000 = V at hW0 bdW
    have hA4 := r8At_ro ms hm hnm 4 250 (by omega) (by omega) (by omega)
    have bd4 := at8_bd ms 4 250 (by omega)
    generalize at8 ms 4 250 = C at hA4 bd4
    have wC : IntKind.i64.wrap (xs[m].lo + 1) = xs[m].lo + 1 := IntWalk.i64_in _ (by omega)
    have wq : IntKind.i64.wrap (IntKind.i64.wrap (xs[m].lo + 1) + V) = xs[m].lo + 1 + V := by rw [wC]; exact IntWalk.i64_in _ (by omega)
    have wc : IntKind.i64.wrap (xs[m].fr + C) = xs[m].fr + C := IntWalk.i64_in _ (by omega)
    have hT1 := bandTwo hG hl hml (IntKind.i64.wrap (IntKind.i64.wrap (xs[m].lo + 1) + V)) (by omega)
    have hT2 := daysTwo hG hl hml (IntKind.i64.wrap (xs[m].fr + C))
    have hE := ext_same hG hl hml
    have hS := specSameHoldings_ro xs xs (by omega)
    rw [sameB_self] at hS
    obtain ⟨w, hw⟩ : ∃ w, sumN (fun l => forB l xs[m].ho xs[m].x xs[m].y (IntKind.i64.wrap (xs[m].fr + D))) xs = w := ⟨_, rfl⟩
    have hWx := width_ro hP hG.sm xs[m].ho xs[m].x xs[m].y _ w hw
    have bw : (w != w) = false := by simp
    have b22 : ((2 : Int) != 2) = false := rfl
    have b20 : ((2 : Int) == 0) = false := rfl
    have b00 : ((0 : Int) == 0) = true := rfl
    have b01 : ((0 : Int) != 0) = false := rfl
    rcases hT1 with ⟨o1, hB⟩ | ⟨o1, ys, hB, hPy, hsy, hly, hwy⟩ <;> rcases hT2 with ⟨o2, hD⟩ | ⟨o2, zs, hD, hPz, hsz, hlz, hwz⟩
    · have o1' : decide (IntKind.i64.wrap (IntKind.i64.wrap (xs[m].lo + 1) + V) < xs[m].hi) = false := by simp only [decide_eq_true_eq, decide_eq_false_iff_not] at o1 ⊢; omega
      have o2' : xs[m].fr < IntKind.i64.wrap (xs[m].fr + C) → IntKind.i64.wrap (xs[m].fr + C) ≤ xs[m].un → False := by simp only [Bool.or_eq_true, decide_eq_true_eq] at o2; omega
      refine RO.ofv' Try.func3 Try.ntmps3 rfl (goFn_of Try.func3 rfl (by kernel_rfl)) rfl rfl ?_
      ((repeat' (first
    | (show SQ _ _ _ _ _ _ _ _; first | apply sq_nil | (apply q_move; exact rfl; exact rfl) | (apply q_assign; exact rfl; exact rfl) | (apply q_pick_t; exact rfl; exact rfl; exact rfl; exact (by first | assumption | exact rfl)) | (apply q_pick_f; exact rfl; exact rfl; exact rfl; exact (by first | assumption | exact rfl)) | (apply q_fieldAddr; exact rfl; exact rfl; exact (ty rfl); exact rfl; exact rfl; exact rfl; exact rfl) | (apply q_ext; exact rfl; exact rfl; exact rfl) | (apply q_lenl; exact rfl; exact rfl; exact (ty rfl); exact rfl) | (apply q_eql; exact rfl; exact rfl; exact rfl) | (apply q_neq; exact rfl; exact rfl; exact rfl) | (apply q_lss; exact rfl; exact rfl; exact rfl) | (apply q_leq; exact rfl; exact rfl; exact rfl) | (apply q_gtr; exact rfl; exact rfl; exact rfl) | (apply q_ixl; exact rfl; exact rfl; exact rfl; exact (ty rfl); exact rfl; exact rfl; exact rfl; exact (by first | omega | (simp; done) | (simp; omega)); exact (by first | omega | (simp; done) | (simp; omega))) | (apply q_ld1p; exact rfl; exact rfl; exact (ty rfl); exact rfl; exact rfl; exact (by first | rfl | assumption | ((try simp only [Nat.zero_add]); refine List.getElem?_set_self ?_; (try simp only [List.length_set]); assumption)); exact rfl) | (apply q_build; exact rfl; exact (ty rfl); exact rfl; exact rfl; exact rfl) | (apply q_g; exact rfl; exact rfl; exact rfl; exact (by assumption)) | (apply q_s; exact rfl; exact rfl; exact rfl; exact (by assumption); exact rfl))
    | (show SQ _ _ _ _ _ _ _ _; (first | (apply q_ldap; exact rfl; exact rfl; exact (ty rfl); exact rfl; exact rfl; exact (by first | rfl | assumption | ((try simp only [Nat.zero_add]); refine List.getElem?_set_self ?_; (try simp only [List.length_set]); assumption)); exact rfl) | (apply q_alloc; exact rfl; exact (ty rfl); exact rfl; exact rfl) | (apply q_store; exact rfl; exact rfl; exact (ty rfl); exact rfl; exact (by first | rfl | assumption | ((try simp only [Nat.zero_add]); refine List.getElem?_set_self ?_; (try simp only [List.length_set]); assumption)); exact rfl; exact rfl; exact rfl) | (apply q_callU; exact rfl; exact rfl; exact rfl; exact FzL.of rfl; exact hLong _) | (apply q_callU; exact rfl; exact rfl; exact rfl; exact FzL.of rfl; exact hR _) | (apply q_callU; exact rfl; exact rfl; exact rfl; exact FzL.of rfl; exact hA0 _) | (apply q_callU; exact rfl; exact rfl; exact rfl; rotate_left; exact hWx _; rotate_right; focus ((repeat' (first | exact FzL.nil | exact (by assumption : FzC _) _ | refine FzL.cons ?_ ?_ | exact Fz.of rfl | exact Fz.nil | exact Fz.emp | (apply Fz.fnC; assumption) | (apply Fz.sl2; exact rfl; exact (by first | omega | (simp; done) | (simp; omega)); first | exact rfl | exact dt_full (by first | omega | (simp; done) | (simp; omega)) | assumption) | apply Fz.agg | (apply Fz.ptrL; exact rfl; first | exact rfl | assumption) | apply Fz.fnL)); done)) | (apply q_callU; exact rfl; exact rfl; exact rfl; rotate_left; exact hB _; rotate_right; focus ((repeat' (first | exact FzL.nil | exact (by assumption : FzC _) _ | refine FzL.cons ?_ ?_ | exact Fz.of rfl | exact Fz.nil | exact Fz.emp | (apply Fz.fnC; assumption) | (apply Fz.sl2; exact rfl; exact (by first | omega | (simp; done) | (simp; omega)); first | exact rfl | exact dt_full (by first | omega | (simp; done) | (simp; omega)) | assumption) | apply Fz.agg | (apply Fz.ptrL; exact rfl; first | exact rfl | assumption) | apply Fz.fnL)); done)) | (apply q_callU; exact rfl; exact rfl; exact rfl; rotate_left; exact hD _; rotate_right; focus ((repeat' (first | exact FzL.nil | exact (by assumption : FzC _) _ | refine FzL.cons ?_ ?_ | exact Fz.of rfl | exact Fz.nil | exact Fz.emp | (apply Fz.fnC; assumption) | (apply Fz.sl2; exact rfl; exact (by first | omega | (simp; done) | (simp; omega)); first | exact rfl | exact dt_full (by first | omega | (simp; done) | (simp; omega)) | assumption) | apply Fz.agg | (apply Fz.ptrL; exact rfl; first | exact rfl | assumption) | apply Fz.fnL)); done)) | (apply q_callU; exact rfl; exact rfl; exact rfl; rotate_left; exact hE _; rotate_right; focus ((repeat' (first | exact FzL.nil | exact (by assumption : FzC _) _ | refine FzL.cons ?_ ?_ | exact Fz.of rfl | exact Fz.nil | exact Fz.emp | (apply Fz.fnC; assumption) | (apply Fz.sl2; exact rfl; exact (by first | omega | (simp; done) | (simp; omega)); first | exact rfl | exact dt_full (by first | omega | (simp; done) | (simp; omega)) | assumption) | apply Fz.agg | (apply Fz.ptrL; exact rfl; first | exact rfl | assumption) | apply Fz.fnL)); done)) | (apply q_callU; exact rfl; exact rfl; exact rfl; rotate_left; exact hS _; rotate_right; focus ((repeat' (first | exact FzL.nil | exact (by assumption : FzC _) _ | refine FzL.cons ?_ ?_ | exact Fz.of rfl | exact Fz.nil | exact Fz.emp | (apply Fz.fnC; assumption) | (apply Fz.sl2; exact rfl; exact (by first | omega | (simp; done) | (simp; omega)); first | exact rfl | exact dt_full (by first | omega | (simp; done) | (simp; omega)) | assumption) | apply Fz.agg | (apply Fz.ptrL; exact rfl; first | exact rfl | assumption) | apply Fz.fnL)); done))); (try simp only [put, rowsOf, plR, List.all_cons, selE, ovr, setH, del, cellsA, splice, isV, List.nil_append, List.cons_append, List.map_cons, List.map_nil, List.length_cons, List.length_nil, List.set_cons_zero, List.set_cons_succ, List.take_succ_cons, List.take_zero, List.take_nil, List.drop_succ_cons, List.drop_zero, List.drop_nil, List.append_nil, List.all_cons, List.all_nil, Bool.and_true, Bool.true_and, Bool.and_false, Bool.false_and, Nat.reduceAdd, Nat.zero_add, Nat.add_zero, Nat.reduceEqDiff, if_true, if_false, reduceIte]))
    | (show SQ _ _ _ _ _ _ _ _; apply q_gs; exact rfl; exact rfl; exact rfl; exact rfl; all_goals intro h)
    | (show DE _ _ _ _ _ _ _ _ _ _ _ _; first | (apply e_move; exact rfl; exact rfl; exact rfl) | (apply e_assign; exact rfl; exact rfl; exact rfl) | (apply e_fieldAddr; exact rfl; exact rfl; exact (ty rfl); exact rfl; exact rfl; exact rfl; exact rfl; exact rfl) | (apply e_add; exact rfl; exact rfl; exact rfl; exact rfl) | (apply e_sub; exact rfl; exact rfl; exact rfl; exact rfl) | (apply e_ld1p; exact rfl; exact rfl; exact (ty rfl); exact rfl; exact rfl; exact (by first | rfl | assumption | ((try simp only [Nat.zero_add]); refine List.getElem?_set_self ?_; (try simp only [List.length_set]); assumption)); exact rfl; exact rfl))
    | (show DE _ _ _ _ _ _ _ _ _ _ _ _; (first | (apply dr_nil; exact rfl) | (apply e_callU; exact rfl; exact rfl; exact rfl; exact FzL.of rfl; exact hA1 _; exact rfl) | (apply e_callU; exact rfl; exact rfl; exact rfl; exact FzL.of rfl; exact hW0 _; exact rfl) | (apply e_callU; exact rfl; exact rfl; exact rfl; exact FzL.of rfl; exact hA4 _; exact rfl)); (try simp only [put, rowsOf, plR, List.all_cons, selE, ovr, setH, del, cellsA, splice, isV, List.nil_append, List.cons_append, List.map_cons, List.map_nil, List.length_cons, List.length_nil, List.set_cons_zero, List.set_cons_succ, List.take_succ_cons, List.take_zero, List.take_nil, List.drop_succ_cons, List.drop_zero, List.drop_nil, List.append_nil, List.all_cons, List.all_nil, Bool.and_true, Bool.true_and, Bool.and_false, Bool.false_and, Nat.reduceAdd, Nat.zero_add, Nat.add_zero, Nat.reduceEqDiff, if_true, if_false, reduceIte]))
    | (show AW _ _ _ _ _ _ _ _; first | refine aw_region ?_ | (refine aw_seqk ?_; intro K hK) | (apply aw_cond_f; exact rfl; exact rfl) | (apply aw_cond_f; exact rfl; exact (by assumption)) | refine aw_ret ?_ | refine aw_skip ?_ | refine aw_drawE (id := 8) [0, 1, 0, 0, 8, 0, 32, 120, 248, 508, 1023, 2047] [0, 1, 0, 0, 1, 0, 1, 0, 0, 1, 0, 0] mixed (by kernel_rfl) ?_ | refine aw_drawE (id := 10) [0, 1, 3, 0, 8, 31, 63] [0, 1, 0, 0, 1, 0, 0] mixed (by kernel_rfl) ?_ | refine aw_drawE (id := 18) [0, 1, 0, 4, 15, 31] [0, 1, 0, 1, 0, 0] mixed (by kernel_rfl) ?_ | (apply aw_ite; exact rfl; all_goals intro h))
    | refine thn_n ?_
    | (refine hK _ _ _ ?_; clear hK K)
    | refine thn_r ?_)); all_goals (repeat (clear hK K)))
      all_goals first | exact fin_r (fin_b rfl rfl) | (exfalso; exact o2' (of_decide_eq_true (by assumption)) (of_decide_eq_true (by assumption)))
    · have o1' : decide (IntKind.i64.wrap (IntKind.i64.wrap (xs[m].lo + 1) + V) < xs[m].hi) = false := by simp only [decide_eq_true_eq, decide_eq_false_iff_not] at o1 ⊢; omega
      have hWz := width_ro hPz hsz xs[m].ho xs[m].x xs[m].y _ w ((hwz _ _ _ _).trans hw)
      have hVz := valid_ro hPz hsz
      have o2a : decide (IntKind.i64.wrap (xs[m].fr + C) ≤ xs[m].fr) = false := by simp only [Bool.or_eq_false_iff] at o2; exact o2.1
      have o2b : decide (xs[m].un < IntKind.i64.wrap (xs[m].fr + C)) = false := by simp only [Bool.or_eq_false_iff] at o2; exact o2.2
      refine RO.ofv' Try.func3 Try.ntmps3 rfl (goFn_of Try.func3 rfl (by kernel_rfl)) rfl rfl ?_
      ((repeat' (first
    | (show SQ _ _ _ _ _ _ _ _; first | apply sq_nil | (apply q_move; exact rfl; exact rfl) | (apply q_assign; exact rfl; exact rfl) | (apply q_pick_t; exact rfl; exact rfl; exact rfl; exact (by first | assumption | exact rfl)) | (apply q_pick_f; exact rfl; exact rfl; exact rfl; exact (by first | assumption | exact rfl)) | (apply q_fieldAddr; exact rfl; exact rfl; exact (ty rfl); exact rfl; exact rfl; exact rfl; exact rfl) | (apply q_not; exact rfl; exact rfl) | (apply q_ext; exact rfl; exact rfl; exact rfl) | (apply q_lenl; exact rfl; exact rfl; exact (ty rfl); exact rfl) | (apply q_eql; exact rfl; exact rfl; exact rfl) | (apply q_neq; exact rfl; exact rfl; exact rfl) | (apply q_lss; exact rfl; exact rfl; exact rfl) | (apply q_leq; exact rfl; exact rfl; exact rfl) | (apply q_gtr; exact rfl; exact rfl; exact rfl) | (apply q_ixl; exact rfl; exact rfl; exact rfl; exact (ty rfl); exact rfl; exact rfl; exact rfl; exact (by first | omega | (simp; done) | (simp; omega)); exact (by first | omega | (simp; done) | (simp; omega))) | (apply q_ld1p; exact rfl; exact rfl; exact (ty rfl); exact rfl; exact rfl; exact (by first | rfl | assumption | ((try simp only [Nat.zero_add]); refine List.getElem?_set_self ?_; (try simp only [List.length_set]); assumption)); exact rfl) | (apply q_build; exact rfl; exact (ty rfl); exact rfl; exact rfl; exact rfl) | (apply q_g; exact rfl; exact rfl; exact rfl; exact (by assumption)))
    | (show SQ _ _ _ _ _ _ _ _; (first | (apply q_ldap; exact rfl; exact rfl; exact (ty rfl); exact rfl; exact rfl; exact (by first | rfl | assumption | ((try simp only [Nat.zero_add]); refine List.getElem?_set_self ?_; (try simp only [List.length_set]); assumption)); exact rfl) | (apply q_alloc; exact rfl; exact (ty rfl); exact rfl; exact rfl) | (apply q_store; exact rfl; exact rfl; exact (ty rfl); exact rfl; exact (by first | rfl | assumption | ((try simp only [Nat.zero_add]); refine List.getElem?_set_self ?_; (try simp only [List.length_set]); assumption)); exact rfl; exact rfl; exact rfl) | (apply q_callU; exact rfl; exact rfl; exact rfl; exact FzL.of rfl; exact hLong _) | (apply q_callU; exact rfl; exact rfl; exact rfl; exact FzL.of rfl; exact hR _) | (apply q_callU; exact rfl; exact rfl; exact rfl; exact FzL.of rfl; exact hA0 _) | (apply q_callU; exact rfl; exact rfl; exact rfl; rotate_left; exact hWx _; rotate_right; focus ((repeat' (first | exact FzL.nil | exact (by assumption : FzC _) _ | refine FzL.cons ?_ ?_ | exact Fz.of rfl | exact Fz.nil | exact Fz.emp | (apply Fz.fnC; assumption) | (apply Fz.sl2; exact rfl; exact (by first | omega | (simp; done) | (simp; omega)); first | exact rfl | exact dt_full (by first | omega | (simp; done) | (simp; omega)) | assumption) | apply Fz.agg | (apply Fz.ptrL; exact rfl; first | exact rfl | assumption) | apply Fz.fnL)); done)) | (apply q_callU; exact rfl; exact rfl; exact rfl; rotate_left; exact hB _; rotate_right; focus ((repeat' (first | exact FzL.nil | exact (by assumption : FzC _) _ | refine FzL.cons ?_ ?_ | exact Fz.of rfl | exact Fz.nil | exact Fz.emp | (apply Fz.fnC; assumption) | (apply Fz.sl2; exact rfl; exact (by first | omega | (simp; done) | (simp; omega)); first | exact rfl | exact dt_full (by first | omega | (simp; done) | (simp; omega)) | assumption) | apply Fz.agg | (apply Fz.ptrL; exact rfl; first | exact rfl | assumption) | apply Fz.fnL)); done)) | (apply q_callU; exact rfl; exact rfl; exact rfl; rotate_left; exact hD _; rotate_right; focus ((repeat' (first | exact FzL.nil | exact (by assumption : FzC _) _ | refine FzL.cons ?_ ?_ | exact Fz.of rfl | exact Fz.nil | exact Fz.emp | (apply Fz.fnC; assumption) | (apply Fz.sl2; exact rfl; exact (by first | omega | (simp; done) | (simp; omega)); first | exact rfl | exact dt_full (by first | omega | (simp; done) | (simp; omega)) | assumption) | apply Fz.agg | (apply Fz.ptrL; exact rfl; first | exact rfl | assumption) | apply Fz.fnL)); done)) | (apply q_callU; exact rfl; exact rfl; exact rfl; rotate_left; exact hE _; rotate_right; focus ((repeat' (first | exact FzL.nil | exact (by assumption : FzC _) _ | refine FzL.cons ?_ ?_ | exact Fz.of rfl | exact Fz.nil | exact Fz.emp | (apply Fz.fnC; assumption) | (apply Fz.sl2; exact rfl; exact (by first | omega | (simp; done) | (simp; omega)); first | exact rfl | exact dt_full (by first | omega | (simp; done) | (simp; omega)) | assumption) | apply Fz.agg | (apply Fz.ptrL; exact rfl; first | exact rfl | assumption) | apply Fz.fnL)); done)) | (apply q_callU; exact rfl; exact rfl; exact rfl; rotate_left; exact hS _; rotate_right; focus ((repeat' (first | exact FzL.nil | exact (by assumption : FzC _) _ | refine FzL.cons ?_ ?_ | exact Fz.of rfl | exact Fz.nil | exact Fz.emp | (apply Fz.fnC; assumption) | (apply Fz.sl2; exact rfl; exact (by first | omega | (simp; done) | (simp; omega)); first | exact rfl | exact dt_full (by first | omega | (simp; done) | (simp; omega)) | assumption) | apply Fz.agg | (apply Fz.ptrL; exact rfl; first | exact rfl | assumption) | apply Fz.fnL)); done)) | (apply q_callU; exact rfl; exact rfl; exact rfl; rotate_left; exact hWz _; rotate_right; focus ((repeat' (first | exact FzL.nil | exact (by assumption : FzC _) _ | refine FzL.cons ?_ ?_ | exact Fz.of rfl | exact Fz.nil | exact Fz.emp | (apply Fz.fnC; assumption) | (apply Fz.sl2; exact rfl; exact (by first | omega | (simp; done) | (simp; omega)); first | exact rfl | exact dt_full (by first | omega | (simp; done) | (simp; omega)) | assumption) | apply Fz.agg | (apply Fz.ptrL; exact rfl; first | exact rfl | assumption) | apply Fz.fnL)); done)) | (apply q_callU; exact rfl; exact rfl; exact rfl; rotate_left; exact hVz _; rotate_right; focus ((repeat' (first | exact FzL.nil | exact (by assumption : FzC _) _ | refine FzL.cons ?_ ?_ | exact Fz.of rfl | exact Fz.nil | exact Fz.emp | (apply Fz.fnC; assumption) | (apply Fz.sl2; exact rfl; exact (by first | omega | (simp; done) | (simp; omega)); first | exact rfl | exact dt_full (by first | omega | (simp; done) | (simp; omega)) | assumption) | apply Fz.agg | (apply Fz.ptrL; exact rfl; first | exact rfl | assumption) | apply Fz.fnL)); done))); (try simp only [put, rowsOf, plR, List.all_cons, selE, ovr, setH, del, cellsA, splice, isV, List.nil_append, List.cons_append, List.map_cons, List.map_nil, List.length_cons, List.length_nil, List.set_cons_zero, List.set_cons_succ, List.take_succ_cons, List.take_zero, List.take_nil, List.drop_succ_cons, List.drop_zero, List.drop_nil, List.append_nil, List.all_cons, List.all_nil, Bool.and_true, Bool.true_and, Bool.and_false, Bool.false_and, Nat.reduceAdd, Nat.zero_add, Nat.add_zero, Nat.reduceEqDiff, if_true, if_false, reduceIte]))
    | (show DE _ _ _ _ _ _ _ _ _ _ _ _; first | (apply e_move; exact rfl; exact rfl; exact rfl) | (apply e_assign; exact rfl; exact rfl; exact rfl) | (apply e_fieldAddr; exact rfl; exact rfl; exact (ty rfl); exact rfl; exact rfl; exact rfl; exact rfl; exact rfl) | (apply e_add; exact rfl; exact rfl; exact rfl; exact rfl) | (apply e_sub; exact rfl; exact rfl; exact rfl; exact rfl) | (apply e_ld1p; exact rfl; exact rfl; exact (ty rfl); exact rfl; exact rfl; exact (by first | rfl | assumption | ((try simp only [Nat.zero_add]); refine List.getElem?_set_self ?_; (try simp only [List.length_set]); assumption)); exact rfl; exact rfl))
    | (show DE _ _ _ _ _ _ _ _ _ _ _ _; (first | (apply dr_nil; exact rfl) | (apply e_callU; exact rfl; exact rfl; exact rfl; exact FzL.of rfl; exact hA1 _; exact rfl) | (apply e_callU; exact rfl; exact rfl; exact rfl; exact FzL.of rfl; exact hW0 _; exact rfl) | (apply e_callU; exact rfl; exact rfl; exact rfl; exact FzL.of rfl; exact hA4 _; exact rfl)); (try simp only [put, rowsOf, plR, List.all_cons, selE, ovr, setH, del, cellsA, splice, isV, List.nil_append, List.cons_append, List.map_cons, List.map_nil, List.length_cons, List.length_nil, List.set_cons_zero, List.set_cons_succ, List.take_succ_cons, List.take_zero, List.take_nil, List.drop_succ_cons, List.drop_zero, List.drop_nil, List.append_nil, List.all_cons, List.all_nil, Bool.and_true, Bool.true_and, Bool.and_false, Bool.false_and, Nat.reduceAdd, Nat.zero_add, Nat.add_zero, Nat.reduceEqDiff, if_true, if_false, reduceIte]))
    | (show AW _ _ _ _ _ _ _ _; first | refine aw_region ?_ | (refine aw_seqk ?_; intro K hK) | (apply aw_cond_t; exact rfl; exact rfl) | (apply aw_cond_f; exact rfl; exact rfl) | (apply aw_cond_f; exact rfl; exact (by assumption)) | refine aw_ret ?_ | refine aw_skip ?_ | refine aw_drawE (id := 8) [0, 1, 0, 0, 8, 0, 32, 120, 248, 508, 1023, 2047] [0, 1, 0, 0, 1, 0, 1, 0, 0, 1, 0, 0] mixed (by kernel_rfl) ?_ | refine aw_drawE (id := 10) [0, 1, 3, 0, 8, 31, 63] [0, 1, 0, 0, 1, 0, 0] mixed (by kernel_rfl) ?_ | refine aw_drawE (id := 18) [0, 1, 0, 4, 15, 31] [0, 1, 0, 1, 0, 0] mixed (by kernel_rfl) ?_)
    | refine thn_n ?_
    | (refine hK _ _ _ ?_; clear hK K))); all_goals (repeat (clear hK K)))
      all_goals first | exact fin_r (fin_b rfl rfl) | (exfalso; simp only [decide_eq_true_eq] at *; omega)
    · have hWy := width_ro hPy hsy xs[m].ho xs[m].x xs[m].y _ w ((hwy _ _ _ _).trans hw)
      have hVy := valid_ro hPy hsy
      have o1l : (((ys.length : Nat) : Int) != IntKind.i64.wrap (((xs.length : Nat) : Int) + 1)) = false := by rw [IntWalk.i64_in _ (by omega), hly]; simp
      have o2' : xs[m].fr < IntKind.i64.wrap (xs[m].fr + C) → IntKind.i64.wrap (xs[m].fr + C) ≤ xs[m].un → False := by simp only [Bool.or_eq_true, decide_eq_true_eq] at o2; omega
      refine RO.ofv' Try.func3 Try.ntmps3 rfl (goFn_of Try.func3 rfl (by kernel_rfl)) rfl rfl ?_
      ((repeat' (first
    | (show SQ _ _ _ _ _ _ _ _; first | apply sq_nil | (apply q_move; exact rfl; exact rfl) | (apply q_assign; exact rfl; exact rfl) | (apply q_pick_t; exact rfl; exact rfl; exact rfl; exact (by first | assumption | exact rfl)) | (apply q_pick_f; exact rfl; exact rfl; exact rfl; exact (by first | assumption | exact rfl)) | (apply q_fieldAddr; exact rfl; exact rfl; exact (ty rfl); exact rfl; exact rfl; exact rfl; exact rfl) | (apply q_not; exact rfl; exact rfl) | (apply q_ext; exact rfl; exact rfl; exact rfl) | (apply q_lenl; exact rfl; exact rfl; exact (ty rfl); exact rfl) | (apply q_add; exact rfl; exact rfl; exact rfl) | (apply q_eql; exact rfl; exact rfl; exact rfl) | (apply q_neq; exact rfl; exact rfl; exact rfl) | (apply q_leq; exact rfl; exact rfl; exact rfl) | (apply q_gtr; exact rfl; exact rfl; exact rfl) | (apply q_geq; exact rfl; exact rfl; exact rfl) | (apply q_ixl; exact rfl; exact rfl; exact rfl; exact (ty rfl); exact rfl; exact rfl; exact rfl; exact (by first | omega | (simp; done) | (simp; omega)); exact (by first | omega | (simp; done) | (simp; omega))) | (apply q_ld1p; exact rfl; exact rfl; exact (ty rfl); exact rfl; exact rfl; exact (by first | rfl | assumption | ((try simp only [Nat.zero_add]); refine List.getElem?_set_self ?_; (try simp only [List.length_set]); assumption)); exact rfl) | (apply q_build; exact rfl; exact (ty rfl); exact rfl; exact rfl; exact rfl) | (apply q_g; exact rfl; exact rfl; exact rfl; exact (by assumption)) | (apply q_s; exact rfl; exact rfl; exact rfl; exact (by assumption); exact rfl))
    | (show SQ _ _ _ _ _ _ _ _; (first | (apply q_ldap; exact rfl; exact rfl; exact (ty rfl); exact rfl; exact rfl; exact (by first | rfl | assumption | ((try simp only [Nat.zero_add]); refine List.getElem?_set_self ?_; (try simp only [List.length_set]); assumption)); exact rfl) | (apply q_alloc; exact rfl; exact (ty rfl); exact rfl; exact rfl) | (apply q_store; exact rfl; exact rfl; exact (ty rfl); exact rfl; exact (by first | rfl | assumption | ((try simp only [Nat.zero_add]); refine List.getElem?_set_self ?_; (try simp only [List.length_set]); assumption)); exact rfl; exact rfl; exact rfl) | (apply q_callU; exact rfl; exact rfl; exact rfl; exact FzL.of rfl; exact hLong _) | (apply q_callU; exact rfl; exact rfl; exact rfl; exact FzL.of rfl; exact hR _) | (apply q_callU; exact rfl; exact rfl; exact rfl; exact FzL.of rfl; exact hA0 _) | (apply q_callU; exact rfl; exact rfl; exact rfl; rotate_left; exact hWx _; rotate_right; focus ((repeat' (first | exact FzL.nil | exact (by assumption : FzC _) _ | refine FzL.cons ?_ ?_ | exact Fz.of rfl | exact Fz.nil | exact Fz.emp | (apply Fz.fnC; assumption) | (apply Fz.sl2; exact rfl; exact (by first | omega | (simp; done) | (simp; omega)); first | exact rfl | exact dt_full (by first | omega | (simp; done) | (simp; omega)) | assumption) | apply Fz.agg | (apply Fz.ptrL; exact rfl; first | exact rfl | assumption) | apply Fz.fnL)); done)) | (apply q_callU; exact rfl; exact rfl; exact rfl; rotate_left; exact hB _; rotate_right; focus ((repeat' (first | exact FzL.nil | exact (by assumption : FzC _) _ | refine FzL.cons ?_ ?_ | exact Fz.of rfl | exact Fz.nil | exact Fz.emp | (apply Fz.fnC; assumption) | (apply Fz.sl2; exact rfl; exact (by first | omega | (simp; done) | (simp; omega)); first | exact rfl | exact dt_full (by first | omega | (simp; done) | (simp; omega)) | assumption) | apply Fz.agg | (apply Fz.ptrL; exact rfl; first | exact rfl | assumption) | apply Fz.fnL)); done)) | (apply q_callU; exact rfl; exact rfl; exact rfl; rotate_left; exact hD _; rotate_right; focus ((repeat' (first | exact FzL.nil | exact (by assumption : FzC _) _ | refine FzL.cons ?_ ?_ | exact Fz.of rfl | exact Fz.nil | exact Fz.emp | (apply Fz.fnC; assumption) | (apply Fz.sl2; exact rfl; exact (by first | omega | (simp; done) | (simp; omega)); first | exact rfl | exact dt_full (by first | omega | (simp; done) | (simp; omega)) | assumption) | apply Fz.agg | (apply Fz.ptrL; exact rfl; first | exact rfl | assumption) | apply Fz.fnL)); done)) | (apply q_callU; exact rfl; exact rfl; exact rfl; rotate_left; exact hE _; rotate_right; focus ((repeat' (first | exact FzL.nil | exact (by assumption : FzC _) _ | refine FzL.cons ?_ ?_ | exact Fz.of rfl | exact Fz.nil | exact Fz.emp | (apply Fz.fnC; assumption) | (apply Fz.sl2; exact rfl; exact (by first | omega | (simp; done) | (simp; omega)); first | exact rfl | exact dt_full (by first | omega | (simp; done) | (simp; omega)) | assumption) | apply Fz.agg | (apply Fz.ptrL; exact rfl; first | exact rfl | assumption) | apply Fz.fnL)); done)) | (apply q_callU; exact rfl; exact rfl; exact rfl; rotate_left; exact hS _; rotate_right; focus ((repeat' (first | exact FzL.nil | exact (by assumption : FzC _) _ | refine FzL.cons ?_ ?_ | exact Fz.of rfl | exact Fz.nil | exact Fz.emp | (apply Fz.fnC; assumption) | (apply Fz.sl2; exact rfl; exact (by first | omega | (simp; done) | (simp; omega)); first | exact rfl | exact dt_full (by first | omega | (simp; done) | (simp; omega)) | assumption) | apply Fz.agg | (apply Fz.ptrL; exact rfl; first | exact rfl | assumption) | apply Fz.fnL)); done)) | (apply q_callU; exact rfl; exact rfl; exact rfl; rotate_left; exact hWy _; rotate_right; focus ((repeat' (first | exact FzL.nil | exact (by assumption : FzC _) _ | refine FzL.cons ?_ ?_ | exact Fz.of rfl | exact Fz.nil | exact Fz.emp | (apply Fz.fnC; assumption) | (apply Fz.sl2; exact rfl; exact (by first | omega | (simp; done) | (simp; omega)); first | exact rfl | exact dt_full (by first | omega | (simp; done) | (simp; omega)) | assumption) | apply Fz.agg | (apply Fz.ptrL; exact rfl; first | exact rfl | assumption) | apply Fz.fnL)); done)) | (apply q_callU; exact rfl; exact rfl; exact rfl; rotate_left; exact hVy _; rotate_right; focus ((repeat' (first | exact FzL.nil | exact (by assumption : FzC _) _ | refine FzL.cons ?_ ?_ | exact Fz.of rfl | exact Fz.nil | exact Fz.emp | (apply Fz.fnC; assumption) | (apply Fz.sl2; exact rfl; exact (by first | omega | (simp; done) | (simp; omega)); first | exact rfl | exact dt_full (by first | omega | (simp; done) | (simp; omega)) | assumption) | apply Fz.agg | (apply Fz.ptrL; exact rfl; first | exact rfl | assumption) | apply Fz.fnL)); done))); (try simp only [put, rowsOf, plR, List.all_cons, selE, ovr, setH, del, cellsA, splice, isV, List.nil_append, List.cons_append, List.map_cons, List.map_nil, List.length_cons, List.length_nil, List.set_cons_zero, List.set_cons_succ, List.take_succ_cons, List.take_zero, List.take_nil, List.drop_succ_cons, List.drop_zero, List.drop_nil, List.append_nil, List.all_cons, List.all_nil, Bool.and_true, Bool.true_and, Bool.and_false, Bool.false_and, Nat.reduceAdd, Nat.zero_add, Nat.add_zero, Nat.reduceEqDiff, if_true, if_false, reduceIte]))
    | (show SQ _ _ _ _ _ _ _ _; apply q_gs; exact rfl; exact rfl; exact rfl; exact rfl; all_goals intro h)
    | (show DE _ _ _ _ _ _ _ _ _ _ _ _; first | (apply e_move; exact rfl; exact rfl; exact rfl) | (apply e_assign; exact rfl; exact rfl; exact rfl) | (apply e_fieldAddr; exact rfl; exact rfl; exact (ty rfl); exact rfl; exact rfl; exact rfl; exact rfl; exact rfl) | (apply e_add; exact rfl; exact rfl; exact rfl; exact rfl) | (apply e_sub; exact rfl; exact rfl; exact rfl; exact rfl) | (apply e_ld1p; exact rfl; exact rfl; exact (ty rfl); exact rfl; exact rfl; exact (by first | rfl | assumption | ((try simp only [Nat.zero_add]); refine List.getElem?_set_self ?_; (try simp only [List.length_set]); assumption)); exact rfl; exact rfl))
    | (show DE _ _ _ _ _ _ _ _ _ _ _ _; (first | (apply dr_nil; exact rfl) | (apply e_callU; exact rfl; exact rfl; exact rfl; exact FzL.of rfl; exact hA1 _; exact rfl) | (apply e_callU; exact rfl; exact rfl; exact rfl; exact FzL.of rfl; exact hW0 _; exact rfl) | (apply e_callU; exact rfl; exact rfl; exact rfl; exact FzL.of rfl; exact hA4 _; exact rfl)); (try simp only [put, rowsOf, plR, List.all_cons, selE, ovr, setH, del, cellsA, splice, isV, List.nil_append, List.cons_append, List.map_cons, List.map_nil, List.length_cons, List.length_nil, List.set_cons_zero, List.set_cons_succ, List.take_succ_cons, List.take_zero, List.take_nil, List.drop_succ_cons, List.drop_zero, List.drop_nil, List.append_nil, List.all_cons, List.all_nil, Bool.and_true, Bool.true_and, Bool.and_false, Bool.false_and, Nat.reduceAdd, Nat.zero_add, Nat.add_zero, Nat.reduceEqDiff, if_true, if_false, reduceIte]))
    | (show AW _ _ _ _ _ _ _ _; first | refine aw_region ?_ | (refine aw_seqk ?_; intro K hK) | (apply aw_cond_t; exact rfl; exact rfl) | (apply aw_cond_f; exact rfl; exact rfl) | (apply aw_cond_f; exact rfl; exact (by assumption)) | refine aw_ret ?_ | refine aw_skip ?_ | refine aw_drawE (id := 8) [0, 1, 0, 0, 8, 0, 32, 120, 248, 508, 1023, 2047] [0, 1, 0, 0, 1, 0, 1, 0, 0, 1, 0, 0] mixed (by kernel_rfl) ?_ | refine aw_drawE (id := 10) [0, 1, 3, 0, 8, 31, 63] [0, 1, 0, 0, 1, 0, 0] mixed (by kernel_rfl) ?_ | refine aw_drawE (id := 18) [0, 1, 0, 4, 15, 31] [0, 1, 0, 1, 0, 0] mixed (by kernel_rfl) ?_ | (apply aw_ite; exact rfl; all_goals intro h))
    | refine thn_n ?_
    | (refine hK _ _ _ ?_; clear hK K)
    | refine thn_r ?_)); all_goals (repeat (clear hK K)))
      all_goals first | exact fin_r (fin_b rfl rfl) | (exfalso; exact o2' (of_decide_eq_true (by assumption)) (of_decide_eq_true (by assumption)))
    · have hWy := width_ro hPy hsy xs[m].ho xs[m].x xs[m].y _ w ((hwy _ _ _ _).trans hw)
      have hVy := valid_ro hPy hsy
      have o1l : (((ys.length : Nat) : Int) != IntKind.i64.wrap (((xs.length : Nat) : Int) + 1)) = false := by rw [IntWalk.i64_in _ (by omega), hly]; simp
      have hWz := width_ro hPz hsz xs[m].ho xs[m].x xs[m].y _ w ((hwz _ _ _ _).trans hw)
      have hVz := valid_ro hPz hsz
      have o2a : decide (IntKind.i64.wrap (xs[m].fr + C) ≤ xs[m].fr) = false := by simp only [Bool.or_eq_false_iff] at o2; exact o2.1
      have o2b : decide (xs[m].un < IntKind.i64.wrap (xs[m].fr + C)) = false := by simp only [Bool.or_eq_false_iff] at o2; exact o2.2
      refine RO.ofv' Try.func3 Try.ntmps3 rfl (goFn_of Try.func3 rfl (by kernel_rfl)) rfl rfl ?_
      ((repeat' (first
    | (show SQ _ _ _ _ _ _ _ _; first | apply sq_nil | (apply q_move; exact rfl; exact rfl) | (apply q_assign; exact rfl; exact rfl) | (apply q_pick_t; exact rfl; exact rfl; exact rfl; exact (by first | assumption | exact rfl)) | (apply q_pick_f; exact rfl; exact rfl; exact rfl; exact (by first | assumption | exact rfl)) | (apply q_fieldAddr; exact rfl; exact rfl; exact (ty rfl); exact rfl; exact rfl; exact rfl; exact rfl) | (apply q_not; exact rfl; exact rfl) | (apply q_ext; exact rfl; exact rfl; exact rfl) | (apply q_lenl; exact rfl; exact rfl; exact (ty rfl); exact rfl) | (apply q_add; exact rfl; exact rfl; exact rfl) | (apply q_eql; exact rfl; exact rfl; exact rfl) | (apply q_neq; exact rfl; exact rfl; exact rfl) | (apply q_leq; exact rfl; exact rfl; exact rfl) | (apply q_gtr; exact rfl; exact rfl; exact rfl) | (apply q_geq; exact rfl; exact rfl; exact rfl) | (apply q_ixl; exact rfl; exact rfl; exact rfl; exact (ty rfl); exact rfl; exact rfl; exact rfl; exact (by first | omega | (simp; done) | (simp; omega)); exact (by first | omega | (simp; done) | (simp; omega))) | (apply q_ld1p; exact rfl; exact rfl; exact (ty rfl); exact rfl; exact rfl; exact (by first | rfl | assumption | ((try simp only [Nat.zero_add]); refine List.getElem?_set_self ?_; (try simp only [List.length_set]); assumption)); exact rfl) | (apply q_build; exact rfl; exact (ty rfl); exact rfl; exact rfl; exact rfl) | (apply q_g; exact rfl; exact rfl; exact rfl; exact (by assumption)))
    | (show SQ _ _ _ _ _ _ _ _; (first | (apply q_ldap; exact rfl; exact rfl; exact (ty rfl); exact rfl; exact rfl; exact (by first | rfl | assumption | ((try simp only [Nat.zero_add]); refine List.getElem?_set_self ?_; (try simp only [List.length_set]); assumption)); exact rfl) | (apply q_alloc; exact rfl; exact (ty rfl); exact rfl; exact rfl) | (apply q_store; exact rfl; exact rfl; exact (ty rfl); exact rfl; exact (by first | rfl | assumption | ((try simp only [Nat.zero_add]); refine List.getElem?_set_self ?_; (try simp only [List.length_set]); assumption)); exact rfl; exact rfl; exact rfl) | (apply q_callU; exact rfl; exact rfl; exact rfl; exact FzL.of rfl; exact hLong _) | (apply q_callU; exact rfl; exact rfl; exact rfl; exact FzL.of rfl; exact hR _) | (apply q_callU; exact rfl; exact rfl; exact rfl; exact FzL.of rfl; exact hA0 _) | (apply q_callU; exact rfl; exact rfl; exact rfl; rotate_left; exact hWx _; rotate_right; focus ((repeat' (first | exact FzL.nil | exact (by assumption : FzC _) _ | refine FzL.cons ?_ ?_ | exact Fz.of rfl | exact Fz.nil | exact Fz.emp | (apply Fz.fnC; assumption) | (apply Fz.sl2; exact rfl; exact (by first | omega | (simp; done) | (simp; omega)); first | exact rfl | exact dt_full (by first | omega | (simp; done) | (simp; omega)) | assumption) | apply Fz.agg | (apply Fz.ptrL; exact rfl; first | exact rfl | assumption) | apply Fz.fnL)); done)) | (apply q_callU; exact rfl; exact rfl; exact rfl; rotate_left; exact hB _; rotate_right; focus ((repeat' (first | exact FzL.nil | exact (by assumption : FzC _) _ | refine FzL.cons ?_ ?_ | exact Fz.of rfl | exact Fz.nil | exact Fz.emp | (apply Fz.fnC; assumption) | (apply Fz.sl2; exact rfl; exact (by first | omega | (simp; done) | (simp; omega)); first | exact rfl | exact dt_full (by first | omega | (simp; done) | (simp; omega)) | assumption) | apply Fz.agg | (apply Fz.ptrL; exact rfl; first | exact rfl | assumption) | apply Fz.fnL)); done)) | (apply q_callU; exact rfl; exact rfl; exact rfl; rotate_left; exact hD _; rotate_right; focus ((repeat' (first | exact FzL.nil | exact (by assumption : FzC _) _ | refine FzL.cons ?_ ?_ | exact Fz.of rfl | exact Fz.nil | exact Fz.emp | (apply Fz.fnC; assumption) | (apply Fz.sl2; exact rfl; exact (by first | omega | (simp; done) | (simp; omega)); first | exact rfl | exact dt_full (by first | omega | (simp; done) | (simp; omega)) | assumption) | apply Fz.agg | (apply Fz.ptrL; exact rfl; first | exact rfl | assumption) | apply Fz.fnL)); done)) | (apply q_callU; exact rfl; exact rfl; exact rfl; rotate_left; exact hE _; rotate_right; focus ((repeat' (first | exact FzL.nil | exact (by assumption : FzC _) _ | refine FzL.cons ?_ ?_ | exact Fz.of rfl | exact Fz.nil | exact Fz.emp | (apply Fz.fnC; assumption) | (apply Fz.sl2; exact rfl; exact (by first | omega | (simp; done) | (simp; omega)); first | exact rfl | exact dt_full (by first | omega | (simp; done) | (simp; omega)) | assumption) | apply Fz.agg | (apply Fz.ptrL; exact rfl; first | exact rfl | assumption) | apply Fz.fnL)); done)) | (apply q_callU; exact rfl; exact rfl; exact rfl; rotate_left; exact hS _; rotate_right; focus ((repeat' (first | exact FzL.nil | exact (by assumption : FzC _) _ | refine FzL.cons ?_ ?_ | exact Fz.of rfl | exact Fz.nil | exact Fz.emp | (apply Fz.fnC; assumption) | (apply Fz.sl2; exact rfl; exact (by first | omega | (simp; done) | (simp; omega)); first | exact rfl | exact dt_full (by first | omega | (simp; done) | (simp; omega)) | assumption) | apply Fz.agg | (apply Fz.ptrL; exact rfl; first | exact rfl | assumption) | apply Fz.fnL)); done)) | (apply q_callU; exact rfl; exact rfl; exact rfl; rotate_left; exact hWy _; rotate_right; focus ((repeat' (first | exact FzL.nil | exact (by assumption : FzC _) _ | refine FzL.cons ?_ ?_ | exact Fz.of rfl | exact Fz.nil | exact Fz.emp | (apply Fz.fnC; assumption) | (apply Fz.sl2; exact rfl; exact (by first | omega | (simp; done) | (simp; omega)); first | exact rfl | exact dt_full (by first | omega | (simp; done) | (simp; omega)) | assumption) | apply Fz.agg | (apply Fz.ptrL; exact rfl; first | exact rfl | assumption) | apply Fz.fnL)); done)) | (apply q_callU; exact rfl; exact rfl; exact rfl; rotate_left; exact hVy _; rotate_right; focus ((repeat' (first | exact FzL.nil | exact (by assumption : FzC _) _ | refine FzL.cons ?_ ?_ | exact Fz.of rfl | exact Fz.nil | exact Fz.emp | (apply Fz.fnC; assumption) | (apply Fz.sl2; exact rfl; exact (by first | omega | (simp; done) | (simp; omega)); first | exact rfl | exact dt_full (by first | omega | (simp; done) | (simp; omega)) | assumption) | apply Fz.agg | (apply Fz.ptrL; exact rfl; first | exact rfl | assumption) | apply Fz.fnL)); done)) | (apply q_callU; exact rfl; exact rfl; exact rfl; rotate_left; exact hWz _; rotate_right; focus ((repeat' (first | exact FzL.nil | exact (by assumption : FzC _) _ | refine FzL.cons ?_ ?_ | exact Fz.of rfl | exact Fz.nil | exact Fz.emp | (apply Fz.fnC; assumption) | (apply Fz.sl2; exact rfl; exact (by first | omega | (simp; done) | (simp; omega)); first | exact rfl | exact dt_full (by first | omega | (simp; done) | (simp; omega)) | assumption) | apply Fz.agg | (apply Fz.ptrL; exact rfl; first | exact rfl | assumption) | apply Fz.fnL)); done)) | (apply q_callU; exact rfl; exact rfl; exact rfl; rotate_left; exact hVz _; rotate_right; focus ((repeat' (first | exact FzL.nil | exact (by assumption : FzC _) _ | refine FzL.cons ?_ ?_ | exact Fz.of rfl | exact Fz.nil | exact Fz.emp | (apply Fz.fnC; assumption) | (apply Fz.sl2; exact rfl; exact (by first | omega | (simp; done) | (simp; omega)); first | exact rfl | exact dt_full (by first | omega | (simp; done) | (simp; omega)) | assumption) | apply Fz.agg | (apply Fz.ptrL; exact rfl; first | exact rfl | assumption) | apply Fz.fnL)); done))); (try simp only [put, rowsOf, plR, List.all_cons, selE, ovr, setH, del, cellsA, splice, isV, List.nil_append, List.cons_append, List.map_cons, List.map_nil, List.length_cons, List.length_nil, List.set_cons_zero, List.set_cons_succ, List.take_succ_cons, List.take_zero, List.take_nil, List.drop_succ_cons, List.drop_zero, List.drop_nil, List.append_nil, List.all_cons, List.all_nil, Bool.and_true, Bool.true_and, Bool.and_false, Bool.false_and, Nat.reduceAdd, Nat.zero_add, Nat.add_zero, Nat.reduceEqDiff, if_true, if_false, reduceIte]))
    | (show DE _ _ _ _ _ _ _ _ _ _ _ _; first | (apply e_move; exact rfl; exact rfl; exact rfl) | (apply e_assign; exact rfl; exact rfl; exact rfl) | (apply e_fieldAddr; exact rfl; exact rfl; exact (ty rfl); exact rfl; exact rfl; exact rfl; exact rfl; exact rfl) | (apply e_add; exact rfl; exact rfl; exact rfl; exact rfl) | (apply e_sub; exact rfl; exact rfl; exact rfl; exact rfl) | (apply e_ld1p; exact rfl; exact rfl; exact (ty rfl); exact rfl; exact rfl; exact (by first | rfl | assumption | ((try simp only [Nat.zero_add]); refine List.getElem?_set_self ?_; (try simp only [List.length_set]); assumption)); exact rfl; exact rfl))
    | (show DE _ _ _ _ _ _ _ _ _ _ _ _; (first | (apply dr_nil; exact rfl) | (apply e_callU; exact rfl; exact rfl; exact rfl; exact FzL.of rfl; exact hA1 _; exact rfl) | (apply e_callU; exact rfl; exact rfl; exact rfl; exact FzL.of rfl; exact hW0 _; exact rfl) | (apply e_callU; exact rfl; exact rfl; exact rfl; exact FzL.of rfl; exact hA4 _; exact rfl)); (try simp only [put, rowsOf, plR, List.all_cons, selE, ovr, setH, del, cellsA, splice, isV, List.nil_append, List.cons_append, List.map_cons, List.map_nil, List.length_cons, List.length_nil, List.set_cons_zero, List.set_cons_succ, List.take_succ_cons, List.take_zero, List.take_nil, List.drop_succ_cons, List.drop_zero, List.drop_nil, List.append_nil, List.all_cons, List.all_nil, Bool.and_true, Bool.true_and, Bool.and_false, Bool.false_and, Nat.reduceAdd, Nat.zero_add, Nat.add_zero, Nat.reduceEqDiff, if_true, if_false, reduceIte]))
    | (show AW _ _ _ _ _ _ _ _; first | refine aw_region ?_ | (refine aw_seqk ?_; intro K hK) | (apply aw_cond_t; exact rfl; exact rfl) | (apply aw_cond_f; exact rfl; exact rfl) | (apply aw_cond_f; exact rfl; exact (by assumption)) | refine aw_ret ?_ | refine aw_skip ?_ | refine aw_drawE (id := 8) [0, 1, 0, 0, 8, 0, 32, 120, 248, 508, 1023, 2047] [0, 1, 0, 0, 1, 0, 1, 0, 0, 1, 0, 0] mixed (by kernel_rfl) ?_ | refine aw_drawE (id := 10) [0, 1, 3, 0, 8, 31, 63] [0, 1, 0, 0, 1, 0, 0] mixed (by kernel_rfl) ?_ | refine aw_drawE (id := 18) [0, 1, 0, 4, 15, 31] [0, 1, 0, 1, 0, 0] mixed (by kernel_rfl) ?_)
    | refine thn_n ?_
    | (refine hK _ _ _ ?_; clear hK K))); all_goals (repeat (clear hK K)))
      all_goals first | exact fin_r (fin_b rfl rfl) | (exfalso; simp only [decide_eq_true_eq] at *; omega)
theorem closeFnSplit (v v1 : Value) (w : World) (h : Fr.IsBytes w v) (h1 : Fr.IsBytes w v1) : Calls Try.prog 3 #[v, v1] w fun r w' => r = .returned (.bool true) ∧ Below w.heap.size w w' := by
  obtain ⟨xs, hv, hs, hn⟩ := h
  obtain ⟨ys, hv1, hs1, hn1⟩ := h1
  exact RO.calls (k := 0) (lawFnSplit_ro xs ys hs hs1 hn hn1 0) (K := fun k => k < w.heap.size) (fun _ h => h) (VRs.cons hv (VRs.cons hv1 VRs.nil))
end Go.Proofs.Ytiificaolakgdaa.Li
