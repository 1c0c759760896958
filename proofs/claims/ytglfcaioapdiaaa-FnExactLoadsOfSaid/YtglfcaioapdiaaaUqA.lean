/-
  Links of a valid backhaul: no two join the same nodes.
-/
import Derived.Test.YtglfcaioapdiaaaLkD
namespace Go.Proofs.Ytglfcaioapdiaaa.Bk
open Go
set_option linter.unusedSimpArgs false
set_option linter.unusedVariables false

/-- no two links join the same nodes -/
def Uq (ls : List Ln) : Prop := ∀ (i j : Nat) (hi : i < ls.length) (hj : j < ls.length) (x y : Int), linkP x y ls[i] = true → linkP x y ls[j] = true → i = j
theorem bkB_lex {n : Int} {ls : List Ln} (h : bkB n ls = true) : (∀ (i : Nat) (hi : i < ls.length), ls[i].a < ls[i].b) ∧ ∀ (d i : Nat) (hi : i + d + 1 < ls.length), lexB ls[i] ls[i + d + 1] = true := by
  simp only [bkB, Bool.and_eq_true, decide_eq_true_eq] at h
  have hg : ∀ i, i < ls.length → goodL n ls i = true := fun i hi => List.all_eq_true.1 h.2 i (List.mem_range.2 hi)
  have one : ∀ (i : Nat) (hi : i + 1 < ls.length), lexB ls[i] ls[i + 1] = true := fun i hi => by
    have := hg (i + 1) hi
    simp only [goodL, Bool.and_eq_true, Bool.or_eq_true, decide_eq_true_eq] at this
    have h2 := this.2
    simp only [Nat.add_sub_cancel, List.getD, List.getElem?_eq_getElem hi, List.getElem?_eq_getElem (show i < ls.length by omega), Option.getD_some] at h2
    rcases h2 with h2 | h2
    · omega
    · exact h2
  refine ⟨fun i hi => ?_, fun d => ?_⟩
  · have := hg i hi
    simp only [goodL, sOk, inB, Bool.and_eq_true, decide_eq_true_eq, List.getD, List.getElem?_eq_getElem hi, Option.getD_some] at this
    omega
  · induction d with
    | zero => exact fun i hi => one i hi
    | succ d ih =>
      intro i hi
      have h1 := ih i (by omega)
      have h2 := one (i + d + 1) (by omega)
      have e : i + d + 1 + 1 = i + (d + 1) + 1 := by omega
      simp only [e] at h2
      unfold lexB at *
      simp only [Bool.or_eq_true, Bool.and_eq_true, decide_eq_true_eq] at *
      omega
theorem Uq.of {n : Int} {ls : List Ln} (h : bkB n ls = true) : Uq ls := by
  obtain ⟨h1, h2⟩ := bkB_lex h
  have key : ∀ (i j : Nat) (hi : i < ls.length) (hj : j < ls.length) (x y : Int), i < j → linkP x y ls[i] = true → linkP x y ls[j] = true → False := by
    intro i j hi hj x y hij g1 g2
    have a1 := h1 i hi
    have a2 := h1 j hj
    have l := h2 (j - i - 1) i (by omega)
    have e : i + (j - i - 1) + 1 = j := by omega
    simp only [e] at l
    rw [linkP_iff] at g1 g2
    unfold lexB at l
    simp only [Bool.or_eq_true, Bool.and_eq_true, decide_eq_true_eq] at l
    omega
  intro i j hi hj x y g1 g2
  rcases Nat.lt_trichotomy i j with h | h | h
  · exact (key i j hi hj x y h g1 g2).elim
  · exact h
  · exact (key j i hj hi x y h g2 g1).elim
theorem ixG_uq {ls : List Ln} (hu : Uq ls) {i : Nat} (hi : i < ls.length) {x y : Int} (h : linkP x y ls[i] = true) : ixG (linkP x y) ls = i :=
  ixG_hit hi (fun z hz => by
    cases hc : linkP x y z with
    | false => rfl
    | true =>
      obtain ⟨j, hj, rfl⟩ := List.getElem_of_mem hz
      simp only [List.length_take] at hj
      rw [List.getElem_take] at hc
      have := hu j i (by omega) hi x y hc h
      omega) h

end Go.Proofs.Ytglfcaioapdiaaa.Bk
