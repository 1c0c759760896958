/-
  SameHoldings: the program's function and the law.
-/
import Derived.Test.YtiificaolakgdaaLhB
namespace Go.Proofs.Ytiificaolakgdaa.Li
open Go Go.RowKit Go.Proofs.Ytiificaolakgdaa.Aw Go.Proofs.Ytiificaolakgdaa.Ar
set_option linter.unusedSimpArgs false
set_option linter.unusedVariables false
attribute [local irreducible] AW SQ Step RO RC DE Thn InB

theorem szL_le : ∀ (xs : List Lic) (z : Int), 0 ≤ z → szL xs z ≤ z
  | [], z, h => Int.le_refl _
  | l :: ls, z, h => by
    unfold szL
    split
    · omega
    · exact Int.le_trans (szL_le ls _ (by omega)) (szN_le l z h)
theorem szS_in {xs : List Lic} {z : Int} (h0 : 0 ≤ z) (h1 : z ≤ 1048576) (hc : ¬ szS xs z < 0) : xs.length ≤ 1048576 ∧ 0 ≤ szS xs z ∧ szS xs z ≤ 1048576 := by
  unfold szS at hc ⊢
  split at hc
  · omega
  · rename_i h
    rw [if_neg h]
    have := szL_le xs (z - xs.length) (by omega)
    exact ⟨by omega, by omega, by omega⟩
end Go.Proofs.Ytiificaolakgdaa.Li
