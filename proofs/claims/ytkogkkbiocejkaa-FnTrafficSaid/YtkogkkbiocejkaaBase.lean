/-
  Contracts of the small functions: bounds, absolute values, rounded quotients.
-/
import Derived.Test.YtkogkkbiocejkaaRows
import Derived.Test.YtkogkkbiocejkaaMath
import Derived.WalkKit
import Derived.WalkSpells
import Derived.WalkLawsBesides
import Derived.BigQuiet
import Derived.Deep.QuietTactic
import Derived.Lib.Hide
namespace Go.Proofs.Ytkogkkbiocejkaa.Wk
open Go.RowKit
open Go.Proofs.Ytkogkkbiocejkaa.Mt

theorem ret_int {k : IntKind} {a b : Int} (h : a = b) : Ending.returned (.int k a) = .returned (.int k b) := by rw [h]
theorem ret_bool {a b : Bool} (h : a = b) : Ending.returned (.bool a) = .returned (.bool b) := by rw [h]

theorem ret_two {v : Int × Int} {a b : Int} (h : v = (a, b)) : Ending.returned (.tuple #[.int .i64 a, .int .i64 b]) = .returned (.tuple #[.int .i64 v.1, .int .i64 v.2]) := by rw [h]
theorem grown_drewN {W w' : World} (h : Grown W w') (n : Nat) : Grown W (w'.drewN n) := h

theorem grown_trans {a b c : World} (h : Grown a b) (k : Grown b c) : Grown a c :=
  ⟨World.keptBut_trans h.1 k.1, fun x => (k.2.1 x).trans (h.2.1 x), Nat.le_trans h.2.2 k.2.2⟩

def inB (n lo hi : Int) : Bool := decide (lo ≤ n ∧ n ≤ hi)
theorem inB_yes {n lo hi : Int} (h : inB n lo hi = true) : lo ≤ n ∧ n ≤ hi := by simpa [inB] using h
theorem inB_no {n lo hi : Int} (h : inB n lo hi = false) : n < lo ∨ hi < n := by
  have : ¬ (lo ≤ n ∧ n ≤ hi) := by simpa [inB] using h
  omega
theorem inB_mk {n lo hi : Int} (h : lo ≤ n) (h2 : n ≤ hi) : inB n lo hi = true := by simp [inB, h, h2]

set_option maxHeartbeats 400000 in
theorem l00In_any (n lo hi : Int) (w : World) : Calls Try.prog 42 #[.int .i64 n, .int .i64 lo, .int .i64 hi] w fun e w' => e = .returned (.bool (inB n lo hi)) ∧ w = w' := by
  by_cases h1 : lo ≤ n
  · by_cases h2 : n ≤ hi
    · go_enter Try.func42, Try.ntmps42
      go_wp2
      go_ret
      exact ⟨by simp [inB, h1, h2], rfl⟩
    · go_enter Try.func42, Try.ntmps42
      go_wp2
      go_ret
      exact ⟨by simp [inB, h1, h2], rfl⟩
  · go_enter Try.func42, Try.ntmps42
    go_wp2
    go_ret
    exact ⟨by simp [inB]; omega, rfl⟩

set_option maxHeartbeats 400000 in
theorem within_any (n lo hi : Int) (w : World) : Calls Try.prog 44 #[.int .i64 n, .int .i64 lo, .int .i64 hi] w fun e w' => e = .returned (.bool (inB n lo hi)) ∧ w = w' := by
  by_cases h1 : lo ≤ n
  · by_cases h2 : n ≤ hi
    · go_enter Try.func44, Try.ntmps44
      go_wp2
      go_ret
      exact ⟨by simp [inB, h1, h2], rfl⟩
    · go_enter Try.func44, Try.ntmps44
      go_wp2
      go_ret
      exact ⟨by simp [inB, h1, h2], rfl⟩
  · go_enter Try.func44, Try.ntmps44
    go_wp2
    go_ret
    exact ⟨by simp [inB]; omega, rfl⟩

set_option maxHeartbeats 400000 in
theorem abs_nn (n : Int) (h : 0 ≤ n) (h2 : n ≤ 4611686018427387904) (w : World) : Calls Try.prog 60 #[.int .i64 n] w fun e w' => e = .returned (.int .i64 n) ∧ w = w' := by
  go_enter Try.func60, Try.ntmps60
  go_wp2
  go_ret
  exact ⟨ret_int (by omega), rfl⟩

set_option maxHeartbeats 400000 in
theorem l01Div_nn (a b : Int) (h : 0 ≤ a) (h2 : a ≤ 2000000000000000000) (hb : 1 ≤ b) (hb2 : b ≤ 2000000000000000000) (w : World) :
    Calls Try.prog 43 #[.int .i64 a, .int .i64 b] w fun e w' => e = .returned (.int .i64 (rdiv a b)) ∧ w = w' := by
  go_enter Try.func43, Try.ntmps43
  go_wp2
  go_ret
  exact ⟨ret_int (by rfl), rfl⟩

set_option maxHeartbeats 400000 in
theorem divRound_nn (a b : Int) (h : 0 ≤ a) (h2 : a ≤ 2000000000000000000) (hb : 1 ≤ b) (hb2 : b ≤ 2000000000000000000) (w : World) :
    Calls Try.prog 45 #[.int .i64 a, .int .i64 b] w fun e w' => e = .returned (.int .i64 (rdiv a b)) ∧ ∃ n, w' = w.drewN n := by
  have hq0 : 0 ≤ a / b := Int.ediv_nonneg h (by omega)
  have hq1 : a / b ≤ 2000000000000000000 := Int.le_trans (Int.ediv_le_self _ h) h2
  have hr0 : 0 ≤ a % b := Int.emod_nonneg _ (by omega)
  have hr1 : a % b < b := Int.emod_lt_of_pos _ (by omega)
  have HR := Lib.hid (rdiv_of a b hb)
  have da : decide (a < 0) = false := by simp; omega
  have db : decide (b < 0) = false := by simp; omega
  by_cases hc : b - a % b ≤ a % b
  · go_enter Try.func45, Try.ntmps45
    go_wp2
    go_quiet ((go_at_call 60; exact Calls.quiet_of_same ((abs_nn _ (by omega) (by omega) _).mono fun _ _ hh => ⟨hh.1, hh.2.symm⟩)))
    go_wp2_with (go_at_call 60; refine (abs_nn _ (by omega) (by omega) _).mono ?_; rintro e w' ⟨rfl, rfl⟩)
    go_ret
    exact ⟨ret_int (by rw [HR.out, if_pos hc]), ⟨_, rfl⟩⟩
  · go_enter Try.func45, Try.ntmps45
    go_wp2
    go_quiet ((go_at_call 60; exact Calls.quiet_of_same ((abs_nn _ (by omega) (by omega) _).mono fun _ _ hh => ⟨hh.1, hh.2.symm⟩)))
    go_wp2_with (go_at_call 60; refine (abs_nn _ (by omega) (by omega) _).mono ?_; rintro e w' ⟨rfl, rfl⟩)
    go_ret
    exact ⟨ret_int (by rw [HR.out, if_neg (by omega)]), ⟨_, rfl⟩⟩

end Go.Proofs.Ytkogkkbiocejkaa.Wk
