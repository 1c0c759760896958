/-
  Two licences compared by the machine.
-/
import Derived.Test.YtiificaolakgdaaRows
import Derived.Laws.StructEq
import Derived.Laws.Tables
import Derived.KernelRfl
import Derived.WalkKit
namespace Go.Proofs.Ytiificaolakgdaa.Le
open Go Go.RowKit
set_option linter.unusedSimpArgs false

theorem eqArea (x y e n x' y' e' n' : Int) (w : World) : (Op.equalIn 9999 27 (.agg #[.int .i64 x, .int .i64 y, .int .i64 e, .int .i64 n]) (.agg #[.int .i64 x', .int .i64 y', .int .i64 e', .int .i64 n'])).run Try.prog w = .ok (x == x' && y == y' && e == e' && n == n') w := by
  have u3 := Try.underlying2
  have hS : Try.prog.underlying 27 = some (.struct (Try.prog.fieldsOf 27)) := by kernel_rfl
  have hp : Try.prog.stoodInHeld 27 = false := by kernel_rfl
  have hc : Try.prog.cellsOf 2 = 1 := by kernel_rfl
  rw [show (9999 : Nat) = 9998 + 1 from rfl, run_equalIn_agg w 9998 27 _ _ hS hp]
  simp only [Program.fieldsOf, Try.underlying27]
  go_simp
  by_cases h1 : x = x' <;> by_cases h2 : y = y' <;> by_cases h3 : e = e' <;> by_cases h4 : n = n' <;> simp [h1, h2, h3, h4]
set_option maxRecDepth 100000 in
theorem eqLic (s h : ByteArray) (l u x y e n f t p : Int) (s' h' : ByteArray) (l' u' x' y' e' n' f' t' p' : Int) (w : World) :
    (Op.equalIn 10000 29 (.agg #[.string s, .string h, .int .i64 l, .int .i64 u, .int .i64 x, .int .i64 y, .int .i64 e, .int .i64 n, .int .i64 f, .int .i64 t, .int .i64 p]) (.agg #[.string s', .string h', .int .i64 l', .int .i64 u', .int .i64 x', .int .i64 y', .int .i64 e', .int .i64 n', .int .i64 f', .int .i64 t', .int .i64 p'])).run Try.prog w =
      .ok (s.toList == s'.toList && h.toList == h'.toList && l == l' && u == u' && (x == x' && y == y' && e == e' && n == n') && f == f' && t == t' && p == p') w := by
  have u3 := Try.underlying2
  have uA := Try.underlying27
  have uS := Try.underlying9
  have hS : Try.prog.underlying 29 = some (.struct (Try.prog.fieldsOf 29)) := by kernel_rfl
  have hp : Try.prog.stoodInHeld 29 = false := by kernel_rfl
  have hc : Try.prog.cellsOf 2 = 1 := by kernel_rfl
  have hc2 : Try.prog.cellsOf 9 = 1 := by kernel_rfl
  have hc3 : Try.prog.cellsOf 27 = 4 := by kernel_rfl
  have eA := eqArea x y e n x' y' e' n'
  generalize hz : (x == x' && y == y' && e == e' && n == n') = z at eA ⊢
  rw [show (10000 : Nat) = 9999 + 1 from rfl, run_equalIn_agg w 9999 29 _ _ hS hp]
  simp only [Program.fieldsOf, Try.underlying29]
  go_simp
  clear eA hz
  cases z <;> (repeat' split) <;> simp_all
end Go.Proofs.Ytiificaolakgdaa.Le
