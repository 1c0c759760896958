/-
  Further moves of a walk.
-/
import Derived.Test.YtiificaolakgdaaAwL
namespace Go.Proofs.Ytiificaolakgdaa.Aw
open Go Go.RowKit
set_option linter.unusedVariables false

section
variable {P : Program} {N n n' : Nat} {all : Array Oper} {l : List Oper} {G : Tp → Hp → Nat → Prop} {T : Tp} {H : Hp} {ty : TypeId} {pos : String} {after : Array Edge} {d : Nat}
/-- a cut with three bounds, for its bounds alone -/
theorem q_sl3 {x y z u : Operand} {t e : TypeId} {ti : TI} {es eb id row len C ty0 : Nat} {ez : List Value} {pl0 : Bool} {br : List (List AV)} {k1 k2 k3 : IntKind} {q1 q2 q3 : Int} (hd : Nat.blt d N = true) (hx : evalA T x = some (.sx id row len C)) (hy : evalA T y = some (.v (.int k1 q1))) (hz : evalA T z = some (.v (.int k2 q2))) (hu : evalA T u = some (.v (.int k3 q3)))
    (hl : look H id = some ⟨ty0, es, pl0, br⟩) (hty : tiOf P t = some ti) (hk0 : ti.k = .slice e es eb ez) (h0 : 0 ≤ q1) (h1 : q1 ≤ q2) (h2 : q2 ≤ q3) (h3 : q3 ≤ ((C - row : Nat) : Int)) (h4 : q1 < q3)
    (h : SQ P N all l G ((d, .sx n (row + q1.toNat) (q2.toNat - q1.toNat) (row + q3.toNat)) :: T) H (n + 1)) : SQ P N all (⟨some d, .slice t x (some y) (some z) (some u), ty, pos, after, none⟩ :: l) G T H n :=
  sq_step rfl hd (s_slice3 rfl hty hk0 hx hl hy hz hu h0 h1 h2 h3 h4) h
end
end Go.Proofs.Ytiificaolakgdaa.Aw
