/-
  Nil lists of numbers.
-/
import Derived.Test.YtglfcaioapdiaaaOvB
namespace Go.Proofs.Ytglfcaioapdiaaa.Bk
open Go Go.RowKit Go.Proofs.Ytglfcaioapdiaaa.Aw
set_option linter.unusedSimpArgs false
set_option linter.unusedVariables false
attribute [local irreducible] AW SQ Step RO RC DE Thn InB

set_option maxHeartbeats 4000000 in
theorem markNil_ro (z : Int) (k : Nat) : RO Try.prog 19 [.dsl 1 [], .v (.int .i64 z)] k (.v (.int .i64 z)) [] k := by
  refine RO.ofv' Try.func19 Try.ntmps19 rfl (goFn_of Try.func19 rfl (by kernel_rfl)) rfl rfl ?_
  ((repeat' (first
    | (show SQ _ _ _ _ _ _ _ _; first | apply sq_nil | (apply q_assign; exact rfl; exact rfl))
    | (show AW _ _ _ _ _ _ _ _; first | refine aw_region ?_ | (refine aw_seqk ?_; intro K hK) | refine aw_block ?_)
    | refine thn_n ?_
    | (refine hK _ _ _ ?_; clear hK K))); all_goals (repeat (clear hK K)))
  refine aw_loop (ρ := id) (ι := Nat) (fun i => ([(5, .v (.int .i64 0)), (1, .v (.int .i64 z)), (0, .dsl 1 [])], [], 0))
    (fun i => i = 0) (fun i => i) 0 rfl ⟨by (repeat (refine ⟨by first | exact lk_i rfl rfl | exact lk_d rfl rfl, ?_⟩)); exact trivial, by exact trivial, by rfl, by exact pin_0⟩ ?_
  rintro i rfl
  ((repeat' (first
    | (show SQ _ _ _ _ _ _ _ _; first | apply sq_nil | (apply q_move; exact rfl; exact rfl) | (apply q_assign; exact rfl; exact rfl) | (apply q_lend; exact rfl; exact rfl; exact (ty rfl); exact rfl) | (apply q_lss; exact rfl; exact rfl; exact rfl))
    | (show AW _ _ _ _ _ _ _ _; first | refine aw_region ?_ | (refine aw_seqk ?_; intro K hK) | (apply aw_cond_f; exact rfl; exact rfl) | refine aw_ret ?_ | refine aw_exit ?_)
    | refine thn_n ?_
    | (refine hK _ _ _ ?_; clear hK K)
    | refine thn_e ?_
    | refine inb_same ?_
    | (clear hK K; refine hK _ _ _ ?_; clear hK K))); all_goals (repeat (clear hK K)))
  all_goals first | (exfalso; simp_all; done) | (exact fin_r (fin_i rfl rfl))
set_option maxHeartbeats 4000000 in
theorem heldNil_ro (z : Int) (h0 : 0 ≤ z) (h1 : z ≤ 1073741824) (k : Nat) : RO Try.prog 20 [.dsl 1 [], .v (.int .i64 z)] k (.v (.int .i64 z)) [] k := by
  have := heldInt64S_ro 0 z (by omega) h0 h1 k
  simpa using this
set_option maxHeartbeats 4000000 in
theorem eqNil_ro (k : Nat) : RO Try.prog 16 [.dsl 1 [], .dsl 1 []] k (.v (.bool true)) [] k := eqInt64S_ro [] (by simp) k
end Go.Proofs.Ytglfcaioapdiaaa.Bk
