/-
  SameHoldings: the program's function and the law.
-/
import Derived.Test.YtnkbilpjlbpplaaLhB
namespace Go.Proofs.Ytnkbilpjlbpplaa.Li
open Go Go.RowKit Go.Proofs.Ytnkbilpjlbpplaa.Aw Go.Proofs.Ytnkbilpjlbpplaa.Ar
set_option linter.unusedSimpArgs false
set_option linter.unusedVariables false
attribute [local irreducible] AW SQ Step RO DE

set_option maxHeartbeats 4000000 in
theorem SameHoldings_ro (xs ys : List Lic) (hn : xs.length ≤ 1048576) (k : Nat) : RO Try.prog 32 [.dsl 11 (xs.map licL), .dsl 11 (ys.map licL)] k (.v (.bool (sameB xs ys))) [] k := by
  refine RO.ofv' Try.func32 Try.ntmps32 rfl (goFn_of Try.func32 rfl (by kernel_rfl)) rfl rfl ?_
  ((repeat (any_goals (first
    | refine aw_region ?_
    | (refine aw_seqk ?_; intro K hK)
    | (show SQ _ _ _ _ _ _ _ _; (first | apply sq_nil | (apply q_move; exact rfl; exact rfl) | (apply q_assign; exact rfl; exact rfl)))
    | (show SQ _ _ _ _ _ _ _ _; (first | (apply q_callU; exact rfl; exact rfl; exact rfl; exact FzL.of rfl; exact slEqual_ro xs ys hn _) | (apply q_callU; exact rfl; exact rfl; exact rfl; rotate_left; exact slEqual_ro xs ys hn _; rotate_right; focus ((repeat' (first | exact FzL.nil | exact (by assumption : FzC _) _ | refine FzL.cons ?_ ?_ | exact Fz.of rfl | exact Fz.nil | exact Fz.emp | (apply Fz.fnC; assumption) | (apply Fz.sl2; exact rfl; exact (by first | omega | (simp <;> omega)); first | exact rfl | exact dt_full (by first | omega | (simp <;> omega)) | assumption) | apply Fz.agg | (apply Fz.ptrL; exact rfl; exact rfl) | apply Fz.fnL)); done))); (try simp only [put, rowsOf, plR, List.all_cons, selE, ovr, setH, del, cellsA, splice, isV, List.nil_append, List.cons_append, List.map_cons, List.map_nil, List.length_cons, List.length_nil, List.set_cons_zero, List.set_cons_succ, List.take_succ_cons, List.take_zero, List.take_nil, List.drop_succ_cons, List.drop_zero, List.drop_nil, List.append_nil, List.all_cons, List.all_nil, Bool.and_true, Bool.true_and, Bool.and_false, Bool.false_and, Nat.reduceAdd, Nat.zero_add, Nat.add_zero, Nat.reduceEqDiff, if_true, if_false, reduceIte]))
    | refine thn_n ?_
    | (refine hK _ _ _ ?_; clear hK K)
    | refine aw_block ?_
    | (apply aw_cond_t; exact rfl; exact rfl)
    | (apply aw_cond_f; exact rfl; exact rfl)
    | (apply aw_cond_t; exact rfl; exact (by assumption))
    | (apply aw_cond_f; exact rfl; exact (by assumption))
    | refine aw_ret ?_
    | refine aw_exit ?_
    | refine aw_skip ?_
    | refine thn_e ?_
    | refine thn_r ?_
    | refine inb_same ?_
    | refine inb_ne rfl ?_
    | refine inb_n ?_
    | refine inb_r ?_
    | (apply aw_ite; exact rfl; all_goals intro h)
    | (clear hK K; refine hK _ _ _ ?_; clear hK K)
    | (clear hK K; clear hK K; refine hK _ _ _ ?_; clear hK K)
    | (clear hK K; clear hK K; clear hK K; refine hK _ _ _ ?_; clear hK K)))); all_goals (repeat (clear hK K)))
  all_goals refine fin_r (fin_b rfl ?_)
  all_goals rfl
theorem szL_le : ∀ (xs : List Lic) (z : Int), 0 ≤ z → szL xs z ≤ z
  | [], z, h => Int.le_refl _
  | l :: ls, z, h => by
    unfold szL
    split
    · omega
    · exact Int.le_trans (szL_le ls _ (by omega)) (szN_le l z h)
theorem szS_in {xs : List Lic} {z : Int} (h0 : 0 ≤ z) (h1 : z ≤ 1048576) (hc : ¬ szS xs z < 0) : xs.length ≤ 1048576 ∧ 0 ≤ szS xs z ∧ szS xs z ≤ 1048576 := by
  unfold szS at hc ⊢
  split at hc
  · omega
  · rename_i h
    rw [if_neg h]
    have := szL_le xs (z - xs.length) (by omega)
    exact ⟨by omega, by omega, by omega⟩
set_option maxHeartbeats 4000000 in
theorem lawSameHoldings_ro (xs ys : List Lic) (hs : ∀ l ∈ xs, l.sm) (hs' : ∀ l ∈ ys, l.sm) (hn : xs.length ≤ 9223372036854775807) (hn' : ys.length ≤ 9223372036854775807) (k : Nat) :
    RO Try.prog 8 [.dsl 11 (xs.map licL), .dsl 11 (ys.map licL)] k (.v (.bool true)) [] k := by
  by_cases c1 : szS xs 1048576 < 0
  · have b1 : decide (szS xs 1048576 < 0) = true := by simpa using c1
    refine RO.ofv' Try.func8 Try.ntmps8 rfl (goFn_of Try.func8 rfl (by kernel_rfl)) rfl rfl ?_
    ((repeat (any_goals (first
    | refine aw_region ?_
    | (refine aw_seqk ?_; intro K hK)
    | (show SQ _ _ _ _ _ _ _ _; (first | apply sq_nil | (apply q_move; exact rfl; exact rfl) | (apply q_assign; exact rfl; exact rfl) | (apply q_not; exact rfl; exact rfl) | (apply q_neq; exact rfl; exact rfl; exact rfl) | (apply q_lss; exact rfl; exact rfl; exact rfl) | (apply q_sneq; exact rfl; exact rfl; exact rfl) | (apply q_slss; exact rfl; exact rfl; exact rfl) | (apply q_bneq; exact rfl; exact rfl; exact rfl; exact (ty rfl); exact rfl) | (apply q_nea; exact rfl; exact rfl; exact rfl; kernel_rfl; assumption; exact rfl; exact rfl) | (apply q_nil_nv; exact rfl; exact rfl; exact rfl; exact (ty rfl); exact rfl) | (apply q_nil_nl; exact rfl; exact rfl; exact rfl; exact (ty rfl); exact rfl; exact (by first | omega | (simp <;> omega)))))
    | (show SQ _ _ _ _ _ _ _ _; (first | (apply q_callU; exact rfl; exact rfl; exact rfl; exact FzL.of rfl; exact szLicenceS_ro xs _ hs hn (by omega) (by omega) _)); (try simp only [put, rowsOf, plR, List.all_cons, selE, ovr, setH, del, cellsA, splice, isV, List.nil_append, List.cons_append, List.map_cons, List.map_nil, List.length_cons, List.length_nil, List.set_cons_zero, List.set_cons_succ, List.take_succ_cons, List.take_zero, List.take_nil, List.drop_succ_cons, List.drop_zero, List.drop_nil, List.append_nil, List.all_cons, List.all_nil, Bool.and_true, Bool.true_and, Bool.and_false, Bool.false_and, Nat.reduceAdd, Nat.zero_add, Nat.add_zero, Nat.reduceEqDiff, if_true, if_false, reduceIte]))
    | refine thn_n ?_
    | (refine hK _ _ _ ?_; clear hK K)
    | refine aw_block ?_
    | (apply aw_cond_t; exact rfl; exact rfl)
    | (apply aw_cond_f; exact rfl; exact rfl)
    | (apply aw_cond_t; exact rfl; exact (by assumption))
    | (apply aw_cond_f; exact rfl; exact (by assumption))
    | refine aw_ret ?_
    | refine aw_exit ?_
    | refine aw_skip ?_
    | refine thn_e ?_
    | refine thn_r ?_
    | refine inb_same ?_
    | refine inb_ne rfl ?_
    | refine inb_n ?_
    | refine inb_r ?_
    | (apply aw_ite; exact rfl; all_goals intro h)
    | (clear hK K; refine hK _ _ _ ?_; clear hK K)
    | (clear hK K; clear hK K; refine hK _ _ _ ?_; clear hK K)
    | (clear hK K; clear hK K; clear hK K; refine hK _ _ _ ?_; clear hK K)))); all_goals (repeat (clear hK K)))
    all_goals exact fin_r (fin_b rfl rfl)
  · have b1 : decide (szS xs 1048576 < 0) = false := by simpa using c1
    obtain ⟨m1, z0, z1⟩ := szS_in (by omega) (by omega) c1
    by_cases c2 : szS ys (szS xs 1048576) < 0
    · have b2 : decide (szS ys (szS xs 1048576) < 0) = true := by simpa using c2
      refine RO.ofv' Try.func8 Try.ntmps8 rfl (goFn_of Try.func8 rfl (by kernel_rfl)) rfl rfl ?_
      ((repeat (any_goals (first
    | refine aw_region ?_
    | (refine aw_seqk ?_; intro K hK)
    | (show SQ _ _ _ _ _ _ _ _; (first | apply sq_nil | (apply q_move; exact rfl; exact rfl) | (apply q_assign; exact rfl; exact rfl) | (apply q_not; exact rfl; exact rfl) | (apply q_neq; exact rfl; exact rfl; exact rfl) | (apply q_lss; exact rfl; exact rfl; exact rfl) | (apply q_sneq; exact rfl; exact rfl; exact rfl) | (apply q_slss; exact rfl; exact rfl; exact rfl) | (apply q_bneq; exact rfl; exact rfl; exact rfl; exact (ty rfl); exact rfl) | (apply q_nea; exact rfl; exact rfl; exact rfl; kernel_rfl; assumption; exact rfl; exact rfl) | (apply q_nil_nv; exact rfl; exact rfl; exact rfl; exact (ty rfl); exact rfl) | (apply q_nil_nl; exact rfl; exact rfl; exact rfl; exact (ty rfl); exact rfl; exact (by first | omega | (simp <;> omega)))))
    | (show SQ _ _ _ _ _ _ _ _; (first | (apply q_callU; exact rfl; exact rfl; exact rfl; exact FzL.of rfl; exact szLicenceS_ro xs 1048576 hs hn (by omega) (by omega) _) | (apply q_callU; exact rfl; exact rfl; exact rfl; exact FzL.of rfl; exact szLicenceS_ro ys (szS xs 1048576) hs' hn' z0 z1 _) | (apply q_callU; exact rfl; exact rfl; exact rfl; rotate_left; exact szLicenceS_ro xs 1048576 hs hn (by omega) (by omega) _; rotate_right; focus ((repeat' (first | exact FzL.nil | exact (by assumption : FzC _) _ | refine FzL.cons ?_ ?_ | exact Fz.of rfl | exact Fz.nil | exact Fz.emp | (apply Fz.fnC; assumption) | (apply Fz.sl2; exact rfl; exact (by first | omega | (simp <;> omega)); first | exact rfl | exact dt_full (by first | omega | (simp <;> omega)) | assumption) | apply Fz.agg | (apply Fz.ptrL; exact rfl; exact rfl) | apply Fz.fnL)); done)) | (apply q_callU; exact rfl; exact rfl; exact rfl; rotate_left; exact szLicenceS_ro ys (szS xs 1048576) hs' hn' z0 z1 _; rotate_right; focus ((repeat' (first | exact FzL.nil | exact (by assumption : FzC _) _ | refine FzL.cons ?_ ?_ | exact Fz.of rfl | exact Fz.nil | exact Fz.emp | (apply Fz.fnC; assumption) | (apply Fz.sl2; exact rfl; exact (by first | omega | (simp <;> omega)); first | exact rfl | exact dt_full (by first | omega | (simp <;> omega)) | assumption) | apply Fz.agg | (apply Fz.ptrL; exact rfl; exact rfl) | apply Fz.fnL)); done))); (try simp only [put, rowsOf, plR, List.all_cons, selE, ovr, setH, del, cellsA, splice, isV, List.nil_append, List.cons_append, List.map_cons, List.map_nil, List.length_cons, List.length_nil, List.set_cons_zero, List.set_cons_succ, List.take_succ_cons, List.take_zero, List.take_nil, List.drop_succ_cons, List.drop_zero, List.drop_nil, List.append_nil, List.all_cons, List.all_nil, Bool.and_true, Bool.true_and, Bool.and_false, Bool.false_and, Nat.reduceAdd, Nat.zero_add, Nat.add_zero, Nat.reduceEqDiff, if_true, if_false, reduceIte]))
    | refine thn_n ?_
    | (refine hK _ _ _ ?_; clear hK K)
    | refine aw_block ?_
    | (apply aw_cond_t; exact rfl; exact rfl)
    | (apply aw_cond_f; exact rfl; exact rfl)
    | (apply aw_cond_t; exact rfl; exact (by assumption))
    | (apply aw_cond_f; exact rfl; exact (by assumption))
    | refine aw_ret ?_
    | refine aw_exit ?_
    | refine aw_skip ?_
    | refine thn_e ?_
    | refine thn_r ?_
    | refine inb_same ?_
    | refine inb_ne rfl ?_
    | refine inb_n ?_
    | refine inb_r ?_
    | (apply aw_ite; exact rfl; all_goals intro h)
    | (clear hK K; refine hK _ _ _ ?_; clear hK K)
    | (clear hK K; clear hK K; refine hK _ _ _ ?_; clear hK K)
    | (clear hK K; clear hK K; clear hK K; refine hK _ _ _ ?_; clear hK K)))); all_goals (repeat (clear hK K)))
      all_goals exact fin_r (fin_b rfl rfl)
    · have b2 : decide (szS ys (szS xs 1048576) < 0) = false := by simpa using c2
      obtain ⟨m2, _, _⟩ := szS_in z0 z1 c2
      have t1 : List.take xs.length (List.drop 0 (xs.map licL)) = xs.map licL := List.take_of_length_le (by simp)
      have t2 : List.take ys.length (List.drop 0 (ys.map licL)) = ys.map licL := List.take_of_length_le (by simp)
      have b3 : (sameB xs ys != sameB xs ys) = false := by simp
      refine RO.ofv' Try.func8 Try.ntmps8 rfl (goFn_of Try.func8 rfl (by kernel_rfl)) rfl rfl ?_
      ((repeat (any_goals (first
    | refine aw_region ?_
    | (refine aw_seqk ?_; intro K hK)
    | (show SQ _ _ _ _ _ _ _ _; (first | apply sq_nil | (apply q_move; exact rfl; exact rfl) | (apply q_assign; exact rfl; exact rfl) | (apply q_not; exact rfl; exact rfl) | (apply q_neq; exact rfl; exact rfl; exact rfl) | (apply q_lss; exact rfl; exact rfl; exact rfl) | (apply q_sneq; exact rfl; exact rfl; exact rfl) | (apply q_slss; exact rfl; exact rfl; exact rfl) | (apply q_bneq; exact rfl; exact rfl; exact rfl; exact (ty rfl); exact rfl) | (apply q_nea; exact rfl; exact rfl; exact rfl; kernel_rfl; assumption; exact rfl; exact rfl) | (apply q_nil_nv; exact rfl; exact rfl; exact rfl; exact (ty rfl); exact rfl) | (apply q_nil_nl; exact rfl; exact rfl; exact rfl; exact (ty rfl); exact rfl; exact (by first | omega | (simp <;> omega)))))
    | (show SQ _ _ _ _ _ _ _ _; (first | (apply q_callU; exact rfl; exact rfl; exact rfl; exact FzL.of rfl; exact szLicenceS_ro xs 1048576 hs hn (by omega) (by omega) _) | (apply q_callU; exact rfl; exact rfl; exact rfl; exact FzL.of rfl; exact szLicenceS_ro ys (szS xs 1048576) hs' hn' z0 z1 _) | (apply q_callU; exact rfl; exact rfl; exact rfl; exact FzL.of rfl; exact toLicenceS_ro xs m1 _) | (apply q_callU; exact rfl; exact rfl; exact rfl; exact FzL.of rfl; exact toLicenceS_ro ys m2 _) | (apply q_callU; exact rfl; exact rfl; exact rfl; exact FzL.of rfl; exact specSameHoldings_ro xs ys m1 _) | (apply q_callU; exact rfl; exact rfl; exact rfl; exact FzL.of rfl; exact SameHoldings_ro xs ys m1 _) | (apply q_callU; exact rfl; exact rfl; exact rfl; exact FzL.of rfl; exact eqLicenceS_ro xs m1 _) | (apply q_callU; exact rfl; exact rfl; exact rfl; exact FzL.of rfl; exact eqLicenceS_ro ys m2 _) | (apply q_callU; exact rfl; exact rfl; exact rfl; rotate_left; exact szLicenceS_ro xs 1048576 hs hn (by omega) (by omega) _; rotate_right; focus ((repeat' (first | exact FzL.nil | exact (by assumption : FzC _) _ | refine FzL.cons ?_ ?_ | exact Fz.of rfl | exact Fz.nil | exact Fz.emp | (apply Fz.fnC; assumption) | (apply Fz.sl2; exact rfl; exact (by first | omega | (simp <;> omega)); first | exact rfl | exact dt_full (by first | omega | (simp <;> omega)) | assumption) | apply Fz.agg | (apply Fz.ptrL; exact rfl; exact rfl) | apply Fz.fnL)); done)) | (apply q_callU; exact rfl; exact rfl; exact rfl; rotate_left; exact szLicenceS_ro ys (szS xs 1048576) hs' hn' z0 z1 _; rotate_right; focus ((repeat' (first | exact FzL.nil | exact (by assumption : FzC _) _ | refine FzL.cons ?_ ?_ | exact Fz.of rfl | exact Fz.nil | exact Fz.emp | (apply Fz.fnC; assumption) | (apply Fz.sl2; exact rfl; exact (by first | omega | (simp <;> omega)); first | exact rfl | exact dt_full (by first | omega | (simp <;> omega)) | assumption) | apply Fz.agg | (apply Fz.ptrL; exact rfl; exact rfl) | apply Fz.fnL)); done)) | (apply q_callU; exact rfl; exact rfl; exact rfl; rotate_left; exact toLicenceS_ro xs m1 _; rotate_right; focus ((repeat' (first | exact FzL.nil | exact (by assumption : FzC _) _ | refine FzL.cons ?_ ?_ | exact Fz.of rfl | exact Fz.nil | exact Fz.emp | (apply Fz.fnC; assumption) | (apply Fz.sl2; exact rfl; exact (by first | omega | (simp <;> omega)); first | exact rfl | exact dt_full (by first | omega | (simp <;> omega)) | assumption) | apply Fz.agg | (apply Fz.ptrL; exact rfl; exact rfl) | apply Fz.fnL)); done)) | (apply q_callU; exact rfl; exact rfl; exact rfl; rotate_left; exact toLicenceS_ro ys m2 _; rotate_right; focus ((repeat' (first | exact FzL.nil | exact (by assumption : FzC _) _ | refine FzL.cons ?_ ?_ | exact Fz.of rfl | exact Fz.nil | exact Fz.emp | (apply Fz.fnC; assumption) | (apply Fz.sl2; exact rfl; exact (by first | omega | (simp <;> omega)); first | exact rfl | exact dt_full (by first | omega | (simp <;> omega)) | assumption) | apply Fz.agg | (apply Fz.ptrL; exact rfl; exact rfl) | apply Fz.fnL)); done)) | (apply q_callU; exact rfl; exact rfl; exact rfl; rotate_left; exact specSameHoldings_ro xs ys m1 _; rotate_right; focus ((repeat' (first | exact FzL.nil | exact (by assumption : FzC _) _ | refine FzL.cons ?_ ?_ | exact Fz.of rfl | exact Fz.nil | exact Fz.emp | (apply Fz.fnC; assumption) | (apply Fz.sl2; exact rfl; exact (by first | omega | (simp <;> omega)); first | exact rfl | exact dt_full (by first | omega | (simp <;> omega)) | assumption) | apply Fz.agg | (apply Fz.ptrL; exact rfl; exact rfl) | apply Fz.fnL)); done)) | (apply q_callU; exact rfl; exact rfl; exact rfl; rotate_left; exact SameHoldings_ro xs ys m1 _; rotate_right; focus ((repeat' (first | exact FzL.nil | exact (by assumption : FzC _) _ | refine FzL.cons ?_ ?_ | exact Fz.of rfl | exact Fz.nil | exact Fz.emp | (apply Fz.fnC; assumption) | (apply Fz.sl2; exact rfl; exact (by first | omega | (simp <;> omega)); first | exact rfl | exact dt_full (by first | omega | (simp <;> omega)) | assumption) | apply Fz.agg | (apply Fz.ptrL; exact rfl; exact rfl) | apply Fz.fnL)); done)) | (apply q_callU; exact rfl; exact rfl; exact rfl; rotate_left; exact eqLicenceS_ro xs m1 _; rotate_right; focus ((repeat' (first | exact FzL.nil | exact (by assumption : FzC _) _ | refine FzL.cons ?_ ?_ | exact Fz.of rfl | exact Fz.nil | exact Fz.emp | (apply Fz.fnC; assumption) | (apply Fz.sl2; exact rfl; exact (by first | omega | (simp <;> omega)); first | exact rfl | exact dt_full (by first | omega | (simp <;> omega)) | assumption) | apply Fz.agg | (apply Fz.ptrL; exact rfl; exact rfl) | apply Fz.fnL)); done)) | (apply q_callU; exact rfl; exact rfl; exact rfl; rotate_left; exact eqLicenceS_ro ys m2 _; rotate_right; focus ((repeat' (first | exact FzL.nil | exact (by assumption : FzC _) _ | refine FzL.cons ?_ ?_ | exact Fz.of rfl | exact Fz.nil | exact Fz.emp | (apply Fz.fnC; assumption) | (apply Fz.sl2; exact rfl; exact (by first | omega | (simp <;> omega)); first | exact rfl | exact dt_full (by first | omega | (simp <;> omega)) | assumption) | apply Fz.agg | (apply Fz.ptrL; exact rfl; exact rfl) | apply Fz.fnL)); done))); (try simp only [put, rowsOf, plR, List.all_cons, selE, ovr, setH, del, cellsA, splice, isV, List.nil_append, List.cons_append, List.map_cons, List.map_nil, List.length_cons, List.length_nil, List.set_cons_zero, List.set_cons_succ, List.take_succ_cons, List.take_zero, List.take_nil, List.drop_succ_cons, List.drop_zero, List.drop_nil, List.append_nil, List.all_cons, List.all_nil, Bool.and_true, Bool.true_and, Bool.and_false, Bool.false_and, Nat.reduceAdd, Nat.zero_add, Nat.add_zero, Nat.reduceEqDiff, if_true, if_false, reduceIte]))
    | refine thn_n ?_
    | (refine hK _ _ _ ?_; clear hK K)
    | refine aw_block ?_
    | (apply aw_cond_t; exact rfl; exact rfl)
    | (apply aw_cond_f; exact rfl; exact rfl)
    | (apply aw_cond_t; exact rfl; exact (by assumption))
    | (apply aw_cond_f; exact rfl; exact (by assumption))
    | refine aw_ret ?_
    | refine aw_exit ?_
    | refine aw_skip ?_
    | refine thn_e ?_
    | refine thn_r ?_
    | refine inb_same ?_
    | refine inb_ne rfl ?_
    | refine inb_n ?_
    | refine inb_r ?_
    | (apply aw_ite; exact rfl; all_goals intro h)
    | (clear hK K; refine hK _ _ _ ?_; clear hK K)
    | (clear hK K; clear hK K; refine hK _ _ _ ?_; clear hK K)
    | (clear hK K; clear hK K; clear hK K; refine hK _ _ _ ?_; clear hK K)))); all_goals (repeat (clear hK K)))
      all_goals refine fin_r (fin_b rfl ?_)
      all_goals simp_all
end Go.Proofs.Ytnkbilpjlbpplaa.Li
