/-
  Rounded division, the program's.
-/
import Derived.Test.YtmnklmaefoidbaaPrA
namespace Go.Proofs.Ytmnklmaefoidbaa.Pr
open Go Go.RowKit Go.Proofs.Ytmnklmaefoidbaa.Aw Go.Proofs.Ytmnklmaefoidbaa.In Go.Proofs.Ytmnklmaefoidbaa.Il
set_option linter.unusedSimpArgs false
set_option linter.unusedVariables false
attribute [local irreducible] AW SQ Step RO RC DE Thn InB

theorem rd_eq (a b : Int) (h : 0 ≤ a) (hb : 1 ≤ b) : rd a b = if b - a % b ≤ a % b then a / b + 1 else a / b := by
  unfold rd
  rw [Int.tdiv_eq_ediv_of_nonneg (by omega)]
  have e := Int.mul_ediv_add_emod a b
  have r0 := Int.emod_nonneg a (show b ≠ 0 by omega)
  have r1 := Int.emod_lt_of_pos a (show 0 < b by omega)
  generalize a % b = r at *
  generalize a / b = q at *
  have e2 : 2 * a + b = (2 * r + b) + 2 * b * q := by rw [← e, Int.mul_add, ← Int.mul_assoc]; omega
  rw [e2, Int.add_mul_ediv_left _ _ (by omega)]
  split
  · have : (2 * r + b) / (2 * b) = 1 := by
      rw [show 2 * r + b = (2 * r - b) + 2 * b * 1 by omega, Int.add_mul_ediv_left _ _ (by omega), Int.ediv_eq_zero_of_lt (by omega) (by omega)]; rfl
    omega
  · rw [Int.ediv_eq_zero_of_lt (by omega) (by omega)]; omega
set_option maxHeartbeats 4000000 in
theorem absN_ro (n : Int) (h : 0 ≤ n) (h2 : n ≤ 1000000000000) (k : Nat) : RO Try.prog 35 [.v (.int .i64 n)] k (.v (.int .i64 n)) [] k := by
  have w1 : IntKind.i64.wrap (0 - n) = 0 - n := IntWalk.i64_in _ (by omega)
  refine RO.ofv' Try.func35 Try.ntmps35 rfl (goFn_of Try.func35 rfl (by kernel_rfl)) rfl rfl ?_
  ((repeat' (first
    | (show SQ _ _ _ _ _ _ _ _; first | apply sq_nil | (apply q_move; exact rfl; exact rfl) | (apply q_assign; exact rfl; exact rfl) | (apply q_neg; exact rfl; exact rfl) | (apply q_max; exact rfl; exact rfl; exact rfl))
    | (show AW _ _ _ _ _ _ _ _; first | refine aw_region ?_ | (refine aw_seqk ?_; intro K hK) | refine aw_block ?_ | (apply aw_cond_t; exact rfl; exact rfl) | (apply aw_cond_f; exact rfl; exact rfl) | (apply aw_cond_t; exact rfl; exact (by assumption)) | (apply aw_cond_f; exact rfl; exact (by assumption)) | refine aw_ret ?_ | refine aw_exit ?_ | refine aw_skip ?_ | (apply aw_ite; exact rfl; all_goals intro h))
    | refine thn_n ?_
    | (refine hK _ _ _ ?_; clear hK K)
    | refine thn_e ?_
    | refine thn_r ?_
    | refine inb_same ?_
    | refine inb_ne rfl ?_
    | refine inb_n ?_
    | refine inb_r ?_
    | (clear hK K; refine hK _ _ _ ?_; clear hK K)
    | (clear hK K; clear hK K; refine hK _ _ _ ?_; clear hK K)
    | (clear hK K; clear hK K; clear hK K; refine hK _ _ _ ?_; clear hK K))); all_goals (repeat (clear hK K)))
  all_goals refine fin_r (fin_i rfl ?_)
  all_goals (rw [w1]; unfold mxI; split <;> omega)
set_option maxHeartbeats 4000000 in
theorem divRound_ro (a b : Int) (h : 0 ≤ a) (h2 : a ≤ 1000000000000) (hb : 1 ≤ b) (hb2 : b ≤ 1000000000) (k : Nat) : RO Try.prog 55 [.v (.int .i64 a), .v (.int .i64 b)] k (.v (.int .i64 (rd a b))) [] k := by
  have hq : a.tdiv b = a / b := Int.tdiv_eq_ediv_of_nonneg h
  have hm : a.tmod b = a % b := Int.tmod_eq_emod_of_nonneg h
  have q1 : a / b ≤ a := Int.ediv_le_self _ h
  have q2 : 0 ≤ a / b := Int.ediv_nonneg h (by omega)
  have r0 := Int.emod_nonneg a (show b ≠ 0 by omega)
  have r1 := Int.emod_lt_of_pos a (show 0 < b by omega)
  have wq : IntKind.i64.wrap (a.tdiv b) = a / b := by rw [hq]; exact IntWalk.i64_in _ (by omega)
  have hA := absN_ro (a.tmod b) (by omega) (by omega)
  have hB := absN_ro b (by omega) (by omega)
  have b1 : decide (a < 0) = false := by simp; omega
  have b2 : decide (b < 0) = false := by simp; omega
  have hb0 : b ≠ 0 := by omega
  have ws : IntKind.i64.wrap (b - a % b) = b - a % b := IntWalk.i64_in _ (by omega)
  have w1 : IntKind.i64.wrap (a / b + 1) = a / b + 1 := IntWalk.i64_in _ (by omega)
  have hR := rd_eq a b h hb
  refine RO.ofv' Try.func55 Try.ntmps55 rfl (goFn_of Try.func55 rfl (by kernel_rfl)) rfl rfl ?_
  ((repeat' (first
    | (show SQ _ _ _ _ _ _ _ _; first | apply sq_nil | (apply q_move; exact rfl; exact rfl) | (apply q_assign; exact rfl; exact rfl) | (apply q_add; exact rfl; exact rfl; exact rfl) | (apply q_sub; exact rfl; exact rfl; exact rfl) | (apply q_quo; exact rfl; exact rfl; exact rfl; exact (by first | decide | omega)) | (apply q_rem; exact rfl; exact rfl; exact rfl; exact (by first | decide | omega)) | (apply q_eql; exact rfl; exact rfl; exact rfl) | (apply q_lss; exact rfl; exact rfl; exact rfl) | (apply q_geq; exact rfl; exact rfl; exact rfl) | (apply q_seql; exact rfl; exact rfl; exact rfl) | (apply q_slss; exact rfl; exact rfl; exact rfl) | (apply q_sgeq; exact rfl; exact rfl; exact rfl) | (apply q_cat; exact rfl; exact rfl; exact rfl; exact (by first | omega | (simp <;> omega))) | (apply q_beql; exact rfl; exact rfl; exact rfl; exact (ty rfl); exact rfl) | (apply q_eqa; exact rfl; exact rfl; exact rfl; kernel_rfl; assumption; exact rfl; exact rfl) | (apply q_nil_ev; exact rfl; exact rfl; exact rfl; exact (ty rfl); exact rfl) | (apply q_nil_el; exact rfl; exact rfl; exact rfl; exact (ty rfl); exact rfl; exact (by first | omega | (simp <;> omega))))
    | (show SQ _ _ _ _ _ _ _ _; (first | (apply q_callU; exact rfl; exact rfl; exact rfl; exact FzL.of rfl; exact hA _) | (apply q_callU; exact rfl; exact rfl; exact rfl; exact FzL.of rfl; exact hB _) | (apply q_callU; exact rfl; exact rfl; exact rfl; rotate_left; exact hA _; rotate_right; focus ((repeat' (first | exact FzL.nil | exact (by assumption : FzC _) _ | refine FzL.cons ?_ ?_ | exact Fz.of rfl | exact Fz.nil | exact Fz.emp | (apply Fz.fnC; assumption) | (apply Fz.sl2; exact rfl; exact (by first | omega | (simp <;> omega)); first | exact rfl | exact dt_full (by first | omega | (simp <;> omega)) | assumption) | apply Fz.agg | (apply Fz.ptrL; exact rfl; exact rfl) | apply Fz.fnL)); done)) | (apply q_callU; exact rfl; exact rfl; exact rfl; rotate_left; exact hB _; rotate_right; focus ((repeat' (first | exact FzL.nil | exact (by assumption : FzC _) _ | refine FzL.cons ?_ ?_ | exact Fz.of rfl | exact Fz.nil | exact Fz.emp | (apply Fz.fnC; assumption) | (apply Fz.sl2; exact rfl; exact (by first | omega | (simp <;> omega)); first | exact rfl | exact dt_full (by first | omega | (simp <;> omega)) | assumption) | apply Fz.agg | (apply Fz.ptrL; exact rfl; exact rfl) | apply Fz.fnL)); done))); (try simp only [put, rowsOf, plR, List.all_cons, selE, ovr, setH, del, cellsA, splice, isV, List.nil_append, List.cons_append, List.map_cons, List.map_nil, List.length_cons, List.length_nil, List.set_cons_zero, List.set_cons_succ, List.take_succ_cons, List.take_zero, List.take_nil, List.drop_succ_cons, List.drop_zero, List.drop_nil, List.append_nil, List.all_cons, List.all_nil, Bool.and_true, Bool.true_and, Bool.and_false, Bool.false_and, Nat.reduceAdd, Nat.zero_add, Nat.add_zero, Nat.reduceEqDiff, if_true, if_false, reduceIte]))
    | (show DE _ _ _ _ _ _ _ _ _ _ _ _; first | (apply e_move; exact rfl; exact rfl; exact rfl) | (apply e_assign; exact rfl; exact rfl; exact rfl) | (apply e_add; exact rfl; exact rfl; exact rfl; exact rfl) | (apply e_sub; exact rfl; exact rfl; exact rfl; exact rfl) | (apply e_quo; exact rfl; exact rfl; exact rfl; exact (by first | decide | omega); exact rfl) | (apply e_rem; exact rfl; exact rfl; exact rfl; exact (by first | decide | omega); exact rfl) | (apply e_eql; exact rfl; exact rfl; exact rfl; exact rfl) | (apply e_lss; exact rfl; exact rfl; exact rfl; exact rfl) | (apply e_geq; exact rfl; exact rfl; exact rfl; exact rfl) | (apply e_seql; exact rfl; exact rfl; exact rfl; exact rfl) | (apply e_slss; exact rfl; exact rfl; exact rfl; exact rfl) | (apply e_sgeq; exact rfl; exact rfl; exact rfl; exact rfl) | (apply e_cat; exact rfl; exact rfl; exact rfl; exact (by first | omega | (simp <;> omega)); exact rfl) | (apply e_beql; exact rfl; exact rfl; exact rfl; exact (ty rfl); exact rfl; exact rfl) | (apply e_eqa; exact rfl; exact rfl; exact rfl; kernel_rfl; assumption; exact rfl; exact rfl; exact rfl) | (apply e_nil_ev; exact rfl; exact rfl; exact rfl; exact (ty rfl); exact rfl; exact rfl) | (apply e_nil_el; exact rfl; exact rfl; exact rfl; exact (ty rfl); exact rfl; exact (by first | omega | (simp <;> omega)); exact rfl))
    | (show DE _ _ _ _ _ _ _ _ _ _ _ _; (first | apply dr_nil | (apply e_callU; exact rfl; exact rfl; exact rfl; exact FzL.of rfl; exact hA _; exact rfl) | (apply e_callU; exact rfl; exact rfl; exact rfl; exact FzL.of rfl; exact hB _; exact rfl) | (apply e_callU; exact rfl; exact rfl; exact rfl; rotate_left; exact hA _; exact rfl; rotate_right; focus ((repeat' (first | exact FzL.nil | exact (by assumption : FzC _) _ | refine FzL.cons ?_ ?_ | exact Fz.of rfl | exact Fz.nil | exact Fz.emp | (apply Fz.fnC; assumption) | (apply Fz.sl2; exact rfl; exact (by first | omega | (simp <;> omega)); first | exact rfl | exact dt_full (by first | omega | (simp <;> omega)) | assumption) | apply Fz.agg | (apply Fz.ptrL; exact rfl; exact rfl) | apply Fz.fnL)); done)) | (apply e_callU; exact rfl; exact rfl; exact rfl; rotate_left; exact hB _; exact rfl; rotate_right; focus ((repeat' (first | exact FzL.nil | exact (by assumption : FzC _) _ | refine FzL.cons ?_ ?_ | exact Fz.of rfl | exact Fz.nil | exact Fz.emp | (apply Fz.fnC; assumption) | (apply Fz.sl2; exact rfl; exact (by first | omega | (simp <;> omega)); first | exact rfl | exact dt_full (by first | omega | (simp <;> omega)) | assumption) | apply Fz.agg | (apply Fz.ptrL; exact rfl; exact rfl) | apply Fz.fnL)); done))); (try simp only [put, rowsOf, plR, List.all_cons, selE, ovr, setH, del, cellsA, splice, isV, List.nil_append, List.cons_append, List.map_cons, List.map_nil, List.length_cons, List.length_nil, List.set_cons_zero, List.set_cons_succ, List.take_succ_cons, List.take_zero, List.take_nil, List.drop_succ_cons, List.drop_zero, List.drop_nil, List.append_nil, List.all_cons, List.all_nil, Bool.and_true, Bool.true_and, Bool.and_false, Bool.false_and, Nat.reduceAdd, Nat.zero_add, Nat.add_zero, Nat.reduceEqDiff, if_true, if_false, reduceIte]))
    | (show AW _ _ _ _ _ _ _ _; first | refine aw_region ?_ | (refine aw_seqk ?_; intro K hK) | refine aw_block ?_ | (apply aw_cond_t; exact rfl; exact rfl) | (apply aw_cond_f; exact rfl; exact rfl) | (apply aw_cond_t; exact rfl; exact (by assumption)) | (apply aw_cond_f; exact rfl; exact (by assumption)) | refine aw_ret ?_ | refine aw_exit ?_ | refine aw_skip ?_ | refine aw_drawE (id := 1) [0, 0, 3, 0, 0, 24, 56, 127, 255] [0, 0, 0, 0, 0, 0, 1, 0, 0] mixed (by kernel_rfl) ?_ | (apply aw_ite; exact rfl; all_goals intro h))
    | refine thn_n ?_
    | (refine hK _ _ _ ?_; clear hK K)
    | refine thn_e ?_
    | refine thn_r ?_
    | refine inb_same ?_
    | refine inb_ne rfl ?_
    | refine inb_n ?_
    | refine inb_r ?_
    | (clear hK K; refine hK _ _ _ ?_; clear hK K)
    | (clear hK K; clear hK K; refine hK _ _ _ ?_; clear hK K)
    | (clear hK K; clear hK K; clear hK K; refine hK _ _ _ ?_; clear hK K))); all_goals (repeat (clear hK K)))
  all_goals refine fin_r (fin_i rfl ?_)
  all_goals (rw [hR]; simp only [hq, hm, ws] at *)
  all_goals first
    | (split <;> simp_all <;> omega)
    | (simp_all; omega)
    | (simp_all; done)
end Go.Proofs.Ytmnklmaefoidbaa.Pr
