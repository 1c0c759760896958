/-
  Profiles: places along a path.
-/
import Derived.Test.YtmnklmaefoidbaaPrD
namespace Go.Proofs.Ytmnklmaefoidbaa.Pr
open Go Go.RowKit Go.Proofs.Ytmnklmaefoidbaa.Aw Go.Proofs.Ytmnklmaefoidbaa.In Go.Proofs.Ytmnklmaefoidbaa.Il
set_option linter.unusedSimpArgs false
set_option linter.unusedVariables false
attribute [local irreducible] AW SQ Step RO RC DE Thn InB

def lastI (p : Pf) : Int := (p.hs.length : Int) - 1
theorem last_w (p : Pf) (hn : p.hs.length ≤ 1048576) : IntKind.i64.wrap (((p.hs.map inL).length : Int) - 1) = lastI p := by
  rw [List.length_map]; exact IntWalk.i64_in _ (by omega)
def askC (p : Pf) (i : Int) : Int := if okP p then if inB i 0 (lastI p) then 0 else 2 else 1
set_option maxHeartbeats 4000000 in
theorem last_ro (p : Pf) (hn : p.hs.length ≤ 1048576) (k : Nat) : RO Try.prog 54 [.agg (pfL p)] k (.v (.int .i64 (lastI p))) [] k := by
  have hw := last_w p hn
  refine RO.ofv' Try.func54 Try.ntmps54 rfl (goFn_of Try.func54 rfl (by kernel_rfl)) rfl rfl ?_
  unfold pfL
  ((repeat' (first
    | (show SQ _ _ _ _ _ _ _ _; first | apply sq_nil | (apply q_assign; exact rfl; exact rfl) | (apply q_fieldAddr; exact rfl; exact rfl; exact (ty rfl); exact rfl; exact rfl; exact rfl; exact rfl) | (apply q_lens; exact rfl; exact rfl; exact (ty rfl); exact rfl) | (apply q_lend; exact rfl; exact rfl; exact (ty rfl); exact rfl) | (apply q_lenl; exact rfl; exact rfl; exact (ty rfl); exact rfl) | (apply q_lenn; exact rfl; exact rfl; exact (ty rfl); exact rfl) | (apply q_sub; exact rfl; exact rfl; exact rfl) | (apply q_ld1d; exact rfl; exact rfl; exact (ty rfl); exact rfl; exact rfl) | (apply q_ld1p; exact rfl; exact rfl; exact (ty rfl); exact rfl; exact rfl; exact (by first | rfl | assumption); exact rfl))
    | (show SQ _ _ _ _ _ _ _ _; (first | (apply q_ldad; exact rfl; exact rfl; exact (ty rfl); exact rfl; exact rfl) | (apply q_ldap; exact rfl; exact rfl; exact (ty rfl); exact rfl; exact rfl; exact (by first | rfl | assumption); exact rfl) | (apply q_box; exact rfl; exact rfl; exact rfl)); (try simp only [put, rowsOf, plR, List.all_cons, selE, ovr, setH, del, cellsA, splice, isV, List.nil_append, List.cons_append, List.map_cons, List.map_nil, List.length_cons, List.length_nil, List.set_cons_zero, List.set_cons_succ, List.take_succ_cons, List.take_zero, List.take_nil, List.drop_succ_cons, List.drop_zero, List.drop_nil, List.append_nil, List.all_cons, List.all_nil, Bool.and_true, Bool.true_and, Bool.and_false, Bool.false_and, Nat.reduceAdd, Nat.zero_add, Nat.add_zero, Nat.reduceEqDiff, if_true, if_false, reduceIte]))
    | (show AW _ _ _ _ _ _ _ _; first | refine aw_region ?_ | (refine aw_seqk ?_; intro K hK) | refine aw_block ?_ | (apply aw_cond_t; exact rfl; exact rfl) | (apply aw_cond_f; exact rfl; exact rfl) | (apply aw_cond_t; exact rfl; exact (by assumption)) | (apply aw_cond_f; exact rfl; exact (by assumption)) | refine aw_ret ?_ | refine aw_exit ?_ | refine aw_skip ?_ | (apply aw_ite; exact rfl; all_goals intro h))
    | refine thn_n ?_
    | (refine hK _ _ _ ?_; clear hK K)
    | refine thn_e ?_
    | refine thn_r ?_
    | refine inb_same ?_
    | refine inb_ne rfl ?_
    | refine inb_n ?_
    | refine inb_r ?_
    | (clear hK K; refine hK _ _ _ ?_; clear hK K)
    | (clear hK K; clear hK K; refine hK _ _ _ ?_; clear hK K)
    | (clear hK K; clear hK K; clear hK K; refine hK _ _ _ ?_; clear hK K))); all_goals (repeat (clear hK K)))
  all_goals exact fin_r (fin_i rfl hw)
set_option maxHeartbeats 4000000 in
theorem l05Ask_ro (p : Pf) (i : Int) (hn : p.hs.length ≤ 1048576) (k : Nat) : RO Try.prog 37 [.dptr (pfL p), .v (.int .i64 i)] k (.v (.int .i64 (askC p i))) [] k := by
  have hw := last_w p hn
  have hO := l05Ok_ro p hn
  refine RO.ofv' Try.func37 Try.ntmps37 rfl (goFn_of Try.func37 rfl (by kernel_rfl)) rfl rfl ?_
  unfold pfL at hO ⊢
  ((repeat' (first
    | (show SQ _ _ _ _ _ _ _ _; first | apply sq_nil | (apply q_move; exact rfl; exact rfl) | (apply q_assign; exact rfl; exact rfl) | (apply q_fieldAddr; exact rfl; exact rfl; exact (ty rfl); exact rfl; exact rfl; exact rfl; exact rfl) | (apply q_nilc; exact rfl; exact rfl; exact rfl) | (apply q_nilf; exact rfl; exact rfl) | (apply q_not; exact rfl; exact rfl) | (apply q_lens; exact rfl; exact rfl; exact (ty rfl); exact rfl) | (apply q_lend; exact rfl; exact rfl; exact (ty rfl); exact rfl) | (apply q_lenl; exact rfl; exact rfl; exact (ty rfl); exact rfl) | (apply q_lenn; exact rfl; exact rfl; exact (ty rfl); exact rfl) | (apply q_sub; exact rfl; exact rfl; exact rfl) | (apply q_ld1d; exact rfl; exact rfl; exact (ty rfl); exact rfl; exact rfl) | (apply q_ld1p; exact rfl; exact rfl; exact (ty rfl); exact rfl; exact rfl; exact (by first | rfl | assumption); exact rfl))
    | (show SQ _ _ _ _ _ _ _ _; (first | (apply q_ldad; exact rfl; exact rfl; exact (ty rfl); exact rfl; exact rfl) | (apply q_ldap; exact rfl; exact rfl; exact (ty rfl); exact rfl; exact rfl; exact (by first | rfl | assumption); exact rfl) | (apply q_callU; exact rfl; exact rfl; exact rfl; exact FzL.of rfl; exact hO _) | (apply q_callU; exact rfl; exact rfl; exact rfl; exact FzL.of rfl; exact l00In_ro _ _ _ _) | (apply q_callU; exact rfl; exact rfl; exact rfl; rotate_left; exact hO _; rotate_right; focus ((repeat' (first | exact FzL.nil | exact (by assumption : FzC _) _ | refine FzL.cons ?_ ?_ | exact Fz.of rfl | exact Fz.nil | exact Fz.emp | (apply Fz.fnC; assumption) | (apply Fz.sl2; exact rfl; exact (by first | omega | (simp <;> omega)); first | exact rfl | exact dt_full (by first | omega | (simp <;> omega)) | assumption) | apply Fz.agg | (apply Fz.ptrL; exact rfl; exact rfl) | apply Fz.fnL)); done))); (try simp only [put, rowsOf, plR, List.all_cons, selE, ovr, setH, del, cellsA, splice, isV, List.nil_append, List.cons_append, List.map_cons, List.map_nil, List.length_cons, List.length_nil, List.set_cons_zero, List.set_cons_succ, List.take_succ_cons, List.take_zero, List.take_nil, List.drop_succ_cons, List.drop_zero, List.drop_nil, List.append_nil, List.all_cons, List.all_nil, Bool.and_true, Bool.true_and, Bool.and_false, Bool.false_and, Nat.reduceAdd, Nat.zero_add, Nat.add_zero, Nat.reduceEqDiff, if_true, if_false, reduceIte]))
    | (show AW _ _ _ _ _ _ _ _; first | refine aw_region ?_ | (refine aw_seqk ?_; intro K hK) | refine aw_block ?_ | (apply aw_cond_t; exact rfl; exact rfl) | (apply aw_cond_f; exact rfl; exact rfl) | (apply aw_cond_t; exact rfl; exact (by assumption)) | (apply aw_cond_f; exact rfl; exact (by assumption)) | refine aw_ret ?_ | refine aw_exit ?_ | refine aw_skip ?_ | (apply aw_ite; exact rfl; all_goals intro h))
    | refine thn_n ?_
    | (refine hK _ _ _ ?_; clear hK K)
    | refine thn_e ?_
    | refine thn_r ?_
    | refine inb_same ?_
    | refine inb_ne rfl ?_
    | refine inb_n ?_
    | refine inb_r ?_
    | (clear hK K; refine hK _ _ _ ?_; clear hK K)
    | (clear hK K; clear hK K; refine hK _ _ _ ?_; clear hK K)
    | (clear hK K; clear hK K; clear hK K; refine hK _ _ _ ?_; clear hK K))); all_goals (repeat (clear hK K)))
  all_goals refine fin_r (fin_i rfl ?_)
  all_goals simp_all [askC]
set_option maxHeartbeats 4000000 in
theorem code_ro (p : Pf) (i : Int) (hn : p.hs.length ≤ 1048576) (k : Nat) : RO Try.prog 40 [.agg (pfL p), .v (.int .i64 i)] k (.v (.int .i64 (askC p i))) [] k := by
  have hO := ValidProfile_ro p hn
  have hL := last_ro p hn
  refine RO.ofv' Try.func40 Try.ntmps40 rfl (goFn_of Try.func40 rfl (by kernel_rfl)) rfl rfl ?_
  unfold pfL at hO hL ⊢
  ((repeat' (first
    | (show SQ _ _ _ _ _ _ _ _; first | apply sq_nil | (apply q_move; exact rfl; exact rfl) | (apply q_assign; exact rfl; exact rfl) | (apply q_not; exact rfl; exact rfl) | (apply q_ld1d; exact rfl; exact rfl; exact (ty rfl); exact rfl; exact rfl) | (apply q_ld1p; exact rfl; exact rfl; exact (ty rfl); exact rfl; exact rfl; exact (by first | rfl | assumption); exact rfl))
    | (show SQ _ _ _ _ _ _ _ _; (first | (apply q_ldad; exact rfl; exact rfl; exact (ty rfl); exact rfl; exact rfl) | (apply q_ldap; exact rfl; exact rfl; exact (ty rfl); exact rfl; exact rfl; exact (by first | rfl | assumption); exact rfl) | (apply q_box; exact rfl; exact rfl; exact rfl) | (apply q_callU; exact rfl; exact rfl; exact rfl; exact FzL.of rfl; exact hO _) | (apply q_callU; exact rfl; exact rfl; exact rfl; exact FzL.of rfl; exact hL _) | (apply q_callU; exact rfl; exact rfl; exact rfl; exact FzL.of rfl; exact within_ro _ _ _ _) | (apply q_callU; exact rfl; exact rfl; exact rfl; rotate_left; exact hO _; rotate_right; focus ((repeat' (first | exact FzL.nil | exact (by assumption : FzC _) _ | refine FzL.cons ?_ ?_ | exact Fz.of rfl | exact Fz.nil | exact Fz.emp | (apply Fz.fnC; assumption) | (apply Fz.sl2; exact rfl; exact (by first | omega | (simp <;> omega)); first | exact rfl | exact dt_full (by first | omega | (simp <;> omega)) | assumption) | apply Fz.agg | (apply Fz.ptrL; exact rfl; exact rfl) | apply Fz.fnL)); done)) | (apply q_callU; exact rfl; exact rfl; exact rfl; rotate_left; exact hL _; rotate_right; focus ((repeat' (first | exact FzL.nil | exact (by assumption : FzC _) _ | refine FzL.cons ?_ ?_ | exact Fz.of rfl | exact Fz.nil | exact Fz.emp | (apply Fz.fnC; assumption) | (apply Fz.sl2; exact rfl; exact (by first | omega | (simp <;> omega)); first | exact rfl | exact dt_full (by first | omega | (simp <;> omega)) | assumption) | apply Fz.agg | (apply Fz.ptrL; exact rfl; exact rfl) | apply Fz.fnL)); done))); (try simp only [put, rowsOf, plR, List.all_cons, selE, ovr, setH, del, cellsA, splice, isV, List.nil_append, List.cons_append, List.map_cons, List.map_nil, List.length_cons, List.length_nil, List.set_cons_zero, List.set_cons_succ, List.take_succ_cons, List.take_zero, List.take_nil, List.drop_succ_cons, List.drop_zero, List.drop_nil, List.append_nil, List.all_cons, List.all_nil, Bool.and_true, Bool.true_and, Bool.and_false, Bool.false_and, Nat.reduceAdd, Nat.zero_add, Nat.add_zero, Nat.reduceEqDiff, if_true, if_false, reduceIte]))
    | (show AW _ _ _ _ _ _ _ _; first | refine aw_region ?_ | (refine aw_seqk ?_; intro K hK) | refine aw_block ?_ | (apply aw_cond_t; exact rfl; exact rfl) | (apply aw_cond_f; exact rfl; exact rfl) | (apply aw_cond_t; exact rfl; exact (by assumption)) | (apply aw_cond_f; exact rfl; exact (by assumption)) | refine aw_ret ?_ | refine aw_exit ?_ | refine aw_skip ?_ | (apply aw_ite; exact rfl; all_goals intro h))
    | refine thn_n ?_
    | (refine hK _ _ _ ?_; clear hK K)
    | refine thn_e ?_
    | refine thn_r ?_
    | refine inb_same ?_
    | refine inb_ne rfl ?_
    | refine inb_n ?_
    | refine inb_r ?_
    | (clear hK K; refine hK _ _ _ ?_; clear hK K)
    | (clear hK K; clear hK K; refine hK _ _ _ ?_; clear hK K)
    | (clear hK K; clear hK K; clear hK K; refine hK _ _ _ ?_; clear hK K))); all_goals (repeat (clear hK K)))
  all_goals refine fin_r (fin_i rfl ?_)
  all_goals simp_all [askC]
def offV (p : Pf) (i : Int) : Int := if 2 * i ≤ lastI p then rd (p.d * i) (lastI p) else IntKind.i64.wrap (p.d - rd (p.d * (lastI p - i)) (lastI p))
theorem ask_ok {p : Pf} {i : Int} (h : askC p i = 0) : (1 ≤ p.d ∧ p.d ≤ 283000) ∧ (0 ≤ i ∧ i ≤ lastI p) ∧ 1 ≤ lastI p ∧ lastI p ≤ 64 := by
  unfold askC at h
  split at h
  · rename_i h1
    split at h
    · rename_i h2
      simp only [okP, preB, endB, Bool.and_eq_true, decide_eq_true_eq, inB] at h1 h2
      unfold lastI at *
      omega
    · omega
  · omega
theorem mul_in {d i : Int} (hd : 1 ≤ d ∧ d ≤ 283000) (hi : 0 ≤ i ∧ i ≤ 64) : 0 ≤ d * i ∧ d * i ≤ 18112000 := by
  refine ⟨Int.mul_nonneg (by omega) hi.1, ?_⟩
  have := Int.mul_le_mul hd.2 hi.2 hi.1 (by omega : (0 : Int) ≤ 283000)
  omega
set_option maxHeartbeats 4000000 in
theorem l05Offset_ro (p : Pf) (i : Int) (hn : p.hs.length ≤ 1048576) (h : askC p i = 0) (k : Nat) : RO Try.prog 38 [.dptr (pfL p), .v (.int .i64 i)] k (.v (.int .i64 (offV p i))) [] k := by
  obtain ⟨hd, hi, hn1, hn2⟩ := ask_ok h
  have hw := last_w p hn
  have m1 := mul_in hd (i := i) (by omega)
  have m2 := mul_in hd (i := lastI p - i) (by omega)
  have w1 : IntKind.i64.wrap (2 * i) = 2 * i := IntWalk.i64_in _ (by omega)
  have w2 : IntKind.i64.wrap (p.d * i) = p.d * i := IntWalk.i64_in _ (by omega)
  have w3 : IntKind.i64.wrap (lastI p - i) = lastI p - i := IntWalk.i64_in _ (by omega)
  have w4 : IntKind.i64.wrap (p.d * (lastI p - i)) = p.d * (lastI p - i) := IntWalk.i64_in _ (by omega)
  have hA := l01Div_ro (IntKind.i64.wrap (p.d * i)) (IntKind.i64.wrap (((p.hs.map inL).length : Int) - 1)) (by rw [w2]; omega) (by rw [w2]; omega) (by rw [hw]; omega) (by rw [hw]; omega)
  have hB := l01Div_ro (IntKind.i64.wrap (p.d * IntKind.i64.wrap (IntKind.i64.wrap (((p.hs.map inL).length : Int) - 1) - i))) (IntKind.i64.wrap (((p.hs.map inL).length : Int) - 1)) (by rw [hw, w3, w4]; omega) (by rw [hw, w3, w4]; omega) (by rw [hw]; omega) (by rw [hw]; omega)
  refine RO.ofv' Try.func38 Try.ntmps38 rfl (goFn_of Try.func38 rfl (by kernel_rfl)) rfl rfl ?_
  unfold pfL
  ((repeat' (first
    | (show SQ _ _ _ _ _ _ _ _; first | apply sq_nil | (apply q_move; exact rfl; exact rfl) | (apply q_assign; exact rfl; exact rfl) | (apply q_fieldAddr; exact rfl; exact rfl; exact (ty rfl); exact rfl; exact rfl; exact rfl; exact rfl) | (apply q_nilc; exact rfl; exact rfl; exact rfl) | (apply q_nilf; exact rfl; exact rfl) | (apply q_lens; exact rfl; exact rfl; exact (ty rfl); exact rfl) | (apply q_lend; exact rfl; exact rfl; exact (ty rfl); exact rfl) | (apply q_lenl; exact rfl; exact rfl; exact (ty rfl); exact rfl) | (apply q_lenn; exact rfl; exact rfl; exact (ty rfl); exact rfl) | (apply q_sub; exact rfl; exact rfl; exact rfl) | (apply q_mul; exact rfl; exact rfl; exact rfl) | (apply q_gtr; exact rfl; exact rfl; exact rfl) | (apply q_sgtr; exact rfl; exact rfl; exact rfl) | (apply q_ld1d; exact rfl; exact rfl; exact (ty rfl); exact rfl; exact rfl) | (apply q_ld1p; exact rfl; exact rfl; exact (ty rfl); exact rfl; exact rfl; exact (by first | rfl | assumption); exact rfl))
    | (show SQ _ _ _ _ _ _ _ _; (first | (apply q_ldad; exact rfl; exact rfl; exact (ty rfl); exact rfl; exact rfl) | (apply q_ldap; exact rfl; exact rfl; exact (ty rfl); exact rfl; exact rfl; exact (by first | rfl | assumption); exact rfl) | (apply q_callU; exact rfl; exact rfl; exact rfl; exact FzL.of rfl; exact hA _) | (apply q_callU; exact rfl; exact rfl; exact rfl; exact FzL.of rfl; exact hB _) | (apply q_callU; exact rfl; exact rfl; exact rfl; rotate_left; exact hA _; rotate_right; focus ((repeat' (first | exact FzL.nil | exact (by assumption : FzC _) _ | refine FzL.cons ?_ ?_ | exact Fz.of rfl | exact Fz.nil | exact Fz.emp | (apply Fz.fnC; assumption) | (apply Fz.sl2; exact rfl; exact (by first | omega | (simp <;> omega)); first | exact rfl | exact dt_full (by first | omega | (simp <;> omega)) | assumption) | apply Fz.agg | (apply Fz.ptrL; exact rfl; exact rfl) | apply Fz.fnL)); done)) | (apply q_callU; exact rfl; exact rfl; exact rfl; rotate_left; exact hB _; rotate_right; focus ((repeat' (first | exact FzL.nil | exact (by assumption : FzC _) _ | refine FzL.cons ?_ ?_ | exact Fz.of rfl | exact Fz.nil | exact Fz.emp | (apply Fz.fnC; assumption) | (apply Fz.sl2; exact rfl; exact (by first | omega | (simp <;> omega)); first | exact rfl | exact dt_full (by first | omega | (simp <;> omega)) | assumption) | apply Fz.agg | (apply Fz.ptrL; exact rfl; exact rfl) | apply Fz.fnL)); done))); (try simp only [put, rowsOf, plR, List.all_cons, selE, ovr, setH, del, cellsA, splice, isV, List.nil_append, List.cons_append, List.map_cons, List.map_nil, List.length_cons, List.length_nil, List.set_cons_zero, List.set_cons_succ, List.take_succ_cons, List.take_zero, List.take_nil, List.drop_succ_cons, List.drop_zero, List.drop_nil, List.append_nil, List.all_cons, List.all_nil, Bool.and_true, Bool.true_and, Bool.and_false, Bool.false_and, Nat.reduceAdd, Nat.zero_add, Nat.add_zero, Nat.reduceEqDiff, if_true, if_false, reduceIte]))
    | (show DE _ _ _ _ _ _ _ _ _ _ _ _; first | (apply e_move; exact rfl; exact rfl; exact rfl) | (apply e_assign; exact rfl; exact rfl; exact rfl) | (apply e_fieldAddr; exact rfl; exact rfl; exact (ty rfl); exact rfl; exact rfl; exact rfl; exact rfl; exact rfl) | (apply e_nilc; exact rfl; exact rfl; exact rfl; exact rfl) | (apply e_nilf; exact rfl; exact rfl; exact rfl) | (apply e_lens; exact rfl; exact rfl; exact (ty rfl); exact rfl; exact rfl) | (apply e_lend; exact rfl; exact rfl; exact (ty rfl); exact rfl; exact rfl) | (apply e_lenl; exact rfl; exact rfl; exact (ty rfl); exact rfl; exact rfl) | (apply e_lenn; exact rfl; exact rfl; exact (ty rfl); exact rfl; exact rfl) | (apply e_sub; exact rfl; exact rfl; exact rfl; exact rfl) | (apply e_mul; exact rfl; exact rfl; exact rfl; exact rfl) | (apply e_gtr; exact rfl; exact rfl; exact rfl; exact rfl) | (apply e_sgtr; exact rfl; exact rfl; exact rfl; exact rfl) | (apply e_ld1d; exact rfl; exact rfl; exact (ty rfl); exact rfl; exact rfl; exact rfl) | (apply e_ld1p; exact rfl; exact rfl; exact (ty rfl); exact rfl; exact rfl; exact (by first | rfl | assumption); exact rfl; exact rfl))
    | (show DE _ _ _ _ _ _ _ _ _ _ _ _; (first | apply dr_nil | (apply e_ldad; exact rfl; exact rfl; exact (ty rfl); exact rfl; exact rfl; exact rfl) | (apply e_ldap; exact rfl; exact rfl; exact (ty rfl); exact rfl; exact rfl; exact (by first | rfl | assumption); exact rfl; exact rfl) | (apply e_callU; exact rfl; exact rfl; exact rfl; exact FzL.of rfl; exact hA _; exact rfl) | (apply e_callU; exact rfl; exact rfl; exact rfl; exact FzL.of rfl; exact hB _; exact rfl) | (apply e_callU; exact rfl; exact rfl; exact rfl; rotate_left; exact hA _; exact rfl; rotate_right; focus ((repeat' (first | exact FzL.nil | exact (by assumption : FzC _) _ | refine FzL.cons ?_ ?_ | exact Fz.of rfl | exact Fz.nil | exact Fz.emp | (apply Fz.fnC; assumption) | (apply Fz.sl2; exact rfl; exact (by first | omega | (simp <;> omega)); first | exact rfl | exact dt_full (by first | omega | (simp <;> omega)) | assumption) | apply Fz.agg | (apply Fz.ptrL; exact rfl; exact rfl) | apply Fz.fnL)); done)) | (apply e_callU; exact rfl; exact rfl; exact rfl; rotate_left; exact hB _; exact rfl; rotate_right; focus ((repeat' (first | exact FzL.nil | exact (by assumption : FzC _) _ | refine FzL.cons ?_ ?_ | exact Fz.of rfl | exact Fz.nil | exact Fz.emp | (apply Fz.fnC; assumption) | (apply Fz.sl2; exact rfl; exact (by first | omega | (simp <;> omega)); first | exact rfl | exact dt_full (by first | omega | (simp <;> omega)) | assumption) | apply Fz.agg | (apply Fz.ptrL; exact rfl; exact rfl) | apply Fz.fnL)); done))); (try simp only [put, rowsOf, plR, List.all_cons, selE, ovr, setH, del, cellsA, splice, isV, List.nil_append, List.cons_append, List.map_cons, List.map_nil, List.length_cons, List.length_nil, List.set_cons_zero, List.set_cons_succ, List.take_succ_cons, List.take_zero, List.take_nil, List.drop_succ_cons, List.drop_zero, List.drop_nil, List.append_nil, List.all_cons, List.all_nil, Bool.and_true, Bool.true_and, Bool.and_false, Bool.false_and, Nat.reduceAdd, Nat.zero_add, Nat.add_zero, Nat.reduceEqDiff, if_true, if_false, reduceIte]))
    | (show AW _ _ _ _ _ _ _ _; first | refine aw_region ?_ | (refine aw_seqk ?_; intro K hK) | refine aw_block ?_ | (apply aw_cond_t; exact rfl; exact rfl) | (apply aw_cond_f; exact rfl; exact rfl) | (apply aw_cond_t; exact rfl; exact (by assumption)) | (apply aw_cond_f; exact rfl; exact (by assumption)) | refine aw_ret ?_ | refine aw_exit ?_ | refine aw_skip ?_ | refine aw_drawE (id := 3) [0, 1, 3, 7, 0, 16, 48, 112, 0, 0, 768, 2032, 0, 8176, 16383, 32767] [0, 0, 0, 1, 0, 0, 0, 1, 0, 0, 0, 0, 0, 1, 0, 0] mixed (by kernel_rfl) ?_ | (apply aw_ite; exact rfl; all_goals intro h))
    | refine thn_n ?_
    | (refine hK _ _ _ ?_; clear hK K)
    | refine thn_e ?_
    | refine thn_r ?_
    | refine inb_same ?_
    | refine inb_ne rfl ?_
    | refine inb_n ?_
    | refine inb_r ?_
    | (clear hK K; refine hK _ _ _ ?_; clear hK K)
    | (clear hK K; clear hK K; refine hK _ _ _ ?_; clear hK K)
    | (clear hK K; clear hK K; clear hK K; refine hK _ _ _ ?_; clear hK K))); all_goals (repeat (clear hK K)))
  all_goals refine fin_r (fin_i rfl ?_)
  all_goals (rw [hw, w1] at *)
  all_goals simp_all [offV]
  all_goals (intros; omega)
end Go.Proofs.Ytmnklmaefoidbaa.Pr
