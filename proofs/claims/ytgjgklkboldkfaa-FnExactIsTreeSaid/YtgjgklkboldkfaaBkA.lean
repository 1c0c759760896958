/-
  Backhauls: validity.
-/
import Derived.Test.YtgjgklkboldkfaaAwL
import Derived.Test.YtgjgklkboldkfaaAwTy
import Derived.IntWalk
namespace Go.Proofs.Ytgjgklkboldkfaa.Bk
open Go Go.RowKit Go.Proofs.Ytgjgklkboldkfaa.Aw
set_option linter.unusedSimpArgs false
set_option linter.unusedVariables false
attribute [local irreducible] AW SQ Step RO RC DE Thn InB

structure Ln where
  a : Int
  b : Int
  o : Int
  c : Int
def lnL (l : Ln) : List AV := [.v (.int .i64 l.a), .v (.int .i64 l.b), .v (.int .i64 l.o), .v (.int .i64 l.c)]
theorem lnL_eq (l : Ln) : lnL l = [.v (.int .i64 l.a), .v (.int .i64 l.b), .v (.int .i64 l.o), .v (.int .i64 l.c)] := rfl
def lnz : Ln := ⟨0, 0, 0, 0⟩
def inB (n lo hi : Int) : Bool := decide (lo ≤ n) && decide (n ≤ hi)
def bkL (n : Int) (ls : List Ln) : List AV := [.v (.int .i64 n), .dsl 4 (ls.map lnL)]
def i64c (x y : Int) : Int := if x < y then -1 else if y < x then 1 else 0

set_option maxHeartbeats 4000000 in
theorem within_ro (n lo hi : Int) (k : Nat) : RO Try.prog 37 [.v (.int .i64 n), .v (.int .i64 lo), .v (.int .i64 hi)] k (.v (.bool (inB n lo hi))) [] k := by
  refine RO.ofv' Try.func37 Try.ntmps37 rfl (goFn_of Try.func37 rfl (by kernel_rfl)) rfl rfl ?_
  ((repeat' (first
    | (show SQ _ _ _ _ _ _ _ _; first | apply sq_nil | (apply q_move; exact rfl; exact rfl) | (apply q_assign; exact rfl; exact rfl) | (apply q_pick_t; exact rfl; exact rfl; exact rfl; exact (by first | assumption | exact rfl)) | (apply q_pick_f; exact rfl; exact rfl; exact rfl; exact (by first | assumption | exact rfl)) | (apply q_leq; exact rfl; exact rfl; exact rfl) | (apply q_geq; exact rfl; exact rfl; exact rfl) | (apply q_sleq; exact rfl; exact rfl; exact rfl) | (apply q_sgeq; exact rfl; exact rfl; exact rfl) | (apply q_g; exact rfl; exact rfl; exact rfl; exact (by assumption)) | (apply q_s; exact rfl; exact rfl; exact rfl; exact (by assumption); exact rfl) | (apply q_g; exact rfl; exact rfl; exact rfl; exact rfl) | (apply q_s; exact rfl; exact rfl; exact rfl; exact rfl; exact rfl) | (apply q_sU; exact rfl; exact rfl; exact rfl; exact rfl))
    | (show SQ _ _ _ _ _ _ _ _; apply q_gs; exact rfl; exact rfl; exact rfl; exact rfl; all_goals intro h)
    | (show AW _ _ _ _ _ _ _ _; first | refine aw_region ?_ | (refine aw_seqk ?_; intro K hK) | refine aw_block ?_ | (apply aw_cond_t; exact rfl; exact rfl) | (apply aw_cond_f; exact rfl; exact rfl) | (apply aw_cond_t; exact rfl; exact (by assumption)) | (apply aw_cond_f; exact rfl; exact (by assumption)) | refine aw_ret ?_ | refine aw_exit ?_ | refine aw_skip ?_ | (apply aw_ite; exact rfl; all_goals intro h))
    | refine thn_n ?_
    | (refine hK _ _ _ ?_; clear hK K)
    | refine thn_e ?_
    | refine thn_r ?_
    | refine inb_same ?_
    | refine inb_ne rfl ?_
    | refine inb_n ?_
    | refine inb_r ?_
    | (clear hK K; refine hK _ _ _ ?_; clear hK K)
    | (clear hK K; clear hK K; refine hK _ _ _ ?_; clear hK K)
    | (clear hK K; clear hK K; clear hK K; refine hK _ _ _ ?_; clear hK K))); all_goals (repeat (clear hK K)))
  all_goals refine fin_r (fin_b rfl ?_)
  all_goals simp_all [inB]
  all_goals (intros; omega)
set_option maxHeartbeats 4000000 in
theorem l00In_ro (n lo hi : Int) (k : Nat) : RO Try.prog 53 [.v (.int .i64 n), .v (.int .i64 lo), .v (.int .i64 hi)] k (.v (.bool (inB n lo hi))) [] k := by
  refine RO.ofv' Try.func53 Try.ntmps53 rfl (goFn_of Try.func53 rfl (by kernel_rfl)) rfl rfl ?_
  ((repeat' (first
    | (show SQ _ _ _ _ _ _ _ _; first | apply sq_nil | (apply q_move; exact rfl; exact rfl) | (apply q_assign; exact rfl; exact rfl) | (apply q_pick_t; exact rfl; exact rfl; exact rfl; exact (by first | assumption | exact rfl)) | (apply q_pick_f; exact rfl; exact rfl; exact rfl; exact (by first | assumption | exact rfl)) | (apply q_leq; exact rfl; exact rfl; exact rfl) | (apply q_geq; exact rfl; exact rfl; exact rfl) | (apply q_sleq; exact rfl; exact rfl; exact rfl) | (apply q_sgeq; exact rfl; exact rfl; exact rfl) | (apply q_g; exact rfl; exact rfl; exact rfl; exact (by assumption)) | (apply q_s; exact rfl; exact rfl; exact rfl; exact (by assumption); exact rfl) | (apply q_g; exact rfl; exact rfl; exact rfl; exact rfl) | (apply q_s; exact rfl; exact rfl; exact rfl; exact rfl; exact rfl) | (apply q_sU; exact rfl; exact rfl; exact rfl; exact rfl))
    | (show SQ _ _ _ _ _ _ _ _; apply q_gs; exact rfl; exact rfl; exact rfl; exact rfl; all_goals intro h)
    | (show AW _ _ _ _ _ _ _ _; first | refine aw_region ?_ | (refine aw_seqk ?_; intro K hK) | refine aw_block ?_ | (apply aw_cond_t; exact rfl; exact rfl) | (apply aw_cond_f; exact rfl; exact rfl) | (apply aw_cond_t; exact rfl; exact (by assumption)) | (apply aw_cond_f; exact rfl; exact (by assumption)) | refine aw_ret ?_ | refine aw_exit ?_ | refine aw_skip ?_ | (apply aw_ite; exact rfl; all_goals intro h))
    | refine thn_n ?_
    | (refine hK _ _ _ ?_; clear hK K)
    | refine thn_e ?_
    | refine thn_r ?_
    | refine inb_same ?_
    | refine inb_ne rfl ?_
    | refine inb_n ?_
    | refine inb_r ?_
    | (clear hK K; refine hK _ _ _ ?_; clear hK K)
    | (clear hK K; clear hK K; refine hK _ _ _ ?_; clear hK K)
    | (clear hK K; clear hK K; clear hK K; refine hK _ _ _ ?_; clear hK K))); all_goals (repeat (clear hK K)))
  all_goals refine fin_r (fin_b rfl ?_)
  all_goals simp_all [inB]
  all_goals (intros; omega)
set_option maxHeartbeats 4000000 in
theorem l13Outage_ro (n : Int) (k : Nat) : RO Try.prog 54 [.v (.int .i64 n)] k (.v (.bool (inB n 0 1000000))) [] k := by
  refine RO.ofv' Try.func54 Try.ntmps54 rfl (goFn_of Try.func54 rfl (by kernel_rfl)) rfl rfl ?_
  ((repeat' (first
    | (show SQ _ _ _ _ _ _ _ _; first | apply sq_nil | (apply q_move; exact rfl; exact rfl) | (apply q_assign; exact rfl; exact rfl))
    | (show SQ _ _ _ _ _ _ _ _; (first | (apply q_callU; exact rfl; exact rfl; exact rfl; exact FzL.of rfl; exact l00In_ro _ _ _ _)); (try simp only [put, rowsOf, plR, List.all_cons, selE, ovr, setH, del, cellsA, splice, isV, List.nil_append, List.cons_append, List.map_cons, List.map_nil, List.length_cons, List.length_nil, List.set_cons_zero, List.set_cons_succ, List.take_succ_cons, List.take_zero, List.take_nil, List.drop_succ_cons, List.drop_zero, List.drop_nil, List.append_nil, List.all_cons, List.all_nil, Bool.and_true, Bool.true_and, Bool.and_false, Bool.false_and, Nat.reduceAdd, Nat.zero_add, Nat.add_zero, Nat.reduceEqDiff, if_true, if_false, reduceIte]))
    | (show AW _ _ _ _ _ _ _ _; first | refine aw_region ?_ | (refine aw_seqk ?_; intro K hK) | refine aw_block ?_ | (apply aw_cond_t; exact rfl; exact rfl) | (apply aw_cond_f; exact rfl; exact rfl) | (apply aw_cond_t; exact rfl; exact (by assumption)) | (apply aw_cond_f; exact rfl; exact (by assumption)) | refine aw_ret ?_ | refine aw_exit ?_ | refine aw_skip ?_ | (apply aw_ite; exact rfl; all_goals intro h))
    | refine thn_n ?_
    | (refine hK _ _ _ ?_; clear hK K)
    | refine thn_e ?_
    | refine thn_r ?_
    | refine inb_same ?_
    | refine inb_ne rfl ?_
    | refine inb_n ?_
    | refine inb_r ?_
    | (clear hK K; refine hK _ _ _ ?_; clear hK K)
    | (clear hK K; clear hK K; refine hK _ _ _ ?_; clear hK K)
    | (clear hK K; clear hK K; clear hK K; refine hK _ _ _ ?_; clear hK K))); all_goals (repeat (clear hK K)))
  all_goals exact fin_r (fin_b rfl rfl)
set_option maxHeartbeats 4000000 in
theorem isNaN_ro (n : Int) (k : Nat) : RO Try.prog 55 [.v (.int .i64 n)] k (.v (.bool false)) [] k := by
  refine RO.ofv' Try.func55 Try.ntmps55 rfl (goFn_of Try.func55 rfl (by kernel_rfl)) rfl rfl ?_
  ((repeat' (first
    | (show SQ _ _ _ _ _ _ _ _; first | apply sq_nil | (apply q_move; exact rfl; exact rfl) | (apply q_assign; exact rfl; exact rfl) | (apply q_neq; exact rfl; exact rfl; exact rfl) | (apply q_sneq; exact rfl; exact rfl; exact rfl) | (apply q_bneq; exact rfl; exact rfl; exact rfl; exact (ty rfl); exact rfl) | (apply q_nea; exact rfl; exact rfl; exact rfl; kernel_rfl; assumption; exact rfl; exact rfl) | (apply q_nil_nv; exact rfl; exact rfl; exact rfl; exact (ty rfl); exact rfl) | (apply q_nil_nl; exact rfl; exact rfl; exact rfl; exact (ty rfl); exact rfl; exact (by first | omega | (simp <;> omega))))
    | (show AW _ _ _ _ _ _ _ _; first | refine aw_region ?_ | (refine aw_seqk ?_; intro K hK) | refine aw_block ?_ | (apply aw_cond_t; exact rfl; exact rfl) | (apply aw_cond_f; exact rfl; exact rfl) | (apply aw_cond_t; exact rfl; exact (by assumption)) | (apply aw_cond_f; exact rfl; exact (by assumption)) | refine aw_ret ?_ | refine aw_exit ?_ | refine aw_skip ?_ | (apply aw_ite; exact rfl; all_goals intro h))
    | refine thn_n ?_
    | (refine hK _ _ _ ?_; clear hK K)
    | refine thn_e ?_
    | refine thn_r ?_
    | refine inb_same ?_
    | refine inb_ne rfl ?_
    | refine inb_n ?_
    | refine inb_r ?_
    | (clear hK K; refine hK _ _ _ ?_; clear hK K)
    | (clear hK K; clear hK K; refine hK _ _ _ ?_; clear hK K)
    | (clear hK K; clear hK K; clear hK K; refine hK _ _ _ ?_; clear hK K))); all_goals (repeat (clear hK K)))
  all_goals refine fin_r (fin_b rfl ?_)
  all_goals simp
set_option maxHeartbeats 4000000 in
theorem Compare_ro (x y : Int) (k : Nat) : RO Try.prog 39 [.v (.int .i64 x), .v (.int .i64 y)] k (.v (.int .i64 (i64c x y))) [] k := by
  refine RO.ofv' Try.func39 Try.ntmps39 rfl (goFn_of Try.func39 rfl (by kernel_rfl)) rfl rfl ?_
  ((repeat' (first
    | (show SQ _ _ _ _ _ _ _ _; first | apply sq_nil | (apply q_move; exact rfl; exact rfl) | (apply q_assign; exact rfl; exact rfl) | (apply q_lss; exact rfl; exact rfl; exact rfl) | (apply q_gtr; exact rfl; exact rfl; exact rfl) | (apply q_slss; exact rfl; exact rfl; exact rfl) | (apply q_sgtr; exact rfl; exact rfl; exact rfl))
    | (show SQ _ _ _ _ _ _ _ _; (first | (apply q_callU; exact rfl; exact rfl; exact rfl; exact FzL.of rfl; exact isNaN_ro _ _)); (try simp only [put, rowsOf, plR, List.all_cons, selE, ovr, setH, del, cellsA, splice, isV, List.nil_append, List.cons_append, List.map_cons, List.map_nil, List.length_cons, List.length_nil, List.set_cons_zero, List.set_cons_succ, List.take_succ_cons, List.take_zero, List.take_nil, List.drop_succ_cons, List.drop_zero, List.drop_nil, List.append_nil, List.all_cons, List.all_nil, Bool.and_true, Bool.true_and, Bool.and_false, Bool.false_and, Nat.reduceAdd, Nat.zero_add, Nat.add_zero, Nat.reduceEqDiff, if_true, if_false, reduceIte]))
    | (show AW _ _ _ _ _ _ _ _; first | refine aw_region ?_ | (refine aw_seqk ?_; intro K hK) | refine aw_block ?_ | (apply aw_cond_t; exact rfl; exact rfl) | (apply aw_cond_f; exact rfl; exact rfl) | (apply aw_cond_t; exact rfl; exact (by assumption)) | (apply aw_cond_f; exact rfl; exact (by assumption)) | refine aw_ret ?_ | refine aw_exit ?_ | refine aw_skip ?_ | (apply aw_ite; exact rfl; all_goals intro h))
    | refine thn_n ?_
    | (refine hK _ _ _ ?_; clear hK K)
    | refine thn_e ?_
    | refine thn_r ?_
    | refine inb_same ?_
    | refine inb_ne rfl ?_
    | refine inb_n ?_
    | refine inb_r ?_
    | (clear hK K; refine hK _ _ _ ?_; clear hK K)
    | (clear hK K; clear hK K; refine hK _ _ _ ?_; clear hK K)
    | (clear hK K; clear hK K; clear hK K; refine hK _ _ _ ?_; clear hK K))); all_goals (repeat (clear hK K)))
  all_goals refine fin_r (fin_i rfl ?_)
  all_goals simp_all [i64c]
  all_goals (intros; omega)
set_option maxHeartbeats 4000000 in
theorem Or_ro (x y : Int) (k : Nat) : RO Try.prog 38 [.dsl 1 [[.v (.int .i64 x)], [.v (.int .i64 y)]]] k (.v (.int .i64 (if x = 0 then y else x))) [] k := by
  refine RO.ofv' Try.func38 Try.ntmps38 rfl (goFn_of Try.func38 rfl (by kernel_rfl)) rfl rfl ?_
  ((repeat' (first
    | (show SQ _ _ _ _ _ _ _ _; first | apply sq_nil | (apply q_move; exact rfl; exact rfl) | (apply q_assign; exact rfl; exact rfl) | (apply q_lens; exact rfl; exact rfl; exact (ty rfl); exact rfl) | (apply q_lend; exact rfl; exact rfl; exact (ty rfl); exact rfl) | (apply q_lenl; exact rfl; exact rfl; exact (ty rfl); exact rfl) | (apply q_lenn; exact rfl; exact rfl; exact (ty rfl); exact rfl) | (apply q_add; exact rfl; exact rfl; exact rfl) | (apply q_neq; exact rfl; exact rfl; exact rfl) | (apply q_lss; exact rfl; exact rfl; exact rfl) | (apply q_sneq; exact rfl; exact rfl; exact rfl) | (apply q_slss; exact rfl; exact rfl; exact rfl) | (apply q_cat; exact rfl; exact rfl; exact rfl; exact (by first | omega | (simp <;> omega))) | (apply q_bneq; exact rfl; exact rfl; exact rfl; exact (ty rfl); exact rfl) | (apply q_ixd; exact rfl; exact rfl; exact rfl; exact (ty rfl); exact rfl; exact (by first | omega | (simp <;> omega)); exact (by first | omega | (simp <;> omega)); exact (by first | rfl | assumption)) | (apply q_ixa; exact rfl; exact rfl; exact rfl; exact (ty rfl); exact rfl; exact (by first | omega | (simp <;> omega)); exact (by first | omega | (simp <;> omega)); exact rfl) | (apply q_ixl; exact rfl; exact rfl; exact rfl; exact (ty rfl); exact rfl; exact rfl; exact rfl; exact (by first | omega | (simp <;> omega)); exact (by first | omega | (simp <;> omega))) | (apply q_ld1d; exact rfl; exact rfl; exact (ty rfl); exact rfl; exact rfl) | (apply q_ld1p; exact rfl; exact rfl; exact (ty rfl); exact rfl; exact rfl; exact (by first | rfl | assumption); exact rfl) | (apply q_nea; exact rfl; exact rfl; exact rfl; kernel_rfl; assumption; exact rfl; exact rfl) | (apply q_nil_nv; exact rfl; exact rfl; exact rfl; exact (ty rfl); exact rfl) | (apply q_nil_nl; exact rfl; exact rfl; exact rfl; exact (ty rfl); exact rfl; exact (by first | omega | (simp <;> omega))))
    | (show SQ _ _ _ _ _ _ _ _; (first | (apply q_ldad; exact rfl; exact rfl; exact (ty rfl); exact rfl; exact rfl) | (apply q_ldap; exact rfl; exact rfl; exact (ty rfl); exact rfl; exact rfl; exact (by first | rfl | assumption); exact rfl)); (try simp only [put, rowsOf, plR, List.all_cons, selE, ovr, setH, del, cellsA, splice, isV, List.nil_append, List.cons_append, List.map_cons, List.map_nil, List.length_cons, List.length_nil, List.set_cons_zero, List.set_cons_succ, List.take_succ_cons, List.take_zero, List.take_nil, List.drop_succ_cons, List.drop_zero, List.drop_nil, List.append_nil, List.all_cons, List.all_nil, Bool.and_true, Bool.true_and, Bool.and_false, Bool.false_and, Nat.reduceAdd, Nat.zero_add, Nat.add_zero, Nat.reduceEqDiff, if_true, if_false, reduceIte]))
    | (show AW _ _ _ _ _ _ _ _; first | refine aw_region ?_ | (refine aw_seqk ?_; intro K hK) | refine aw_block ?_ | (apply aw_cond_t; exact rfl; exact rfl) | (apply aw_cond_f; exact rfl; exact rfl) | (apply aw_cond_t; exact rfl; exact (by assumption)) | (apply aw_cond_f; exact rfl; exact (by assumption)) | refine aw_ret ?_ | refine aw_exit ?_ | refine aw_skip ?_ | (apply aw_ite; exact rfl; all_goals intro h))
    | refine thn_n ?_
    | (refine hK _ _ _ ?_; clear hK K)
    | refine thn_e ?_
    | refine thn_r ?_
    | refine inb_same ?_
    | refine inb_ne rfl ?_
    | refine inb_n ?_
    | refine inb_r ?_
    | (clear hK K; refine hK _ _ _ ?_; clear hK K)
    | (clear hK K; clear hK K; refine hK _ _ _ ?_; clear hK K)
    | (clear hK K; clear hK K; clear hK K; refine hK _ _ _ ?_; clear hK K))); all_goals (repeat (clear hK K)))
  refine aw_loop (ρ := id) (ι := Nat) (fun i => ([(8, .v (.int .i64 i)), (7, .v (.int .i64 2)), (6, .dsl 1 [[.v (.int .i64 x)], [.v (.int .i64 y)]]), (3, .v (.int .i64 0))], [], 0))
    (fun i => i ≤ 2 ∧ (0 < i → x = 0) ∧ (1 < i → y = 0)) (fun i => 2 - i) 0 (by simp) ⟨by (repeat (refine ⟨by first | exact lk_i rfl rfl | exact lk_i rfl (by (try dsimp only); first | rfl | omega | (rw [IntWalk.i64_in _ (by omega)]; first | rfl | omega | (push_cast; omega)) | (simp; done) | (simp; omega)) | exact lk_d rfl rfl | exact lk_v rfl rfl | exact lk_r rfl rfl rfl | exact lk_s rfl rfl rfl rfl | exact lk_s rfl rfl (by (try dsimp only); first | rfl | omega | (rw [IntWalk.i64_in _ (by omega)]; first | rfl | omega | (push_cast; omega)) | (simp; done) | (simp; omega)) rfl | exact lk_p rfl rfl | exact lk_e rfl | exact lk_f rfl | exact lk_f rfl (renL_id _) (by assumption) | exact lk_v rfl (by (try dsimp only); first | rfl | assumption | (simp; done)) | exact lk_d rfl (by (try dsimp only); first | rfl | assumption | (simp; done)), ?_⟩)); exact trivial, by (repeat (refine ⟨by first | exact ⟨rfl, rfl, rfl⟩ | exact lkb rfl rfl rfl rfl rfl | exact lkb rfl rfl rfl (by (try dsimp only); first | rfl | assumption | (simp; done)) rfl | exact lkn rfl rfl (by rfl) (by rfl) rfl, ?_⟩)); exact trivial, by rfl, by first | exact pin_0 | (intro i hi; (try dsimp only); refine ⟨?_, ?_⟩ <;> first | rfl | omega | (simp; omega))⟩ ?_
  rintro i ⟨hi, h0, h1⟩
  match i, hi with
  | 0, _ =>
    have b2 : decide (((0 : Nat) : Int) < 2) = true := by simp
    ((repeat' (first
    | (show SQ _ _ _ _ _ _ _ _; first | apply sq_nil | (apply q_move; exact rfl; exact rfl) | (apply q_assign; exact rfl; exact rfl) | (apply q_lens; exact rfl; exact rfl; exact (ty rfl); exact rfl) | (apply q_lend; exact rfl; exact rfl; exact (ty rfl); exact rfl) | (apply q_lenl; exact rfl; exact rfl; exact (ty rfl); exact rfl) | (apply q_lenn; exact rfl; exact rfl; exact (ty rfl); exact rfl) | (apply q_add; exact rfl; exact rfl; exact rfl) | (apply q_neq; exact rfl; exact rfl; exact rfl) | (apply q_lss; exact rfl; exact rfl; exact rfl) | (apply q_sneq; exact rfl; exact rfl; exact rfl) | (apply q_slss; exact rfl; exact rfl; exact rfl) | (apply q_cat; exact rfl; exact rfl; exact rfl; exact (by first | omega | (simp <;> omega))) | (apply q_bneq; exact rfl; exact rfl; exact rfl; exact (ty rfl); exact rfl) | (apply q_ixd; exact rfl; exact rfl; exact rfl; exact (ty rfl); exact rfl; exact (by first | omega | (simp <;> omega)); exact (by first | omega | (simp <;> omega)); exact (by first | rfl | assumption)) | (apply q_ixa; exact rfl; exact rfl; exact rfl; exact (ty rfl); exact rfl; exact (by first | omega | (simp <;> omega)); exact (by first | omega | (simp <;> omega)); exact rfl) | (apply q_ixl; exact rfl; exact rfl; exact rfl; exact (ty rfl); exact rfl; exact rfl; exact rfl; exact (by first | omega | (simp <;> omega)); exact (by first | omega | (simp <;> omega))) | (apply q_ld1d; exact rfl; exact rfl; exact (ty rfl); exact rfl; exact rfl) | (apply q_ld1p; exact rfl; exact rfl; exact (ty rfl); exact rfl; exact rfl; exact (by first | rfl | assumption); exact rfl) | (apply q_nea; exact rfl; exact rfl; exact rfl; kernel_rfl; assumption; exact rfl; exact rfl) | (apply q_nil_nv; exact rfl; exact rfl; exact rfl; exact (ty rfl); exact rfl) | (apply q_nil_nl; exact rfl; exact rfl; exact rfl; exact (ty rfl); exact rfl; exact (by first | omega | (simp <;> omega))))
    | (show SQ _ _ _ _ _ _ _ _; (first | (apply q_ldad; exact rfl; exact rfl; exact (ty rfl); exact rfl; exact rfl) | (apply q_ldap; exact rfl; exact rfl; exact (ty rfl); exact rfl; exact rfl; exact (by first | rfl | assumption); exact rfl)); (try simp only [put, rowsOf, plR, List.all_cons, selE, ovr, setH, del, cellsA, splice, isV, List.nil_append, List.cons_append, List.map_cons, List.map_nil, List.length_cons, List.length_nil, List.set_cons_zero, List.set_cons_succ, List.take_succ_cons, List.take_zero, List.take_nil, List.drop_succ_cons, List.drop_zero, List.drop_nil, List.append_nil, List.all_cons, List.all_nil, Bool.and_true, Bool.true_and, Bool.and_false, Bool.false_and, Nat.reduceAdd, Nat.zero_add, Nat.add_zero, Nat.reduceEqDiff, if_true, if_false, reduceIte]))
    | (show AW _ _ _ _ _ _ _ _; first | refine aw_region ?_ | (refine aw_seqk ?_; intro K hK) | refine aw_block ?_ | (apply aw_cond_t; exact rfl; exact rfl) | (apply aw_cond_f; exact rfl; exact rfl) | (apply aw_cond_t; exact rfl; exact (by assumption)) | (apply aw_cond_f; exact rfl; exact (by assumption)) | refine aw_ret ?_ | refine aw_exit ?_ | refine aw_skip ?_ | (apply aw_ite; exact rfl; all_goals intro h))
    | refine thn_n ?_
    | (refine hK _ _ _ ?_; clear hK K)
    | refine thn_e ?_
    | refine thn_r ?_
    | refine inb_same ?_
    | refine inb_ne rfl ?_
    | refine inb_n ?_
    | refine inb_r ?_
    | (clear hK K; refine hK _ _ _ ?_; clear hK K)
    | (clear hK K; clear hK K; refine hK _ _ _ ?_; clear hK K)
    | (clear hK K; clear hK K; clear hK K; refine hK _ _ _ ?_; clear hK K))); all_goals (repeat (clear hK K)))
    all_goals first
      | (refine fin_r (fin_i rfl ?_); simp_all; done)
      | (refine ⟨1, id, ⟨by omega, by simp_all, by simp⟩, by omega, ⟨by (repeat (refine ⟨by first | exact lk_i rfl rfl | exact lk_i rfl (by (try dsimp only); first | rfl | omega | (rw [IntWalk.i64_in _ (by omega)]; first | rfl | omega | (push_cast; omega)) | (simp; done) | (simp; omega)) | exact lk_d rfl rfl | exact lk_v rfl rfl | exact lk_r rfl rfl rfl | exact lk_s rfl rfl rfl rfl | exact lk_s rfl rfl (by (try dsimp only); first | rfl | omega | (rw [IntWalk.i64_in _ (by omega)]; first | rfl | omega | (push_cast; omega)) | (simp; done) | (simp; omega)) rfl | exact lk_p rfl rfl | exact lk_e rfl | exact lk_f rfl | exact lk_f rfl (renL_id _) (by assumption) | exact lk_v rfl (by (try dsimp only); first | rfl | assumption | (simp; done)) | exact lk_d rfl (by (try dsimp only); first | rfl | assumption | (simp; done)), ?_⟩)); exact trivial, by (repeat (refine ⟨by first | exact ⟨rfl, rfl, rfl⟩ | exact lkb rfl rfl rfl rfl rfl | exact lkb rfl rfl rfl (by (try dsimp only); first | rfl | assumption | (simp; done)) rfl | exact lkn rfl rfl (by rfl) (by rfl) rfl, ?_⟩)); exact trivial, by rfl, by first | exact pin_0 | (intro i hi; (try dsimp only); refine ⟨?_, ?_⟩ <;> first | rfl | omega | (simp; omega))⟩⟩)
  | 1, _ =>
    have b2 : decide (((1 : Nat) : Int) < 2) = true := by simp
    have h0 := h0 (by omega)
    ((repeat' (first
    | (show SQ _ _ _ _ _ _ _ _; first | apply sq_nil | (apply q_move; exact rfl; exact rfl) | (apply q_assign; exact rfl; exact rfl) | (apply q_lens; exact rfl; exact rfl; exact (ty rfl); exact rfl) | (apply q_lend; exact rfl; exact rfl; exact (ty rfl); exact rfl) | (apply q_lenl; exact rfl; exact rfl; exact (ty rfl); exact rfl) | (apply q_lenn; exact rfl; exact rfl; exact (ty rfl); exact rfl) | (apply q_add; exact rfl; exact rfl; exact rfl) | (apply q_neq; exact rfl; exact rfl; exact rfl) | (apply q_lss; exact rfl; exact rfl; exact rfl) | (apply q_sneq; exact rfl; exact rfl; exact rfl) | (apply q_slss; exact rfl; exact rfl; exact rfl) | (apply q_cat; exact rfl; exact rfl; exact rfl; exact (by first | omega | (simp <;> omega))) | (apply q_bneq; exact rfl; exact rfl; exact rfl; exact (ty rfl); exact rfl) | (apply q_ixd; exact rfl; exact rfl; exact rfl; exact (ty rfl); exact rfl; exact (by first | omega | (simp <;> omega)); exact (by first | omega | (simp <;> omega)); exact (by first | rfl | assumption)) | (apply q_ixa; exact rfl; exact rfl; exact rfl; exact (ty rfl); exact rfl; exact (by first | omega | (simp <;> omega)); exact (by first | omega | (simp <;> omega)); exact rfl) | (apply q_ixl; exact rfl; exact rfl; exact rfl; exact (ty rfl); exact rfl; exact rfl; exact rfl; exact (by first | omega | (simp <;> omega)); exact (by first | omega | (simp <;> omega))) | (apply q_ld1d; exact rfl; exact rfl; exact (ty rfl); exact rfl; exact rfl) | (apply q_ld1p; exact rfl; exact rfl; exact (ty rfl); exact rfl; exact rfl; exact (by first | rfl | assumption); exact rfl) | (apply q_nea; exact rfl; exact rfl; exact rfl; kernel_rfl; assumption; exact rfl; exact rfl) | (apply q_nil_nv; exact rfl; exact rfl; exact rfl; exact (ty rfl); exact rfl) | (apply q_nil_nl; exact rfl; exact rfl; exact rfl; exact (ty rfl); exact rfl; exact (by first | omega | (simp <;> omega))))
    | (show SQ _ _ _ _ _ _ _ _; (first | (apply q_ldad; exact rfl; exact rfl; exact (ty rfl); exact rfl; exact rfl) | (apply q_ldap; exact rfl; exact rfl; exact (ty rfl); exact rfl; exact rfl; exact (by first | rfl | assumption); exact rfl)); (try simp only [put, rowsOf, plR, List.all_cons, selE, ovr, setH, del, cellsA, splice, isV, List.nil_append, List.cons_append, List.map_cons, List.map_nil, List.length_cons, List.length_nil, List.set_cons_zero, List.set_cons_succ, List.take_succ_cons, List.take_zero, List.take_nil, List.drop_succ_cons, List.drop_zero, List.drop_nil, List.append_nil, List.all_cons, List.all_nil, Bool.and_true, Bool.true_and, Bool.and_false, Bool.false_and, Nat.reduceAdd, Nat.zero_add, Nat.add_zero, Nat.reduceEqDiff, if_true, if_false, reduceIte]))
    | (show AW _ _ _ _ _ _ _ _; first | refine aw_region ?_ | (refine aw_seqk ?_; intro K hK) | refine aw_block ?_ | (apply aw_cond_t; exact rfl; exact rfl) | (apply aw_cond_f; exact rfl; exact rfl) | (apply aw_cond_t; exact rfl; exact (by assumption)) | (apply aw_cond_f; exact rfl; exact (by assumption)) | refine aw_ret ?_ | refine aw_exit ?_ | refine aw_skip ?_ | (apply aw_ite; exact rfl; all_goals intro h))
    | refine thn_n ?_
    | (refine hK _ _ _ ?_; clear hK K)
    | refine thn_e ?_
    | refine thn_r ?_
    | refine inb_same ?_
    | refine inb_ne rfl ?_
    | refine inb_n ?_
    | refine inb_r ?_
    | (clear hK K; refine hK _ _ _ ?_; clear hK K)
    | (clear hK K; clear hK K; refine hK _ _ _ ?_; clear hK K)
    | (clear hK K; clear hK K; clear hK K; refine hK _ _ _ ?_; clear hK K))); all_goals (repeat (clear hK K)))
    all_goals first
      | (refine fin_r (fin_i rfl ?_); simp_all; done)
      | (refine ⟨2, id, ⟨by omega, by simp_all, by simp_all⟩, by omega, ⟨by (repeat (refine ⟨by first | exact lk_i rfl rfl | exact lk_i rfl (by (try dsimp only); first | rfl | omega | (rw [IntWalk.i64_in _ (by omega)]; first | rfl | omega | (push_cast; omega)) | (simp; done) | (simp; omega)) | exact lk_d rfl rfl | exact lk_v rfl rfl | exact lk_r rfl rfl rfl | exact lk_s rfl rfl rfl rfl | exact lk_s rfl rfl (by (try dsimp only); first | rfl | omega | (rw [IntWalk.i64_in _ (by omega)]; first | rfl | omega | (push_cast; omega)) | (simp; done) | (simp; omega)) rfl | exact lk_p rfl rfl | exact lk_e rfl | exact lk_f rfl | exact lk_f rfl (renL_id _) (by assumption) | exact lk_v rfl (by (try dsimp only); first | rfl | assumption | (simp; done)) | exact lk_d rfl (by (try dsimp only); first | rfl | assumption | (simp; done)), ?_⟩)); exact trivial, by (repeat (refine ⟨by first | exact ⟨rfl, rfl, rfl⟩ | exact lkb rfl rfl rfl rfl rfl | exact lkb rfl rfl rfl (by (try dsimp only); first | rfl | assumption | (simp; done)) rfl | exact lkn rfl rfl (by rfl) (by rfl) rfl, ?_⟩)); exact trivial, by rfl, by first | exact pin_0 | (intro i hi; (try dsimp only); refine ⟨?_, ?_⟩ <;> first | rfl | omega | (simp; omega))⟩⟩)
  | 2, _ =>
    have b2 : decide (((2 : Nat) : Int) < 2) = false := by simp
    ((repeat' (first
    | (show SQ _ _ _ _ _ _ _ _; first | apply sq_nil | (apply q_move; exact rfl; exact rfl) | (apply q_assign; exact rfl; exact rfl) | (apply q_lens; exact rfl; exact rfl; exact (ty rfl); exact rfl) | (apply q_lend; exact rfl; exact rfl; exact (ty rfl); exact rfl) | (apply q_lenl; exact rfl; exact rfl; exact (ty rfl); exact rfl) | (apply q_lenn; exact rfl; exact rfl; exact (ty rfl); exact rfl) | (apply q_add; exact rfl; exact rfl; exact rfl) | (apply q_neq; exact rfl; exact rfl; exact rfl) | (apply q_lss; exact rfl; exact rfl; exact rfl) | (apply q_sneq; exact rfl; exact rfl; exact rfl) | (apply q_slss; exact rfl; exact rfl; exact rfl) | (apply q_cat; exact rfl; exact rfl; exact rfl; exact (by first | omega | (simp <;> omega))) | (apply q_bneq; exact rfl; exact rfl; exact rfl; exact (ty rfl); exact rfl) | (apply q_ixd; exact rfl; exact rfl; exact rfl; exact (ty rfl); exact rfl; exact (by first | omega | (simp <;> omega)); exact (by first | omega | (simp <;> omega)); exact (by first | rfl | assumption)) | (apply q_ixa; exact rfl; exact rfl; exact rfl; exact (ty rfl); exact rfl; exact (by first | omega | (simp <;> omega)); exact (by first | omega | (simp <;> omega)); exact rfl) | (apply q_ixl; exact rfl; exact rfl; exact rfl; exact (ty rfl); exact rfl; exact rfl; exact rfl; exact (by first | omega | (simp <;> omega)); exact (by first | omega | (simp <;> omega))) | (apply q_ld1d; exact rfl; exact rfl; exact (ty rfl); exact rfl; exact rfl) | (apply q_ld1p; exact rfl; exact rfl; exact (ty rfl); exact rfl; exact rfl; exact (by first | rfl | assumption); exact rfl) | (apply q_nea; exact rfl; exact rfl; exact rfl; kernel_rfl; assumption; exact rfl; exact rfl) | (apply q_nil_nv; exact rfl; exact rfl; exact rfl; exact (ty rfl); exact rfl) | (apply q_nil_nl; exact rfl; exact rfl; exact rfl; exact (ty rfl); exact rfl; exact (by first | omega | (simp <;> omega))))
    | (show SQ _ _ _ _ _ _ _ _; (first | (apply q_ldad; exact rfl; exact rfl; exact (ty rfl); exact rfl; exact rfl) | (apply q_ldap; exact rfl; exact rfl; exact (ty rfl); exact rfl; exact rfl; exact (by first | rfl | assumption); exact rfl)); (try simp only [put, rowsOf, plR, List.all_cons, selE, ovr, setH, del, cellsA, splice, isV, List.nil_append, List.cons_append, List.map_cons, List.map_nil, List.length_cons, List.length_nil, List.set_cons_zero, List.set_cons_succ, List.take_succ_cons, List.take_zero, List.take_nil, List.drop_succ_cons, List.drop_zero, List.drop_nil, List.append_nil, List.all_cons, List.all_nil, Bool.and_true, Bool.true_and, Bool.and_false, Bool.false_and, Nat.reduceAdd, Nat.zero_add, Nat.add_zero, Nat.reduceEqDiff, if_true, if_false, reduceIte]))
    | (show AW _ _ _ _ _ _ _ _; first | refine aw_region ?_ | (refine aw_seqk ?_; intro K hK) | refine aw_block ?_ | (apply aw_cond_t; exact rfl; exact rfl) | (apply aw_cond_f; exact rfl; exact rfl) | (apply aw_cond_t; exact rfl; exact (by assumption)) | (apply aw_cond_f; exact rfl; exact (by assumption)) | refine aw_ret ?_ | refine aw_exit ?_ | refine aw_skip ?_ | (apply aw_ite; exact rfl; all_goals intro h))
    | refine thn_n ?_
    | (refine hK _ _ _ ?_; clear hK K)
    | refine thn_e ?_
    | refine thn_r ?_
    | refine inb_same ?_
    | refine inb_ne rfl ?_
    | refine inb_n ?_
    | refine inb_r ?_
    | (clear hK K; refine hK _ _ _ ?_; clear hK K)
    | (clear hK K; clear hK K; refine hK _ _ _ ?_; clear hK K)
    | (clear hK K; clear hK K; clear hK K; refine hK _ _ _ ?_; clear hK K))); all_goals (repeat (clear hK K)))
    all_goals refine fin_r (fin_i rfl ?_)
    simp_all
end Go.Proofs.Ytgjgklkboldkfaa.Bk
