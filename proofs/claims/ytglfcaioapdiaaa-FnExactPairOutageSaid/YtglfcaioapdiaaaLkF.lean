/-
  Links of a route: both functions.
-/
import Derived.Test.YtglfcaioapdiaaaLkD
namespace Go.Proofs.Ytglfcaioapdiaaa.Bk
open Go Go.RowKit Go.Proofs.Ytglfcaioapdiaaa.Aw
set_option linter.unusedSimpArgs false
set_option linter.unusedVariables false
attribute [local irreducible] AW SQ Step RO RC DE Thn InB

theorem bkB_n {n : Int} {ls : List Ln} (h : bkB n ls = true) : 1 ≤ n ∧ n ≤ 12 := by
  simp only [bkB, Bool.and_eq_true, inB, decide_eq_true_eq] at h
  exact h.1.1
set_option maxHeartbeats 4000000 in
theorem implLinks_bad_ro (n : Int) (ls : List Ln) (rd : List Int) (hn : ls.length ≤ 1048576) (h : bkB n ls = false) (k : Nat) : RO Try.prog 34 [.agg (bkL n ls), .dsl 1 (rd.map inL)] k (.tup [.v (.slice none 0 0), .v (.int .i64 1)]) [] k := by
  have b1 : (!bkB n ls) = true := by rw [h]; rfl
  refine RO.ofp Try.func34 Try.ntmps34 rfl (goFn_of Try.func34 rfl (by kernel_rfl)) rfl rfl rfl ?_
  unfold bkL
  ((repeat' (first
    | (show SQ _ _ _ _ _ _ _ _; first | apply sq_nil | (apply q_assign; exact rfl; exact rfl) | (apply q_not; exact rfl; exact rfl))
    | (show SQ _ _ _ _ _ _ _ _; (first | (apply q_ldap; exact rfl; exact rfl; exact (ty rfl); exact rfl; exact rfl; exact (by first | rfl | assumption | ((try simp only [Nat.zero_add]); refine List.getElem?_set_self ?_; (try simp only [List.length_set]); assumption)); exact rfl) | (apply q_box; exact rfl; exact rfl; exact rfl) | (apply q_callU; exact rfl; exact rfl; exact rfl; exact FzL.of rfl; exact ValidBackhaul_ro n ls hn _)); (try simp only [put, rowsOf, plR, List.all_cons, selE, ovr, setH, del, cellsA, splice, isV, List.nil_append, List.cons_append, List.map_cons, List.map_nil, List.length_cons, List.length_nil, List.set_cons_zero, List.set_cons_succ, List.take_succ_cons, List.take_zero, List.take_nil, List.drop_succ_cons, List.drop_zero, List.drop_nil, List.append_nil, List.all_cons, List.all_nil, Bool.and_true, Bool.true_and, Bool.and_false, Bool.false_and, Nat.reduceAdd, Nat.zero_add, Nat.add_zero, Nat.reduceEqDiff, if_true, if_false, reduceIte]))
    | (show AW _ _ _ _ _ _ _ _; first | refine aw_region ?_ | (refine aw_seqk ?_; intro K hK) | (apply aw_cond_t; exact rfl; exact (by assumption)) | refine aw_ret ?_)
    | refine thn_n ?_
    | (refine hK _ _ _ ?_; clear hK K)
    | refine thn_r ?_)); all_goals (repeat (clear hK K)))
  all_goals refine fin_r (fin_p (.r2 _ _ _ _ (.tmp _ _ rfl) (.tmp _ _ rfl)) ?_ rfl rfl rfl)
  all_goals rfl
set_option maxHeartbeats 4000000 in
theorem implLinks_st_ro (n : Int) (ls : List Ln) (rd : List Int) (hn : ls.length ≤ 1048576) (hr : rd.length ≤ 1048576) (h : bkB n ls = true) (h2 : rtB n ls rd = false) (k : Nat) : RO Try.prog 34 [.agg (bkL n ls), .dsl 1 (rd.map inL)] k (.tup [.v (.slice none 0 0), .v (.int .i64 6)]) [] k := by
  have b1 : (!bkB n ls) = false := by rw [h]; rfl
  refine RO.ofp Try.func34 Try.ntmps34 rfl (goFn_of Try.func34 rfl (by kernel_rfl)) rfl rfl rfl ?_
  unfold bkL
  ((repeat' (first
    | (show SQ _ _ _ _ _ _ _ _; first | apply sq_nil | (apply q_move; exact rfl; exact rfl) | (apply q_assign; exact rfl; exact rfl) | (apply q_not; exact rfl; exact rfl) | (apply q_ext; exact rfl; exact rfl; exact rfl))
    | (show SQ _ _ _ _ _ _ _ _; (first | (apply q_ldap; exact rfl; exact rfl; exact (ty rfl); exact rfl; exact rfl; exact (by first | rfl | assumption | ((try simp only [Nat.zero_add]); refine List.getElem?_set_self ?_; (try simp only [List.length_set]); assumption)); exact rfl) | (apply q_box; exact rfl; exact rfl; exact rfl) | (apply q_callU; exact rfl; exact rfl; exact rfl; exact FzL.of rfl; exact ValidBackhaul_ro n ls hn _) | (apply q_callU; exact rfl; exact rfl; exact rfl; exact FzL.of rfl; exact linksOf_bad_ro n ls rd (bkB_n h) hn hr h2 _)); (try simp only [put, rowsOf, plR, List.all_cons, selE, ovr, setH, del, cellsA, splice, isV, List.nil_append, List.cons_append, List.map_cons, List.map_nil, List.length_cons, List.length_nil, List.set_cons_zero, List.set_cons_succ, List.take_succ_cons, List.take_zero, List.take_nil, List.drop_succ_cons, List.drop_zero, List.drop_nil, List.append_nil, List.all_cons, List.all_nil, Bool.and_true, Bool.true_and, Bool.and_false, Bool.false_and, Nat.reduceAdd, Nat.zero_add, Nat.add_zero, Nat.reduceEqDiff, if_true, if_false, reduceIte]))
    | (show AW _ _ _ _ _ _ _ _; first | refine aw_region ?_ | (refine aw_seqk ?_; intro K hK) | (apply aw_cond_t; exact rfl; exact rfl) | (apply aw_cond_f; exact rfl; exact (by assumption)) | refine aw_ret ?_ | refine aw_skip ?_)
    | refine thn_n ?_
    | (refine hK _ _ _ ?_; clear hK K)
    | refine thn_r ?_)); all_goals (repeat (clear hK K)))
  all_goals refine fin_r (fin_p (.r2 _ _ _ _ (.tmp _ _ rfl) (.tmp _ _ rfl)) ?_ rfl rfl rfl)
  all_goals rfl
set_option maxHeartbeats 4000000 in
theorem implLinks_ok_ro (n : Int) (ls : List Ln) (rd : List Int) (hn : ls.length ≤ 1048576) (hr : rd.length ≤ 1048576) (h : bkB n ls = true) (h2 : rtB n ls rd = true) (k : Nat) :
    RO Try.prog 34 [.agg (bkL n ls), .dsl 1 (rd.map inL)] k (.tup [.sl k 0 (rtI ls rd rd.length).length, .v (.int .i64 0)]) [(k, ⟨2, 1, true, (rtI ls rd rd.length).map inL⟩)] (k + 1) := by
  have b1 : (!bkB n ls) = false := by rw [h]; rfl
  refine RO.ofm (.tup [.sl 0 0 (rtI ls rd rd.length).length, .v (.int .i64 0)]) ([(0, ⟨2, 1, true, (rtI ls rd rd.length).map inL⟩)]) 1 Try.func34 Try.ntmps34 rfl (goFn_of Try.func34 rfl (by kernel_rfl)) rfl rfl (by simp [renA, renL]) (by simp [shH, renB]) rfl ?_
  unfold bkL
  ((repeat' (first
    | (show SQ _ _ _ _ _ _ _ _; first | apply sq_nil | (apply q_move; exact rfl; exact rfl) | (apply q_assign; exact rfl; exact rfl) | (apply q_not; exact rfl; exact rfl) | (apply q_ext; exact rfl; exact rfl; exact rfl))
    | (show SQ _ _ _ _ _ _ _ _; (first | (apply q_ldap; exact rfl; exact rfl; exact (ty rfl); exact rfl; exact rfl; exact (by first | rfl | assumption | ((try simp only [Nat.zero_add]); refine List.getElem?_set_self ?_; (try simp only [List.length_set]); assumption)); exact rfl) | (apply q_box; exact rfl; exact rfl; exact rfl) | (apply q_callU; exact rfl; exact rfl; exact rfl; exact FzL.of rfl; exact ValidBackhaul_ro n ls hn _) | (apply q_callU; exact rfl; exact rfl; exact rfl; exact FzL.of rfl; exact linksOf_ok_ro n ls rd (bkB_n h) hn hr h2 _)); (try simp only [put, rowsOf, plR, List.all_cons, selE, ovr, setH, del, cellsA, splice, isV, List.nil_append, List.cons_append, List.map_cons, List.map_nil, List.length_cons, List.length_nil, List.set_cons_zero, List.set_cons_succ, List.take_succ_cons, List.take_zero, List.take_nil, List.drop_succ_cons, List.drop_zero, List.drop_nil, List.append_nil, List.all_cons, List.all_nil, Bool.and_true, Bool.true_and, Bool.and_false, Bool.false_and, Nat.reduceAdd, Nat.zero_add, Nat.add_zero, Nat.reduceEqDiff, if_true, if_false, reduceIte]))
    | (show AW _ _ _ _ _ _ _ _; first | refine aw_region ?_ | (refine aw_seqk ?_; intro K hK) | (apply aw_cond_f; exact rfl; exact rfl) | (apply aw_cond_f; exact rfl; exact (by assumption)) | refine aw_ret ?_ | refine aw_skip ?_)
    | refine thn_n ?_
    | (refine hK _ _ _ ?_; clear hK K))); all_goals (repeat (clear hK K)))
  all_goals exact fin_r (fin_m2 rfl rfl rfl _ _ rfl rfl rfl)
end Go.Proofs.Ytglfcaioapdiaaa.Bk
