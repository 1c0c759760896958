/-
  A list with a further licence.
-/
import Derived.Test.YtiificaolakgdaaLnD
namespace Go.Proofs.Ytiificaolakgdaa.Li
open Go Go.RowKit Go.Proofs.Ytiificaolakgdaa.Aw Go.Proofs.Ytiificaolakgdaa.Ar
set_option linter.unusedSimpArgs false
set_option linter.unusedVariables false
attribute [local irreducible] AW SQ Step RO RC DE Thn InB

set_option maxHeartbeats 4000000 in
theorem Clone0_ro (k : Nat) : RO Try.prog 44 [.dsl 11 []] k (.sl k 0 0) [(k, ⟨29, 11, true, []⟩)] (k + 1) := by
  have hp : plR ([] : List (List AV)) = true := rfl
  refine RO.ofm (.sl 0 0 0) ([(0, ⟨29, 11, true, []⟩)]) 1 Try.func44 Try.ntmps44 rfl (goFn_of Try.func44 rfl (by kernel_rfl)) rfl rfl (by simp [renA, renL]) (by simp [shH, renB]) rfl ?_
  ((repeat' (first
    | (show SQ _ _ _ _ _ _ _ _; first | apply sq_nil | (apply q_move; exact rfl; exact rfl) | (apply q_assign; exact rfl; exact rfl))
    | (show SQ _ _ _ _ _ _ _ _; (first | (apply q_build0; exact rfl; exact (ty rfl); exact rfl) | (apply q_apo_d; exact rfl; exact rfl; exact rfl; exact (ty rfl); exact rfl; exact rfl; exact (by first | omega | (simp; done) | (simp; omega)); exact (by first | exact List.take_of_length_le (by first | omega | (simp; done) | (simp; omega)) | rfl); exact (ty rfl); exact rfl; exact rfl; exact (by first | omega | (simp; done) | (simp; omega)); exact (by first | omega | (simp; done) | (simp; omega)); exact (by first | assumption | exact rfl))); (try simp only [put, rowsOf, plR, List.all_cons, selE, ovr, setH, del, cellsA, splice, isV, List.nil_append, List.cons_append, List.map_cons, List.map_nil, List.length_cons, List.length_nil, List.set_cons_zero, List.set_cons_succ, List.take_succ_cons, List.take_zero, List.take_nil, List.drop_succ_cons, List.drop_zero, List.drop_nil, List.append_nil, List.all_cons, List.all_nil, Bool.and_true, Bool.true_and, Bool.and_false, Bool.false_and, Nat.reduceAdd, Nat.zero_add, Nat.add_zero, Nat.reduceEqDiff, if_true, if_false, reduceIte]))
    | (show AW _ _ _ _ _ _ _ _; first | refine aw_region ?_ | (refine aw_seqk ?_; intro K hK) | refine aw_skip ?_ | (apply aw_ite; exact rfl; all_goals intro h))
    | refine thn_n ?_
    | (refine hK _ _ _ ?_; clear hK K)
    | (show SQ _ _ _ _ _ _ _ _; apply q_nilu; exact rfl; exact rfl; exact rfl; exact (ty rfl); exact rfl; intro bb hbb))); all_goals (repeat (clear hK K)))
  · refine aw_nil (t := 2) 29 11 rfl ?_
    ((repeat' (first
    | (show AW _ _ _ _ _ _ _ _; first | refine aw_ret ?_)
    | refine thn_r ?_)); all_goals (repeat (clear hK K)))
    exact fin_r (fin_m rfl rfl _ _ rfl rfl)
  · ((repeat' (first
    | (show AW _ _ _ _ _ _ _ _; first | refine aw_ret ?_))); all_goals (repeat (clear hK K)))
    exact fin_r (fin_m rfl rfl _ _ rfl rfl)
set_option maxHeartbeats 4000000 in
theorem CloneA_ro (xs : List Lic) (hn : xs.length ≤ 1048576) (k : Nat) : RO Try.prog 44 [.dsl 11 (xs.map licL)] k (.sl k 0 xs.length) [(k, ⟨29, 11, true, xs.map licL⟩)] (k + 1) := by
  cases xs with
  | nil => exact Clone0_ro k
  | cons y ys => exact Clone_ro (y :: ys) (by simp) hn k
set_option maxHeartbeats 4000000 in
theorem withLicence_ro (xs : List Lic) (x : Lic) (a : Nat) (ha : AtP xs x a) (hn : xs.length ≤ 1048576) (k : Nat) : RO Try.prog 45 [.dsl 11 (xs.map licL), .agg (licL x)] k (.sl k 0 (xs.length + 1)) [(k, ⟨29, 11, true, (insL xs a x).map licL⟩)] (k + 1) := by
  have hS : ∀ k, ∃ b : Bool, RO Try.prog 67 [.dsl 11 (xs.map licL), .agg (licL x), .fn 68 []] k (.tup [.v (.int .i64 (a : Int)), .v (.bool b)]) [] k := fun k => Search_ro xs x a ha hn k
  obtain ⟨b, hS⟩ := hS 1
  refine RO.ofm (.sl 0 0 (xs.length + 1)) ([(0, ⟨29, 11, true, (insL xs a x).map licL⟩)]) 1 Try.func45 Try.ntmps45 rfl (goFn_of Try.func45 rfl (by kernel_rfl)) rfl rfl (by simp [renA, renL]) (by simp [shH, renB]) rfl ?_
  rw [licL_eq x]
  ((repeat' (first
    | (show SQ _ _ _ _ _ _ _ _; first | apply sq_nil | (apply q_move; exact rfl; exact rfl) | (apply q_assign; exact rfl; exact rfl) | (apply q_ext; exact rfl; exact rfl; exact rfl))
    | (show SQ _ _ _ _ _ _ _ _; (first | (apply q_ldap; exact rfl; exact rfl; exact (ty rfl); exact rfl; exact rfl; exact (by first | rfl | assumption | ((try simp only [Nat.zero_add]); refine List.getElem?_set_self ?_; (try simp only [List.length_set]); assumption)); exact rfl) | (apply q_box; exact rfl; exact rfl; exact rfl) | (apply q_callU; exact rfl; exact rfl; exact rfl; exact FzL.of rfl; exact hS)); (try simp only [put, rowsOf, plR, List.all_cons, selE, ovr, setH, del, cellsA, splice, isV, List.nil_append, List.cons_append, List.map_cons, List.map_nil, List.length_cons, List.length_nil, List.set_cons_zero, List.set_cons_succ, List.take_succ_cons, List.take_zero, List.take_nil, List.drop_succ_cons, List.drop_zero, List.drop_nil, List.append_nil, List.all_cons, List.all_nil, Bool.and_true, Bool.true_and, Bool.and_false, Bool.false_and, Nat.reduceAdd, Nat.zero_add, Nat.add_zero, Nat.reduceEqDiff, if_true, if_false, reduceIte]))
    | (show DE _ _ _ _ _ _ _ _ _ _ _ _; first | (apply e_move; exact rfl; exact rfl; exact rfl) | (apply e_assign; exact rfl; exact rfl; exact rfl))
    | (show DE _ _ _ _ _ _ _ _ _ _ _ _; (first | (apply dr_nil; exact rfl) | (apply e_ldap; exact rfl; exact rfl; exact (ty rfl); exact rfl; exact rfl; exact (by first | rfl | assumption | ((try simp only [Nat.zero_add]); refine List.getElem?_set_self ?_; (try simp only [List.length_set]); assumption)); exact rfl; exact rfl) | (apply e_buildn; exact rfl; exact (ty rfl); exact rfl; exact rfl; exact rfl; exact rfl; exact rfl; exact rfl; exact rfl; exact rfl) | (apply e_callU; exact rfl; exact rfl; exact rfl; exact FzL.of rfl; exact CloneA_ro xs hn _; exact rfl) | (apply e_callC; exact rfl; exact rfl; exact rfl; exact Insert_rc 1 2 xs x a (by decide) ha.le hn _; (focus ((repeat (first | exact trivial | refine ⟨by first | exact rfl | assumption, ?_⟩)); done)); exact rfl; skip)); (try simp only [put, rowsOf, plR, List.all_cons, selE, ovr, setH, del, cellsA, splice, isV, List.nil_append, List.cons_append, List.map_cons, List.map_nil, List.length_cons, List.length_nil, List.set_cons_zero, List.set_cons_succ, List.take_succ_cons, List.take_zero, List.take_nil, List.drop_succ_cons, List.drop_zero, List.drop_nil, List.append_nil, List.all_cons, List.all_nil, Bool.and_true, Bool.true_and, Bool.and_false, Bool.false_and, Nat.reduceAdd, Nat.zero_add, Nat.add_zero, Nat.reduceEqDiff, if_true, if_false, reduceIte]))
    | (show AW _ _ _ _ _ _ _ _; first | refine aw_region ?_ | (refine aw_seqk ?_; intro K hK) | refine aw_ret ?_ | refine aw_drawE (id := 2) [0, 1, 0, 0, 8, 31, 63] [0, 1, 0, 1, 1, 2, 0] mixed (by kernel_rfl) ?_)
    | refine thn_n ?_
    | (refine hK _ _ _ ?_; clear hK K))); all_goals (repeat (clear hK K)))
  exact fin_r (fin_m rfl rfl _ _ rfl rfl)
end Go.Proofs.Ytiificaolakgdaa.Li
