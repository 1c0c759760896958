/-
  Outages of pairs: the law.
-/
import Derived.Test.YtglfcaioapdiaaaShapeK
import Derived.Test.YtglfcaioapdiaaaPoA
namespace Go.Proofs.Ytglfcaioapdiaaa.Bk
open Go Go.RowKit Go.Proofs.Ytglfcaioapdiaaa.Aw
set_option linter.unusedSimpArgs false
set_option linter.unusedVariables false
attribute [local irreducible] AW SQ Step RO RC DE Thn InB

theorem lawPair_of (n : Int) (ls : List Ln) (a b v c : Int) (c1 : ¬ szB ls.length 1048576 < 0) (hn : ls.length ≤ 9223372036854775807)
    (hS : ∀ k, RO Try.prog 23 [.agg (bkL n ls), .v (.int .i64 a), .v (.int .i64 b)] k (.tup [.v (.int .i64 v), .v (.int .i64 c)]) [] k)
    (hI : ∀ k, RO Try.prog 24 [.agg (bkL n ls), .v (.int .i64 a), .v (.int .i64 b)] k (.tup [.v (.int .i64 v), .v (.int .i64 c)]) [] k) (k : Nat) : RO Try.prog 5 [.agg (bkL n ls), .v (.int .i64 a), .v (.int .i64 b)] k (.v (.bool true)) [] k := by
  have b1 : decide (szB ls.length 1048576 < 0) = false := by simpa using c1
  obtain ⟨m1, z0, z1, _⟩ := szB_in (by omega) (by omega) c1
  have b2 : (v != v) = false := by simp
  have b9 : (c != c) = false := by simp
  unfold bkL at hS hI ⊢
  refine RO.ofv' Try.func5 Try.ntmps5 rfl (goFn_of Try.func5 rfl (by kernel_rfl)) rfl rfl ?_
  ((repeat' (first
    | (show SQ _ _ _ _ _ _ _ _; first | apply sq_nil | (apply q_move; exact rfl; exact rfl) | (apply q_assign; exact rfl; exact rfl) | (apply q_pick_f; exact rfl; exact rfl; exact rfl; exact (by first | assumption | exact rfl)) | (apply q_ext; exact rfl; exact rfl; exact rfl) | (apply q_neq; exact rfl; exact rfl; exact rfl) | (apply q_lss; exact rfl; exact rfl; exact rfl) | (apply q_g; exact rfl; exact rfl; exact rfl; exact (by assumption)))
    | (show SQ _ _ _ _ _ _ _ _; (first | (apply q_ldap; exact rfl; exact rfl; exact (ty rfl); exact rfl; exact rfl; exact (by first | rfl | assumption | ((try simp only [Nat.zero_add]); refine List.getElem?_set_self ?_; (try simp only [List.length_set]); assumption)); exact rfl) | (apply q_box; exact rfl; exact rfl; exact rfl) | (apply q_alloc; exact rfl; exact (ty rfl); exact rfl; exact rfl) | (apply q_store; exact rfl; exact rfl; exact (ty rfl); exact rfl; exact (by first | rfl | assumption | ((try simp only [Nat.zero_add]); refine List.getElem?_set_self ?_; (try simp only [List.length_set]); assumption)); exact rfl; exact rfl; exact rfl) | (apply q_callU; exact rfl; exact rfl; exact rfl; exact FzL.of rfl; exact szBackhaul_ro n ls 1048576 hn (by omega) (by omega) _) | (apply q_callU; exact rfl; exact rfl; exact rfl; exact FzL.of rfl; exact toBackhaul_ro n ls m1 _) | (apply q_callU; exact rfl; exact rfl; exact rfl; rotate_left; exact hS _; rotate_right; focus ((repeat' (first | exact FzL.nil | exact (by assumption : FzC _) _ | refine FzL.cons ?_ ?_ | exact Fz.of rfl | exact Fz.nil | exact Fz.emp | (apply Fz.fnC; assumption) | (apply Fz.sl2; exact rfl; exact (by first | omega | (simp; done) | (simp; omega)); first | exact rfl | exact dt_full (by first | omega | (simp; done) | (simp; omega)) | assumption) | apply Fz.agg | (apply Fz.ptrL; exact rfl; first | exact rfl | assumption) | apply Fz.fnL)); done)) | (apply q_callU; exact rfl; exact rfl; exact rfl; rotate_left; exact hI _; rotate_right; focus ((repeat' (first | exact FzL.nil | exact (by assumption : FzC _) _ | refine FzL.cons ?_ ?_ | exact Fz.of rfl | exact Fz.nil | exact Fz.emp | (apply Fz.fnC; assumption) | (apply Fz.sl2; exact rfl; exact (by first | omega | (simp; done) | (simp; omega)); first | exact rfl | exact dt_full (by first | omega | (simp; done) | (simp; omega)) | assumption) | apply Fz.agg | (apply Fz.ptrL; exact rfl; first | exact rfl | assumption) | apply Fz.fnL)); done))); (try simp only [put, rowsOf, plR, List.all_cons, selE, ovr, setH, del, cellsA, splice, isV, List.nil_append, List.cons_append, List.map_cons, List.map_nil, List.length_cons, List.length_nil, List.set_cons_zero, List.set_cons_succ, List.take_succ_cons, List.take_zero, List.take_nil, List.drop_succ_cons, List.drop_zero, List.drop_nil, List.append_nil, List.all_cons, List.all_nil, Bool.and_true, Bool.true_and, Bool.and_false, Bool.false_and, Nat.reduceAdd, Nat.zero_add, Nat.add_zero, Nat.reduceEqDiff, if_true, if_false, reduceIte]))
    | (show DE _ _ _ _ _ _ _ _ _ _ _ _; first | (apply e_not; exact rfl; exact rfl; exact rfl))
    | (show DE _ _ _ _ _ _ _ _ _ _ _ _; (first | (apply dr_nil; exact trivial) | (apply e_ldap; exact rfl; exact rfl; exact (ty rfl); exact rfl; exact rfl; exact (by first | rfl | assumption | ((try simp only [Nat.zero_add]); refine List.getElem?_set_self ?_; (try simp only [List.length_set]); assumption)); exact rfl; exact rfl) | (apply e_callU; exact rfl; exact rfl; exact rfl; exact FzL.of rfl; exact toBackhaul_ro n ls m1 _; exact rfl) | (apply e_callU; exact rfl; exact rfl; exact rfl; rotate_left; exact eqBackhaul_ro n ls m1 _; exact rfl; rotate_right; focus ((repeat' (first | exact FzL.nil | exact (by assumption : FzC _) _ | refine FzL.cons ?_ ?_ | exact Fz.of rfl | exact Fz.nil | exact Fz.emp | (apply Fz.fnC; assumption) | (apply Fz.sl2; exact rfl; exact (by first | omega | (simp; done) | (simp; omega)); first | exact rfl | exact dt_full (by first | omega | (simp; done) | (simp; omega)) | assumption) | apply Fz.agg | (apply Fz.ptrL; exact rfl; first | exact rfl | assumption) | apply Fz.fnL)); done))); (try simp only [put, rowsOf, plR, List.all_cons, selE, ovr, setH, del, cellsA, splice, isV, List.nil_append, List.cons_append, List.map_cons, List.map_nil, List.length_cons, List.length_nil, List.set_cons_zero, List.set_cons_succ, List.take_succ_cons, List.take_zero, List.take_nil, List.drop_succ_cons, List.drop_zero, List.drop_nil, List.append_nil, List.all_cons, List.all_nil, Bool.and_true, Bool.true_and, Bool.and_false, Bool.false_and, Nat.reduceAdd, Nat.zero_add, Nat.add_zero, Nat.reduceEqDiff, if_true, if_false, reduceIte]))
    | (show AW _ _ _ _ _ _ _ _; first | refine aw_region ?_ | (refine aw_seqk ?_; intro K hK) | (apply aw_cond_f; exact rfl; exact rfl) | (apply aw_cond_f; exact rfl; exact (by assumption)) | refine aw_ret ?_ | refine aw_skip ?_ | refine aw_drawE (id := 10) [0, 0, 2, 7, 15] [1, 1, 1, 1, 0] mixed (by kernel_rfl) ?_)
    | refine thn_n ?_
    | (refine hK _ _ _ ?_; clear hK K))); all_goals (repeat (clear hK K)))
  all_goals exact fin_r (fin_b rfl rfl)
set_option maxHeartbeats 4000000 in
theorem lawPairOutage_ro (n : Int) (ls : List Ln) (a b : Int) (hn : ls.length ≤ 9223372036854775807) (k : Nat) : RO Try.prog 5 [.agg (bkL n ls), .v (.int .i64 a), .v (.int .i64 b)] k (.v (.bool true)) [] k := by
  by_cases c1 : szB ls.length 1048576 < 0
  · have b1 : decide (szB ls.length 1048576 < 0) = true := by simpa using c1
    unfold bkL
    refine RO.ofv' Try.func5 Try.ntmps5 rfl (goFn_of Try.func5 rfl (by kernel_rfl)) rfl rfl ?_
    ((repeat' (first
    | (show SQ _ _ _ _ _ _ _ _; first | apply sq_nil | (apply q_move; exact rfl; exact rfl) | (apply q_assign; exact rfl; exact rfl) | (apply q_lss; exact rfl; exact rfl; exact rfl))
    | (show SQ _ _ _ _ _ _ _ _; (first | (apply q_ldap; exact rfl; exact rfl; exact (ty rfl); exact rfl; exact rfl; exact (by first | rfl | assumption | ((try simp only [Nat.zero_add]); refine List.getElem?_set_self ?_; (try simp only [List.length_set]); assumption)); exact rfl) | (apply q_box; exact rfl; exact rfl; exact rfl) | (apply q_callU; exact rfl; exact rfl; exact rfl; exact FzL.of rfl; exact szBackhaul_ro n ls 1048576 hn (by omega) (by omega) _)); (try simp only [put, rowsOf, plR, List.all_cons, selE, ovr, setH, del, cellsA, splice, isV, List.nil_append, List.cons_append, List.map_cons, List.map_nil, List.length_cons, List.length_nil, List.set_cons_zero, List.set_cons_succ, List.take_succ_cons, List.take_zero, List.take_nil, List.drop_succ_cons, List.drop_zero, List.drop_nil, List.append_nil, List.all_cons, List.all_nil, Bool.and_true, Bool.true_and, Bool.and_false, Bool.false_and, Nat.reduceAdd, Nat.zero_add, Nat.add_zero, Nat.reduceEqDiff, if_true, if_false, reduceIte]))
    | (show AW _ _ _ _ _ _ _ _; first | refine aw_region ?_ | (refine aw_seqk ?_; intro K hK) | (apply aw_cond_t; exact rfl; exact (by assumption)) | refine aw_ret ?_)
    | refine thn_n ?_
    | (refine hK _ _ _ ?_; clear hK K)
    | refine thn_r ?_)); all_goals (repeat (clear hK K)))
    all_goals exact fin_r (fin_b rfl rfl)
  obtain ⟨m1, z0, z1, _⟩ := szB_in (by omega) (by omega) c1
  by_cases c2 : codeV n ls [a, b] = 0
  · by_cases ce : a = b
    · exact lawPair_of n ls a b 0 6 c1 hn (specPair_same_ro n ls a b m1 c2 ce) (Pair_same_ro n ls a b m1 c2 ce) k
    · by_cases c3 : fh (farR n ls b) a = true ∧ fh (farR n (twR n ls a b) b) a = true
      · exact lawPair_of n ls a b _ 0 c1 hn (specPair_some_ro n ls a b m1 c2 ce c3.1 c3.2) (Pair_some_ro n ls a b m1 c2 ce c3.1 c3.2) k
      · have c5 : fh (farR n ls b) a = false ∨ (fh (farR n ls b) a = true ∧ fh (farR n (twR n ls a b) b) a = false) := by
          cases h1 : fh (farR n ls b) a
          · exact .inl rfl
          · exact .inr ⟨rfl, by simpa [h1] using c3⟩
        exact lawPair_of n ls a b 0 3 c1 hn (specPair_none_ro n ls a b m1 c2 ce c5) (Pair_none_ro n ls a b m1 c2 ce c5) k
  · exact lawPair_of n ls a b 0 _ c1 hn (specPair_bad_ro n ls a b m1 c2) (Pair_bad_ro n ls a b m1 c2) k

theorem closePairOutage (v x y : Value) (w : World) (h : Fr.IsBack w v) (hx : Fr.IsInt w x) (hy : Fr.IsInt w y) : Calls Try.prog 5 #[v, x, y] w fun r w' => r = .returned (.bool true) ∧ Below w.heap.size w w' := by
  obtain ⟨n, ls, s, rfl, hv, _, _⟩ := h
  obtain ⟨a, rfl, _⟩ := hx
  obtain ⟨b, rfl, _⟩ := hy
  exact RO.calls (k := 0) (lawPairOutage_ro n ls a b hv.2 0) (K := fun k => k < w.heap.size) (fun _ h => h) (VRs.cons (Fr.back_vr hv) (VRs.cons (.v _ _) (VRs.cons (.v _ _) VRs.nil)))
end Go.Proofs.Ytglfcaioapdiaaa.Bk
