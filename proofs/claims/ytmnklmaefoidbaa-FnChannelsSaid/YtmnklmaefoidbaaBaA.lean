/-
  Bands on abstract values: validity, channels, frequencies.
-/
import Derived.Test.YtmnklmaefoidbaaInA
namespace Go.Proofs.Ytmnklmaefoidbaa.Ba
open Go Go.RowKit Go.Proofs.Ytmnklmaefoidbaa.Aw Go.Proofs.Ytmnklmaefoidbaa.In
set_option linter.unusedSimpArgs false
set_option linter.unusedVariables false
attribute [local irreducible] AW SQ Step RO RC DE Thn InB

structure Band where
  nm : ByteArray
  lo : Int
  hi : Int
  ra : Int
  du : Int
def baL (b : Band) : List AV := [.v (.string b.nm), .v (.int .i64 b.lo), .v (.int .i64 b.hi), .v (.int .i64 b.ra), .v (.int .i64 b.du)]
def Band.sm (b : Band) : Prop := b.nm.size ≤ 9223372036854775807
def cnt (b : Band) : Int := IntKind.i64.wrap ((IntKind.i64.wrap (b.hi - b.lo)).tdiv b.ra)
def okB (b : Band) : Bool := Nm.nameB b.nm && inB b.lo 1 100000000 && decide (b.lo ≤ b.hi) && decide (b.hi ≤ 100000000) && inB b.ra 1 100000 && inB (cnt b) 1 1000 && (decide (b.du = 0) || (decide (b.hi - b.lo ≤ b.du) && decide (b.du ≤ 100000000 - b.hi)))
theorem cnt_neg (b : Band) (h1 : 1 ≤ b.lo ∧ b.lo ≤ 100000000) (h2 : 1 ≤ b.hi ∧ b.hi ≤ 100000000) (h : b.hi < b.lo) (hr : 1 ≤ b.ra) : cnt b ≤ 0 := by
  have e : IntKind.i64.wrap (b.hi - b.lo) = b.hi - b.lo := IntWalk.i64_in _ (by omega)
  have e1 : (b.hi - b.lo).tdiv b.ra = - ((b.lo - b.hi) / b.ra) := by
    rw [show b.hi - b.lo = -(b.lo - b.hi) by omega, Int.neg_tdiv, Int.tdiv_eq_ediv_of_nonneg (by omega)]
  have e2 : 0 ≤ (b.lo - b.hi) / b.ra := Int.ediv_nonneg (by omega) (by omega)
  have e3 : (b.lo - b.hi) / b.ra ≤ b.lo - b.hi := Int.ediv_le_self _ (by omega)
  unfold cnt
  rw [e, e1, IntWalk.i64_in _ (by omega)]
  omega

set_option maxHeartbeats 4000000 in
theorem l15Count_ro (b : Band) (h : b.ra ≠ 0) (k : Nat) : RO Try.prog 48 [.dptr (baL b)] k (.v (.int .i64 (cnt b))) [] k := by
  refine RO.ofv' Try.func48 Try.ntmps48 rfl (goFn_of Try.func48 rfl (by kernel_rfl)) rfl rfl ?_
  unfold baL
  ((repeat' (first
    | (show SQ _ _ _ _ _ _ _ _; first | apply sq_nil | (apply q_move; exact rfl; exact rfl) | (apply q_assign; exact rfl; exact rfl) | (apply q_fieldAddr; exact rfl; exact rfl; exact (ty rfl); exact rfl; exact rfl; exact rfl; exact rfl) | (apply q_nilc; exact rfl; exact rfl; exact rfl) | (apply q_nilf; exact rfl; exact rfl) | (apply q_sub; exact rfl; exact rfl; exact rfl) | (apply q_quo; exact rfl; exact rfl; exact rfl; exact (by first | decide | omega)) | (apply q_ld1d; exact rfl; exact rfl; exact (ty rfl); exact rfl; exact rfl) | (apply q_ld1p; exact rfl; exact rfl; exact (ty rfl); exact rfl; exact rfl; exact (by first | rfl | assumption | ((try simp only [Nat.zero_add]); refine List.getElem?_set_self ?_; (try simp only [List.length_set]); assumption)); exact rfl))
    | (show SQ _ _ _ _ _ _ _ _; (first | (apply q_ldad; exact rfl; exact rfl; exact (ty rfl); exact rfl; exact rfl) | (apply q_ldap; exact rfl; exact rfl; exact (ty rfl); exact rfl; exact rfl; exact (by first | rfl | assumption | ((try simp only [Nat.zero_add]); refine List.getElem?_set_self ?_; (try simp only [List.length_set]); assumption)); exact rfl)); (try simp only [put, rowsOf, plR, List.all_cons, selE, ovr, setH, del, cellsA, splice, isV, List.nil_append, List.cons_append, List.map_cons, List.map_nil, List.length_cons, List.length_nil, List.set_cons_zero, List.set_cons_succ, List.take_succ_cons, List.take_zero, List.take_nil, List.drop_succ_cons, List.drop_zero, List.drop_nil, List.append_nil, List.all_cons, List.all_nil, Bool.and_true, Bool.true_and, Bool.and_false, Bool.false_and, Nat.reduceAdd, Nat.zero_add, Nat.add_zero, Nat.reduceEqDiff, if_true, if_false, reduceIte]))
    | (show DE _ _ _ _ _ _ _ _ _ _ _ _; first | (apply e_move; exact rfl; exact rfl; exact rfl) | (apply e_assign; exact rfl; exact rfl; exact rfl) | (apply e_fieldAddr; exact rfl; exact rfl; exact (ty rfl); exact rfl; exact rfl; exact rfl; exact rfl; exact rfl) | (apply e_nilc; exact rfl; exact rfl; exact rfl; exact rfl) | (apply e_nilf; exact rfl; exact rfl; exact rfl) | (apply e_sub; exact rfl; exact rfl; exact rfl; exact rfl) | (apply e_quo; exact rfl; exact rfl; exact rfl; exact (by first | decide | omega); exact rfl) | (apply e_ld1d; exact rfl; exact rfl; exact (ty rfl); exact rfl; exact rfl; exact rfl) | (apply e_ld1p; exact rfl; exact rfl; exact (ty rfl); exact rfl; exact rfl; exact (by first | rfl | assumption | ((try simp only [Nat.zero_add]); refine List.getElem?_set_self ?_; (try simp only [List.length_set]); assumption)); exact rfl; exact rfl))
    | (show DE _ _ _ _ _ _ _ _ _ _ _ _; (first | (apply dr_nil; exact trivial) | (apply e_ldad; exact rfl; exact rfl; exact (ty rfl); exact rfl; exact rfl; exact rfl) | (apply e_ldap; exact rfl; exact rfl; exact (ty rfl); exact rfl; exact rfl; exact (by first | rfl | assumption | ((try simp only [Nat.zero_add]); refine List.getElem?_set_self ?_; (try simp only [List.length_set]); assumption)); exact rfl; exact rfl)); (try simp only [put, rowsOf, plR, List.all_cons, selE, ovr, setH, del, cellsA, splice, isV, List.nil_append, List.cons_append, List.map_cons, List.map_nil, List.length_cons, List.length_nil, List.set_cons_zero, List.set_cons_succ, List.take_succ_cons, List.take_zero, List.take_nil, List.drop_succ_cons, List.drop_zero, List.drop_nil, List.append_nil, List.all_cons, List.all_nil, Bool.and_true, Bool.true_and, Bool.and_false, Bool.false_and, Nat.reduceAdd, Nat.zero_add, Nat.add_zero, Nat.reduceEqDiff, if_true, if_false, reduceIte]))
    | (show AW _ _ _ _ _ _ _ _; first | refine aw_region ?_ | (refine aw_seqk ?_; intro K hK) | refine aw_block ?_ | (apply aw_cond_t; exact rfl; exact rfl) | (apply aw_cond_f; exact rfl; exact rfl) | (apply aw_cond_t; exact rfl; exact (by assumption)) | (apply aw_cond_f; exact rfl; exact (by assumption)) | refine aw_ret ?_ | refine aw_exit ?_ | refine aw_skip ?_ | refine aw_drawE (id := 1) [0, 1, 3, 7, 0, 16, 48, 112, 255, 0, 512, 1536, 3584, 8191, 16383] [0, 0, 0, 1, 0, 0, 0, 1, 0, 0, 0, 0, 1, 0, 0] mixed (by kernel_rfl) ?_ | (apply aw_ite; exact rfl; all_goals intro h))
    | refine thn_n ?_
    | (refine hK _ _ _ ?_; clear hK K)
    | refine thn_e ?_
    | refine thn_r ?_
    | refine inb_same ?_
    | refine inb_ne rfl ?_
    | refine inb_n ?_
    | refine inb_r ?_
    | (clear hK K; refine hK _ _ _ ?_; clear hK K)
    | (clear hK K; clear hK K; refine hK _ _ _ ?_; clear hK K)
    | (clear hK K; clear hK K; clear hK K; refine hK _ _ _ ?_; clear hK K))); all_goals (repeat (clear hK K)))
  all_goals refine fin_r (fin_i rfl ?_)
  all_goals rfl
set_option maxHeartbeats 4000000 in
theorem count_ro (b : Band) (h : b.ra ≠ 0) (k : Nat) : RO Try.prog 50 [.agg (baL b)] k (.v (.int .i64 (cnt b))) [] k := by
  refine RO.ofv' Try.func50 Try.ntmps50 rfl (goFn_of Try.func50 rfl (by kernel_rfl)) rfl rfl ?_
  unfold baL
  ((repeat' (first
    | (show SQ _ _ _ _ _ _ _ _; first | apply sq_nil | (apply q_assign; exact rfl; exact rfl) | (apply q_fieldAddr; exact rfl; exact rfl; exact (ty rfl); exact rfl; exact rfl; exact rfl; exact rfl) | (apply q_sub; exact rfl; exact rfl; exact rfl) | (apply q_quo; exact rfl; exact rfl; exact rfl; exact (by first | decide | omega)) | (apply q_ld1d; exact rfl; exact rfl; exact (ty rfl); exact rfl; exact rfl) | (apply q_ld1p; exact rfl; exact rfl; exact (ty rfl); exact rfl; exact rfl; exact (by first | rfl | assumption | ((try simp only [Nat.zero_add]); refine List.getElem?_set_self ?_; (try simp only [List.length_set]); assumption)); exact rfl))
    | (show SQ _ _ _ _ _ _ _ _; (first | (apply q_ldad; exact rfl; exact rfl; exact (ty rfl); exact rfl; exact rfl) | (apply q_ldap; exact rfl; exact rfl; exact (ty rfl); exact rfl; exact rfl; exact (by first | rfl | assumption | ((try simp only [Nat.zero_add]); refine List.getElem?_set_self ?_; (try simp only [List.length_set]); assumption)); exact rfl) | (apply q_box; exact rfl; exact rfl; exact rfl)); (try simp only [put, rowsOf, plR, List.all_cons, selE, ovr, setH, del, cellsA, splice, isV, List.nil_append, List.cons_append, List.map_cons, List.map_nil, List.length_cons, List.length_nil, List.set_cons_zero, List.set_cons_succ, List.take_succ_cons, List.take_zero, List.take_nil, List.drop_succ_cons, List.drop_zero, List.drop_nil, List.append_nil, List.all_cons, List.all_nil, Bool.and_true, Bool.true_and, Bool.and_false, Bool.false_and, Nat.reduceAdd, Nat.zero_add, Nat.add_zero, Nat.reduceEqDiff, if_true, if_false, reduceIte]))
    | (show AW _ _ _ _ _ _ _ _; first | refine aw_region ?_ | (refine aw_seqk ?_; intro K hK) | refine aw_block ?_ | (apply aw_cond_t; exact rfl; exact rfl) | (apply aw_cond_f; exact rfl; exact rfl) | (apply aw_cond_t; exact rfl; exact (by assumption)) | (apply aw_cond_f; exact rfl; exact (by assumption)) | refine aw_ret ?_ | refine aw_exit ?_ | refine aw_skip ?_ | (apply aw_ite; exact rfl; all_goals intro h))
    | refine thn_n ?_
    | (refine hK _ _ _ ?_; clear hK K)
    | refine thn_e ?_
    | refine thn_r ?_
    | refine inb_same ?_
    | refine inb_ne rfl ?_
    | refine inb_n ?_
    | refine inb_r ?_
    | (clear hK K; refine hK _ _ _ ?_; clear hK K)
    | (clear hK K; clear hK K; refine hK _ _ _ ?_; clear hK K)
    | (clear hK K; clear hK K; clear hK K; refine hK _ _ _ ?_; clear hK K))); all_goals (repeat (clear hK K)))
  all_goals refine fin_r (fin_i rfl ?_)
  all_goals rfl
set_option maxHeartbeats 4000000 in
theorem l15Ok_ro (b : Band) (hs : b.sm) (k : Nat) : RO Try.prog 27 [.dptr (baL b)] k (.v (.bool (okB b))) [] k := by
  unfold Band.sm at hs
  have e1 : 1 ≤ b.lo → b.lo ≤ 100000000 → 1 ≤ b.hi → b.hi ≤ 100000000 → IntKind.i64.wrap (b.hi - b.lo) = b.hi - b.lo := fun _ _ _ _ => IntWalk.i64_in _ (by omega)
  have e2 : 1 ≤ b.hi → b.hi ≤ 100000000 → 0 ≤ b.du → b.du ≤ 100000000 → IntKind.i64.wrap (b.hi + b.du) = b.hi + b.du := fun _ _ _ _ => IntWalk.i64_in _ (by omega)
  have e3 : 1 ≤ b.hi → b.hi ≤ 100000000 → IntKind.i64.wrap (100000000 - b.hi) = 100000000 - b.hi := fun _ _ => IntWalk.i64_in _ (by omega)
  by_cases hr : 1 ≤ b.ra ∧ b.ra ≤ 100000
  · have hr0 : b.ra ≠ 0 := by omega
    have b1 : inB b.ra 1 100000 = true := by simp [inB]; omega
    have b2 : (!inB b.ra 1 100000) = false := by rw [b1]; rfl
    refine RO.ofv' Try.func27 Try.ntmps27 rfl (goFn_of Try.func27 rfl (by kernel_rfl)) rfl rfl ?_
    unfold baL
    ((repeat' (first
    | (show SQ _ _ _ _ _ _ _ _; first | apply sq_nil | (apply q_move; exact rfl; exact rfl) | (apply q_assign; exact rfl; exact rfl) | (apply q_pick_t; exact rfl; exact rfl; exact rfl; exact (by first | assumption | exact rfl)) | (apply q_pick_f; exact rfl; exact rfl; exact rfl; exact (by first | assumption | exact rfl)) | (apply q_fieldAddr; exact rfl; exact rfl; exact (ty rfl); exact rfl; exact rfl; exact rfl; exact rfl) | (apply q_nilc; exact rfl; exact rfl; exact rfl) | (apply q_nilf; exact rfl; exact rfl) | (apply q_not; exact rfl; exact rfl) | (apply q_add; exact rfl; exact rfl; exact rfl) | (apply q_sub; exact rfl; exact rfl; exact rfl) | (apply q_eql; exact rfl; exact rfl; exact rfl) | (apply q_leq; exact rfl; exact rfl; exact rfl) | (apply q_geq; exact rfl; exact rfl; exact rfl) | (apply q_seql; exact rfl; exact rfl; exact rfl) | (apply q_sleq; exact rfl; exact rfl; exact rfl) | (apply q_sgeq; exact rfl; exact rfl; exact rfl) | (apply q_cat; exact rfl; exact rfl; exact rfl; exact (by first | omega | (simp; done) | (simp; omega))) | (apply q_beql; exact rfl; exact rfl; exact rfl; exact (ty rfl); exact rfl) | (apply q_ld1d; exact rfl; exact rfl; exact (ty rfl); exact rfl; exact rfl) | (apply q_ld1p; exact rfl; exact rfl; exact (ty rfl); exact rfl; exact rfl; exact (by first | rfl | assumption | ((try simp only [Nat.zero_add]); refine List.getElem?_set_self ?_; (try simp only [List.length_set]); assumption)); exact rfl) | (apply q_eqa; exact rfl; exact rfl; exact rfl; kernel_rfl; assumption; exact rfl; exact rfl) | (apply q_nil_ev; exact rfl; exact rfl; exact rfl; exact (ty rfl); exact rfl) | (apply q_nil_el; exact rfl; exact rfl; exact rfl; exact (ty rfl); exact rfl; exact (by first | omega | (simp; done) | (simp; omega))) | (apply q_nil_ed; exact rfl; exact rfl; exact rfl; exact (ty rfl); exact rfl; exact (by first | omega | (simp; done) | (simp; omega))) | (apply q_g; exact rfl; exact rfl; exact rfl; exact (by assumption)) | (apply q_s; exact rfl; exact rfl; exact rfl; exact (by assumption); exact rfl) | (apply q_g; exact rfl; exact rfl; exact rfl; exact rfl) | (apply q_s; exact rfl; exact rfl; exact rfl; exact rfl; exact rfl) | (apply q_sU; exact rfl; exact rfl; exact rfl; exact rfl))
    | (show SQ _ _ _ _ _ _ _ _; (first | (apply q_ldad; exact rfl; exact rfl; exact (ty rfl); exact rfl; exact rfl) | (apply q_ldap; exact rfl; exact rfl; exact (ty rfl); exact rfl; exact rfl; exact (by first | rfl | assumption | ((try simp only [Nat.zero_add]); refine List.getElem?_set_self ?_; (try simp only [List.length_set]); assumption)); exact rfl) | (apply q_callU; exact rfl; exact rfl; exact rfl; exact FzL.of rfl; exact l01Name_ro _ (by assumption) _) | (apply q_callU; exact rfl; exact rfl; exact rfl; exact FzL.of rfl; exact l00In_ro _ _ _ _) | (apply q_callU; exact rfl; exact rfl; exact rfl; exact FzL.of rfl; exact l15Count_ro b (by assumption) _) | (apply q_callU; exact rfl; exact rfl; exact rfl; rotate_left; exact l15Count_ro b (by assumption) _; rotate_right; focus ((repeat' (first | exact FzL.nil | exact (by assumption : FzC _) _ | refine FzL.cons ?_ ?_ | exact Fz.of rfl | exact Fz.nil | exact Fz.emp | (apply Fz.fnC; assumption) | (apply Fz.sl2; exact rfl; exact (by first | omega | (simp; done) | (simp; omega)); first | exact rfl | exact dt_full (by first | omega | (simp; done) | (simp; omega)) | assumption) | apply Fz.agg | (apply Fz.ptrL; exact rfl; first | exact rfl | assumption) | apply Fz.fnL)); done))); (try simp only [put, rowsOf, plR, List.all_cons, selE, ovr, setH, del, cellsA, splice, isV, List.nil_append, List.cons_append, List.map_cons, List.map_nil, List.length_cons, List.length_nil, List.set_cons_zero, List.set_cons_succ, List.take_succ_cons, List.take_zero, List.take_nil, List.drop_succ_cons, List.drop_zero, List.drop_nil, List.append_nil, List.all_cons, List.all_nil, Bool.and_true, Bool.true_and, Bool.and_false, Bool.false_and, Nat.reduceAdd, Nat.zero_add, Nat.add_zero, Nat.reduceEqDiff, if_true, if_false, reduceIte]))
    | (show SQ _ _ _ _ _ _ _ _; apply q_gs; exact rfl; exact rfl; exact rfl; exact rfl; all_goals intro h)
    | (show DE _ _ _ _ _ _ _ _ _ _ _ _; first | (apply e_move; exact rfl; exact rfl; exact rfl) | (apply e_assign; exact rfl; exact rfl; exact rfl) | (apply e_pick_t; exact rfl; exact rfl; exact rfl; exact (by first | assumption | exact rfl); exact rfl) | (apply e_pick_f; exact rfl; exact rfl; exact rfl; exact (by first | assumption | exact rfl); exact rfl) | (apply e_fieldAddr; exact rfl; exact rfl; exact (ty rfl); exact rfl; exact rfl; exact rfl; exact rfl; exact rfl) | (apply e_nilc; exact rfl; exact rfl; exact rfl; exact rfl) | (apply e_nilf; exact rfl; exact rfl; exact rfl) | (apply e_not; exact rfl; exact rfl; exact rfl) | (apply e_add; exact rfl; exact rfl; exact rfl; exact rfl) | (apply e_sub; exact rfl; exact rfl; exact rfl; exact rfl) | (apply e_eql; exact rfl; exact rfl; exact rfl; exact rfl) | (apply e_leq; exact rfl; exact rfl; exact rfl; exact rfl) | (apply e_geq; exact rfl; exact rfl; exact rfl; exact rfl) | (apply e_seql; exact rfl; exact rfl; exact rfl; exact rfl) | (apply e_sleq; exact rfl; exact rfl; exact rfl; exact rfl) | (apply e_sgeq; exact rfl; exact rfl; exact rfl; exact rfl) | (apply e_cat; exact rfl; exact rfl; exact rfl; exact (by first | omega | (simp; done) | (simp; omega)); exact rfl) | (apply e_beql; exact rfl; exact rfl; exact rfl; exact (ty rfl); exact rfl; exact rfl) | (apply e_ld1d; exact rfl; exact rfl; exact (ty rfl); exact rfl; exact rfl; exact rfl) | (apply e_ld1p; exact rfl; exact rfl; exact (ty rfl); exact rfl; exact rfl; exact (by first | rfl | assumption | ((try simp only [Nat.zero_add]); refine List.getElem?_set_self ?_; (try simp only [List.length_set]); assumption)); exact rfl; exact rfl) | (apply e_eqa; exact rfl; exact rfl; exact rfl; kernel_rfl; assumption; exact rfl; exact rfl; exact rfl) | (apply e_nil_ev; exact rfl; exact rfl; exact rfl; exact (ty rfl); exact rfl; exact rfl) | (apply e_nil_el; exact rfl; exact rfl; exact rfl; exact (ty rfl); exact rfl; exact (by first | omega | (simp; done) | (simp; omega)); exact rfl) | (apply e_nil_ed; exact rfl; exact rfl; exact rfl; exact (ty rfl); exact rfl; exact (by first | omega | (simp; done) | (simp; omega)); exact rfl) | (apply e_g; exact rfl; exact rfl; exact rfl; exact (by assumption)) | (apply e_s; exact rfl; exact rfl; exact rfl; exact (by assumption); exact rfl) | (apply e_g; exact rfl; exact rfl; exact rfl; exact rfl) | (apply e_s; exact rfl; exact rfl; exact rfl; exact rfl; exact rfl) | (apply e_sU; exact rfl; exact rfl; exact rfl; exact rfl; exact rfl))
    | (show DE _ _ _ _ _ _ _ _ _ _ _ _; (first | (apply dr_nil; exact trivial) | (apply e_ldad; exact rfl; exact rfl; exact (ty rfl); exact rfl; exact rfl; exact rfl) | (apply e_ldap; exact rfl; exact rfl; exact (ty rfl); exact rfl; exact rfl; exact (by first | rfl | assumption | ((try simp only [Nat.zero_add]); refine List.getElem?_set_self ?_; (try simp only [List.length_set]); assumption)); exact rfl; exact rfl) | (apply e_callU; exact rfl; exact rfl; exact rfl; exact FzL.of rfl; exact l01Name_ro _ (by assumption) _; exact rfl) | (apply e_callU; exact rfl; exact rfl; exact rfl; exact FzL.of rfl; exact l00In_ro _ _ _ _; exact rfl) | (apply e_callU; exact rfl; exact rfl; exact rfl; exact FzL.of rfl; exact l15Count_ro b (by assumption) _; exact rfl) | (apply e_callU; exact rfl; exact rfl; exact rfl; rotate_left; exact l15Count_ro b (by assumption) _; exact rfl; rotate_right; focus ((repeat' (first | exact FzL.nil | exact (by assumption : FzC _) _ | refine FzL.cons ?_ ?_ | exact Fz.of rfl | exact Fz.nil | exact Fz.emp | (apply Fz.fnC; assumption) | (apply Fz.sl2; exact rfl; exact (by first | omega | (simp; done) | (simp; omega)); first | exact rfl | exact dt_full (by first | omega | (simp; done) | (simp; omega)) | assumption) | apply Fz.agg | (apply Fz.ptrL; exact rfl; first | exact rfl | assumption) | apply Fz.fnL)); done))); (try simp only [put, rowsOf, plR, List.all_cons, selE, ovr, setH, del, cellsA, splice, isV, List.nil_append, List.cons_append, List.map_cons, List.map_nil, List.length_cons, List.length_nil, List.set_cons_zero, List.set_cons_succ, List.take_succ_cons, List.take_zero, List.take_nil, List.drop_succ_cons, List.drop_zero, List.drop_nil, List.append_nil, List.all_cons, List.all_nil, Bool.and_true, Bool.true_and, Bool.and_false, Bool.false_and, Nat.reduceAdd, Nat.zero_add, Nat.add_zero, Nat.reduceEqDiff, if_true, if_false, reduceIte]))
    | (show DE _ _ _ _ _ _ _ _ _ _ _ _; apply e_gs; exact rfl; exact rfl; exact rfl; exact rfl; all_goals intro h)
    | (show AW _ _ _ _ _ _ _ _; first | refine aw_region ?_ | (refine aw_seqk ?_; intro K hK) | refine aw_block ?_ | (apply aw_cond_t; exact rfl; exact rfl) | (apply aw_cond_f; exact rfl; exact rfl) | (apply aw_cond_t; exact rfl; exact (by assumption)) | (apply aw_cond_f; exact rfl; exact (by assumption)) | refine aw_ret ?_ | refine aw_exit ?_ | refine aw_skip ?_ | refine aw_drawE (id := 5) [0, 1, 3, 7, 15, 31, 63, 127, 255, 511, 63, 1087, 3135, 7231, 63, 16447, 49215, 114751, 261183, 524287, 1048575, 2097151, 4194303, 8388607, 16777215, 2097151, 35651583, 102760447, 236978175, 536870911, 1073741823, 2147483647, 4294967295, 8589934591] [0, 0, 0, 1, 0, 0, 0, 0, 0, 1, 0, 0, 0, 1, 0, 0, 0, 1, 0, 0, 0, 0, 0, 0, 1, 0, 0, 0, 1, 0, 0, 0, 0, 0] mixed (by kernel_rfl) ?_ | (apply aw_ite; exact rfl; all_goals intro h))
    | refine thn_n ?_
    | (refine hK _ _ _ ?_; clear hK K)
    | refine thn_e ?_
    | refine thn_r ?_
    | refine inb_same ?_
    | refine inb_ne rfl ?_
    | refine inb_n ?_
    | refine inb_r ?_
    | (clear hK K; refine hK _ _ _ ?_; clear hK K)
    | (clear hK K; clear hK K; refine hK _ _ _ ?_; clear hK K)
    | (clear hK K; clear hK K; clear hK K; refine hK _ _ _ ?_; clear hK K))); all_goals (repeat (clear hK K)))
    all_goals refine fin_r (fin_b rfl ?_)
    all_goals clear b1 b2
    all_goals simp_all [okB, inB]
    all_goals (have hc := cnt_neg b; first | omega | (rw [Bool.eq_iff_iff]; simp only [Bool.and_eq_true, decide_eq_true_eq]; omega) | (intros; omega))
  · have b1 : inB b.ra 1 100000 = false := by simp [inB]; omega
    have b2 : (!inB b.ra 1 100000) = true := by rw [b1]; rfl
    refine RO.ofv' Try.func27 Try.ntmps27 rfl (goFn_of Try.func27 rfl (by kernel_rfl)) rfl rfl ?_
    unfold baL
    ((repeat' (first
    | (show SQ _ _ _ _ _ _ _ _; first | apply sq_nil | (apply q_move; exact rfl; exact rfl) | (apply q_assign; exact rfl; exact rfl) | (apply q_pick_t; exact rfl; exact rfl; exact rfl; exact (by first | assumption | exact rfl)) | (apply q_pick_f; exact rfl; exact rfl; exact rfl; exact (by first | assumption | exact rfl)) | (apply q_fieldAddr; exact rfl; exact rfl; exact (ty rfl); exact rfl; exact rfl; exact rfl; exact rfl) | (apply q_nilc; exact rfl; exact rfl; exact rfl) | (apply q_nilf; exact rfl; exact rfl) | (apply q_not; exact rfl; exact rfl) | (apply q_add; exact rfl; exact rfl; exact rfl) | (apply q_sub; exact rfl; exact rfl; exact rfl) | (apply q_eql; exact rfl; exact rfl; exact rfl) | (apply q_leq; exact rfl; exact rfl; exact rfl) | (apply q_geq; exact rfl; exact rfl; exact rfl) | (apply q_seql; exact rfl; exact rfl; exact rfl) | (apply q_sleq; exact rfl; exact rfl; exact rfl) | (apply q_sgeq; exact rfl; exact rfl; exact rfl) | (apply q_cat; exact rfl; exact rfl; exact rfl; exact (by first | omega | (simp; done) | (simp; omega))) | (apply q_beql; exact rfl; exact rfl; exact rfl; exact (ty rfl); exact rfl) | (apply q_ld1d; exact rfl; exact rfl; exact (ty rfl); exact rfl; exact rfl) | (apply q_ld1p; exact rfl; exact rfl; exact (ty rfl); exact rfl; exact rfl; exact (by first | rfl | assumption | ((try simp only [Nat.zero_add]); refine List.getElem?_set_self ?_; (try simp only [List.length_set]); assumption)); exact rfl) | (apply q_eqa; exact rfl; exact rfl; exact rfl; kernel_rfl; assumption; exact rfl; exact rfl) | (apply q_nil_ev; exact rfl; exact rfl; exact rfl; exact (ty rfl); exact rfl) | (apply q_nil_el; exact rfl; exact rfl; exact rfl; exact (ty rfl); exact rfl; exact (by first | omega | (simp; done) | (simp; omega))) | (apply q_nil_ed; exact rfl; exact rfl; exact rfl; exact (ty rfl); exact rfl; exact (by first | omega | (simp; done) | (simp; omega))) | (apply q_g; exact rfl; exact rfl; exact rfl; exact (by assumption)) | (apply q_s; exact rfl; exact rfl; exact rfl; exact (by assumption); exact rfl) | (apply q_g; exact rfl; exact rfl; exact rfl; exact rfl) | (apply q_s; exact rfl; exact rfl; exact rfl; exact rfl; exact rfl) | (apply q_sU; exact rfl; exact rfl; exact rfl; exact rfl))
    | (show SQ _ _ _ _ _ _ _ _; (first | (apply q_ldad; exact rfl; exact rfl; exact (ty rfl); exact rfl; exact rfl) | (apply q_ldap; exact rfl; exact rfl; exact (ty rfl); exact rfl; exact rfl; exact (by first | rfl | assumption | ((try simp only [Nat.zero_add]); refine List.getElem?_set_self ?_; (try simp only [List.length_set]); assumption)); exact rfl) | (apply q_callU; exact rfl; exact rfl; exact rfl; exact FzL.of rfl; exact l01Name_ro _ (by assumption) _) | (apply q_callU; exact rfl; exact rfl; exact rfl; exact FzL.of rfl; exact l00In_ro _ _ _ _)); (try simp only [put, rowsOf, plR, List.all_cons, selE, ovr, setH, del, cellsA, splice, isV, List.nil_append, List.cons_append, List.map_cons, List.map_nil, List.length_cons, List.length_nil, List.set_cons_zero, List.set_cons_succ, List.take_succ_cons, List.take_zero, List.take_nil, List.drop_succ_cons, List.drop_zero, List.drop_nil, List.append_nil, List.all_cons, List.all_nil, Bool.and_true, Bool.true_and, Bool.and_false, Bool.false_and, Nat.reduceAdd, Nat.zero_add, Nat.add_zero, Nat.reduceEqDiff, if_true, if_false, reduceIte]))
    | (show SQ _ _ _ _ _ _ _ _; apply q_gs; exact rfl; exact rfl; exact rfl; exact rfl; all_goals intro h)
    | (show DE _ _ _ _ _ _ _ _ _ _ _ _; first | (apply e_move; exact rfl; exact rfl; exact rfl) | (apply e_assign; exact rfl; exact rfl; exact rfl) | (apply e_pick_t; exact rfl; exact rfl; exact rfl; exact (by first | assumption | exact rfl); exact rfl) | (apply e_pick_f; exact rfl; exact rfl; exact rfl; exact (by first | assumption | exact rfl); exact rfl) | (apply e_fieldAddr; exact rfl; exact rfl; exact (ty rfl); exact rfl; exact rfl; exact rfl; exact rfl; exact rfl) | (apply e_nilc; exact rfl; exact rfl; exact rfl; exact rfl) | (apply e_nilf; exact rfl; exact rfl; exact rfl) | (apply e_not; exact rfl; exact rfl; exact rfl) | (apply e_add; exact rfl; exact rfl; exact rfl; exact rfl) | (apply e_sub; exact rfl; exact rfl; exact rfl; exact rfl) | (apply e_eql; exact rfl; exact rfl; exact rfl; exact rfl) | (apply e_leq; exact rfl; exact rfl; exact rfl; exact rfl) | (apply e_geq; exact rfl; exact rfl; exact rfl; exact rfl) | (apply e_seql; exact rfl; exact rfl; exact rfl; exact rfl) | (apply e_sleq; exact rfl; exact rfl; exact rfl; exact rfl) | (apply e_sgeq; exact rfl; exact rfl; exact rfl; exact rfl) | (apply e_cat; exact rfl; exact rfl; exact rfl; exact (by first | omega | (simp; done) | (simp; omega)); exact rfl) | (apply e_beql; exact rfl; exact rfl; exact rfl; exact (ty rfl); exact rfl; exact rfl) | (apply e_ld1d; exact rfl; exact rfl; exact (ty rfl); exact rfl; exact rfl; exact rfl) | (apply e_ld1p; exact rfl; exact rfl; exact (ty rfl); exact rfl; exact rfl; exact (by first | rfl | assumption | ((try simp only [Nat.zero_add]); refine List.getElem?_set_self ?_; (try simp only [List.length_set]); assumption)); exact rfl; exact rfl) | (apply e_eqa; exact rfl; exact rfl; exact rfl; kernel_rfl; assumption; exact rfl; exact rfl; exact rfl) | (apply e_nil_ev; exact rfl; exact rfl; exact rfl; exact (ty rfl); exact rfl; exact rfl) | (apply e_nil_el; exact rfl; exact rfl; exact rfl; exact (ty rfl); exact rfl; exact (by first | omega | (simp; done) | (simp; omega)); exact rfl) | (apply e_nil_ed; exact rfl; exact rfl; exact rfl; exact (ty rfl); exact rfl; exact (by first | omega | (simp; done) | (simp; omega)); exact rfl) | (apply e_g; exact rfl; exact rfl; exact rfl; exact (by assumption)) | (apply e_s; exact rfl; exact rfl; exact rfl; exact (by assumption); exact rfl) | (apply e_g; exact rfl; exact rfl; exact rfl; exact rfl) | (apply e_s; exact rfl; exact rfl; exact rfl; exact rfl; exact rfl) | (apply e_sU; exact rfl; exact rfl; exact rfl; exact rfl; exact rfl))
    | (show DE _ _ _ _ _ _ _ _ _ _ _ _; (first | (apply dr_nil; exact trivial) | (apply e_ldad; exact rfl; exact rfl; exact (ty rfl); exact rfl; exact rfl; exact rfl) | (apply e_ldap; exact rfl; exact rfl; exact (ty rfl); exact rfl; exact rfl; exact (by first | rfl | assumption | ((try simp only [Nat.zero_add]); refine List.getElem?_set_self ?_; (try simp only [List.length_set]); assumption)); exact rfl; exact rfl) | (apply e_callU; exact rfl; exact rfl; exact rfl; exact FzL.of rfl; exact l01Name_ro _ (by assumption) _; exact rfl) | (apply e_callU; exact rfl; exact rfl; exact rfl; exact FzL.of rfl; exact l00In_ro _ _ _ _; exact rfl)); (try simp only [put, rowsOf, plR, List.all_cons, selE, ovr, setH, del, cellsA, splice, isV, List.nil_append, List.cons_append, List.map_cons, List.map_nil, List.length_cons, List.length_nil, List.set_cons_zero, List.set_cons_succ, List.take_succ_cons, List.take_zero, List.take_nil, List.drop_succ_cons, List.drop_zero, List.drop_nil, List.append_nil, List.all_cons, List.all_nil, Bool.and_true, Bool.true_and, Bool.and_false, Bool.false_and, Nat.reduceAdd, Nat.zero_add, Nat.add_zero, Nat.reduceEqDiff, if_true, if_false, reduceIte]))
    | (show DE _ _ _ _ _ _ _ _ _ _ _ _; apply e_gs; exact rfl; exact rfl; exact rfl; exact rfl; all_goals intro h)
    | (show AW _ _ _ _ _ _ _ _; first | refine aw_region ?_ | (refine aw_seqk ?_; intro K hK) | refine aw_block ?_ | (apply aw_cond_t; exact rfl; exact rfl) | (apply aw_cond_f; exact rfl; exact rfl) | (apply aw_cond_t; exact rfl; exact (by assumption)) | (apply aw_cond_f; exact rfl; exact (by assumption)) | refine aw_ret ?_ | refine aw_exit ?_ | refine aw_skip ?_ | refine aw_drawE (id := 5) [0, 1, 3, 7, 15, 31, 63, 127, 255, 511, 63, 1087, 3135, 7231, 63, 16447, 49215, 114751, 261183, 524287, 1048575, 2097151, 4194303, 8388607, 16777215, 2097151, 35651583, 102760447, 236978175, 536870911, 1073741823, 2147483647, 4294967295, 8589934591] [0, 0, 0, 1, 0, 0, 0, 0, 0, 1, 0, 0, 0, 1, 0, 0, 0, 1, 0, 0, 0, 0, 0, 0, 1, 0, 0, 0, 1, 0, 0, 0, 0, 0] mixed (by kernel_rfl) ?_ | (apply aw_ite; exact rfl; all_goals intro h))
    | refine thn_n ?_
    | (refine hK _ _ _ ?_; clear hK K)
    | refine thn_e ?_
    | refine thn_r ?_
    | refine inb_same ?_
    | refine inb_ne rfl ?_
    | refine inb_n ?_
    | refine inb_r ?_
    | (clear hK K; refine hK _ _ _ ?_; clear hK K)
    | (clear hK K; clear hK K; refine hK _ _ _ ?_; clear hK K)
    | (clear hK K; clear hK K; clear hK K; refine hK _ _ _ ?_; clear hK K))); all_goals (repeat (clear hK K)))
    all_goals refine fin_r (fin_b rfl ?_)
    all_goals clear b1 b2
    all_goals simp_all [okB, inB]
    all_goals (have hc := cnt_neg b; first | omega | (rw [Bool.eq_iff_iff]; simp only [Bool.and_eq_true, decide_eq_true_eq]; omega) | (intros; omega))
set_option maxHeartbeats 4000000 in
theorem ValidBand_ro (b : Band) (hs : b.sm) (k : Nat) : RO Try.prog 45 [.agg (baL b)] k (.v (.bool (okB b))) [] k := by
  unfold Band.sm at hs
  have e1 : 1 ≤ b.lo → b.lo ≤ 100000000 → 1 ≤ b.hi → b.hi ≤ 100000000 → IntKind.i64.wrap (b.hi - b.lo) = b.hi - b.lo := fun _ _ _ _ => IntWalk.i64_in _ (by omega)
  have e2 : 1 ≤ b.hi → b.hi ≤ 100000000 → 0 ≤ b.du → b.du ≤ 100000000 → IntKind.i64.wrap (b.hi + b.du) = b.hi + b.du := fun _ _ _ _ => IntWalk.i64_in _ (by omega)
  have e3 : 1 ≤ b.hi → b.hi ≤ 100000000 → IntKind.i64.wrap (100000000 - b.hi) = 100000000 - b.hi := fun _ _ => IntWalk.i64_in _ (by omega)
  by_cases hr : 1 ≤ b.ra ∧ b.ra ≤ 100000
  · have hr0 : b.ra ≠ 0 := by omega
    have b1 : inB b.ra 1 100000 = true := by simp [inB]; omega
    have b2 : (!inB b.ra 1 100000) = false := by rw [b1]; rfl
    refine RO.ofv' Try.func45 Try.ntmps45 rfl (goFn_of Try.func45 rfl (by kernel_rfl)) rfl rfl ?_
    unfold baL
    ((repeat' (first
    | (show SQ _ _ _ _ _ _ _ _; first | apply sq_nil | (apply q_move; exact rfl; exact rfl) | (apply q_assign; exact rfl; exact rfl) | (apply q_pick_t; exact rfl; exact rfl; exact rfl; exact (by first | assumption | exact rfl)) | (apply q_pick_f; exact rfl; exact rfl; exact rfl; exact (by first | assumption | exact rfl)) | (apply q_fieldAddr; exact rfl; exact rfl; exact (ty rfl); exact rfl; exact rfl; exact rfl; exact rfl) | (apply q_not; exact rfl; exact rfl) | (apply q_sub; exact rfl; exact rfl; exact rfl) | (apply q_eql; exact rfl; exact rfl; exact rfl) | (apply q_seql; exact rfl; exact rfl; exact rfl) | (apply q_beql; exact rfl; exact rfl; exact rfl; exact (ty rfl); exact rfl) | (apply q_ld1d; exact rfl; exact rfl; exact (ty rfl); exact rfl; exact rfl) | (apply q_ld1p; exact rfl; exact rfl; exact (ty rfl); exact rfl; exact rfl; exact (by first | rfl | assumption | ((try simp only [Nat.zero_add]); refine List.getElem?_set_self ?_; (try simp only [List.length_set]); assumption)); exact rfl) | (apply q_eqa; exact rfl; exact rfl; exact rfl; kernel_rfl; assumption; exact rfl; exact rfl) | (apply q_nil_ev; exact rfl; exact rfl; exact rfl; exact (ty rfl); exact rfl) | (apply q_nil_el; exact rfl; exact rfl; exact rfl; exact (ty rfl); exact rfl; exact (by first | omega | (simp; done) | (simp; omega))) | (apply q_nil_ed; exact rfl; exact rfl; exact rfl; exact (ty rfl); exact rfl; exact (by first | omega | (simp; done) | (simp; omega))) | (apply q_g; exact rfl; exact rfl; exact rfl; exact (by assumption)) | (apply q_s; exact rfl; exact rfl; exact rfl; exact (by assumption); exact rfl) | (apply q_g; exact rfl; exact rfl; exact rfl; exact rfl) | (apply q_s; exact rfl; exact rfl; exact rfl; exact rfl; exact rfl) | (apply q_sU; exact rfl; exact rfl; exact rfl; exact rfl))
    | (show SQ _ _ _ _ _ _ _ _; (first | (apply q_ldad; exact rfl; exact rfl; exact (ty rfl); exact rfl; exact rfl) | (apply q_ldap; exact rfl; exact rfl; exact (ty rfl); exact rfl; exact rfl; exact (by first | rfl | assumption | ((try simp only [Nat.zero_add]); refine List.getElem?_set_self ?_; (try simp only [List.length_set]); assumption)); exact rfl) | (apply q_box; exact rfl; exact rfl; exact rfl) | (apply q_callU; exact rfl; exact rfl; exact rfl; exact FzL.of rfl; exact IsName_ro _ (by assumption) _) | (apply q_callU; exact rfl; exact rfl; exact rfl; exact FzL.of rfl; exact within_ro _ _ _ _) | (apply q_callU; exact rfl; exact rfl; exact rfl; exact FzL.of rfl; exact count_ro b (by assumption) _) | (apply q_callU; exact rfl; exact rfl; exact rfl; rotate_left; exact count_ro b (by assumption) _; rotate_right; focus ((repeat' (first | exact FzL.nil | exact (by assumption : FzC _) _ | refine FzL.cons ?_ ?_ | exact Fz.of rfl | exact Fz.nil | exact Fz.emp | (apply Fz.fnC; assumption) | (apply Fz.sl2; exact rfl; exact (by first | omega | (simp; done) | (simp; omega)); first | exact rfl | exact dt_full (by first | omega | (simp; done) | (simp; omega)) | assumption) | apply Fz.agg | (apply Fz.ptrL; exact rfl; first | exact rfl | assumption) | apply Fz.fnL)); done))); (try simp only [put, rowsOf, plR, List.all_cons, selE, ovr, setH, del, cellsA, splice, isV, List.nil_append, List.cons_append, List.map_cons, List.map_nil, List.length_cons, List.length_nil, List.set_cons_zero, List.set_cons_succ, List.take_succ_cons, List.take_zero, List.take_nil, List.drop_succ_cons, List.drop_zero, List.drop_nil, List.append_nil, List.all_cons, List.all_nil, Bool.and_true, Bool.true_and, Bool.and_false, Bool.false_and, Nat.reduceAdd, Nat.zero_add, Nat.add_zero, Nat.reduceEqDiff, if_true, if_false, reduceIte]))
    | (show SQ _ _ _ _ _ _ _ _; apply q_gs; exact rfl; exact rfl; exact rfl; exact rfl; all_goals intro h)
    | (show AW _ _ _ _ _ _ _ _; first | refine aw_region ?_ | (refine aw_seqk ?_; intro K hK) | refine aw_block ?_ | (apply aw_cond_t; exact rfl; exact rfl) | (apply aw_cond_f; exact rfl; exact rfl) | (apply aw_cond_t; exact rfl; exact (by assumption)) | (apply aw_cond_f; exact rfl; exact (by assumption)) | refine aw_ret ?_ | refine aw_exit ?_ | refine aw_skip ?_ | (apply aw_ite; exact rfl; all_goals intro h))
    | refine thn_n ?_
    | (refine hK _ _ _ ?_; clear hK K)
    | refine thn_e ?_
    | refine thn_r ?_
    | refine inb_same ?_
    | refine inb_ne rfl ?_
    | refine inb_n ?_
    | refine inb_r ?_
    | (clear hK K; refine hK _ _ _ ?_; clear hK K)
    | (clear hK K; clear hK K; refine hK _ _ _ ?_; clear hK K)
    | (clear hK K; clear hK K; clear hK K; refine hK _ _ _ ?_; clear hK K))); all_goals (repeat (clear hK K)))
    all_goals refine fin_r (fin_b rfl ?_)
    all_goals clear b1 b2
    all_goals simp_all [okB, inB]
    all_goals (have hc := cnt_neg b; first | omega | (rw [Bool.eq_iff_iff]; simp only [Bool.and_eq_true, decide_eq_true_eq]; omega) | (intros; omega))
  · have b1 : inB b.ra 1 100000 = false := by simp [inB]; omega
    have b2 : (!inB b.ra 1 100000) = true := by rw [b1]; rfl
    refine RO.ofv' Try.func45 Try.ntmps45 rfl (goFn_of Try.func45 rfl (by kernel_rfl)) rfl rfl ?_
    unfold baL
    ((repeat' (first
    | (show SQ _ _ _ _ _ _ _ _; first | apply sq_nil | (apply q_move; exact rfl; exact rfl) | (apply q_assign; exact rfl; exact rfl) | (apply q_pick_t; exact rfl; exact rfl; exact rfl; exact (by first | assumption | exact rfl)) | (apply q_pick_f; exact rfl; exact rfl; exact rfl; exact (by first | assumption | exact rfl)) | (apply q_fieldAddr; exact rfl; exact rfl; exact (ty rfl); exact rfl; exact rfl; exact rfl; exact rfl) | (apply q_not; exact rfl; exact rfl) | (apply q_sub; exact rfl; exact rfl; exact rfl) | (apply q_eql; exact rfl; exact rfl; exact rfl) | (apply q_seql; exact rfl; exact rfl; exact rfl) | (apply q_beql; exact rfl; exact rfl; exact rfl; exact (ty rfl); exact rfl) | (apply q_ld1d; exact rfl; exact rfl; exact (ty rfl); exact rfl; exact rfl) | (apply q_ld1p; exact rfl; exact rfl; exact (ty rfl); exact rfl; exact rfl; exact (by first | rfl | assumption | ((try simp only [Nat.zero_add]); refine List.getElem?_set_self ?_; (try simp only [List.length_set]); assumption)); exact rfl) | (apply q_eqa; exact rfl; exact rfl; exact rfl; kernel_rfl; assumption; exact rfl; exact rfl) | (apply q_nil_ev; exact rfl; exact rfl; exact rfl; exact (ty rfl); exact rfl) | (apply q_nil_el; exact rfl; exact rfl; exact rfl; exact (ty rfl); exact rfl; exact (by first | omega | (simp; done) | (simp; omega))) | (apply q_nil_ed; exact rfl; exact rfl; exact rfl; exact (ty rfl); exact rfl; exact (by first | omega | (simp; done) | (simp; omega))) | (apply q_g; exact rfl; exact rfl; exact rfl; exact (by assumption)) | (apply q_s; exact rfl; exact rfl; exact rfl; exact (by assumption); exact rfl) | (apply q_g; exact rfl; exact rfl; exact rfl; exact rfl) | (apply q_s; exact rfl; exact rfl; exact rfl; exact rfl; exact rfl) | (apply q_sU; exact rfl; exact rfl; exact rfl; exact rfl))
    | (show SQ _ _ _ _ _ _ _ _; (first | (apply q_ldad; exact rfl; exact rfl; exact (ty rfl); exact rfl; exact rfl) | (apply q_ldap; exact rfl; exact rfl; exact (ty rfl); exact rfl; exact rfl; exact (by first | rfl | assumption | ((try simp only [Nat.zero_add]); refine List.getElem?_set_self ?_; (try simp only [List.length_set]); assumption)); exact rfl) | (apply q_box; exact rfl; exact rfl; exact rfl) | (apply q_callU; exact rfl; exact rfl; exact rfl; exact FzL.of rfl; exact IsName_ro _ (by assumption) _) | (apply q_callU; exact rfl; exact rfl; exact rfl; exact FzL.of rfl; exact within_ro _ _ _ _)); (try simp only [put, rowsOf, plR, List.all_cons, selE, ovr, setH, del, cellsA, splice, isV, List.nil_append, List.cons_append, List.map_cons, List.map_nil, List.length_cons, List.length_nil, List.set_cons_zero, List.set_cons_succ, List.take_succ_cons, List.take_zero, List.take_nil, List.drop_succ_cons, List.drop_zero, List.drop_nil, List.append_nil, List.all_cons, List.all_nil, Bool.and_true, Bool.true_and, Bool.and_false, Bool.false_and, Nat.reduceAdd, Nat.zero_add, Nat.add_zero, Nat.reduceEqDiff, if_true, if_false, reduceIte]))
    | (show SQ _ _ _ _ _ _ _ _; apply q_gs; exact rfl; exact rfl; exact rfl; exact rfl; all_goals intro h)
    | (show AW _ _ _ _ _ _ _ _; first | refine aw_region ?_ | (refine aw_seqk ?_; intro K hK) | refine aw_block ?_ | (apply aw_cond_t; exact rfl; exact rfl) | (apply aw_cond_f; exact rfl; exact rfl) | (apply aw_cond_t; exact rfl; exact (by assumption)) | (apply aw_cond_f; exact rfl; exact (by assumption)) | refine aw_ret ?_ | refine aw_exit ?_ | refine aw_skip ?_ | (apply aw_ite; exact rfl; all_goals intro h))
    | refine thn_n ?_
    | (refine hK _ _ _ ?_; clear hK K)
    | refine thn_e ?_
    | refine thn_r ?_
    | refine inb_same ?_
    | refine inb_ne rfl ?_
    | refine inb_n ?_
    | refine inb_r ?_
    | (clear hK K; refine hK _ _ _ ?_; clear hK K)
    | (clear hK K; clear hK K; refine hK _ _ _ ?_; clear hK K)
    | (clear hK K; clear hK K; clear hK K; refine hK _ _ _ ?_; clear hK K))); all_goals (repeat (clear hK K)))
    all_goals refine fin_r (fin_b rfl ?_)
    all_goals clear b1 b2
    all_goals simp_all [okB, inB]
    all_goals (have hc := cnt_neg b; first | omega | (rw [Bool.eq_iff_iff]; simp only [Bool.and_eq_true, decide_eq_true_eq]; omega) | (intros; omega))
def mid (b : Band) (c : Int) : Int := IntKind.i64.wrap (IntKind.i64.wrap (b.lo + IntKind.i64.wrap (c * b.ra)) + IntKind.i64.wrap (b.ra.tdiv 2))
def bgn (b : Band) (c : Int) : Int := IntKind.i64.wrap (b.lo + IntKind.i64.wrap (c * b.ra))
def hasB (b : Band) (c : Int) : Bool := inB c 0 (IntKind.i64.wrap (cnt b - 1))
theorem ra_pos {b : Band} (h : okB b = true) : b.ra ≠ 0 := by
  simp [okB, inB] at h; omega
set_option maxHeartbeats 4000000 in
theorem begin_ro (b : Band) (c : Int) (k : Nat) : RO Try.prog 34 [.agg (baL b), .v (.int .i64 c)] k (.v (.int .i64 (IntKind.i64.wrap (b.lo + IntKind.i64.wrap (c * b.ra))))) [] k := by
  refine RO.ofv' Try.func34 Try.ntmps34 rfl (goFn_of Try.func34 rfl (by kernel_rfl)) rfl rfl ?_
  unfold baL
  ((repeat' (first
    | (show SQ _ _ _ _ _ _ _ _; first | apply sq_nil | (apply q_move; exact rfl; exact rfl) | (apply q_assign; exact rfl; exact rfl) | (apply q_fieldAddr; exact rfl; exact rfl; exact (ty rfl); exact rfl; exact rfl; exact rfl; exact rfl) | (apply q_add; exact rfl; exact rfl; exact rfl) | (apply q_mul; exact rfl; exact rfl; exact rfl) | (apply q_cat; exact rfl; exact rfl; exact rfl; exact (by first | omega | (simp; done) | (simp; omega))) | (apply q_ld1d; exact rfl; exact rfl; exact (ty rfl); exact rfl; exact rfl) | (apply q_ld1p; exact rfl; exact rfl; exact (ty rfl); exact rfl; exact rfl; exact (by first | rfl | assumption | ((try simp only [Nat.zero_add]); refine List.getElem?_set_self ?_; (try simp only [List.length_set]); assumption)); exact rfl))
    | (show SQ _ _ _ _ _ _ _ _; (first | (apply q_ldad; exact rfl; exact rfl; exact (ty rfl); exact rfl; exact rfl) | (apply q_ldap; exact rfl; exact rfl; exact (ty rfl); exact rfl; exact rfl; exact (by first | rfl | assumption | ((try simp only [Nat.zero_add]); refine List.getElem?_set_self ?_; (try simp only [List.length_set]); assumption)); exact rfl) | (apply q_box; exact rfl; exact rfl; exact rfl)); (try simp only [put, rowsOf, plR, List.all_cons, selE, ovr, setH, del, cellsA, splice, isV, List.nil_append, List.cons_append, List.map_cons, List.map_nil, List.length_cons, List.length_nil, List.set_cons_zero, List.set_cons_succ, List.take_succ_cons, List.take_zero, List.take_nil, List.drop_succ_cons, List.drop_zero, List.drop_nil, List.append_nil, List.all_cons, List.all_nil, Bool.and_true, Bool.true_and, Bool.and_false, Bool.false_and, Nat.reduceAdd, Nat.zero_add, Nat.add_zero, Nat.reduceEqDiff, if_true, if_false, reduceIte]))
    | (show AW _ _ _ _ _ _ _ _; first | refine aw_region ?_ | (refine aw_seqk ?_; intro K hK) | refine aw_block ?_ | (apply aw_cond_t; exact rfl; exact rfl) | (apply aw_cond_f; exact rfl; exact rfl) | (apply aw_cond_t; exact rfl; exact (by assumption)) | (apply aw_cond_f; exact rfl; exact (by assumption)) | refine aw_ret ?_ | refine aw_exit ?_ | refine aw_skip ?_ | (apply aw_ite; exact rfl; all_goals intro h))
    | refine thn_n ?_
    | (refine hK _ _ _ ?_; clear hK K)
    | refine thn_e ?_
    | refine thn_r ?_
    | refine inb_same ?_
    | refine inb_ne rfl ?_
    | refine inb_n ?_
    | refine inb_r ?_
    | (clear hK K; refine hK _ _ _ ?_; clear hK K)
    | (clear hK K; clear hK K; refine hK _ _ _ ?_; clear hK K)
    | (clear hK K; clear hK K; clear hK K; refine hK _ _ _ ?_; clear hK K))); all_goals (repeat (clear hK K)))
  all_goals refine fin_r (fin_i rfl ?_)
  all_goals rfl
set_option maxHeartbeats 4000000 in
theorem l15Middle_ro (b : Band) (c : Int) (k : Nat) : RO Try.prog 29 [.dptr (baL b), .v (.int .i64 c)] k (.v (.int .i64 (mid b c))) [] k := by
  refine RO.ofv' Try.func29 Try.ntmps29 rfl (goFn_of Try.func29 rfl (by kernel_rfl)) rfl rfl ?_
  unfold baL
  ((repeat' (first
    | (show SQ _ _ _ _ _ _ _ _; first | apply sq_nil | (apply q_move; exact rfl; exact rfl) | (apply q_assign; exact rfl; exact rfl) | (apply q_fieldAddr; exact rfl; exact rfl; exact (ty rfl); exact rfl; exact rfl; exact rfl; exact rfl) | (apply q_nilc; exact rfl; exact rfl; exact rfl) | (apply q_nilf; exact rfl; exact rfl) | (apply q_add; exact rfl; exact rfl; exact rfl) | (apply q_mul; exact rfl; exact rfl; exact rfl) | (apply q_quo; exact rfl; exact rfl; exact rfl; exact (by first | decide | omega)) | (apply q_cat; exact rfl; exact rfl; exact rfl; exact (by first | omega | (simp; done) | (simp; omega))) | (apply q_ld1d; exact rfl; exact rfl; exact (ty rfl); exact rfl; exact rfl) | (apply q_ld1p; exact rfl; exact rfl; exact (ty rfl); exact rfl; exact rfl; exact (by first | rfl | assumption | ((try simp only [Nat.zero_add]); refine List.getElem?_set_self ?_; (try simp only [List.length_set]); assumption)); exact rfl))
    | (show SQ _ _ _ _ _ _ _ _; (first | (apply q_ldad; exact rfl; exact rfl; exact (ty rfl); exact rfl; exact rfl) | (apply q_ldap; exact rfl; exact rfl; exact (ty rfl); exact rfl; exact rfl; exact (by first | rfl | assumption | ((try simp only [Nat.zero_add]); refine List.getElem?_set_self ?_; (try simp only [List.length_set]); assumption)); exact rfl)); (try simp only [put, rowsOf, plR, List.all_cons, selE, ovr, setH, del, cellsA, splice, isV, List.nil_append, List.cons_append, List.map_cons, List.map_nil, List.length_cons, List.length_nil, List.set_cons_zero, List.set_cons_succ, List.take_succ_cons, List.take_zero, List.take_nil, List.drop_succ_cons, List.drop_zero, List.drop_nil, List.append_nil, List.all_cons, List.all_nil, Bool.and_true, Bool.true_and, Bool.and_false, Bool.false_and, Nat.reduceAdd, Nat.zero_add, Nat.add_zero, Nat.reduceEqDiff, if_true, if_false, reduceIte]))
    | (show DE _ _ _ _ _ _ _ _ _ _ _ _; first | (apply e_move; exact rfl; exact rfl; exact rfl) | (apply e_assign; exact rfl; exact rfl; exact rfl) | (apply e_fieldAddr; exact rfl; exact rfl; exact (ty rfl); exact rfl; exact rfl; exact rfl; exact rfl; exact rfl) | (apply e_nilc; exact rfl; exact rfl; exact rfl; exact rfl) | (apply e_nilf; exact rfl; exact rfl; exact rfl) | (apply e_add; exact rfl; exact rfl; exact rfl; exact rfl) | (apply e_mul; exact rfl; exact rfl; exact rfl; exact rfl) | (apply e_quo; exact rfl; exact rfl; exact rfl; exact (by first | decide | omega); exact rfl) | (apply e_cat; exact rfl; exact rfl; exact rfl; exact (by first | omega | (simp; done) | (simp; omega)); exact rfl) | (apply e_ld1d; exact rfl; exact rfl; exact (ty rfl); exact rfl; exact rfl; exact rfl) | (apply e_ld1p; exact rfl; exact rfl; exact (ty rfl); exact rfl; exact rfl; exact (by first | rfl | assumption | ((try simp only [Nat.zero_add]); refine List.getElem?_set_self ?_; (try simp only [List.length_set]); assumption)); exact rfl; exact rfl))
    | (show DE _ _ _ _ _ _ _ _ _ _ _ _; (first | (apply dr_nil; exact trivial) | (apply e_ldad; exact rfl; exact rfl; exact (ty rfl); exact rfl; exact rfl; exact rfl) | (apply e_ldap; exact rfl; exact rfl; exact (ty rfl); exact rfl; exact rfl; exact (by first | rfl | assumption | ((try simp only [Nat.zero_add]); refine List.getElem?_set_self ?_; (try simp only [List.length_set]); assumption)); exact rfl; exact rfl)); (try simp only [put, rowsOf, plR, List.all_cons, selE, ovr, setH, del, cellsA, splice, isV, List.nil_append, List.cons_append, List.map_cons, List.map_nil, List.length_cons, List.length_nil, List.set_cons_zero, List.set_cons_succ, List.take_succ_cons, List.take_zero, List.take_nil, List.drop_succ_cons, List.drop_zero, List.drop_nil, List.append_nil, List.all_cons, List.all_nil, Bool.and_true, Bool.true_and, Bool.and_false, Bool.false_and, Nat.reduceAdd, Nat.zero_add, Nat.add_zero, Nat.reduceEqDiff, if_true, if_false, reduceIte]))
    | (show AW _ _ _ _ _ _ _ _; first | refine aw_region ?_ | (refine aw_seqk ?_; intro K hK) | refine aw_block ?_ | (apply aw_cond_t; exact rfl; exact rfl) | (apply aw_cond_f; exact rfl; exact rfl) | (apply aw_cond_t; exact rfl; exact (by assumption)) | (apply aw_cond_f; exact rfl; exact (by assumption)) | refine aw_ret ?_ | refine aw_exit ?_ | refine aw_skip ?_ | refine aw_drawE (id := 1) [0, 1, 3, 7, 0, 0, 32, 96, 224, 496, 1023, 0, 2048, 6144, 14336, 30720, 65535, 131071] [0, 0, 0, 1, 0, 0, 0, 0, 1, 0, 0, 0, 0, 0, 1, 0, 0, 0] mixed (by kernel_rfl) ?_ | (apply aw_ite; exact rfl; all_goals intro h))
    | refine thn_n ?_
    | (refine hK _ _ _ ?_; clear hK K)
    | refine thn_e ?_
    | refine thn_r ?_
    | refine inb_same ?_
    | refine inb_ne rfl ?_
    | refine inb_n ?_
    | refine inb_r ?_
    | (clear hK K; refine hK _ _ _ ?_; clear hK K)
    | (clear hK K; clear hK K; refine hK _ _ _ ?_; clear hK K)
    | (clear hK K; clear hK K; clear hK K; refine hK _ _ _ ?_; clear hK K))); all_goals (repeat (clear hK K)))
  all_goals refine fin_r (fin_i rfl ?_)
  all_goals rfl
set_option maxHeartbeats 4000000 in
theorem middle_ro (b : Band) (c : Int) (k : Nat) : RO Try.prog 31 [.agg (baL b), .v (.int .i64 c)] k (.v (.int .i64 (mid b c))) [] k := by
  refine RO.ofv' Try.func31 Try.ntmps31 rfl (goFn_of Try.func31 rfl (by kernel_rfl)) rfl rfl ?_
  unfold baL
  ((repeat' (first
    | (show SQ _ _ _ _ _ _ _ _; first | apply sq_nil | (apply q_move; exact rfl; exact rfl) | (apply q_assign; exact rfl; exact rfl) | (apply q_fieldAddr; exact rfl; exact rfl; exact (ty rfl); exact rfl; exact rfl; exact rfl; exact rfl) | (apply q_add; exact rfl; exact rfl; exact rfl) | (apply q_quo; exact rfl; exact rfl; exact rfl; exact (by first | decide | omega)) | (apply q_cat; exact rfl; exact rfl; exact rfl; exact (by first | omega | (simp; done) | (simp; omega))) | (apply q_ld1d; exact rfl; exact rfl; exact (ty rfl); exact rfl; exact rfl) | (apply q_ld1p; exact rfl; exact rfl; exact (ty rfl); exact rfl; exact rfl; exact (by first | rfl | assumption | ((try simp only [Nat.zero_add]); refine List.getElem?_set_self ?_; (try simp only [List.length_set]); assumption)); exact rfl))
    | (show SQ _ _ _ _ _ _ _ _; (first | (apply q_ldad; exact rfl; exact rfl; exact (ty rfl); exact rfl; exact rfl) | (apply q_ldap; exact rfl; exact rfl; exact (ty rfl); exact rfl; exact rfl; exact (by first | rfl | assumption | ((try simp only [Nat.zero_add]); refine List.getElem?_set_self ?_; (try simp only [List.length_set]); assumption)); exact rfl) | (apply q_box; exact rfl; exact rfl; exact rfl) | (apply q_callU; exact rfl; exact rfl; exact rfl; exact FzL.of rfl; exact begin_ro b c _) | (apply q_callU; exact rfl; exact rfl; exact rfl; rotate_left; exact begin_ro b c _; rotate_right; focus ((repeat' (first | exact FzL.nil | exact (by assumption : FzC _) _ | refine FzL.cons ?_ ?_ | exact Fz.of rfl | exact Fz.nil | exact Fz.emp | (apply Fz.fnC; assumption) | (apply Fz.sl2; exact rfl; exact (by first | omega | (simp; done) | (simp; omega)); first | exact rfl | exact dt_full (by first | omega | (simp; done) | (simp; omega)) | assumption) | apply Fz.agg | (apply Fz.ptrL; exact rfl; first | exact rfl | assumption) | apply Fz.fnL)); done))); (try simp only [put, rowsOf, plR, List.all_cons, selE, ovr, setH, del, cellsA, splice, isV, List.nil_append, List.cons_append, List.map_cons, List.map_nil, List.length_cons, List.length_nil, List.set_cons_zero, List.set_cons_succ, List.take_succ_cons, List.take_zero, List.take_nil, List.drop_succ_cons, List.drop_zero, List.drop_nil, List.append_nil, List.all_cons, List.all_nil, Bool.and_true, Bool.true_and, Bool.and_false, Bool.false_and, Nat.reduceAdd, Nat.zero_add, Nat.add_zero, Nat.reduceEqDiff, if_true, if_false, reduceIte]))
    | (show DE _ _ _ _ _ _ _ _ _ _ _ _; first | (apply e_move; exact rfl; exact rfl; exact rfl) | (apply e_assign; exact rfl; exact rfl; exact rfl) | (apply e_fieldAddr; exact rfl; exact rfl; exact (ty rfl); exact rfl; exact rfl; exact rfl; exact rfl; exact rfl) | (apply e_add; exact rfl; exact rfl; exact rfl; exact rfl) | (apply e_quo; exact rfl; exact rfl; exact rfl; exact (by first | decide | omega); exact rfl) | (apply e_cat; exact rfl; exact rfl; exact rfl; exact (by first | omega | (simp; done) | (simp; omega)); exact rfl) | (apply e_ld1d; exact rfl; exact rfl; exact (ty rfl); exact rfl; exact rfl; exact rfl) | (apply e_ld1p; exact rfl; exact rfl; exact (ty rfl); exact rfl; exact rfl; exact (by first | rfl | assumption | ((try simp only [Nat.zero_add]); refine List.getElem?_set_self ?_; (try simp only [List.length_set]); assumption)); exact rfl; exact rfl))
    | (show DE _ _ _ _ _ _ _ _ _ _ _ _; (first | (apply dr_nil; exact trivial) | (apply e_ldad; exact rfl; exact rfl; exact (ty rfl); exact rfl; exact rfl; exact rfl) | (apply e_ldap; exact rfl; exact rfl; exact (ty rfl); exact rfl; exact rfl; exact (by first | rfl | assumption | ((try simp only [Nat.zero_add]); refine List.getElem?_set_self ?_; (try simp only [List.length_set]); assumption)); exact rfl; exact rfl) | (apply e_box; exact rfl; exact rfl; exact rfl; exact rfl) | (apply e_callU; exact rfl; exact rfl; exact rfl; exact FzL.of rfl; exact begin_ro b c _; exact rfl) | (apply e_callU; exact rfl; exact rfl; exact rfl; rotate_left; exact begin_ro b c _; exact rfl; rotate_right; focus ((repeat' (first | exact FzL.nil | exact (by assumption : FzC _) _ | refine FzL.cons ?_ ?_ | exact Fz.of rfl | exact Fz.nil | exact Fz.emp | (apply Fz.fnC; assumption) | (apply Fz.sl2; exact rfl; exact (by first | omega | (simp; done) | (simp; omega)); first | exact rfl | exact dt_full (by first | omega | (simp; done) | (simp; omega)) | assumption) | apply Fz.agg | (apply Fz.ptrL; exact rfl; first | exact rfl | assumption) | apply Fz.fnL)); done))); (try simp only [put, rowsOf, plR, List.all_cons, selE, ovr, setH, del, cellsA, splice, isV, List.nil_append, List.cons_append, List.map_cons, List.map_nil, List.length_cons, List.length_nil, List.set_cons_zero, List.set_cons_succ, List.take_succ_cons, List.take_zero, List.take_nil, List.drop_succ_cons, List.drop_zero, List.drop_nil, List.append_nil, List.all_cons, List.all_nil, Bool.and_true, Bool.true_and, Bool.and_false, Bool.false_and, Nat.reduceAdd, Nat.zero_add, Nat.add_zero, Nat.reduceEqDiff, if_true, if_false, reduceIte]))
    | (show AW _ _ _ _ _ _ _ _; first | refine aw_region ?_ | (refine aw_seqk ?_; intro K hK) | refine aw_block ?_ | (apply aw_cond_t; exact rfl; exact rfl) | (apply aw_cond_f; exact rfl; exact rfl) | (apply aw_cond_t; exact rfl; exact (by assumption)) | (apply aw_cond_f; exact rfl; exact (by assumption)) | refine aw_ret ?_ | refine aw_exit ?_ | refine aw_skip ?_ | refine aw_drawE (id := 1) [0, 0, 3, 0, 8, 24, 63, 127] [1, 0, 1, 0, 1, 0, 0, 0] mixed (by kernel_rfl) ?_ | (apply aw_ite; exact rfl; all_goals intro h))
    | refine thn_n ?_
    | (refine hK _ _ _ ?_; clear hK K)
    | refine thn_e ?_
    | refine thn_r ?_
    | refine inb_same ?_
    | refine inb_ne rfl ?_
    | refine inb_n ?_
    | refine inb_r ?_
    | (clear hK K; refine hK _ _ _ ?_; clear hK K)
    | (clear hK K; clear hK K; refine hK _ _ _ ?_; clear hK K)
    | (clear hK K; clear hK K; clear hK K; refine hK _ _ _ ?_; clear hK K))); all_goals (repeat (clear hK K)))
  all_goals refine fin_r (fin_i rfl ?_)
  all_goals rfl
set_option maxHeartbeats 4000000 in
theorem l15Has_ro (b : Band) (c : Int) (h : b.ra ≠ 0) (k : Nat) : RO Try.prog 28 [.dptr (baL b), .v (.int .i64 c)] k (.v (.bool (hasB b c))) [] k := by
  refine RO.ofv' Try.func28 Try.ntmps28 rfl (goFn_of Try.func28 rfl (by kernel_rfl)) rfl rfl ?_
  unfold baL
  ((repeat' (first
    | (show SQ _ _ _ _ _ _ _ _; first | apply sq_nil | (apply q_move; exact rfl; exact rfl) | (apply q_assign; exact rfl; exact rfl) | (apply q_sub; exact rfl; exact rfl; exact rfl))
    | (show SQ _ _ _ _ _ _ _ _; (first | (apply q_callU; exact rfl; exact rfl; exact rfl; exact FzL.of rfl; exact l15Count_ro b (by assumption) _) | (apply q_callU; exact rfl; exact rfl; exact rfl; exact FzL.of rfl; exact l00In_ro _ _ _ _) | (apply q_callU; exact rfl; exact rfl; exact rfl; rotate_left; exact l15Count_ro b (by assumption) _; rotate_right; focus ((repeat' (first | exact FzL.nil | exact (by assumption : FzC _) _ | refine FzL.cons ?_ ?_ | exact Fz.of rfl | exact Fz.nil | exact Fz.emp | (apply Fz.fnC; assumption) | (apply Fz.sl2; exact rfl; exact (by first | omega | (simp; done) | (simp; omega)); first | exact rfl | exact dt_full (by first | omega | (simp; done) | (simp; omega)) | assumption) | apply Fz.agg | (apply Fz.ptrL; exact rfl; first | exact rfl | assumption) | apply Fz.fnL)); done))); (try simp only [put, rowsOf, plR, List.all_cons, selE, ovr, setH, del, cellsA, splice, isV, List.nil_append, List.cons_append, List.map_cons, List.map_nil, List.length_cons, List.length_nil, List.set_cons_zero, List.set_cons_succ, List.take_succ_cons, List.take_zero, List.take_nil, List.drop_succ_cons, List.drop_zero, List.drop_nil, List.append_nil, List.all_cons, List.all_nil, Bool.and_true, Bool.true_and, Bool.and_false, Bool.false_and, Nat.reduceAdd, Nat.zero_add, Nat.add_zero, Nat.reduceEqDiff, if_true, if_false, reduceIte]))
    | (show AW _ _ _ _ _ _ _ _; first | refine aw_region ?_ | (refine aw_seqk ?_; intro K hK) | refine aw_block ?_ | (apply aw_cond_t; exact rfl; exact rfl) | (apply aw_cond_f; exact rfl; exact rfl) | (apply aw_cond_t; exact rfl; exact (by assumption)) | (apply aw_cond_f; exact rfl; exact (by assumption)) | refine aw_ret ?_ | refine aw_exit ?_ | refine aw_skip ?_ | (apply aw_ite; exact rfl; all_goals intro h))
    | refine thn_n ?_
    | (refine hK _ _ _ ?_; clear hK K)
    | refine thn_e ?_
    | refine thn_r ?_
    | refine inb_same ?_
    | refine inb_ne rfl ?_
    | refine inb_n ?_
    | refine inb_r ?_
    | (clear hK K; refine hK _ _ _ ?_; clear hK K)
    | (clear hK K; clear hK K; refine hK _ _ _ ?_; clear hK K)
    | (clear hK K; clear hK K; clear hK K; refine hK _ _ _ ?_; clear hK K))); all_goals (repeat (clear hK K)))
  all_goals refine fin_r (fin_b rfl ?_)
  all_goals rfl
def cod (b : Band) (c : Int) : Int := if okB b = true then (if hasB b c = true then 0 else 2) else 1
set_option maxHeartbeats 4000000 in
theorem code_ro (b : Band) (c : Int) (hs : b.sm) (k : Nat) : RO Try.prog 30 [.agg (baL b), .v (.int .i64 c)] k (.v (.int .i64 (cod b c))) [] k := by
  cases ho : okB b with
  | false =>
    have b1 : (!okB b) = true := by rw [ho]; rfl
    refine RO.ofv' Try.func30 Try.ntmps30 rfl (goFn_of Try.func30 rfl (by kernel_rfl)) rfl rfl ?_
    unfold baL
    ((repeat' (first
    | (show SQ _ _ _ _ _ _ _ _; first | apply sq_nil | (apply q_move; exact rfl; exact rfl) | (apply q_assign; exact rfl; exact rfl) | (apply q_not; exact rfl; exact rfl) | (apply q_sub; exact rfl; exact rfl; exact rfl) | (apply q_ld1d; exact rfl; exact rfl; exact (ty rfl); exact rfl; exact rfl) | (apply q_ld1p; exact rfl; exact rfl; exact (ty rfl); exact rfl; exact rfl; exact (by first | rfl | assumption | ((try simp only [Nat.zero_add]); refine List.getElem?_set_self ?_; (try simp only [List.length_set]); assumption)); exact rfl))
    | (show SQ _ _ _ _ _ _ _ _; (first | (apply q_ldad; exact rfl; exact rfl; exact (ty rfl); exact rfl; exact rfl) | (apply q_ldap; exact rfl; exact rfl; exact (ty rfl); exact rfl; exact rfl; exact (by first | rfl | assumption | ((try simp only [Nat.zero_add]); refine List.getElem?_set_self ?_; (try simp only [List.length_set]); assumption)); exact rfl) | (apply q_box; exact rfl; exact rfl; exact rfl) | (apply q_callU; exact rfl; exact rfl; exact rfl; exact FzL.of rfl; exact ValidBand_ro b hs _) | (apply q_callU; exact rfl; exact rfl; exact rfl; rotate_left; exact ValidBand_ro b hs _; rotate_right; focus ((repeat' (first | exact FzL.nil | exact (by assumption : FzC _) _ | refine FzL.cons ?_ ?_ | exact Fz.of rfl | exact Fz.nil | exact Fz.emp | (apply Fz.fnC; assumption) | (apply Fz.sl2; exact rfl; exact (by first | omega | (simp; done) | (simp; omega)); first | exact rfl | exact dt_full (by first | omega | (simp; done) | (simp; omega)) | assumption) | apply Fz.agg | (apply Fz.ptrL; exact rfl; first | exact rfl | assumption) | apply Fz.fnL)); done))); (try simp only [put, rowsOf, plR, List.all_cons, selE, ovr, setH, del, cellsA, splice, isV, List.nil_append, List.cons_append, List.map_cons, List.map_nil, List.length_cons, List.length_nil, List.set_cons_zero, List.set_cons_succ, List.take_succ_cons, List.take_zero, List.take_nil, List.drop_succ_cons, List.drop_zero, List.drop_nil, List.append_nil, List.all_cons, List.all_nil, Bool.and_true, Bool.true_and, Bool.and_false, Bool.false_and, Nat.reduceAdd, Nat.zero_add, Nat.add_zero, Nat.reduceEqDiff, if_true, if_false, reduceIte]))
    | (show AW _ _ _ _ _ _ _ _; first | refine aw_region ?_ | (refine aw_seqk ?_; intro K hK) | refine aw_block ?_ | (apply aw_cond_t; exact rfl; exact rfl) | (apply aw_cond_f; exact rfl; exact rfl) | (apply aw_cond_t; exact rfl; exact (by assumption)) | (apply aw_cond_f; exact rfl; exact (by assumption)) | refine aw_ret ?_ | refine aw_exit ?_ | refine aw_skip ?_ | (apply aw_ite; exact rfl; all_goals intro h))
    | refine thn_n ?_
    | (refine hK _ _ _ ?_; clear hK K)
    | refine thn_e ?_
    | refine thn_r ?_
    | refine inb_same ?_
    | refine inb_ne rfl ?_
    | refine inb_n ?_
    | refine inb_r ?_
    | (clear hK K; refine hK _ _ _ ?_; clear hK K)
    | (clear hK K; clear hK K; refine hK _ _ _ ?_; clear hK K)
    | (clear hK K; clear hK K; clear hK K; refine hK _ _ _ ?_; clear hK K))); all_goals (repeat (clear hK K)))
    all_goals refine fin_r (fin_i rfl ?_)
    all_goals simp [cod, ho]
  | true =>
    have b1 : (!okB b) = false := by rw [ho]; rfl
    have hr := ra_pos ho
    refine RO.ofv' Try.func30 Try.ntmps30 rfl (goFn_of Try.func30 rfl (by kernel_rfl)) rfl rfl ?_
    unfold baL
    ((repeat' (first
    | (show SQ _ _ _ _ _ _ _ _; first | apply sq_nil | (apply q_move; exact rfl; exact rfl) | (apply q_assign; exact rfl; exact rfl) | (apply q_not; exact rfl; exact rfl) | (apply q_sub; exact rfl; exact rfl; exact rfl) | (apply q_ld1d; exact rfl; exact rfl; exact (ty rfl); exact rfl; exact rfl) | (apply q_ld1p; exact rfl; exact rfl; exact (ty rfl); exact rfl; exact rfl; exact (by first | rfl | assumption | ((try simp only [Nat.zero_add]); refine List.getElem?_set_self ?_; (try simp only [List.length_set]); assumption)); exact rfl))
    | (show SQ _ _ _ _ _ _ _ _; (first | (apply q_ldad; exact rfl; exact rfl; exact (ty rfl); exact rfl; exact rfl) | (apply q_ldap; exact rfl; exact rfl; exact (ty rfl); exact rfl; exact rfl; exact (by first | rfl | assumption | ((try simp only [Nat.zero_add]); refine List.getElem?_set_self ?_; (try simp only [List.length_set]); assumption)); exact rfl) | (apply q_box; exact rfl; exact rfl; exact rfl) | (apply q_callU; exact rfl; exact rfl; exact rfl; exact FzL.of rfl; exact ValidBand_ro b hs _) | (apply q_callU; exact rfl; exact rfl; exact rfl; exact FzL.of rfl; exact count_ro b (by assumption) _) | (apply q_callU; exact rfl; exact rfl; exact rfl; exact FzL.of rfl; exact within_ro _ _ _ _) | (apply q_callU; exact rfl; exact rfl; exact rfl; rotate_left; exact ValidBand_ro b hs _; rotate_right; focus ((repeat' (first | exact FzL.nil | exact (by assumption : FzC _) _ | refine FzL.cons ?_ ?_ | exact Fz.of rfl | exact Fz.nil | exact Fz.emp | (apply Fz.fnC; assumption) | (apply Fz.sl2; exact rfl; exact (by first | omega | (simp; done) | (simp; omega)); first | exact rfl | exact dt_full (by first | omega | (simp; done) | (simp; omega)) | assumption) | apply Fz.agg | (apply Fz.ptrL; exact rfl; first | exact rfl | assumption) | apply Fz.fnL)); done)) | (apply q_callU; exact rfl; exact rfl; exact rfl; rotate_left; exact count_ro b (by assumption) _; rotate_right; focus ((repeat' (first | exact FzL.nil | exact (by assumption : FzC _) _ | refine FzL.cons ?_ ?_ | exact Fz.of rfl | exact Fz.nil | exact Fz.emp | (apply Fz.fnC; assumption) | (apply Fz.sl2; exact rfl; exact (by first | omega | (simp; done) | (simp; omega)); first | exact rfl | exact dt_full (by first | omega | (simp; done) | (simp; omega)) | assumption) | apply Fz.agg | (apply Fz.ptrL; exact rfl; first | exact rfl | assumption) | apply Fz.fnL)); done))); (try simp only [put, rowsOf, plR, List.all_cons, selE, ovr, setH, del, cellsA, splice, isV, List.nil_append, List.cons_append, List.map_cons, List.map_nil, List.length_cons, List.length_nil, List.set_cons_zero, List.set_cons_succ, List.take_succ_cons, List.take_zero, List.take_nil, List.drop_succ_cons, List.drop_zero, List.drop_nil, List.append_nil, List.all_cons, List.all_nil, Bool.and_true, Bool.true_and, Bool.and_false, Bool.false_and, Nat.reduceAdd, Nat.zero_add, Nat.add_zero, Nat.reduceEqDiff, if_true, if_false, reduceIte]))
    | (show AW _ _ _ _ _ _ _ _; first | refine aw_region ?_ | (refine aw_seqk ?_; intro K hK) | refine aw_block ?_ | (apply aw_cond_t; exact rfl; exact rfl) | (apply aw_cond_f; exact rfl; exact rfl) | (apply aw_cond_t; exact rfl; exact (by assumption)) | (apply aw_cond_f; exact rfl; exact (by assumption)) | refine aw_ret ?_ | refine aw_exit ?_ | refine aw_skip ?_ | (apply aw_ite; exact rfl; all_goals intro h))
    | refine thn_n ?_
    | (refine hK _ _ _ ?_; clear hK K)
    | refine thn_e ?_
    | refine thn_r ?_
    | refine inb_same ?_
    | refine inb_ne rfl ?_
    | refine inb_n ?_
    | refine inb_r ?_
    | (clear hK K; refine hK _ _ _ ?_; clear hK K)
    | (clear hK K; clear hK K; refine hK _ _ _ ?_; clear hK K)
    | (clear hK K; clear hK K; clear hK K; refine hK _ _ _ ?_; clear hK K))); all_goals (repeat (clear hK K)))
    all_goals refine fin_r (fin_i rfl ?_)
    all_goals simp_all [cod, hasB]
end Go.Proofs.Ytmnklmaefoidbaa.Ba
