/-
  Loads of a tree: the program's walk.
-/
import Derived.Test.YtglfcaioapdiaaaLoQ
namespace Go.Proofs.Ytglfcaioapdiaaa.Bk
open Go Go.RowKit Go.Proofs.Ytglfcaioapdiaaa.Aw
set_option linter.unusedSimpArgs false
set_option linter.unusedVariables false
set_option linter.unusedSectionVars false
attribute [local irreducible] AW SQ Step RO RC DE Thn InB

theorem codeV_one (n : Int) (ls : List Ln) (a : Int) : codeV n ls [a] = if bkB n ls = true then (if inB a 0 (n - 1) then 0 else 2) else 1 := by
  unfold codeV
  cases bkB n ls <;> cases h1 : inB a 0 (n - 1) <;> simp [h1]
set_option maxHeartbeats 4000000 in
theorem code1_ro (n : Int) (ls : List Ln) (a : Int) (hn : ls.length ≤ 1048576) (k : Nat) : RO Try.prog 49 [.agg (bkL n ls), .dsl 1 [[.v (.int .i64 a)]]] k (.v (.int .i64 (codeV n ls [a]))) [] k := code_ro n ls [a] hn (by simp) k
def dmB (n : Int) (d : List Int) : Bool := ((d.length : Int) == n) && !(d.any fun x => !inB x 0 1000000)
section
variable (n : Int) (ls : List Ln) (ix : List Int) (root : Int) (d : List Int) (hn : ls.length ≤ 1048576) (hx : ix.length ≤ 1048576) (hd : d.length ≤ 1048576)
include hn hx hd
set_option maxHeartbeats 4000000 in
theorem implLoads_bad_ro (hc : codeV n ls [root] ≠ 0) (k : Nat) : RO Try.prog 27 [.agg (bkL n ls), .dsl 1 (ix.map inL), .v (.int .i64 root), .dsl 1 (d.map inL)] k (.tup [.v (.slice none 0 0), .v (.int .i64 (codeV n ls [root]))]) [] k := by
  have hC := code1_ro n ls root hn
  have b1 : (codeV n ls [root] != 0) = true := by simpa using hc
  generalize codeV n ls [root] = c at *
  unfold bkL at hC ⊢
  refine RO.ofp Try.func27 Try.ntmps27 rfl (goFn_of Try.func27 rfl (by kernel_rfl)) rfl rfl rfl ?_
  ((repeat' (first
    | (show SQ _ _ _ _ _ _ _ _; first | apply sq_nil | (apply q_move; exact rfl; exact rfl) | (apply q_assign; exact rfl; exact rfl) | (apply q_neq; exact rfl; exact rfl; exact rfl))
    | (show SQ _ _ _ _ _ _ _ _; (first | (apply q_ldap; exact rfl; exact rfl; exact (ty rfl); exact rfl; exact rfl; exact (by first | rfl | assumption | ((try simp only [Nat.zero_add]); refine List.getElem?_set_self ?_; (try simp only [List.length_set]); assumption)); exact rfl) | (apply q_box; exact rfl; exact rfl; exact rfl) | (apply q_buildn; exact rfl; exact (ty rfl); exact rfl; exact rfl; exact rfl; exact rfl; exact rfl; exact rfl; exact rfl) | (apply q_callU; exact rfl; exact rfl; exact rfl; exact FzL.of rfl; exact hC _)); (try simp only [put, rowsOf, plR, List.all_cons, selE, ovr, setH, del, cellsA, splice, isV, List.nil_append, List.cons_append, List.map_cons, List.map_nil, List.length_cons, List.length_nil, List.set_cons_zero, List.set_cons_succ, List.take_succ_cons, List.take_zero, List.take_nil, List.drop_succ_cons, List.drop_zero, List.drop_nil, List.append_nil, List.all_cons, List.all_nil, Bool.and_true, Bool.true_and, Bool.and_false, Bool.false_and, Nat.reduceAdd, Nat.zero_add, Nat.add_zero, Nat.reduceEqDiff, if_true, if_false, reduceIte]))
    | (show AW _ _ _ _ _ _ _ _; first | refine aw_region ?_ | (refine aw_seqk ?_; intro K hK) | refine aw_block ?_ | (apply aw_cond_t; exact rfl; exact (by assumption)) | refine aw_ret ?_)
    | refine thn_n ?_
    | (refine hK _ _ _ ?_; clear hK K)
    | refine thn_r ?_
    | refine inb_r ?_)); all_goals (repeat (clear hK K)))
  all_goals refine fin_r (fin_p (.r2 _ _ _ _ (.tmp _ _ rfl) (.tmp _ _ rfl)) ?_ rfl rfl rfl)
  all_goals rfl
set_option maxHeartbeats 4000000 in
theorem implLoads_rng_ro (hc : codeV n ls [root] = 0) (hm : dmB n d = false) (k : Nat) : RO Try.prog 27 [.agg (bkL n ls), .dsl 1 (ix.map inL), .v (.int .i64 root), .dsl 1 (d.map inL)] k (.tup [.v (.slice none 0 0), .v (.int .i64 2)]) [] k := by
  have hC := code1_ro n ls root hn
  rw [hc] at hC
  have b1 : ((0 : Int) != 0) = false := by simp
  have hA := allWithin_ro d (d.map inL) 0 1000000 rfl hd
  unfold bkL at hC ⊢
  by_cases c1 : (d.length : Int) = n
  · have b2 : (((d.map inL).length : Int) != n) = false := by simpa using c1
    have b3 : (!(!d.any fun x => !inB x 0 1000000)) = true := by
      simp only [dmB, Bool.and_eq_false_iff] at hm
      rcases hm with hm | hm
      · simp at hm; exact absurd c1 hm
      · rw [hm]; rfl
    refine RO.ofp Try.func27 Try.ntmps27 rfl (goFn_of Try.func27 rfl (by kernel_rfl)) rfl rfl rfl ?_
    ((repeat' (first
    | (show SQ _ _ _ _ _ _ _ _; first | apply sq_nil | (apply q_move; exact rfl; exact rfl) | (apply q_assign; exact rfl; exact rfl) | (apply q_pick_f; exact rfl; exact rfl; exact rfl; exact (by first | assumption | exact rfl)) | (apply q_fieldAddr; exact rfl; exact rfl; exact (ty rfl); exact rfl; exact rfl; exact rfl; exact rfl) | (apply q_not; exact rfl; exact rfl) | (apply q_lend; exact rfl; exact rfl; exact (ty rfl); exact rfl) | (apply q_neq; exact rfl; exact rfl; exact rfl) | (apply q_ld1p; exact rfl; exact rfl; exact (ty rfl); exact rfl; exact rfl; exact (by first | rfl | assumption | ((try simp only [Nat.zero_add]); refine List.getElem?_set_self ?_; (try simp only [List.length_set]); assumption)); exact rfl) | (apply q_g; exact rfl; exact rfl; exact rfl; exact (by assumption)))
    | (show SQ _ _ _ _ _ _ _ _; (first | (apply q_ldap; exact rfl; exact rfl; exact (ty rfl); exact rfl; exact rfl; exact (by first | rfl | assumption | ((try simp only [Nat.zero_add]); refine List.getElem?_set_self ?_; (try simp only [List.length_set]); assumption)); exact rfl) | (apply q_box; exact rfl; exact rfl; exact rfl) | (apply q_buildn; exact rfl; exact (ty rfl); exact rfl; exact rfl; exact rfl; exact rfl; exact rfl; exact rfl; exact rfl) | (apply q_callU; exact rfl; exact rfl; exact rfl; exact FzL.of rfl; exact hC _) | (apply q_callU; exact rfl; exact rfl; exact rfl; exact FzL.of rfl; exact hA _)); (try simp only [put, rowsOf, plR, List.all_cons, selE, ovr, setH, del, cellsA, splice, isV, List.nil_append, List.cons_append, List.map_cons, List.map_nil, List.length_cons, List.length_nil, List.set_cons_zero, List.set_cons_succ, List.take_succ_cons, List.take_zero, List.take_nil, List.drop_succ_cons, List.drop_zero, List.drop_nil, List.append_nil, List.all_cons, List.all_nil, Bool.and_true, Bool.true_and, Bool.and_false, Bool.false_and, Nat.reduceAdd, Nat.zero_add, Nat.add_zero, Nat.reduceEqDiff, if_true, if_false, reduceIte]))
    | (show AW _ _ _ _ _ _ _ _; first | refine aw_region ?_ | (refine aw_seqk ?_; intro K hK) | refine aw_block ?_ | (apply aw_cond_f; exact rfl; exact rfl) | (apply aw_cond_t; exact rfl; exact (by assumption)) | refine aw_ret ?_)
    | refine thn_n ?_
    | (refine hK _ _ _ ?_; clear hK K)
    | refine thn_r ?_
    | refine inb_r ?_)); all_goals (repeat (clear hK K)))
    all_goals refine fin_r (fin_p (.r2 _ _ _ _ (.tmp _ _ rfl) (.tmp _ _ rfl)) ?_ rfl rfl rfl)
    all_goals rfl
  · have b2 : (((d.map inL).length : Int) != n) = true := by simpa using c1
    refine RO.ofp Try.func27 Try.ntmps27 rfl (goFn_of Try.func27 rfl (by kernel_rfl)) rfl rfl rfl ?_
    ((repeat' (first
    | (show SQ _ _ _ _ _ _ _ _; first | apply sq_nil | (apply q_move; exact rfl; exact rfl) | (apply q_assign; exact rfl; exact rfl) | (apply q_pick_t; exact rfl; exact rfl; exact rfl; exact (by first | assumption | exact rfl)) | (apply q_fieldAddr; exact rfl; exact rfl; exact (ty rfl); exact rfl; exact rfl; exact rfl; exact rfl) | (apply q_lend; exact rfl; exact rfl; exact (ty rfl); exact rfl) | (apply q_neq; exact rfl; exact rfl; exact rfl) | (apply q_ld1p; exact rfl; exact rfl; exact (ty rfl); exact rfl; exact rfl; exact (by first | rfl | assumption | ((try simp only [Nat.zero_add]); refine List.getElem?_set_self ?_; (try simp only [List.length_set]); assumption)); exact rfl) | (apply q_s; exact rfl; exact rfl; exact rfl; exact (by assumption); exact rfl))
    | (show SQ _ _ _ _ _ _ _ _; (first | (apply q_ldap; exact rfl; exact rfl; exact (ty rfl); exact rfl; exact rfl; exact (by first | rfl | assumption | ((try simp only [Nat.zero_add]); refine List.getElem?_set_self ?_; (try simp only [List.length_set]); assumption)); exact rfl) | (apply q_box; exact rfl; exact rfl; exact rfl) | (apply q_buildn; exact rfl; exact (ty rfl); exact rfl; exact rfl; exact rfl; exact rfl; exact rfl; exact rfl; exact rfl) | (apply q_callU; exact rfl; exact rfl; exact rfl; exact FzL.of rfl; exact hC _)); (try simp only [put, rowsOf, plR, List.all_cons, selE, ovr, setH, del, cellsA, splice, isV, List.nil_append, List.cons_append, List.map_cons, List.map_nil, List.length_cons, List.length_nil, List.set_cons_zero, List.set_cons_succ, List.take_succ_cons, List.take_zero, List.take_nil, List.drop_succ_cons, List.drop_zero, List.drop_nil, List.append_nil, List.all_cons, List.all_nil, Bool.and_true, Bool.true_and, Bool.and_false, Bool.false_and, Nat.reduceAdd, Nat.zero_add, Nat.add_zero, Nat.reduceEqDiff, if_true, if_false, reduceIte]))
    | (show AW _ _ _ _ _ _ _ _; first | refine aw_region ?_ | (refine aw_seqk ?_; intro K hK) | refine aw_block ?_ | (apply aw_cond_t; exact rfl; exact rfl) | (apply aw_cond_f; exact rfl; exact rfl) | refine aw_ret ?_)
    | refine thn_n ?_
    | (refine hK _ _ _ ?_; clear hK K)
    | refine thn_r ?_
    | refine inb_r ?_)); all_goals (repeat (clear hK K)))
    all_goals refine fin_r (fin_p (.r2 _ _ _ _ (.tmp _ _ rfl) (.tmp _ _ rfl)) ?_ rfl rfl rfl)
    all_goals rfl
set_option maxHeartbeats 4000000 in
theorem implLoads_st_ro (hc : codeV n ls [root] = 0) (hN : 1 ≤ n ∧ n ≤ 12) (hL : ∀ l ∈ ls, 0 ≤ l.a ∧ l.a < n ∧ 0 ≤ l.b ∧ l.b < n) (hm : dmB n d = true) (ht : isT n ls ix = false) (k : Nat) : RO Try.prog 27 [.agg (bkL n ls), .dsl 1 (ix.map inL), .v (.int .i64 root), .dsl 1 (d.map inL)] k (.tup [.v (.slice none 0 0), .v (.int .i64 6)]) [] k := by
  have hC := code1_ro n ls root hn
  rw [hc] at hC
  have b1 : ((0 : Int) != 0) = false := by simp
  have hA := allWithin_ro d (d.map inL) 0 1000000 rfl hd
  have hT := isTree_ro n ls ix hN hn hx hL
  simp only [dmB, Bool.and_eq_true, beq_iff_eq] at hm
  have b2 : (((d.map inL).length : Int) != n) = false := by simpa using hm.1
  have b3 : (!(!d.any fun x => !inB x 0 1000000)) = false := by rw [hm.2]; rfl
  have b4 : (!isT n ls ix) = true := by rw [ht]; rfl
  unfold bkL at hC hT ⊢
  refine RO.ofp Try.func27 Try.ntmps27 rfl (goFn_of Try.func27 rfl (by kernel_rfl)) rfl rfl rfl ?_
  ((repeat' (first
    | (show SQ _ _ _ _ _ _ _ _; first | apply sq_nil | (apply q_move; exact rfl; exact rfl) | (apply q_assign; exact rfl; exact rfl) | (apply q_pick_f; exact rfl; exact rfl; exact rfl; exact (by first | assumption | exact rfl)) | (apply q_fieldAddr; exact rfl; exact rfl; exact (ty rfl); exact rfl; exact rfl; exact rfl; exact rfl) | (apply q_not; exact rfl; exact rfl) | (apply q_lend; exact rfl; exact rfl; exact (ty rfl); exact rfl) | (apply q_neq; exact rfl; exact rfl; exact rfl) | (apply q_ld1p; exact rfl; exact rfl; exact (ty rfl); exact rfl; exact rfl; exact (by first | rfl | assumption | ((try simp only [Nat.zero_add]); refine List.getElem?_set_self ?_; (try simp only [List.length_set]); assumption)); exact rfl) | (apply q_g; exact rfl; exact rfl; exact rfl; exact (by assumption)))
    | (show SQ _ _ _ _ _ _ _ _; (first | (apply q_ldap; exact rfl; exact rfl; exact (ty rfl); exact rfl; exact rfl; exact (by first | rfl | assumption | ((try simp only [Nat.zero_add]); refine List.getElem?_set_self ?_; (try simp only [List.length_set]); assumption)); exact rfl) | (apply q_box; exact rfl; exact rfl; exact rfl) | (apply q_buildn; exact rfl; exact (ty rfl); exact rfl; exact rfl; exact rfl; exact rfl; exact rfl; exact rfl; exact rfl) | (apply q_callU; exact rfl; exact rfl; exact rfl; exact FzL.of rfl; exact hC _) | (apply q_callU; exact rfl; exact rfl; exact rfl; exact FzL.of rfl; exact hA _) | (apply q_callU; exact rfl; exact rfl; exact rfl; exact FzL.of rfl; exact hT _)); (try simp only [put, rowsOf, plR, List.all_cons, selE, ovr, setH, del, cellsA, splice, isV, List.nil_append, List.cons_append, List.map_cons, List.map_nil, List.length_cons, List.length_nil, List.set_cons_zero, List.set_cons_succ, List.take_succ_cons, List.take_zero, List.take_nil, List.drop_succ_cons, List.drop_zero, List.drop_nil, List.append_nil, List.all_cons, List.all_nil, Bool.and_true, Bool.true_and, Bool.and_false, Bool.false_and, Nat.reduceAdd, Nat.zero_add, Nat.add_zero, Nat.reduceEqDiff, if_true, if_false, reduceIte]))
    | (show AW _ _ _ _ _ _ _ _; first | refine aw_region ?_ | (refine aw_seqk ?_; intro K hK) | refine aw_block ?_ | (apply aw_cond_f; exact rfl; exact rfl) | (apply aw_cond_t; exact rfl; exact (by assumption)) | (apply aw_cond_f; exact rfl; exact (by assumption)) | refine aw_ret ?_)
    | refine thn_n ?_
    | (refine hK _ _ _ ?_; clear hK K)
    | refine thn_r ?_
    | refine inb_r ?_)); all_goals (repeat (clear hK K)))
  all_goals refine fin_r (fin_p (.r2 _ _ _ _ (.tmp _ _ rfl) (.tmp _ _ rfl)) ?_ rfl rfl rfl)
  all_goals rfl
set_option maxHeartbeats 4000000 in
theorem implLoads_ok_ro (hc : codeV n ls [root] = 0) (hr : 0 ≤ root ∧ root < n) (hm : dmB n d = true) (hTr : Tr n ls ix) (ht : isT n ls ix = true) (k : Nat) :
    RO Try.prog 27 [.agg (bkL n ls), .dsl 1 (ix.map inL), .v (.int .i64 root), .dsl 1 (d.map inL)] k (.tup [.sl k 0 ls.length, .v (.int .i64 0)]) [(k, ⟨2, 1, true, (rm ls.length (loF n ls ix root d ix.length)).map inL⟩)] (k + 1) := by
  have hC := code1_ro n ls root hn
  rw [hc] at hC
  have b1 : ((0 : Int) != 0) = false := by simp
  have hA := allWithin_ro d (d.map inL) 0 1000000 rfl hd
  have hT := isTree_ro n ls ix hTr.n1 hn hx hTr.ok
  simp only [dmB, Bool.and_eq_true, beq_iff_eq] at hm
  have b2 : (((d.map inL).length : Int) != n) = false := by simpa using hm.1
  have b3 : (!(!d.any fun x => !inB x 0 1000000)) = false := by rw [hm.2]; rfl
  have b4 : (!isT n ls ix) = false := by rw [ht]; rfl
  have hdv : ∀ v ∈ d, 0 ≤ v ∧ v ≤ 1000000 := fun v hv => by
    have := hm.2
    simp only [Bool.not_eq_true', List.any_eq_false] at this
    have := this v hv
    simp [inB] at this
    omega
  have hz : List.replicate ls.length [AV.v (.int .i64 0)] = (rm ls.length (loF n ls ix root d 0)).map inL := by
    apply List.ext_getElem?
    intro i
    simp only [List.getElem?_replicate, List.getElem?_map]
    by_cases hi : i < ls.length
    · rw [rm_get hi, loF_0]; simp [hi, inL]
    · rw [List.getElem?_eq_none (show (rm ls.length (loF n ls ix root d 0)).length ≤ i by rw [rm_len]; omega)]; simp [hi]
  refine RO.ofm (.tup [.sl 0 0 ls.length, .v (.int .i64 0)]) ([(0, ⟨2, 1, true, (rm ls.length (loF n ls ix root d ix.length)).map inL⟩)]) 1 Try.func27 Try.ntmps27 rfl (goFn_of Try.func27 rfl (by kernel_rfl)) rfl rfl (by simp [renA, renL]) (by simp [shH, renB]) rfl ?_
  unfold bkL at hC hT ⊢
  ((repeat' (first
    | (show SQ _ _ _ _ _ _ _ _; first | apply sq_nil | (apply q_move; exact rfl; exact rfl) | (apply q_assign; exact rfl; exact rfl) | (apply q_pick_f; exact rfl; exact rfl; exact rfl; exact (by first | assumption | exact rfl)) | (apply q_fieldAddr; exact rfl; exact rfl; exact (ty rfl); exact rfl; exact rfl; exact rfl; exact rfl) | (apply q_not; exact rfl; exact rfl) | (apply q_lend; exact rfl; exact rfl; exact (ty rfl); exact rfl) | (apply q_neq; exact rfl; exact rfl; exact rfl) | (apply q_ld1p; exact rfl; exact rfl; exact (ty rfl); exact rfl; exact rfl; exact (by first | rfl | assumption | ((try simp only [Nat.zero_add]); refine List.getElem?_set_self ?_; (try simp only [List.length_set]); assumption)); exact rfl) | (apply q_g; exact rfl; exact rfl; exact rfl; exact (by assumption)))
    | (show SQ _ _ _ _ _ _ _ _; (first | (apply q_ldap; exact rfl; exact rfl; exact (ty rfl); exact rfl; exact rfl; exact (by first | rfl | assumption | ((try simp only [Nat.zero_add]); refine List.getElem?_set_self ?_; (try simp only [List.length_set]); assumption)); exact rfl) | (apply q_box; exact rfl; exact rfl; exact rfl) | (apply q_mks; exact rfl; exact rfl; exact rfl; exact (ty rfl); exact rfl; exact (by first | omega | (simp; done) | (simp; omega)); exact (by first | omega | (simp; done) | (simp; omega)); exact (by first | omega | (simp; done) | (simp; omega)); exact (by first | omega | (simp; done) | (simp; omega)); exact rfl; exact rfl) | (apply q_buildn; exact rfl; exact (ty rfl); exact rfl; exact rfl; exact rfl; exact rfl; exact rfl; exact rfl; exact rfl) | (apply q_callU; exact rfl; exact rfl; exact rfl; exact FzL.of rfl; exact hC _) | (apply q_callU; exact rfl; exact rfl; exact rfl; exact FzL.of rfl; exact hA _) | (apply q_callU; exact rfl; exact rfl; exact rfl; exact FzL.of rfl; exact hT _)); (try simp only [put, rowsOf, plR, List.all_cons, selE, ovr, setH, del, cellsA, splice, isV, List.nil_append, List.cons_append, List.map_cons, List.map_nil, List.length_cons, List.length_nil, List.set_cons_zero, List.set_cons_succ, List.take_succ_cons, List.take_zero, List.take_nil, List.drop_succ_cons, List.drop_zero, List.drop_nil, List.append_nil, List.all_cons, List.all_nil, Bool.and_true, Bool.true_and, Bool.and_false, Bool.false_and, Nat.reduceAdd, Nat.zero_add, Nat.add_zero, Nat.reduceEqDiff, if_true, if_false, reduceIte]))
    | (show AW _ _ _ _ _ _ _ _; first | refine aw_region ?_ | (refine aw_seqk ?_; intro K hK) | refine aw_block ?_ | (apply aw_cond_f; exact rfl; exact rfl) | (apply aw_cond_f; exact rfl; exact (by assumption)) | refine aw_skip ?_)
    | refine thn_n ?_
    | (refine hK _ _ _ ?_; clear hK K)
    | refine inb_n ?_)); all_goals (repeat (clear hK K)))
  refine aw_loop (ρ := fun j => [0, 2].getD j 0) (ι := Nat) (fun j => ([(48, .v (.int .i64 j)), (47, .v (.int .i64 ix.length)), (46, .dsl 1 (ix.map inL)), (11, .sl 1 0 ls.length), (4, .ptr 0 0 0), (3, .dsl 1 (d.map inL)), (2, .v (.int .i64 root)), (1, .dsl 1 (ix.map inL))],
      [(0, ⟨31, 2, false, [[.v (.int .i64 n), .dsl 4 (ls.map lnL)]]⟩), (1, ⟨2, 1, true, (rm ls.length (loF n ls ix root d j)).map inL⟩)], 2))
    (fun j => j ≤ ix.length) (fun j => ix.length - j) 0 (Nat.zero_le _) ⟨by (repeat (refine ⟨by first | exact lk_i rfl rfl | exact lk_i rfl (by (try dsimp only); first | rfl | omega | (rw [IntWalk.i64_in _ (by omega)]; first | rfl | omega | (push_cast; omega)) | (simp; done) | (simp; omega)) | exact lk_d rfl rfl | exact lk_r rfl rfl rfl | exact lk_s rfl rfl (by (try dsimp only); first | rfl | omega | (rw [IntWalk.i64_in _ (by omega)]; first | rfl | omega | (push_cast; omega)) | (simp; done) | (simp; omega)) rfl, ?_⟩)); exact trivial, by (repeat (refine ⟨by first | exact ⟨rfl, rfl, rfl⟩ | exact lkb rfl rfl rfl (by (try dsimp only); first | rfl | exact hz | (simp only [List.length_map, Int.toNat_natCast]; exact hz)) rfl, ?_⟩)); exact trivial, by rfl, by exact pin_0⟩ ?_
  intro j hj
  by_cases c1 : j < ix.length
  · have b5 : decide ((j : Int) < (ix.length : Int)) = true := by simpa using c1
    have hrow : (ix.map inL)[((j : Int)).toNat]? = some (inL ix[j]) := by simp [c1]
    rw [inL_eq] at hrow
    have hD : ix.getD j 0 = ix[j] := by simp [List.getD, c1]
    obtain ⟨t, htt⟩ : ∃ t : Nat, ix[j] = (t : Int) := ⟨ix[j].toNat, by have := hTr.rg _ (List.getElem_mem c1); omega⟩
    have htl : t < ls.length := by have := hTr.rg _ (List.getElem_mem c1); omega
    have hwj : IntKind.i64.wrap ((j : Int) + 1) = ((j + 1 : Nat) : Int) := by rw [IntWalk.i64_in _ (by omega)]; omega
    have e0 : rm ls.length (loF n ls ix root d j) = rm ls.length (loG n ls ix root d j 0) := rm_congr fun i _ => (loG_0 hTr.nd c1 i).symm
    have e1 : rm ls.length (loF n ls ix root d (j + 1)) = rm ls.length (loG n ls ix root d j n.toNat) := rm_congr fun i _ => (loG_n c1 i).symm
    have hCl := CloneInt_ro ix (by omega) hx
    have hDl := fun k bi => DeleteFunc_rc ix (t : Int) hx k bi
    have hoix : ∀ y ∈ othI ix (t : Int), 0 ≤ y ∧ y < ls.length := fun y hy => hTr.rg y (List.mem_filter.1 hy).1
    have hol : (othI ix (t : Int)).length ≤ ix.length := List.length_filter_le _ _
    have hRe := reached_ro n ls (othI ix (t : Int)) root hTr.n1 hn (by omega) hTr.ok hoix hr
    have hGo := (reachV_spec (frm := root) hTr.ok hoix hr).1
    have hGl := hGo.le (by have := hTr.n1; omega)
    have hst := fun x i => loG_step (n := n) (ls := ls) (ix := ix) (root := root) (d := d) j x t (by rw [hD, htt]) i
    have hcut : ∀ x, cutB n ls ix root (ix.getD j 0) x = !((reachV n ls (othI ix (t : Int)) root).any fun y => y == (x : Int)) := fun x => by rw [hD, htt]; rfl
    rw [htt] at hrow
    rw [e0]
    ((repeat' (first
    | (show SQ _ _ _ _ _ _ _ _; first | apply sq_nil | (apply q_move; exact rfl; exact rfl) | (apply q_lss; exact rfl; exact rfl; exact rfl) | (apply q_ixd; exact rfl; exact rfl; exact rfl; exact (ty rfl); exact rfl; exact (by first | omega | (simp; done) | (simp; omega)); exact (by first | omega | (simp; done) | (simp; omega)); exact (by first | rfl | assumption)) | (apply q_ld1d; exact rfl; exact rfl; exact (ty rfl); exact rfl; exact rfl))
    | (show SQ _ _ _ _ _ _ _ _; (first | (apply q_alloc; exact rfl; exact (ty rfl); exact rfl; exact rfl) | (apply q_store; exact rfl; exact rfl; exact (ty rfl); exact rfl; exact (by first | rfl | assumption | ((try simp only [Nat.zero_add]); refine List.getElem?_set_self ?_; (try simp only [List.length_set]); assumption)); exact rfl; exact rfl; exact rfl)); (try simp only [put, rowsOf, plR, List.all_cons, selE, ovr, setH, del, cellsA, splice, isV, List.nil_append, List.cons_append, List.map_cons, List.map_nil, List.length_cons, List.length_nil, List.set_cons_zero, List.set_cons_succ, List.take_succ_cons, List.take_zero, List.take_nil, List.drop_succ_cons, List.drop_zero, List.drop_nil, List.append_nil, List.all_cons, List.all_nil, Bool.and_true, Bool.true_and, Bool.and_false, Bool.false_and, Nat.reduceAdd, Nat.zero_add, Nat.add_zero, Nat.reduceEqDiff, if_true, if_false, reduceIte]))
    | (show AW _ _ _ _ _ _ _ _; first | refine aw_region ?_ | (refine aw_seqk ?_; intro K hK) | refine aw_block ?_ | (apply aw_cond_t; exact rfl; exact (by assumption)) | refine aw_skip ?_)
    | refine thn_n ?_
    | (refine hK _ _ _ ?_; clear hK K))); all_goals (repeat (clear hK K)))
    have hdt : (((othI ix (t : Int)).map inL ++ List.replicate (ix.length - (othI ix (t : Int)).length) [AV.v (.int .i64 0)]).drop 0).take (othI ix (t : Int)).length = (othI ix (t : Int)).map inL := by
      rw [List.drop_zero, List.take_left' (by simp)]
    have hdt2 : (othI ix (t : Int)).length ≤ ((othI ix (t : Int)).map inL ++ List.replicate (ix.length - (othI ix (t : Int)).length) [AV.v (.int .i64 0)]).length := by simp
    ((repeat' (first
    | (show SQ _ _ _ _ _ _ _ _; apply sq_frzp (t := 13); exact rfl; exact rfl; exact (by first | rfl | exact all_noOwn_map (fun _ => rfl) | assumption); exact (by first | rfl | assumption); exact rfl; (try simp only [put, rowsOf, plR, List.all_cons, selE, ovr, setH, del, cellsA, splice, isV, List.nil_append, List.cons_append, List.map_cons, List.map_nil, List.length_cons, List.length_nil, List.set_cons_zero, List.set_cons_succ, List.take_succ_cons, List.take_zero, List.take_nil, List.drop_succ_cons, List.drop_zero, List.drop_nil, List.append_nil, List.all_cons, List.all_nil, Bool.and_true, Bool.true_and, Bool.and_false, Bool.false_and, Nat.reduceAdd, Nat.zero_add, Nat.add_zero, Nat.reduceEqDiff, if_true, if_false, reduceIte]))
    | (show SQ _ _ _ _ _ _ _ _; first | apply sq_nil | (apply q_move; exact rfl; exact rfl) | (apply q_assign; exact rfl; exact rfl) | (apply q_lend; exact rfl; exact rfl; exact (ty rfl); exact rfl) | (apply q_mkf; exact rfl; exact rfl))
    | (show SQ _ _ _ _ _ _ _ _; (first | (apply q_ldap; exact rfl; exact rfl; exact (ty rfl); exact rfl; exact rfl; exact (by first | rfl | assumption | ((try simp only [Nat.zero_add]); refine List.getElem?_set_self ?_; (try simp only [List.length_set]); assumption)); exact rfl) | (apply q_callU; exact rfl; exact rfl; exact rfl; exact FzL.of rfl; exact hCl _) | (apply q_callU; exact rfl; exact rfl; exact rfl; rotate_left; exact hRe _; rotate_right; focus ((repeat' (first | exact FzL.nil | exact (by assumption : FzC _) _ | refine FzL.cons ?_ ?_ | exact Fz.of rfl | exact Fz.nil | exact Fz.emp | (apply Fz.fnC; assumption) | (apply Fz.sl2; exact rfl; exact (by first | omega | (simp; done) | (simp; omega)); first | exact rfl | exact dt_full (by first | omega | (simp; done) | (simp; omega)) | assumption) | apply Fz.agg | (apply Fz.ptrL; exact rfl; first | exact rfl | assumption) | apply Fz.fnL)); done)) | (apply q_callC; exact rfl; exact rfl; exact rfl; exact hDl _ 3; (focus ((repeat (first | exact trivial | refine ⟨by first | exact rfl | assumption, ?_⟩)); done)); skip)); (try simp only [put, rowsOf, plR, List.all_cons, selE, ovr, setH, del, cellsA, splice, isV, List.nil_append, List.cons_append, List.map_cons, List.map_nil, List.length_cons, List.length_nil, List.set_cons_zero, List.set_cons_succ, List.take_succ_cons, List.take_zero, List.take_nil, List.drop_succ_cons, List.drop_zero, List.drop_nil, List.append_nil, List.all_cons, List.all_nil, Bool.and_true, Bool.true_and, Bool.and_false, Bool.false_and, Nat.reduceAdd, Nat.zero_add, Nat.add_zero, Nat.reduceEqDiff, if_true, if_false, reduceIte]))
    | (show AW _ _ _ _ _ _ _ _; first | refine aw_region ?_ | (refine aw_seqk ?_; intro K hK) | refine aw_block ?_)
    | refine thn_n ?_
    | (refine hK _ _ _ ?_; clear hK K))); all_goals (repeat (clear hK K)))
    refine aw_loop (ρ := fun j => [0, 1, 4].getD j 0) (ι := Nat) (fun x => ([(62, .v (.int .i64 x)), (61, .v (.int .i64 d.length)), (60, .dsl 1 (d.map inL)), (48, .v (.int .i64 j)), (47, .v (.int .i64 ix.length)), (46, .dsl 1 (ix.map inL)), (15, .sl 2 0 (reachV n ls (othI ix (t : Int)) root).length), (13, .dptr [.v (.int .i64 (t : Int))]), (11, .sl 1 0 ls.length), (4, .ptr 0 0 0), (3, .dsl 1 (d.map inL)), (2, .v (.int .i64 root)), (1, .dsl 1 (ix.map inL))],
        [(0, ⟨31, 2, false, [[.v (.int .i64 n), .dsl 4 (ls.map lnL)]]⟩), (1, ⟨2, 1, true, (rm ls.length (loG n ls ix root d j x)).map inL⟩), (2, ⟨2, 1, true, (reachV n ls (othI ix (t : Int)) root).map inL⟩)], 3))
      (fun x => x ≤ d.length) (fun x => d.length - x) 0 (Nat.zero_le _) ⟨by (repeat (refine ⟨by first | exact lk_i rfl rfl | exact lk_i rfl (by (try dsimp only); first | rfl | omega | (rw [IntWalk.i64_in _ (by omega)]; first | rfl | omega | (push_cast; omega)) | (simp; done) | (simp; omega)) | exact lk_d rfl rfl | exact lk_r rfl rfl rfl | exact lk_s rfl rfl rfl rfl | exact lk_p rfl rfl, ?_⟩)); exact trivial, by (repeat (refine ⟨by first | exact ⟨rfl, rfl, rfl⟩, ?_⟩)); exact trivial, by rfl, by exact pin_0⟩ ?_
    intro x hxd
    have hdn := hm.1
    have hn12 := hTr.n1
    have hin := loG_in (n := n) (ls := ls) (ix := ix) (root := root) hTr.n1.2 hdv j x t (by omega)
    have hst := hst x
    have hcut := hcut x
    by_cases c2 : x < d.length
    · have b6 : decide ((x : Int) < (d.length : Int)) = true := by simpa using c2
      have hrow2 : (d.map inL)[((x : Int)).toNat]? = some (inL d[x]) := by simp [c2]
      rw [inL_eq] at hrow2
      have hdx := hdv _ (List.getElem_mem c2)
      have hDx : d.getD x 0 = d[x] := by simp [List.getD, c2]
      rw [hDx] at hst
      generalize d[x] = dv at *
      have hwx : IntKind.i64.wrap ((x : Int) + 1) = ((x + 1 : Nat) : Int) := by rw [IntWalk.i64_in _ (by omega)]; omega
      have hCo := slContains_ro (reachV n ls (othI ix (t : Int)) root) ((reachV n ls (othI ix (t : Int)) root).map inL) (x : Int) rfl (by omega)
      have hrow3 : ((rm ls.length (loG n ls ix root d j x)).map inL)[0 + ((t : Int)).toNat]? = some (inL (loG n ls ix root d j x t)) := by
        rw [List.getElem?_map, show 0 + ((t : Int)).toNat = t by omega, rm_get htl]; rfl
      rw [inL_eq] at hrow3
      have hlen3 : ((t : Int)).toNat < ((rm ls.length (loG n ls ix root d j x)).map inL).length := by rw [List.length_map, rm_len]; omega
      cases hb : ((reachV n ls (othI ix (t : Int)) root).any fun y => y == (x : Int)) with
      | true =>
        have b7 : (!((reachV n ls (othI ix (t : Int)) root).any fun y => y == (x : Int))) = false := by rw [hb]; rfl
        have e2 : rm ls.length (loG n ls ix root d j (x + 1)) = rm ls.length (loG n ls ix root d j x) := rm_congr fun i _ => by
          rw [hst i, hcut, hb]
          split
          · rename_i e; subst e; simp
          · rfl
        ((repeat' (first
    | (show SQ _ _ _ _ _ _ _ _; first | apply sq_nil | (apply q_move; exact rfl; exact rfl) | (apply q_assign; exact rfl; exact rfl) | (apply q_not; exact rfl; exact rfl) | (apply q_add; exact rfl; exact rfl; exact rfl) | (apply q_lss; exact rfl; exact rfl; exact rfl) | (apply q_ixd; exact rfl; exact rfl; exact rfl; exact (ty rfl); exact rfl; exact (by first | omega | (simp; done) | (simp; omega)); exact (by first | omega | (simp; done) | (simp; omega)); exact (by first | rfl | assumption)) | (apply q_ld1d; exact rfl; exact rfl; exact (ty rfl); exact rfl; exact rfl))
    | (show SQ _ _ _ _ _ _ _ _; (first | (apply q_callU; exact rfl; exact rfl; exact rfl; rotate_left; exact hCo _; rotate_right; focus ((repeat' (first | exact FzL.nil | exact (by assumption : FzC _) _ | refine FzL.cons ?_ ?_ | exact Fz.of rfl | exact Fz.nil | exact Fz.emp | (apply Fz.fnC; assumption) | (apply Fz.sl2; exact rfl; exact (by first | omega | (simp; done) | (simp; omega)); first | exact rfl | exact dt_full (by first | omega | (simp; done) | (simp; omega)) | assumption) | apply Fz.agg | (apply Fz.ptrL; exact rfl; first | exact rfl | assumption) | apply Fz.fnL)); done))); (try simp only [put, rowsOf, plR, List.all_cons, selE, ovr, setH, del, cellsA, splice, isV, List.nil_append, List.cons_append, List.map_cons, List.map_nil, List.length_cons, List.length_nil, List.set_cons_zero, List.set_cons_succ, List.take_succ_cons, List.take_zero, List.take_nil, List.drop_succ_cons, List.drop_zero, List.drop_nil, List.append_nil, List.all_cons, List.all_nil, Bool.and_true, Bool.true_and, Bool.and_false, Bool.false_and, Nat.reduceAdd, Nat.zero_add, Nat.add_zero, Nat.reduceEqDiff, if_true, if_false, reduceIte]))
    | (show AW _ _ _ _ _ _ _ _; first | refine aw_region ?_ | (refine aw_seqk ?_; intro K hK) | refine aw_block ?_ | (apply aw_cond_t; exact rfl; exact (by assumption)) | (apply aw_cond_f; exact rfl; exact (by assumption)) | refine aw_skip ?_)
    | refine thn_n ?_
    | (refine hK _ _ _ ?_; clear hK K)
    | refine inb_n ?_)); all_goals (repeat (clear hK K)))
        all_goals (refine ⟨x + 1, id, c2, by omega, ?_⟩; (try dsimp only); rw [e2, ← hwx]; exact ⟨by (repeat (refine ⟨by first | exact lk_i rfl rfl | exact lk_d rfl rfl | exact lk_r rfl rfl rfl | exact lk_s rfl rfl rfl rfl | exact lk_p rfl rfl, ?_⟩)); exact trivial, by (repeat (refine ⟨by first | exact ⟨rfl, rfl, rfl⟩, ?_⟩)); exact trivial, by rfl, by exact pin_0⟩)
      | false =>
        have b7 : (!((reachV n ls (othI ix (t : Int)) root).any fun y => y == (x : Int))) = true := by rw [hb]; rfl
        have hwv : IntKind.i64.wrap (loG n ls ix root d j x t + dv) = loG n ls ix root d j x t + dv := IntWalk.i64_in _ (by omega)
        have e2 : (rm ls.length (loG n ls ix root d j (x + 1))).map inL = ((rm ls.length (loG n ls ix root d j x)).map inL).set t [.v (.int .i64 (IntKind.i64.wrap (loG n ls ix root d j x t + dv)))] := by
          have h1 : rm ls.length (loG n ls ix root d j (x + 1)) = (rm ls.length (loG n ls ix root d j x)).set t (loG n ls ix root d j x t + dv) := by
            rw [rm_set]
            exact rm_congr fun i _ => by rw [hst i, hcut, hb]; simp
          rw [h1, List.map_set, hwv]; rfl
        ((repeat' (first
    | (show SQ _ _ _ _ _ _ _ _; first | apply sq_nil | (apply q_move; exact rfl; exact rfl) | (apply q_assign; exact rfl; exact rfl) | (apply q_not; exact rfl; exact rfl) | (apply q_add; exact rfl; exact rfl; exact rfl) | (apply q_lss; exact rfl; exact rfl; exact rfl) | (apply q_ixd; exact rfl; exact rfl; exact rfl; exact (ty rfl); exact rfl; exact (by first | omega | (simp; done) | (simp; omega)); exact (by first | omega | (simp; done) | (simp; omega)); exact (by first | rfl | assumption)) | (apply q_ixl; exact rfl; exact rfl; exact rfl; exact (ty rfl); exact rfl; exact rfl; exact rfl; exact (by first | omega | (simp; done) | (simp; omega)); exact (by first | omega | (simp; done) | (simp; omega))) | (apply q_ld1d; exact rfl; exact rfl; exact (ty rfl); exact rfl; exact rfl) | (apply q_ld1p; exact rfl; exact rfl; exact (ty rfl); exact rfl; exact rfl; exact (by first | rfl | assumption | ((try simp only [Nat.zero_add]); refine List.getElem?_set_self ?_; (try simp only [List.length_set]); assumption)); exact rfl))
    | (show SQ _ _ _ _ _ _ _ _; (first | (apply q_store; exact rfl; exact rfl; exact (ty rfl); exact rfl; exact (by first | rfl | assumption | ((try simp only [Nat.zero_add]); refine List.getElem?_set_self ?_; (try simp only [List.length_set]); assumption)); exact rfl; exact rfl; exact rfl) | (apply q_callU; exact rfl; exact rfl; exact rfl; rotate_left; exact hCo _; rotate_right; focus ((repeat' (first | exact FzL.nil | exact (by assumption : FzC _) _ | refine FzL.cons ?_ ?_ | exact Fz.of rfl | exact Fz.nil | exact Fz.emp | (apply Fz.fnC; assumption) | (apply Fz.sl2; exact rfl; exact (by first | omega | (simp; done) | (simp; omega)); first | exact rfl | exact dt_full (by first | omega | (simp; done) | (simp; omega)) | assumption) | apply Fz.agg | (apply Fz.ptrL; exact rfl; first | exact rfl | assumption) | apply Fz.fnL)); done))); (try simp only [put, rowsOf, plR, List.all_cons, selE, ovr, setH, del, cellsA, splice, isV, List.nil_append, List.cons_append, List.map_cons, List.map_nil, List.length_cons, List.length_nil, List.set_cons_zero, List.set_cons_succ, List.take_succ_cons, List.take_zero, List.take_nil, List.drop_succ_cons, List.drop_zero, List.drop_nil, List.append_nil, List.all_cons, List.all_nil, Bool.and_true, Bool.true_and, Bool.and_false, Bool.false_and, Nat.reduceAdd, Nat.zero_add, Nat.add_zero, Nat.reduceEqDiff, if_true, if_false, reduceIte]))
    | (show AW _ _ _ _ _ _ _ _; first | refine aw_region ?_ | (refine aw_seqk ?_; intro K hK) | refine aw_block ?_ | (apply aw_cond_t; exact rfl; exact (by assumption)) | refine aw_skip ?_)
    | refine thn_n ?_
    | (refine hK _ _ _ ?_; clear hK K)
    | refine inb_n ?_)); all_goals (repeat (clear hK K)))
        all_goals (refine ⟨x + 1, id, c2, by omega, ?_⟩; (try dsimp only); rw [e2, ← hwx]; exact ⟨by (repeat (refine ⟨by first | exact lk_i rfl rfl | exact lk_d rfl rfl | exact lk_r rfl rfl rfl | exact lk_s rfl rfl rfl rfl | exact lk_p rfl rfl, ?_⟩)); exact trivial, by (repeat (refine ⟨by first | exact ⟨rfl, rfl, rfl⟩, ?_⟩)); exact trivial, by rfl, by exact pin_0⟩)
    · have b6 : decide ((x : Int) < (d.length : Int)) = false := by simpa using c2
      have hxe : x = n.toNat := by omega
      subst hxe
      ((repeat' (first
    | (show SQ _ _ _ _ _ _ _ _; first | apply sq_nil | (apply q_move; exact rfl; exact rfl) | (apply q_add; exact rfl; exact rfl; exact rfl) | (apply q_lss; exact rfl; exact rfl; exact rfl))
    | (show AW _ _ _ _ _ _ _ _; first | refine aw_region ?_ | (refine aw_seqk ?_; intro K hK) | (apply aw_cond_f; exact rfl; exact (by assumption)) | refine aw_exit ?_)
    | refine thn_n ?_
    | (refine hK _ _ _ ?_; clear hK K)
    | refine thn_e ?_
    | refine inb_same ?_
    | refine inb_n ?_
    | (clear hK K; refine hK _ _ _ ?_; clear hK K))); all_goals (repeat (clear hK K)))
      all_goals (refine ⟨j + 1, id, c1, by omega, ?_⟩; (try dsimp only); rw [e1, ← hwj]; exact ⟨by (repeat (refine ⟨by first | exact lk_i rfl rfl | exact lk_d rfl rfl | exact lk_r rfl rfl rfl | exact lk_s rfl rfl rfl rfl, ?_⟩)); exact trivial, by (repeat (refine ⟨by first | exact ⟨rfl, rfl, rfl⟩, ?_⟩)); exact trivial, by rfl, by exact pin_0⟩)
  · have b5 : decide ((j : Int) < (ix.length : Int)) = false := by simpa using c1
    obtain rfl : j = ix.length := by omega
    ((repeat' (first
    | (show SQ _ _ _ _ _ _ _ _; first | apply sq_nil | (apply q_move; exact rfl; exact rfl) | (apply q_assign; exact rfl; exact rfl) | (apply q_lss; exact rfl; exact rfl; exact rfl))
    | (show AW _ _ _ _ _ _ _ _; first | refine aw_region ?_ | (refine aw_seqk ?_; intro K hK) | (apply aw_cond_f; exact rfl; exact (by assumption)) | refine aw_ret ?_ | refine aw_exit ?_)
    | refine thn_n ?_
    | (refine hK _ _ _ ?_; clear hK K)
    | refine thn_e ?_
    | refine inb_same ?_
    | (clear hK K; refine hK _ _ _ ?_; clear hK K))); all_goals (repeat (clear hK K)))
    all_goals exact fin_r (fin_m2 rfl rfl rfl _ _ rfl rfl rfl)
end
end Go.Proofs.Ytglfcaioapdiaaa.Bk
