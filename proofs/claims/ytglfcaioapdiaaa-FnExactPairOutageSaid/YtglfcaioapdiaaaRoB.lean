/-
  Outage of a route: the law.
-/
import Derived.Test.YtglfcaioapdiaaaRoA
namespace Go.Proofs.Ytglfcaioapdiaaa.Bk
open Go Go.RowKit Go.Proofs.Ytglfcaioapdiaaa.Aw
set_option linter.unusedSimpArgs false
set_option linter.unusedVariables false
attribute [local irreducible] AW SQ Step RO RC DE Thn InB

theorem rtI_in {n : Int} {ls : List Ln} {rd : List Int} (h : rtB n ls rd = true) : ∀ x ∈ rtI ls rd rd.length, 0 ≤ x ∧ x < ls.length := by
  intro x hx
  obtain ⟨j, hj, rfl⟩ := List.mem_map.1 hx
  have hj := List.mem_range.1 hj
  have := (rtB_get h).2 (j + 1) (by omega)
  simp only [goodR, Bool.and_eq_true, Bool.or_eq_true, decide_eq_true_eq] at this
  refine ⟨by omega, (ixG_rng _ _).2⟩
set_option maxHeartbeats 4000000 in
theorem outage_ro (n : Int) (ls : List Ln) (rd : List Int) (hN : 1 ≤ n ∧ n ≤ 12) (hn : ls.length ≤ 1048576) (hr : rd.length ≤ 1048576) (h : rtB n ls rd = true) (k : Nat) :
    RO Try.prog 59 [.agg (bkL n ls), .dsl 1 (rd.map inL)] k (.v (.int .i64 (outV ls (rtI ls rd rd.length)))) [] k := by
  have hix := rtI_in h
  have hl := rtI_len ls rd rd.length
  have hLk := linksOf_ok_ro n ls rd hN hn hr h
  generalize rtI ls rd rd.length = ix at hix hl hLk ⊢
  unfold bkL at hLk ⊢
  refine RO.ofv' Try.func59 Try.ntmps59 rfl (goFn_of Try.func59 rfl (by kernel_rfl)) rfl rfl ?_
  ((repeat' (first
    | (show SQ _ _ _ _ _ _ _ _; first | apply sq_nil | (apply q_move; exact rfl; exact rfl) | (apply q_assign; exact rfl; exact rfl) | (apply q_ext; exact rfl; exact rfl; exact rfl) | (apply q_lenl; exact rfl; exact rfl; exact (ty rfl); exact rfl))
    | (show SQ _ _ _ _ _ _ _ _; (first | (apply q_ldap; exact rfl; exact rfl; exact (ty rfl); exact rfl; exact rfl; exact (by first | rfl | assumption | ((try simp only [Nat.zero_add]); refine List.getElem?_set_self ?_; (try simp only [List.length_set]); assumption)); exact rfl) | (apply q_box; exact rfl; exact rfl; exact rfl) | (apply q_callU; exact rfl; exact rfl; exact rfl; exact FzL.of rfl; exact hLk _)); (try simp only [put, rowsOf, plR, List.all_cons, selE, ovr, setH, del, cellsA, splice, isV, List.nil_append, List.cons_append, List.map_cons, List.map_nil, List.length_cons, List.length_nil, List.set_cons_zero, List.set_cons_succ, List.take_succ_cons, List.take_zero, List.take_nil, List.drop_succ_cons, List.drop_zero, List.drop_nil, List.append_nil, List.all_cons, List.all_nil, Bool.and_true, Bool.true_and, Bool.and_false, Bool.false_and, Nat.reduceAdd, Nat.zero_add, Nat.add_zero, Nat.reduceEqDiff, if_true, if_false, reduceIte]))
    | (show AW _ _ _ _ _ _ _ _; first | refine aw_region ?_ | (refine aw_seqk ?_; intro K hK) | refine aw_block ?_)
    | refine thn_n ?_
    | (refine hK _ _ _ ?_; clear hK K))); all_goals (repeat (clear hK K)))
  refine aw_nil (t := 7) 2 1 rfl ?_
  refine aw_loop (ρ := id) (ι := Nat) (fun i => ([(18, .v (.int .i64 i)), (7, .sl 2 0 (outI ls ix i).length), (16, .sl 1 0 ix.length), (17, .v (.int .i64 (ix.length : Nat))), (2, .ptr 0 0 0)], [(0, ⟨31, 2, false, [[.v (.int .i64 n), .dsl 4 (ls.map lnL)]]⟩), (1, ⟨2, 1, true, ix.map inL⟩), (2, ⟨2, 1, true, (outI ls ix i).map inL⟩)], 3))
    (fun i => i ≤ ix.length) (fun i => ix.length - i) 0 (Nat.zero_le _) ⟨by (repeat (refine ⟨by first | exact lk_i rfl rfl | exact lk_r rfl rfl rfl | exact lk_s rfl rfl rfl rfl, ?_⟩)); exact trivial, by (repeat (refine ⟨by first | exact ⟨rfl, rfl, rfl⟩, ?_⟩)); exact trivial, by rfl, by exact pin_0⟩ ?_
  intro i hi
  have hlen := outI_len (ls := ls) hi
  have hml : ((outI ls ix i).map inL).length = (outI ls ix i).length := List.length_map _
  by_cases c2 : i < ix.length
  · have b2 : decide ((i : Int) < (ix.length : Int)) = true := by simpa using c2
    have hrow : (ix.map inL)[0 + ((i : Int)).toNat]? = some (inL ix[i]) := by simp [c2]
    rw [inL_eq] at hrow
    obtain ⟨x0, x1⟩ := hix ix[i] (List.getElem_mem c2)
    have x2 : ix[i].toNat < ls.length := by omega
    have hrow2 : (ls.map lnL)[(ix[i]).toNat]? = some (lnL ls[ix[i].toNat]) := by simp [x2]
    rw [lnL_eq] at hrow2
    have e1 := outI_succ c2 x0 x2
    ((repeat' (first
    | (show SQ _ _ _ _ _ _ _ _; first | apply sq_nil | (apply q_move; exact rfl; exact rfl) | (apply q_assign; exact rfl; exact rfl) | (apply q_fieldAddr; exact rfl; exact rfl; exact (ty rfl); exact rfl; exact rfl; exact rfl; exact rfl) | (apply q_add; exact rfl; exact rfl; exact rfl) | (apply q_lss; exact rfl; exact rfl; exact rfl) | (apply q_ixd; exact rfl; exact rfl; exact rfl; exact (ty rfl); exact rfl; exact (by first | omega | (simp; done) | (simp; omega)); exact (by first | omega | (simp; done) | (simp; omega)); exact (by first | rfl | assumption)) | (apply q_ixl; exact rfl; exact rfl; exact rfl; exact (ty rfl); exact rfl; exact rfl; exact rfl; exact (by first | omega | (simp; done) | (simp; omega)); exact (by first | omega | (simp; done) | (simp; omega))) | (apply q_ld1d; exact rfl; exact rfl; exact (ty rfl); exact rfl; exact rfl) | (apply q_ld1p; exact rfl; exact rfl; exact (ty rfl); exact rfl; exact rfl; exact (by first | rfl | assumption | ((try simp only [Nat.zero_add]); refine List.getElem?_set_self ?_; (try simp only [List.length_set]); assumption)); exact rfl))
    | (show SQ _ _ _ _ _ _ _ _; (first | (apply q_buildn; exact rfl; exact (ty rfl); exact rfl; exact rfl; exact rfl; exact rfl; exact rfl; exact rfl; exact rfl) | (apply q_apo_s; exact rfl; exact rfl; exact rfl; exact (ty rfl); exact rfl; exact rfl; exact (by first | omega | (simp; done) | (simp; omega)); exact (by first | exact List.take_of_length_le (by first | omega | (simp; done) | (simp; omega)) | rfl); exact (ty rfl); exact rfl; exact rfl; exact (by first | omega | (simp; done) | (simp; omega)); exact (by first | exact dt_full (by first | omega | (simp; done) | (simp; omega)) | assumption | rfl); exact rfl; exact (by first | omega | (simp; done) | (simp; omega)); exact (by first | omega | (simp; done) | (simp; omega)); exact (by first | assumption | exact rfl))); (try simp only [put, rowsOf, plR, List.all_cons, selE, ovr, setH, del, cellsA, splice, isV, List.nil_append, List.cons_append, List.map_cons, List.map_nil, List.length_cons, List.length_nil, List.set_cons_zero, List.set_cons_succ, List.take_succ_cons, List.take_zero, List.take_nil, List.drop_succ_cons, List.drop_zero, List.drop_nil, List.append_nil, List.all_cons, List.all_nil, Bool.and_true, Bool.true_and, Bool.and_false, Bool.false_and, Nat.reduceAdd, Nat.zero_add, Nat.add_zero, Nat.reduceEqDiff, if_true, if_false, reduceIte]))
    | (show AW _ _ _ _ _ _ _ _; first | refine aw_region ?_ | (refine aw_seqk ?_; intro K hK) | refine aw_block ?_ | (apply aw_cond_t; exact rfl; exact (by assumption)) | refine aw_skip ?_)
    | refine thn_n ?_
    | (refine hK _ _ _ ?_; clear hK K)
    | refine inb_n ?_)); all_goals (repeat (clear hK K)))
    all_goals (refine ⟨i + 1, fun j => [0, 1, 4].getD j 0, c2, by omega, ?_⟩; (try dsimp only); rw [e1, List.map_append, List.length_append]; exact ⟨by (repeat (refine ⟨by first | exact lk_i rfl rfl | exact lk_i rfl (by (try dsimp only); first | rfl | omega | (rw [IntWalk.i64_in _ (by omega)]; first | rfl | omega | (push_cast; omega)) | (simp; done) | (simp; omega)) | exact lk_r rfl rfl rfl | exact lk_s rfl rfl rfl rfl, ?_⟩)); exact trivial, by (repeat (refine ⟨by first | exact ⟨rfl, rfl, rfl⟩, ?_⟩)); exact trivial, by rfl, by exact pin_0⟩)
  · have b2 : decide ((i : Int) < (ix.length : Int)) = false := by simpa using c2
    obtain rfl : i = ix.length := by omega
    have hS := seriesOutage_ro (outI ls ix ix.length) _ rfl (by omega)
    ((repeat' (first
    | (show SQ _ _ _ _ _ _ _ _; first | apply sq_nil | (apply q_move; exact rfl; exact rfl) | (apply q_assign; exact rfl; exact rfl) | (apply q_lss; exact rfl; exact rfl; exact rfl))
    | (show SQ _ _ _ _ _ _ _ _; (first | (apply q_callU; exact rfl; exact rfl; exact rfl; rotate_left; exact hS _; rotate_right; focus ((repeat' (first | exact FzL.nil | exact (by assumption : FzC _) _ | refine FzL.cons ?_ ?_ | exact Fz.of rfl | exact Fz.nil | exact Fz.emp | (apply Fz.fnC; assumption) | (apply Fz.sl2; exact rfl; exact (by first | omega | (simp; done) | (simp; omega)); first | exact rfl | exact dt_full (by first | omega | (simp; done) | (simp; omega)) | assumption) | apply Fz.agg | (apply Fz.ptrL; exact rfl; first | exact rfl | assumption) | apply Fz.fnL)); done))); (try simp only [put, rowsOf, plR, List.all_cons, selE, ovr, setH, del, cellsA, splice, isV, List.nil_append, List.cons_append, List.map_cons, List.map_nil, List.length_cons, List.length_nil, List.set_cons_zero, List.set_cons_succ, List.take_succ_cons, List.take_zero, List.take_nil, List.drop_succ_cons, List.drop_zero, List.drop_nil, List.append_nil, List.all_cons, List.all_nil, Bool.and_true, Bool.true_and, Bool.and_false, Bool.false_and, Nat.reduceAdd, Nat.zero_add, Nat.add_zero, Nat.reduceEqDiff, if_true, if_false, reduceIte]))
    | (show AW _ _ _ _ _ _ _ _; first | refine aw_region ?_ | (refine aw_seqk ?_; intro K hK) | (apply aw_cond_f; exact rfl; exact (by assumption)) | refine aw_ret ?_ | refine aw_exit ?_)
    | refine thn_n ?_
    | (refine hK _ _ _ ?_; clear hK K)
    | refine thn_e ?_
    | refine inb_same ?_
    | (clear hK K; refine hK _ _ _ ?_; clear hK K))); all_goals (repeat (clear hK K)))
    all_goals exact fin_r (fin_i rfl rfl)
def roV (n : Int) (ls : List Ln) (rd : List Int) : Int := if bkB n ls && rtB n ls rd then outV ls (rtI ls rd rd.length) else 0
def roC (n : Int) (ls : List Ln) (rd : List Int) : Int := if bkB n ls then if rtB n ls rd then 0 else 6 else 1
set_option maxHeartbeats 4000000 in
theorem RouteOutage_ro (n : Int) (ls : List Ln) (rd : List Int) (hn : ls.length ≤ 1048576) (hr : rd.length ≤ 1048576) (k : Nat) :
    RO Try.prog 35 [.agg (bkL n ls), .dsl 1 (rd.map inL)] k (.tup [.v (.int .i64 (roV n ls rd)), .v (.int .i64 (roC n ls rd))]) [] k := by
  refine RO.ofp Try.func35 Try.ntmps35 rfl (goFn_of Try.func35 rfl (by kernel_rfl)) rfl rfl rfl ?_
  have hV := ValidBackhaul_ro n ls hn
  have hb := fun h h2 => linksOf_bad_ro n ls rd h hn hr h2
  have ho := fun h h2 => linksOf_ok_ro n ls rd h hn hr h2
  have hu := fun h h2 => outage_ro n ls rd h hn hr h2
  unfold roV roC
  unfold bkL at hV hb ho hu ⊢
  cases c1 : bkB n ls with
  | false =>
    have b1 : (!bkB n ls) = true := by rw [c1]; rfl
    ((repeat' (first
    | (show SQ _ _ _ _ _ _ _ _; first | apply sq_nil | (apply q_assign; exact rfl; exact rfl) | (apply q_not; exact rfl; exact rfl))
    | (show SQ _ _ _ _ _ _ _ _; (first | (apply q_ldap; exact rfl; exact rfl; exact (ty rfl); exact rfl; exact rfl; exact (by first | rfl | assumption | ((try simp only [Nat.zero_add]); refine List.getElem?_set_self ?_; (try simp only [List.length_set]); assumption)); exact rfl) | (apply q_box; exact rfl; exact rfl; exact rfl) | (apply q_callU; exact rfl; exact rfl; exact rfl; exact FzL.of rfl; exact hV _)); (try simp only [put, rowsOf, plR, List.all_cons, selE, ovr, setH, del, cellsA, splice, isV, List.nil_append, List.cons_append, List.map_cons, List.map_nil, List.length_cons, List.length_nil, List.set_cons_zero, List.set_cons_succ, List.take_succ_cons, List.take_zero, List.take_nil, List.drop_succ_cons, List.drop_zero, List.drop_nil, List.append_nil, List.all_cons, List.all_nil, Bool.and_true, Bool.true_and, Bool.and_false, Bool.false_and, Nat.reduceAdd, Nat.zero_add, Nat.add_zero, Nat.reduceEqDiff, if_true, if_false, reduceIte]))
    | (show AW _ _ _ _ _ _ _ _; first | refine aw_region ?_ | (refine aw_seqk ?_; intro K hK) | (apply aw_cond_t; exact rfl; exact (by assumption)) | refine aw_ret ?_)
    | refine thn_n ?_
    | (refine hK _ _ _ ?_; clear hK K)
    | refine thn_r ?_)); all_goals (repeat (clear hK K)))
    all_goals refine fin_r (fin_p (.r2 _ _ _ _ (.tmp _ _ rfl) (.tmp _ _ rfl)) ?_ rfl rfl rfl)
    all_goals rfl
  | true =>
    have b1 : (!bkB n ls) = false := by rw [c1]; rfl
    have hN := bkB_n c1
    cases c2 : rtB n ls rd with
    | false =>
      ((repeat' (first
    | (show SQ _ _ _ _ _ _ _ _; first | apply sq_nil | (apply q_move; exact rfl; exact rfl) | (apply q_assign; exact rfl; exact rfl) | (apply q_not; exact rfl; exact rfl) | (apply q_ext; exact rfl; exact rfl; exact rfl))
    | (show SQ _ _ _ _ _ _ _ _; (first | (apply q_ldap; exact rfl; exact rfl; exact (ty rfl); exact rfl; exact rfl; exact (by first | rfl | assumption | ((try simp only [Nat.zero_add]); refine List.getElem?_set_self ?_; (try simp only [List.length_set]); assumption)); exact rfl) | (apply q_box; exact rfl; exact rfl; exact rfl) | (apply q_callU; exact rfl; exact rfl; exact rfl; exact FzL.of rfl; exact hV _) | (apply q_callU; exact rfl; exact rfl; exact rfl; exact FzL.of rfl; exact hb hN c2 _)); (try simp only [put, rowsOf, plR, List.all_cons, selE, ovr, setH, del, cellsA, splice, isV, List.nil_append, List.cons_append, List.map_cons, List.map_nil, List.length_cons, List.length_nil, List.set_cons_zero, List.set_cons_succ, List.take_succ_cons, List.take_zero, List.take_nil, List.drop_succ_cons, List.drop_zero, List.drop_nil, List.append_nil, List.all_cons, List.all_nil, Bool.and_true, Bool.true_and, Bool.and_false, Bool.false_and, Nat.reduceAdd, Nat.zero_add, Nat.add_zero, Nat.reduceEqDiff, if_true, if_false, reduceIte]))
    | (show AW _ _ _ _ _ _ _ _; first | refine aw_region ?_ | (refine aw_seqk ?_; intro K hK) | (apply aw_cond_t; exact rfl; exact rfl) | (apply aw_cond_f; exact rfl; exact (by assumption)) | refine aw_ret ?_ | refine aw_skip ?_)
    | refine thn_n ?_
    | (refine hK _ _ _ ?_; clear hK K)
    | refine thn_r ?_)); all_goals (repeat (clear hK K)))
      all_goals refine fin_r (fin_p (.r2 _ _ _ _ (.tmp _ _ rfl) (.tmp _ _ rfl)) ?_ rfl rfl rfl)
      all_goals rfl
    | true =>
      ((repeat' (first
    | (show SQ _ _ _ _ _ _ _ _; first | apply sq_nil | (apply q_move; exact rfl; exact rfl) | (apply q_assign; exact rfl; exact rfl) | (apply q_not; exact rfl; exact rfl) | (apply q_ext; exact rfl; exact rfl; exact rfl))
    | (show SQ _ _ _ _ _ _ _ _; (first | (apply q_ldap; exact rfl; exact rfl; exact (ty rfl); exact rfl; exact rfl; exact (by first | rfl | assumption | ((try simp only [Nat.zero_add]); refine List.getElem?_set_self ?_; (try simp only [List.length_set]); assumption)); exact rfl) | (apply q_box; exact rfl; exact rfl; exact rfl) | (apply q_callU; exact rfl; exact rfl; exact rfl; exact FzL.of rfl; exact hV _) | (apply q_callU; exact rfl; exact rfl; exact rfl; exact FzL.of rfl; exact ho hN c2 _) | (apply q_callU; exact rfl; exact rfl; exact rfl; exact FzL.of rfl; exact hu hN c2 _)); (try simp only [put, rowsOf, plR, List.all_cons, selE, ovr, setH, del, cellsA, splice, isV, List.nil_append, List.cons_append, List.map_cons, List.map_nil, List.length_cons, List.length_nil, List.set_cons_zero, List.set_cons_succ, List.take_succ_cons, List.take_zero, List.take_nil, List.drop_succ_cons, List.drop_zero, List.drop_nil, List.append_nil, List.all_cons, List.all_nil, Bool.and_true, Bool.true_and, Bool.and_false, Bool.false_and, Nat.reduceAdd, Nat.zero_add, Nat.add_zero, Nat.reduceEqDiff, if_true, if_false, reduceIte]))
    | (show AW _ _ _ _ _ _ _ _; first | refine aw_region ?_ | (refine aw_seqk ?_; intro K hK) | (apply aw_cond_f; exact rfl; exact rfl) | (apply aw_cond_f; exact rfl; exact (by assumption)) | refine aw_ret ?_ | refine aw_skip ?_)
    | refine thn_n ?_
    | (refine hK _ _ _ ?_; clear hK K))); all_goals (repeat (clear hK K)))
      all_goals refine fin_r (fin_p (.r2 _ _ _ _ (.tmp _ _ rfl) (.tmp _ _ rfl)) ?_ rfl rfl rfl)
      all_goals rfl
end Go.Proofs.Ytglfcaioapdiaaa.Bk
