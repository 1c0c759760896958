/-
  What the law FnRepair rests on, part 6.
-/
import Derived.Test.YteknfaldpajlpaaZFnRepair5
namespace Go.Proofs.Yteknfaldpajlpaa.Nb
open Go Go.RowKit Go.Proofs.Yteknfaldpajlpaa.Aw Go.Proofs.Yteknfaldpajlpaa.In Go.Proofs.Yteknfaldpajlpaa.Il Go.Proofs.Yteknfaldpajlpaa.Sr
set_option linter.unusedSimpArgs false
set_option linter.unusedVariables false
set_option linter.unusedSectionVars false
attribute [local irreducible] AW SQ Step RO RC DE Thn InB
theorem repair_other (cs : List Int) (hc : cs.length ≤ 1048576) {ds ap : List (List Int)} {list frz : List Int} {bu : Int}
    (hD : ∀ k, RC Try.prog 33 [.dsl 1 (byL cs)] [] k (.tup [.agg [.dsl 1 (nbL ds), .dsl 1 (nbL ap)], .dsl 1 (list.map inL), .sl k 0 frz.length, .v (.int .i64 bu)]) [(k, some ⟨2, 1, true, frz.map inL⟩)] (k + 1))
    {e : Int} (h0 : e ≠ 0) (h3 : e ≠ 3) (hR : ∀ k, RO Try.prog 30 [.agg [.dsl 1 (nbL ds), .dsl 1 (nbL ap)], .dsl 1 (list.map inL), .dsl 1 (frz.map inL), .v (.int .i64 bu)] k (.tup [.v (.slice none 0 0), .v (.int .i64 0), .v (.int .i64 e)]) [] k) (k : Nat) : RO Try.prog 7 [.dsl 1 (byL cs)] k (.v (.bool true)) [] k := by
  have hLong := b10Long_ro cs
  rw [decide_eq_false (show ¬ (1048576 < (cs.length : Int)) by omega)] at hLong
  have hfm : (frz.map inL).length = frz.length := List.length_map _
  have b1 : (e != 0) = true := by simpa using h0
  have b2 : (e != 3) = true := by simpa using h3
  refine RO.ofv' Try.func7 Try.ntmps7 rfl (goFn_of Try.func7 rfl (by kernel_rfl)) rfl rfl ?_
  ((repeat' (first
    | (show SQ _ _ _ _ _ _ _ _; apply sq_frz (t := 5); exact rfl; exact rfl; exact (by first | rfl | exact all_noOwn_map (fun _ => rfl) | assumption | exact hclo); exact (by first | omega | (simp; done) | (simp; omega)); exact (by first | exact dt_full (by first | omega | (simp; done) | (simp; omega)) | assumption | rfl); (try simp only [put, rowsOf, plR, List.all_cons, selE, ovr, setH, del, cellsA, splice, isV, List.nil_append, List.cons_append, List.map_cons, List.map_nil, List.length_cons, List.length_nil, List.set_cons_zero, List.set_cons_succ, List.take_succ_cons, List.take_zero, List.take_nil, List.drop_succ_cons, List.drop_zero, List.drop_nil, List.append_nil, List.all_cons, List.all_nil, Bool.and_true, Bool.true_and, Bool.and_false, Bool.false_and, Nat.reduceAdd, Nat.zero_add, Nat.add_zero, Nat.reduceEqDiff, if_true, if_false, reduceIte]))
    | (show SQ _ _ _ _ _ _ _ _; first | apply sq_nil | (apply q_move; exact rfl; exact rfl) | (apply q_assign; exact rfl; exact rfl) | (apply q_pick_t; exact rfl; exact rfl; exact rfl; exact (by first | assumption | exact rfl)) | (apply q_ext; exact rfl; exact rfl; exact rfl) | (apply q_lenn; exact rfl; exact rfl; exact (ty rfl); exact rfl) | (apply q_eql; exact rfl; exact rfl; exact rfl) | (apply q_neq; exact rfl; exact rfl; exact rfl) | (apply q_g; exact rfl; exact rfl; exact rfl; exact (by assumption)) | (apply q_g; exact rfl; exact rfl; exact rfl; exact rfl))
    | (show SQ _ _ _ _ _ _ _ _; (first | (apply q_ldap; exact rfl; exact rfl; exact (ty rfl); exact rfl; exact rfl; exact (by first | rfl | assumption | ((try simp only [Nat.zero_add]); refine List.getElem?_set_self ?_; (try simp only [List.length_set]); assumption)); exact rfl) | (apply q_alloc; exact rfl; exact (ty rfl); exact rfl; exact rfl) | (apply q_store; exact rfl; exact rfl; exact (ty rfl); exact rfl; exact (by first | rfl | assumption | ((try simp only [Nat.zero_add]); refine List.getElem?_set_self ?_; (try simp only [List.length_set]); assumption)); exact rfl; exact rfl; exact rfl) | (apply q_callU; exact rfl; exact rfl; exact rfl; exact FzL.of rfl; exact hLong _) | (apply q_callU; exact rfl; exact rfl; exact rfl; exact FzL.of rfl; exact hR _) | (apply q_callC; exact rfl; exact rfl; exact rfl; exact hD _; (focus ((repeat (first | exact trivial | refine ⟨by first | exact rfl | assumption, ?_⟩)); done)); skip)); (try simp only [put, rowsOf, plR, List.all_cons, selE, ovr, setH, del, cellsA, splice, isV, List.nil_append, List.cons_append, List.map_cons, List.map_nil, List.length_cons, List.length_nil, List.set_cons_zero, List.set_cons_succ, List.take_succ_cons, List.take_zero, List.take_nil, List.drop_succ_cons, List.drop_zero, List.drop_nil, List.append_nil, List.all_cons, List.all_nil, Bool.and_true, Bool.true_and, Bool.and_false, Bool.false_and, Nat.reduceAdd, Nat.zero_add, Nat.add_zero, Nat.reduceEqDiff, if_true, if_false, reduceIte]))
    | (show AW _ _ _ _ _ _ _ _; first | refine aw_region ?_ | (refine aw_seqk ?_; intro K hK) | (apply aw_cond_f; exact rfl; exact rfl) | (apply aw_cond_t; exact rfl; exact (by assumption)) | refine aw_ret ?_ | refine aw_skip ?_)
    | refine thn_n ?_
    | (refine hK _ _ _ ?_; clear hK K)
    | refine thn_r ?_)); all_goals (repeat (clear hK K)))
  all_goals exact fin_r (fin_b rfl rfl)
theorem repair_none_no (cs : List Int) (hc : cs.length ≤ 1048576) {ds ap : List (List Int)} {list frz : List Int} {bu : Int} (hS : NbS ds) (hA : NbS ap) (hP : prB ds ap = true) (hst : stB ds list = true) (hfr : ∀ x ∈ frz, 0 ≤ x ∧ x < list.length) (hfl : frz.length ≤ 1048576)
    (hD : ∀ k, RC Try.prog 33 [.dsl 1 (byL cs)] [] k (.tup [.agg [.dsl 1 (nbL ds), .dsl 1 (nbL ap)], .dsl 1 (list.map inL), .sl k 0 frz.length, .v (.int .i64 bu)]) [(k, some ⟨2, 1, true, frz.map inL⟩)] (k + 1))
     (hno : ∀ O, Asg ds ap O → O.length = list.length → ¬ Kp list frz O) (hR : ∀ k, RO Try.prog 30 [.agg [.dsl 1 (nbL ds), .dsl 1 (nbL ap)], .dsl 1 (list.map inL), .dsl 1 (frz.map inL), .v (.int .i64 bu)] k (.tup [.v (.slice none 0 0), .v (.int .i64 0), .v (.int .i64 3)]) [] k) {e2 : Int} (he2 : e2 ≠ 0) (hF : ∀ k, RO Try.prog 34 [.agg [.dsl 1 (nbL ds), .dsl 1 (nbL ap)], .v (.int .i64 20000)] k (.tup [.v (.slice none 0 0), .v (.int .i64 e2)]) [] k)
    (k : Nat) : RO Try.prog 7 [.dsl 1 (byL cs)] k (.v (.bool true)) [] k := by
  have hLong := b10Long_ro cs
  rw [decide_eq_false (show ¬ (1048576 < (cs.length : Int)) by omega)] at hLong
  obtain ⟨hl, hv⟩ := stB_in hst
  have hPr := PrF.of hP
  have hn24 := hPr.n
  have hlm : (list.map inL).length = list.length := List.length_map _
  have hfm : (frz.map inL).length = frz.length := List.length_map _
  have hfg : ∀ i, i < frz.length → (frz.map inL)[((i : Nat) : Int).toNat]? = some [.v (.int .i64 (frz.getD i 0))] ∧ 0 ≤ frz.getD i 0 ∧ frz.getD i 0 < list.length ∧ frz.getD i 0 ∈ frz := fun i hi => by
    have e : frz.getD i 0 = frz[i] := by simp [List.getD, hi]
    rw [e]
    have hm := List.getElem_mem hi
    obtain ⟨h1, h2⟩ := hfr _ hm
    exact ⟨by simp [hi, inL], h1, h2, hm⟩
  have hlg : ∀ x : Int, 0 ≤ x → x < list.length → (list.map inL)[x.toNat]? = some [.v (.int .i64 (list.getD x.toNat 0))] := fun x h0 h1 => by simp [show x.toNat < list.length by omega, List.getD, inL]
  have g1 : (e2 == 0) = false := by simpa using he2
  refine RO.ofv' Try.func7 Try.ntmps7 rfl (goFn_of Try.func7 rfl (by kernel_rfl)) rfl rfl ?_
  ((repeat' (first
    | (show SQ _ _ _ _ _ _ _ _; apply sq_frz (t := 5); exact rfl; exact rfl; exact (by first | rfl | exact all_noOwn_map (fun _ => rfl) | assumption | exact hclo); exact (by first | omega | (simp; done) | (simp; omega)); exact (by first | exact dt_full (by first | omega | (simp; done) | (simp; omega)) | assumption | rfl); (try simp only [put, rowsOf, plR, List.all_cons, selE, ovr, setH, del, cellsA, splice, isV, List.nil_append, List.cons_append, List.map_cons, List.map_nil, List.length_cons, List.length_nil, List.set_cons_zero, List.set_cons_succ, List.take_succ_cons, List.take_zero, List.take_nil, List.drop_succ_cons, List.drop_zero, List.drop_nil, List.append_nil, List.all_cons, List.all_nil, Bool.and_true, Bool.true_and, Bool.and_false, Bool.false_and, Nat.reduceAdd, Nat.zero_add, Nat.add_zero, Nat.reduceEqDiff, if_true, if_false, reduceIte]))
    | (show SQ _ _ _ _ _ _ _ _; first | apply sq_nil | (apply q_move; exact rfl; exact rfl) | (apply q_assign; exact rfl; exact rfl) | (apply q_pick_t; exact rfl; exact rfl; exact rfl; exact (by first | assumption | exact rfl)) | (apply q_ext; exact rfl; exact rfl; exact rfl) | (apply q_neq; exact rfl; exact rfl; exact rfl) | (apply q_g; exact rfl; exact rfl; exact rfl; exact rfl))
    | (show SQ _ _ _ _ _ _ _ _; (first | (apply q_ldap; exact rfl; exact rfl; exact (ty rfl); exact rfl; exact rfl; exact (by first | rfl | assumption | ((try simp only [Nat.zero_add]); refine List.getElem?_set_self ?_; (try simp only [List.length_set]); assumption)); exact rfl) | (apply q_alloc; exact rfl; exact (ty rfl); exact rfl; exact rfl) | (apply q_store; exact rfl; exact rfl; exact (ty rfl); exact rfl; exact (by first | rfl | assumption | ((try simp only [Nat.zero_add]); refine List.getElem?_set_self ?_; (try simp only [List.length_set]); assumption)); exact rfl; exact rfl; exact rfl) | (apply q_callU; exact rfl; exact rfl; exact rfl; exact FzL.of rfl; exact hLong _) | (apply q_callU; exact rfl; exact rfl; exact rfl; exact FzL.of rfl; exact hR _) | (apply q_callC; exact rfl; exact rfl; exact rfl; exact hD _; (focus ((repeat (first | exact trivial | refine ⟨by first | exact rfl | assumption, ?_⟩)); done)); skip)); (try simp only [put, rowsOf, plR, List.all_cons, selE, ovr, setH, del, cellsA, splice, isV, List.nil_append, List.cons_append, List.map_cons, List.map_nil, List.length_cons, List.length_nil, List.set_cons_zero, List.set_cons_succ, List.take_succ_cons, List.take_zero, List.take_nil, List.drop_succ_cons, List.drop_zero, List.drop_nil, List.append_nil, List.all_cons, List.all_nil, Bool.and_true, Bool.true_and, Bool.and_false, Bool.false_and, Nat.reduceAdd, Nat.zero_add, Nat.add_zero, Nat.reduceEqDiff, if_true, if_false, reduceIte]))
    | (show AW _ _ _ _ _ _ _ _; first | refine aw_region ?_ | (refine aw_seqk ?_; intro K hK) | refine aw_block ?_ | (apply aw_cond_f; exact rfl; exact rfl) | refine aw_skip ?_)
    | refine thn_n ?_
    | (refine hK _ _ _ ?_; clear hK K))); all_goals (repeat (clear hK K)))
  refine aw_loop (ρ := mv 0 1) (ι := Nat) (fun i => ([(10, .v (.int .i64 i)), (9, .v (.int .i64 3)), (8, .v (.int .i64 0)), (7, .v (.slice none 0 0)), (5, .dsl 1 (frz.map inL)), (4, .dsl 1 (list.map inL)), (3, .ptr 0 0 0)], [(0, ⟨50, 2, false, [[.dsl 1 (nbL ds), .dsl 1 (nbL ap)]]⟩)], 1))
    (fun i => i ≤ frz.length) (fun i => frz.length - i) 0 (Nat.zero_le _) ⟨by (repeat (refine ⟨by first | exact lk_i rfl rfl | exact lk_d rfl rfl | exact lk_v rfl rfl | exact lk_r rfl rfl rfl, ?_⟩)); exact trivial, by (repeat (refine ⟨by first | exact ⟨rfl, rfl, rfl⟩, ?_⟩)); exact trivial, by rfl, by exact pin_0⟩ ?_
  intro i hi
  by_cases c1 : i < frz.length
  · have b1 : decide ((i : Int) < ((frz.map inL).length : Int)) = true := by rw [hfm]; simpa using c1
    obtain ⟨hr1, hx0, hx1, _⟩ := hfg i c1
    have him : i < (frz.map inL).length := by omega
    generalize frz.getD i 0 = x at *
    have b2 : decide (x < 0) = false := by rw [decide_eq_false_iff_not]; omega
    have b3 : decide (x ≥ (((list.map inL).length : Nat) : Int)) = false := by rw [hlm, decide_eq_false_iff_not]; omega
    have hw : IntKind.i64.wrap ((i : Int) + 1) = ((i + 1 : Nat) : Int) := by rw [IntWalk.i64_in _ (by omega)]; omega
    ((repeat' (first
    | (show SQ _ _ _ _ _ _ _ _; first | apply sq_nil | (apply q_move; exact rfl; exact rfl) | (apply q_assign; exact rfl; exact rfl) | (apply q_pick_f; exact rfl; exact rfl; exact rfl; exact (by first | assumption | exact rfl)) | (apply q_lend; exact rfl; exact rfl; exact (ty rfl); exact rfl) | (apply q_add; exact rfl; exact rfl; exact rfl) | (apply q_lss; exact rfl; exact rfl; exact rfl) | (apply q_geq; exact rfl; exact rfl; exact rfl) | (apply q_ixd; exact rfl; exact rfl; exact rfl; exact (ty rfl); exact rfl; exact (by first | omega | (simp; done) | (simp; omega)); exact (by first | omega | (simp; done) | (simp; omega)); exact (by first | rfl | assumption)) | (apply q_ld1d; exact rfl; exact rfl; exact (ty rfl); exact rfl; exact rfl) | (apply q_g; exact rfl; exact rfl; exact rfl; exact (by assumption)))
    | (show AW _ _ _ _ _ _ _ _; first | refine aw_region ?_ | (refine aw_seqk ?_; intro K hK) | refine aw_block ?_ | (apply aw_cond_t; exact rfl; exact (by assumption)) | (apply aw_cond_f; exact rfl; exact (by assumption)) | refine aw_skip ?_)
    | refine thn_n ?_
    | (refine hK _ _ _ ?_; clear hK K)
    | refine inb_n ?_)); all_goals (repeat (clear hK K)))
    all_goals (refine ⟨i + 1, id, c1, by omega, ?_⟩; (try dsimp only); rw [← hw]; exact ⟨by (repeat (refine ⟨by first | exact lk_i rfl rfl | exact lk_d rfl rfl | exact lk_v rfl rfl | exact lk_r rfl rfl rfl, ?_⟩)); exact trivial, by (repeat (refine ⟨by first | exact ⟨rfl, rfl, rfl⟩, ?_⟩)); exact trivial, by rfl, by exact pin_0⟩)
  have b1 : decide ((i : Int) < ((frz.map inL).length : Int)) = false := by rw [hfm]; simpa using c1
  clear c1 hi
  ((repeat' (first
    | (show SQ _ _ _ _ _ _ _ _; first | apply sq_nil | (apply q_move; exact rfl; exact rfl) | (apply q_assign; exact rfl; exact rfl) | (apply q_pick_f; exact rfl; exact rfl; exact rfl; exact (by first | assumption | exact rfl)) | (apply q_ext; exact rfl; exact rfl; exact rfl) | (apply q_lend; exact rfl; exact rfl; exact (ty rfl); exact rfl) | (apply q_eql; exact rfl; exact rfl; exact rfl) | (apply q_lss; exact rfl; exact rfl; exact rfl) | (apply q_s; exact rfl; exact rfl; exact rfl; exact (by assumption); exact rfl))
    | (show SQ _ _ _ _ _ _ _ _; (first | (apply q_ldap; exact rfl; exact rfl; exact (ty rfl); exact rfl; exact rfl; exact (by first | rfl | assumption | ((try simp only [Nat.zero_add]); refine List.getElem?_set_self ?_; (try simp only [List.length_set]); assumption)); exact rfl) | (apply q_callU; exact rfl; exact rfl; exact rfl; exact FzL.of rfl; exact hF _)); (try simp only [put, rowsOf, plR, List.all_cons, selE, ovr, setH, del, cellsA, splice, isV, List.nil_append, List.cons_append, List.map_cons, List.map_nil, List.length_cons, List.length_nil, List.set_cons_zero, List.set_cons_succ, List.take_succ_cons, List.take_zero, List.take_nil, List.drop_succ_cons, List.drop_zero, List.drop_nil, List.append_nil, List.all_cons, List.all_nil, Bool.and_true, Bool.true_and, Bool.and_false, Bool.false_and, Nat.reduceAdd, Nat.zero_add, Nat.add_zero, Nat.reduceEqDiff, if_true, if_false, reduceIte]))
    | (show AW _ _ _ _ _ _ _ _; first | refine aw_region ?_ | (refine aw_seqk ?_; intro K hK) | refine aw_block ?_ | (apply aw_cond_f; exact rfl; exact (by assumption)) | refine aw_exit ?_)
    | refine thn_n ?_
    | (refine hK _ _ _ ?_; clear hK K)
    | refine thn_e ?_
    | refine inb_same ?_
    | (clear hK K; refine hK _ _ _ ?_; clear hK K))); all_goals (repeat (clear hK K)))
  refine aw_loop (ρ := id) (ι := Nat × Bool) (fun s => ([(14, .v (.int .i64 (s.1 : Nat))), (13, .v (.bool s.2)), (11, .v (.slice none 0 0)), (9, .v (.int .i64 3)), (8, .v (.int .i64 0)), (7, .v (.slice none 0 0)), (5, .dsl 1 (frz.map inL)), (4, .dsl 1 (list.map inL)), (3, .ptr 0 0 0)], [(0, ⟨50, 2, false, [[.dsl 1 (nbL ds), .dsl 1 (nbL ap)]]⟩)], 1))
    (fun s => s = (0, false)) (fun s => 0) (0, false) rfl ⟨by (repeat (refine ⟨by first | exact lk_i rfl rfl | exact lk_d rfl rfl | exact lk_v rfl rfl | exact lk_r rfl rfl rfl, ?_⟩)); exact trivial, by (repeat (refine ⟨by first | exact ⟨rfl, rfl, rfl⟩, ?_⟩)); exact trivial, by rfl, by exact pin_0⟩ ?_
  rintro _ rfl
  dsimp only
  cases b4 : decide (((0 : Nat) : Int) < ((frz.map inL).length : Int)) with
  | true =>
    ((repeat' (first
    | (show SQ _ _ _ _ _ _ _ _; first | apply sq_nil | (apply q_move; exact rfl; exact rfl) | (apply q_assign; exact rfl; exact rfl) | (apply q_pick_t; exact rfl; exact rfl; exact rfl; exact (by first | assumption | exact rfl)) | (apply q_not; exact rfl; exact rfl) | (apply q_lend; exact rfl; exact rfl; exact (ty rfl); exact rfl) | (apply q_lenn; exact rfl; exact rfl; exact (ty rfl); exact rfl) | (apply q_eql; exact rfl; exact rfl; exact rfl) | (apply q_lss; exact rfl; exact rfl; exact rfl) | (apply q_g; exact rfl; exact rfl; exact rfl; exact (by assumption)) | (apply q_g; exact rfl; exact rfl; exact rfl; exact rfl))
    | (show AW _ _ _ _ _ _ _ _; first | refine aw_region ?_ | (refine aw_seqk ?_; intro K hK) | (apply aw_cond_t; exact rfl; exact rfl) | (apply aw_cond_f; exact rfl; exact rfl) | refine aw_ret ?_ | refine aw_exit ?_)
    | refine thn_n ?_
    | (refine hK _ _ _ ?_; clear hK K)
    | refine thn_e ?_
    | refine thn_r ?_
    | refine inb_same ?_
    | (clear hK K; refine hK _ _ _ ?_; clear hK K))); all_goals (repeat (clear hK K)))
    all_goals exact fin_r (fin_b rfl rfl)
  | false =>
    ((repeat' (first
    | (show SQ _ _ _ _ _ _ _ _; first | apply sq_nil | (apply q_move; exact rfl; exact rfl) | (apply q_assign; exact rfl; exact rfl) | (apply q_pick_t; exact rfl; exact rfl; exact rfl; exact (by first | assumption | exact rfl)) | (apply q_pick_f; exact rfl; exact rfl; exact rfl; exact (by first | assumption | exact rfl)) | (apply q_not; exact rfl; exact rfl) | (apply q_lend; exact rfl; exact rfl; exact (ty rfl); exact rfl) | (apply q_lenn; exact rfl; exact rfl; exact (ty rfl); exact rfl) | (apply q_eql; exact rfl; exact rfl; exact rfl) | (apply q_lss; exact rfl; exact rfl; exact rfl) | (apply q_s; exact rfl; exact rfl; exact rfl; exact (by assumption); exact rfl) | (apply q_g; exact rfl; exact rfl; exact rfl; exact rfl))
    | (show AW _ _ _ _ _ _ _ _; first | refine aw_region ?_ | (refine aw_seqk ?_; intro K hK) | (apply aw_cond_t; exact rfl; exact rfl) | (apply aw_cond_f; exact rfl; exact rfl) | refine aw_ret ?_ | refine aw_exit ?_)
    | refine thn_n ?_
    | (refine hK _ _ _ ?_; clear hK K)
    | refine thn_e ?_
    | refine thn_r ?_
    | refine inb_same ?_
    | (clear hK K; refine hK _ _ _ ?_; clear hK K))); all_goals (repeat (clear hK K)))
    all_goals exact fin_r (fin_b rfl rfl)
theorem repair_none_yes (cs : List Int) (hc : cs.length ≤ 1048576) {ds ap : List (List Int)} {list frz : List Int} {bu : Int} (hS : NbS ds) (hA : NbS ap) (hP : prB ds ap = true) (hst : stB ds list = true) (hfr : ∀ x ∈ frz, 0 ≤ x ∧ x < list.length) (hfl : frz.length ≤ 1048576)
    (hD : ∀ k, RC Try.prog 33 [.dsl 1 (byL cs)] [] k (.tup [.agg [.dsl 1 (nbL ds), .dsl 1 (nbL ap)], .dsl 1 (list.map inL), .sl k 0 frz.length, .v (.int .i64 bu)]) [(k, some ⟨2, 1, true, frz.map inL⟩)] (k + 1))
     (hno : ∀ O, Asg ds ap O → O.length = list.length → ¬ Kp list frz O) (hR : ∀ k, RO Try.prog 30 [.agg [.dsl 1 (nbL ds), .dsl 1 (nbL ap)], .dsl 1 (list.map inL), .dsl 1 (frz.map inL), .v (.int .i64 bu)] k (.tup [.v (.slice none 0 0), .v (.int .i64 0), .v (.int .i64 3)]) [] k) {O : List Int} (Ol : O.length = list.length) (Oa : Asg ds ap O) (hF : ∀ k, RO Try.prog 34 [.agg [.dsl 1 (nbL ds), .dsl 1 (nbL ap)], .v (.int .i64 20000)] k (.tup [.sl k 0 O.length, .v (.int .i64 0)]) [(k, ⟨2, 1, true, O.map inL⟩)] (k + 1))
    (k : Nat) : RO Try.prog 7 [.dsl 1 (byL cs)] k (.v (.bool true)) [] k := by
  have hLong := b10Long_ro cs
  rw [decide_eq_false (show ¬ (1048576 < (cs.length : Int)) by omega)] at hLong
  obtain ⟨hl, hv⟩ := stB_in hst
  have hPr := PrF.of hP
  have hn24 := hPr.n
  have hlm : (list.map inL).length = list.length := List.length_map _
  have hfm : (frz.map inL).length = frz.length := List.length_map _
  have hfg : ∀ i, i < frz.length → (frz.map inL)[((i : Nat) : Int).toNat]? = some [.v (.int .i64 (frz.getD i 0))] ∧ 0 ≤ frz.getD i 0 ∧ frz.getD i 0 < list.length ∧ frz.getD i 0 ∈ frz := fun i hi => by
    have e : frz.getD i 0 = frz[i] := by simp [List.getD, hi]
    rw [e]
    have hm := List.getElem_mem hi
    obtain ⟨h1, h2⟩ := hfr _ hm
    exact ⟨by simp [hi, inL], h1, h2, hm⟩
  have hlg : ∀ x : Int, 0 ≤ x → x < list.length → (list.map inL)[x.toNat]? = some [.v (.int .i64 (list.getD x.toNat 0))] := fun x h0 h1 => by simp [show x.toNat < list.length by omega, List.getD, inL]
  have hOm : (O.map inL).length = O.length := List.length_map _
  have hOg : ∀ x : Int, 0 ≤ x → x < list.length → (O.map inL)[x.toNat]? = some [.v (.int .i64 (O.getD x.toNat 0))] := fun x h0 h1 => by simp [show x.toNat < O.length by omega, List.getD, inL]
  have g1 : ((O.length : Int) == (list.length : Int)) = true := by rw [Ol]; simp
  refine RO.ofv' Try.func7 Try.ntmps7 rfl (goFn_of Try.func7 rfl (by kernel_rfl)) rfl rfl ?_
  ((repeat' (first
    | (show SQ _ _ _ _ _ _ _ _; apply sq_frz (t := 5); exact rfl; exact rfl; exact (by first | rfl | exact all_noOwn_map (fun _ => rfl) | assumption | exact hclo); exact (by first | omega | (simp; done) | (simp; omega)); exact (by first | exact dt_full (by first | omega | (simp; done) | (simp; omega)) | assumption | rfl); (try simp only [put, rowsOf, plR, List.all_cons, selE, ovr, setH, del, cellsA, splice, isV, List.nil_append, List.cons_append, List.map_cons, List.map_nil, List.length_cons, List.length_nil, List.set_cons_zero, List.set_cons_succ, List.take_succ_cons, List.take_zero, List.take_nil, List.drop_succ_cons, List.drop_zero, List.drop_nil, List.append_nil, List.all_cons, List.all_nil, Bool.and_true, Bool.true_and, Bool.and_false, Bool.false_and, Nat.reduceAdd, Nat.zero_add, Nat.add_zero, Nat.reduceEqDiff, if_true, if_false, reduceIte]))
    | (show SQ _ _ _ _ _ _ _ _; first | apply sq_nil | (apply q_move; exact rfl; exact rfl) | (apply q_assign; exact rfl; exact rfl) | (apply q_pick_t; exact rfl; exact rfl; exact rfl; exact (by first | assumption | exact rfl)) | (apply q_ext; exact rfl; exact rfl; exact rfl) | (apply q_neq; exact rfl; exact rfl; exact rfl) | (apply q_g; exact rfl; exact rfl; exact rfl; exact rfl))
    | (show SQ _ _ _ _ _ _ _ _; (first | (apply q_ldap; exact rfl; exact rfl; exact (ty rfl); exact rfl; exact rfl; exact (by first | rfl | assumption | ((try simp only [Nat.zero_add]); refine List.getElem?_set_self ?_; (try simp only [List.length_set]); assumption)); exact rfl) | (apply q_alloc; exact rfl; exact (ty rfl); exact rfl; exact rfl) | (apply q_store; exact rfl; exact rfl; exact (ty rfl); exact rfl; exact (by first | rfl | assumption | ((try simp only [Nat.zero_add]); refine List.getElem?_set_self ?_; (try simp only [List.length_set]); assumption)); exact rfl; exact rfl; exact rfl) | (apply q_callU; exact rfl; exact rfl; exact rfl; exact FzL.of rfl; exact hLong _) | (apply q_callU; exact rfl; exact rfl; exact rfl; exact FzL.of rfl; exact hR _) | (apply q_callC; exact rfl; exact rfl; exact rfl; exact hD _; (focus ((repeat (first | exact trivial | refine ⟨by first | exact rfl | assumption, ?_⟩)); done)); skip)); (try simp only [put, rowsOf, plR, List.all_cons, selE, ovr, setH, del, cellsA, splice, isV, List.nil_append, List.cons_append, List.map_cons, List.map_nil, List.length_cons, List.length_nil, List.set_cons_zero, List.set_cons_succ, List.take_succ_cons, List.take_zero, List.take_nil, List.drop_succ_cons, List.drop_zero, List.drop_nil, List.append_nil, List.all_cons, List.all_nil, Bool.and_true, Bool.true_and, Bool.and_false, Bool.false_and, Nat.reduceAdd, Nat.zero_add, Nat.add_zero, Nat.reduceEqDiff, if_true, if_false, reduceIte]))
    | (show AW _ _ _ _ _ _ _ _; first | refine aw_region ?_ | (refine aw_seqk ?_; intro K hK) | refine aw_block ?_ | (apply aw_cond_f; exact rfl; exact rfl) | refine aw_skip ?_)
    | refine thn_n ?_
    | (refine hK _ _ _ ?_; clear hK K))); all_goals (repeat (clear hK K)))
  refine aw_loop (ρ := mv 0 1) (ι := Nat) (fun i => ([(10, .v (.int .i64 i)), (9, .v (.int .i64 3)), (8, .v (.int .i64 0)), (7, .v (.slice none 0 0)), (5, .dsl 1 (frz.map inL)), (4, .dsl 1 (list.map inL)), (3, .ptr 0 0 0)], [(0, ⟨50, 2, false, [[.dsl 1 (nbL ds), .dsl 1 (nbL ap)]]⟩)], 1))
    (fun i => i ≤ frz.length) (fun i => frz.length - i) 0 (Nat.zero_le _) ⟨by (repeat (refine ⟨by first | exact lk_i rfl rfl | exact lk_d rfl rfl | exact lk_v rfl rfl | exact lk_r rfl rfl rfl, ?_⟩)); exact trivial, by (repeat (refine ⟨by first | exact ⟨rfl, rfl, rfl⟩, ?_⟩)); exact trivial, by rfl, by exact pin_0⟩ ?_
  intro i hi
  by_cases c1 : i < frz.length
  · have b1 : decide ((i : Int) < ((frz.map inL).length : Int)) = true := by rw [hfm]; simpa using c1
    obtain ⟨hr1, hx0, hx1, _⟩ := hfg i c1
    have him : i < (frz.map inL).length := by omega
    generalize frz.getD i 0 = x at *
    have b2 : decide (x < 0) = false := by rw [decide_eq_false_iff_not]; omega
    have b3 : decide (x ≥ (((list.map inL).length : Nat) : Int)) = false := by rw [hlm, decide_eq_false_iff_not]; omega
    have hw : IntKind.i64.wrap ((i : Int) + 1) = ((i + 1 : Nat) : Int) := by rw [IntWalk.i64_in _ (by omega)]; omega
    ((repeat' (first
    | (show SQ _ _ _ _ _ _ _ _; first | apply sq_nil | (apply q_move; exact rfl; exact rfl) | (apply q_assign; exact rfl; exact rfl) | (apply q_pick_f; exact rfl; exact rfl; exact rfl; exact (by first | assumption | exact rfl)) | (apply q_lend; exact rfl; exact rfl; exact (ty rfl); exact rfl) | (apply q_add; exact rfl; exact rfl; exact rfl) | (apply q_lss; exact rfl; exact rfl; exact rfl) | (apply q_geq; exact rfl; exact rfl; exact rfl) | (apply q_ixd; exact rfl; exact rfl; exact rfl; exact (ty rfl); exact rfl; exact (by first | omega | (simp; done) | (simp; omega)); exact (by first | omega | (simp; done) | (simp; omega)); exact (by first | rfl | assumption)) | (apply q_ld1d; exact rfl; exact rfl; exact (ty rfl); exact rfl; exact rfl) | (apply q_g; exact rfl; exact rfl; exact rfl; exact (by assumption)))
    | (show AW _ _ _ _ _ _ _ _; first | refine aw_region ?_ | (refine aw_seqk ?_; intro K hK) | refine aw_block ?_ | (apply aw_cond_t; exact rfl; exact (by assumption)) | (apply aw_cond_f; exact rfl; exact (by assumption)) | refine aw_skip ?_)
    | refine thn_n ?_
    | (refine hK _ _ _ ?_; clear hK K)
    | refine inb_n ?_)); all_goals (repeat (clear hK K)))
    all_goals (refine ⟨i + 1, id, c1, by omega, ?_⟩; (try dsimp only); rw [← hw]; exact ⟨by (repeat (refine ⟨by first | exact lk_i rfl rfl | exact lk_d rfl rfl | exact lk_v rfl rfl | exact lk_r rfl rfl rfl, ?_⟩)); exact trivial, by (repeat (refine ⟨by first | exact ⟨rfl, rfl, rfl⟩, ?_⟩)); exact trivial, by rfl, by exact pin_0⟩)
  have b1 : decide ((i : Int) < ((frz.map inL).length : Int)) = false := by rw [hfm]; simpa using c1
  clear c1 hi
  ((repeat' (first
    | (show SQ _ _ _ _ _ _ _ _; apply sq_frz (t := 11); exact rfl; exact rfl; exact (by first | rfl | exact all_noOwn_map (fun _ => rfl) | assumption | exact hclo); exact (by first | omega | (simp; done) | (simp; omega)); exact (by first | exact dt_full (by first | omega | (simp; done) | (simp; omega)) | assumption | rfl); (try simp only [put, rowsOf, plR, List.all_cons, selE, ovr, setH, del, cellsA, splice, isV, List.nil_append, List.cons_append, List.map_cons, List.map_nil, List.length_cons, List.length_nil, List.set_cons_zero, List.set_cons_succ, List.take_succ_cons, List.take_zero, List.take_nil, List.drop_succ_cons, List.drop_zero, List.drop_nil, List.append_nil, List.all_cons, List.all_nil, Bool.and_true, Bool.true_and, Bool.and_false, Bool.false_and, Nat.reduceAdd, Nat.zero_add, Nat.add_zero, Nat.reduceEqDiff, if_true, if_false, reduceIte]))
    | (show SQ _ _ _ _ _ _ _ _; first | apply sq_nil | (apply q_move; exact rfl; exact rfl) | (apply q_assign; exact rfl; exact rfl) | (apply q_pick_t; exact rfl; exact rfl; exact rfl; exact (by first | assumption | exact rfl)) | (apply q_ext; exact rfl; exact rfl; exact rfl) | (apply q_lend; exact rfl; exact rfl; exact (ty rfl); exact rfl) | (apply q_eql; exact rfl; exact rfl; exact rfl) | (apply q_lss; exact rfl; exact rfl; exact rfl) | (apply q_g; exact rfl; exact rfl; exact rfl; exact rfl))
    | (show SQ _ _ _ _ _ _ _ _; (first | (apply q_ldap; exact rfl; exact rfl; exact (ty rfl); exact rfl; exact rfl; exact (by first | rfl | assumption | ((try simp only [Nat.zero_add]); refine List.getElem?_set_self ?_; (try simp only [List.length_set]); assumption)); exact rfl) | (apply q_callU; exact rfl; exact rfl; exact rfl; exact FzL.of rfl; exact hF _)); (try simp only [put, rowsOf, plR, List.all_cons, selE, ovr, setH, del, cellsA, splice, isV, List.nil_append, List.cons_append, List.map_cons, List.map_nil, List.length_cons, List.length_nil, List.set_cons_zero, List.set_cons_succ, List.take_succ_cons, List.take_zero, List.take_nil, List.drop_succ_cons, List.drop_zero, List.drop_nil, List.append_nil, List.all_cons, List.all_nil, Bool.and_true, Bool.true_and, Bool.and_false, Bool.false_and, Nat.reduceAdd, Nat.zero_add, Nat.add_zero, Nat.reduceEqDiff, if_true, if_false, reduceIte]))
    | (show AW _ _ _ _ _ _ _ _; first | refine aw_region ?_ | (refine aw_seqk ?_; intro K hK) | refine aw_block ?_ | (apply aw_cond_f; exact rfl; exact (by assumption)) | refine aw_exit ?_)
    | refine thn_n ?_
    | (refine hK _ _ _ ?_; clear hK K)
    | refine thn_e ?_
    | refine inb_same ?_
    | (clear hK K; refine hK _ _ _ ?_; clear hK K))); all_goals (repeat (clear hK K)))
  refine aw_loop (ρ := id) (ι := Nat × Bool) (fun s => ([(14, .v (.int .i64 (s.1 : Nat))), (13, .v (.bool s.2)), (11, .dsl 1 (O.map inL)), (9, .v (.int .i64 3)), (8, .v (.int .i64 0)), (7, .v (.slice none 0 0)), (5, .dsl 1 (frz.map inL)), (4, .dsl 1 (list.map inL)), (3, .ptr 0 0 0)], [(0, ⟨50, 2, false, [[.dsl 1 (nbL ds), .dsl 1 (nbL ap)]]⟩)], 1))
    (fun s => s.1 ≤ frz.length ∧ (s.2 = true → ∀ j, j < s.1 → O.getD (frz.getD j 0).toNat 0 = list.getD (frz.getD j 0).toNat 0)) (fun s => frz.length - s.1) (0, ((((O.map inL).length : Nat) : Int) == (((list.map inL).length : Nat) : Int))) ⟨Nat.zero_le _, fun _ j hj => by dsimp only at hj; omega⟩ ⟨by (repeat (refine ⟨by first | exact lk_i rfl rfl | exact lk_d rfl rfl | exact lk_v rfl rfl | exact lk_r rfl rfl rfl, ?_⟩)); exact trivial, by (repeat (refine ⟨by first | exact ⟨rfl, rfl, rfl⟩, ?_⟩)); exact trivial, by rfl, by exact pin_0⟩ ?_
  rintro ⟨j, v⟩ ⟨hj, hk⟩
  dsimp only at hj hk ⊢
  by_cases c1 : j < frz.length ∧ v = true
  · obtain ⟨c1, rfl⟩ := c1
    have b4 : decide ((j : Int) < ((frz.map inL).length : Int)) = true := by rw [hfm]; simpa using c1
    obtain ⟨hr1, hx0, hx1, hxm⟩ := hfg j c1
    have him : j < (frz.map inL).length := by omega
    have hk := hk rfl
    have hk2 : (O.getD (frz.getD j 0).toNat 0 == list.getD (frz.getD j 0).toNat 0) = true → ∀ i, i < j + 1 → O.getD (frz.getD i 0).toNat 0 = list.getD (frz.getD i 0).toNat 0 := fun e i hi => by
      by_cases e2 : i = j
      · subst e2; exact beq_iff_eq.1 e
      · exact hk i (by omega)
    generalize frz.getD j 0 = x at *
    have e1 := hlg x hx0 hx1
    have e2 := hOg x hx0 hx1
    have hw : IntKind.i64.wrap ((j : Int) + 1) = ((j + 1 : Nat) : Int) := by rw [IntWalk.i64_in _ (by omega)]; omega
    ((repeat' (first
    | (show SQ _ _ _ _ _ _ _ _; first | apply sq_nil | (apply q_move; exact rfl; exact rfl) | (apply q_assign; exact rfl; exact rfl) | (apply q_pick_t; exact rfl; exact rfl; exact rfl; exact (by first | assumption | exact rfl)) | (apply q_lend; exact rfl; exact rfl; exact (ty rfl); exact rfl) | (apply q_add; exact rfl; exact rfl; exact rfl) | (apply q_lss; exact rfl; exact rfl; exact rfl) | (apply q_g; exact rfl; exact rfl; exact rfl; exact (by assumption)))
    | (show DE _ _ _ _ _ _ _ _ _ _ _ _; first | (apply e_move; exact rfl; exact rfl; exact rfl) | (apply e_assign; exact rfl; exact rfl; exact rfl) | (apply e_eql; exact rfl; exact rfl; exact rfl; exact rfl) | (apply e_ixd; exact rfl; exact rfl; exact rfl; exact (ty rfl); exact rfl; exact (by first | omega | (simp; done) | (simp; omega)); exact (by first | omega | (simp; done) | (simp; omega)); exact (by first | rfl | assumption); exact rfl) | (apply e_ld1d; exact rfl; exact rfl; exact (ty rfl); exact rfl; exact rfl; exact rfl))
    | (show DE _ _ _ _ _ _ _ _ _ _ _ _; (first | (apply dr_nil; exact trivial)); (try simp only [put, rowsOf, plR, List.all_cons, selE, ovr, setH, del, cellsA, splice, isV, List.nil_append, List.cons_append, List.map_cons, List.map_nil, List.length_cons, List.length_nil, List.set_cons_zero, List.set_cons_succ, List.take_succ_cons, List.take_zero, List.take_nil, List.drop_succ_cons, List.drop_zero, List.drop_nil, List.append_nil, List.all_cons, List.all_nil, Bool.and_true, Bool.true_and, Bool.and_false, Bool.false_and, Nat.reduceAdd, Nat.zero_add, Nat.add_zero, Nat.reduceEqDiff, if_true, if_false, reduceIte]))
    | (show AW _ _ _ _ _ _ _ _; first | refine aw_region ?_ | (refine aw_seqk ?_; intro K hK) | refine aw_block ?_ | (apply aw_cond_t; exact rfl; exact rfl) | refine aw_skip ?_ | refine aw_drawE (id := 17) [0, 0, 0, 6, 14, 31, 63, 0, 0, 0, 768, 1792, 3968, 8064, 16383, 32767] [0, 0, 0, 0, 1, 0, 1, 0, 0, 0, 0, 1, 0, 1, 0, 0] mixed (by kernel_rfl) ?_)
    | refine thn_n ?_
    | (refine hK _ _ _ ?_; clear hK K)
    | refine inb_n ?_)); all_goals (repeat (clear hK K)))
    all_goals (refine ⟨(j + 1, _), id, ⟨c1, hk2⟩, by dsimp only; omega, ?_⟩; (try dsimp only); rw [← hw]; exact ⟨by (repeat (refine ⟨by first | exact lk_i rfl rfl | exact lk_d rfl rfl | exact lk_v rfl rfl | exact lk_r rfl rfl rfl, ?_⟩)); exact trivial, by (repeat (refine ⟨by first | exact ⟨rfl, rfl, rfl⟩, ?_⟩)); exact trivial, by rfl, by exact pin_0⟩)
  · cases v with
    | true =>
      have hjf : ¬ j < frz.length := fun h => c1 ⟨h, rfl⟩
      have b4 : decide ((j : Int) < ((frz.map inL).length : Int)) = false := by rw [hfm]; simpa using hjf
      have hvK : Kp list frz O := fun x hx => by
        obtain ⟨i, hi, rfl⟩ := List.getElem_of_mem hx
        have := hk rfl i (by omega)
        simpa [List.getD, hi] using this
      exact absurd hvK (hno O Oa Ol)
    | false =>
      cases b4 : decide ((j : Int) < ((frz.map inL).length : Int)) with
      | true =>
        ((repeat' (first
    | (show SQ _ _ _ _ _ _ _ _; first | apply sq_nil | (apply q_move; exact rfl; exact rfl) | (apply q_assign; exact rfl; exact rfl) | (apply q_pick_t; exact rfl; exact rfl; exact rfl; exact (by first | assumption | exact rfl)) | (apply q_not; exact rfl; exact rfl) | (apply q_lend; exact rfl; exact rfl; exact (ty rfl); exact rfl) | (apply q_lenn; exact rfl; exact rfl; exact (ty rfl); exact rfl) | (apply q_eql; exact rfl; exact rfl; exact rfl) | (apply q_lss; exact rfl; exact rfl; exact rfl) | (apply q_g; exact rfl; exact rfl; exact rfl; exact (by assumption)) | (apply q_g; exact rfl; exact rfl; exact rfl; exact rfl))
    | (show AW _ _ _ _ _ _ _ _; first | refine aw_region ?_ | (refine aw_seqk ?_; intro K hK) | (apply aw_cond_t; exact rfl; exact rfl) | (apply aw_cond_f; exact rfl; exact rfl) | refine aw_ret ?_ | refine aw_exit ?_)
    | refine thn_n ?_
    | (refine hK _ _ _ ?_; clear hK K)
    | refine thn_e ?_
    | refine thn_r ?_
    | refine inb_same ?_
    | (clear hK K; refine hK _ _ _ ?_; clear hK K))); all_goals (repeat (clear hK K)))
        all_goals exact fin_r (fin_b rfl rfl)
      | false =>
        ((repeat' (first
    | (show SQ _ _ _ _ _ _ _ _; first | apply sq_nil | (apply q_move; exact rfl; exact rfl) | (apply q_assign; exact rfl; exact rfl) | (apply q_pick_t; exact rfl; exact rfl; exact rfl; exact (by first | assumption | exact rfl)) | (apply q_pick_f; exact rfl; exact rfl; exact rfl; exact (by first | assumption | exact rfl)) | (apply q_not; exact rfl; exact rfl) | (apply q_lend; exact rfl; exact rfl; exact (ty rfl); exact rfl) | (apply q_lenn; exact rfl; exact rfl; exact (ty rfl); exact rfl) | (apply q_eql; exact rfl; exact rfl; exact rfl) | (apply q_lss; exact rfl; exact rfl; exact rfl) | (apply q_s; exact rfl; exact rfl; exact rfl; exact (by assumption); exact rfl) | (apply q_g; exact rfl; exact rfl; exact rfl; exact rfl))
    | (show AW _ _ _ _ _ _ _ _; first | refine aw_region ?_ | (refine aw_seqk ?_; intro K hK) | (apply aw_cond_t; exact rfl; exact rfl) | (apply aw_cond_f; exact rfl; exact rfl) | refine aw_ret ?_ | refine aw_exit ?_)
    | refine thn_n ?_
    | (refine hK _ _ _ ?_; clear hK K)
    | refine thn_e ?_
    | refine thn_r ?_
    | refine inb_same ?_
    | (clear hK K; refine hK _ _ _ ?_; clear hK K))); all_goals (repeat (clear hK K)))
        all_goals exact fin_r (fin_b rfl rfl)
theorem repair_ok_no (cs : List Int) (hc : cs.length ≤ 1048576) {ds ap : List (List Int)} {list frz : List Int} {bu : Int} (hS : NbS ds) (hA : NbS ap) (hP : prB ds ap = true) (hst : stB ds list = true) (hfr : ∀ x ∈ frz, 0 ≤ x ∧ x < list.length) (hfl : frz.length ≤ 1048576)
    (hD : ∀ k, RC Try.prog 33 [.dsl 1 (byL cs)] [] k (.tup [.agg [.dsl 1 (nbL ds), .dsl 1 (nbL ap)], .dsl 1 (list.map inL), .sl k 0 frz.length, .v (.int .i64 bu)]) [(k, some ⟨2, 1, true, frz.map inL⟩)] (k + 1))
     {out : List Int} (ol : out.length = list.length) (oa : Asg ds ap out) (ok : Kp list frz out) (omin : ∀ O, Asg ds ap O → O.length = list.length → Kp list frz O → chgN out list list.length ≤ chgN O list list.length) (hR : ∀ k, RO Try.prog 30 [.agg [.dsl 1 (nbL ds), .dsl 1 (nbL ap)], .dsl 1 (list.map inL), .dsl 1 (frz.map inL), .v (.int .i64 bu)] k (.tup [.sl k 0 out.length, .v (.int .i64 (chgN out list list.length)), .v (.int .i64 0)]) [(k, ⟨2, 1, true, out.map inL⟩)] (k + 1)) {e2 : Int} (he2 : e2 ≠ 0) (hF : ∀ k, RO Try.prog 34 [.agg [.dsl 1 (nbL ds), .dsl 1 (nbL ap)], .v (.int .i64 20000)] k (.tup [.v (.slice none 0 0), .v (.int .i64 e2)]) [] k)
    (k : Nat) : RO Try.prog 7 [.dsl 1 (byL cs)] k (.v (.bool true)) [] k := by
  have hLong := b10Long_ro cs
  rw [decide_eq_false (show ¬ (1048576 < (cs.length : Int)) by omega)] at hLong
  obtain ⟨hl, hv⟩ := stB_in hst
  have hPr := PrF.of hP
  have hn24 := hPr.n
  have hlm : (list.map inL).length = list.length := List.length_map _
  have hfm : (frz.map inL).length = frz.length := List.length_map _
  have hfg : ∀ i, i < frz.length → (frz.map inL)[((i : Nat) : Int).toNat]? = some [.v (.int .i64 (frz.getD i 0))] ∧ 0 ≤ frz.getD i 0 ∧ frz.getD i 0 < list.length ∧ frz.getD i 0 ∈ frz := fun i hi => by
    have e : frz.getD i 0 = frz[i] := by simp [List.getD, hi]
    rw [e]
    have hm := List.getElem_mem hi
    obtain ⟨h1, h2⟩ := hfr _ hm
    exact ⟨by simp [hi, inL], h1, h2, hm⟩
  have hlg : ∀ x : Int, 0 ≤ x → x < list.length → (list.map inL)[x.toNat]? = some [.v (.int .i64 (list.getD x.toNat 0))] := fun x h0 h1 => by simp [show x.toNat < list.length by omega, List.getD, inL]
  have hom : (out.map inL).length = out.length := List.length_map _
  have hog : ∀ x : Int, 0 ≤ x → x < list.length → (out.map inL)[x.toNat]? = some [.v (.int .i64 (out.getD x.toNat 0))] := fun x h0 h1 => by simp [show x.toNat < out.length by omega, List.getD, inL]
  have hVA := ValidAssignment_ok ds ap out hS hA hP oa (by omega)
  have hCB := ChangesBetween_ro out list ol (by omega)
  rw [ol] at hCB
  have hVi := Violating_ro ds ap list hS hA hP hst
  have g1 : (e2 == 0) = false := by simpa using he2
  refine RO.ofv' Try.func7 Try.ntmps7 rfl (goFn_of Try.func7 rfl (by kernel_rfl)) rfl rfl ?_
  ((repeat' (first
    | (show SQ _ _ _ _ _ _ _ _; apply sq_frz (t := 5); exact rfl; exact rfl; exact (by first | rfl | exact all_noOwn_map (fun _ => rfl) | assumption | exact hclo); exact (by first | omega | (simp; done) | (simp; omega)); exact (by first | exact dt_full (by first | omega | (simp; done) | (simp; omega)) | assumption | rfl); (try simp only [put, rowsOf, plR, List.all_cons, selE, ovr, setH, del, cellsA, splice, isV, List.nil_append, List.cons_append, List.map_cons, List.map_nil, List.length_cons, List.length_nil, List.set_cons_zero, List.set_cons_succ, List.take_succ_cons, List.take_zero, List.take_nil, List.drop_succ_cons, List.drop_zero, List.drop_nil, List.append_nil, List.all_cons, List.all_nil, Bool.and_true, Bool.true_and, Bool.and_false, Bool.false_and, Nat.reduceAdd, Nat.zero_add, Nat.add_zero, Nat.reduceEqDiff, if_true, if_false, reduceIte]))
    | (show SQ _ _ _ _ _ _ _ _; apply sq_frz (t := 7); exact rfl; exact rfl; exact (by first | rfl | exact all_noOwn_map (fun _ => rfl) | assumption | exact hclo); exact (by first | omega | (simp; done) | (simp; omega)); exact (by first | exact dt_full (by first | omega | (simp; done) | (simp; omega)) | assumption | rfl); (try simp only [put, rowsOf, plR, List.all_cons, selE, ovr, setH, del, cellsA, splice, isV, List.nil_append, List.cons_append, List.map_cons, List.map_nil, List.length_cons, List.length_nil, List.set_cons_zero, List.set_cons_succ, List.take_succ_cons, List.take_zero, List.take_nil, List.drop_succ_cons, List.drop_zero, List.drop_nil, List.append_nil, List.all_cons, List.all_nil, Bool.and_true, Bool.true_and, Bool.and_false, Bool.false_and, Nat.reduceAdd, Nat.zero_add, Nat.add_zero, Nat.reduceEqDiff, if_true, if_false, reduceIte]))
    | (show SQ _ _ _ _ _ _ _ _; first | apply sq_nil | (apply q_move; exact rfl; exact rfl) | (apply q_assign; exact rfl; exact rfl) | (apply q_pick_f; exact rfl; exact rfl; exact rfl; exact (by first | assumption | exact rfl)) | (apply q_ext; exact rfl; exact rfl; exact rfl) | (apply q_neq; exact rfl; exact rfl; exact rfl) | (apply q_s; exact rfl; exact rfl; exact rfl; exact rfl; exact rfl))
    | (show SQ _ _ _ _ _ _ _ _; (first | (apply q_ldap; exact rfl; exact rfl; exact (ty rfl); exact rfl; exact rfl; exact (by first | rfl | assumption | ((try simp only [Nat.zero_add]); refine List.getElem?_set_self ?_; (try simp only [List.length_set]); assumption)); exact rfl) | (apply q_alloc; exact rfl; exact (ty rfl); exact rfl; exact rfl) | (apply q_store; exact rfl; exact rfl; exact (ty rfl); exact rfl; exact (by first | rfl | assumption | ((try simp only [Nat.zero_add]); refine List.getElem?_set_self ?_; (try simp only [List.length_set]); assumption)); exact rfl; exact rfl; exact rfl) | (apply q_callU; exact rfl; exact rfl; exact rfl; exact FzL.of rfl; exact hLong _) | (apply q_callU; exact rfl; exact rfl; exact rfl; exact FzL.of rfl; exact hR _) | (apply q_callC; exact rfl; exact rfl; exact rfl; exact hD _; (focus ((repeat (first | exact trivial | refine ⟨by first | exact rfl | assumption, ?_⟩)); done)); skip)); (try simp only [put, rowsOf, plR, List.all_cons, selE, ovr, setH, del, cellsA, splice, isV, List.nil_append, List.cons_append, List.map_cons, List.map_nil, List.length_cons, List.length_nil, List.set_cons_zero, List.set_cons_succ, List.take_succ_cons, List.take_zero, List.take_nil, List.drop_succ_cons, List.drop_zero, List.drop_nil, List.append_nil, List.all_cons, List.all_nil, Bool.and_true, Bool.true_and, Bool.and_false, Bool.false_and, Nat.reduceAdd, Nat.zero_add, Nat.add_zero, Nat.reduceEqDiff, if_true, if_false, reduceIte]))
    | (show AW _ _ _ _ _ _ _ _; first | refine aw_region ?_ | (refine aw_seqk ?_; intro K hK) | refine aw_block ?_ | (apply aw_cond_f; exact rfl; exact rfl) | refine aw_skip ?_)
    | refine thn_n ?_
    | (refine hK _ _ _ ?_; clear hK K))); all_goals (repeat (clear hK K)))
  refine aw_loop (ρ := mv 0 1) (ι := Nat) (fun i => ([(10, .v (.int .i64 i)), (9, .v (.int .i64 0)), (8, .v (.int .i64 (chgN out list list.length : Nat))), (7, .dsl 1 (out.map inL)), (5, .dsl 1 (frz.map inL)), (4, .dsl 1 (list.map inL)), (3, .ptr 0 0 0)], [(0, ⟨50, 2, false, [[.dsl 1 (nbL ds), .dsl 1 (nbL ap)]]⟩)], 1))
    (fun i => i ≤ frz.length) (fun i => frz.length - i) 0 (Nat.zero_le _) ⟨by (repeat (refine ⟨by first | exact lk_i rfl rfl | exact lk_d rfl rfl | exact lk_r rfl rfl rfl, ?_⟩)); exact trivial, by (repeat (refine ⟨by first | exact ⟨rfl, rfl, rfl⟩, ?_⟩)); exact trivial, by rfl, by exact pin_0⟩ ?_
  intro i hi
  by_cases c1 : i < frz.length
  · have b1 : decide ((i : Int) < ((frz.map inL).length : Int)) = true := by rw [hfm]; simpa using c1
    obtain ⟨hr1, hx0, hx1, _⟩ := hfg i c1
    have him : i < (frz.map inL).length := by omega
    generalize frz.getD i 0 = x at *
    have b2 : decide (x < 0) = false := by rw [decide_eq_false_iff_not]; omega
    have b3 : decide (x ≥ (((list.map inL).length : Nat) : Int)) = false := by rw [hlm, decide_eq_false_iff_not]; omega
    have hw : IntKind.i64.wrap ((i : Int) + 1) = ((i + 1 : Nat) : Int) := by rw [IntWalk.i64_in _ (by omega)]; omega
    ((repeat' (first
    | (show SQ _ _ _ _ _ _ _ _; first | apply sq_nil | (apply q_move; exact rfl; exact rfl) | (apply q_assign; exact rfl; exact rfl) | (apply q_pick_f; exact rfl; exact rfl; exact rfl; exact (by first | assumption | exact rfl)) | (apply q_lend; exact rfl; exact rfl; exact (ty rfl); exact rfl) | (apply q_add; exact rfl; exact rfl; exact rfl) | (apply q_lss; exact rfl; exact rfl; exact rfl) | (apply q_geq; exact rfl; exact rfl; exact rfl) | (apply q_ixd; exact rfl; exact rfl; exact rfl; exact (ty rfl); exact rfl; exact (by first | omega | (simp; done) | (simp; omega)); exact (by first | omega | (simp; done) | (simp; omega)); exact (by first | rfl | assumption)) | (apply q_ld1d; exact rfl; exact rfl; exact (ty rfl); exact rfl; exact rfl) | (apply q_g; exact rfl; exact rfl; exact rfl; exact (by assumption)))
    | (show AW _ _ _ _ _ _ _ _; first | refine aw_region ?_ | (refine aw_seqk ?_; intro K hK) | refine aw_block ?_ | (apply aw_cond_t; exact rfl; exact (by assumption)) | (apply aw_cond_f; exact rfl; exact (by assumption)) | refine aw_skip ?_)
    | refine thn_n ?_
    | (refine hK _ _ _ ?_; clear hK K)
    | refine inb_n ?_)); all_goals (repeat (clear hK K)))
    all_goals (refine ⟨i + 1, id, c1, by omega, ?_⟩; (try dsimp only); rw [← hw]; exact ⟨by (repeat (refine ⟨by first | exact lk_i rfl rfl | exact lk_d rfl rfl | exact lk_r rfl rfl rfl, ?_⟩)); exact trivial, by (repeat (refine ⟨by first | exact ⟨rfl, rfl, rfl⟩, ?_⟩)); exact trivial, by rfl, by exact pin_0⟩)
  have b1 : decide ((i : Int) < ((frz.map inL).length : Int)) = false := by rw [hfm]; simpa using c1
  clear c1 hi
  ((repeat' (first
    | (show SQ _ _ _ _ _ _ _ _; first | apply sq_nil | (apply q_move; exact rfl; exact rfl) | (apply q_assign; exact rfl; exact rfl) | (apply q_pick_f; exact rfl; exact rfl; exact rfl; exact (by first | assumption | exact rfl)) | (apply q_ext; exact rfl; exact rfl; exact rfl) | (apply q_lend; exact rfl; exact rfl; exact (ty rfl); exact rfl) | (apply q_eql; exact rfl; exact rfl; exact rfl) | (apply q_lss; exact rfl; exact rfl; exact rfl) | (apply q_s; exact rfl; exact rfl; exact rfl; exact (by assumption); exact rfl))
    | (show SQ _ _ _ _ _ _ _ _; (first | (apply q_ldap; exact rfl; exact rfl; exact (ty rfl); exact rfl; exact rfl; exact (by first | rfl | assumption | ((try simp only [Nat.zero_add]); refine List.getElem?_set_self ?_; (try simp only [List.length_set]); assumption)); exact rfl) | (apply q_callU; exact rfl; exact rfl; exact rfl; exact FzL.of rfl; exact hF _)); (try simp only [put, rowsOf, plR, List.all_cons, selE, ovr, setH, del, cellsA, splice, isV, List.nil_append, List.cons_append, List.map_cons, List.map_nil, List.length_cons, List.length_nil, List.set_cons_zero, List.set_cons_succ, List.take_succ_cons, List.take_zero, List.take_nil, List.drop_succ_cons, List.drop_zero, List.drop_nil, List.append_nil, List.all_cons, List.all_nil, Bool.and_true, Bool.true_and, Bool.and_false, Bool.false_and, Nat.reduceAdd, Nat.zero_add, Nat.add_zero, Nat.reduceEqDiff, if_true, if_false, reduceIte]))
    | (show AW _ _ _ _ _ _ _ _; first | refine aw_region ?_ | (refine aw_seqk ?_; intro K hK) | refine aw_block ?_ | (apply aw_cond_f; exact rfl; exact (by assumption)) | refine aw_exit ?_)
    | refine thn_n ?_
    | (refine hK _ _ _ ?_; clear hK K)
    | refine thn_e ?_
    | refine inb_same ?_
    | (clear hK K; refine hK _ _ _ ?_; clear hK K))); all_goals (repeat (clear hK K)))
  refine aw_loop (ρ := id) (ι := Nat × Bool) (fun s => ([(14, .v (.int .i64 (s.1 : Nat))), (13, .v (.bool s.2)), (11, .v (.slice none 0 0)), (9, .v (.int .i64 0)), (8, .v (.int .i64 (chgN out list list.length : Nat))), (7, .dsl 1 (out.map inL)), (5, .dsl 1 (frz.map inL)), (4, .dsl 1 (list.map inL)), (3, .ptr 0 0 0)], [(0, ⟨50, 2, false, [[.dsl 1 (nbL ds), .dsl 1 (nbL ap)]]⟩)], 1))
    (fun s => s = (0, false)) (fun s => 0) (0, false) rfl ⟨by (repeat (refine ⟨by first | exact lk_i rfl rfl | exact lk_d rfl rfl | exact lk_v rfl rfl | exact lk_r rfl rfl rfl, ?_⟩)); exact trivial, by (repeat (refine ⟨by first | exact ⟨rfl, rfl, rfl⟩, ?_⟩)); exact trivial, by rfl, by exact pin_0⟩ ?_
  rintro _ rfl
  dsimp only
  cases b4 : decide (((0 : Nat) : Int) < ((frz.map inL).length : Int)) with
  | true =>
    have d1 : (((chgN out list list.length : Nat) : Int) != ((chgN out list list.length : Nat) : Int)) = false := by simp
    have d2 : ((((out.map inL).length : Nat) : Int) != (((list.map inL).length : Nat) : Int)) = false := by rw [hom, hlm, ol]; simp
    ((repeat' (first
    | (show SQ _ _ _ _ _ _ _ _; first | apply sq_nil | (apply q_move; exact rfl; exact rfl) | (apply q_assign; exact rfl; exact rfl) | (apply q_pick_t; exact rfl; exact rfl; exact rfl; exact (by first | assumption | exact rfl)) | (apply q_pick_f; exact rfl; exact rfl; exact rfl; exact (by first | assumption | exact rfl)) | (apply q_not; exact rfl; exact rfl) | (apply q_lend; exact rfl; exact rfl; exact (ty rfl); exact rfl) | (apply q_eql; exact rfl; exact rfl; exact rfl) | (apply q_neq; exact rfl; exact rfl; exact rfl) | (apply q_lss; exact rfl; exact rfl; exact rfl) | (apply q_g; exact rfl; exact rfl; exact rfl; exact (by assumption)) | (apply q_g; exact rfl; exact rfl; exact rfl; exact rfl) | (apply q_s; exact rfl; exact rfl; exact rfl; exact rfl; exact rfl))
    | (show SQ _ _ _ _ _ _ _ _; (first | (apply q_ldap; exact rfl; exact rfl; exact (ty rfl); exact rfl; exact rfl; exact (by first | rfl | assumption | ((try simp only [Nat.zero_add]); refine List.getElem?_set_self ?_; (try simp only [List.length_set]); assumption)); exact rfl) | (apply q_callU; exact rfl; exact rfl; exact rfl; exact FzL.of rfl; exact hVA _) | (apply q_callU; exact rfl; exact rfl; exact rfl; exact FzL.of rfl; exact hCB _)); (try simp only [put, rowsOf, plR, List.all_cons, selE, ovr, setH, del, cellsA, splice, isV, List.nil_append, List.cons_append, List.map_cons, List.map_nil, List.length_cons, List.length_nil, List.set_cons_zero, List.set_cons_succ, List.take_succ_cons, List.take_zero, List.take_nil, List.drop_succ_cons, List.drop_zero, List.drop_nil, List.append_nil, List.all_cons, List.all_nil, Bool.and_true, Bool.true_and, Bool.and_false, Bool.false_and, Nat.reduceAdd, Nat.zero_add, Nat.add_zero, Nat.reduceEqDiff, if_true, if_false, reduceIte]))
    | (show AW _ _ _ _ _ _ _ _; first | refine aw_region ?_ | (refine aw_seqk ?_; intro K hK) | refine aw_block ?_ | (apply aw_cond_f; exact rfl; exact rfl) | (apply aw_cond_f; exact rfl; exact (by assumption)) | refine aw_exit ?_ | refine aw_skip ?_)
    | refine thn_n ?_
    | (refine hK _ _ _ ?_; clear hK K)
    | refine thn_e ?_
    | refine inb_same ?_
    | (clear hK K; refine hK _ _ _ ?_; clear hK K))); all_goals (repeat (clear hK K)))
    refine aw_loop (ρ := id) (ι := Nat) (fun i => ([(15, .v (.int .i64 i)), (8, .v (.int .i64 (chgN out list list.length : Nat))), (7, .dsl 1 (out.map inL)), (5, .dsl 1 (frz.map inL)), (4, .dsl 1 (list.map inL)), (3, .ptr 0 0 0)], [(0, ⟨50, 2, false, [[.dsl 1 (nbL ds), .dsl 1 (nbL ap)]]⟩)], 1))
      (fun i => i ≤ frz.length) (fun i => frz.length - i) 0 (Nat.zero_le _) ⟨by (repeat (refine ⟨by first | exact lk_i rfl rfl | exact lk_d rfl rfl | exact lk_r rfl rfl rfl, ?_⟩)); exact trivial, by (repeat (refine ⟨by first | exact ⟨rfl, rfl, rfl⟩, ?_⟩)); exact trivial, by rfl, by exact pin_0⟩ ?_
    intro i hi
    by_cases c1 : i < frz.length
    · have b1 : decide ((i : Int) < ((frz.map inL).length : Int)) = true := by rw [hfm]; simpa using c1
      obtain ⟨hr1, hx0, hx1, hxm⟩ := hfg i c1
      have him : i < (frz.map inL).length := by omega
      generalize frz.getD i 0 = x at *
      have e1 := hlg x hx0 hx1
      have e2 := hog x hx0 hx1
      have e3 := ok x hxm
      rw [e3] at e2
      have b3 : (list.getD x.toNat 0 != list.getD x.toNat 0) = false := by simp
      have hw : IntKind.i64.wrap ((i : Int) + 1) = ((i + 1 : Nat) : Int) := by rw [IntWalk.i64_in _ (by omega)]; omega
      ((repeat' (first
    | (show SQ _ _ _ _ _ _ _ _; first | apply sq_nil | (apply q_move; exact rfl; exact rfl) | (apply q_assign; exact rfl; exact rfl) | (apply q_lend; exact rfl; exact rfl; exact (ty rfl); exact rfl) | (apply q_add; exact rfl; exact rfl; exact rfl) | (apply q_lss; exact rfl; exact rfl; exact rfl))
    | (show DE _ _ _ _ _ _ _ _ _ _ _ _; first | (apply e_move; exact rfl; exact rfl; exact rfl) | (apply e_neq; exact rfl; exact rfl; exact rfl; exact rfl) | (apply e_ixd; exact rfl; exact rfl; exact rfl; exact (ty rfl); exact rfl; exact (by first | omega | (simp; done) | (simp; omega)); exact (by first | omega | (simp; done) | (simp; omega)); exact (by first | rfl | assumption); exact rfl) | (apply e_ld1d; exact rfl; exact rfl; exact (ty rfl); exact rfl; exact rfl; exact rfl))
    | (show DE _ _ _ _ _ _ _ _ _ _ _ _; (first | (apply dr_nil; exact trivial)); (try simp only [put, rowsOf, plR, List.all_cons, selE, ovr, setH, del, cellsA, splice, isV, List.nil_append, List.cons_append, List.map_cons, List.map_nil, List.length_cons, List.length_nil, List.set_cons_zero, List.set_cons_succ, List.take_succ_cons, List.take_zero, List.take_nil, List.drop_succ_cons, List.drop_zero, List.drop_nil, List.append_nil, List.all_cons, List.all_nil, Bool.and_true, Bool.true_and, Bool.and_false, Bool.false_and, Nat.reduceAdd, Nat.zero_add, Nat.add_zero, Nat.reduceEqDiff, if_true, if_false, reduceIte]))
    | (show AW _ _ _ _ _ _ _ _; first | refine aw_region ?_ | (refine aw_seqk ?_; intro K hK) | refine aw_block ?_ | (apply aw_cond_t; exact rfl; exact (by assumption)) | (apply aw_cond_f; exact rfl; exact (by assumption)) | refine aw_skip ?_ | refine aw_drawE (id := 25) [0, 0, 0, 6, 14, 31, 63, 0, 0, 0, 768, 1792, 3968, 8064, 16383] [0, 0, 0, 0, 1, 0, 1, 0, 0, 0, 0, 1, 0, 1, 0] mixed (by kernel_rfl) ?_)
    | refine thn_n ?_
    | (refine hK _ _ _ ?_; clear hK K)
    | refine inb_n ?_)); all_goals (repeat (clear hK K)))
      all_goals (refine ⟨i + 1, id, c1, by omega, ?_⟩; (try dsimp only); rw [← hw]; exact ⟨by (repeat (refine ⟨by first | exact lk_i rfl rfl | exact lk_d rfl rfl | exact lk_r rfl rfl rfl, ?_⟩)); exact trivial, by (repeat (refine ⟨by first | exact ⟨rfl, rfl, rfl⟩, ?_⟩)); exact trivial, by rfl, by exact pin_0⟩)
    have b1 : decide ((i : Int) < ((frz.map inL).length : Int)) = false := by rw [hfm]; simpa using c1
    have hfin : (((chgN out list list.length : Nat) : Int) == 0) = ((((vioL ds ap list).length : Nat) : Int) == 0) := by
      rw [Bool.eq_iff_iff, beq_iff_eq, beq_iff_eq]
      constructor
      · intro h
        have h1 := list_of ol ((chgN_zero list.length).1 (by omega))
        have := (vio_nil hPr hl).2 (h1 ▸ oa)
        omega
      · intro h
        have h1 := (vio_nil hPr hl).1 (by omega)
        have h2 := omin list h1 rfl (fun _ _ => rfl)
        have h3 : chgN list list list.length = 0 := (chgN_zero _).2 fun _ _ => rfl
        omega
    generalize vioL ds ap list = V at *
    ((repeat' (first
    | (show SQ _ _ _ _ _ _ _ _; first | apply sq_nil | (apply q_move; exact rfl; exact rfl) | (apply q_assign; exact rfl; exact rfl) | (apply q_pick_t; exact rfl; exact rfl; exact rfl; exact (by first | assumption | exact rfl)) | (apply q_ext; exact rfl; exact rfl; exact rfl) | (apply q_lend; exact rfl; exact rfl; exact (ty rfl); exact rfl) | (apply q_lenl; exact rfl; exact rfl; exact (ty rfl); exact rfl) | (apply q_eql; exact rfl; exact rfl; exact rfl) | (apply q_lss; exact rfl; exact rfl; exact rfl) | (apply q_beql; exact rfl; exact rfl; exact rfl; exact (ty rfl); exact rfl) | (apply q_g; exact rfl; exact rfl; exact rfl; exact rfl))
    | (show SQ _ _ _ _ _ _ _ _; (first | (apply q_ldap; exact rfl; exact rfl; exact (ty rfl); exact rfl; exact rfl; exact (by first | rfl | assumption | ((try simp only [Nat.zero_add]); refine List.getElem?_set_self ?_; (try simp only [List.length_set]); assumption)); exact rfl) | (apply q_callU; exact rfl; exact rfl; exact rfl; exact FzL.of rfl; exact hVi _)); (try simp only [put, rowsOf, plR, List.all_cons, selE, ovr, setH, del, cellsA, splice, isV, List.nil_append, List.cons_append, List.map_cons, List.map_nil, List.length_cons, List.length_nil, List.set_cons_zero, List.set_cons_succ, List.take_succ_cons, List.take_zero, List.take_nil, List.drop_succ_cons, List.drop_zero, List.drop_nil, List.append_nil, List.all_cons, List.all_nil, Bool.and_true, Bool.true_and, Bool.and_false, Bool.false_and, Nat.reduceAdd, Nat.zero_add, Nat.add_zero, Nat.reduceEqDiff, if_true, if_false, reduceIte]))
    | (show AW _ _ _ _ _ _ _ _; first | refine aw_region ?_ | (refine aw_seqk ?_; intro K hK) | (apply aw_cond_f; exact rfl; exact (by assumption)) | refine aw_ret ?_ | refine aw_exit ?_)
    | refine thn_n ?_
    | (refine hK _ _ _ ?_; clear hK K)
    | refine thn_e ?_
    | refine inb_same ?_
    | (clear hK K; refine hK _ _ _ ?_; clear hK K))); all_goals (repeat (clear hK K)))
    all_goals exact fin_r (fin_b rfl (by rw [hfin]; simp))
  | false =>
    have d1 : (((chgN out list list.length : Nat) : Int) != ((chgN out list list.length : Nat) : Int)) = false := by simp
    have d2 : ((((out.map inL).length : Nat) : Int) != (((list.map inL).length : Nat) : Int)) = false := by rw [hom, hlm, ol]; simp
    ((repeat' (first
    | (show SQ _ _ _ _ _ _ _ _; first | apply sq_nil | (apply q_move; exact rfl; exact rfl) | (apply q_assign; exact rfl; exact rfl) | (apply q_pick_f; exact rfl; exact rfl; exact rfl; exact (by first | assumption | exact rfl)) | (apply q_not; exact rfl; exact rfl) | (apply q_lend; exact rfl; exact rfl; exact (ty rfl); exact rfl) | (apply q_eql; exact rfl; exact rfl; exact rfl) | (apply q_neq; exact rfl; exact rfl; exact rfl) | (apply q_lss; exact rfl; exact rfl; exact rfl) | (apply q_g; exact rfl; exact rfl; exact rfl; exact (by assumption)) | (apply q_s; exact rfl; exact rfl; exact rfl; exact (by assumption); exact rfl) | (apply q_g; exact rfl; exact rfl; exact rfl; exact rfl) | (apply q_s; exact rfl; exact rfl; exact rfl; exact rfl; exact rfl))
    | (show SQ _ _ _ _ _ _ _ _; (first | (apply q_ldap; exact rfl; exact rfl; exact (ty rfl); exact rfl; exact rfl; exact (by first | rfl | assumption | ((try simp only [Nat.zero_add]); refine List.getElem?_set_self ?_; (try simp only [List.length_set]); assumption)); exact rfl) | (apply q_callU; exact rfl; exact rfl; exact rfl; exact FzL.of rfl; exact hVA _) | (apply q_callU; exact rfl; exact rfl; exact rfl; exact FzL.of rfl; exact hCB _)); (try simp only [put, rowsOf, plR, List.all_cons, selE, ovr, setH, del, cellsA, splice, isV, List.nil_append, List.cons_append, List.map_cons, List.map_nil, List.length_cons, List.length_nil, List.set_cons_zero, List.set_cons_succ, List.take_succ_cons, List.take_zero, List.take_nil, List.drop_succ_cons, List.drop_zero, List.drop_nil, List.append_nil, List.all_cons, List.all_nil, Bool.and_true, Bool.true_and, Bool.and_false, Bool.false_and, Nat.reduceAdd, Nat.zero_add, Nat.add_zero, Nat.reduceEqDiff, if_true, if_false, reduceIte]))
    | (show AW _ _ _ _ _ _ _ _; first | refine aw_region ?_ | (refine aw_seqk ?_; intro K hK) | refine aw_block ?_ | (apply aw_cond_f; exact rfl; exact rfl) | (apply aw_cond_f; exact rfl; exact (by assumption)) | refine aw_exit ?_ | refine aw_skip ?_)
    | refine thn_n ?_
    | (refine hK _ _ _ ?_; clear hK K)
    | refine thn_e ?_
    | refine inb_same ?_
    | (clear hK K; refine hK _ _ _ ?_; clear hK K))); all_goals (repeat (clear hK K)))
    refine aw_loop (ρ := id) (ι := Nat) (fun i => ([(15, .v (.int .i64 i)), (8, .v (.int .i64 (chgN out list list.length : Nat))), (7, .dsl 1 (out.map inL)), (5, .dsl 1 (frz.map inL)), (4, .dsl 1 (list.map inL)), (3, .ptr 0 0 0)], [(0, ⟨50, 2, false, [[.dsl 1 (nbL ds), .dsl 1 (nbL ap)]]⟩)], 1))
      (fun i => i ≤ frz.length) (fun i => frz.length - i) 0 (Nat.zero_le _) ⟨by (repeat (refine ⟨by first | exact lk_i rfl rfl | exact lk_d rfl rfl | exact lk_r rfl rfl rfl, ?_⟩)); exact trivial, by (repeat (refine ⟨by first | exact ⟨rfl, rfl, rfl⟩, ?_⟩)); exact trivial, by rfl, by exact pin_0⟩ ?_
    intro i hi
    by_cases c1 : i < frz.length
    · have b1 : decide ((i : Int) < ((frz.map inL).length : Int)) = true := by rw [hfm]; simpa using c1
      obtain ⟨hr1, hx0, hx1, hxm⟩ := hfg i c1
      have him : i < (frz.map inL).length := by omega
      generalize frz.getD i 0 = x at *
      have e1 := hlg x hx0 hx1
      have e2 := hog x hx0 hx1
      have e3 := ok x hxm
      rw [e3] at e2
      have b3 : (list.getD x.toNat 0 != list.getD x.toNat 0) = false := by simp
      have hw : IntKind.i64.wrap ((i : Int) + 1) = ((i + 1 : Nat) : Int) := by rw [IntWalk.i64_in _ (by omega)]; omega
      ((repeat' (first
    | (show SQ _ _ _ _ _ _ _ _; first | apply sq_nil | (apply q_move; exact rfl; exact rfl) | (apply q_assign; exact rfl; exact rfl) | (apply q_lend; exact rfl; exact rfl; exact (ty rfl); exact rfl) | (apply q_add; exact rfl; exact rfl; exact rfl) | (apply q_lss; exact rfl; exact rfl; exact rfl))
    | (show DE _ _ _ _ _ _ _ _ _ _ _ _; first | (apply e_move; exact rfl; exact rfl; exact rfl) | (apply e_neq; exact rfl; exact rfl; exact rfl; exact rfl) | (apply e_ixd; exact rfl; exact rfl; exact rfl; exact (ty rfl); exact rfl; exact (by first | omega | (simp; done) | (simp; omega)); exact (by first | omega | (simp; done) | (simp; omega)); exact (by first | rfl | assumption); exact rfl) | (apply e_ld1d; exact rfl; exact rfl; exact (ty rfl); exact rfl; exact rfl; exact rfl))
    | (show DE _ _ _ _ _ _ _ _ _ _ _ _; (first | (apply dr_nil; exact trivial)); (try simp only [put, rowsOf, plR, List.all_cons, selE, ovr, setH, del, cellsA, splice, isV, List.nil_append, List.cons_append, List.map_cons, List.map_nil, List.length_cons, List.length_nil, List.set_cons_zero, List.set_cons_succ, List.take_succ_cons, List.take_zero, List.take_nil, List.drop_succ_cons, List.drop_zero, List.drop_nil, List.append_nil, List.all_cons, List.all_nil, Bool.and_true, Bool.true_and, Bool.and_false, Bool.false_and, Nat.reduceAdd, Nat.zero_add, Nat.add_zero, Nat.reduceEqDiff, if_true, if_false, reduceIte]))
    | (show AW _ _ _ _ _ _ _ _; first | refine aw_region ?_ | (refine aw_seqk ?_; intro K hK) | refine aw_block ?_ | (apply aw_cond_t; exact rfl; exact (by assumption)) | (apply aw_cond_f; exact rfl; exact (by assumption)) | refine aw_skip ?_ | refine aw_drawE (id := 25) [0, 0, 0, 6, 14, 31, 63, 0, 0, 0, 768, 1792, 3968, 8064, 16383] [0, 0, 0, 0, 1, 0, 1, 0, 0, 0, 0, 1, 0, 1, 0] mixed (by kernel_rfl) ?_)
    | refine thn_n ?_
    | (refine hK _ _ _ ?_; clear hK K)
    | refine inb_n ?_)); all_goals (repeat (clear hK K)))
      all_goals (refine ⟨i + 1, id, c1, by omega, ?_⟩; (try dsimp only); rw [← hw]; exact ⟨by (repeat (refine ⟨by first | exact lk_i rfl rfl | exact lk_d rfl rfl | exact lk_r rfl rfl rfl, ?_⟩)); exact trivial, by (repeat (refine ⟨by first | exact ⟨rfl, rfl, rfl⟩, ?_⟩)); exact trivial, by rfl, by exact pin_0⟩)
    have b1 : decide ((i : Int) < ((frz.map inL).length : Int)) = false := by rw [hfm]; simpa using c1
    have hfin : (((chgN out list list.length : Nat) : Int) == 0) = ((((vioL ds ap list).length : Nat) : Int) == 0) := by
      rw [Bool.eq_iff_iff, beq_iff_eq, beq_iff_eq]
      constructor
      · intro h
        have h1 := list_of ol ((chgN_zero list.length).1 (by omega))
        have := (vio_nil hPr hl).2 (h1 ▸ oa)
        omega
      · intro h
        have h1 := (vio_nil hPr hl).1 (by omega)
        have h2 := omin list h1 rfl (fun _ _ => rfl)
        have h3 : chgN list list list.length = 0 := (chgN_zero _).2 fun _ _ => rfl
        omega
    generalize vioL ds ap list = V at *
    ((repeat' (first
    | (show SQ _ _ _ _ _ _ _ _; first | apply sq_nil | (apply q_move; exact rfl; exact rfl) | (apply q_assign; exact rfl; exact rfl) | (apply q_pick_t; exact rfl; exact rfl; exact rfl; exact (by first | assumption | exact rfl)) | (apply q_ext; exact rfl; exact rfl; exact rfl) | (apply q_lend; exact rfl; exact rfl; exact (ty rfl); exact rfl) | (apply q_lenl; exact rfl; exact rfl; exact (ty rfl); exact rfl) | (apply q_eql; exact rfl; exact rfl; exact rfl) | (apply q_lss; exact rfl; exact rfl; exact rfl) | (apply q_beql; exact rfl; exact rfl; exact rfl; exact (ty rfl); exact rfl) | (apply q_g; exact rfl; exact rfl; exact rfl; exact rfl))
    | (show SQ _ _ _ _ _ _ _ _; (first | (apply q_ldap; exact rfl; exact rfl; exact (ty rfl); exact rfl; exact rfl; exact (by first | rfl | assumption | ((try simp only [Nat.zero_add]); refine List.getElem?_set_self ?_; (try simp only [List.length_set]); assumption)); exact rfl) | (apply q_callU; exact rfl; exact rfl; exact rfl; exact FzL.of rfl; exact hVi _)); (try simp only [put, rowsOf, plR, List.all_cons, selE, ovr, setH, del, cellsA, splice, isV, List.nil_append, List.cons_append, List.map_cons, List.map_nil, List.length_cons, List.length_nil, List.set_cons_zero, List.set_cons_succ, List.take_succ_cons, List.take_zero, List.take_nil, List.drop_succ_cons, List.drop_zero, List.drop_nil, List.append_nil, List.all_cons, List.all_nil, Bool.and_true, Bool.true_and, Bool.and_false, Bool.false_and, Nat.reduceAdd, Nat.zero_add, Nat.add_zero, Nat.reduceEqDiff, if_true, if_false, reduceIte]))
    | (show AW _ _ _ _ _ _ _ _; first | refine aw_region ?_ | (refine aw_seqk ?_; intro K hK) | (apply aw_cond_f; exact rfl; exact (by assumption)) | refine aw_ret ?_ | refine aw_exit ?_)
    | refine thn_n ?_
    | (refine hK _ _ _ ?_; clear hK K)
    | refine thn_e ?_
    | refine inb_same ?_
    | (clear hK K; refine hK _ _ _ ?_; clear hK K))); all_goals (repeat (clear hK K)))
    all_goals exact fin_r (fin_b rfl (by rw [hfin]; simp))
theorem repair_ok_yes (cs : List Int) (hc : cs.length ≤ 1048576) {ds ap : List (List Int)} {list frz : List Int} {bu : Int} (hS : NbS ds) (hA : NbS ap) (hP : prB ds ap = true) (hst : stB ds list = true) (hfr : ∀ x ∈ frz, 0 ≤ x ∧ x < list.length) (hfl : frz.length ≤ 1048576)
    (hD : ∀ k, RC Try.prog 33 [.dsl 1 (byL cs)] [] k (.tup [.agg [.dsl 1 (nbL ds), .dsl 1 (nbL ap)], .dsl 1 (list.map inL), .sl k 0 frz.length, .v (.int .i64 bu)]) [(k, some ⟨2, 1, true, frz.map inL⟩)] (k + 1))
     {out : List Int} (ol : out.length = list.length) (oa : Asg ds ap out) (ok : Kp list frz out) (omin : ∀ O, Asg ds ap O → O.length = list.length → Kp list frz O → chgN out list list.length ≤ chgN O list list.length) (hR : ∀ k, RO Try.prog 30 [.agg [.dsl 1 (nbL ds), .dsl 1 (nbL ap)], .dsl 1 (list.map inL), .dsl 1 (frz.map inL), .v (.int .i64 bu)] k (.tup [.sl k 0 out.length, .v (.int .i64 (chgN out list list.length)), .v (.int .i64 0)]) [(k, ⟨2, 1, true, out.map inL⟩)] (k + 1)) {O : List Int} (Ol : O.length = list.length) (Oa : Asg ds ap O) (hF : ∀ k, RO Try.prog 34 [.agg [.dsl 1 (nbL ds), .dsl 1 (nbL ap)], .v (.int .i64 20000)] k (.tup [.sl k 0 O.length, .v (.int .i64 0)]) [(k, ⟨2, 1, true, O.map inL⟩)] (k + 1))
    (k : Nat) : RO Try.prog 7 [.dsl 1 (byL cs)] k (.v (.bool true)) [] k := by
  have hLong := b10Long_ro cs
  rw [decide_eq_false (show ¬ (1048576 < (cs.length : Int)) by omega)] at hLong
  obtain ⟨hl, hv⟩ := stB_in hst
  have hPr := PrF.of hP
  have hn24 := hPr.n
  have hlm : (list.map inL).length = list.length := List.length_map _
  have hfm : (frz.map inL).length = frz.length := List.length_map _
  have hfg : ∀ i, i < frz.length → (frz.map inL)[((i : Nat) : Int).toNat]? = some [.v (.int .i64 (frz.getD i 0))] ∧ 0 ≤ frz.getD i 0 ∧ frz.getD i 0 < list.length ∧ frz.getD i 0 ∈ frz := fun i hi => by
    have e : frz.getD i 0 = frz[i] := by simp [List.getD, hi]
    rw [e]
    have hm := List.getElem_mem hi
    obtain ⟨h1, h2⟩ := hfr _ hm
    exact ⟨by simp [hi, inL], h1, h2, hm⟩
  have hlg : ∀ x : Int, 0 ≤ x → x < list.length → (list.map inL)[x.toNat]? = some [.v (.int .i64 (list.getD x.toNat 0))] := fun x h0 h1 => by simp [show x.toNat < list.length by omega, List.getD, inL]
  have hom : (out.map inL).length = out.length := List.length_map _
  have hog : ∀ x : Int, 0 ≤ x → x < list.length → (out.map inL)[x.toNat]? = some [.v (.int .i64 (out.getD x.toNat 0))] := fun x h0 h1 => by simp [show x.toNat < out.length by omega, List.getD, inL]
  have hVA := ValidAssignment_ok ds ap out hS hA hP oa (by omega)
  have hCB := ChangesBetween_ro out list ol (by omega)
  rw [ol] at hCB
  have hVi := Violating_ro ds ap list hS hA hP hst
  have hOm : (O.map inL).length = O.length := List.length_map _
  have hOg : ∀ x : Int, 0 ≤ x → x < list.length → (O.map inL)[x.toNat]? = some [.v (.int .i64 (O.getD x.toNat 0))] := fun x h0 h1 => by simp [show x.toNat < O.length by omega, List.getD, inL]
  have hCB2 := ChangesBetween_ro O list Ol (by omega)
  rw [Ol] at hCB2
  have g1 : ((O.length : Int) == (list.length : Int)) = true := by rw [Ol]; simp
  refine RO.ofv' Try.func7 Try.ntmps7 rfl (goFn_of Try.func7 rfl (by kernel_rfl)) rfl rfl ?_
  ((repeat' (first
    | (show SQ _ _ _ _ _ _ _ _; apply sq_frz (t := 5); exact rfl; exact rfl; exact (by first | rfl | exact all_noOwn_map (fun _ => rfl) | assumption | exact hclo); exact (by first | omega | (simp; done) | (simp; omega)); exact (by first | exact dt_full (by first | omega | (simp; done) | (simp; omega)) | assumption | rfl); (try simp only [put, rowsOf, plR, List.all_cons, selE, ovr, setH, del, cellsA, splice, isV, List.nil_append, List.cons_append, List.map_cons, List.map_nil, List.length_cons, List.length_nil, List.set_cons_zero, List.set_cons_succ, List.take_succ_cons, List.take_zero, List.take_nil, List.drop_succ_cons, List.drop_zero, List.drop_nil, List.append_nil, List.all_cons, List.all_nil, Bool.and_true, Bool.true_and, Bool.and_false, Bool.false_and, Nat.reduceAdd, Nat.zero_add, Nat.add_zero, Nat.reduceEqDiff, if_true, if_false, reduceIte]))
    | (show SQ _ _ _ _ _ _ _ _; apply sq_frz (t := 7); exact rfl; exact rfl; exact (by first | rfl | exact all_noOwn_map (fun _ => rfl) | assumption | exact hclo); exact (by first | omega | (simp; done) | (simp; omega)); exact (by first | exact dt_full (by first | omega | (simp; done) | (simp; omega)) | assumption | rfl); (try simp only [put, rowsOf, plR, List.all_cons, selE, ovr, setH, del, cellsA, splice, isV, List.nil_append, List.cons_append, List.map_cons, List.map_nil, List.length_cons, List.length_nil, List.set_cons_zero, List.set_cons_succ, List.take_succ_cons, List.take_zero, List.take_nil, List.drop_succ_cons, List.drop_zero, List.drop_nil, List.append_nil, List.all_cons, List.all_nil, Bool.and_true, Bool.true_and, Bool.and_false, Bool.false_and, Nat.reduceAdd, Nat.zero_add, Nat.add_zero, Nat.reduceEqDiff, if_true, if_false, reduceIte]))
    | (show SQ _ _ _ _ _ _ _ _; first | apply sq_nil | (apply q_move; exact rfl; exact rfl) | (apply q_assign; exact rfl; exact rfl) | (apply q_pick_f; exact rfl; exact rfl; exact rfl; exact (by first | assumption | exact rfl)) | (apply q_ext; exact rfl; exact rfl; exact rfl) | (apply q_neq; exact rfl; exact rfl; exact rfl) | (apply q_s; exact rfl; exact rfl; exact rfl; exact rfl; exact rfl))
    | (show SQ _ _ _ _ _ _ _ _; (first | (apply q_ldap; exact rfl; exact rfl; exact (ty rfl); exact rfl; exact rfl; exact (by first | rfl | assumption | ((try simp only [Nat.zero_add]); refine List.getElem?_set_self ?_; (try simp only [List.length_set]); assumption)); exact rfl) | (apply q_alloc; exact rfl; exact (ty rfl); exact rfl; exact rfl) | (apply q_store; exact rfl; exact rfl; exact (ty rfl); exact rfl; exact (by first | rfl | assumption | ((try simp only [Nat.zero_add]); refine List.getElem?_set_self ?_; (try simp only [List.length_set]); assumption)); exact rfl; exact rfl; exact rfl) | (apply q_callU; exact rfl; exact rfl; exact rfl; exact FzL.of rfl; exact hLong _) | (apply q_callU; exact rfl; exact rfl; exact rfl; exact FzL.of rfl; exact hR _) | (apply q_callC; exact rfl; exact rfl; exact rfl; exact hD _; (focus ((repeat (first | exact trivial | refine ⟨by first | exact rfl | assumption, ?_⟩)); done)); skip)); (try simp only [put, rowsOf, plR, List.all_cons, selE, ovr, setH, del, cellsA, splice, isV, List.nil_append, List.cons_append, List.map_cons, List.map_nil, List.length_cons, List.length_nil, List.set_cons_zero, List.set_cons_succ, List.take_succ_cons, List.take_zero, List.take_nil, List.drop_succ_cons, List.drop_zero, List.drop_nil, List.append_nil, List.all_cons, List.all_nil, Bool.and_true, Bool.true_and, Bool.and_false, Bool.false_and, Nat.reduceAdd, Nat.zero_add, Nat.add_zero, Nat.reduceEqDiff, if_true, if_false, reduceIte]))
    | (show AW _ _ _ _ _ _ _ _; first | refine aw_region ?_ | (refine aw_seqk ?_; intro K hK) | refine aw_block ?_ | (apply aw_cond_f; exact rfl; exact rfl) | refine aw_skip ?_)
    | refine thn_n ?_
    | (refine hK _ _ _ ?_; clear hK K))); all_goals (repeat (clear hK K)))
  refine aw_loop (ρ := mv 0 1) (ι := Nat) (fun i => ([(10, .v (.int .i64 i)), (9, .v (.int .i64 0)), (8, .v (.int .i64 (chgN out list list.length : Nat))), (7, .dsl 1 (out.map inL)), (5, .dsl 1 (frz.map inL)), (4, .dsl 1 (list.map inL)), (3, .ptr 0 0 0)], [(0, ⟨50, 2, false, [[.dsl 1 (nbL ds), .dsl 1 (nbL ap)]]⟩)], 1))
    (fun i => i ≤ frz.length) (fun i => frz.length - i) 0 (Nat.zero_le _) ⟨by (repeat (refine ⟨by first | exact lk_i rfl rfl | exact lk_d rfl rfl | exact lk_r rfl rfl rfl, ?_⟩)); exact trivial, by (repeat (refine ⟨by first | exact ⟨rfl, rfl, rfl⟩, ?_⟩)); exact trivial, by rfl, by exact pin_0⟩ ?_
  intro i hi
  by_cases c1 : i < frz.length
  · have b1 : decide ((i : Int) < ((frz.map inL).length : Int)) = true := by rw [hfm]; simpa using c1
    obtain ⟨hr1, hx0, hx1, _⟩ := hfg i c1
    have him : i < (frz.map inL).length := by omega
    generalize frz.getD i 0 = x at *
    have b2 : decide (x < 0) = false := by rw [decide_eq_false_iff_not]; omega
    have b3 : decide (x ≥ (((list.map inL).length : Nat) : Int)) = false := by rw [hlm, decide_eq_false_iff_not]; omega
    have hw : IntKind.i64.wrap ((i : Int) + 1) = ((i + 1 : Nat) : Int) := by rw [IntWalk.i64_in _ (by omega)]; omega
    ((repeat' (first
    | (show SQ _ _ _ _ _ _ _ _; first | apply sq_nil | (apply q_move; exact rfl; exact rfl) | (apply q_assign; exact rfl; exact rfl) | (apply q_pick_f; exact rfl; exact rfl; exact rfl; exact (by first | assumption | exact rfl)) | (apply q_lend; exact rfl; exact rfl; exact (ty rfl); exact rfl) | (apply q_add; exact rfl; exact rfl; exact rfl) | (apply q_lss; exact rfl; exact rfl; exact rfl) | (apply q_geq; exact rfl; exact rfl; exact rfl) | (apply q_ixd; exact rfl; exact rfl; exact rfl; exact (ty rfl); exact rfl; exact (by first | omega | (simp; done) | (simp; omega)); exact (by first | omega | (simp; done) | (simp; omega)); exact (by first | rfl | assumption)) | (apply q_ld1d; exact rfl; exact rfl; exact (ty rfl); exact rfl; exact rfl) | (apply q_g; exact rfl; exact rfl; exact rfl; exact (by assumption)))
    | (show AW _ _ _ _ _ _ _ _; first | refine aw_region ?_ | (refine aw_seqk ?_; intro K hK) | refine aw_block ?_ | (apply aw_cond_t; exact rfl; exact (by assumption)) | (apply aw_cond_f; exact rfl; exact (by assumption)) | refine aw_skip ?_)
    | refine thn_n ?_
    | (refine hK _ _ _ ?_; clear hK K)
    | refine inb_n ?_)); all_goals (repeat (clear hK K)))
    all_goals (refine ⟨i + 1, id, c1, by omega, ?_⟩; (try dsimp only); rw [← hw]; exact ⟨by (repeat (refine ⟨by first | exact lk_i rfl rfl | exact lk_d rfl rfl | exact lk_r rfl rfl rfl, ?_⟩)); exact trivial, by (repeat (refine ⟨by first | exact ⟨rfl, rfl, rfl⟩, ?_⟩)); exact trivial, by rfl, by exact pin_0⟩)
  have b1 : decide ((i : Int) < ((frz.map inL).length : Int)) = false := by rw [hfm]; simpa using c1
  clear c1 hi
  ((repeat' (first
    | (show SQ _ _ _ _ _ _ _ _; apply sq_frz (t := 11); exact rfl; exact rfl; exact (by first | rfl | exact all_noOwn_map (fun _ => rfl) | assumption | exact hclo); exact (by first | omega | (simp; done) | (simp; omega)); exact (by first | exact dt_full (by first | omega | (simp; done) | (simp; omega)) | assumption | rfl); (try simp only [put, rowsOf, plR, List.all_cons, selE, ovr, setH, del, cellsA, splice, isV, List.nil_append, List.cons_append, List.map_cons, List.map_nil, List.length_cons, List.length_nil, List.set_cons_zero, List.set_cons_succ, List.take_succ_cons, List.take_zero, List.take_nil, List.drop_succ_cons, List.drop_zero, List.drop_nil, List.append_nil, List.all_cons, List.all_nil, Bool.and_true, Bool.true_and, Bool.and_false, Bool.false_and, Nat.reduceAdd, Nat.zero_add, Nat.add_zero, Nat.reduceEqDiff, if_true, if_false, reduceIte]))
    | (show SQ _ _ _ _ _ _ _ _; first | apply sq_nil | (apply q_move; exact rfl; exact rfl) | (apply q_assign; exact rfl; exact rfl) | (apply q_pick_t; exact rfl; exact rfl; exact rfl; exact (by first | assumption | exact rfl)) | (apply q_ext; exact rfl; exact rfl; exact rfl) | (apply q_lend; exact rfl; exact rfl; exact (ty rfl); exact rfl) | (apply q_eql; exact rfl; exact rfl; exact rfl) | (apply q_lss; exact rfl; exact rfl; exact rfl) | (apply q_g; exact rfl; exact rfl; exact rfl; exact rfl))
    | (show SQ _ _ _ _ _ _ _ _; (first | (apply q_ldap; exact rfl; exact rfl; exact (ty rfl); exact rfl; exact rfl; exact (by first | rfl | assumption | ((try simp only [Nat.zero_add]); refine List.getElem?_set_self ?_; (try simp only [List.length_set]); assumption)); exact rfl) | (apply q_callU; exact rfl; exact rfl; exact rfl; exact FzL.of rfl; exact hF _)); (try simp only [put, rowsOf, plR, List.all_cons, selE, ovr, setH, del, cellsA, splice, isV, List.nil_append, List.cons_append, List.map_cons, List.map_nil, List.length_cons, List.length_nil, List.set_cons_zero, List.set_cons_succ, List.take_succ_cons, List.take_zero, List.take_nil, List.drop_succ_cons, List.drop_zero, List.drop_nil, List.append_nil, List.all_cons, List.all_nil, Bool.and_true, Bool.true_and, Bool.and_false, Bool.false_and, Nat.reduceAdd, Nat.zero_add, Nat.add_zero, Nat.reduceEqDiff, if_true, if_false, reduceIte]))
    | (show AW _ _ _ _ _ _ _ _; first | refine aw_region ?_ | (refine aw_seqk ?_; intro K hK) | refine aw_block ?_ | (apply aw_cond_f; exact rfl; exact (by assumption)) | refine aw_exit ?_)
    | refine thn_n ?_
    | (refine hK _ _ _ ?_; clear hK K)
    | refine thn_e ?_
    | refine inb_same ?_
    | (clear hK K; refine hK _ _ _ ?_; clear hK K))); all_goals (repeat (clear hK K)))
  refine aw_loop (ρ := id) (ι := Nat × Bool) (fun s => ([(14, .v (.int .i64 (s.1 : Nat))), (13, .v (.bool s.2)), (11, .dsl 1 (O.map inL)), (9, .v (.int .i64 0)), (8, .v (.int .i64 (chgN out list list.length : Nat))), (7, .dsl 1 (out.map inL)), (5, .dsl 1 (frz.map inL)), (4, .dsl 1 (list.map inL)), (3, .ptr 0 0 0)], [(0, ⟨50, 2, false, [[.dsl 1 (nbL ds), .dsl 1 (nbL ap)]]⟩)], 1))
    (fun s => s.1 ≤ frz.length ∧ (s.2 = true → ∀ j, j < s.1 → O.getD (frz.getD j 0).toNat 0 = list.getD (frz.getD j 0).toNat 0)) (fun s => frz.length - s.1) (0, ((((O.map inL).length : Nat) : Int) == (((list.map inL).length : Nat) : Int))) ⟨Nat.zero_le _, fun _ j hj => by dsimp only at hj; omega⟩ ⟨by (repeat (refine ⟨by first | exact lk_i rfl rfl | exact lk_d rfl rfl | exact lk_v rfl rfl | exact lk_r rfl rfl rfl, ?_⟩)); exact trivial, by (repeat (refine ⟨by first | exact ⟨rfl, rfl, rfl⟩, ?_⟩)); exact trivial, by rfl, by exact pin_0⟩ ?_
  rintro ⟨j, v⟩ ⟨hj, hk⟩
  dsimp only at hj hk ⊢
  by_cases c1 : j < frz.length ∧ v = true
  · obtain ⟨c1, rfl⟩ := c1
    have b4 : decide ((j : Int) < ((frz.map inL).length : Int)) = true := by rw [hfm]; simpa using c1
    obtain ⟨hr1, hx0, hx1, hxm⟩ := hfg j c1
    have him : j < (frz.map inL).length := by omega
    have hk := hk rfl
    have hk2 : (O.getD (frz.getD j 0).toNat 0 == list.getD (frz.getD j 0).toNat 0) = true → ∀ i, i < j + 1 → O.getD (frz.getD i 0).toNat 0 = list.getD (frz.getD i 0).toNat 0 := fun e i hi => by
      by_cases e2 : i = j
      · subst e2; exact beq_iff_eq.1 e
      · exact hk i (by omega)
    generalize frz.getD j 0 = x at *
    have e1 := hlg x hx0 hx1
    have e2 := hOg x hx0 hx1
    have hw : IntKind.i64.wrap ((j : Int) + 1) = ((j + 1 : Nat) : Int) := by rw [IntWalk.i64_in _ (by omega)]; omega
    ((repeat' (first
    | (show SQ _ _ _ _ _ _ _ _; first | apply sq_nil | (apply q_move; exact rfl; exact rfl) | (apply q_assign; exact rfl; exact rfl) | (apply q_pick_t; exact rfl; exact rfl; exact rfl; exact (by first | assumption | exact rfl)) | (apply q_lend; exact rfl; exact rfl; exact (ty rfl); exact rfl) | (apply q_add; exact rfl; exact rfl; exact rfl) | (apply q_lss; exact rfl; exact rfl; exact rfl) | (apply q_g; exact rfl; exact rfl; exact rfl; exact (by assumption)))
    | (show DE _ _ _ _ _ _ _ _ _ _ _ _; first | (apply e_move; exact rfl; exact rfl; exact rfl) | (apply e_assign; exact rfl; exact rfl; exact rfl) | (apply e_eql; exact rfl; exact rfl; exact rfl; exact rfl) | (apply e_ixd; exact rfl; exact rfl; exact rfl; exact (ty rfl); exact rfl; exact (by first | omega | (simp; done) | (simp; omega)); exact (by first | omega | (simp; done) | (simp; omega)); exact (by first | rfl | assumption); exact rfl) | (apply e_ld1d; exact rfl; exact rfl; exact (ty rfl); exact rfl; exact rfl; exact rfl))
    | (show DE _ _ _ _ _ _ _ _ _ _ _ _; (first | (apply dr_nil; exact trivial)); (try simp only [put, rowsOf, plR, List.all_cons, selE, ovr, setH, del, cellsA, splice, isV, List.nil_append, List.cons_append, List.map_cons, List.map_nil, List.length_cons, List.length_nil, List.set_cons_zero, List.set_cons_succ, List.take_succ_cons, List.take_zero, List.take_nil, List.drop_succ_cons, List.drop_zero, List.drop_nil, List.append_nil, List.all_cons, List.all_nil, Bool.and_true, Bool.true_and, Bool.and_false, Bool.false_and, Nat.reduceAdd, Nat.zero_add, Nat.add_zero, Nat.reduceEqDiff, if_true, if_false, reduceIte]))
    | (show AW _ _ _ _ _ _ _ _; first | refine aw_region ?_ | (refine aw_seqk ?_; intro K hK) | refine aw_block ?_ | (apply aw_cond_t; exact rfl; exact rfl) | refine aw_skip ?_ | refine aw_drawE (id := 17) [0, 0, 0, 6, 14, 31, 63, 0, 0, 0, 768, 1792, 3968, 8064, 16383, 32767] [0, 0, 0, 0, 1, 0, 1, 0, 0, 0, 0, 1, 0, 1, 0, 0] mixed (by kernel_rfl) ?_)
    | refine thn_n ?_
    | (refine hK _ _ _ ?_; clear hK K)
    | refine inb_n ?_)); all_goals (repeat (clear hK K)))
    all_goals (refine ⟨(j + 1, _), id, ⟨c1, hk2⟩, by dsimp only; omega, ?_⟩; (try dsimp only); rw [← hw]; exact ⟨by (repeat (refine ⟨by first | exact lk_i rfl rfl | exact lk_d rfl rfl | exact lk_v rfl rfl | exact lk_r rfl rfl rfl, ?_⟩)); exact trivial, by (repeat (refine ⟨by first | exact ⟨rfl, rfl, rfl⟩, ?_⟩)); exact trivial, by rfl, by exact pin_0⟩)
  · cases v with
    | true =>
      have hjf : ¬ j < frz.length := fun h => c1 ⟨h, rfl⟩
      have b4 : decide ((j : Int) < ((frz.map inL).length : Int)) = false := by rw [hfm]; simpa using hjf
      have hvK : Kp list frz O := fun x hx => by
        obtain ⟨i, hi, rfl⟩ := List.getElem_of_mem hx
        have := hk rfl i (by omega)
        simpa [List.getD, hi] using this
      have d1 : (((chgN out list list.length : Nat) : Int) != ((chgN out list list.length : Nat) : Int)) = false := by simp
      have d2 : ((((out.map inL).length : Nat) : Int) != (((list.map inL).length : Nat) : Int)) = false := by rw [hom, hlm, ol]; simp
      have d3 : decide (((chgN O list list.length : Nat) : Int) < ((chgN out list list.length : Nat) : Int)) = false := by
        have := omin O Oa Ol hvK
        rw [decide_eq_false_iff_not]; omega
      ((repeat' (first
    | (show SQ _ _ _ _ _ _ _ _; first | apply sq_nil | (apply q_move; exact rfl; exact rfl) | (apply q_assign; exact rfl; exact rfl) | (apply q_pick_t; exact rfl; exact rfl; exact rfl; exact (by first | assumption | exact rfl)) | (apply q_pick_f; exact rfl; exact rfl; exact rfl; exact (by first | assumption | exact rfl)) | (apply q_not; exact rfl; exact rfl) | (apply q_lend; exact rfl; exact rfl; exact (ty rfl); exact rfl) | (apply q_eql; exact rfl; exact rfl; exact rfl) | (apply q_neq; exact rfl; exact rfl; exact rfl) | (apply q_lss; exact rfl; exact rfl; exact rfl) | (apply q_g; exact rfl; exact rfl; exact rfl; exact (by assumption)) | (apply q_s; exact rfl; exact rfl; exact rfl; exact (by assumption); exact rfl) | (apply q_g; exact rfl; exact rfl; exact rfl; exact rfl))
    | (show SQ _ _ _ _ _ _ _ _; (first | (apply q_ldap; exact rfl; exact rfl; exact (ty rfl); exact rfl; exact rfl; exact (by first | rfl | assumption | ((try simp only [Nat.zero_add]); refine List.getElem?_set_self ?_; (try simp only [List.length_set]); assumption)); exact rfl) | (apply q_callU; exact rfl; exact rfl; exact rfl; exact FzL.of rfl; exact hVA _) | (apply q_callU; exact rfl; exact rfl; exact rfl; exact FzL.of rfl; exact hCB _) | (apply q_callU; exact rfl; exact rfl; exact rfl; exact FzL.of rfl; exact hCB2 _)); (try simp only [put, rowsOf, plR, List.all_cons, selE, ovr, setH, del, cellsA, splice, isV, List.nil_append, List.cons_append, List.map_cons, List.map_nil, List.length_cons, List.length_nil, List.set_cons_zero, List.set_cons_succ, List.take_succ_cons, List.take_zero, List.take_nil, List.drop_succ_cons, List.drop_zero, List.drop_nil, List.append_nil, List.all_cons, List.all_nil, Bool.and_true, Bool.true_and, Bool.and_false, Bool.false_and, Nat.reduceAdd, Nat.zero_add, Nat.add_zero, Nat.reduceEqDiff, if_true, if_false, reduceIte]))
    | (show AW _ _ _ _ _ _ _ _; first | refine aw_region ?_ | (refine aw_seqk ?_; intro K hK) | refine aw_block ?_ | (apply aw_cond_f; exact rfl; exact rfl) | (apply aw_cond_f; exact rfl; exact (by assumption)) | refine aw_exit ?_ | refine aw_skip ?_)
    | refine thn_n ?_
    | (refine hK _ _ _ ?_; clear hK K)
    | refine thn_e ?_
    | refine inb_same ?_
    | (clear hK K; refine hK _ _ _ ?_; clear hK K))); all_goals (repeat (clear hK K)))
      refine aw_loop (ρ := id) (ι := Nat) (fun i => ([(15, .v (.int .i64 i)), (8, .v (.int .i64 (chgN out list list.length : Nat))), (7, .dsl 1 (out.map inL)), (5, .dsl 1 (frz.map inL)), (4, .dsl 1 (list.map inL)), (3, .ptr 0 0 0)], [(0, ⟨50, 2, false, [[.dsl 1 (nbL ds), .dsl 1 (nbL ap)]]⟩)], 1))
        (fun i => i ≤ frz.length) (fun i => frz.length - i) 0 (Nat.zero_le _) ⟨by (repeat (refine ⟨by first | exact lk_i rfl rfl | exact lk_d rfl rfl | exact lk_r rfl rfl rfl, ?_⟩)); exact trivial, by (repeat (refine ⟨by first | exact ⟨rfl, rfl, rfl⟩, ?_⟩)); exact trivial, by rfl, by exact pin_0⟩ ?_
      intro i hi
      by_cases c1 : i < frz.length
      · have b1 : decide ((i : Int) < ((frz.map inL).length : Int)) = true := by rw [hfm]; simpa using c1
        obtain ⟨hr1, hx0, hx1, hxm⟩ := hfg i c1
        have him : i < (frz.map inL).length := by omega
        generalize frz.getD i 0 = x at *
        have e1 := hlg x hx0 hx1
        have e2 := hog x hx0 hx1
        have e3 := ok x hxm
        rw [e3] at e2
        have b3 : (list.getD x.toNat 0 != list.getD x.toNat 0) = false := by simp
        have hw : IntKind.i64.wrap ((i : Int) + 1) = ((i + 1 : Nat) : Int) := by rw [IntWalk.i64_in _ (by omega)]; omega
        ((repeat' (first
    | (show SQ _ _ _ _ _ _ _ _; first | apply sq_nil | (apply q_move; exact rfl; exact rfl) | (apply q_assign; exact rfl; exact rfl) | (apply q_lend; exact rfl; exact rfl; exact (ty rfl); exact rfl) | (apply q_add; exact rfl; exact rfl; exact rfl) | (apply q_lss; exact rfl; exact rfl; exact rfl))
    | (show DE _ _ _ _ _ _ _ _ _ _ _ _; first | (apply e_move; exact rfl; exact rfl; exact rfl) | (apply e_neq; exact rfl; exact rfl; exact rfl; exact rfl) | (apply e_ixd; exact rfl; exact rfl; exact rfl; exact (ty rfl); exact rfl; exact (by first | omega | (simp; done) | (simp; omega)); exact (by first | omega | (simp; done) | (simp; omega)); exact (by first | rfl | assumption); exact rfl) | (apply e_ld1d; exact rfl; exact rfl; exact (ty rfl); exact rfl; exact rfl; exact rfl))
    | (show DE _ _ _ _ _ _ _ _ _ _ _ _; (first | (apply dr_nil; exact trivial)); (try simp only [put, rowsOf, plR, List.all_cons, selE, ovr, setH, del, cellsA, splice, isV, List.nil_append, List.cons_append, List.map_cons, List.map_nil, List.length_cons, List.length_nil, List.set_cons_zero, List.set_cons_succ, List.take_succ_cons, List.take_zero, List.take_nil, List.drop_succ_cons, List.drop_zero, List.drop_nil, List.append_nil, List.all_cons, List.all_nil, Bool.and_true, Bool.true_and, Bool.and_false, Bool.false_and, Nat.reduceAdd, Nat.zero_add, Nat.add_zero, Nat.reduceEqDiff, if_true, if_false, reduceIte]))
    | (show AW _ _ _ _ _ _ _ _; first | refine aw_region ?_ | (refine aw_seqk ?_; intro K hK) | refine aw_block ?_ | (apply aw_cond_t; exact rfl; exact (by assumption)) | (apply aw_cond_f; exact rfl; exact (by assumption)) | refine aw_skip ?_ | refine aw_drawE (id := 25) [0, 0, 0, 6, 14, 31, 63, 0, 0, 0, 768, 1792, 3968, 8064, 16383] [0, 0, 0, 0, 1, 0, 1, 0, 0, 0, 0, 1, 0, 1, 0] mixed (by kernel_rfl) ?_)
    | refine thn_n ?_
    | (refine hK _ _ _ ?_; clear hK K)
    | refine inb_n ?_)); all_goals (repeat (clear hK K)))
        all_goals (refine ⟨i + 1, id, c1, by omega, ?_⟩; (try dsimp only); rw [← hw]; exact ⟨by (repeat (refine ⟨by first | exact lk_i rfl rfl | exact lk_d rfl rfl | exact lk_r rfl rfl rfl, ?_⟩)); exact trivial, by (repeat (refine ⟨by first | exact ⟨rfl, rfl, rfl⟩, ?_⟩)); exact trivial, by rfl, by exact pin_0⟩)
      have b1 : decide ((i : Int) < ((frz.map inL).length : Int)) = false := by rw [hfm]; simpa using c1
      have hfin : (((chgN out list list.length : Nat) : Int) == 0) = ((((vioL ds ap list).length : Nat) : Int) == 0) := by
        rw [Bool.eq_iff_iff, beq_iff_eq, beq_iff_eq]
        constructor
        · intro h
          have h1 := list_of ol ((chgN_zero list.length).1 (by omega))
          have := (vio_nil hPr hl).2 (h1 ▸ oa)
          omega
        · intro h
          have h1 := (vio_nil hPr hl).1 (by omega)
          have h2 := omin list h1 rfl (fun _ _ => rfl)
          have h3 : chgN list list list.length = 0 := (chgN_zero _).2 fun _ _ => rfl
          omega
      generalize vioL ds ap list = V at *
      ((repeat' (first
    | (show SQ _ _ _ _ _ _ _ _; first | apply sq_nil | (apply q_move; exact rfl; exact rfl) | (apply q_assign; exact rfl; exact rfl) | (apply q_pick_t; exact rfl; exact rfl; exact rfl; exact (by first | assumption | exact rfl)) | (apply q_ext; exact rfl; exact rfl; exact rfl) | (apply q_lend; exact rfl; exact rfl; exact (ty rfl); exact rfl) | (apply q_lenl; exact rfl; exact rfl; exact (ty rfl); exact rfl) | (apply q_eql; exact rfl; exact rfl; exact rfl) | (apply q_lss; exact rfl; exact rfl; exact rfl) | (apply q_beql; exact rfl; exact rfl; exact rfl; exact (ty rfl); exact rfl) | (apply q_g; exact rfl; exact rfl; exact rfl; exact rfl))
    | (show SQ _ _ _ _ _ _ _ _; (first | (apply q_ldap; exact rfl; exact rfl; exact (ty rfl); exact rfl; exact rfl; exact (by first | rfl | assumption | ((try simp only [Nat.zero_add]); refine List.getElem?_set_self ?_; (try simp only [List.length_set]); assumption)); exact rfl) | (apply q_callU; exact rfl; exact rfl; exact rfl; exact FzL.of rfl; exact hVi _)); (try simp only [put, rowsOf, plR, List.all_cons, selE, ovr, setH, del, cellsA, splice, isV, List.nil_append, List.cons_append, List.map_cons, List.map_nil, List.length_cons, List.length_nil, List.set_cons_zero, List.set_cons_succ, List.take_succ_cons, List.take_zero, List.take_nil, List.drop_succ_cons, List.drop_zero, List.drop_nil, List.append_nil, List.all_cons, List.all_nil, Bool.and_true, Bool.true_and, Bool.and_false, Bool.false_and, Nat.reduceAdd, Nat.zero_add, Nat.add_zero, Nat.reduceEqDiff, if_true, if_false, reduceIte]))
    | (show AW _ _ _ _ _ _ _ _; first | refine aw_region ?_ | (refine aw_seqk ?_; intro K hK) | (apply aw_cond_f; exact rfl; exact (by assumption)) | refine aw_ret ?_ | refine aw_exit ?_)
    | refine thn_n ?_
    | (refine hK _ _ _ ?_; clear hK K)
    | refine thn_e ?_
    | refine inb_same ?_
    | (clear hK K; refine hK _ _ _ ?_; clear hK K))); all_goals (repeat (clear hK K)))
      all_goals exact fin_r (fin_b rfl (by rw [hfin]; simp))
    | false =>
      cases b4 : decide ((j : Int) < ((frz.map inL).length : Int)) with
      | true =>
        have d1 : (((chgN out list list.length : Nat) : Int) != ((chgN out list list.length : Nat) : Int)) = false := by simp
        have d2 : ((((out.map inL).length : Nat) : Int) != (((list.map inL).length : Nat) : Int)) = false := by rw [hom, hlm, ol]; simp
        ((repeat' (first
    | (show SQ _ _ _ _ _ _ _ _; first | apply sq_nil | (apply q_move; exact rfl; exact rfl) | (apply q_assign; exact rfl; exact rfl) | (apply q_pick_t; exact rfl; exact rfl; exact rfl; exact (by first | assumption | exact rfl)) | (apply q_pick_f; exact rfl; exact rfl; exact rfl; exact (by first | assumption | exact rfl)) | (apply q_not; exact rfl; exact rfl) | (apply q_lend; exact rfl; exact rfl; exact (ty rfl); exact rfl) | (apply q_eql; exact rfl; exact rfl; exact rfl) | (apply q_neq; exact rfl; exact rfl; exact rfl) | (apply q_lss; exact rfl; exact rfl; exact rfl) | (apply q_g; exact rfl; exact rfl; exact rfl; exact (by assumption)) | (apply q_g; exact rfl; exact rfl; exact rfl; exact rfl) | (apply q_s; exact rfl; exact rfl; exact rfl; exact rfl; exact rfl))
    | (show SQ _ _ _ _ _ _ _ _; (first | (apply q_ldap; exact rfl; exact rfl; exact (ty rfl); exact rfl; exact rfl; exact (by first | rfl | assumption | ((try simp only [Nat.zero_add]); refine List.getElem?_set_self ?_; (try simp only [List.length_set]); assumption)); exact rfl) | (apply q_callU; exact rfl; exact rfl; exact rfl; exact FzL.of rfl; exact hVA _) | (apply q_callU; exact rfl; exact rfl; exact rfl; exact FzL.of rfl; exact hCB _)); (try simp only [put, rowsOf, plR, List.all_cons, selE, ovr, setH, del, cellsA, splice, isV, List.nil_append, List.cons_append, List.map_cons, List.map_nil, List.length_cons, List.length_nil, List.set_cons_zero, List.set_cons_succ, List.take_succ_cons, List.take_zero, List.take_nil, List.drop_succ_cons, List.drop_zero, List.drop_nil, List.append_nil, List.all_cons, List.all_nil, Bool.and_true, Bool.true_and, Bool.and_false, Bool.false_and, Nat.reduceAdd, Nat.zero_add, Nat.add_zero, Nat.reduceEqDiff, if_true, if_false, reduceIte]))
    | (show AW _ _ _ _ _ _ _ _; first | refine aw_region ?_ | (refine aw_seqk ?_; intro K hK) | refine aw_block ?_ | (apply aw_cond_f; exact rfl; exact rfl) | (apply aw_cond_f; exact rfl; exact (by assumption)) | refine aw_exit ?_ | refine aw_skip ?_)
    | refine thn_n ?_
    | (refine hK _ _ _ ?_; clear hK K)
    | refine thn_e ?_
    | refine inb_same ?_
    | (clear hK K; refine hK _ _ _ ?_; clear hK K))); all_goals (repeat (clear hK K)))
        refine aw_loop (ρ := id) (ι := Nat) (fun i => ([(15, .v (.int .i64 i)), (8, .v (.int .i64 (chgN out list list.length : Nat))), (7, .dsl 1 (out.map inL)), (5, .dsl 1 (frz.map inL)), (4, .dsl 1 (list.map inL)), (3, .ptr 0 0 0)], [(0, ⟨50, 2, false, [[.dsl 1 (nbL ds), .dsl 1 (nbL ap)]]⟩)], 1))
          (fun i => i ≤ frz.length) (fun i => frz.length - i) 0 (Nat.zero_le _) ⟨by (repeat (refine ⟨by first | exact lk_i rfl rfl | exact lk_d rfl rfl | exact lk_r rfl rfl rfl, ?_⟩)); exact trivial, by (repeat (refine ⟨by first | exact ⟨rfl, rfl, rfl⟩, ?_⟩)); exact trivial, by rfl, by exact pin_0⟩ ?_
        intro i hi
        by_cases c1 : i < frz.length
        · have b1 : decide ((i : Int) < ((frz.map inL).length : Int)) = true := by rw [hfm]; simpa using c1
          obtain ⟨hr1, hx0, hx1, hxm⟩ := hfg i c1
          have him : i < (frz.map inL).length := by omega
          generalize frz.getD i 0 = x at *
          have e1 := hlg x hx0 hx1
          have e2 := hog x hx0 hx1
          have e3 := ok x hxm
          rw [e3] at e2
          have b3 : (list.getD x.toNat 0 != list.getD x.toNat 0) = false := by simp
          have hw : IntKind.i64.wrap ((i : Int) + 1) = ((i + 1 : Nat) : Int) := by rw [IntWalk.i64_in _ (by omega)]; omega
          ((repeat' (first
    | (show SQ _ _ _ _ _ _ _ _; first | apply sq_nil | (apply q_move; exact rfl; exact rfl) | (apply q_assign; exact rfl; exact rfl) | (apply q_lend; exact rfl; exact rfl; exact (ty rfl); exact rfl) | (apply q_add; exact rfl; exact rfl; exact rfl) | (apply q_lss; exact rfl; exact rfl; exact rfl))
    | (show DE _ _ _ _ _ _ _ _ _ _ _ _; first | (apply e_move; exact rfl; exact rfl; exact rfl) | (apply e_neq; exact rfl; exact rfl; exact rfl; exact rfl) | (apply e_ixd; exact rfl; exact rfl; exact rfl; exact (ty rfl); exact rfl; exact (by first | omega | (simp; done) | (simp; omega)); exact (by first | omega | (simp; done) | (simp; omega)); exact (by first | rfl | assumption); exact rfl) | (apply e_ld1d; exact rfl; exact rfl; exact (ty rfl); exact rfl; exact rfl; exact rfl))
    | (show DE _ _ _ _ _ _ _ _ _ _ _ _; (first | (apply dr_nil; exact trivial)); (try simp only [put, rowsOf, plR, List.all_cons, selE, ovr, setH, del, cellsA, splice, isV, List.nil_append, List.cons_append, List.map_cons, List.map_nil, List.length_cons, List.length_nil, List.set_cons_zero, List.set_cons_succ, List.take_succ_cons, List.take_zero, List.take_nil, List.drop_succ_cons, List.drop_zero, List.drop_nil, List.append_nil, List.all_cons, List.all_nil, Bool.and_true, Bool.true_and, Bool.and_false, Bool.false_and, Nat.reduceAdd, Nat.zero_add, Nat.add_zero, Nat.reduceEqDiff, if_true, if_false, reduceIte]))
    | (show AW _ _ _ _ _ _ _ _; first | refine aw_region ?_ | (refine aw_seqk ?_; intro K hK) | refine aw_block ?_ | (apply aw_cond_t; exact rfl; exact (by assumption)) | (apply aw_cond_f; exact rfl; exact (by assumption)) | refine aw_skip ?_ | refine aw_drawE (id := 25) [0, 0, 0, 6, 14, 31, 63, 0, 0, 0, 768, 1792, 3968, 8064, 16383] [0, 0, 0, 0, 1, 0, 1, 0, 0, 0, 0, 1, 0, 1, 0] mixed (by kernel_rfl) ?_)
    | refine thn_n ?_
    | (refine hK _ _ _ ?_; clear hK K)
    | refine inb_n ?_)); all_goals (repeat (clear hK K)))
          all_goals (refine ⟨i + 1, id, c1, by omega, ?_⟩; (try dsimp only); rw [← hw]; exact ⟨by (repeat (refine ⟨by first | exact lk_i rfl rfl | exact lk_d rfl rfl | exact lk_r rfl rfl rfl, ?_⟩)); exact trivial, by (repeat (refine ⟨by first | exact ⟨rfl, rfl, rfl⟩, ?_⟩)); exact trivial, by rfl, by exact pin_0⟩)
        have b1 : decide ((i : Int) < ((frz.map inL).length : Int)) = false := by rw [hfm]; simpa using c1
        have hfin : (((chgN out list list.length : Nat) : Int) == 0) = ((((vioL ds ap list).length : Nat) : Int) == 0) := by
          rw [Bool.eq_iff_iff, beq_iff_eq, beq_iff_eq]
          constructor
          · intro h
            have h1 := list_of ol ((chgN_zero list.length).1 (by omega))
            have := (vio_nil hPr hl).2 (h1 ▸ oa)
            omega
          · intro h
            have h1 := (vio_nil hPr hl).1 (by omega)
            have h2 := omin list h1 rfl (fun _ _ => rfl)
            have h3 : chgN list list list.length = 0 := (chgN_zero _).2 fun _ _ => rfl
            omega
        generalize vioL ds ap list = V at *
        ((repeat' (first
    | (show SQ _ _ _ _ _ _ _ _; first | apply sq_nil | (apply q_move; exact rfl; exact rfl) | (apply q_assign; exact rfl; exact rfl) | (apply q_pick_t; exact rfl; exact rfl; exact rfl; exact (by first | assumption | exact rfl)) | (apply q_ext; exact rfl; exact rfl; exact rfl) | (apply q_lend; exact rfl; exact rfl; exact (ty rfl); exact rfl) | (apply q_lenl; exact rfl; exact rfl; exact (ty rfl); exact rfl) | (apply q_eql; exact rfl; exact rfl; exact rfl) | (apply q_lss; exact rfl; exact rfl; exact rfl) | (apply q_beql; exact rfl; exact rfl; exact rfl; exact (ty rfl); exact rfl) | (apply q_g; exact rfl; exact rfl; exact rfl; exact rfl))
    | (show SQ _ _ _ _ _ _ _ _; (first | (apply q_ldap; exact rfl; exact rfl; exact (ty rfl); exact rfl; exact rfl; exact (by first | rfl | assumption | ((try simp only [Nat.zero_add]); refine List.getElem?_set_self ?_; (try simp only [List.length_set]); assumption)); exact rfl) | (apply q_callU; exact rfl; exact rfl; exact rfl; exact FzL.of rfl; exact hVi _)); (try simp only [put, rowsOf, plR, List.all_cons, selE, ovr, setH, del, cellsA, splice, isV, List.nil_append, List.cons_append, List.map_cons, List.map_nil, List.length_cons, List.length_nil, List.set_cons_zero, List.set_cons_succ, List.take_succ_cons, List.take_zero, List.take_nil, List.drop_succ_cons, List.drop_zero, List.drop_nil, List.append_nil, List.all_cons, List.all_nil, Bool.and_true, Bool.true_and, Bool.and_false, Bool.false_and, Nat.reduceAdd, Nat.zero_add, Nat.add_zero, Nat.reduceEqDiff, if_true, if_false, reduceIte]))
    | (show AW _ _ _ _ _ _ _ _; first | refine aw_region ?_ | (refine aw_seqk ?_; intro K hK) | (apply aw_cond_f; exact rfl; exact (by assumption)) | refine aw_ret ?_ | refine aw_exit ?_)
    | refine thn_n ?_
    | (refine hK _ _ _ ?_; clear hK K)
    | refine thn_e ?_
    | refine inb_same ?_
    | (clear hK K; refine hK _ _ _ ?_; clear hK K))); all_goals (repeat (clear hK K)))
        all_goals exact fin_r (fin_b rfl (by rw [hfin]; simp))
      | false =>
        have d1 : (((chgN out list list.length : Nat) : Int) != ((chgN out list list.length : Nat) : Int)) = false := by simp
        have d2 : ((((out.map inL).length : Nat) : Int) != (((list.map inL).length : Nat) : Int)) = false := by rw [hom, hlm, ol]; simp
        ((repeat' (first
    | (show SQ _ _ _ _ _ _ _ _; first | apply sq_nil | (apply q_move; exact rfl; exact rfl) | (apply q_assign; exact rfl; exact rfl) | (apply q_pick_f; exact rfl; exact rfl; exact rfl; exact (by first | assumption | exact rfl)) | (apply q_not; exact rfl; exact rfl) | (apply q_lend; exact rfl; exact rfl; exact (ty rfl); exact rfl) | (apply q_eql; exact rfl; exact rfl; exact rfl) | (apply q_neq; exact rfl; exact rfl; exact rfl) | (apply q_lss; exact rfl; exact rfl; exact rfl) | (apply q_g; exact rfl; exact rfl; exact rfl; exact (by assumption)) | (apply q_s; exact rfl; exact rfl; exact rfl; exact (by assumption); exact rfl) | (apply q_g; exact rfl; exact rfl; exact rfl; exact rfl) | (apply q_s; exact rfl; exact rfl; exact rfl; exact rfl; exact rfl))
    | (show SQ _ _ _ _ _ _ _ _; (first | (apply q_ldap; exact rfl; exact rfl; exact (ty rfl); exact rfl; exact rfl; exact (by first | rfl | assumption | ((try simp only [Nat.zero_add]); refine List.getElem?_set_self ?_; (try simp only [List.length_set]); assumption)); exact rfl) | (apply q_callU; exact rfl; exact rfl; exact rfl; exact FzL.of rfl; exact hVA _) | (apply q_callU; exact rfl; exact rfl; exact rfl; exact FzL.of rfl; exact hCB _)); (try simp only [put, rowsOf, plR, List.all_cons, selE, ovr, setH, del, cellsA, splice, isV, List.nil_append, List.cons_append, List.map_cons, List.map_nil, List.length_cons, List.length_nil, List.set_cons_zero, List.set_cons_succ, List.take_succ_cons, List.take_zero, List.take_nil, List.drop_succ_cons, List.drop_zero, List.drop_nil, List.append_nil, List.all_cons, List.all_nil, Bool.and_true, Bool.true_and, Bool.and_false, Bool.false_and, Nat.reduceAdd, Nat.zero_add, Nat.add_zero, Nat.reduceEqDiff, if_true, if_false, reduceIte]))
    | (show AW _ _ _ _ _ _ _ _; first | refine aw_region ?_ | (refine aw_seqk ?_; intro K hK) | refine aw_block ?_ | (apply aw_cond_f; exact rfl; exact rfl) | (apply aw_cond_f; exact rfl; exact (by assumption)) | refine aw_exit ?_ | refine aw_skip ?_)
    | refine thn_n ?_
    | (refine hK _ _ _ ?_; clear hK K)
    | refine thn_e ?_
    | refine inb_same ?_
    | (clear hK K; refine hK _ _ _ ?_; clear hK K))); all_goals (repeat (clear hK K)))
        refine aw_loop (ρ := id) (ι := Nat) (fun i => ([(15, .v (.int .i64 i)), (8, .v (.int .i64 (chgN out list list.length : Nat))), (7, .dsl 1 (out.map inL)), (5, .dsl 1 (frz.map inL)), (4, .dsl 1 (list.map inL)), (3, .ptr 0 0 0)], [(0, ⟨50, 2, false, [[.dsl 1 (nbL ds), .dsl 1 (nbL ap)]]⟩)], 1))
          (fun i => i ≤ frz.length) (fun i => frz.length - i) 0 (Nat.zero_le _) ⟨by (repeat (refine ⟨by first | exact lk_i rfl rfl | exact lk_d rfl rfl | exact lk_r rfl rfl rfl, ?_⟩)); exact trivial, by (repeat (refine ⟨by first | exact ⟨rfl, rfl, rfl⟩, ?_⟩)); exact trivial, by rfl, by exact pin_0⟩ ?_
        intro i hi
        by_cases c1 : i < frz.length
        · have b1 : decide ((i : Int) < ((frz.map inL).length : Int)) = true := by rw [hfm]; simpa using c1
          obtain ⟨hr1, hx0, hx1, hxm⟩ := hfg i c1
          have him : i < (frz.map inL).length := by omega
          generalize frz.getD i 0 = x at *
          have e1 := hlg x hx0 hx1
          have e2 := hog x hx0 hx1
          have e3 := ok x hxm
          rw [e3] at e2
          have b3 : (list.getD x.toNat 0 != list.getD x.toNat 0) = false := by simp
          have hw : IntKind.i64.wrap ((i : Int) + 1) = ((i + 1 : Nat) : Int) := by rw [IntWalk.i64_in _ (by omega)]; omega
          ((repeat' (first
    | (show SQ _ _ _ _ _ _ _ _; first | apply sq_nil | (apply q_move; exact rfl; exact rfl) | (apply q_assign; exact rfl; exact rfl) | (apply q_lend; exact rfl; exact rfl; exact (ty rfl); exact rfl) | (apply q_add; exact rfl; exact rfl; exact rfl) | (apply q_lss; exact rfl; exact rfl; exact rfl))
    | (show DE _ _ _ _ _ _ _ _ _ _ _ _; first | (apply e_move; exact rfl; exact rfl; exact rfl) | (apply e_neq; exact rfl; exact rfl; exact rfl; exact rfl) | (apply e_ixd; exact rfl; exact rfl; exact rfl; exact (ty rfl); exact rfl; exact (by first | omega | (simp; done) | (simp; omega)); exact (by first | omega | (simp; done) | (simp; omega)); exact (by first | rfl | assumption); exact rfl) | (apply e_ld1d; exact rfl; exact rfl; exact (ty rfl); exact rfl; exact rfl; exact rfl))
    | (show DE _ _ _ _ _ _ _ _ _ _ _ _; (first | (apply dr_nil; exact trivial)); (try simp only [put, rowsOf, plR, List.all_cons, selE, ovr, setH, del, cellsA, splice, isV, List.nil_append, List.cons_append, List.map_cons, List.map_nil, List.length_cons, List.length_nil, List.set_cons_zero, List.set_cons_succ, List.take_succ_cons, List.take_zero, List.take_nil, List.drop_succ_cons, List.drop_zero, List.drop_nil, List.append_nil, List.all_cons, List.all_nil, Bool.and_true, Bool.true_and, Bool.and_false, Bool.false_and, Nat.reduceAdd, Nat.zero_add, Nat.add_zero, Nat.reduceEqDiff, if_true, if_false, reduceIte]))
    | (show AW _ _ _ _ _ _ _ _; first | refine aw_region ?_ | (refine aw_seqk ?_; intro K hK) | refine aw_block ?_ | (apply aw_cond_t; exact rfl; exact (by assumption)) | (apply aw_cond_f; exact rfl; exact (by assumption)) | refine aw_skip ?_ | refine aw_drawE (id := 25) [0, 0, 0, 6, 14, 31, 63, 0, 0, 0, 768, 1792, 3968, 8064, 16383] [0, 0, 0, 0, 1, 0, 1, 0, 0, 0, 0, 1, 0, 1, 0] mixed (by kernel_rfl) ?_)
    | refine thn_n ?_
    | (refine hK _ _ _ ?_; clear hK K)
    | refine inb_n ?_)); all_goals (repeat (clear hK K)))
          all_goals (refine ⟨i + 1, id, c1, by omega, ?_⟩; (try dsimp only); rw [← hw]; exact ⟨by (repeat (refine ⟨by first | exact lk_i rfl rfl | exact lk_d rfl rfl | exact lk_r rfl rfl rfl, ?_⟩)); exact trivial, by (repeat (refine ⟨by first | exact ⟨rfl, rfl, rfl⟩, ?_⟩)); exact trivial, by rfl, by exact pin_0⟩)
        have b1 : decide ((i : Int) < ((frz.map inL).length : Int)) = false := by rw [hfm]; simpa using c1
        have hfin : (((chgN out list list.length : Nat) : Int) == 0) = ((((vioL ds ap list).length : Nat) : Int) == 0) := by
          rw [Bool.eq_iff_iff, beq_iff_eq, beq_iff_eq]
          constructor
          · intro h
            have h1 := list_of ol ((chgN_zero list.length).1 (by omega))
            have := (vio_nil hPr hl).2 (h1 ▸ oa)
            omega
          · intro h
            have h1 := (vio_nil hPr hl).1 (by omega)
            have h2 := omin list h1 rfl (fun _ _ => rfl)
            have h3 : chgN list list list.length = 0 := (chgN_zero _).2 fun _ _ => rfl
            omega
        generalize vioL ds ap list = V at *
        ((repeat' (first
    | (show SQ _ _ _ _ _ _ _ _; first | apply sq_nil | (apply q_move; exact rfl; exact rfl) | (apply q_assign; exact rfl; exact rfl) | (apply q_pick_t; exact rfl; exact rfl; exact rfl; exact (by first | assumption | exact rfl)) | (apply q_ext; exact rfl; exact rfl; exact rfl) | (apply q_lend; exact rfl; exact rfl; exact (ty rfl); exact rfl) | (apply q_lenl; exact rfl; exact rfl; exact (ty rfl); exact rfl) | (apply q_eql; exact rfl; exact rfl; exact rfl) | (apply q_lss; exact rfl; exact rfl; exact rfl) | (apply q_beql; exact rfl; exact rfl; exact rfl; exact (ty rfl); exact rfl) | (apply q_g; exact rfl; exact rfl; exact rfl; exact rfl))
    | (show SQ _ _ _ _ _ _ _ _; (first | (apply q_ldap; exact rfl; exact rfl; exact (ty rfl); exact rfl; exact rfl; exact (by first | rfl | assumption | ((try simp only [Nat.zero_add]); refine List.getElem?_set_self ?_; (try simp only [List.length_set]); assumption)); exact rfl) | (apply q_callU; exact rfl; exact rfl; exact rfl; exact FzL.of rfl; exact hVi _)); (try simp only [put, rowsOf, plR, List.all_cons, selE, ovr, setH, del, cellsA, splice, isV, List.nil_append, List.cons_append, List.map_cons, List.map_nil, List.length_cons, List.length_nil, List.set_cons_zero, List.set_cons_succ, List.take_succ_cons, List.take_zero, List.take_nil, List.drop_succ_cons, List.drop_zero, List.drop_nil, List.append_nil, List.all_cons, List.all_nil, Bool.and_true, Bool.true_and, Bool.and_false, Bool.false_and, Nat.reduceAdd, Nat.zero_add, Nat.add_zero, Nat.reduceEqDiff, if_true, if_false, reduceIte]))
    | (show AW _ _ _ _ _ _ _ _; first | refine aw_region ?_ | (refine aw_seqk ?_; intro K hK) | (apply aw_cond_f; exact rfl; exact (by assumption)) | refine aw_ret ?_ | refine aw_exit ?_)
    | refine thn_n ?_
    | (refine hK _ _ _ ?_; clear hK K)
    | refine thn_e ?_
    | refine inb_same ?_
    | (clear hK K; refine hK _ _ _ ?_; clear hK K))); all_goals (repeat (clear hK K)))
        all_goals exact fin_r (fin_b rfl (by rw [hfin]; simp))
end Go.Proofs.Yteknfaldpajlpaa.Nb

namespace Go.Proofs.Yteknfaldpajlpaa.Nb
open Go Go.RowKit Go.Proofs.Yteknfaldpajlpaa.Aw Go.Proofs.Yteknfaldpajlpaa.In Go.Proofs.Yteknfaldpajlpaa.Il Go.Proofs.Yteknfaldpajlpaa.Sr
set_option linter.unusedSimpArgs false
set_option linter.unusedVariables false
set_option linter.unusedSectionVars false
attribute [local irreducible] AW SQ Step RO RC DE Thn InB
set_option maxHeartbeats 4000000 in
theorem amongD_rc (b : Nat) (s : Sr) (ws : List Int) (h : s.ok 900000) (hw : 1 ≤ ws.length) (hw2 : ws.length ≤ 1000) (k : Nat) :
    RC Try.prog 76 [.ptr b 0 0, .dsl 1 (ws.map inL)] [(b, ⟨109, 3, false, [srR s]⟩)] k (.v (.int .i64 (am ws s).1)) [(b, some ⟨109, 3, false, [srR (am ws s).2]⟩)] k := by
  have hp := pk_bd s ws.length (by omega)
  obtain ⟨i, hi⟩ : ∃ i : Nat, (pk s ws.length).1 = i := ⟨(pk s ws.length).1.toNat, by omega⟩
  have hil : i < ws.length := by omega
  have hwl : (ws.map inL).length = ws.length := List.length_map _
  have hr2 : (ws.map inL)[((i : Int)).toNat]? = some (inL ws[i]) := by simp [hil]
  rw [inL_eq] at hr2
  have hv : (am ws s).1 = ws[i] := by simp [am, hi, hil]
  have hs : (am ws s).2 = (pk s ws.length).2 := rfl
  rw [hv, hs]
  refine RC.ofc [b] 0 [.ptr 0 0 0, .dsl 1 (ws.map inL)] [(0, ⟨109, 3, false, [srR s]⟩)] (.v (.int .i64 ws[i])) [(0, some ⟨109, 3, false, [srR (pk s ws.length).2]⟩)] Try.func76 Try.ntmps76 rfl (goFn_of Try.func76 rfl (by kernel_rfl)) rfl rfl rfl rfl rfl rfl rfl rfl (by simp_all) rfl ?_
  have hpk := pick_rc 0 s (ws.length : Int) h (by omega)
  rw [hi, ← hwl] at hpk
  rw [← hwl]
  ((repeat' (first
    | (show SQ _ _ _ _ _ _ _ _; first | apply sq_nil | (apply q_move; exact rfl; exact rfl) | (apply q_assign; exact rfl; exact rfl) | (apply q_lend; exact rfl; exact rfl; exact (ty rfl); exact rfl) | (apply q_ixd; exact rfl; exact rfl; exact rfl; exact (ty rfl); exact rfl; exact (by first | omega | (simp; done) | (simp; omega)); exact (by first | omega | (simp; done) | (simp; omega)); exact (by first | rfl | assumption)) | (apply q_ld1d; exact rfl; exact rfl; exact (ty rfl); exact rfl; exact rfl))
    | (show SQ _ _ _ _ _ _ _ _; (first | (apply q_callC; exact rfl; exact rfl; exact rfl; exact hpk _; (focus ((repeat (first | exact trivial | refine ⟨by first | exact rfl | assumption, ?_⟩)); done)); skip)); (try simp only [put, rowsOf, plR, List.all_cons, selE, ovr, setH, del, cellsA, splice, isV, List.nil_append, List.cons_append, List.map_cons, List.map_nil, List.length_cons, List.length_nil, List.set_cons_zero, List.set_cons_succ, List.take_succ_cons, List.take_zero, List.take_nil, List.drop_succ_cons, List.drop_zero, List.drop_nil, List.append_nil, List.all_cons, List.all_nil, Bool.and_true, Bool.true_and, Bool.and_false, Bool.false_and, Nat.reduceAdd, Nat.zero_add, Nat.add_zero, Nat.reduceEqDiff, if_true, if_false, reduceIte]))
    | (show AW _ _ _ _ _ _ _ _; first | refine aw_region ?_ | (refine aw_seqk ?_; intro K hK) | refine aw_ret ?_)
    | refine thn_n ?_
    | (refine hK _ _ _ ?_; clear hK K))); all_goals (repeat (clear hK K)))
  all_goals exact finc id (.r1 _ _ (.tmp _ _ rfl)) rfl (fun _ _ => rfl) ⟨rfl, trivial⟩ rfl
def stp (d : List Int) (s : Sr) : Int × Sr := if ((pk (pk s 10).2 6).1 == 0) = false ∧ 0 < d.length then am d (pk (pk s 10).2 6).2 else ((pk s 10).1, (pk (pk s 10).2 6).2)
theorem stp_ok {s : Sr} {k : Int} (d : List Int) (h : s.ok k) : (stp d s).2.ok (k + 6) := by
  have h1 := pk_ok 6 (pk_ok 10 h)
  unfold stp
  split
  · exact (am_ok d h1).mono (by omega)
  · exact h1.mono (by omega)
def dsF (ds : List (List Int)) (s : Sr) : Nat → Sr × List Int
  | 0 => (s, [])
  | i + 1 => ((stp (ds.getD i []) (dsF ds s i).1).2, (dsF ds s i).2 ++ [(stp (ds.getD i []) (dsF ds s i).1).1])
theorem dsF_ok {ds : List (List Int)} {s : Sr} {k : Int} (h : s.ok k) : ∀ i : Nat, (dsF ds s i).1.ok (k + 6 * (i : Int)) ∧ (dsF ds s i).2.length = i
  | 0 => ⟨h.mono (by omega), rfl⟩
  | i + 1 => ⟨(stp_ok (ds.getD i []) (dsF_ok h i).1).mono (by omega), by simp [dsF, (dsF_ok h i).2]⟩
theorem l19DrawState_ex {s : Sr} {k : Int} (ds ap : List (List Int)) (hS : NbS ds) (h1 : 1 ≤ ds.length) (h2 : ds.length ≤ 25) (hd : ∀ d ∈ ds, d.length ≤ 100) (h : s.ok k) (hk : k ≤ 90000) : ∃ (list : List Int) (s' : Sr), list.length ≤ 26 ∧ 1 ≤ list.length ∧ s'.ok (k + 200) ∧
    ∀ j b c, b ≠ c → RC Try.prog 72 [.ptr b 0 0, .ptr c 0 0] [(b, ⟨109, 3, false, [srR s]⟩), (c, ⟨50, 2, false, [[.dsl 1 (nbL ds), .dsl 1 (nbL ap)]]⟩)] j (.sl j 0 list.length) [(b, some ⟨109, 3, false, [srR s']⟩), (c, some ⟨50, 2, false, [[.dsl 1 (nbL ds), .dsl 1 (nbL ap)]]⟩), (j, some ⟨2, 1, true, list.map inL⟩)] (j + 1) := by
  have hnl := nbL_len ds
  have hD := fun i => dsF_ok (ds := ds) h i
  have hS1 : ∀ i, dsF ds s (i + 1) = ((stp (ds.getD i []) (dsF ds s i).1).2, (dsF ds s i).2 ++ [(stp (ds.getD i []) (dsF ds s i).1).1]) := fun _ => rfl
  have hp := fun id => pick_rc id (dsF ds s ds.length).1 16 ((hD ds.length).1.mono (by omega)) (by omega)
  obtain ⟨g1, g2⟩ := hD ds.length
  have ok1 := pk_ok 16 g1
  have hZ0 : ∃ Z, dsF ds s ds.length = Z := ⟨_, rfl⟩
  obtain ⟨⟨sz, xs⟩, hZ⟩ := hZ0
  rw [hZ] at hp g1 g2 ok1
  dsimp only at hp g1 g2 ok1
  have hxm : (xs.map inL).length = ds.length := by rw [List.length_map, g2]
  generalize pk sz 16 = P at *
  obtain ⟨p, s1⟩ := P
  dsimp only at hp ok1
  by_cases c0 : p = 0
  · have b0 : (p == 0) = true := by simpa using c0
    refine ⟨xs ++ [0], s1, by rw [List.length_append, g2]; simp; omega, by rw [List.length_append, g2]; simp, ok1.mono (by omega), fun j b c hbc => ?_⟩
    refine RC.ofc [b, c] 1 [.ptr 0 0 0, .ptr 1 0 0] [(0, ⟨109, 3, false, [srR s]⟩), (1, ⟨50, 2, false, [[.dsl 1 (nbL ds), .dsl 1 (nbL ap)]]⟩)] (.sl 2 0 (xs ++ [0]).length) [(0, some ⟨109, 3, false, [srR s1]⟩), (1, some ⟨50, 2, false, [[.dsl 1 (nbL ds), .dsl 1 (nbL ap)]]⟩), (2, some ⟨2, 1, true, (xs ++ [0]).map inL⟩)] Try.func72 Try.ntmps72 rfl (goFn_of Try.func72 rfl (by kernel_rfl)) rfl rfl rfl rfl rfl rfl rfl rfl (by simp_all) rfl ?_
    ((repeat' (first
    | (show SQ _ _ _ _ _ _ _ _; first | apply sq_nil | (apply q_assign; exact rfl; exact rfl))
    | (show SQ _ _ _ _ _ _ _ _; (first | (apply q_build0; exact rfl; exact (ty rfl); exact rfl)); (try simp only [put, rowsOf, plR, List.all_cons, selE, ovr, setH, del, cellsA, splice, isV, List.nil_append, List.cons_append, List.map_cons, List.map_nil, List.length_cons, List.length_nil, List.set_cons_zero, List.set_cons_succ, List.take_succ_cons, List.take_zero, List.take_nil, List.drop_succ_cons, List.drop_zero, List.drop_nil, List.append_nil, List.all_cons, List.all_nil, Bool.and_true, Bool.true_and, Bool.and_false, Bool.false_and, Nat.reduceAdd, Nat.zero_add, Nat.add_zero, Nat.reduceEqDiff, if_true, if_false, reduceIte]))
    | (show AW _ _ _ _ _ _ _ _; first | refine aw_region ?_ | (refine aw_seqk ?_; intro K hK) | refine aw_block ?_)
    | refine thn_n ?_
    | (refine hK _ _ _ ?_; clear hK K))); all_goals (repeat (clear hK K)))
    show AW _ _ 2 _ _ _ _ _
    refine aw_loop (ρ := id) (ι := Nat) (fun i => ([(6, .v (.int .i64 i)), (5, .sl 2 0 i), (1, .ptr 1 0 0), (0, .ptr 0 0 0)],
        [(0, ⟨109, 3, false, [srR (dsF ds s i).1]⟩), (1, ⟨50, 2, false, [[.dsl 1 (nbL ds), .dsl 1 (nbL ap)]]⟩), (2, ⟨2, 1, true, (dsF ds s i).2.map inL⟩)], 3))
      (fun i => i ≤ ds.length) (fun i => ds.length - i) 0 (Nat.zero_le _) ⟨by (repeat (refine ⟨by first | exact lk_i rfl rfl | exact lk_r rfl rfl rfl | exact lk_s rfl rfl rfl rfl, ?_⟩)); exact trivial, by (repeat (refine ⟨by first | exact ⟨rfl, rfl, rfl⟩, ?_⟩)); exact trivial, by rfl, by (intro i hi; (try dsimp only); refine ⟨?_, ?_⟩ <;> first | rfl | omega | (simp at hi; omega) | (simp; omega))⟩ ?_
    intro i hi
    obtain ⟨k1, k2⟩ := hD i
    have hml : ((dsF ds s i).2.map inL).length = i := by rw [List.length_map, k2]
    by_cases c1 : i < ds.length
    · have b1 : decide ((i : Int) < (((nbL ds).length : Nat) : Int)) = true := by rw [hnl]; simpa using c1
      have hw : IntKind.i64.wrap ((i : Int) + 1) = ((i + 1 : Nat) : Int) := by rw [IntWalk.i64_in _ (by omega)]; omega
      have hrow := nbL_get c1
      have hs1 := hS1 i
      have hg : ds.getD i [] = ds[i] := by simp [List.getD, c1]
      have hdi := hd _ (List.getElem_mem c1)
      rw [hg] at hs1
      generalize ds[i] = d at *
      generalize dsF ds s i = Z at *
      obtain ⟨si, xi⟩ := Z
      dsimp only at k1 hs1 hml k2 ⊢
      have hdm : (d.map inL).length = d.length := List.length_map _
      have r1 := fun id => pick_rc id si 10 (k1.mono (by omega)) (by omega)
      have k3 := pk_ok 10 k1
      have r2 := fun id => one_rc id (pk si 10).2 6 (k3.mono (by omega)) (by omega)
      have k4 := pk_ok 6 k3
      unfold stp at hs1
      generalize pk si 10 = P1 at *
      obtain ⟨c, si2⟩ := P1
      dsimp only at r1 r2 k4 hs1
      generalize pk si2 6 = P2 at *
      obtain ⟨o, si3⟩ := P2
      dsimp only at r2 k4 hs1
      cases e1 : (o == 0) with
      | true =>
        rw [e1] at r2
        rw [if_neg (by rw [e1]; simp)] at hs1
        ((repeat' (first
    | (show SQ _ _ _ _ _ _ _ _; first | apply sq_nil | (apply q_move; exact rfl; exact rfl) | (apply q_assign; exact rfl; exact rfl) | (apply q_pick_f; exact rfl; exact rfl; exact rfl; exact (by first | assumption | exact rfl)) | (apply q_fieldAddr; exact rfl; exact rfl; exact (ty rfl); exact rfl; exact rfl; exact rfl; exact rfl) | (apply q_nilc; exact rfl; exact rfl; exact rfl) | (apply q_not; exact rfl; exact rfl) | (apply q_lend; exact rfl; exact rfl; exact (ty rfl); exact rfl) | (apply q_add; exact rfl; exact rfl; exact rfl) | (apply q_lss; exact rfl; exact rfl; exact rfl) | (apply q_ld1p; exact rfl; exact rfl; exact (ty rfl); exact rfl; exact rfl; exact (by first | rfl | assumption | ((try simp only [Nat.zero_add]); refine List.getElem?_set_self ?_; (try simp only [List.length_set]); assumption)); exact rfl) | (apply q_s; exact rfl; exact rfl; exact rfl; exact rfl; exact rfl))
    | (show SQ _ _ _ _ _ _ _ _; (first | (apply q_buildn; exact rfl; exact (ty rfl); exact rfl; exact rfl; exact rfl; exact rfl; exact rfl; exact rfl; exact rfl) | (apply q_apo_s; exact rfl; exact rfl; exact rfl; exact (ty rfl); exact rfl; exact rfl; exact (by first | omega | (simp; done) | (simp; omega)); exact (by first | exact List.take_of_length_le (by first | omega | (simp; done) | (simp; omega)) | rfl); exact (ty rfl); exact rfl; exact rfl; exact (by first | omega | (simp; done) | (simp; omega)); exact (by first | exact dt_full (by first | omega | (simp; done) | (simp; omega)) | assumption | rfl); exact rfl; exact (by first | omega | (simp; done) | (simp; omega)); exact (by first | omega | (simp; done) | (simp; omega)); exact (by first | assumption | exact rfl)) | (apply q_callC; exact rfl; exact rfl; exact rfl; exact r1 0 _; (focus ((repeat (first | exact trivial | refine ⟨by first | exact rfl | assumption, ?_⟩)); done)); skip) | (apply q_callC; exact rfl; exact rfl; exact rfl; exact r2 0 _; (focus ((repeat (first | exact trivial | refine ⟨by first | exact rfl | assumption, ?_⟩)); done)); skip)); (try simp only [put, rowsOf, plR, List.all_cons, selE, ovr, setH, del, cellsA, splice, isV, List.nil_append, List.cons_append, List.map_cons, List.map_nil, List.length_cons, List.length_nil, List.set_cons_zero, List.set_cons_succ, List.take_succ_cons, List.take_zero, List.take_nil, List.drop_succ_cons, List.drop_zero, List.drop_nil, List.append_nil, List.all_cons, List.all_nil, Bool.and_true, Bool.true_and, Bool.and_false, Bool.false_and, Nat.reduceAdd, Nat.zero_add, Nat.add_zero, Nat.reduceEqDiff, if_true, if_false, reduceIte]))
    | (show AW _ _ _ _ _ _ _ _; first | refine aw_region ?_ | (refine aw_seqk ?_; intro K hK) | refine aw_block ?_ | (apply aw_cond_f; exact rfl; exact rfl) | (apply aw_cond_t; exact rfl; exact (by assumption)) | refine aw_skip ?_)
    | refine thn_n ?_
    | (refine hK _ _ _ ?_; clear hK K)
    | refine inb_n ?_)); all_goals (repeat (clear hK K)))
        all_goals (refine ⟨i + 1, mv 2 4, c1, by omega, ?_⟩; (try dsimp only); rw [hs1, ← hw]; dsimp only; rw [List.map_append]; exact ⟨by (repeat (refine ⟨by first | exact lk_i rfl rfl | exact lk_r rfl rfl rfl | exact lk_s rfl rfl rfl rfl, ?_⟩)); exact trivial, by (repeat (refine ⟨by first | exact ⟨rfl, rfl, rfl⟩, ?_⟩)); exact trivial, by rfl, by (intro i hi; (try dsimp only); refine ⟨?_, ?_⟩ <;> first | rfl | omega | (simp [mv]; omega))⟩)
      | false =>
        rw [e1] at r2
        by_cases e2 : 0 < d.length
        · have b2 : decide ((0 : Int) < (((d.map inL).length : Nat) : Int)) = true := by rw [hdm]; simpa using e2
          rw [if_pos ⟨e1, e2⟩] at hs1
          have hA := amongD_rc 0 si3 d (k4.mono (by omega)) (by omega) (by omega)
          generalize am d si3 = A at *
          obtain ⟨c', si4⟩ := A
          dsimp only at hs1 hA
          ((repeat' (first
    | (show SQ _ _ _ _ _ _ _ _; first | apply sq_nil | (apply q_move; exact rfl; exact rfl) | (apply q_assign; exact rfl; exact rfl) | (apply q_pick_t; exact rfl; exact rfl; exact rfl; exact (by first | assumption | exact rfl)) | (apply q_fieldAddr; exact rfl; exact rfl; exact (ty rfl); exact rfl; exact rfl; exact rfl; exact rfl) | (apply q_nilc; exact rfl; exact rfl; exact rfl) | (apply q_not; exact rfl; exact rfl) | (apply q_lend; exact rfl; exact rfl; exact (ty rfl); exact rfl) | (apply q_add; exact rfl; exact rfl; exact rfl) | (apply q_lss; exact rfl; exact rfl; exact rfl) | (apply q_gtr; exact rfl; exact rfl; exact rfl) | (apply q_ixd; exact rfl; exact rfl; exact rfl; exact (ty rfl); exact rfl; exact (by first | omega | (simp; done) | (simp; omega)); exact (by first | omega | (simp; done) | (simp; omega)); exact (by first | rfl | assumption)) | (apply q_ld1d; exact rfl; exact rfl; exact (ty rfl); exact rfl; exact rfl) | (apply q_ld1p; exact rfl; exact rfl; exact (ty rfl); exact rfl; exact rfl; exact (by first | rfl | assumption | ((try simp only [Nat.zero_add]); refine List.getElem?_set_self ?_; (try simp only [List.length_set]); assumption)); exact rfl) | (apply q_g; exact rfl; exact rfl; exact rfl; exact rfl))
    | (show SQ _ _ _ _ _ _ _ _; (first | (apply q_buildn; exact rfl; exact (ty rfl); exact rfl; exact rfl; exact rfl; exact rfl; exact rfl; exact rfl; exact rfl) | (apply q_apo_s; exact rfl; exact rfl; exact rfl; exact (ty rfl); exact rfl; exact rfl; exact (by first | omega | (simp; done) | (simp; omega)); exact (by first | exact List.take_of_length_le (by first | omega | (simp; done) | (simp; omega)) | rfl); exact (ty rfl); exact rfl; exact rfl; exact (by first | omega | (simp; done) | (simp; omega)); exact (by first | exact dt_full (by first | omega | (simp; done) | (simp; omega)) | assumption | rfl); exact rfl; exact (by first | omega | (simp; done) | (simp; omega)); exact (by first | omega | (simp; done) | (simp; omega)); exact (by first | assumption | exact rfl)) | (apply q_callC; exact rfl; exact rfl; exact rfl; exact r1 0 _; (focus ((repeat (first | exact trivial | refine ⟨by first | exact rfl | assumption, ?_⟩)); done)); skip) | (apply q_callC; exact rfl; exact rfl; exact rfl; exact r2 0 _; (focus ((repeat (first | exact trivial | refine ⟨by first | exact rfl | assumption, ?_⟩)); done)); skip) | (apply q_callC; exact rfl; exact rfl; exact rfl; exact hA _; (focus ((repeat (first | exact trivial | refine ⟨by first | exact rfl | assumption, ?_⟩)); done)); skip)); (try simp only [put, rowsOf, plR, List.all_cons, selE, ovr, setH, del, cellsA, splice, isV, List.nil_append, List.cons_append, List.map_cons, List.map_nil, List.length_cons, List.length_nil, List.set_cons_zero, List.set_cons_succ, List.take_succ_cons, List.take_zero, List.take_nil, List.drop_succ_cons, List.drop_zero, List.drop_nil, List.append_nil, List.all_cons, List.all_nil, Bool.and_true, Bool.true_and, Bool.and_false, Bool.false_and, Nat.reduceAdd, Nat.zero_add, Nat.add_zero, Nat.reduceEqDiff, if_true, if_false, reduceIte]))
    | (show AW _ _ _ _ _ _ _ _; first | refine aw_region ?_ | (refine aw_seqk ?_; intro K hK) | refine aw_block ?_ | (apply aw_cond_t; exact rfl; exact (by assumption)) | refine aw_skip ?_)
    | refine thn_n ?_
    | (refine hK _ _ _ ?_; clear hK K)
    | refine inb_n ?_)); all_goals (repeat (clear hK K)))
          all_goals (refine ⟨i + 1, mv 2 4, c1, by omega, ?_⟩; (try dsimp only); rw [hs1, ← hw]; dsimp only; rw [List.map_append]; exact ⟨by (repeat (refine ⟨by first | exact lk_i rfl rfl | exact lk_r rfl rfl rfl | exact lk_s rfl rfl rfl rfl, ?_⟩)); exact trivial, by (repeat (refine ⟨by first | exact ⟨rfl, rfl, rfl⟩, ?_⟩)); exact trivial, by rfl, by (intro i hi; (try dsimp only); refine ⟨?_, ?_⟩ <;> first | rfl | omega | (simp [mv]; omega))⟩)
        · have b2 : decide ((0 : Int) < (((d.map inL).length : Nat) : Int)) = false := by rw [hdm]; simpa using e2
          rw [if_neg (fun h => e2 h.2)] at hs1
          ((repeat' (first
    | (show SQ _ _ _ _ _ _ _ _; first | apply sq_nil | (apply q_move; exact rfl; exact rfl) | (apply q_assign; exact rfl; exact rfl) | (apply q_pick_t; exact rfl; exact rfl; exact rfl; exact (by first | assumption | exact rfl)) | (apply q_fieldAddr; exact rfl; exact rfl; exact (ty rfl); exact rfl; exact rfl; exact rfl; exact rfl) | (apply q_nilc; exact rfl; exact rfl; exact rfl) | (apply q_not; exact rfl; exact rfl) | (apply q_lend; exact rfl; exact rfl; exact (ty rfl); exact rfl) | (apply q_add; exact rfl; exact rfl; exact rfl) | (apply q_lss; exact rfl; exact rfl; exact rfl) | (apply q_gtr; exact rfl; exact rfl; exact rfl) | (apply q_ixd; exact rfl; exact rfl; exact rfl; exact (ty rfl); exact rfl; exact (by first | omega | (simp; done) | (simp; omega)); exact (by first | omega | (simp; done) | (simp; omega)); exact (by first | rfl | assumption)) | (apply q_ld1d; exact rfl; exact rfl; exact (ty rfl); exact rfl; exact rfl) | (apply q_ld1p; exact rfl; exact rfl; exact (ty rfl); exact rfl; exact rfl; exact (by first | rfl | assumption | ((try simp only [Nat.zero_add]); refine List.getElem?_set_self ?_; (try simp only [List.length_set]); assumption)); exact rfl) | (apply q_g; exact rfl; exact rfl; exact rfl; exact rfl))
    | (show SQ _ _ _ _ _ _ _ _; (first | (apply q_buildn; exact rfl; exact (ty rfl); exact rfl; exact rfl; exact rfl; exact rfl; exact rfl; exact rfl; exact rfl) | (apply q_apo_s; exact rfl; exact rfl; exact rfl; exact (ty rfl); exact rfl; exact rfl; exact (by first | omega | (simp; done) | (simp; omega)); exact (by first | exact List.take_of_length_le (by first | omega | (simp; done) | (simp; omega)) | rfl); exact (ty rfl); exact rfl; exact rfl; exact (by first | omega | (simp; done) | (simp; omega)); exact (by first | exact dt_full (by first | omega | (simp; done) | (simp; omega)) | assumption | rfl); exact rfl; exact (by first | omega | (simp; done) | (simp; omega)); exact (by first | omega | (simp; done) | (simp; omega)); exact (by first | assumption | exact rfl)) | (apply q_callC; exact rfl; exact rfl; exact rfl; exact r1 0 _; (focus ((repeat (first | exact trivial | refine ⟨by first | exact rfl | assumption, ?_⟩)); done)); skip) | (apply q_callC; exact rfl; exact rfl; exact rfl; exact r2 0 _; (focus ((repeat (first | exact trivial | refine ⟨by first | exact rfl | assumption, ?_⟩)); done)); skip)); (try simp only [put, rowsOf, plR, List.all_cons, selE, ovr, setH, del, cellsA, splice, isV, List.nil_append, List.cons_append, List.map_cons, List.map_nil, List.length_cons, List.length_nil, List.set_cons_zero, List.set_cons_succ, List.take_succ_cons, List.take_zero, List.take_nil, List.drop_succ_cons, List.drop_zero, List.drop_nil, List.append_nil, List.all_cons, List.all_nil, Bool.and_true, Bool.true_and, Bool.and_false, Bool.false_and, Nat.reduceAdd, Nat.zero_add, Nat.add_zero, Nat.reduceEqDiff, if_true, if_false, reduceIte]))
    | (show AW _ _ _ _ _ _ _ _; first | refine aw_region ?_ | (refine aw_seqk ?_; intro K hK) | refine aw_block ?_ | (apply aw_cond_t; exact rfl; exact (by assumption)) | (apply aw_cond_f; exact rfl; exact (by assumption)) | refine aw_skip ?_)
    | refine thn_n ?_
    | (refine hK _ _ _ ?_; clear hK K)
    | refine inb_n ?_)); all_goals (repeat (clear hK K)))
          all_goals (refine ⟨i + 1, mv 2 4, c1, by omega, ?_⟩; (try dsimp only); rw [hs1, ← hw]; dsimp only; rw [List.map_append]; exact ⟨by (repeat (refine ⟨by first | exact lk_i rfl rfl | exact lk_r rfl rfl rfl | exact lk_s rfl rfl rfl rfl, ?_⟩)); exact trivial, by (repeat (refine ⟨by first | exact ⟨rfl, rfl, rfl⟩, ?_⟩)); exact trivial, by rfl, by (intro i hi; (try dsimp only); refine ⟨?_, ?_⟩ <;> first | rfl | omega | (simp [mv]; omega))⟩)
    · have b1 : decide ((i : Int) < (((nbL ds).length : Nat) : Int)) = false := by rw [hnl]; simpa using c1
      obtain rfl : i = ds.length := by omega
      rw [hZ]
      dsimp only
      ((repeat' (first
    | (show SQ _ _ _ _ _ _ _ _; first | apply sq_nil | (apply q_move; exact rfl; exact rfl) | (apply q_assign; exact rfl; exact rfl) | (apply q_fieldAddr; exact rfl; exact rfl; exact (ty rfl); exact rfl; exact rfl; exact rfl; exact rfl) | (apply q_nilc; exact rfl; exact rfl; exact rfl) | (apply q_lend; exact rfl; exact rfl; exact (ty rfl); exact rfl) | (apply q_eql; exact rfl; exact rfl; exact rfl) | (apply q_lss; exact rfl; exact rfl; exact rfl) | (apply q_ld1p; exact rfl; exact rfl; exact (ty rfl); exact rfl; exact rfl; exact (by first | rfl | assumption | ((try simp only [Nat.zero_add]); refine List.getElem?_set_self ?_; (try simp only [List.length_set]); assumption)); exact rfl))
    | (show SQ _ _ _ _ _ _ _ _; (first | (apply q_buildn; exact rfl; exact (ty rfl); exact rfl; exact rfl; exact rfl; exact rfl; exact rfl; exact rfl; exact rfl) | (apply q_apo_s; exact rfl; exact rfl; exact rfl; exact (ty rfl); exact rfl; exact rfl; exact (by first | omega | (simp; done) | (simp; omega)); exact (by first | exact List.take_of_length_le (by first | omega | (simp; done) | (simp; omega)) | rfl); exact (ty rfl); exact rfl; exact rfl; exact (by first | omega | (simp; done) | (simp; omega)); exact (by first | exact dt_full (by first | omega | (simp; done) | (simp; omega)) | assumption | rfl); exact rfl; exact (by first | omega | (simp; done) | (simp; omega)); exact (by first | omega | (simp; done) | (simp; omega)); exact (by first | assumption | exact rfl)) | (apply q_callC; exact rfl; exact rfl; exact rfl; exact hp 0 _; (focus ((repeat (first | exact trivial | refine ⟨by first | exact rfl | assumption, ?_⟩)); done)); skip)); (try simp only [put, rowsOf, plR, List.all_cons, selE, ovr, setH, del, cellsA, splice, isV, List.nil_append, List.cons_append, List.map_cons, List.map_nil, List.length_cons, List.length_nil, List.set_cons_zero, List.set_cons_succ, List.take_succ_cons, List.take_zero, List.take_nil, List.drop_succ_cons, List.drop_zero, List.drop_nil, List.append_nil, List.all_cons, List.all_nil, Bool.and_true, Bool.true_and, Bool.and_false, Bool.false_and, Nat.reduceAdd, Nat.zero_add, Nat.add_zero, Nat.reduceEqDiff, if_true, if_false, reduceIte]))
    | (show AW _ _ _ _ _ _ _ _; first | refine aw_region ?_ | (refine aw_seqk ?_; intro K hK) | refine aw_block ?_ | (apply aw_cond_t; exact rfl; exact (by assumption)) | (apply aw_cond_f; exact rfl; exact (by assumption)) | refine aw_ret ?_ | refine aw_exit ?_)
    | refine thn_n ?_
    | (refine hK _ _ _ ?_; clear hK K)
    | refine thn_e ?_
    | refine inb_same ?_
    | refine inb_n ?_
    | (clear hK K; refine hK _ _ _ ?_; clear hK K))); all_goals (repeat (clear hK K)))
      all_goals exact finc (mv 2 4) (.r1 _ _ (.tmp _ _ rfl)) (by simp [renA, mv, g2]) (fun z hz => by (try simp at hz); simp [mv]; omega) ⟨rfl, rfl, by rw [List.map_append]; rfl, trivial⟩ rfl
  have b0 : (p == 0) = false := by simpa using c0
  by_cases c1' : p = 1
  · have b1' : (p == 1) = true := by simpa using c1'
    have a1 := among_rc 0 3 s1 [-1, 1000, 999] (by decide) (ok1.mono (by omega)) (by simp) (by simp)
    have ok2 := am_ok [-1, 1000, 999] ok1
    generalize am [-1, 1000, 999] s1 = A at *
    obtain ⟨v, s2⟩ := A
    dsimp only at a1 ok2
    simp only [nuR, List.map_cons, List.map_nil, List.length_cons, List.length_nil] at a1
    have hx0 : (xs.map inL)[0 + ((0 : Int)).toNat]? = some (inL (xs.getD 0 0)) := by simp [show 0 < xs.length by omega, List.getD]
    rw [inL_eq] at hx0
    have hset : (xs.set 0 v).map inL = (xs.map inL).set 0 [.v (.int .i64 v)] := List.map_set
    refine ⟨xs.set 0 v, s2, by rw [List.length_set, g2]; omega, by rw [List.length_set, g2]; omega, ok2.mono (by omega), fun j b c hbc => ?_⟩
    refine RC.ofc [b, c] 1 [.ptr 0 0 0, .ptr 1 0 0] [(0, ⟨109, 3, false, [srR s]⟩), (1, ⟨50, 2, false, [[.dsl 1 (nbL ds), .dsl 1 (nbL ap)]]⟩)] (.sl 2 0 (xs.set 0 v).length) [(0, some ⟨109, 3, false, [srR s2]⟩), (1, some ⟨50, 2, false, [[.dsl 1 (nbL ds), .dsl 1 (nbL ap)]]⟩), (2, some ⟨2, 1, true, (xs.set 0 v).map inL⟩)] Try.func72 Try.ntmps72 rfl (goFn_of Try.func72 rfl (by kernel_rfl)) rfl rfl rfl rfl rfl rfl rfl rfl (by simp_all) rfl ?_
    ((repeat' (first
    | (show SQ _ _ _ _ _ _ _ _; first | apply sq_nil | (apply q_assign; exact rfl; exact rfl))
    | (show SQ _ _ _ _ _ _ _ _; (first | (apply q_build0; exact rfl; exact (ty rfl); exact rfl)); (try simp only [put, rowsOf, plR, List.all_cons, selE, ovr, setH, del, cellsA, splice, isV, List.nil_append, List.cons_append, List.map_cons, List.map_nil, List.length_cons, List.length_nil, List.set_cons_zero, List.set_cons_succ, List.take_succ_cons, List.take_zero, List.take_nil, List.drop_succ_cons, List.drop_zero, List.drop_nil, List.append_nil, List.all_cons, List.all_nil, Bool.and_true, Bool.true_and, Bool.and_false, Bool.false_and, Nat.reduceAdd, Nat.zero_add, Nat.add_zero, Nat.reduceEqDiff, if_true, if_false, reduceIte]))
    | (show AW _ _ _ _ _ _ _ _; first | refine aw_region ?_ | (refine aw_seqk ?_; intro K hK) | refine aw_block ?_)
    | refine thn_n ?_
    | (refine hK _ _ _ ?_; clear hK K))); all_goals (repeat (clear hK K)))
    show AW _ _ 2 _ _ _ _ _
    refine aw_loop (ρ := id) (ι := Nat) (fun i => ([(6, .v (.int .i64 i)), (5, .sl 2 0 i), (1, .ptr 1 0 0), (0, .ptr 0 0 0)],
        [(0, ⟨109, 3, false, [srR (dsF ds s i).1]⟩), (1, ⟨50, 2, false, [[.dsl 1 (nbL ds), .dsl 1 (nbL ap)]]⟩), (2, ⟨2, 1, true, (dsF ds s i).2.map inL⟩)], 3))
      (fun i => i ≤ ds.length) (fun i => ds.length - i) 0 (Nat.zero_le _) ⟨by (repeat (refine ⟨by first | exact lk_i rfl rfl | exact lk_r rfl rfl rfl | exact lk_s rfl rfl rfl rfl, ?_⟩)); exact trivial, by (repeat (refine ⟨by first | exact ⟨rfl, rfl, rfl⟩, ?_⟩)); exact trivial, by rfl, by (intro i hi; (try dsimp only); refine ⟨?_, ?_⟩ <;> first | rfl | omega | (simp at hi; omega) | (simp; omega))⟩ ?_
    intro i hi
    obtain ⟨k1, k2⟩ := hD i
    have hml : ((dsF ds s i).2.map inL).length = i := by rw [List.length_map, k2]
    by_cases c1 : i < ds.length
    · have b1 : decide ((i : Int) < (((nbL ds).length : Nat) : Int)) = true := by rw [hnl]; simpa using c1
      have hw : IntKind.i64.wrap ((i : Int) + 1) = ((i + 1 : Nat) : Int) := by rw [IntWalk.i64_in _ (by omega)]; omega
      have hrow := nbL_get c1
      have hs1 := hS1 i
      have hg : ds.getD i [] = ds[i] := by simp [List.getD, c1]
      have hdi := hd _ (List.getElem_mem c1)
      rw [hg] at hs1
      generalize ds[i] = d at *
      generalize dsF ds s i = Z at *
      obtain ⟨si, xi⟩ := Z
      dsimp only at k1 hs1 hml k2 ⊢
      have hdm : (d.map inL).length = d.length := List.length_map _
      have r1 := fun id => pick_rc id si 10 (k1.mono (by omega)) (by omega)
      have k3 := pk_ok 10 k1
      have r2 := fun id => one_rc id (pk si 10).2 6 (k3.mono (by omega)) (by omega)
      have k4 := pk_ok 6 k3
      unfold stp at hs1
      generalize pk si 10 = P1 at *
      obtain ⟨c, si2⟩ := P1
      dsimp only at r1 r2 k4 hs1
      generalize pk si2 6 = P2 at *
      obtain ⟨o, si3⟩ := P2
      dsimp only at r2 k4 hs1
      cases e1 : (o == 0) with
      | true =>
        rw [e1] at r2
        rw [if_neg (by rw [e1]; simp)] at hs1
        ((repeat' (first
    | (show SQ _ _ _ _ _ _ _ _; first | apply sq_nil | (apply q_move; exact rfl; exact rfl) | (apply q_assign; exact rfl; exact rfl) | (apply q_pick_f; exact rfl; exact rfl; exact rfl; exact (by first | assumption | exact rfl)) | (apply q_fieldAddr; exact rfl; exact rfl; exact (ty rfl); exact rfl; exact rfl; exact rfl; exact rfl) | (apply q_nilc; exact rfl; exact rfl; exact rfl) | (apply q_not; exact rfl; exact rfl) | (apply q_lend; exact rfl; exact rfl; exact (ty rfl); exact rfl) | (apply q_add; exact rfl; exact rfl; exact rfl) | (apply q_lss; exact rfl; exact rfl; exact rfl) | (apply q_ld1p; exact rfl; exact rfl; exact (ty rfl); exact rfl; exact rfl; exact (by first | rfl | assumption | ((try simp only [Nat.zero_add]); refine List.getElem?_set_self ?_; (try simp only [List.length_set]); assumption)); exact rfl) | (apply q_s; exact rfl; exact rfl; exact rfl; exact rfl; exact rfl))
    | (show SQ _ _ _ _ _ _ _ _; (first | (apply q_buildn; exact rfl; exact (ty rfl); exact rfl; exact rfl; exact rfl; exact rfl; exact rfl; exact rfl; exact rfl) | (apply q_apo_s; exact rfl; exact rfl; exact rfl; exact (ty rfl); exact rfl; exact rfl; exact (by first | omega | (simp; done) | (simp; omega)); exact (by first | exact List.take_of_length_le (by first | omega | (simp; done) | (simp; omega)) | rfl); exact (ty rfl); exact rfl; exact rfl; exact (by first | omega | (simp; done) | (simp; omega)); exact (by first | exact dt_full (by first | omega | (simp; done) | (simp; omega)) | assumption | rfl); exact rfl; exact (by first | omega | (simp; done) | (simp; omega)); exact (by first | omega | (simp; done) | (simp; omega)); exact (by first | assumption | exact rfl)) | (apply q_callC; exact rfl; exact rfl; exact rfl; exact r1 0 _; (focus ((repeat (first | exact trivial | refine ⟨by first | exact rfl | assumption, ?_⟩)); done)); skip) | (apply q_callC; exact rfl; exact rfl; exact rfl; exact r2 0 _; (focus ((repeat (first | exact trivial | refine ⟨by first | exact rfl | assumption, ?_⟩)); done)); skip)); (try simp only [put, rowsOf, plR, List.all_cons, selE, ovr, setH, del, cellsA, splice, isV, List.nil_append, List.cons_append, List.map_cons, List.map_nil, List.length_cons, List.length_nil, List.set_cons_zero, List.set_cons_succ, List.take_succ_cons, List.take_zero, List.take_nil, List.drop_succ_cons, List.drop_zero, List.drop_nil, List.append_nil, List.all_cons, List.all_nil, Bool.and_true, Bool.true_and, Bool.and_false, Bool.false_and, Nat.reduceAdd, Nat.zero_add, Nat.add_zero, Nat.reduceEqDiff, if_true, if_false, reduceIte]))
    | (show AW _ _ _ _ _ _ _ _; first | refine aw_region ?_ | (refine aw_seqk ?_; intro K hK) | refine aw_block ?_ | (apply aw_cond_f; exact rfl; exact rfl) | (apply aw_cond_t; exact rfl; exact (by assumption)) | refine aw_skip ?_)
    | refine thn_n ?_
    | (refine hK _ _ _ ?_; clear hK K)
    | refine inb_n ?_)); all_goals (repeat (clear hK K)))
        all_goals (refine ⟨i + 1, mv 2 4, c1, by omega, ?_⟩; (try dsimp only); rw [hs1, ← hw]; dsimp only; rw [List.map_append]; exact ⟨by (repeat (refine ⟨by first | exact lk_i rfl rfl | exact lk_r rfl rfl rfl | exact lk_s rfl rfl rfl rfl, ?_⟩)); exact trivial, by (repeat (refine ⟨by first | exact ⟨rfl, rfl, rfl⟩, ?_⟩)); exact trivial, by rfl, by (intro i hi; (try dsimp only); refine ⟨?_, ?_⟩ <;> first | rfl | omega | (simp [mv]; omega))⟩)
      | false =>
        rw [e1] at r2
        by_cases e2 : 0 < d.length
        · have b2 : decide ((0 : Int) < (((d.map inL).length : Nat) : Int)) = true := by rw [hdm]; simpa using e2
          rw [if_pos ⟨e1, e2⟩] at hs1
          have hA := amongD_rc 0 si3 d (k4.mono (by omega)) (by omega) (by omega)
          generalize am d si3 = A at *
          obtain ⟨c', si4⟩ := A
          dsimp only at hs1 hA
          ((repeat' (first
    | (show SQ _ _ _ _ _ _ _ _; first | apply sq_nil | (apply q_move; exact rfl; exact rfl) | (apply q_assign; exact rfl; exact rfl) | (apply q_pick_t; exact rfl; exact rfl; exact rfl; exact (by first | assumption | exact rfl)) | (apply q_fieldAddr; exact rfl; exact rfl; exact (ty rfl); exact rfl; exact rfl; exact rfl; exact rfl) | (apply q_nilc; exact rfl; exact rfl; exact rfl) | (apply q_not; exact rfl; exact rfl) | (apply q_lend; exact rfl; exact rfl; exact (ty rfl); exact rfl) | (apply q_add; exact rfl; exact rfl; exact rfl) | (apply q_lss; exact rfl; exact rfl; exact rfl) | (apply q_gtr; exact rfl; exact rfl; exact rfl) | (apply q_ixd; exact rfl; exact rfl; exact rfl; exact (ty rfl); exact rfl; exact (by first | omega | (simp; done) | (simp; omega)); exact (by first | omega | (simp; done) | (simp; omega)); exact (by first | rfl | assumption)) | (apply q_ld1d; exact rfl; exact rfl; exact (ty rfl); exact rfl; exact rfl) | (apply q_ld1p; exact rfl; exact rfl; exact (ty rfl); exact rfl; exact rfl; exact (by first | rfl | assumption | ((try simp only [Nat.zero_add]); refine List.getElem?_set_self ?_; (try simp only [List.length_set]); assumption)); exact rfl) | (apply q_g; exact rfl; exact rfl; exact rfl; exact rfl))
    | (show SQ _ _ _ _ _ _ _ _; (first | (apply q_buildn; exact rfl; exact (ty rfl); exact rfl; exact rfl; exact rfl; exact rfl; exact rfl; exact rfl; exact rfl) | (apply q_apo_s; exact rfl; exact rfl; exact rfl; exact (ty rfl); exact rfl; exact rfl; exact (by first | omega | (simp; done) | (simp; omega)); exact (by first | exact List.take_of_length_le (by first | omega | (simp; done) | (simp; omega)) | rfl); exact (ty rfl); exact rfl; exact rfl; exact (by first | omega | (simp; done) | (simp; omega)); exact (by first | exact dt_full (by first | omega | (simp; done) | (simp; omega)) | assumption | rfl); exact rfl; exact (by first | omega | (simp; done) | (simp; omega)); exact (by first | omega | (simp; done) | (simp; omega)); exact (by first | assumption | exact rfl)) | (apply q_callC; exact rfl; exact rfl; exact rfl; exact r1 0 _; (focus ((repeat (first | exact trivial | refine ⟨by first | exact rfl | assumption, ?_⟩)); done)); skip) | (apply q_callC; exact rfl; exact rfl; exact rfl; exact r2 0 _; (focus ((repeat (first | exact trivial | refine ⟨by first | exact rfl | assumption, ?_⟩)); done)); skip) | (apply q_callC; exact rfl; exact rfl; exact rfl; exact hA _; (focus ((repeat (first | exact trivial | refine ⟨by first | exact rfl | assumption, ?_⟩)); done)); skip)); (try simp only [put, rowsOf, plR, List.all_cons, selE, ovr, setH, del, cellsA, splice, isV, List.nil_append, List.cons_append, List.map_cons, List.map_nil, List.length_cons, List.length_nil, List.set_cons_zero, List.set_cons_succ, List.take_succ_cons, List.take_zero, List.take_nil, List.drop_succ_cons, List.drop_zero, List.drop_nil, List.append_nil, List.all_cons, List.all_nil, Bool.and_true, Bool.true_and, Bool.and_false, Bool.false_and, Nat.reduceAdd, Nat.zero_add, Nat.add_zero, Nat.reduceEqDiff, if_true, if_false, reduceIte]))
    | (show AW _ _ _ _ _ _ _ _; first | refine aw_region ?_ | (refine aw_seqk ?_; intro K hK) | refine aw_block ?_ | (apply aw_cond_t; exact rfl; exact (by assumption)) | refine aw_skip ?_)
    | refine thn_n ?_
    | (refine hK _ _ _ ?_; clear hK K)
    | refine inb_n ?_)); all_goals (repeat (clear hK K)))
          all_goals (refine ⟨i + 1, mv 2 4, c1, by omega, ?_⟩; (try dsimp only); rw [hs1, ← hw]; dsimp only; rw [List.map_append]; exact ⟨by (repeat (refine ⟨by first | exact lk_i rfl rfl | exact lk_r rfl rfl rfl | exact lk_s rfl rfl rfl rfl, ?_⟩)); exact trivial, by (repeat (refine ⟨by first | exact ⟨rfl, rfl, rfl⟩, ?_⟩)); exact trivial, by rfl, by (intro i hi; (try dsimp only); refine ⟨?_, ?_⟩ <;> first | rfl | omega | (simp [mv]; omega))⟩)
        · have b2 : decide ((0 : Int) < (((d.map inL).length : Nat) : Int)) = false := by rw [hdm]; simpa using e2
          rw [if_neg (fun h => e2 h.2)] at hs1
          ((repeat' (first
    | (show SQ _ _ _ _ _ _ _ _; first | apply sq_nil | (apply q_move; exact rfl; exact rfl) | (apply q_assign; exact rfl; exact rfl) | (apply q_pick_t; exact rfl; exact rfl; exact rfl; exact (by first | assumption | exact rfl)) | (apply q_fieldAddr; exact rfl; exact rfl; exact (ty rfl); exact rfl; exact rfl; exact rfl; exact rfl) | (apply q_nilc; exact rfl; exact rfl; exact rfl) | (apply q_not; exact rfl; exact rfl) | (apply q_lend; exact rfl; exact rfl; exact (ty rfl); exact rfl) | (apply q_add; exact rfl; exact rfl; exact rfl) | (apply q_lss; exact rfl; exact rfl; exact rfl) | (apply q_gtr; exact rfl; exact rfl; exact rfl) | (apply q_ixd; exact rfl; exact rfl; exact rfl; exact (ty rfl); exact rfl; exact (by first | omega | (simp; done) | (simp; omega)); exact (by first | omega | (simp; done) | (simp; omega)); exact (by first | rfl | assumption)) | (apply q_ld1d; exact rfl; exact rfl; exact (ty rfl); exact rfl; exact rfl) | (apply q_ld1p; exact rfl; exact rfl; exact (ty rfl); exact rfl; exact rfl; exact (by first | rfl | assumption | ((try simp only [Nat.zero_add]); refine List.getElem?_set_self ?_; (try simp only [List.length_set]); assumption)); exact rfl) | (apply q_g; exact rfl; exact rfl; exact rfl; exact rfl))
    | (show SQ _ _ _ _ _ _ _ _; (first | (apply q_buildn; exact rfl; exact (ty rfl); exact rfl; exact rfl; exact rfl; exact rfl; exact rfl; exact rfl; exact rfl) | (apply q_apo_s; exact rfl; exact rfl; exact rfl; exact (ty rfl); exact rfl; exact rfl; exact (by first | omega | (simp; done) | (simp; omega)); exact (by first | exact List.take_of_length_le (by first | omega | (simp; done) | (simp; omega)) | rfl); exact (ty rfl); exact rfl; exact rfl; exact (by first | omega | (simp; done) | (simp; omega)); exact (by first | exact dt_full (by first | omega | (simp; done) | (simp; omega)) | assumption | rfl); exact rfl; exact (by first | omega | (simp; done) | (simp; omega)); exact (by first | omega | (simp; done) | (simp; omega)); exact (by first | assumption | exact rfl)) | (apply q_callC; exact rfl; exact rfl; exact rfl; exact r1 0 _; (focus ((repeat (first | exact trivial | refine ⟨by first | exact rfl | assumption, ?_⟩)); done)); skip) | (apply q_callC; exact rfl; exact rfl; exact rfl; exact r2 0 _; (focus ((repeat (first | exact trivial | refine ⟨by first | exact rfl | assumption, ?_⟩)); done)); skip)); (try simp only [put, rowsOf, plR, List.all_cons, selE, ovr, setH, del, cellsA, splice, isV, List.nil_append, List.cons_append, List.map_cons, List.map_nil, List.length_cons, List.length_nil, List.set_cons_zero, List.set_cons_succ, List.take_succ_cons, List.take_zero, List.take_nil, List.drop_succ_cons, List.drop_zero, List.drop_nil, List.append_nil, List.all_cons, List.all_nil, Bool.and_true, Bool.true_and, Bool.and_false, Bool.false_and, Nat.reduceAdd, Nat.zero_add, Nat.add_zero, Nat.reduceEqDiff, if_true, if_false, reduceIte]))
    | (show AW _ _ _ _ _ _ _ _; first | refine aw_region ?_ | (refine aw_seqk ?_; intro K hK) | refine aw_block ?_ | (apply aw_cond_t; exact rfl; exact (by assumption)) | (apply aw_cond_f; exact rfl; exact (by assumption)) | refine aw_skip ?_)
    | refine thn_n ?_
    | (refine hK _ _ _ ?_; clear hK K)
    | refine inb_n ?_)); all_goals (repeat (clear hK K)))
          all_goals (refine ⟨i + 1, mv 2 4, c1, by omega, ?_⟩; (try dsimp only); rw [hs1, ← hw]; dsimp only; rw [List.map_append]; exact ⟨by (repeat (refine ⟨by first | exact lk_i rfl rfl | exact lk_r rfl rfl rfl | exact lk_s rfl rfl rfl rfl, ?_⟩)); exact trivial, by (repeat (refine ⟨by first | exact ⟨rfl, rfl, rfl⟩, ?_⟩)); exact trivial, by rfl, by (intro i hi; (try dsimp only); refine ⟨?_, ?_⟩ <;> first | rfl | omega | (simp [mv]; omega))⟩)
    · have b1 : decide ((i : Int) < (((nbL ds).length : Nat) : Int)) = false := by rw [hnl]; simpa using c1
      obtain rfl : i = ds.length := by omega
      rw [hZ]
      dsimp only
      ((repeat' (first
    | (show SQ _ _ _ _ _ _ _ _; first | apply sq_nil | (apply q_move; exact rfl; exact rfl) | (apply q_assign; exact rfl; exact rfl) | (apply q_fieldAddr; exact rfl; exact rfl; exact (ty rfl); exact rfl; exact rfl; exact rfl; exact rfl) | (apply q_nilc; exact rfl; exact rfl; exact rfl) | (apply q_lend; exact rfl; exact rfl; exact (ty rfl); exact rfl) | (apply q_eql; exact rfl; exact rfl; exact rfl) | (apply q_lss; exact rfl; exact rfl; exact rfl) | (apply q_ixl; exact rfl; exact rfl; exact rfl; exact (ty rfl); exact rfl; exact rfl; exact rfl; exact (by first | omega | (simp; done) | (simp; omega)); exact (by first | omega | (simp; done) | (simp; omega))) | (apply q_ld1p; exact rfl; exact rfl; exact (ty rfl); exact rfl; exact rfl; exact (by first | rfl | assumption | ((try simp only [Nat.zero_add]); refine List.getElem?_set_self ?_; (try simp only [List.length_set]); assumption)); exact rfl))
    | (show SQ _ _ _ _ _ _ _ _; (first | (apply q_store; exact rfl; exact rfl; exact (ty rfl); exact rfl; exact (by first | rfl | assumption | ((try simp only [Nat.zero_add]); refine List.getElem?_set_self ?_; (try simp only [List.length_set]); assumption)); exact rfl; exact rfl; exact rfl) | (apply q_buildn; exact rfl; exact (ty rfl); exact rfl; exact rfl; exact rfl; exact rfl; exact rfl; exact rfl; exact rfl) | (apply q_callC; exact rfl; exact rfl; exact rfl; exact hp 0 _; (focus ((repeat (first | exact trivial | refine ⟨by first | exact rfl | assumption, ?_⟩)); done)); skip) | (apply q_callC; exact rfl; exact rfl; exact rfl; exact a1 _; (focus ((repeat (first | exact trivial | refine ⟨by first | exact rfl | assumption, ?_⟩)); done)); skip)); (try simp only [put, rowsOf, plR, List.all_cons, selE, ovr, setH, del, cellsA, splice, isV, List.nil_append, List.cons_append, List.map_cons, List.map_nil, List.length_cons, List.length_nil, List.set_cons_zero, List.set_cons_succ, List.take_succ_cons, List.take_zero, List.take_nil, List.drop_succ_cons, List.drop_zero, List.drop_nil, List.append_nil, List.all_cons, List.all_nil, Bool.and_true, Bool.true_and, Bool.and_false, Bool.false_and, Nat.reduceAdd, Nat.zero_add, Nat.add_zero, Nat.reduceEqDiff, if_true, if_false, reduceIte]))
    | (show AW _ _ _ _ _ _ _ _; first | refine aw_region ?_ | (refine aw_seqk ?_; intro K hK) | refine aw_block ?_ | (apply aw_cond_t; exact rfl; exact (by assumption)) | (apply aw_cond_f; exact rfl; exact (by assumption)) | refine aw_ret ?_ | refine aw_exit ?_)
    | refine thn_n ?_
    | (refine hK _ _ _ ?_; clear hK K)
    | refine thn_e ?_
    | refine inb_same ?_
    | refine inb_n ?_
    | (clear hK K; refine hK _ _ _ ?_; clear hK K))); all_goals (repeat (clear hK K)))
      all_goals exact finc id (.r1 _ _ (.tmp _ _ rfl)) (by rw [List.length_set, g2]; rfl) (fun z hz => rfl) ⟨rfl, rfl, by rw [hset]; rfl, trivial⟩ rfl
  have b1' : (p == 1) = false := by simpa using c1'
  · refine ⟨xs, s1, by omega, by omega, ok1.mono (by omega), fun j b c hbc => ?_⟩
    refine RC.ofc [b, c] 1 [.ptr 0 0 0, .ptr 1 0 0] [(0, ⟨109, 3, false, [srR s]⟩), (1, ⟨50, 2, false, [[.dsl 1 (nbL ds), .dsl 1 (nbL ap)]]⟩)] (.sl 2 0 (xs).length) [(0, some ⟨109, 3, false, [srR s1]⟩), (1, some ⟨50, 2, false, [[.dsl 1 (nbL ds), .dsl 1 (nbL ap)]]⟩), (2, some ⟨2, 1, true, (xs).map inL⟩)] Try.func72 Try.ntmps72 rfl (goFn_of Try.func72 rfl (by kernel_rfl)) rfl rfl rfl rfl rfl rfl rfl rfl (by simp_all) rfl ?_
    ((repeat' (first
    | (show SQ _ _ _ _ _ _ _ _; first | apply sq_nil | (apply q_assign; exact rfl; exact rfl))
    | (show SQ _ _ _ _ _ _ _ _; (first | (apply q_build0; exact rfl; exact (ty rfl); exact rfl)); (try simp only [put, rowsOf, plR, List.all_cons, selE, ovr, setH, del, cellsA, splice, isV, List.nil_append, List.cons_append, List.map_cons, List.map_nil, List.length_cons, List.length_nil, List.set_cons_zero, List.set_cons_succ, List.take_succ_cons, List.take_zero, List.take_nil, List.drop_succ_cons, List.drop_zero, List.drop_nil, List.append_nil, List.all_cons, List.all_nil, Bool.and_true, Bool.true_and, Bool.and_false, Bool.false_and, Nat.reduceAdd, Nat.zero_add, Nat.add_zero, Nat.reduceEqDiff, if_true, if_false, reduceIte]))
    | (show AW _ _ _ _ _ _ _ _; first | refine aw_region ?_ | (refine aw_seqk ?_; intro K hK) | refine aw_block ?_)
    | refine thn_n ?_
    | (refine hK _ _ _ ?_; clear hK K))); all_goals (repeat (clear hK K)))
    show AW _ _ 2 _ _ _ _ _
    refine aw_loop (ρ := id) (ι := Nat) (fun i => ([(6, .v (.int .i64 i)), (5, .sl 2 0 i), (1, .ptr 1 0 0), (0, .ptr 0 0 0)],
        [(0, ⟨109, 3, false, [srR (dsF ds s i).1]⟩), (1, ⟨50, 2, false, [[.dsl 1 (nbL ds), .dsl 1 (nbL ap)]]⟩), (2, ⟨2, 1, true, (dsF ds s i).2.map inL⟩)], 3))
      (fun i => i ≤ ds.length) (fun i => ds.length - i) 0 (Nat.zero_le _) ⟨by (repeat (refine ⟨by first | exact lk_i rfl rfl | exact lk_r rfl rfl rfl | exact lk_s rfl rfl rfl rfl, ?_⟩)); exact trivial, by (repeat (refine ⟨by first | exact ⟨rfl, rfl, rfl⟩, ?_⟩)); exact trivial, by rfl, by (intro i hi; (try dsimp only); refine ⟨?_, ?_⟩ <;> first | rfl | omega | (simp at hi; omega) | (simp; omega))⟩ ?_
    intro i hi
    obtain ⟨k1, k2⟩ := hD i
    have hml : ((dsF ds s i).2.map inL).length = i := by rw [List.length_map, k2]
    by_cases c1 : i < ds.length
    · have b1 : decide ((i : Int) < (((nbL ds).length : Nat) : Int)) = true := by rw [hnl]; simpa using c1
      have hw : IntKind.i64.wrap ((i : Int) + 1) = ((i + 1 : Nat) : Int) := by rw [IntWalk.i64_in _ (by omega)]; omega
      have hrow := nbL_get c1
      have hs1 := hS1 i
      have hg : ds.getD i [] = ds[i] := by simp [List.getD, c1]
      have hdi := hd _ (List.getElem_mem c1)
      rw [hg] at hs1
      generalize ds[i] = d at *
      generalize dsF ds s i = Z at *
      obtain ⟨si, xi⟩ := Z
      dsimp only at k1 hs1 hml k2 ⊢
      have hdm : (d.map inL).length = d.length := List.length_map _
      have r1 := fun id => pick_rc id si 10 (k1.mono (by omega)) (by omega)
      have k3 := pk_ok 10 k1
      have r2 := fun id => one_rc id (pk si 10).2 6 (k3.mono (by omega)) (by omega)
      have k4 := pk_ok 6 k3
      unfold stp at hs1
      generalize pk si 10 = P1 at *
      obtain ⟨c, si2⟩ := P1
      dsimp only at r1 r2 k4 hs1
      generalize pk si2 6 = P2 at *
      obtain ⟨o, si3⟩ := P2
      dsimp only at r2 k4 hs1
      cases e1 : (o == 0) with
      | true =>
        rw [e1] at r2
        rw [if_neg (by rw [e1]; simp)] at hs1
        ((repeat' (first
    | (show SQ _ _ _ _ _ _ _ _; first | apply sq_nil | (apply q_move; exact rfl; exact rfl) | (apply q_assign; exact rfl; exact rfl) | (apply q_pick_f; exact rfl; exact rfl; exact rfl; exact (by first | assumption | exact rfl)) | (apply q_fieldAddr; exact rfl; exact rfl; exact (ty rfl); exact rfl; exact rfl; exact rfl; exact rfl) | (apply q_nilc; exact rfl; exact rfl; exact rfl) | (apply q_not; exact rfl; exact rfl) | (apply q_lend; exact rfl; exact rfl; exact (ty rfl); exact rfl) | (apply q_add; exact rfl; exact rfl; exact rfl) | (apply q_lss; exact rfl; exact rfl; exact rfl) | (apply q_ld1p; exact rfl; exact rfl; exact (ty rfl); exact rfl; exact rfl; exact (by first | rfl | assumption | ((try simp only [Nat.zero_add]); refine List.getElem?_set_self ?_; (try simp only [List.length_set]); assumption)); exact rfl) | (apply q_s; exact rfl; exact rfl; exact rfl; exact rfl; exact rfl))
    | (show SQ _ _ _ _ _ _ _ _; (first | (apply q_buildn; exact rfl; exact (ty rfl); exact rfl; exact rfl; exact rfl; exact rfl; exact rfl; exact rfl; exact rfl) | (apply q_apo_s; exact rfl; exact rfl; exact rfl; exact (ty rfl); exact rfl; exact rfl; exact (by first | omega | (simp; done) | (simp; omega)); exact (by first | exact List.take_of_length_le (by first | omega | (simp; done) | (simp; omega)) | rfl); exact (ty rfl); exact rfl; exact rfl; exact (by first | omega | (simp; done) | (simp; omega)); exact (by first | exact dt_full (by first | omega | (simp; done) | (simp; omega)) | assumption | rfl); exact rfl; exact (by first | omega | (simp; done) | (simp; omega)); exact (by first | omega | (simp; done) | (simp; omega)); exact (by first | assumption | exact rfl)) | (apply q_callC; exact rfl; exact rfl; exact rfl; exact r1 0 _; (focus ((repeat (first | exact trivial | refine ⟨by first | exact rfl | assumption, ?_⟩)); done)); skip) | (apply q_callC; exact rfl; exact rfl; exact rfl; exact r2 0 _; (focus ((repeat (first | exact trivial | refine ⟨by first | exact rfl | assumption, ?_⟩)); done)); skip)); (try simp only [put, rowsOf, plR, List.all_cons, selE, ovr, setH, del, cellsA, splice, isV, List.nil_append, List.cons_append, List.map_cons, List.map_nil, List.length_cons, List.length_nil, List.set_cons_zero, List.set_cons_succ, List.take_succ_cons, List.take_zero, List.take_nil, List.drop_succ_cons, List.drop_zero, List.drop_nil, List.append_nil, List.all_cons, List.all_nil, Bool.and_true, Bool.true_and, Bool.and_false, Bool.false_and, Nat.reduceAdd, Nat.zero_add, Nat.add_zero, Nat.reduceEqDiff, if_true, if_false, reduceIte]))
    | (show AW _ _ _ _ _ _ _ _; first | refine aw_region ?_ | (refine aw_seqk ?_; intro K hK) | refine aw_block ?_ | (apply aw_cond_f; exact rfl; exact rfl) | (apply aw_cond_t; exact rfl; exact (by assumption)) | refine aw_skip ?_)
    | refine thn_n ?_
    | (refine hK _ _ _ ?_; clear hK K)
    | refine inb_n ?_)); all_goals (repeat (clear hK K)))
        all_goals (refine ⟨i + 1, mv 2 4, c1, by omega, ?_⟩; (try dsimp only); rw [hs1, ← hw]; dsimp only; rw [List.map_append]; exact ⟨by (repeat (refine ⟨by first | exact lk_i rfl rfl | exact lk_r rfl rfl rfl | exact lk_s rfl rfl rfl rfl, ?_⟩)); exact trivial, by (repeat (refine ⟨by first | exact ⟨rfl, rfl, rfl⟩, ?_⟩)); exact trivial, by rfl, by (intro i hi; (try dsimp only); refine ⟨?_, ?_⟩ <;> first | rfl | omega | (simp [mv]; omega))⟩)
      | false =>
        rw [e1] at r2
        by_cases e2 : 0 < d.length
        · have b2 : decide ((0 : Int) < (((d.map inL).length : Nat) : Int)) = true := by rw [hdm]; simpa using e2
          rw [if_pos ⟨e1, e2⟩] at hs1
          have hA := amongD_rc 0 si3 d (k4.mono (by omega)) (by omega) (by omega)
          generalize am d si3 = A at *
          obtain ⟨c', si4⟩ := A
          dsimp only at hs1 hA
          ((repeat' (first
    | (show SQ _ _ _ _ _ _ _ _; first | apply sq_nil | (apply q_move; exact rfl; exact rfl) | (apply q_assign; exact rfl; exact rfl) | (apply q_pick_t; exact rfl; exact rfl; exact rfl; exact (by first | assumption | exact rfl)) | (apply q_fieldAddr; exact rfl; exact rfl; exact (ty rfl); exact rfl; exact rfl; exact rfl; exact rfl) | (apply q_nilc; exact rfl; exact rfl; exact rfl) | (apply q_not; exact rfl; exact rfl) | (apply q_lend; exact rfl; exact rfl; exact (ty rfl); exact rfl) | (apply q_add; exact rfl; exact rfl; exact rfl) | (apply q_lss; exact rfl; exact rfl; exact rfl) | (apply q_gtr; exact rfl; exact rfl; exact rfl) | (apply q_ixd; exact rfl; exact rfl; exact rfl; exact (ty rfl); exact rfl; exact (by first | omega | (simp; done) | (simp; omega)); exact (by first | omega | (simp; done) | (simp; omega)); exact (by first | rfl | assumption)) | (apply q_ld1d; exact rfl; exact rfl; exact (ty rfl); exact rfl; exact rfl) | (apply q_ld1p; exact rfl; exact rfl; exact (ty rfl); exact rfl; exact rfl; exact (by first | rfl | assumption | ((try simp only [Nat.zero_add]); refine List.getElem?_set_self ?_; (try simp only [List.length_set]); assumption)); exact rfl) | (apply q_g; exact rfl; exact rfl; exact rfl; exact rfl))
    | (show SQ _ _ _ _ _ _ _ _; (first | (apply q_buildn; exact rfl; exact (ty rfl); exact rfl; exact rfl; exact rfl; exact rfl; exact rfl; exact rfl; exact rfl) | (apply q_apo_s; exact rfl; exact rfl; exact rfl; exact (ty rfl); exact rfl; exact rfl; exact (by first | omega | (simp; done) | (simp; omega)); exact (by first | exact List.take_of_length_le (by first | omega | (simp; done) | (simp; omega)) | rfl); exact (ty rfl); exact rfl; exact rfl; exact (by first | omega | (simp; done) | (simp; omega)); exact (by first | exact dt_full (by first | omega | (simp; done) | (simp; omega)) | assumption | rfl); exact rfl; exact (by first | omega | (simp; done) | (simp; omega)); exact (by first | omega | (simp; done) | (simp; omega)); exact (by first | assumption | exact rfl)) | (apply q_callC; exact rfl; exact rfl; exact rfl; exact r1 0 _; (focus ((repeat (first | exact trivial | refine ⟨by first | exact rfl | assumption, ?_⟩)); done)); skip) | (apply q_callC; exact rfl; exact rfl; exact rfl; exact r2 0 _; (focus ((repeat (first | exact trivial | refine ⟨by first | exact rfl | assumption, ?_⟩)); done)); skip) | (apply q_callC; exact rfl; exact rfl; exact rfl; exact hA _; (focus ((repeat (first | exact trivial | refine ⟨by first | exact rfl | assumption, ?_⟩)); done)); skip)); (try simp only [put, rowsOf, plR, List.all_cons, selE, ovr, setH, del, cellsA, splice, isV, List.nil_append, List.cons_append, List.map_cons, List.map_nil, List.length_cons, List.length_nil, List.set_cons_zero, List.set_cons_succ, List.take_succ_cons, List.take_zero, List.take_nil, List.drop_succ_cons, List.drop_zero, List.drop_nil, List.append_nil, List.all_cons, List.all_nil, Bool.and_true, Bool.true_and, Bool.and_false, Bool.false_and, Nat.reduceAdd, Nat.zero_add, Nat.add_zero, Nat.reduceEqDiff, if_true, if_false, reduceIte]))
    | (show AW _ _ _ _ _ _ _ _; first | refine aw_region ?_ | (refine aw_seqk ?_; intro K hK) | refine aw_block ?_ | (apply aw_cond_t; exact rfl; exact (by assumption)) | refine aw_skip ?_)
    | refine thn_n ?_
    | (refine hK _ _ _ ?_; clear hK K)
    | refine inb_n ?_)); all_goals (repeat (clear hK K)))
          all_goals (refine ⟨i + 1, mv 2 4, c1, by omega, ?_⟩; (try dsimp only); rw [hs1, ← hw]; dsimp only; rw [List.map_append]; exact ⟨by (repeat (refine ⟨by first | exact lk_i rfl rfl | exact lk_r rfl rfl rfl | exact lk_s rfl rfl rfl rfl, ?_⟩)); exact trivial, by (repeat (refine ⟨by first | exact ⟨rfl, rfl, rfl⟩, ?_⟩)); exact trivial, by rfl, by (intro i hi; (try dsimp only); refine ⟨?_, ?_⟩ <;> first | rfl | omega | (simp [mv]; omega))⟩)
        · have b2 : decide ((0 : Int) < (((d.map inL).length : Nat) : Int)) = false := by rw [hdm]; simpa using e2
          rw [if_neg (fun h => e2 h.2)] at hs1
          ((repeat' (first
    | (show SQ _ _ _ _ _ _ _ _; first | apply sq_nil | (apply q_move; exact rfl; exact rfl) | (apply q_assign; exact rfl; exact rfl) | (apply q_pick_t; exact rfl; exact rfl; exact rfl; exact (by first | assumption | exact rfl)) | (apply q_fieldAddr; exact rfl; exact rfl; exact (ty rfl); exact rfl; exact rfl; exact rfl; exact rfl) | (apply q_nilc; exact rfl; exact rfl; exact rfl) | (apply q_not; exact rfl; exact rfl) | (apply q_lend; exact rfl; exact rfl; exact (ty rfl); exact rfl) | (apply q_add; exact rfl; exact rfl; exact rfl) | (apply q_lss; exact rfl; exact rfl; exact rfl) | (apply q_gtr; exact rfl; exact rfl; exact rfl) | (apply q_ixd; exact rfl; exact rfl; exact rfl; exact (ty rfl); exact rfl; exact (by first | omega | (simp; done) | (simp; omega)); exact (by first | omega | (simp; done) | (simp; omega)); exact (by first | rfl | assumption)) | (apply q_ld1d; exact rfl; exact rfl; exact (ty rfl); exact rfl; exact rfl) | (apply q_ld1p; exact rfl; exact rfl; exact (ty rfl); exact rfl; exact rfl; exact (by first | rfl | assumption | ((try simp only [Nat.zero_add]); refine List.getElem?_set_self ?_; (try simp only [List.length_set]); assumption)); exact rfl) | (apply q_g; exact rfl; exact rfl; exact rfl; exact rfl))
    | (show SQ _ _ _ _ _ _ _ _; (first | (apply q_buildn; exact rfl; exact (ty rfl); exact rfl; exact rfl; exact rfl; exact rfl; exact rfl; exact rfl; exact rfl) | (apply q_apo_s; exact rfl; exact rfl; exact rfl; exact (ty rfl); exact rfl; exact rfl; exact (by first | omega | (simp; done) | (simp; omega)); exact (by first | exact List.take_of_length_le (by first | omega | (simp; done) | (simp; omega)) | rfl); exact (ty rfl); exact rfl; exact rfl; exact (by first | omega | (simp; done) | (simp; omega)); exact (by first | exact dt_full (by first | omega | (simp; done) | (simp; omega)) | assumption | rfl); exact rfl; exact (by first | omega | (simp; done) | (simp; omega)); exact (by first | omega | (simp; done) | (simp; omega)); exact (by first | assumption | exact rfl)) | (apply q_callC; exact rfl; exact rfl; exact rfl; exact r1 0 _; (focus ((repeat (first | exact trivial | refine ⟨by first | exact rfl | assumption, ?_⟩)); done)); skip) | (apply q_callC; exact rfl; exact rfl; exact rfl; exact r2 0 _; (focus ((repeat (first | exact trivial | refine ⟨by first | exact rfl | assumption, ?_⟩)); done)); skip)); (try simp only [put, rowsOf, plR, List.all_cons, selE, ovr, setH, del, cellsA, splice, isV, List.nil_append, List.cons_append, List.map_cons, List.map_nil, List.length_cons, List.length_nil, List.set_cons_zero, List.set_cons_succ, List.take_succ_cons, List.take_zero, List.take_nil, List.drop_succ_cons, List.drop_zero, List.drop_nil, List.append_nil, List.all_cons, List.all_nil, Bool.and_true, Bool.true_and, Bool.and_false, Bool.false_and, Nat.reduceAdd, Nat.zero_add, Nat.add_zero, Nat.reduceEqDiff, if_true, if_false, reduceIte]))
    | (show AW _ _ _ _ _ _ _ _; first | refine aw_region ?_ | (refine aw_seqk ?_; intro K hK) | refine aw_block ?_ | (apply aw_cond_t; exact rfl; exact (by assumption)) | (apply aw_cond_f; exact rfl; exact (by assumption)) | refine aw_skip ?_)
    | refine thn_n ?_
    | (refine hK _ _ _ ?_; clear hK K)
    | refine inb_n ?_)); all_goals (repeat (clear hK K)))
          all_goals (refine ⟨i + 1, mv 2 4, c1, by omega, ?_⟩; (try dsimp only); rw [hs1, ← hw]; dsimp only; rw [List.map_append]; exact ⟨by (repeat (refine ⟨by first | exact lk_i rfl rfl | exact lk_r rfl rfl rfl | exact lk_s rfl rfl rfl rfl, ?_⟩)); exact trivial, by (repeat (refine ⟨by first | exact ⟨rfl, rfl, rfl⟩, ?_⟩)); exact trivial, by rfl, by (intro i hi; (try dsimp only); refine ⟨?_, ?_⟩ <;> first | rfl | omega | (simp [mv]; omega))⟩)
    · have b1 : decide ((i : Int) < (((nbL ds).length : Nat) : Int)) = false := by rw [hnl]; simpa using c1
      obtain rfl : i = ds.length := by omega
      rw [hZ]
      dsimp only
      ((repeat' (first
    | (show SQ _ _ _ _ _ _ _ _; first | apply sq_nil | (apply q_move; exact rfl; exact rfl) | (apply q_assign; exact rfl; exact rfl) | (apply q_fieldAddr; exact rfl; exact rfl; exact (ty rfl); exact rfl; exact rfl; exact rfl; exact rfl) | (apply q_nilc; exact rfl; exact rfl; exact rfl) | (apply q_lend; exact rfl; exact rfl; exact (ty rfl); exact rfl) | (apply q_eql; exact rfl; exact rfl; exact rfl) | (apply q_lss; exact rfl; exact rfl; exact rfl) | (apply q_ld1p; exact rfl; exact rfl; exact (ty rfl); exact rfl; exact rfl; exact (by first | rfl | assumption | ((try simp only [Nat.zero_add]); refine List.getElem?_set_self ?_; (try simp only [List.length_set]); assumption)); exact rfl))
    | (show SQ _ _ _ _ _ _ _ _; (first | (apply q_callC; exact rfl; exact rfl; exact rfl; exact hp 0 _; (focus ((repeat (first | exact trivial | refine ⟨by first | exact rfl | assumption, ?_⟩)); done)); skip)); (try simp only [put, rowsOf, plR, List.all_cons, selE, ovr, setH, del, cellsA, splice, isV, List.nil_append, List.cons_append, List.map_cons, List.map_nil, List.length_cons, List.length_nil, List.set_cons_zero, List.set_cons_succ, List.take_succ_cons, List.take_zero, List.take_nil, List.drop_succ_cons, List.drop_zero, List.drop_nil, List.append_nil, List.all_cons, List.all_nil, Bool.and_true, Bool.true_and, Bool.and_false, Bool.false_and, Nat.reduceAdd, Nat.zero_add, Nat.add_zero, Nat.reduceEqDiff, if_true, if_false, reduceIte]))
    | (show AW _ _ _ _ _ _ _ _; first | refine aw_region ?_ | (refine aw_seqk ?_; intro K hK) | refine aw_block ?_ | (apply aw_cond_f; exact rfl; exact (by assumption)) | refine aw_ret ?_ | refine aw_exit ?_ | refine aw_skip ?_)
    | refine thn_n ?_
    | (refine hK _ _ _ ?_; clear hK K)
    | refine thn_e ?_
    | refine inb_same ?_
    | refine inb_n ?_
    | (clear hK K; refine hK _ _ _ ?_; clear hK K))); all_goals (repeat (clear hK K)))
      all_goals exact finc id (.r1 _ _ (.tmp _ _ rfl)) (by rw [g2]; rfl) (fun z hz => rfl) ⟨rfl, rfl, rfl, trivial⟩ rfl
end Go.Proofs.Yteknfaldpajlpaa.Nb

namespace Go.Proofs.Yteknfaldpajlpaa.Nb
open Go Go.RowKit Go.Proofs.Yteknfaldpajlpaa.Aw Go.Proofs.Yteknfaldpajlpaa.In Go.Proofs.Yteknfaldpajlpaa.Il Go.Proofs.Yteknfaldpajlpaa.Sr
set_option linter.unusedSimpArgs false
set_option linter.unusedVariables false
set_option linter.unusedSectionVars false
attribute [local irreducible] AW SQ Step RO RC DE Thn InB
def pst (xs : List Int) (x : Int) : Nat → List Int × Bool
  | 0 => ([], false)
  | i + 1 => if (!(pst xs x i).2 && decide (x ≤ xs.getD i 0)) = true then ((if x < xs.getD i 0 then (pst xs x i).1 ++ [x] else (pst xs x i).1) ++ [xs.getD i 0], true) else ((pst xs x i).1 ++ [xs.getD i 0], (pst xs x i).2)
def putV (xs : List Int) (x : Int) : List Int := if (pst xs x xs.length).2 = true then (pst xs x xs.length).1 else (pst xs x xs.length).1 ++ [x]
theorem pst_len (xs : List Int) (x : Int) : ∀ i, (pst xs x i).1.length ≤ i + 1 ∧ ((pst xs x i).2 = false → (pst xs x i).1.length = i)
  | 0 => ⟨Nat.zero_le _, fun _ => rfl⟩
  | i + 1 => by
    have ih := pst_len xs x i
    rw [pst]
    split
    · rename_i h
      simp only [Bool.and_eq_true, Bool.not_eq_true'] at h
      have := ih.2 h.1
      refine ⟨?_, fun h => by cases h⟩
      split <;> simp <;> omega
    · exact ⟨by simp; omega, fun h => by simp [ih.2 h]⟩
set_option maxHeartbeats 4000000 in
theorem l00Put_ro (xs : List Int) (x : Int) (hn : xs.length ≤ 1048576) (k : Nat) : RO Try.prog 74 [.dsl 1 (xs.map inL), .v (.int .i64 x)] k (.sl k 0 (putV xs x).length) [(k, ⟨2, 1, true, (putV xs x).map inL⟩)] (k + 1) := by
  have hml : (xs.map inL).length = xs.length := List.length_map _
  generalize hQ : putV xs x = Q
  unfold putV at hQ
  refine RO.ofm (.sl 0 0 Q.length) ([(0, ⟨2, 1, true, Q.map inL⟩)]) 1 Try.func74 Try.ntmps74 rfl (goFn_of Try.func74 rfl (by kernel_rfl)) rfl rfl (by simp [renA, renL]) (by simp [shH, renB]) rfl ?_
  ((repeat' (first
    | (show SQ _ _ _ _ _ _ _ _; first | apply sq_nil | (apply q_assign; exact rfl; exact rfl))
    | (show SQ _ _ _ _ _ _ _ _; (first | (apply q_build0; exact rfl; exact (ty rfl); exact rfl)); (try simp only [put, rowsOf, plR, List.all_cons, selE, ovr, setH, del, cellsA, splice, isV, List.nil_append, List.cons_append, List.map_cons, List.map_nil, List.length_cons, List.length_nil, List.set_cons_zero, List.set_cons_succ, List.take_succ_cons, List.take_zero, List.take_nil, List.drop_succ_cons, List.drop_zero, List.drop_nil, List.append_nil, List.all_cons, List.all_nil, Bool.and_true, Bool.true_and, Bool.and_false, Bool.false_and, Nat.reduceAdd, Nat.zero_add, Nat.add_zero, Nat.reduceEqDiff, if_true, if_false, reduceIte]))
    | (show AW _ _ _ _ _ _ _ _; first | refine aw_region ?_ | (refine aw_seqk ?_; intro K hK) | refine aw_block ?_)
    | refine thn_n ?_
    | (refine hK _ _ _ ?_; clear hK K))); all_goals (repeat (clear hK K)))
  refine aw_loop (ρ := id) (ι := Nat) (fun i => ([(7, .v (.int .i64 i)), (6, .v (.bool (pst xs x i).2)), (5, .sl 0 0 (pst xs x i).1.length), (1, .v (.int .i64 x)), (0, .dsl 1 (xs.map inL))], [(0, ⟨2, 1, true, (pst xs x i).1.map inL⟩)], 1))
    (fun i => i ≤ xs.length) (fun i => xs.length - i) 0 (Nat.zero_le _) ⟨by (repeat (refine ⟨by first | exact lk_i rfl rfl | exact lk_d rfl rfl | exact lk_v rfl rfl | exact lk_s rfl rfl rfl rfl, ?_⟩)); exact trivial, by (repeat (refine ⟨by first | exact ⟨rfl, rfl, rfl⟩, ?_⟩)); exact trivial, by rfl, by exact pin_0⟩ ?_
  intro i hi
  have hpl := (pst_len xs x i).1
  have hpm : ((pst xs x i).1.map inL).length = (pst xs x i).1.length := List.length_map _
  by_cases c1 : i < xs.length
  · have b1 : decide ((i : Int) < ((xs.map inL).length : Int)) = true := by rw [hml]; simpa using c1
    have hrow : (xs.map inL)[((i : Int)).toNat]? = some [.v (.int .i64 (xs.getD i 0))] := by
      rw [Int.toNat_natCast]; simp [c1, inL]
    have hw : IntKind.i64.wrap ((i : Int) + 1) = ((i + 1 : Nat) : Int) := by rw [IntWalk.i64_in _ (by omega)]; omega
    have hst : pst xs x (i + 1) = if (!(pst xs x i).2 && decide (x ≤ xs.getD i 0)) = true then ((if x < xs.getD i 0 then (pst xs x i).1 ++ [x] else (pst xs x i).1) ++ [xs.getD i 0], true) else ((pst xs x i).1 ++ [xs.getD i 0], (pst xs x i).2) := rfl
    generalize hNe : pst xs x (i + 1) = Ne at *
    generalize pst xs x i = Cu at *
    obtain ⟨o, d⟩ := Cu
    dsimp only at hpl hpm hst ⊢
    generalize xs.getD i 0 = y at *
    cases d with
    | true =>
      have b2 : (!true) = false := rfl
      rw [if_neg (by simp)] at hst
      ((repeat' (first
    | (show SQ _ _ _ _ _ _ _ _; first | apply sq_nil | (apply q_move; exact rfl; exact rfl) | (apply q_assign; exact rfl; exact rfl) | (apply q_pick_f; exact rfl; exact rfl; exact rfl; exact (by first | assumption | exact rfl)) | (apply q_not; exact rfl; exact rfl) | (apply q_lend; exact rfl; exact rfl; exact (ty rfl); exact rfl) | (apply q_add; exact rfl; exact rfl; exact rfl) | (apply q_lss; exact rfl; exact rfl; exact rfl) | (apply q_ixd; exact rfl; exact rfl; exact rfl; exact (ty rfl); exact rfl; exact (by first | omega | (simp; done) | (simp; omega)); exact (by first | omega | (simp; done) | (simp; omega)); exact (by first | rfl | assumption)) | (apply q_ld1d; exact rfl; exact rfl; exact (ty rfl); exact rfl; exact rfl) | (apply q_s; exact rfl; exact rfl; exact rfl; exact (by assumption); exact rfl))
    | (show SQ _ _ _ _ _ _ _ _; (first | (apply q_buildn; exact rfl; exact (ty rfl); exact rfl; exact rfl; exact rfl; exact rfl; exact rfl; exact rfl; exact rfl) | (apply q_apo_s; exact rfl; exact rfl; exact rfl; exact (ty rfl); exact rfl; exact rfl; exact (by first | omega | (simp; done) | (simp; omega)); exact (by first | exact List.take_of_length_le (by first | omega | (simp; done) | (simp; omega)) | rfl); exact (ty rfl); exact rfl; exact rfl; exact (by first | omega | (simp; done) | (simp; omega)); exact (by first | exact dt_full (by first | omega | (simp; done) | (simp; omega)) | assumption | rfl); exact rfl; exact (by first | omega | (simp; done) | (simp; omega)); exact (by first | omega | (simp; done) | (simp; omega)); exact (by first | assumption | exact rfl))); (try simp only [put, rowsOf, plR, List.all_cons, selE, ovr, setH, del, cellsA, splice, isV, List.nil_append, List.cons_append, List.map_cons, List.map_nil, List.length_cons, List.length_nil, List.set_cons_zero, List.set_cons_succ, List.take_succ_cons, List.take_zero, List.take_nil, List.drop_succ_cons, List.drop_zero, List.drop_nil, List.append_nil, List.all_cons, List.all_nil, Bool.and_true, Bool.true_and, Bool.and_false, Bool.false_and, Nat.reduceAdd, Nat.zero_add, Nat.add_zero, Nat.reduceEqDiff, if_true, if_false, reduceIte]))
    | (show AW _ _ _ _ _ _ _ _; first | refine aw_region ?_ | (refine aw_seqk ?_; intro K hK) | refine aw_block ?_ | (apply aw_cond_f; exact rfl; exact rfl) | (apply aw_cond_t; exact rfl; exact (by assumption)) | refine aw_skip ?_)
    | refine thn_n ?_
    | (refine hK _ _ _ ?_; clear hK K)
    | refine inb_n ?_)); all_goals (repeat (clear hK K)))
      refine ⟨i + 1, fun j => [2].getD j 0, c1, by omega, ?_⟩
      (try dsimp only); rw [hNe, hst, List.map_append, List.length_append, ← hw]
      exact ⟨by (repeat (refine ⟨by first | exact lk_i rfl rfl | exact lk_d rfl rfl | exact lk_v rfl rfl | exact lk_s rfl rfl rfl rfl, ?_⟩)); exact trivial, by (repeat (refine ⟨by first | exact ⟨rfl, rfl, rfl⟩, ?_⟩)); exact trivial, by rfl, by exact pin_0⟩
    | false =>
      have b2 : (!false) = true := rfl
      by_cases c2 : x ≤ y
      · have b3 : decide (x ≤ y) = true := by simpa using c2
        rw [if_pos (by simpa using c2)] at hst
        by_cases c3 : x < y
        · have b4 : decide (x < y) = true := by simpa using c3
          rw [if_pos c3] at hst
          have hol : (o.map inL ++ [[AV.v (.int .i64 x)]]).length = o.length + 1 := by simp
          ((repeat' (first
    | (show SQ _ _ _ _ _ _ _ _; first | apply sq_nil | (apply q_move; exact rfl; exact rfl) | (apply q_assign; exact rfl; exact rfl) | (apply q_pick_t; exact rfl; exact rfl; exact rfl; exact (by first | assumption | exact rfl)) | (apply q_not; exact rfl; exact rfl) | (apply q_lend; exact rfl; exact rfl; exact (ty rfl); exact rfl) | (apply q_add; exact rfl; exact rfl; exact rfl) | (apply q_lss; exact rfl; exact rfl; exact rfl) | (apply q_gtr; exact rfl; exact rfl; exact rfl) | (apply q_geq; exact rfl; exact rfl; exact rfl) | (apply q_ixd; exact rfl; exact rfl; exact rfl; exact (ty rfl); exact rfl; exact (by first | omega | (simp; done) | (simp; omega)); exact (by first | omega | (simp; done) | (simp; omega)); exact (by first | rfl | assumption)) | (apply q_ld1d; exact rfl; exact rfl; exact (ty rfl); exact rfl; exact rfl) | (apply q_g; exact rfl; exact rfl; exact rfl; exact (by assumption)))
    | (show SQ _ _ _ _ _ _ _ _; (first | (apply q_buildn; exact rfl; exact (ty rfl); exact rfl; exact rfl; exact rfl; exact rfl; exact rfl; exact rfl; exact rfl) | (apply q_apo_s; exact rfl; exact rfl; exact rfl; exact (ty rfl); exact rfl; exact rfl; exact (by first | omega | (simp; done) | (simp; omega)); exact (by first | exact List.take_of_length_le (by first | omega | (simp; done) | (simp; omega)) | rfl); exact (ty rfl); exact rfl; exact rfl; exact (by first | omega | (simp; done) | (simp; omega)); exact (by first | exact dt_full (by first | omega | (simp; done) | (simp; omega)) | assumption | rfl); exact rfl; exact (by first | omega | (simp; done) | (simp; omega)); exact (by first | omega | (simp; done) | (simp; omega)); exact (by first | assumption | exact rfl))); (try simp only [put, rowsOf, plR, List.all_cons, selE, ovr, setH, del, cellsA, splice, isV, List.nil_append, List.cons_append, List.map_cons, List.map_nil, List.length_cons, List.length_nil, List.set_cons_zero, List.set_cons_succ, List.take_succ_cons, List.take_zero, List.take_nil, List.drop_succ_cons, List.drop_zero, List.drop_nil, List.append_nil, List.all_cons, List.all_nil, Bool.and_true, Bool.true_and, Bool.and_false, Bool.false_and, Nat.reduceAdd, Nat.zero_add, Nat.add_zero, Nat.reduceEqDiff, if_true, if_false, reduceIte]))
    | (show AW _ _ _ _ _ _ _ _; first | refine aw_region ?_ | (refine aw_seqk ?_; intro K hK) | refine aw_block ?_ | (apply aw_cond_t; exact rfl; exact (by assumption)) | refine aw_skip ?_)
    | refine thn_n ?_
    | (refine hK _ _ _ ?_; clear hK K)
    | refine inb_n ?_)); all_goals (repeat (clear hK K)))
          refine ⟨i + 1, fun j => [4].getD j 0, c1, by omega, ?_⟩
          (try dsimp only); rw [hNe, hst, List.map_append, List.map_append, List.length_append, List.length_append, ← hw]
          exact ⟨by (repeat (refine ⟨by first | exact lk_i rfl rfl | exact lk_d rfl rfl | exact lk_v rfl rfl | exact lk_s rfl rfl rfl rfl, ?_⟩)); exact trivial, by (repeat (refine ⟨by first | exact ⟨rfl, rfl, rfl⟩, ?_⟩)); exact trivial, by rfl, by exact pin_0⟩
        · have b4 : decide (x < y) = false := by simpa using c3
          rw [if_neg c3] at hst
          ((repeat' (first
    | (show SQ _ _ _ _ _ _ _ _; first | apply sq_nil | (apply q_move; exact rfl; exact rfl) | (apply q_assign; exact rfl; exact rfl) | (apply q_pick_t; exact rfl; exact rfl; exact rfl; exact (by first | assumption | exact rfl)) | (apply q_not; exact rfl; exact rfl) | (apply q_lend; exact rfl; exact rfl; exact (ty rfl); exact rfl) | (apply q_add; exact rfl; exact rfl; exact rfl) | (apply q_lss; exact rfl; exact rfl; exact rfl) | (apply q_gtr; exact rfl; exact rfl; exact rfl) | (apply q_geq; exact rfl; exact rfl; exact rfl) | (apply q_ixd; exact rfl; exact rfl; exact rfl; exact (ty rfl); exact rfl; exact (by first | omega | (simp; done) | (simp; omega)); exact (by first | omega | (simp; done) | (simp; omega)); exact (by first | rfl | assumption)) | (apply q_ld1d; exact rfl; exact rfl; exact (ty rfl); exact rfl; exact rfl) | (apply q_g; exact rfl; exact rfl; exact rfl; exact (by assumption)))
    | (show SQ _ _ _ _ _ _ _ _; (first | (apply q_buildn; exact rfl; exact (ty rfl); exact rfl; exact rfl; exact rfl; exact rfl; exact rfl; exact rfl; exact rfl) | (apply q_apo_s; exact rfl; exact rfl; exact rfl; exact (ty rfl); exact rfl; exact rfl; exact (by first | omega | (simp; done) | (simp; omega)); exact (by first | exact List.take_of_length_le (by first | omega | (simp; done) | (simp; omega)) | rfl); exact (ty rfl); exact rfl; exact rfl; exact (by first | omega | (simp; done) | (simp; omega)); exact (by first | exact dt_full (by first | omega | (simp; done) | (simp; omega)) | assumption | rfl); exact rfl; exact (by first | omega | (simp; done) | (simp; omega)); exact (by first | omega | (simp; done) | (simp; omega)); exact (by first | assumption | exact rfl))); (try simp only [put, rowsOf, plR, List.all_cons, selE, ovr, setH, del, cellsA, splice, isV, List.nil_append, List.cons_append, List.map_cons, List.map_nil, List.length_cons, List.length_nil, List.set_cons_zero, List.set_cons_succ, List.take_succ_cons, List.take_zero, List.take_nil, List.drop_succ_cons, List.drop_zero, List.drop_nil, List.append_nil, List.all_cons, List.all_nil, Bool.and_true, Bool.true_and, Bool.and_false, Bool.false_and, Nat.reduceAdd, Nat.zero_add, Nat.add_zero, Nat.reduceEqDiff, if_true, if_false, reduceIte]))
    | (show AW _ _ _ _ _ _ _ _; first | refine aw_region ?_ | (refine aw_seqk ?_; intro K hK) | refine aw_block ?_ | (apply aw_cond_t; exact rfl; exact (by assumption)) | (apply aw_cond_f; exact rfl; exact (by assumption)) | refine aw_skip ?_)
    | refine thn_n ?_
    | (refine hK _ _ _ ?_; clear hK K)
    | refine inb_n ?_)); all_goals (repeat (clear hK K)))
          refine ⟨i + 1, fun j => [2].getD j 0, c1, by omega, ?_⟩
          (try dsimp only); rw [hNe, hst, List.map_append, List.length_append, ← hw]
          exact ⟨by (repeat (refine ⟨by first | exact lk_i rfl rfl | exact lk_d rfl rfl | exact lk_v rfl rfl | exact lk_s rfl rfl rfl rfl, ?_⟩)); exact trivial, by (repeat (refine ⟨by first | exact ⟨rfl, rfl, rfl⟩, ?_⟩)); exact trivial, by rfl, by exact pin_0⟩
      · have b3 : decide (x ≤ y) = false := by simpa using c2
        rw [if_neg (by simpa using c2)] at hst
        ((repeat' (first
    | (show SQ _ _ _ _ _ _ _ _; first | apply sq_nil | (apply q_move; exact rfl; exact rfl) | (apply q_assign; exact rfl; exact rfl) | (apply q_pick_t; exact rfl; exact rfl; exact rfl; exact (by first | assumption | exact rfl)) | (apply q_not; exact rfl; exact rfl) | (apply q_lend; exact rfl; exact rfl; exact (ty rfl); exact rfl) | (apply q_add; exact rfl; exact rfl; exact rfl) | (apply q_lss; exact rfl; exact rfl; exact rfl) | (apply q_geq; exact rfl; exact rfl; exact rfl) | (apply q_ixd; exact rfl; exact rfl; exact rfl; exact (ty rfl); exact rfl; exact (by first | omega | (simp; done) | (simp; omega)); exact (by first | omega | (simp; done) | (simp; omega)); exact (by first | rfl | assumption)) | (apply q_ld1d; exact rfl; exact rfl; exact (ty rfl); exact rfl; exact rfl) | (apply q_g; exact rfl; exact rfl; exact rfl; exact (by assumption)))
    | (show SQ _ _ _ _ _ _ _ _; (first | (apply q_buildn; exact rfl; exact (ty rfl); exact rfl; exact rfl; exact rfl; exact rfl; exact rfl; exact rfl; exact rfl) | (apply q_apo_s; exact rfl; exact rfl; exact rfl; exact (ty rfl); exact rfl; exact rfl; exact (by first | omega | (simp; done) | (simp; omega)); exact (by first | exact List.take_of_length_le (by first | omega | (simp; done) | (simp; omega)) | rfl); exact (ty rfl); exact rfl; exact rfl; exact (by first | omega | (simp; done) | (simp; omega)); exact (by first | exact dt_full (by first | omega | (simp; done) | (simp; omega)) | assumption | rfl); exact rfl; exact (by first | omega | (simp; done) | (simp; omega)); exact (by first | omega | (simp; done) | (simp; omega)); exact (by first | assumption | exact rfl))); (try simp only [put, rowsOf, plR, List.all_cons, selE, ovr, setH, del, cellsA, splice, isV, List.nil_append, List.cons_append, List.map_cons, List.map_nil, List.length_cons, List.length_nil, List.set_cons_zero, List.set_cons_succ, List.take_succ_cons, List.take_zero, List.take_nil, List.drop_succ_cons, List.drop_zero, List.drop_nil, List.append_nil, List.all_cons, List.all_nil, Bool.and_true, Bool.true_and, Bool.and_false, Bool.false_and, Nat.reduceAdd, Nat.zero_add, Nat.add_zero, Nat.reduceEqDiff, if_true, if_false, reduceIte]))
    | (show AW _ _ _ _ _ _ _ _; first | refine aw_region ?_ | (refine aw_seqk ?_; intro K hK) | refine aw_block ?_ | (apply aw_cond_t; exact rfl; exact (by assumption)) | (apply aw_cond_f; exact rfl; exact (by assumption)) | refine aw_skip ?_)
    | refine thn_n ?_
    | (refine hK _ _ _ ?_; clear hK K)
    | refine inb_n ?_)); all_goals (repeat (clear hK K)))
        refine ⟨i + 1, fun j => [2].getD j 0, c1, by omega, ?_⟩
        (try dsimp only); rw [hNe, hst, List.map_append, List.length_append, ← hw]
        exact ⟨by (repeat (refine ⟨by first | exact lk_i rfl rfl | exact lk_d rfl rfl | exact lk_v rfl rfl | exact lk_s rfl rfl rfl rfl, ?_⟩)); exact trivial, by (repeat (refine ⟨by first | exact ⟨rfl, rfl, rfl⟩, ?_⟩)); exact trivial, by rfl, by exact pin_0⟩
  · have b1 : decide ((i : Int) < ((xs.map inL).length : Int)) = false := by rw [hml]; simpa using c1
    obtain rfl : i = xs.length := by omega
    generalize pst xs x xs.length = Cu at *
    obtain ⟨o, d⟩ := Cu
    dsimp only at hpl hpm hQ ⊢
    cases d with
    | true =>
      have b2 : (!true) = false := rfl
      rw [if_pos rfl] at hQ
      subst hQ
      ((repeat' (first
    | (show SQ _ _ _ _ _ _ _ _; first | apply sq_nil | (apply q_move; exact rfl; exact rfl) | (apply q_assign; exact rfl; exact rfl) | (apply q_not; exact rfl; exact rfl) | (apply q_lend; exact rfl; exact rfl; exact (ty rfl); exact rfl) | (apply q_lss; exact rfl; exact rfl; exact rfl))
    | (show AW _ _ _ _ _ _ _ _; first | refine aw_region ?_ | (refine aw_seqk ?_; intro K hK) | (apply aw_cond_f; exact rfl; exact rfl) | (apply aw_cond_f; exact rfl; exact (by assumption)) | refine aw_ret ?_ | refine aw_exit ?_ | refine aw_skip ?_)
    | refine thn_n ?_
    | (refine hK _ _ _ ?_; clear hK K)
    | refine thn_e ?_
    | refine inb_same ?_
    | (clear hK K; refine hK _ _ _ ?_; clear hK K))); all_goals (repeat (clear hK K)))
      all_goals exact fin_r (fin_m rfl rfl _ _ rfl rfl)
    | false =>
      have b2 : (!false) = true := rfl
      rw [if_neg (by simp)] at hQ
      subst hQ
      ((repeat' (first
    | (show SQ _ _ _ _ _ _ _ _; first | apply sq_nil | (apply q_move; exact rfl; exact rfl) | (apply q_assign; exact rfl; exact rfl) | (apply q_not; exact rfl; exact rfl) | (apply q_lend; exact rfl; exact rfl; exact (ty rfl); exact rfl) | (apply q_lss; exact rfl; exact rfl; exact rfl))
    | (show SQ _ _ _ _ _ _ _ _; (first | (apply q_buildn; exact rfl; exact (ty rfl); exact rfl; exact rfl; exact rfl; exact rfl; exact rfl; exact rfl; exact rfl) | (apply q_apo_s; exact rfl; exact rfl; exact rfl; exact (ty rfl); exact rfl; exact rfl; exact (by first | omega | (simp; done) | (simp; omega)); exact (by first | exact List.take_of_length_le (by first | omega | (simp; done) | (simp; omega)) | rfl); exact (ty rfl); exact rfl; exact rfl; exact (by first | omega | (simp; done) | (simp; omega)); exact (by first | exact dt_full (by first | omega | (simp; done) | (simp; omega)) | assumption | rfl); exact rfl; exact (by first | omega | (simp; done) | (simp; omega)); exact (by first | omega | (simp; done) | (simp; omega)); exact (by first | assumption | exact rfl))); (try simp only [put, rowsOf, plR, List.all_cons, selE, ovr, setH, del, cellsA, splice, isV, List.nil_append, List.cons_append, List.map_cons, List.map_nil, List.length_cons, List.length_nil, List.set_cons_zero, List.set_cons_succ, List.take_succ_cons, List.take_zero, List.take_nil, List.drop_succ_cons, List.drop_zero, List.drop_nil, List.append_nil, List.all_cons, List.all_nil, Bool.and_true, Bool.true_and, Bool.and_false, Bool.false_and, Nat.reduceAdd, Nat.zero_add, Nat.add_zero, Nat.reduceEqDiff, if_true, if_false, reduceIte]))
    | (show AW _ _ _ _ _ _ _ _; first | refine aw_region ?_ | (refine aw_seqk ?_; intro K hK) | (apply aw_cond_t; exact rfl; exact rfl) | (apply aw_cond_f; exact rfl; exact (by assumption)) | refine aw_ret ?_ | refine aw_exit ?_)
    | refine thn_n ?_
    | (refine hK _ _ _ ?_; clear hK K)
    | refine thn_e ?_
    | refine inb_same ?_
    | (clear hK K; refine hK _ _ _ ?_; clear hK K))); all_goals (repeat (clear hK K)))
      exact fin_r (fin_m (id := 2) (t := 4) (len := o.length + 1) (rows := o.map inL ++ [[.v (.int .i64 x)]]) rfl rfl _ _ (by simp) (by rw [List.map_append]; rfl))
theorem putV_len (xs : List Int) (x : Int) : (putV xs x).length ≤ xs.length + 1 := by
  have := pst_len xs x xs.length
  unfold putV
  split
  · exact this.1
  · rename_i h
    rw [List.length_append, this.2 (by simpa using h)]; simp
structure Pd (s : Sr) (k : Int) (ds ap : List (List Int)) (s' : Sr) : Prop where
  n1 : 1 ≤ ds.length
  n2 : ds.length ≤ 25
  d : ∀ d ∈ ds, d.length ≤ 100
  a1 : ap.length ≤ 25
  a : ∀ d ∈ ap, d.length ≤ 100
  ok : s'.ok (k + 5000)
  rc : ∀ j id, RC Try.prog 71 [.ptr id 0 0] [(id, ⟨109, 3, false, [srR s]⟩)] j (.agg [.dsl 1 (nbL ds), .dsl 1 (nbL ap)]) [(id, some ⟨109, 3, false, [srR s']⟩)] j
def fzF (m : Int) (s : Sr) : Nat → Sr × List Int
  | 0 => (s, [])
  | i + 1 => ((pk (fzF m s i).1 m).2, putV (fzF m s i).2 (pk (fzF m s i).1 m).1)
theorem fzF_ok {m : Int} {s : Sr} {k : Int} (h : s.ok k) : ∀ i : Nat, (fzF m s i).1.ok (k + 2 * (i : Int)) ∧ (fzF m s i).2.length ≤ i
  | 0 => ⟨h.mono (by omega), Nat.le_refl _⟩
  | i + 1 => ⟨(pk_ok m (fzF_ok h i).1).mono (by omega), by have := putV_len (fzF m s i).2 (pk (fzF m s i).1 m).1; have := (fzF_ok (m := m) h i).2; show (putV _ _).length ≤ _; omega⟩
theorem DrawRepair_of (hPd : ∀ (s : Sr) (k : Int), s.ok k → k ≤ 1000 → ∃ ds ap s', Pd s k ds ap s') (bs : List Int) (hb : ∀ b ∈ bs, 0 ≤ b ∧ b ≤ 255) (hn : bs.length ≤ 9223372036854775807) :
    ∃ (ds ap : List (List Int)) (list frz : List Int) (bu : Int), NbS ds ∧ NbS ap ∧ list.length ≤ 26 ∧ frz.length ≤ 10 ∧
      ∀ k, RC Try.prog 33 [.dsl 1 (byL bs)] [] k (.tup [.agg [.dsl 1 (nbL ds), .dsl 1 (nbL ap)], .dsl 1 (list.map inL), .sl k 0 frz.length, .v (.int .i64 bu)]) [(k, some ⟨2, 1, true, frz.map inL⟩)] (k + 1) := by
  have hok : (⟨bs, 0, 0⟩ : Sr).ok 0 := ⟨hb, by simp, by simp, hn⟩
  obtain ⟨ds, ap, s1, h1⟩ := hPd _ 0 hok (by omega)
  have r1 := h1.rc
  have hS : NbS ds := ⟨by have := h1.n2; omega, fun l hl => by have := h1.d l hl; omega⟩
  have hA : NbS ap := ⟨by have := h1.a1; omega, fun l hl => by have := h1.a l hl; omega⟩
  obtain ⟨list, s2, l1, l2, ok2, r2⟩ := l19DrawState_ex ds ap hS h1.n1 h1.n2 h1.d h1.ok (by omega)
  have hlm : (list.map inL).length = list.length := List.length_map _
  have r3 := fun id => pick_rc id s2 3 (ok2.mono (by omega)) (by omega)
  have b3 := pk_bd s2 3 (by omega)
  have ok3 := pk_ok 3 ok2
  generalize pk s2 3 = P at *
  obtain ⟨q, s3⟩ := P
  dsimp only at r3 b3 ok3
  obtain ⟨q, rfl⟩ : ∃ q' : Nat, q = q' := ⟨q.toNat, by omega⟩
  have hF := fun i => fzF_ok (m := (((list.map inL).length : Nat) : Int)) ok3 i
  have hF1 : ∀ i, fzF (((list.map inL).length : Nat) : Int) s3 (i + 1) = ((pk (fzF (((list.map inL).length : Nat) : Int) s3 i).1 (((list.map inL).length : Nat) : Int)).2, putV (fzF (((list.map inL).length : Nat) : Int) s3 i).2 (pk (fzF (((list.map inL).length : Nat) : Int) s3 i).1 (((list.map inL).length : Nat) : Int)).1) := fun _ => rfl
  obtain ⟨g1, g2⟩ := hF q
  have hZ0 : ∃ Z, fzF (((list.map inL).length : Nat) : Int) s3 q = Z := ⟨_, rfl⟩
  obtain ⟨⟨s4, fz⟩, hZ⟩ := hZ0
  rw [hZ] at g1 g2
  dsimp only at g1 g2
  have r5 := fun id => one_rc id s4 12 (g1.mono (by omega)) (by omega)
  have ok5 := pk_ok 12 g1
  generalize pk s4 12 = P at *
  obtain ⟨o, s5⟩ := P
  dsimp only at r5 ok5
  by_cases c3 : o = 0
  · have b5 : (o == 0) = true := by simpa using c3
    have a1 := among_rc 1 4 s5 [-1, 0, 25] (by decide) (ok5.mono (by omega)) (by simp) (by simp)
    have ok6 := am_ok [-1, 0, 25] ok5
    generalize am [-1, 0, 25] s5 = A at *
    obtain ⟨v, s6⟩ := A
    dsimp only at a1 ok6
    simp only [nuR, List.map_cons, List.map_nil, List.length_cons, List.length_nil] at a1
    have hfm : (fz.map inL).length = fz.length := List.length_map _
    have hfv : (fz ++ [v]).map inL = fz.map inL ++ [[.v (.int .i64 v)]] := by rw [List.map_append]; rfl
    obtain ⟨bu, s7, _, rb⟩ := l19DrawBudget_ex ok6 (by omega)
    refine ⟨ds, ap, list, fz ++ [v], bu, hS, hA, l1, by rw [List.length_append]; simp; omega, fun k => ?_⟩
    refine RC.ofc [] 1 [.dsl 1 (byL bs)] [] (.tup [.agg [.dsl 1 (nbL ds), .dsl 1 (nbL ap)], .dsl 1 (list.map inL), .sl 0 0 (fz ++ [v]).length, .v (.int .i64 bu)]) [(0, some ⟨2, 1, true, (fz ++ [v]).map inL⟩)] Try.func33 Try.ntmps33 rfl (goFn_of Try.func33 rfl (by kernel_rfl)) rfl rfl rfl rfl rfl rfl rfl rfl (by simp_all) rfl ?_
    ((repeat' (first
    | (show SQ _ _ _ _ _ _ _ _; apply sq_frz (t := 8); exact rfl; exact rfl; exact (by first | rfl | exact all_noOwn_map (fun _ => rfl) | assumption | exact hclo); exact (by first | omega | (simp; done) | (simp; omega)); exact (by first | exact dt_full (by first | omega | (simp; done) | (simp; omega)) | assumption | rfl); (try simp only [put, rowsOf, plR, List.all_cons, selE, ovr, setH, del, cellsA, splice, isV, List.nil_append, List.cons_append, List.map_cons, List.map_nil, List.length_cons, List.length_nil, List.set_cons_zero, List.set_cons_succ, List.take_succ_cons, List.take_zero, List.take_nil, List.drop_succ_cons, List.drop_zero, List.drop_nil, List.append_nil, List.all_cons, List.all_nil, Bool.and_true, Bool.true_and, Bool.and_false, Bool.false_and, Nat.reduceAdd, Nat.zero_add, Nat.add_zero, Nat.reduceEqDiff, if_true, if_false, reduceIte]))
    | (show SQ _ _ _ _ _ _ _ _; first | apply sq_nil | (apply q_move; exact rfl; exact rfl) | (apply q_assign; exact rfl; exact rfl))
    | (show SQ _ _ _ _ _ _ _ _; (first | (apply q_alloc; exact rfl; exact (ty rfl); exact rfl; exact rfl) | (apply q_store; exact rfl; exact rfl; exact (ty rfl); exact rfl; exact (by first | rfl | assumption | ((try simp only [Nat.zero_add]); refine List.getElem?_set_self ?_; (try simp only [List.length_set]); assumption)); exact rfl; exact rfl; exact rfl) | (apply q_build0; exact rfl; exact (ty rfl); exact rfl) | (apply q_callC; exact rfl; exact rfl; exact rfl; exact l00From_rc bs _; (focus ((repeat (first | exact trivial | refine ⟨by first | exact rfl | assumption, ?_⟩)); done)); skip) | (apply q_callC; exact rfl; exact rfl; exact rfl; exact r1 _ 1; (focus ((repeat (first | exact trivial | refine ⟨by first | exact rfl | assumption, ?_⟩)); done)); skip) | (apply q_callC; exact rfl; exact rfl; exact rfl; exact r2 _ 1 2 (by decide); (focus ((repeat (first | exact trivial | refine ⟨by first | exact rfl | assumption, ?_⟩)); done)); skip) | (apply q_callC; exact rfl; exact rfl; exact rfl; exact r3 1 _; (focus ((repeat (first | exact trivial | refine ⟨by first | exact rfl | assumption, ?_⟩)); done)); skip)); (try simp only [put, rowsOf, plR, List.all_cons, selE, ovr, setH, del, cellsA, splice, isV, List.nil_append, List.cons_append, List.map_cons, List.map_nil, List.length_cons, List.length_nil, List.set_cons_zero, List.set_cons_succ, List.take_succ_cons, List.take_zero, List.take_nil, List.drop_succ_cons, List.drop_zero, List.drop_nil, List.append_nil, List.all_cons, List.all_nil, Bool.and_true, Bool.true_and, Bool.and_false, Bool.false_and, Nat.reduceAdd, Nat.zero_add, Nat.add_zero, Nat.reduceEqDiff, if_true, if_false, reduceIte]))
    | (show AW _ _ _ _ _ _ _ _; first | refine aw_region ?_ | (refine aw_seqk ?_; intro K hK) | refine aw_block ?_)
    | refine thn_n ?_
    | (refine hK _ _ _ ?_; clear hK K))); all_goals (repeat (clear hK K)))
    refine aw_loop (ρ := mv 3 4) (ι := Nat) (fun i => ([(10, .v (.int .i64 ((q : Int) - (i : Int)))), (9, .sl 3 0 (fzF (((list.map inL).length : Nat) : Int) s3 i).2.length), (8, .dsl 1 (list.map inL)), (7, .ptr 2 0 0), (6, .ptr 1 0 0), (2, .ptr 0 0 0)],
        [(0, ⟨50, 2, false, [[.v (.slice none 0 0), .v (.slice none 0 0)]]⟩), (1, ⟨109, 3, false, [srR (fzF (((list.map inL).length : Nat) : Int) s3 i).1]⟩), (2, ⟨50, 2, false, [[.dsl 1 (nbL ds), .dsl 1 (nbL ap)]]⟩), (3, ⟨2, 1, true, (fzF (((list.map inL).length : Nat) : Int) s3 i).2.map inL⟩)], 4))
      (fun i => i ≤ q) (fun i => q - i) 0 (Nat.zero_le _) (by (try dsimp only); rw [show (q : Int) - ((0 : Nat) : Int) = q by omega]; exact ⟨by (repeat (refine ⟨by first | exact lk_i rfl rfl | exact lk_d rfl rfl | exact lk_r rfl rfl rfl | exact lk_s rfl rfl rfl rfl, ?_⟩)); exact trivial, by (repeat (refine ⟨by first | exact ⟨rfl, rfl, rfl⟩, ?_⟩)); exact trivial, by rfl, by exact pin_0⟩) ?_
    intro i hi
    obtain ⟨k1, k2⟩ := hF i
    by_cases c1 : i < q
    · have e1 : decide ((0 : Int) < (q : Int) - (i : Int)) = true := by rw [decide_eq_true_eq]; omega
      have hw : IntKind.i64.wrap ((q : Int) - (i : Int) - 1) = (q : Int) - ((i + 1 : Nat) : Int) := by rw [IntWalk.i64_in _ (by omega)]; omega
      have hs1 := hF1 i
      generalize fzF (((list.map inL).length : Nat) : Int) s3 i = Z at *
      obtain ⟨si, xi⟩ := Z
      dsimp only at k1 k2 hs1 ⊢
      have hxm : (xi.map inL).length = xi.length := List.length_map _
      have p1 := fun id => pick_rc id si (((list.map inL).length : Nat) : Int) (k1.mono (by omega)) (by omega)
      generalize pk si (((list.map inL).length : Nat) : Int) = P at *
      obtain ⟨x, si2⟩ := P
      dsimp only at hs1 p1
      have hPu := l00Put_ro xi x (by omega)
      generalize putV xi x = yi at *
      have hym : (yi.map inL).length = yi.length := List.length_map _
      ((repeat' (first
    | (show SQ _ _ _ _ _ _ _ _; first | apply sq_nil | (apply q_move; exact rfl; exact rfl) | (apply q_assign; exact rfl; exact rfl) | (apply q_lend; exact rfl; exact rfl; exact (ty rfl); exact rfl) | (apply q_sub; exact rfl; exact rfl; exact rfl) | (apply q_gtr; exact rfl; exact rfl; exact rfl))
    | (show SQ _ _ _ _ _ _ _ _; (first | (apply q_callU; exact rfl; exact rfl; exact rfl; rotate_left; exact hPu _; rotate_right; focus ((repeat' (first | exact FzL.nil | exact (by assumption : FzC _) _ | refine FzL.cons ?_ ?_ | exact Fz.of rfl | exact Fz.nil | exact Fz.emp | (apply Fz.fnC; assumption) | (apply Fz.sl2; exact rfl; exact (by first | omega | (simp; done) | (simp; omega)); first | exact rfl | exact dt_full (by first | omega | (simp; done) | (simp; omega)) | assumption) | apply Fz.agg | (apply Fz.ptrL; exact rfl; first | exact rfl | assumption) | apply Fz.fnL)); done)) | (apply q_callC; exact rfl; exact rfl; exact rfl; exact p1 1 _; (focus ((repeat (first | exact trivial | refine ⟨by first | exact rfl | assumption, ?_⟩)); done)); skip)); (try simp only [put, rowsOf, plR, List.all_cons, selE, ovr, setH, del, cellsA, splice, isV, List.nil_append, List.cons_append, List.map_cons, List.map_nil, List.length_cons, List.length_nil, List.set_cons_zero, List.set_cons_succ, List.take_succ_cons, List.take_zero, List.take_nil, List.drop_succ_cons, List.drop_zero, List.drop_nil, List.append_nil, List.all_cons, List.all_nil, Bool.and_true, Bool.true_and, Bool.and_false, Bool.false_and, Nat.reduceAdd, Nat.zero_add, Nat.add_zero, Nat.reduceEqDiff, if_true, if_false, reduceIte]))
    | (show AW _ _ _ _ _ _ _ _; first | refine aw_region ?_ | (refine aw_seqk ?_; intro K hK) | refine aw_block ?_ | (apply aw_cond_t; exact rfl; exact (by assumption)) | refine aw_skip ?_)
    | refine thn_n ?_
    | (refine hK _ _ _ ?_; clear hK K)
    | refine inb_n ?_)); all_goals (repeat (clear hK K)))
      all_goals (refine ⟨i + 1, mv 3 4, c1, by omega, ?_⟩; (try dsimp only); rw [hs1, ← hw]; exact ⟨by (repeat (refine ⟨by first | exact lk_i rfl rfl | exact lk_d rfl rfl | exact lk_r rfl rfl rfl | exact lk_s rfl rfl rfl rfl, ?_⟩)); exact trivial, by (repeat (refine ⟨by first | exact ⟨rfl, rfl, rfl⟩, ?_⟩)); exact trivial, by rfl, by exact pin_0⟩)
    · have e1 : decide ((0 : Int) < (q : Int) - (i : Int)) = false := by rw [decide_eq_false_iff_not]; omega
      obtain rfl : i = q := by omega
      rw [hZ]
      dsimp only
      ((repeat' (first
    | (show SQ _ _ _ _ _ _ _ _; first | apply sq_nil | (apply q_move; exact rfl; exact rfl) | (apply q_assign; exact rfl; exact rfl) | (apply q_gtr; exact rfl; exact rfl; exact rfl))
    | (show SQ _ _ _ _ _ _ _ _; (first | (apply q_buildn; exact rfl; exact (ty rfl); exact rfl; exact rfl; exact rfl; exact rfl; exact rfl; exact rfl; exact rfl) | (apply q_apo_s; exact rfl; exact rfl; exact rfl; exact (ty rfl); exact rfl; exact rfl; exact (by first | omega | (simp; done) | (simp; omega)); exact (by first | exact List.take_of_length_le (by first | omega | (simp; done) | (simp; omega)) | rfl); exact (ty rfl); exact rfl; exact rfl; exact (by first | omega | (simp; done) | (simp; omega)); exact (by first | exact dt_full (by first | omega | (simp; done) | (simp; omega)) | assumption | rfl); exact rfl; exact (by first | omega | (simp; done) | (simp; omega)); exact (by first | omega | (simp; done) | (simp; omega)); exact (by first | assumption | exact rfl)) | (apply q_callC; exact rfl; exact rfl; exact rfl; exact r5 1 _; (focus ((repeat (first | exact trivial | refine ⟨by first | exact rfl | assumption, ?_⟩)); done)); skip) | (apply q_callC; exact rfl; exact rfl; exact rfl; exact a1 _; (focus ((repeat (first | exact trivial | refine ⟨by first | exact rfl | assumption, ?_⟩)); done)); skip)); (try simp only [put, rowsOf, plR, List.all_cons, selE, ovr, setH, del, cellsA, splice, isV, List.nil_append, List.cons_append, List.map_cons, List.map_nil, List.length_cons, List.length_nil, List.set_cons_zero, List.set_cons_succ, List.take_succ_cons, List.take_zero, List.take_nil, List.drop_succ_cons, List.drop_zero, List.drop_nil, List.append_nil, List.all_cons, List.all_nil, Bool.and_true, Bool.true_and, Bool.and_false, Bool.false_and, Nat.reduceAdd, Nat.zero_add, Nat.add_zero, Nat.reduceEqDiff, if_true, if_false, reduceIte]))
    | (show DE _ _ _ _ _ _ _ _ _ _ _ _; first | (apply e_move; exact rfl; exact rfl; exact rfl) | (apply e_assign; exact rfl; exact rfl; exact rfl))
    | (show DE _ _ _ _ _ _ _ _ _ _ _ _; (first | (apply dr_nil; (focus ((repeat (first | exact trivial | exact Or.inr rfl | exact Or.inl (by kernel_rfl) | apply And.intro)); done))) | (apply e_rda; exact rfl; exact rfl; exact (ty rfl); exact rfl; exact rfl; exact (by first | rfl | assumption | ((try simp only [Nat.zero_add]); refine List.getElem?_set_self ?_; (try simp only [List.length_set]); assumption)); exact rfl; exact rfl; exact rfl) | (apply e_store; exact rfl; exact rfl; exact (ty rfl); exact rfl; exact (by first | rfl | assumption | ((try simp only [Nat.zero_add]); refine List.getElem?_set_self ?_; (try simp only [List.length_set]); assumption)); exact rfl; exact rfl; exact rfl; exact rfl) | (apply e_callC; exact rfl; exact rfl; exact rfl; exact rb _ 1; (focus ((repeat (first | exact trivial | refine ⟨by first | exact rfl | assumption, ?_⟩)); done)); exact rfl; skip)); (try simp only [put, rowsOf, plR, List.all_cons, selE, ovr, setH, del, cellsA, splice, isV, List.nil_append, List.cons_append, List.map_cons, List.map_nil, List.length_cons, List.length_nil, List.set_cons_zero, List.set_cons_succ, List.take_succ_cons, List.take_zero, List.take_nil, List.drop_succ_cons, List.drop_zero, List.drop_nil, List.append_nil, List.all_cons, List.all_nil, Bool.and_true, Bool.true_and, Bool.and_false, Bool.false_and, Nat.reduceAdd, Nat.zero_add, Nat.add_zero, Nat.reduceEqDiff, if_true, if_false, reduceIte]))
    | (show AW _ _ _ _ _ _ _ _; first | refine aw_region ?_ | (refine aw_seqk ?_; intro K hK) | (apply aw_cond_t; exact rfl; exact (by assumption)) | (apply aw_cond_f; exact rfl; exact (by assumption)) | refine aw_ret ?_ | refine aw_exit ?_ | refine aw_drawE (id := 11) [0, 0, 0, 0, 8, 25, 59, 127, 255] [0, 0, 0, 0, 2, 2, 0, 0, 0, 0, 2] mixed (by kernel_rfl) ?_)
    | refine thn_n ?_
    | (refine hK _ _ _ ?_; clear hK K)
    | refine thn_e ?_
    | refine inb_same ?_
    | (clear hK K; refine hK _ _ _ ?_; clear hK K))); all_goals (repeat (clear hK K)))
      all_goals exact finc (mv 0 6) (.r4 _ _ _ _ _ _ _ _ (.agg _ _ _ _ _ rfl (.inr ⟨_, _, _, _, _, rfl, rfl, rfl, rfl⟩) (ty rfl) rfl (Nat.le_of_ble_eq_true rfl)) (.tmp _ _ rfl) (.tmp _ _ rfl) (.tmp _ _ rfl)) (by simp [renA, renL, mv]) (fun z hz => by simp at hz) ⟨by rw [List.map_append]; rfl, trivial⟩ rfl
  · have b5 : (o == 0) = false := by simpa using c3
    obtain ⟨bu, s7, _, rb⟩ := l19DrawBudget_ex ok5 (by omega)
    refine ⟨ds, ap, list, fz, bu, hS, hA, l1, by omega, fun k => ?_⟩
    refine RC.ofc [] 1 [.dsl 1 (byL bs)] [] (.tup [.agg [.dsl 1 (nbL ds), .dsl 1 (nbL ap)], .dsl 1 (list.map inL), .sl 0 0 fz.length, .v (.int .i64 bu)]) [(0, some ⟨2, 1, true, fz.map inL⟩)] Try.func33 Try.ntmps33 rfl (goFn_of Try.func33 rfl (by kernel_rfl)) rfl rfl rfl rfl rfl rfl rfl rfl (by simp_all) rfl ?_
    ((repeat' (first
    | (show SQ _ _ _ _ _ _ _ _; apply sq_frz (t := 8); exact rfl; exact rfl; exact (by first | rfl | exact all_noOwn_map (fun _ => rfl) | assumption | exact hclo); exact (by first | omega | (simp; done) | (simp; omega)); exact (by first | exact dt_full (by first | omega | (simp; done) | (simp; omega)) | assumption | rfl); (try simp only [put, rowsOf, plR, List.all_cons, selE, ovr, setH, del, cellsA, splice, isV, List.nil_append, List.cons_append, List.map_cons, List.map_nil, List.length_cons, List.length_nil, List.set_cons_zero, List.set_cons_succ, List.take_succ_cons, List.take_zero, List.take_nil, List.drop_succ_cons, List.drop_zero, List.drop_nil, List.append_nil, List.all_cons, List.all_nil, Bool.and_true, Bool.true_and, Bool.and_false, Bool.false_and, Nat.reduceAdd, Nat.zero_add, Nat.add_zero, Nat.reduceEqDiff, if_true, if_false, reduceIte]))
    | (show SQ _ _ _ _ _ _ _ _; first | apply sq_nil | (apply q_move; exact rfl; exact rfl) | (apply q_assign; exact rfl; exact rfl))
    | (show SQ _ _ _ _ _ _ _ _; (first | (apply q_alloc; exact rfl; exact (ty rfl); exact rfl; exact rfl) | (apply q_store; exact rfl; exact rfl; exact (ty rfl); exact rfl; exact (by first | rfl | assumption | ((try simp only [Nat.zero_add]); refine List.getElem?_set_self ?_; (try simp only [List.length_set]); assumption)); exact rfl; exact rfl; exact rfl) | (apply q_build0; exact rfl; exact (ty rfl); exact rfl) | (apply q_callC; exact rfl; exact rfl; exact rfl; exact l00From_rc bs _; (focus ((repeat (first | exact trivial | refine ⟨by first | exact rfl | assumption, ?_⟩)); done)); skip) | (apply q_callC; exact rfl; exact rfl; exact rfl; exact r1 _ 1; (focus ((repeat (first | exact trivial | refine ⟨by first | exact rfl | assumption, ?_⟩)); done)); skip) | (apply q_callC; exact rfl; exact rfl; exact rfl; exact r2 _ 1 2 (by decide); (focus ((repeat (first | exact trivial | refine ⟨by first | exact rfl | assumption, ?_⟩)); done)); skip) | (apply q_callC; exact rfl; exact rfl; exact rfl; exact r3 1 _; (focus ((repeat (first | exact trivial | refine ⟨by first | exact rfl | assumption, ?_⟩)); done)); skip)); (try simp only [put, rowsOf, plR, List.all_cons, selE, ovr, setH, del, cellsA, splice, isV, List.nil_append, List.cons_append, List.map_cons, List.map_nil, List.length_cons, List.length_nil, List.set_cons_zero, List.set_cons_succ, List.take_succ_cons, List.take_zero, List.take_nil, List.drop_succ_cons, List.drop_zero, List.drop_nil, List.append_nil, List.all_cons, List.all_nil, Bool.and_true, Bool.true_and, Bool.and_false, Bool.false_and, Nat.reduceAdd, Nat.zero_add, Nat.add_zero, Nat.reduceEqDiff, if_true, if_false, reduceIte]))
    | (show AW _ _ _ _ _ _ _ _; first | refine aw_region ?_ | (refine aw_seqk ?_; intro K hK) | refine aw_block ?_)
    | refine thn_n ?_
    | (refine hK _ _ _ ?_; clear hK K))); all_goals (repeat (clear hK K)))
    refine aw_loop (ρ := mv 3 4) (ι := Nat) (fun i => ([(10, .v (.int .i64 ((q : Int) - (i : Int)))), (9, .sl 3 0 (fzF (((list.map inL).length : Nat) : Int) s3 i).2.length), (8, .dsl 1 (list.map inL)), (7, .ptr 2 0 0), (6, .ptr 1 0 0), (2, .ptr 0 0 0)],
        [(0, ⟨50, 2, false, [[.v (.slice none 0 0), .v (.slice none 0 0)]]⟩), (1, ⟨109, 3, false, [srR (fzF (((list.map inL).length : Nat) : Int) s3 i).1]⟩), (2, ⟨50, 2, false, [[.dsl 1 (nbL ds), .dsl 1 (nbL ap)]]⟩), (3, ⟨2, 1, true, (fzF (((list.map inL).length : Nat) : Int) s3 i).2.map inL⟩)], 4))
      (fun i => i ≤ q) (fun i => q - i) 0 (Nat.zero_le _) (by (try dsimp only); rw [show (q : Int) - ((0 : Nat) : Int) = q by omega]; exact ⟨by (repeat (refine ⟨by first | exact lk_i rfl rfl | exact lk_d rfl rfl | exact lk_r rfl rfl rfl | exact lk_s rfl rfl rfl rfl, ?_⟩)); exact trivial, by (repeat (refine ⟨by first | exact ⟨rfl, rfl, rfl⟩, ?_⟩)); exact trivial, by rfl, by exact pin_0⟩) ?_
    intro i hi
    obtain ⟨k1, k2⟩ := hF i
    by_cases c1 : i < q
    · have e1 : decide ((0 : Int) < (q : Int) - (i : Int)) = true := by rw [decide_eq_true_eq]; omega
      have hw : IntKind.i64.wrap ((q : Int) - (i : Int) - 1) = (q : Int) - ((i + 1 : Nat) : Int) := by rw [IntWalk.i64_in _ (by omega)]; omega
      have hs1 := hF1 i
      generalize fzF (((list.map inL).length : Nat) : Int) s3 i = Z at *
      obtain ⟨si, xi⟩ := Z
      dsimp only at k1 k2 hs1 ⊢
      have hxm : (xi.map inL).length = xi.length := List.length_map _
      have p1 := fun id => pick_rc id si (((list.map inL).length : Nat) : Int) (k1.mono (by omega)) (by omega)
      generalize pk si (((list.map inL).length : Nat) : Int) = P at *
      obtain ⟨x, si2⟩ := P
      dsimp only at hs1 p1
      have hPu := l00Put_ro xi x (by omega)
      generalize putV xi x = yi at *
      have hym : (yi.map inL).length = yi.length := List.length_map _
      ((repeat' (first
    | (show SQ _ _ _ _ _ _ _ _; first | apply sq_nil | (apply q_move; exact rfl; exact rfl) | (apply q_assign; exact rfl; exact rfl) | (apply q_lend; exact rfl; exact rfl; exact (ty rfl); exact rfl) | (apply q_sub; exact rfl; exact rfl; exact rfl) | (apply q_gtr; exact rfl; exact rfl; exact rfl))
    | (show SQ _ _ _ _ _ _ _ _; (first | (apply q_callU; exact rfl; exact rfl; exact rfl; rotate_left; exact hPu _; rotate_right; focus ((repeat' (first | exact FzL.nil | exact (by assumption : FzC _) _ | refine FzL.cons ?_ ?_ | exact Fz.of rfl | exact Fz.nil | exact Fz.emp | (apply Fz.fnC; assumption) | (apply Fz.sl2; exact rfl; exact (by first | omega | (simp; done) | (simp; omega)); first | exact rfl | exact dt_full (by first | omega | (simp; done) | (simp; omega)) | assumption) | apply Fz.agg | (apply Fz.ptrL; exact rfl; first | exact rfl | assumption) | apply Fz.fnL)); done)) | (apply q_callC; exact rfl; exact rfl; exact rfl; exact p1 1 _; (focus ((repeat (first | exact trivial | refine ⟨by first | exact rfl | assumption, ?_⟩)); done)); skip)); (try simp only [put, rowsOf, plR, List.all_cons, selE, ovr, setH, del, cellsA, splice, isV, List.nil_append, List.cons_append, List.map_cons, List.map_nil, List.length_cons, List.length_nil, List.set_cons_zero, List.set_cons_succ, List.take_succ_cons, List.take_zero, List.take_nil, List.drop_succ_cons, List.drop_zero, List.drop_nil, List.append_nil, List.all_cons, List.all_nil, Bool.and_true, Bool.true_and, Bool.and_false, Bool.false_and, Nat.reduceAdd, Nat.zero_add, Nat.add_zero, Nat.reduceEqDiff, if_true, if_false, reduceIte]))
    | (show AW _ _ _ _ _ _ _ _; first | refine aw_region ?_ | (refine aw_seqk ?_; intro K hK) | refine aw_block ?_ | (apply aw_cond_t; exact rfl; exact (by assumption)) | refine aw_skip ?_)
    | refine thn_n ?_
    | (refine hK _ _ _ ?_; clear hK K)
    | refine inb_n ?_)); all_goals (repeat (clear hK K)))
      all_goals (refine ⟨i + 1, mv 3 4, c1, by omega, ?_⟩; (try dsimp only); rw [hs1, ← hw]; exact ⟨by (repeat (refine ⟨by first | exact lk_i rfl rfl | exact lk_d rfl rfl | exact lk_r rfl rfl rfl | exact lk_s rfl rfl rfl rfl, ?_⟩)); exact trivial, by (repeat (refine ⟨by first | exact ⟨rfl, rfl, rfl⟩, ?_⟩)); exact trivial, by rfl, by exact pin_0⟩)
    · have e1 : decide ((0 : Int) < (q : Int) - (i : Int)) = false := by rw [decide_eq_false_iff_not]; omega
      obtain rfl : i = q := by omega
      rw [hZ]
      dsimp only
      ((repeat' (first
    | (show SQ _ _ _ _ _ _ _ _; first | apply sq_nil | (apply q_move; exact rfl; exact rfl) | (apply q_gtr; exact rfl; exact rfl; exact rfl))
    | (show SQ _ _ _ _ _ _ _ _; (first | (apply q_callC; exact rfl; exact rfl; exact rfl; exact r5 1 _; (focus ((repeat (first | exact trivial | refine ⟨by first | exact rfl | assumption, ?_⟩)); done)); skip)); (try simp only [put, rowsOf, plR, List.all_cons, selE, ovr, setH, del, cellsA, splice, isV, List.nil_append, List.cons_append, List.map_cons, List.map_nil, List.length_cons, List.length_nil, List.set_cons_zero, List.set_cons_succ, List.take_succ_cons, List.take_zero, List.take_nil, List.drop_succ_cons, List.drop_zero, List.drop_nil, List.append_nil, List.all_cons, List.all_nil, Bool.and_true, Bool.true_and, Bool.and_false, Bool.false_and, Nat.reduceAdd, Nat.zero_add, Nat.add_zero, Nat.reduceEqDiff, if_true, if_false, reduceIte]))
    | (show DE _ _ _ _ _ _ _ _ _ _ _ _; first | (apply e_move; exact rfl; exact rfl; exact rfl) | (apply e_assign; exact rfl; exact rfl; exact rfl))
    | (show DE _ _ _ _ _ _ _ _ _ _ _ _; (first | (apply dr_nil; (focus ((repeat (first | exact trivial | exact Or.inr rfl | exact Or.inl (by kernel_rfl) | apply And.intro)); done))) | (apply e_rda; exact rfl; exact rfl; exact (ty rfl); exact rfl; exact rfl; exact (by first | rfl | assumption | ((try simp only [Nat.zero_add]); refine List.getElem?_set_self ?_; (try simp only [List.length_set]); assumption)); exact rfl; exact rfl; exact rfl) | (apply e_store; exact rfl; exact rfl; exact (ty rfl); exact rfl; exact (by first | rfl | assumption | ((try simp only [Nat.zero_add]); refine List.getElem?_set_self ?_; (try simp only [List.length_set]); assumption)); exact rfl; exact rfl; exact rfl; exact rfl) | (apply e_callC; exact rfl; exact rfl; exact rfl; exact rb _ 1; (focus ((repeat (first | exact trivial | refine ⟨by first | exact rfl | assumption, ?_⟩)); done)); exact rfl; skip)); (try simp only [put, rowsOf, plR, List.all_cons, selE, ovr, setH, del, cellsA, splice, isV, List.nil_append, List.cons_append, List.map_cons, List.map_nil, List.length_cons, List.length_nil, List.set_cons_zero, List.set_cons_succ, List.take_succ_cons, List.take_zero, List.take_nil, List.drop_succ_cons, List.drop_zero, List.drop_nil, List.append_nil, List.all_cons, List.all_nil, Bool.and_true, Bool.true_and, Bool.and_false, Bool.false_and, Nat.reduceAdd, Nat.zero_add, Nat.add_zero, Nat.reduceEqDiff, if_true, if_false, reduceIte]))
    | (show AW _ _ _ _ _ _ _ _; first | refine aw_region ?_ | (refine aw_seqk ?_; intro K hK) | (apply aw_cond_f; exact rfl; exact (by assumption)) | refine aw_ret ?_ | refine aw_exit ?_ | refine aw_skip ?_ | refine aw_drawE (id := 11) [0, 0, 0, 0, 8, 25, 59, 127, 255] [0, 0, 0, 0, 2, 2, 0, 0, 0, 0, 2] mixed (by kernel_rfl) ?_)
    | refine thn_n ?_
    | (refine hK _ _ _ ?_; clear hK K)
    | refine thn_e ?_
    | refine inb_same ?_
    | (clear hK K; refine hK _ _ _ ?_; clear hK K))); all_goals (repeat (clear hK K)))
      all_goals exact finc (mv 0 3) (.r4 _ _ _ _ _ _ _ _ (.agg _ _ _ _ _ rfl (.inr ⟨_, _, _, _, _, rfl, rfl, rfl, rfl⟩) (ty rfl) rfl (Nat.le_of_ble_eq_true rfl)) (.tmp _ _ rfl) (.tmp _ _ rfl) (.tmp _ _ rfl)) rfl (fun z hz => by simp at hz) ⟨rfl, trivial⟩ rfl
end Go.Proofs.Yteknfaldpajlpaa.Nb

namespace Go.Proofs.Yteknfaldpajlpaa.Nb
open Go Go.RowKit Go.Proofs.Yteknfaldpajlpaa.Aw Go.Proofs.Yteknfaldpajlpaa.In Go.Proofs.Yteknfaldpajlpaa.Il Go.Proofs.Yteknfaldpajlpaa.Sr
set_option linter.unusedSimpArgs false
set_option linter.unusedVariables false
set_option linter.unusedSectionVars false
attribute [local irreducible] AW SQ Step RO RC DE Thn InB
theorem lawFnRepair_of (hPd : ∀ (s : Sr) (k : Int), s.ok k → k ≤ 1000 → ∃ ds ap s', Pd s k ds ap s') (cs : List Int) (hc : ∀ b ∈ cs, 0 ≤ b ∧ b ≤ 255) (hnc : cs.length ≤ 9223372036854775807) (k : Nat) : RO Try.prog 7 [.dsl 1 (byL cs)] k (.v (.bool true)) [] k := by
  have hLong := b10Long_ro cs
  by_cases c0 : 1048576 < (cs.length : Int)
  · rw [decide_eq_true c0] at hLong
    refine RO.ofv' Try.func7 Try.ntmps7 rfl (goFn_of Try.func7 rfl (by kernel_rfl)) rfl rfl ?_
    ((repeat' (first
    | (show SQ _ _ _ _ _ _ _ _; first | apply sq_nil | (apply q_move; exact rfl; exact rfl) | (apply q_assign; exact rfl; exact rfl))
    | (show SQ _ _ _ _ _ _ _ _; (first | (apply q_callU; exact rfl; exact rfl; exact rfl; exact FzL.of rfl; exact hLong _)); (try simp only [put, rowsOf, plR, List.all_cons, selE, ovr, setH, del, cellsA, splice, isV, List.nil_append, List.cons_append, List.map_cons, List.map_nil, List.length_cons, List.length_nil, List.set_cons_zero, List.set_cons_succ, List.take_succ_cons, List.take_zero, List.take_nil, List.drop_succ_cons, List.drop_zero, List.drop_nil, List.append_nil, List.all_cons, List.all_nil, Bool.and_true, Bool.true_and, Bool.and_false, Bool.false_and, Nat.reduceAdd, Nat.zero_add, Nat.add_zero, Nat.reduceEqDiff, if_true, if_false, reduceIte]))
    | (show AW _ _ _ _ _ _ _ _; first | refine aw_region ?_ | (refine aw_seqk ?_; intro K hK) | (apply aw_cond_t; exact rfl; exact rfl) | refine aw_ret ?_)
    | refine thn_n ?_
    | (refine hK _ _ _ ?_; clear hK K)
    | refine thn_r ?_)); all_goals (repeat (clear hK K)))
    all_goals exact fin_r (fin_b rfl rfl)
  obtain ⟨ds, ap, list, frz, bu, hS, hA, l1, l2, hD⟩ := DrawRepair_of hPd cs hc hnc
  have hcl : cs.length ≤ 1048576 := by omega
  rcases rep_cases ds ap list frz hS hA (by omega) (by omega) bu with ⟨e, h0, h3, hR⟩ | ⟨hP, hst, hfr, hR⟩
  · exact repair_other cs hcl hD h0 h3 hR k
  have hfr2 : ∀ x ∈ frz, 0 ≤ x ∧ x < list.length := fun x hx => by
    simp only [frB, Bool.and_eq_true, Bool.not_eq_true', List.any_eq_false] at hfr
    have := hfr.2 x hx
    simp [inB] at this
    omega
  have hl := (stB_in hst).1
  rcases hR with ⟨hno, hR⟩ | ⟨out, ol, oa, ok, omin, hR⟩
  · rcases first_cases ds ap hS hA hP with ⟨e2, he2, hF⟩ | ⟨O, Ol, Oa, hF⟩
    · exact repair_none_no cs hcl hS hA hP hst hfr2 (by omega) hD hno hR he2 hF k
    · exact repair_none_yes cs hcl hS hA hP hst hfr2 (by omega) hD hno hR (Ol.trans hl.symm) Oa hF k
  · rcases first_cases ds ap hS hA hP with ⟨e2, he2, hF⟩ | ⟨O, Ol, Oa, hF⟩
    · exact repair_ok_no cs hcl hS hA hP hst hfr2 (by omega) hD ol oa ok omin hR he2 hF k
    · exact repair_ok_yes cs hcl hS hA hP hst hfr2 (by omega) hD ol oa ok omin hR (Ol.trans hl.symm) Oa hF k
end Go.Proofs.Yteknfaldpajlpaa.Nb

namespace Go.Proofs.Yteknfaldpajlpaa.Nb
open Go Go.RowKit Go.Proofs.Yteknfaldpajlpaa.Aw Go.Proofs.Yteknfaldpajlpaa.In Go.Proofs.Yteknfaldpajlpaa.Il Go.Proofs.Yteknfaldpajlpaa.Sr
set_option linter.unusedSimpArgs false
set_option linter.unusedVariables false
set_option linter.unusedSectionVars false
def ptF (m : Int) (z : Sr × List Int) : Nat → Sr × List Int
  | 0 => z
  | i + 1 => ((pk (ptF m z i).1 m).2, putV (ptF m z i).2 (pk (ptF m z i).1 m).1)
theorem ptF_ok {m : Int} {z : Sr × List Int} {k : Int} (h : z.1.ok k) : ∀ i : Nat, (ptF m z i).1.ok (k + 2 * (i : Int)) ∧ (ptF m z i).2.length ≤ z.2.length + i
  | 0 => ⟨h.mono (by omega), Nat.le_refl _⟩
  | i + 1 => ⟨(pk_ok m (ptF_ok h i).1).mono (by omega), by have := putV_len (ptF m z i).2 (pk (ptF m z i).1 m).1; have := (ptF_ok (m := m) h i).2; show (putV _ _).length ≤ _; omega⟩
def domQ (s : Sr) : Nat := (pk (pk s 5).2 6).1.toNat
def dom0 (s : Sr) : Sr × List Int := ((pk (pk s 5).2 6).2, [(pk s 5).1])
def dom1 (s : Sr) : Sr × List Int := ptF 9 (dom0 s) (domQ s)
theorem domQ_le (s : Sr) : domQ s ≤ 5 ∧ (pk (pk s 5).2 6).1 = (domQ s : Int) := by
  have := pk_bd (pk s 5).2 6 (by omega)
  unfold domQ; omega
theorem dom0_ok {s : Sr} {k : Int} (h : s.ok k) : (dom0 s).1.ok (k + 4) := (pk_ok 6 (pk_ok 5 h)).mono (by omega)
theorem dom1_ok {s : Sr} {k : Int} (h : s.ok k) : (dom1 s).1.ok (k + 14) ∧ (dom1 s).2.length ≤ 6 := by
  have h1 := ptF_ok (m := 9) (dom0_ok h) (domQ s)
  have h2 := (domQ_le s).1
  exact ⟨h1.1.mono (by omega), by have := h1.2; show (ptF 9 (dom0 s) (domQ s)).2.length ≤ 6; have e : (dom0 s).2.length = 1 := rfl; omega⟩
def domsF (s : Sr) : Nat → Sr × List (List Int)
  | 0 => (s, [])
  | i + 1 => ((dom1 (domsF s i).1).1, (domsF s i).2 ++ [(dom1 (domsF s i).1).2])
theorem domsF_ok {s : Sr} {k : Int} (h : s.ok k) : ∀ i : Nat, (domsF s i).1.ok (k + 14 * (i : Int)) ∧ (domsF s i).2.length = i ∧ ∀ d ∈ (domsF s i).2, d.length ≤ 100
  | 0 => ⟨h.mono (by omega), rfl, fun d hd => by cases hd⟩
  | i + 1 => by
    obtain ⟨h1, h2, h3⟩ := domsF_ok h i
    have g := dom1_ok h1
    refine ⟨g.1.mono (by omega), by simp [domsF, h2], fun d hd => ?_⟩
    rcases List.mem_append.1 hd with hd | hd
    · exact h3 d hd
    · rw [List.mem_singleton] at hd; subst hd; have := g.2; omega
def wrA (ap : List (List Int)) (i k : Nat) (d : Int) : List (List Int) := ap.set i ((ap.getD i []).set k d)
def Sq (n : Nat) (ap : List (List Int)) : Prop := ap.length = n ∧ ∀ l ∈ ap, l.length = n
theorem Sq.wr {n : Nat} {ap : List (List Int)} (h : Sq n ap) {i : Nat} (hi : i < n) (k : Nat) (d : Int) : Sq n (wrA ap i k d) := by
  refine ⟨by unfold wrA; rw [List.length_set]; exact h.1, fun l hl => ?_⟩
  rcases List.mem_or_eq_of_mem_set hl with hl | rfl
  · exact h.2 l hl
  · rw [List.length_set]
    have e : ap.getD i [] = ap[i]'(by rw [h.1]; exact hi) := by simp [List.getD, h.1, hi]
    rw [e]; exact h.2 _ (List.getElem_mem _)
theorem Sq.zero (n : Nat) : Sq n (List.replicate n (List.replicate n 0)) := ⟨List.length_replicate, fun l hl => by rw [(List.mem_replicate.1 hl).2, List.length_replicate]⟩
def apR (i : Nat) (z : Sr × List (List Int)) : Nat → Sr × List (List Int)
  | 0 => z
  | k + 1 => if ((pk (apR i z k).1 2).1 == 0) = true then ((pk (pk (apR i z k).1 2).2 3).2, wrA (wrA (apR i z k).2 i k (pk (pk (apR i z k).1 2).2 3).1) k i (pk (pk (apR i z k).1 2).2 3).1) else ((pk (apR i z k).1 2).2, (apR i z k).2)
def apF (z : Sr × List (List Int)) : Nat → Sr × List (List Int)
  | 0 => z
  | i + 1 => apR i (apF z i) i
theorem apR_ok {n i : Nat} {z : Sr × List (List Int)} {K : Int} (hz : z.1.ok K) (hs : Sq n z.2) (hi : i < n) : ∀ k : Nat, k ≤ i → (apR i z k).1.ok (K + 4 * (k : Int)) ∧ Sq n (apR i z k).2
  | 0, _ => ⟨hz.mono (by omega), hs⟩
  | k + 1, hk => by
    obtain ⟨h1, h2⟩ := apR_ok hz hs hi k (by omega)
    unfold apR
    split
    · exact ⟨(pk_ok 3 (pk_ok 2 h1)).mono (by omega), (h2.wr hi _ _).wr (by omega) _ _⟩
    · exact ⟨(pk_ok 2 h1).mono (by omega), h2⟩
theorem apF_ok {n : Nat} {z : Sr × List (List Int)} {K : Int} (hz : z.1.ok K) (hs : Sq n z.2) (hn : n ≤ 25) : ∀ i : Nat, i ≤ n → (apF z i).1.ok (K + 100 * (i : Int)) ∧ Sq n (apF z i).2
  | 0, _ => ⟨hz.mono (by omega), hs⟩
  | i + 1, hi => by
    obtain ⟨h1, h2⟩ := apF_ok hz hs hn i (by omega)
    obtain ⟨g1, g2⟩ := apR_ok h1 h2 (show i < n by omega) i (Nat.le_refl _)
    exact ⟨g1.mono (by omega), g2⟩
end Go.Proofs.Yteknfaldpajlpaa.Nb

namespace Go.Proofs.Yteknfaldpajlpaa.Nb
open Go Go.RowKit Go.Proofs.Yteknfaldpajlpaa.Aw Go.Proofs.Yteknfaldpajlpaa.In Go.Proofs.Yteknfaldpajlpaa.Il Go.Proofs.Yteknfaldpajlpaa.Sr
set_option linter.unusedSimpArgs false
set_option linter.unusedVariables false
set_option linter.unusedSectionVars false
attribute [local irreducible] AW SQ Step RO RC DE Thn InB
def zrN (n i : Nat) : List Blk := List.replicate i ⟨2, 1, true, (List.replicate n (0 : Int)).map inL⟩
theorem zrN_len (n i : Nat) : (zrN n i).length = i := List.length_replicate
theorem zrN_get {n i j : Nat} {c : Blk} (h : (zrN n i)[j]? = some c) : j < i ∧ c = ⟨2, 1, true, (List.replicate n (0 : Int)).map inL⟩ := by
  have hj := nlt h
  rw [zrN_len] at hj
  refine ⟨hj, ?_⟩
  simp only [zrN, List.getElem?_replicate, hj, if_true, Option.some.injEq] at h
  exact h.symm
theorem sub_pre {g n' base : Nat} {T T' : Tp} {H : Hp} {ρ : Nat → Nat} (pre : Hp) {bs : List Blk} (ht : subT T ρ n' T')
    (hp : ∀ p ∈ pre, Aw.look H (ρ p.1) = some (renB ρ p.2) ∧ idsOkB n' p.2 = true ∧ p.1 < n') (hn : ∀ (j : Nat) (c : Blk), bs[j]? = some c → Aw.look H (ρ (base + j)) = some c ∧ c.pl = true) (hb : base + bs.length ≤ n')
    (hi : ∀ a c, (a ∈ pre.map (·.1) ∨ base ≤ a ∧ a < base + bs.length) → (c ∈ pre.map (·.1) ∨ base ≤ c ∧ c < base + bs.length) → ρ a = ρ c → a = c) (hpin : PinOk g ρ n') :
    Sub g T H ρ T' (pre ++ nst base bs) n' := by
  refine ⟨ht, subH_of _ fun p hm => ?_, injB_of fun a ha c hc => hi a c ?_ ?_, hpin⟩
  · rcases List.mem_append.1 hm with h | h
    · exact hp p h
    · obtain ⟨j, hj, e⟩ := nst_mem bs base p h
      have := nlt hj
      obtain ⟨h1, h2⟩ := hn j _ hj
      obtain ⟨a, ty, sz, pl, rows⟩ := p
      dsimp only at e h1 h2 hj ⊢
      subst e h2
      exact ⟨h1, rfl, by omega⟩
  · rw [List.map_append, nst_keys] at ha
    rcases List.mem_append.1 ha with h | h
    · exact .inl h
    · exact .inr (List.mem_range'_1.1 h)
  · rw [List.map_append, nst_keys] at hc
    rcases List.mem_append.1 hc with h | h
    · exact .inl h
    · exact .inr (List.mem_range'_1.1 h)
theorem nbL_ids (n : Nat) (ls : List (List Int)) : (nbL ls).all (idsOkL n) = true := by
  rw [List.all_eq_true]
  intro r hr
  obtain ⟨l, _, rfl⟩ := List.mem_map.1 hr
  rfl
theorem nbL_ren (σ : Nat → Nat) (ls : List (List Int)) : (nbL ls).map (renL σ) = nbL ls := by
  unfold nbL
  rw [List.map_map]
  rfl
theorem renB_nb (σ : Nat → Nat) (ty : TypeId) (ls : List (List Int)) : renB σ ⟨ty, 1, false, nbL ls⟩ = ⟨ty, 1, false, nbL ls⟩ := by
  unfold renB
  dsimp only
  rw [nbL_ren]
theorem renB_oR {σ : Nat → Nat} {ty : TypeId} {lens : List Nat} {b : Nat} (h : ∀ j, j < lens.length → σ (b + j) = b + j) : renB σ ⟨ty, 1, false, outR b lens⟩ = ⟨ty, 1, false, outR b lens⟩ := by
  unfold renB
  dsimp only
  rw [outR_ren lens b b h]
end Go.Proofs.Yteknfaldpajlpaa.Nb
