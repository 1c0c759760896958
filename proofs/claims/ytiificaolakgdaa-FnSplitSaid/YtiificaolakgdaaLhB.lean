/-
  Equal lists of licences.
-/
import Derived.Test.YtiificaolakgdaaLhA
import Derived.Test.YtiificaolakgdaaLeA
namespace Go.Proofs.Ytiificaolakgdaa.Li
open Go Go.RowKit Go.Proofs.Ytiificaolakgdaa.Aw Go.Proofs.Ytiificaolakgdaa.Ar
set_option linter.unusedSimpArgs false
set_option linter.unusedVariables false
attribute [local irreducible] AW SQ Step RO RC DE Thn InB

def licV (l : Lic) : List Value := [.string l.id, .string l.ho, .int .i64 l.lo, .int .i64 l.hi, .int .i64 l.x, .int .i64 l.y, .int .i64 l.e, .int .i64 l.n, .int .i64 l.fr, .int .i64 l.un, .int .i64 l.po]
def eqLB (a b : Lic) : Bool := a.id.toList == b.id.toList && a.ho.toList == b.ho.toList && a.lo == b.lo && a.hi == b.hi && (a.x == b.x && a.y == b.y && a.e == b.e && a.n == b.n) && a.fr == b.fr && a.un == b.un && a.po == b.po
theorem eqLB_run (a b : Lic) (w : World) : (Op.equalIn 10000 29 (.agg (licV a).toArray) (.agg (licV b).toArray)).run Try.prog w = .ok (eqLB a b) w := Le.eqLic _ _ _ _ _ _ _ _ _ _ _ _ _ _ _ _ _ _ _ _ _ _ w
def sameB : List Lic → List Lic → Bool
  | [], [] => true
  | x :: xs, y :: ys => eqLB x y && sameB xs ys
  | _, _ => false
theorem sameB_len : ∀ {xs ys : List Lic}, xs.length ≠ ys.length → sameB xs ys = false
  | [], [], h => by simp at h
  | [], y :: ys, h => rfl
  | x :: xs, [], h => rfl
  | x :: xs, y :: ys, h => by simp only [sameB]; rw [sameB_len (by simpa using h)]; simp
set_option maxHeartbeats 4000000 in
theorem specSameHoldings_ro (xs ys : List Lic) (hn : xs.length ≤ 1048576) (k : Nat) : RO Try.prog 19 [.dsl 11 (xs.map licL), .dsl 11 (ys.map licL)] k (.v (.bool (sameB xs ys))) [] k := by
  by_cases hl : xs.length = ys.length
  · have b1 : (((xs.map licL).length : Int) != ((ys.map licL).length : Int)) = false := by simp [hl]
    refine RO.ofv' Try.func19 Try.ntmps19 rfl (goFn_of Try.func19 rfl (by kernel_rfl)) rfl rfl ?_
    ((repeat' (first
    | (show SQ _ _ _ _ _ _ _ _; first | apply sq_nil | (apply q_move; exact rfl; exact rfl) | (apply q_assign; exact rfl; exact rfl) | (apply q_lend; exact rfl; exact rfl; exact (ty rfl); exact rfl) | (apply q_neq; exact rfl; exact rfl; exact rfl))
    | (show AW _ _ _ _ _ _ _ _; first | refine aw_region ?_ | (refine aw_seqk ?_; intro K hK) | refine aw_block ?_ | (apply aw_cond_f; exact rfl; exact (by assumption)) | refine aw_skip ?_)
    | refine thn_n ?_
    | (refine hK _ _ _ ?_; clear hK K))); all_goals (repeat (clear hK K)))
    refine aw_loop (ρ := id) (ι := Nat) (fun i => ([(5, .v (.int .i64 i)), (1, .dsl 11 (ys.map licL)), (0, .dsl 11 (xs.map licL))], [], 0))
      (fun i => i ≤ xs.length ∧ sameB (xs.drop i) (ys.drop i) = sameB xs ys) (fun i => xs.length - i) 0 ⟨Nat.zero_le _, rfl⟩ ⟨by refine ⟨lk_i rfl rfl, ?_⟩; (repeat (first | exact trivial | refine ⟨lk_d rfl rfl, ?_⟩ | refine ⟨lk_i rfl (by simp), ?_⟩)), trivial, rfl, pin_0⟩ ?_
    rintro i ⟨hi, hs⟩
    by_cases c2 : i < xs.length
    · have c3 : i < ys.length := by omega
      have b2 : decide ((i : Int) < ((xs.map licL).length : Int)) = true := by simpa using c2
      have b2' : decide ((i : Int) < (xs.length : Int)) = true := by simpa using c2
      have hrow : (xs.map licL)[((i : Int)).toNat]? = some (licL xs[i]) := by simp [c2]
      have hrow2 : (ys.map licL)[((i : Int)).toNat]? = some (licL ys[i]) := by simp [c3]
      have heq := eqLB_run xs[i] ys[i]
      rw [List.drop_eq_getElem_cons c2, List.drop_eq_getElem_cons c3] at hs
      by_cases c4 : eqLB xs[i] ys[i] = true
      · have b4 : (!eqLB xs[i] ys[i]) = false := by rw [c4]; rfl
        ((repeat' (first
    | (show SQ _ _ _ _ _ _ _ _; first | apply sq_nil | (apply q_move; exact rfl; exact rfl) | (apply q_assign; exact rfl; exact rfl) | (apply q_lend; exact rfl; exact rfl; exact (ty rfl); exact rfl) | (apply q_add; exact rfl; exact rfl; exact rfl) | (apply q_lss; exact rfl; exact rfl; exact rfl))
    | (show DE _ _ _ _ _ _ _ _ _ _ _ _; first | (apply e_move; exact rfl; exact rfl; exact rfl) | (apply e_ixd; exact rfl; exact rfl; exact rfl; exact (ty rfl); exact rfl; exact (by first | omega | (simp; done) | (simp; omega)); exact (by first | omega | (simp; done) | (simp; omega)); exact (by first | rfl | assumption); exact rfl) | (apply e_nea; exact rfl; exact rfl; exact rfl; kernel_rfl; assumption; exact rfl; exact rfl; exact rfl))
    | (show DE _ _ _ _ _ _ _ _ _ _ _ _; (first | (apply dr_nil; exact rfl) | (apply e_ldad; exact rfl; exact rfl; exact (ty rfl); exact rfl; exact rfl; exact rfl)); (try simp only [put, rowsOf, plR, List.all_cons, selE, ovr, setH, del, cellsA, splice, isV, List.nil_append, List.cons_append, List.map_cons, List.map_nil, List.length_cons, List.length_nil, List.set_cons_zero, List.set_cons_succ, List.take_succ_cons, List.take_zero, List.take_nil, List.drop_succ_cons, List.drop_zero, List.drop_nil, List.append_nil, List.all_cons, List.all_nil, Bool.and_true, Bool.true_and, Bool.and_false, Bool.false_and, Nat.reduceAdd, Nat.zero_add, Nat.add_zero, Nat.reduceEqDiff, if_true, if_false, reduceIte]))
    | (show AW _ _ _ _ _ _ _ _; first | refine aw_region ?_ | (refine aw_seqk ?_; intro K hK) | refine aw_block ?_ | (apply aw_cond_t; exact rfl; exact (by assumption)) | (apply aw_cond_f; exact rfl; exact (by assumption)) | refine aw_skip ?_ | refine aw_drawE (id := 6) [0, 0, 3, 7, 0, 0, 48, 112, 255] [0, 0, 0, 1, 0, 0, 0, 1, 0] mixed (by kernel_rfl) ?_)
    | refine thn_n ?_
    | (refine hK _ _ _ ?_; clear hK K)
    | refine inb_n ?_)); all_goals (repeat (clear hK K)))
        refine ⟨i + 1, id, ⟨c2, by rw [← hs]; simp [sameB, c4]⟩, by omega, ⟨by refine ⟨lk_i rfl (by rw [IntWalk.i64_in _ (by omega)]; rfl), ?_⟩; (repeat (first | exact trivial | refine ⟨lk_d rfl rfl, ?_⟩ | refine ⟨lk_i rfl rfl, ?_⟩)), trivial, rfl, pin_0⟩⟩
      · have b4 : (!eqLB xs[i] ys[i]) = true := by simpa using c4
        ((repeat' (first
    | (show SQ _ _ _ _ _ _ _ _; first | apply sq_nil | (apply q_move; exact rfl; exact rfl) | (apply q_assign; exact rfl; exact rfl) | (apply q_lend; exact rfl; exact rfl; exact (ty rfl); exact rfl) | (apply q_lss; exact rfl; exact rfl; exact rfl))
    | (show DE _ _ _ _ _ _ _ _ _ _ _ _; first | (apply e_move; exact rfl; exact rfl; exact rfl) | (apply e_ixd; exact rfl; exact rfl; exact rfl; exact (ty rfl); exact rfl; exact (by first | omega | (simp; done) | (simp; omega)); exact (by first | omega | (simp; done) | (simp; omega)); exact (by first | rfl | assumption); exact rfl) | (apply e_nea; exact rfl; exact rfl; exact rfl; kernel_rfl; assumption; exact rfl; exact rfl; exact rfl))
    | (show DE _ _ _ _ _ _ _ _ _ _ _ _; (first | (apply dr_nil; exact rfl) | (apply e_ldad; exact rfl; exact rfl; exact (ty rfl); exact rfl; exact rfl; exact rfl)); (try simp only [put, rowsOf, plR, List.all_cons, selE, ovr, setH, del, cellsA, splice, isV, List.nil_append, List.cons_append, List.map_cons, List.map_nil, List.length_cons, List.length_nil, List.set_cons_zero, List.set_cons_succ, List.take_succ_cons, List.take_zero, List.take_nil, List.drop_succ_cons, List.drop_zero, List.drop_nil, List.append_nil, List.all_cons, List.all_nil, Bool.and_true, Bool.true_and, Bool.and_false, Bool.false_and, Nat.reduceAdd, Nat.zero_add, Nat.add_zero, Nat.reduceEqDiff, if_true, if_false, reduceIte]))
    | (show AW _ _ _ _ _ _ _ _; first | refine aw_region ?_ | (refine aw_seqk ?_; intro K hK) | refine aw_block ?_ | (apply aw_cond_t; exact rfl; exact (by assumption)) | refine aw_ret ?_ | refine aw_skip ?_ | refine aw_drawE (id := 6) [0, 0, 3, 7, 0, 0, 48, 112, 255] [0, 0, 0, 1, 0, 0, 0, 1, 0] mixed (by kernel_rfl) ?_)
    | refine thn_n ?_
    | (refine hK _ _ _ ?_; clear hK K)
    | refine thn_r ?_
    | refine inb_r ?_)); all_goals (repeat (clear hK K)))
        all_goals refine fin_r (fin_b rfl ?_)
        rw [← hs]; simp [sameB, c4]
    · have b2 : decide ((i : Int) < ((xs.map licL).length : Int)) = false := by simpa using c2
      have b2' : decide ((i : Int) < (xs.length : Int)) = false := by simpa using c2
      ((repeat' (first
    | (show SQ _ _ _ _ _ _ _ _; first | apply sq_nil | (apply q_move; exact rfl; exact rfl) | (apply q_assign; exact rfl; exact rfl) | (apply q_lend; exact rfl; exact rfl; exact (ty rfl); exact rfl) | (apply q_lss; exact rfl; exact rfl; exact rfl))
    | (show AW _ _ _ _ _ _ _ _; first | refine aw_region ?_ | (refine aw_seqk ?_; intro K hK) | (apply aw_cond_f; exact rfl; exact (by assumption)) | refine aw_ret ?_ | refine aw_exit ?_)
    | refine thn_n ?_
    | (refine hK _ _ _ ?_; clear hK K)
    | refine thn_e ?_
    | refine inb_same ?_
    | (clear hK K; refine hK _ _ _ ?_; clear hK K))); all_goals (repeat (clear hK K)))
      all_goals refine fin_r (fin_b rfl ?_)
      rw [← hs, List.drop_eq_nil_of_le (by omega), List.drop_eq_nil_of_le (by omega)]; rfl
  · have b1 : (((xs.map licL).length : Int) != ((ys.map licL).length : Int)) = true := by simp; omega
    refine RO.ofv' Try.func19 Try.ntmps19 rfl (goFn_of Try.func19 rfl (by kernel_rfl)) rfl rfl ?_
    ((repeat' (first
    | (show SQ _ _ _ _ _ _ _ _; first | apply sq_nil | (apply q_move; exact rfl; exact rfl) | (apply q_assign; exact rfl; exact rfl) | (apply q_lend; exact rfl; exact rfl; exact (ty rfl); exact rfl) | (apply q_neq; exact rfl; exact rfl; exact rfl))
    | (show AW _ _ _ _ _ _ _ _; first | refine aw_region ?_ | (refine aw_seqk ?_; intro K hK) | (apply aw_cond_t; exact rfl; exact (by assumption)) | refine aw_ret ?_)
    | refine thn_n ?_
    | (refine hK _ _ _ ?_; clear hK K)
    | refine thn_r ?_)); all_goals (repeat (clear hK K)))
    all_goals refine fin_r (fin_b rfl ?_)
    rw [sameB_len hl]
end Go.Proofs.Ytiificaolakgdaa.Li
