/-
  Best routes: the reference's ways and their order.
-/
import Derived.Test.YtglfcaioapdiaaaLkB
namespace Go.Proofs.Ytglfcaioapdiaaa.Bk
open Go Go.RowKit Go.Proofs.Ytglfcaioapdiaaa.Aw
set_option linter.unusedSimpArgs false
set_option linter.unusedVariables false
attribute [local irreducible] AW SQ Step RO RC DE Thn InB

structure Wy where
  p : List Int
  c : Int
  f : Bool
def wyL (w : Wy) : List AV := [.dsl 1 (w.p.map inL), .v (.int .i64 w.c), .v (.bool w.f)]
theorem wyL_eq (w : Wy) : wyL w = [.dsl 1 (w.p.map inL), .v (.int .i64 w.c), .v (.bool w.f)] := rfl
def wyz : Wy := ⟨[], 0, false⟩
def lessL : List Int → List Int → Bool
  | x :: xs, y :: ys => if x = y then lessL xs ys else decide (x < y)
  | _, _ => false
def better (a b : Wy) : Bool := if b.f = false then true else if a.c = b.c then (if (a.p.length : Int) = (b.p.length : Int) then lessL a.p b.p else decide ((a.p.length : Int) < (b.p.length : Int))) else decide (a.c < b.c)

set_option maxHeartbeats 4000000 in
theorem l25Less_ro (xs ys : List Int) (hx : xs.length ≤ 1048576) (hy : ys.length ≤ 1048576) (k : Nat) : RO Try.prog 117 [.dsl 1 (xs.map inL), .dsl 1 (ys.map inL)] k (.v (.bool (lessL xs ys))) [] k := by
  refine RO.ofv' Try.func117 Try.ntmps117 rfl (goFn_of Try.func117 rfl (by kernel_rfl)) rfl rfl ?_
  ((repeat' (first
    | (show SQ _ _ _ _ _ _ _ _; first | apply sq_nil | (apply q_assign; exact rfl; exact rfl))
    | (show AW _ _ _ _ _ _ _ _; first | refine aw_region ?_ | (refine aw_seqk ?_; intro K hK) | refine aw_block ?_)
    | refine thn_n ?_
    | (refine hK _ _ _ ?_; clear hK K))); all_goals (repeat (clear hK K)))
  refine aw_loop (ρ := id) (ι := Nat) (fun i => ([(5, .v (.int .i64 i)), (1, .dsl 1 (ys.map inL)), (0, .dsl 1 (xs.map inL))], [], 0))
    (fun i => i ≤ xs.length ∧ i ≤ ys.length ∧ lessL (xs.drop i) (ys.drop i) = lessL xs ys) (fun i => xs.length - i) 0 ⟨Nat.zero_le _, Nat.zero_le _, rfl⟩ ⟨by (repeat (refine ⟨by first | exact lk_i rfl rfl | exact lk_d rfl rfl, ?_⟩)); exact trivial, by exact trivial, by rfl, by exact pin_0⟩ ?_
  rintro i ⟨hi, hj, he⟩
  by_cases c1 : i < xs.length
  · have b1 : decide ((i : Int) < ((xs.map inL).length : Int)) = true := by simpa using c1
    by_cases c2 : i < ys.length
    · have b2 : decide ((i : Int) < ((ys.map inL).length : Int)) = true := by simpa using c2
      have hr1 : (xs.map inL)[((i : Int)).toNat]? = some (inL xs[i]) := by simp [c1]
      have hr2 : (ys.map inL)[((i : Int)).toNat]? = some (inL ys[i]) := by simp [c2]
      rw [inL_eq] at hr1 hr2
      rw [List.drop_eq_getElem_cons c1, List.drop_eq_getElem_cons c2, lessL] at he
      generalize xs[i] = x at *
      generalize ys[i] = y at *
      ((repeat' (first
    | (show SQ _ _ _ _ _ _ _ _; first | apply sq_nil | (apply q_move; exact rfl; exact rfl) | (apply q_assign; exact rfl; exact rfl) | (apply q_pick_t; exact rfl; exact rfl; exact rfl; exact (by first | assumption | exact rfl)) | (apply q_lend; exact rfl; exact rfl; exact (ty rfl); exact rfl) | (apply q_add; exact rfl; exact rfl; exact rfl) | (apply q_lss; exact rfl; exact rfl; exact rfl) | (apply q_g; exact rfl; exact rfl; exact rfl; exact (by assumption)))
    | (show DE _ _ _ _ _ _ _ _ _ _ _ _; first | (apply e_move; exact rfl; exact rfl; exact rfl) | (apply e_assign; exact rfl; exact rfl; exact rfl) | (apply e_neq; exact rfl; exact rfl; exact rfl; exact rfl) | (apply e_lss; exact rfl; exact rfl; exact rfl; exact rfl) | (apply e_ixd; exact rfl; exact rfl; exact rfl; exact (ty rfl); exact rfl; exact (by first | omega | (simp; done) | (simp; omega)); exact (by first | omega | (simp; done) | (simp; omega)); exact (by first | rfl | assumption); exact rfl) | (apply e_ld1d; exact rfl; exact rfl; exact (ty rfl); exact rfl; exact rfl; exact rfl))
    | (show DE _ _ _ _ _ _ _ _ _ _ _ _; (first | (apply dr_nil; exact trivial)); (try simp only [put, rowsOf, plR, List.all_cons, selE, ovr, setH, del, cellsA, splice, isV, List.nil_append, List.cons_append, List.map_cons, List.map_nil, List.length_cons, List.length_nil, List.set_cons_zero, List.set_cons_succ, List.take_succ_cons, List.take_zero, List.take_nil, List.drop_succ_cons, List.drop_zero, List.drop_nil, List.append_nil, List.all_cons, List.all_nil, Bool.and_true, Bool.true_and, Bool.and_false, Bool.false_and, Nat.reduceAdd, Nat.zero_add, Nat.add_zero, Nat.reduceEqDiff, if_true, if_false, reduceIte]))
    | (show AW _ _ _ _ _ _ _ _; first | refine aw_region ?_ | (refine aw_seqk ?_; intro K hK) | refine aw_block ?_ | (apply aw_cond_t; exact rfl; exact (by assumption)) | refine aw_ret ?_ | refine aw_skip ?_ | refine aw_drawE (id := 4) [0, 0, 3, 7, 0, 0, 48, 112, 255] [0, 0, 0, 1, 0, 0, 0, 1, 0] mixed (by kernel_rfl) ?_ | refine aw_drawE (id := 5) [0, 0, 3, 7, 0, 0, 48, 112, 255, 511] [0, 0, 0, 1, 0, 0, 0, 1, 0, 0] mixed (by kernel_rfl) ?_ | (apply aw_ite; exact rfl; all_goals intro h))
    | refine thn_n ?_
    | (refine hK _ _ _ ?_; clear hK K)
    | refine thn_r ?_
    | refine inb_n ?_
    | refine inb_r ?_)); all_goals (repeat (clear hK K)))
      all_goals first
        | (refine fin_r (fin_b rfl ?_); rw [← he]; simp_all; done)
        | (refine ⟨i + 1, id, ⟨c1, c2, ?_⟩, by omega, ⟨by (repeat (refine ⟨by first | exact lk_i rfl (by (try dsimp only); first | rfl | omega | (rw [IntWalk.i64_in _ (by omega)]; first | rfl | omega | (push_cast; omega)) | (simp; done) | (simp; omega)) | exact lk_d rfl rfl, ?_⟩)); exact trivial, by exact trivial, by rfl, by exact pin_0⟩⟩; simp_all)
    · have b2 : decide ((i : Int) < ((ys.map inL).length : Int)) = false := by simpa using c2
      ((repeat' (first
    | (show SQ _ _ _ _ _ _ _ _; first | apply sq_nil | (apply q_move; exact rfl; exact rfl) | (apply q_assign; exact rfl; exact rfl) | (apply q_pick_t; exact rfl; exact rfl; exact rfl; exact (by first | assumption | exact rfl)) | (apply q_lend; exact rfl; exact rfl; exact (ty rfl); exact rfl) | (apply q_lss; exact rfl; exact rfl; exact rfl) | (apply q_g; exact rfl; exact rfl; exact rfl; exact (by assumption)))
    | (show AW _ _ _ _ _ _ _ _; first | refine aw_region ?_ | (refine aw_seqk ?_; intro K hK) | (apply aw_cond_f; exact rfl; exact (by assumption)) | refine aw_ret ?_ | refine aw_exit ?_)
    | refine thn_n ?_
    | (refine hK _ _ _ ?_; clear hK K)
    | refine thn_e ?_
    | refine inb_same ?_
    | (clear hK K; refine hK _ _ _ ?_; clear hK K))); all_goals (repeat (clear hK K)))
      all_goals refine fin_r (fin_b rfl ?_)
      have hd : ys.drop i = [] := List.drop_eq_nil_of_le (by omega)
      rw [← he, hd]
      cases xs.drop i <;> rfl
  · have b1 : decide ((i : Int) < ((xs.map inL).length : Int)) = false := by simpa using c1
    ((repeat' (first
    | (show SQ _ _ _ _ _ _ _ _; first | apply sq_nil | (apply q_move; exact rfl; exact rfl) | (apply q_assign; exact rfl; exact rfl) | (apply q_pick_f; exact rfl; exact rfl; exact rfl; exact (by first | assumption | exact rfl)) | (apply q_lend; exact rfl; exact rfl; exact (ty rfl); exact rfl) | (apply q_lss; exact rfl; exact rfl; exact rfl) | (apply q_s; exact rfl; exact rfl; exact rfl; exact (by assumption); exact rfl))
    | (show AW _ _ _ _ _ _ _ _; first | refine aw_region ?_ | (refine aw_seqk ?_; intro K hK) | (apply aw_cond_f; exact rfl; exact rfl) | refine aw_ret ?_ | refine aw_exit ?_)
    | refine thn_n ?_
    | (refine hK _ _ _ ?_; clear hK K)
    | refine thn_e ?_
    | refine inb_same ?_
    | (clear hK K; refine hK _ _ _ ?_; clear hK K))); all_goals (repeat (clear hK K)))
    all_goals refine fin_r (fin_b rfl ?_)
    have hd : xs.drop i = [] := List.drop_eq_nil_of_le (by omega)
    rw [← he, hd]
    rfl

set_option maxHeartbeats 4000000 in
theorem l25Better_ro (a b : Wy) (hx : a.p.length ≤ 1048576) (hy : b.p.length ≤ 1048576) (k : Nat) : RO Try.prog 89 [.dptr (wyL a), .dptr (wyL b)] k (.v (.bool (better a b))) [] k := by
  have hc := l25Less_ro a.p b.p hx hy
  have h1 : (a.p.map inL).length = a.p.length := List.length_map _
  have h2 : (b.p.map inL).length = b.p.length := List.length_map _
  refine RO.ofv' Try.func89 Try.ntmps89 rfl (goFn_of Try.func89 rfl (by kernel_rfl)) rfl rfl ?_
  unfold wyL
  ((repeat' (first
    | (show SQ _ _ _ _ _ _ _ _; first | apply sq_nil | (apply q_move; exact rfl; exact rfl) | (apply q_assign; exact rfl; exact rfl) | (apply q_fieldAddr; exact rfl; exact rfl; exact (ty rfl); exact rfl; exact rfl; exact rfl; exact rfl) | (apply q_nilc; exact rfl; exact rfl; exact rfl) | (apply q_not; exact rfl; exact rfl) | (apply q_ld1d; exact rfl; exact rfl; exact (ty rfl); exact rfl; exact rfl))
    | (show DE _ _ _ _ _ _ _ _ _ _ _ _; first | (apply e_move; exact rfl; exact rfl; exact rfl) | (apply e_assign; exact rfl; exact rfl; exact rfl) | (apply e_fieldAddr; exact rfl; exact rfl; exact (ty rfl); exact rfl; exact rfl; exact rfl; exact rfl; exact rfl) | (apply e_nilc; exact rfl; exact rfl; exact rfl; exact rfl) | (apply e_lend; exact rfl; exact rfl; exact (ty rfl); exact rfl; exact rfl) | (apply e_neq; exact rfl; exact rfl; exact rfl; exact rfl) | (apply e_lss; exact rfl; exact rfl; exact rfl; exact rfl) | (apply e_ld1d; exact rfl; exact rfl; exact (ty rfl); exact rfl; exact rfl; exact rfl))
    | (show DE _ _ _ _ _ _ _ _ _ _ _ _; (first | (apply dr_nil; exact trivial) | (apply e_callU; exact rfl; exact rfl; exact rfl; exact FzL.of rfl; exact hc _; exact rfl)); (try simp only [put, rowsOf, plR, List.all_cons, selE, ovr, setH, del, cellsA, splice, isV, List.nil_append, List.cons_append, List.map_cons, List.map_nil, List.length_cons, List.length_nil, List.set_cons_zero, List.set_cons_succ, List.take_succ_cons, List.take_zero, List.take_nil, List.drop_succ_cons, List.drop_zero, List.drop_nil, List.append_nil, List.all_cons, List.all_nil, Bool.and_true, Bool.true_and, Bool.and_false, Bool.false_and, Nat.reduceAdd, Nat.zero_add, Nat.add_zero, Nat.reduceEqDiff, if_true, if_false, reduceIte]))
    | (show AW _ _ _ _ _ _ _ _; first | refine aw_region ?_ | (refine aw_seqk ?_; intro K hK) | refine aw_ret ?_ | refine aw_skip ?_ | refine aw_drawE (id := 3) [0, 1, 3, 7, 0, 16, 48, 112, 255] [0, 0, 0, 1, 0, 0, 0, 1, 0] mixed (by kernel_rfl) ?_ | refine aw_drawE (id := 4) [0, 1, 3, 7, 0, 16, 48, 112, 255, 511] [0, 0, 0, 1, 0, 0, 0, 1, 0, 0] mixed (by kernel_rfl) ?_ | refine aw_drawE (id := 5) [0, 1, 3, 7, 15, 0, 32, 96, 224, 480, 1023] [0, 0, 0, 1, 0, 0, 0, 0, 1, 0, 0] mixed (by kernel_rfl) ?_ | refine aw_drawE (id := 6) [0, 1, 3, 7, 15, 0, 32, 96, 224, 480, 1023, 2047] [0, 0, 0, 1, 0, 0, 0, 0, 1, 0, 0, 0] mixed (by kernel_rfl) ?_ | refine aw_drawE (id := 7) [0, 1, 3, 7, 0, 16, 48, 112, 255, 511] [0, 0, 0, 1, 0, 0, 0, 1, 1, 0] mixed (by kernel_rfl) ?_ | (apply aw_ite; exact rfl; all_goals intro h))
    | refine thn_n ?_
    | (refine hK _ _ _ ?_; clear hK K)
    | refine thn_r ?_)); all_goals (repeat (clear hK K)))
  all_goals refine fin_r (fin_b rfl ?_)
  all_goals simp only [h1, h2] at *
  all_goals (unfold better; simp_all)

set_option maxHeartbeats 4000000 in
theorem l00Own_ro (xs : List Int) (hx : xs.length ≤ 1048576) (k : Nat) : RO Try.prog 88 [.dsl 1 (xs.map inL)] k (.sl k 0 xs.length) [(k, ⟨2, 1, true, xs.map inL⟩)] (k + 1) := by
  refine RO.ofm (.sl 0 0 xs.length) ([(0, ⟨2, 1, true, xs.map inL⟩)]) 1 Try.func88 Try.ntmps88 rfl (goFn_of Try.func88 rfl (by kernel_rfl)) rfl rfl (by simp [renA, renL]) (by simp [shH, renB]) rfl ?_
  have h1 : (xs.map inL).length = xs.length := List.length_map _
  have hp : ((xs.map inL).all fun r => r.all isV) = true := by simp [inL, isV]
  ((repeat' (first
    | (show SQ _ _ _ _ _ _ _ _; first | apply sq_nil | (apply q_move; exact rfl; exact rfl) | (apply q_assign; exact rfl; exact rfl))
    | (show SQ _ _ _ _ _ _ _ _; (first | (apply q_build0; exact rfl; exact (ty rfl); exact rfl) | (apply q_apo_d; exact rfl; exact rfl; exact rfl; exact (ty rfl); exact rfl; exact rfl; exact (by first | omega | (simp; done) | (simp; omega)); exact (by first | exact List.take_of_length_le (by first | omega | (simp; done) | (simp; omega)) | rfl); exact (ty rfl); exact rfl; exact rfl; exact (by first | omega | (simp; done) | (simp; omega)); exact (by first | omega | (simp; done) | (simp; omega)); exact (by first | assumption | exact rfl))); (try simp only [put, rowsOf, plR, List.all_cons, selE, ovr, setH, del, cellsA, splice, isV, List.nil_append, List.cons_append, List.map_cons, List.map_nil, List.length_cons, List.length_nil, List.set_cons_zero, List.set_cons_succ, List.take_succ_cons, List.take_zero, List.take_nil, List.drop_succ_cons, List.drop_zero, List.drop_nil, List.append_nil, List.all_cons, List.all_nil, Bool.and_true, Bool.true_and, Bool.and_false, Bool.false_and, Nat.reduceAdd, Nat.zero_add, Nat.add_zero, Nat.reduceEqDiff, if_true, if_false, reduceIte]))
    | (show AW _ _ _ _ _ _ _ _; first | refine aw_region ?_ | (refine aw_seqk ?_; intro K hK) | refine aw_ret ?_)
    | refine thn_n ?_
    | (refine hK _ _ _ ?_; clear hK K))); all_goals (repeat (clear hK K)))
  all_goals exact fin_r (fin_m rfl rfl _ _ h1 rfl)

end Go.Proofs.Ytglfcaioapdiaaa.Bk
