/-
  What the law FnExactRepairFewest rests on, part 3.
-/
import Derived.Test.YteknfaldpajlpaaZFnExactRepairFewest2
namespace Go.Proofs.Yteknfaldpajlpaa.Il
open Go Go.RowKit Go.Proofs.Yteknfaldpajlpaa.Aw Go.Proofs.Yteknfaldpajlpaa.In
set_option linter.unusedSimpArgs false
set_option linter.unusedVariables false
attribute [local irreducible] AW SQ Step RO RC DE Thn InB
theorem allR_false {n : Nat} {f : Nat → Bool} {i : Nat} (hi : i < n) (h : f i = false) : (List.range n).all f = false := by
  cases ha : (List.range n).all f with
  | false => rfl
  | true => have := List.all_eq_true.1 ha i (List.mem_range.2 hi); rw [h] at this; cases this
theorem allR_true {n : Nat} {f : Nat → Bool} (h : ∀ i, i < n → f i = true) : (List.range n).all f = true :=
  List.all_eq_true.2 fun i hi => h i (List.mem_range.1 hi)
def incAt (xs : List Int) (i : Nat) : Bool := decide (i = 0) || decide (xs.getD (i - 1) 0 < xs.getD i 0)
theorem incAt0 (xs : List Int) : incAt xs 0 = true := rfl
def incB (xs : List Int) : Bool := (List.range xs.length).all (incAt xs)
def risB (xs : List Int) (lo hi : Int) : Bool := (List.range xs.length).all fun i => inB (xs.getD i 0) lo hi && incAt xs i
theorem risB_eq (xs : List Int) (lo hi : Int) : risB xs lo hi = (incB xs && !xs.any fun x => !inB x lo hi) := by
  rw [Bool.eq_iff_iff]
  simp only [risB, incB, Bool.and_eq_true, List.all_eq_true, List.mem_range, Bool.not_eq_true', List.any_eq_false, Bool.not_eq_true, Bool.not_eq_false']
  constructor
  · intro h
    refine ⟨fun i hi => (h i hi).2, fun x hx => ?_⟩
    obtain ⟨j, hj, rfl⟩ := List.getElem_of_mem hx
    have := (h j hj).1
    simpa [List.getD, hj] using this
  · rintro ⟨h, g⟩ i hi
    refine ⟨?_, h i hi⟩
    have := g xs[i] (List.getElem_mem hi)
    simpa [List.getD, hi] using this
set_option maxHeartbeats 4000000 in
theorem increasing_ro (xs : List Int) (hn : xs.length ≤ 1048576) (k : Nat) : RO Try.prog 68 [.dsl 1 (xs.map inL)] k (.v (.bool (incB xs))) [] k := by
  refine RO.ofv' Try.func68 Try.ntmps68 rfl (goFn_of Try.func68 rfl (by kernel_rfl)) rfl rfl ?_
  ((repeat' (first
    | (show SQ _ _ _ _ _ _ _ _; first | apply sq_nil | (apply q_assign; exact rfl; exact rfl))
    | (show AW _ _ _ _ _ _ _ _; first | refine aw_region ?_ | (refine aw_seqk ?_; intro K hK) | refine aw_block ?_)
    | refine thn_n ?_
    | (refine hK _ _ _ ?_; clear hK K))); all_goals (repeat (clear hK K)))
  refine aw_loop (ρ := id) (ι := Nat) (fun i => ([(3, .v (.int .i64 i)), (0, .dsl 1 (xs.map inL))], [], 0))
    (fun i => 1 ≤ i ∧ ∀ j, j < i → j < xs.length → incAt xs j = true) (fun i => xs.length - i) 1 ⟨Nat.le_refl _, fun j hj _ => (show j = 0 by omega) ▸ incAt0 xs⟩ ⟨by (repeat (refine ⟨by first | exact lk_i rfl rfl | exact lk_d rfl rfl, ?_⟩)); exact trivial, by exact trivial, by rfl, by exact pin_0⟩ ?_
  rintro i ⟨hi, hg⟩
  by_cases c2 : i < xs.length
  · have b2 : decide ((i : Int) < ((xs.map inL).length : Int)) = true := by simpa using c2
    have hrow : (xs.map inL)[((i : Int)).toNat]? = some (inL xs[i]) := by simp [c2]
    have hw2 : IntKind.i64.wrap ((i : Int) - 1) = (i : Int) - 1 := IntWalk.i64_in _ (by omega)
    have hrow2 : (xs.map inL)[(IntKind.i64.wrap ((i : Int) - 1)).toNat]? = some (inL xs[i - 1]) := by
      rw [hw2, show ((i : Int) - 1).toNat = i - 1 by omega]; simp [show i - 1 < xs.length by omega]
    rw [inL_eq] at hrow hrow2
    have hD : incAt xs i = decide (xs[i - 1] < xs[i]) := by simp [incAt, List.getD, c2, show i - 1 < xs.length by omega, show i ≠ 0 by omega]
    ((repeat' (first
    | (show SQ _ _ _ _ _ _ _ _; first | apply sq_nil | (apply q_move; exact rfl; exact rfl) | (apply q_assign; exact rfl; exact rfl) | (apply q_lend; exact rfl; exact rfl; exact (ty rfl); exact rfl) | (apply q_add; exact rfl; exact rfl; exact rfl) | (apply q_lss; exact rfl; exact rfl; exact rfl))
    | (show DE _ _ _ _ _ _ _ _ _ _ _ _; first | (apply e_move; exact rfl; exact rfl; exact rfl) | (apply e_sub; exact rfl; exact rfl; exact rfl; exact rfl) | (apply e_leq; exact rfl; exact rfl; exact rfl; exact rfl) | (apply e_ixd; exact rfl; exact rfl; exact rfl; exact (ty rfl); exact rfl; exact (by first | omega | (simp; done) | (simp; omega)); exact (by first | omega | (simp; done) | (simp; omega)); exact (by first | rfl | assumption); exact rfl) | (apply e_ld1d; exact rfl; exact rfl; exact (ty rfl); exact rfl; exact rfl; exact rfl))
    | (show DE _ _ _ _ _ _ _ _ _ _ _ _; (first | (apply dr_nil; exact trivial)); (try simp only [put, rowsOf, plR, List.all_cons, selE, ovr, setH, del, cellsA, splice, isV, List.nil_append, List.cons_append, List.map_cons, List.map_nil, List.length_cons, List.length_nil, List.set_cons_zero, List.set_cons_succ, List.take_succ_cons, List.take_zero, List.take_nil, List.drop_succ_cons, List.drop_zero, List.drop_nil, List.append_nil, List.all_cons, List.all_nil, Bool.and_true, Bool.true_and, Bool.and_false, Bool.false_and, Nat.reduceAdd, Nat.zero_add, Nat.add_zero, Nat.reduceEqDiff, if_true, if_false, reduceIte]))
    | (show AW _ _ _ _ _ _ _ _; first | refine aw_region ?_ | (refine aw_seqk ?_; intro K hK) | refine aw_block ?_ | (apply aw_cond_t; exact rfl; exact (by assumption)) | refine aw_ret ?_ | refine aw_skip ?_ | refine aw_drawE (id := 4) [0, 0, 3, 7, 0, 0, 32, 112, 240, 511] [0, 0, 0, 1, 0, 0, 0, 0, 1, 0] mixed (by kernel_rfl) ?_ | (apply aw_ite; exact rfl; all_goals intro h))
    | refine thn_n ?_
    | (refine hK _ _ _ ?_; clear hK K)
    | refine thn_r ?_
    | refine inb_n ?_
    | refine inb_r ?_)); all_goals (repeat (clear hK K)))
    all_goals first
      | (refine fin_r (fin_b rfl ?_)
         refine (allR_false c2 ?_).symm
         rw [hD]; simp_all; done)
      | (refine ⟨i + 1, id, ⟨by omega, fun j hj hj2 => ?_⟩, by omega, ⟨by (repeat (refine ⟨by first | exact lk_i rfl (by (try dsimp only); first | rfl | omega | (rw [IntWalk.i64_in _ (by omega)]; first | rfl | omega | (push_cast; omega)) | (simp; done) | (simp; omega)) | exact lk_d rfl rfl, ?_⟩)); exact trivial, by exact trivial, by rfl, by exact pin_0⟩⟩
         by_cases hjq : j < i
         · exact hg j hjq hj2
         · obtain rfl : j = i := by omega
           rw [hD]; simp_all)
  · have b2 : decide ((i : Int) < ((xs.map inL).length : Int)) = false := by simpa using c2
    ((repeat' (first
    | (show SQ _ _ _ _ _ _ _ _; first | apply sq_nil | (apply q_move; exact rfl; exact rfl) | (apply q_assign; exact rfl; exact rfl) | (apply q_lend; exact rfl; exact rfl; exact (ty rfl); exact rfl) | (apply q_lss; exact rfl; exact rfl; exact rfl))
    | (show AW _ _ _ _ _ _ _ _; first | refine aw_region ?_ | (refine aw_seqk ?_; intro K hK) | (apply aw_cond_f; exact rfl; exact (by assumption)) | refine aw_ret ?_ | refine aw_exit ?_)
    | refine thn_n ?_
    | (refine hK _ _ _ ?_; clear hK K)
    | refine thn_e ?_
    | refine inb_same ?_
    | (clear hK K; refine hK _ _ _ ?_; clear hK K))); all_goals (repeat (clear hK K)))
    all_goals refine fin_r (fin_b rfl ?_)
    exact (allR_true fun j hj => hg j (by omega) hj).symm
set_option maxHeartbeats 4000000 in
theorem l00Rises_ro (xs : List Int) (lo u : Int) (hn : xs.length ≤ 1048576) (k : Nat) : RO Try.prog 64 [.dsl 1 (xs.map inL), .v (.int .i64 lo), .v (.int .i64 u)] k (.v (.bool (risB xs lo u))) [] k := by
  refine RO.ofv' Try.func64 Try.ntmps64 rfl (goFn_of Try.func64 rfl (by kernel_rfl)) rfl rfl ?_
  ((repeat' (first
    | (show SQ _ _ _ _ _ _ _ _; first | apply sq_nil | (apply q_assign; exact rfl; exact rfl))
    | (show AW _ _ _ _ _ _ _ _; first | refine aw_region ?_ | (refine aw_seqk ?_; intro K hK) | refine aw_block ?_)
    | refine thn_n ?_
    | (refine hK _ _ _ ?_; clear hK K))); all_goals (repeat (clear hK K)))
  refine aw_loop (ρ := id) (ι := Nat) (fun i => ([(7, .v (.int .i64 i)), (2, .v (.int .i64 u)), (1, .v (.int .i64 lo)), (0, .dsl 1 (xs.map inL))], [], 0))
    (fun i => i ≤ xs.length ∧ ∀ j, j < i → (inB (xs.getD j 0) lo u && incAt xs j) = true) (fun i => xs.length - i) 0 ⟨Nat.zero_le _, fun j hj => absurd hj (Nat.not_lt_zero _)⟩ ⟨by (repeat (refine ⟨by first | exact lk_i rfl rfl | exact lk_d rfl rfl, ?_⟩)); exact trivial, by exact trivial, by rfl, by exact pin_0⟩ ?_
  rintro i ⟨hi, hg⟩
  by_cases c2 : i < xs.length
  · have b2 : decide ((i : Int) < ((xs.map inL).length : Int)) = true := by simpa using c2
    have hrow : (xs.map inL)[((i : Int)).toNat]? = some (inL xs[i]) := by simp [c2]
    rw [inL_eq] at hrow
    by_cases c3 : i = 0
    · have b5 : decide ((0 : Int) < (i : Int)) = false := by simp; omega
      have hD : (inB (xs.getD i 0) lo u && incAt xs i) = inB xs[i] lo u := by
        have e : incAt xs i = true := by simp [incAt, c3]
        rw [e, Bool.and_true]; simp [List.getD, c2]
      ((repeat' (first
    | (show SQ _ _ _ _ _ _ _ _; first | apply sq_nil | (apply q_move; exact rfl; exact rfl) | (apply q_assign; exact rfl; exact rfl) | (apply q_lend; exact rfl; exact rfl; exact (ty rfl); exact rfl) | (apply q_add; exact rfl; exact rfl; exact rfl) | (apply q_lss; exact rfl; exact rfl; exact rfl))
    | (show DE _ _ _ _ _ _ _ _ _ _ _ _; first | (apply e_move; exact rfl; exact rfl; exact rfl) | (apply e_pick_t; exact rfl; exact rfl; exact rfl; exact (by first | assumption | exact rfl); exact rfl) | (apply e_pick_f; exact rfl; exact rfl; exact rfl; exact (by first | assumption | exact rfl); exact rfl) | (apply e_not; exact rfl; exact rfl; exact rfl) | (apply e_gtr; exact rfl; exact rfl; exact rfl; exact rfl) | (apply e_ixd; exact rfl; exact rfl; exact rfl; exact (ty rfl); exact rfl; exact (by first | omega | (simp; done) | (simp; omega)); exact (by first | omega | (simp; done) | (simp; omega)); exact (by first | rfl | assumption); exact rfl) | (apply e_ld1d; exact rfl; exact rfl; exact (ty rfl); exact rfl; exact rfl; exact rfl) | (apply e_g; exact rfl; exact rfl; exact rfl; exact (by assumption)) | (apply e_s; exact rfl; exact rfl; exact rfl; exact (by assumption); exact rfl) | (apply e_sU; exact rfl; exact rfl; exact rfl; exact rfl; exact rfl))
    | (show DE _ _ _ _ _ _ _ _ _ _ _ _; (first | (apply dr_nil; exact trivial) | (apply e_callU; exact rfl; exact rfl; exact rfl; exact FzL.of rfl; exact l00In_ro _ _ _ _; exact rfl)); (try simp only [put, rowsOf, plR, List.all_cons, selE, ovr, setH, del, cellsA, splice, isV, List.nil_append, List.cons_append, List.map_cons, List.map_nil, List.length_cons, List.length_nil, List.set_cons_zero, List.set_cons_succ, List.take_succ_cons, List.take_zero, List.take_nil, List.drop_succ_cons, List.drop_zero, List.drop_nil, List.append_nil, List.all_cons, List.all_nil, Bool.and_true, Bool.true_and, Bool.and_false, Bool.false_and, Nat.reduceAdd, Nat.zero_add, Nat.add_zero, Nat.reduceEqDiff, if_true, if_false, reduceIte]))
    | (show DE _ _ _ _ _ _ _ _ _ _ _ _; apply e_gs; exact rfl; exact rfl; exact rfl; exact rfl; all_goals intro h)
    | (show AW _ _ _ _ _ _ _ _; first | refine aw_region ?_ | (refine aw_seqk ?_; intro K hK) | refine aw_block ?_ | (apply aw_cond_t; exact rfl; exact rfl) | (apply aw_cond_f; exact rfl; exact rfl) | (apply aw_cond_t; exact rfl; exact (by assumption)) | refine aw_ret ?_ | refine aw_skip ?_ | refine aw_drawE (id := 4) [0, 0, 3, 7, 0, 0, 63, 127, 255, 511, 1023, 2047, 4095, 4095, 12287, 32767, 65535, 4095, 4095, 397311, 921599, 2097151, 4194303, 8388607] [0, 0, 0, 1, 0, 0, 1, 0, 0, 0, 0, 0, 0, 0, 0, 0, 1, 0, 0, 0, 1, 0, 0, 0] mixed (by kernel_rfl) ?_)
    | refine thn_n ?_
    | (refine hK _ _ _ ?_; clear hK K)
    | refine thn_r ?_
    | refine inb_n ?_
    | refine inb_r ?_)); all_goals (repeat (clear hK K)))
      all_goals first
        | (refine fin_r (fin_b rfl ?_)
           refine (allR_false c2 ?_).symm
           rw [hD]; simp_all; done)
        | (refine ⟨i + 1, id, ⟨c2, fun j hj => ?_⟩, by omega, ⟨by (repeat (refine ⟨by first | exact lk_i rfl rfl | exact lk_i rfl (by (try dsimp only); first | rfl | omega | (rw [IntWalk.i64_in _ (by omega)]; first | rfl | omega | (push_cast; omega)) | (simp; done) | (simp; omega)) | exact lk_d rfl rfl, ?_⟩)); exact trivial, by exact trivial, by rfl, by exact pin_0⟩⟩
           by_cases hjq : j < i
           · exact hg j hjq
           · obtain rfl : j = i := by omega
             rw [hD]; simp_all)
    · have b5 : decide ((0 : Int) < (i : Int)) = true := by simp; omega
      have hw2 : IntKind.i64.wrap ((i : Int) - 1) = (i : Int) - 1 := IntWalk.i64_in _ (by omega)
      have hrow2 : (xs.map inL)[(IntKind.i64.wrap ((i : Int) - 1)).toNat]? = some (inL xs[i - 1]) := by
        rw [hw2, show ((i : Int) - 1).toNat = i - 1 by omega]; simp [show i - 1 < xs.length by omega]
      rw [inL_eq] at hrow2
      have hD : (inB (xs.getD i 0) lo u && incAt xs i) = (inB xs[i] lo u && decide (xs[i - 1] < xs[i])) := by simp [incAt, List.getD, c2, c3, show i - 1 < xs.length by omega]
      ((repeat' (first
    | (show SQ _ _ _ _ _ _ _ _; first | apply sq_nil | (apply q_move; exact rfl; exact rfl) | (apply q_assign; exact rfl; exact rfl) | (apply q_lend; exact rfl; exact rfl; exact (ty rfl); exact rfl) | (apply q_add; exact rfl; exact rfl; exact rfl) | (apply q_lss; exact rfl; exact rfl; exact rfl))
    | (show DE _ _ _ _ _ _ _ _ _ _ _ _; first | (apply e_move; exact rfl; exact rfl; exact rfl) | (apply e_pick_t; exact rfl; exact rfl; exact rfl; exact (by first | assumption | exact rfl); exact rfl) | (apply e_pick_f; exact rfl; exact rfl; exact rfl; exact (by first | assumption | exact rfl); exact rfl) | (apply e_not; exact rfl; exact rfl; exact rfl) | (apply e_sub; exact rfl; exact rfl; exact rfl; exact rfl) | (apply e_gtr; exact rfl; exact rfl; exact rfl; exact rfl) | (apply e_geq; exact rfl; exact rfl; exact rfl; exact rfl) | (apply e_ixd; exact rfl; exact rfl; exact rfl; exact (ty rfl); exact rfl; exact (by first | omega | (simp; done) | (simp; omega)); exact (by first | omega | (simp; done) | (simp; omega)); exact (by first | rfl | assumption); exact rfl) | (apply e_ld1d; exact rfl; exact rfl; exact (ty rfl); exact rfl; exact rfl; exact rfl) | (apply e_g; exact rfl; exact rfl; exact rfl; exact (by assumption)) | (apply e_s; exact rfl; exact rfl; exact rfl; exact (by assumption); exact rfl) | (apply e_sU; exact rfl; exact rfl; exact rfl; exact rfl; exact rfl))
    | (show DE _ _ _ _ _ _ _ _ _ _ _ _; (first | (apply dr_nil; exact trivial) | (apply e_callU; exact rfl; exact rfl; exact rfl; exact FzL.of rfl; exact l00In_ro _ _ _ _; exact rfl)); (try simp only [put, rowsOf, plR, List.all_cons, selE, ovr, setH, del, cellsA, splice, isV, List.nil_append, List.cons_append, List.map_cons, List.map_nil, List.length_cons, List.length_nil, List.set_cons_zero, List.set_cons_succ, List.take_succ_cons, List.take_zero, List.take_nil, List.drop_succ_cons, List.drop_zero, List.drop_nil, List.append_nil, List.all_cons, List.all_nil, Bool.and_true, Bool.true_and, Bool.and_false, Bool.false_and, Nat.reduceAdd, Nat.zero_add, Nat.add_zero, Nat.reduceEqDiff, if_true, if_false, reduceIte]))
    | (show DE _ _ _ _ _ _ _ _ _ _ _ _; apply e_gs; exact rfl; exact rfl; exact rfl; exact rfl; all_goals intro h)
    | (show AW _ _ _ _ _ _ _ _; first | refine aw_region ?_ | (refine aw_seqk ?_; intro K hK) | refine aw_block ?_ | (apply aw_cond_t; exact rfl; exact rfl) | (apply aw_cond_t; exact rfl; exact (by assumption)) | refine aw_ret ?_ | refine aw_skip ?_ | refine aw_drawE (id := 4) [0, 0, 3, 7, 0, 0, 63, 127, 255, 511, 1023, 2047, 4095, 4095, 12287, 32767, 65535, 4095, 4095, 397311, 921599, 2097151, 4194303, 8388607] [0, 0, 0, 1, 0, 0, 1, 0, 0, 0, 0, 0, 0, 0, 0, 0, 1, 0, 0, 0, 1, 0, 0, 0] mixed (by kernel_rfl) ?_ | (apply aw_ite; exact rfl; all_goals intro h))
    | refine thn_n ?_
    | (refine hK _ _ _ ?_; clear hK K)
    | refine thn_r ?_
    | refine inb_n ?_
    | refine inb_r ?_)); all_goals (repeat (clear hK K)))
      all_goals first
        | (refine fin_r (fin_b rfl ?_)
           refine (allR_false c2 ?_).symm
           rw [hD]; simp_all; done)
        | (refine ⟨i + 1, id, ⟨c2, fun j hj => ?_⟩, by omega, ⟨by (repeat (refine ⟨by first | exact lk_i rfl rfl | exact lk_i rfl (by (try dsimp only); first | rfl | omega | (rw [IntWalk.i64_in _ (by omega)]; first | rfl | omega | (push_cast; omega)) | (simp; done) | (simp; omega)) | exact lk_d rfl rfl, ?_⟩)); exact trivial, by exact trivial, by rfl, by exact pin_0⟩⟩
           by_cases hjq : j < i
           · exact hg j hjq
           · obtain rfl : j = i := by omega
             rw [hD]; simp_all)
  · have b2 : decide ((i : Int) < ((xs.map inL).length : Int)) = false := by simpa using c2
    ((repeat' (first
    | (show SQ _ _ _ _ _ _ _ _; first | apply sq_nil | (apply q_move; exact rfl; exact rfl) | (apply q_assign; exact rfl; exact rfl) | (apply q_lend; exact rfl; exact rfl; exact (ty rfl); exact rfl) | (apply q_lss; exact rfl; exact rfl; exact rfl))
    | (show AW _ _ _ _ _ _ _ _; first | refine aw_region ?_ | (refine aw_seqk ?_; intro K hK) | (apply aw_cond_f; exact rfl; exact (by assumption)) | refine aw_ret ?_ | refine aw_exit ?_)
    | refine thn_n ?_
    | (refine hK _ _ _ ?_; clear hK K)
    | refine thn_e ?_
    | refine inb_same ?_
    | (clear hK K; refine hK _ _ _ ?_; clear hK K))); all_goals (repeat (clear hK K)))
    all_goals refine fin_r (fin_b rfl ?_)
    exact (allR_true fun j hj => hg j (by omega)).symm
set_option maxHeartbeats 4000000 in
theorem l00Has_ro (xs : List Int) (rows : List (List AV)) (n : Int) (hrows : rows = xs.map inL) (hn : xs.length ≤ 1048576) (k : Nat) : RO Try.prog 85 [.dsl 1 rows, .v (.int .i64 n)] k (.v (.bool (xs.any fun y => y == n))) [] k := by
  subst hrows
  refine RO.ofv' Try.func85 Try.ntmps85 rfl (goFn_of Try.func85 rfl (by kernel_rfl)) rfl rfl ?_
  ((repeat' (first
    | (show SQ _ _ _ _ _ _ _ _; first | apply sq_nil | (apply q_assign; exact rfl; exact rfl))
    | (show AW _ _ _ _ _ _ _ _; first | refine aw_region ?_ | (refine aw_seqk ?_; intro K hK) | refine aw_block ?_)
    | refine thn_n ?_
    | (refine hK _ _ _ ?_; clear hK K))); all_goals (repeat (clear hK K)))
  refine aw_loop (ρ := id) (ι := Nat) (fun i => ([(5, .v (.int .i64 i)), (1, .v (.int .i64 n)), (0, .dsl 1 (xs.map inL))], [], 0))
    (fun i => i ≤ xs.length ∧ ∀ y ∈ xs.take i, (y == n) = false) (fun i => xs.length - i) 0 ⟨Nat.zero_le _, by simp⟩ ⟨by (repeat (refine ⟨by first | exact lk_i rfl rfl | exact lk_d rfl rfl, ?_⟩)); exact trivial, by exact trivial, by rfl, by exact pin_0⟩ ?_
  rintro i ⟨hi, hg⟩
  by_cases c2 : i < xs.length
  · have b2 : decide ((i : Int) < ((xs.map inL).length : Int)) = true := by simpa using c2
    have hrow : (xs.map inL)[((i : Int)).toNat]? = some (inL xs[i]) := by simp [c2]
    rw [inL_eq] at hrow
    ((repeat' (first
    | (show SQ _ _ _ _ _ _ _ _; first | apply sq_nil | (apply q_move; exact rfl; exact rfl) | (apply q_assign; exact rfl; exact rfl) | (apply q_lend; exact rfl; exact rfl; exact (ty rfl); exact rfl) | (apply q_add; exact rfl; exact rfl; exact rfl) | (apply q_eql; exact rfl; exact rfl; exact rfl) | (apply q_lss; exact rfl; exact rfl; exact rfl) | (apply q_ixd; exact rfl; exact rfl; exact rfl; exact (ty rfl); exact rfl; exact (by first | omega | (simp; done) | (simp; omega)); exact (by first | omega | (simp; done) | (simp; omega)); exact (by first | rfl | assumption)) | (apply q_ld1d; exact rfl; exact rfl; exact (ty rfl); exact rfl; exact rfl))
    | (show AW _ _ _ _ _ _ _ _; first | refine aw_region ?_ | (refine aw_seqk ?_; intro K hK) | refine aw_block ?_ | (apply aw_cond_t; exact rfl; exact (by assumption)) | refine aw_ret ?_ | refine aw_skip ?_ | (apply aw_ite; exact rfl; all_goals intro h))
    | refine thn_n ?_
    | (refine hK _ _ _ ?_; clear hK K)
    | refine thn_r ?_
    | refine inb_n ?_
    | refine inb_r ?_)); all_goals (repeat (clear hK K)))
    all_goals first
      | (refine fin_r (fin_b rfl ?_)
         exact (List.any_eq_true.2 ⟨xs[i], List.getElem_mem c2, by simp_all⟩).symm)
      | (refine ⟨i + 1, id, ⟨c2, takeS c2 hg ?_⟩, by omega, ⟨by (repeat (refine ⟨by first | exact lk_i rfl rfl | exact lk_i rfl (by (try dsimp only); first | rfl | omega | (rw [IntWalk.i64_in _ (by omega)]; first | rfl | omega | (push_cast; omega)) | (simp; done) | (simp; omega)) | exact lk_d rfl rfl, ?_⟩)); exact trivial, by exact trivial, by rfl, by exact pin_0⟩⟩
         simp_all; done)
  · have b2 : decide ((i : Int) < ((xs.map inL).length : Int)) = false := by simpa using c2
    ((repeat' (first
    | (show SQ _ _ _ _ _ _ _ _; first | apply sq_nil | (apply q_move; exact rfl; exact rfl) | (apply q_assign; exact rfl; exact rfl) | (apply q_lend; exact rfl; exact rfl; exact (ty rfl); exact rfl) | (apply q_lss; exact rfl; exact rfl; exact rfl))
    | (show AW _ _ _ _ _ _ _ _; first | refine aw_region ?_ | (refine aw_seqk ?_; intro K hK) | (apply aw_cond_f; exact rfl; exact (by assumption)) | refine aw_ret ?_ | refine aw_exit ?_)
    | refine thn_n ?_
    | (refine hK _ _ _ ?_; clear hK K)
    | refine thn_e ?_
    | refine inb_same ?_
    | (clear hK K; refine hK _ _ _ ?_; clear hK K))); all_goals (repeat (clear hK K)))
    all_goals refine fin_r (fin_b rfl ?_)
    rw [List.take_of_length_le (by omega)] at hg
    exact (List.any_eq_false.2 (fun y hy => by rw [hg y hy]; simp)).symm
set_option maxHeartbeats 4000000 in
theorem slIndex_ro (xs : List Int) (rows : List (List AV)) (n : Int) (hrows : rows = xs.map inL) (hn : xs.length ≤ 1048576) (k : Nat) : RO Try.prog 104 [.dsl 1 rows, .v (.int .i64 n)] k (.v (.int .i64 (ixG (fun y => y == n) xs))) [] k := by
  subst hrows
  refine RO.ofv' Try.func104 Try.ntmps104 rfl (goFn_of Try.func104 rfl (by kernel_rfl)) rfl rfl ?_
  ((repeat' (first
    | (show SQ _ _ _ _ _ _ _ _; first | apply sq_nil | (apply q_move; exact rfl; exact rfl) | (apply q_assign; exact rfl; exact rfl) | (apply q_lend; exact rfl; exact rfl; exact (ty rfl); exact rfl))
    | (show AW _ _ _ _ _ _ _ _; first | refine aw_region ?_ | (refine aw_seqk ?_; intro K hK) | refine aw_block ?_)
    | refine thn_n ?_
    | (refine hK _ _ _ ?_; clear hK K))); all_goals (repeat (clear hK K)))
  refine aw_loop (ρ := id) (ι := Nat) (fun i => ([(8, .v (.int .i64 i)), (7, .v (.int .i64 xs.length)), (1, .v (.int .i64 n)), (0, .dsl 1 (xs.map inL))], [], 0))
    (fun i => i ≤ xs.length ∧ ∀ y ∈ xs.take i, (y == n) = false) (fun i => xs.length - i) 0 ⟨Nat.zero_le _, by simp⟩ ⟨⟨lk_i rfl rfl, lk_i rfl (by simp), lk_i rfl rfl, lk_d rfl rfl, trivial⟩, trivial, rfl, pin_0⟩ ?_
  rintro i ⟨hi, hg⟩
  by_cases c2 : i < xs.length
  · have b2 : decide ((i : Int) < (xs.length : Int)) = true := by simpa using c2
    have hrow : (xs.map inL)[((i : Int)).toNat]? = some (inL xs[i]) := by simp [c2]
    rw [inL_eq] at hrow
    have hcm : (n == xs[i]) = (xs[i] == n) := by rw [Bool.eq_iff_iff]; simp only [beq_iff_eq]; exact eq_comm
    ((repeat' (first
    | (show SQ _ _ _ _ _ _ _ _; first | apply sq_nil | (apply q_move; exact rfl; exact rfl) | (apply q_assign; exact rfl; exact rfl) | (apply q_add; exact rfl; exact rfl; exact rfl) | (apply q_eql; exact rfl; exact rfl; exact rfl) | (apply q_lss; exact rfl; exact rfl; exact rfl) | (apply q_ixd; exact rfl; exact rfl; exact rfl; exact (ty rfl); exact rfl; exact (by first | omega | (simp; done) | (simp; omega)); exact (by first | omega | (simp; done) | (simp; omega)); exact (by first | rfl | assumption)) | (apply q_ld1d; exact rfl; exact rfl; exact (ty rfl); exact rfl; exact rfl))
    | (show AW _ _ _ _ _ _ _ _; first | refine aw_region ?_ | (refine aw_seqk ?_; intro K hK) | refine aw_block ?_ | (apply aw_cond_t; exact rfl; exact (by assumption)) | refine aw_ret ?_ | refine aw_skip ?_ | (apply aw_ite; exact rfl; all_goals intro h))
    | refine thn_n ?_
    | (refine hK _ _ _ ?_; clear hK K)
    | refine thn_r ?_
    | refine inb_n ?_
    | refine inb_r ?_)); all_goals (repeat (clear hK K)))
    all_goals first
      | (refine fin_r (fin_i rfl ?_)
         refine (ixG_hit c2 hg ?_).symm
         rw [← hcm]; assumption)
      | (refine ⟨i + 1, id, ⟨c2, takeS c2 hg ?_⟩, by omega, ⟨by (repeat (refine ⟨by first | exact lk_i rfl rfl | exact lk_i rfl (by (try dsimp only); first | rfl | omega | (rw [IntWalk.i64_in _ (by omega)]; first | rfl | omega | (push_cast; omega)) | (simp; done) | (simp; omega)) | exact lk_d rfl rfl, ?_⟩)); exact trivial, by exact trivial, by rfl, by exact pin_0⟩⟩
         rw [← hcm]; assumption)
  · have b2 : decide ((i : Int) < (xs.length : Int)) = false := by simpa using c2
    ((repeat' (first
    | (show SQ _ _ _ _ _ _ _ _; first | apply sq_nil | (apply q_assign; exact rfl; exact rfl) | (apply q_lss; exact rfl; exact rfl; exact rfl))
    | (show AW _ _ _ _ _ _ _ _; first | refine aw_region ?_ | (refine aw_seqk ?_; intro K hK) | (apply aw_cond_f; exact rfl; exact (by assumption)) | refine aw_ret ?_ | refine aw_exit ?_)
    | refine thn_n ?_
    | (refine hK _ _ _ ?_; clear hK K)
    | refine thn_e ?_
    | refine inb_same ?_
    | (clear hK K; refine hK _ _ _ ?_; clear hK K))); all_goals (repeat (clear hK K)))
    all_goals refine fin_r (fin_i rfl ?_)
    rw [List.take_of_length_le (by omega)] at hg
    exact (ixG_none _ xs hg).symm
set_option maxHeartbeats 4000000 in
theorem slContains_ro (xs : List Int) (rows : List (List AV)) (n : Int) (hrows : rows = xs.map inL) (hn : xs.length ≤ 1048576) (k : Nat) : RO Try.prog 86 [.dsl 1 rows, .v (.int .i64 n)] k (.v (.bool (xs.any fun y => y == n))) [] k := by
  refine RO.ofv' Try.func86 Try.ntmps86 rfl (goFn_of Try.func86 rfl (by kernel_rfl)) rfl rfl ?_
  ((repeat' (first
    | (show SQ _ _ _ _ _ _ _ _; first | apply sq_nil | (apply q_move; exact rfl; exact rfl) | (apply q_assign; exact rfl; exact rfl) | (apply q_geq; exact rfl; exact rfl; exact rfl))
    | (show SQ _ _ _ _ _ _ _ _; (first | (apply q_callU; exact rfl; exact rfl; exact rfl; exact FzL.of rfl; exact slIndex_ro xs rows n hrows hn _)); (try simp only [put, rowsOf, plR, List.all_cons, selE, ovr, setH, del, cellsA, splice, isV, List.nil_append, List.cons_append, List.map_cons, List.map_nil, List.length_cons, List.length_nil, List.set_cons_zero, List.set_cons_succ, List.take_succ_cons, List.take_zero, List.take_nil, List.drop_succ_cons, List.drop_zero, List.drop_nil, List.append_nil, List.all_cons, List.all_nil, Bool.and_true, Bool.true_and, Bool.and_false, Bool.false_and, Nat.reduceAdd, Nat.zero_add, Nat.add_zero, Nat.reduceEqDiff, if_true, if_false, reduceIte]))
    | (show AW _ _ _ _ _ _ _ _; first | refine aw_region ?_ | (refine aw_seqk ?_; intro K hK) | refine aw_ret ?_)
    | refine thn_n ?_
    | (refine hK _ _ _ ?_; clear hK K))); all_goals (repeat (clear hK K)))
  all_goals refine fin_r (fin_b rfl ?_)
  exact ixG_any _ xs
end Go.Proofs.Yteknfaldpajlpaa.Il

namespace Go.Proofs.Yteknfaldpajlpaa.Aw
open Go Go.RowKit
set_option linter.unusedVariables false
set_option linter.unusedSimpArgs false
section
variable {P : Program} {H : Hp} {N n g : Nat} {T : Tp} {all : Array Oper} {l : List Oper} {G : Tp → Hp → Nat → Prop}
end
section
variable {P : Program} {N n n' : Nat} {all : Array Oper} {l : List Oper} {G : Tp → Hp → Nat → Prop} {T : Tp} {H : Hp} {bs ks : List Nat} {i : Nat} {eff : List (Nat × List (Nat × Option Blk))} {ty : TypeId} {pos : String} {after : Array Edge} {d : Nat}
end
theorem WkC.same (cv : AV) : WkC cv cv := .inl rfl
theorem WkC.nil (s : Nat) : WkC (.v (.slice none 0 0)) (.dsl s []) := .inr ⟨s, rfl, rfl⟩
end Go.Proofs.Yteknfaldpajlpaa.Aw

namespace Go.Proofs.Yteknfaldpajlpaa.Nb
open Go Go.RowKit Go.Proofs.Yteknfaldpajlpaa.Aw Go.Proofs.Yteknfaldpajlpaa.In Go.Proofs.Yteknfaldpajlpaa.Il
set_option linter.unusedSimpArgs false
set_option linter.unusedVariables false
attribute [local irreducible] AW SQ Step RO RC DE Thn InB
def nbL (ls : List (List Int)) : List (List AV) := ls.map fun l => [.dsl 1 (l.map inL)]
structure NbS (ls : List (List Int)) : Prop where
  n : ls.length ≤ 1048576
  m : ∀ l ∈ ls, l.length ≤ 1048576
theorem nbL_len (ls : List (List Int)) : (nbL ls).length = ls.length := List.length_map _
theorem nbL_get {ls : List (List Int)} {i : Nat} (h : i < ls.length) : (nbL ls)[((i : Int)).toNat]? = some [.dsl 1 (ls[i].map inL)] := by simp [nbL, h]
def nearB (ls : List (List Int)) (i k : Nat) : Bool := ((ls.getD i []).any fun y => y == (k : Int)) || ((ls.getD k []).any fun y => y == (i : Int))
def shareB (ls : List (List Int)) (i k : Nat) : Bool := (List.range ls.length).any fun x => nearB ls i x && nearB ls x k
def clB (ls : List (List Int)) (i k : Nat) : Bool := nearB ls i k || shareB ls i k
section
variable (ls : List (List Int)) (hS : NbS ls)
include hS
def earB (ls : List (List Int)) (cs : List Int) (c : Int) : Bool := (List.range cs.length).any fun i => cs.getD i 0 == c && clB ls i cs.length
end
end Go.Proofs.Yteknfaldpajlpaa.Nb

namespace Go.Proofs.Yteknfaldpajlpaa.Fr
open Go.ChangeShapes Go.WideShapes Go.ChangeAt Go.RowKit Go.Deep
open Go.ChangeMaps (open_string shut_string)
open Go.Proofs.Yteknfaldpajlpaa.Nb Go.Proofs.Yteknfaldpajlpaa.In Go.Proofs.Yteknfaldpajlpaa.Il
set_option linter.unusedSimpArgs false
abbrev VRp (w : World) := Aw.VR (fun k => k < w.heap.size) w (fun _ => ⟨0, 0, 0, false⟩) Aw.NoS
def inC (x : Int) : List Value := [.int .i64 x]
def IsInts (w : World) (v : Value) : Prop := ∃ xs : List Int, VRp w (.dsl 1 (xs.map inL)) v ∧ xs.length ≤ 9223372036854775807
section
variable {P : Program} {H : Type} {enc : TypeId × Value → H} {W : World} {r : Reach} {b0 base : Nat} {spare : Nat → Bool} {held : Bool} {v : Value} {d : DataW H} {p : List MemPlace}
theorem sl_openT {t e : TypeId} {sz : Nat} {α : Type} [Inhabited α] {tV : α → List Aw.AV} {Q : α → Prop} {fuel : Nat} {x : DataW H × List MemPlace} (hU : P.underlying t = some (.slice e)) (hcells : P.cellsOf e = sz) (hsz : 0 < sz) (hlen : ∀ a, (tV a).length = sz)
    (hel : ∀ fuel cs x, DataW.trod enc P W base spare held fuel e cs = some x → ∃ a, cs.length = sz ∧ (∀ y ∈ cs, y.oneCell' = true) ∧ (∀ (j : Nat) cv y, (tV a)[j]? = some cv → cs[j]? = some y → VRp W cv y) ∧ Q a) (h : DataW.trod enc P W base spare held fuel t [v] = some x) :
    ∃ xs : List α, VRp W (.dsl sz (xs.map tV)) v ∧ xs.length ≤ 9223372036854775807 ∧ ∀ a ∈ xs, Q a := by
  rcases open_slice hU h with ⟨hc, _⟩ | ⟨a, len, cap, m, n, D, Pl, hc, hb, hl, hm, hmm, _, hels⟩
  · simp only [List.cons.injEq, and_true] at hc
    subst hc
    exact ⟨[], .dsl0 _ _ _ _, by simp, by simp⟩
  · simp only [List.cons.injEq, and_true] at hc
    subst hc
    have hlm : len ≤ m := by rw [hmm]; split <;> omega
    obtain ⟨f, hf2⟩ := choose_lt (n := len) (p := fun i (l : α) => ∃ cs : List Value, W.cells? base (a.add (i * sz)) sz = some cs ∧ cs.length = sz ∧ (∀ y ∈ cs, y.oneCell' = true) ∧ (∀ (j : Nat) cv y, (tV l)[j]? = some cv → cs[j]? = some y → VRp W cv y) ∧ Q l) fun i hi => by
      obtain ⟨cs', h1, h2⟩ := hels i (by omega)
      rw [hcells] at h1
      obtain ⟨l, g1, g2, g3, g4⟩ := hel _ _ _ h2
      exact ⟨l, cs', h1, g1, g2, g3, g4⟩
    obtain ⟨c, hc2⟩ := choose_lt (n := len) (p := fun i (cs : List Value) => W.cells? base (a.add (i * sz)) sz = some cs ∧ cs.length = sz ∧ (∀ y ∈ cs, y.oneCell' = true) ∧ (∀ (j : Nat) cv y, (tV (f i))[j]? = some cv → cs[j]? = some y → VRp W cv y) ∧ Q (f i)) fun i hi => hf2 i hi
    refine ⟨(List.range len).map f, ?_, by simp only [maxLen] at hm; simp; omega, fun l hl => ?_⟩
    · obtain ⟨b, off, spot⟩ := a
      cases len with
      | zero => exact .dsl0 _ _ _ _
      | succ len =>
        have hc0 : ∀ r, r < len + 1 → ∀ j, j < sz → W.cell? ((⟨b, off, spot⟩ : Addr).add (r * sz + j)) = (c r)[j]? := fun r hr j hj => by
          obtain ⟨_, _, hc⟩ := World.cells?_some (hc2 r hr).1
          rw [← add_add]
          exact hc j hj
        obtain ⟨y0, hy0⟩ : ∃ y0, (c 0)[0]? = some y0 := ⟨_, List.getElem?_eq_getElem (by rw [(hc2 0 (by omega)).2.1]; exact hsz)⟩
        have h2 : W.cell? ((⟨b, off, spot⟩ : Addr).add 0) = some y0 := by
          have := hc0 0 (by omega) 0 hsz
          simp only [Nat.zero_mul, Nat.add_zero] at this
          rw [this, hy0]
        have hspot : spot = none := by simpa [Addr.add] using World.cell?_spot h2
        subst hspot
        have hlt : b < W.heap.size := block_lt_of_cell h2
        have get : ∀ (r : Nat), r < len + 1 → ∀ (j : Nat) (cv : Aw.AV), (tV (f r))[j]? = some cv → ∃ y, (c r)[j]? = some y ∧ y.oneCell' = true ∧ VRp W cv y := fun r hr j cv h => by
          obtain ⟨_, g1, g2, g3, _⟩ := hc2 r hr
          have hj : j < (c r).length := by rw [g1, ← hlen (f r)]; exact (List.getElem?_eq_some_iff.1 h).1
          exact ⟨_, List.getElem?_eq_getElem hj, g2 _ (List.getElem_mem hj), g3 j cv _ h (List.getElem?_eq_getElem hj)⟩
        refine .dsl _ sz _ _ b off cap (fun r j => ((c r)[j]?).getD undef) (by simp) (by simpa using hl) hlt (fun r row hr => ?_) (fun r row j cv hr hj => ?_) (fun r row j cv hr hj => ?_)
        all_goals
          rw [List.getElem?_map, List.getElem?_map] at hr
          have hrl : r < len + 1 := by
            rcases Nat.lt_or_ge r (len + 1) with h | h
            · exact h
            · rw [List.getElem?_eq_none (by simpa using h)] at hr; simp at hr
          rw [List.getElem?_range hrl] at hr
          simp only [Option.map_some, Option.some.injEq] at hr
          subst hr
        · exact hlen _
        · obtain ⟨y, hy, hone, _⟩ := get r hrl j cv hj
          have hjl : j < sz := by rw [← hlen (f r)]; exact (List.getElem?_eq_some_iff.1 hj).1
          have := hc0 r hrl j hjl
          rw [Go.WideShapes.add_plain] at this
          simp only [hy, Option.getD_some]
          refine ⟨?_, hone⟩
          rw [Nat.add_assoc, this, hy]
        · obtain ⟨y, hy, hone, hv⟩ := get r hrl j cv hj
          simp only [hy, Option.getD_some]
          exact hv
    · obtain ⟨i, hi, rfl⟩ := List.mem_map.1 hl
      obtain ⟨_, _, _, _, _, hq⟩ := hf2 i (by simpa using hi)
      exact hq
end
section
variable {H : Type} {enc : TypeId × Value → H} {W : World} {r : Reach} {b0 base : Nat} {spare : Nat → Bool} {held : Bool} {v : Value} {d : DataW H} {p : List MemPlace}
theorem cellsInt : Try.prog.cellsOf 2 = 1 := by kernel_rfl
theorem cellsInts : Try.prog.cellsOf 23 = 1 := by kernel_rfl
theorem int_cells {fuel : Nat} {cs : List Value} {x : DataW H × List MemPlace} (h : DataW.trod enc Try.prog W base spare held fuel 2 cs = some x) : ∃ n : Int, cs = inC n ∧ (Lit.int .i64 n).wf = true := by
  obtain ⟨n, e, _, w⟩ := DataW.trod_int Try.underlying2 h
  exact ⟨n, e, w⟩
set_option maxRecDepth 100000 in
theorem isInt_of (hv : Value.okWide Try.prog W r b0 2 v) (h : DataW.Trod enc Try.prog W base spare held 2 v d p) : IsInt W v := by
  obtain ⟨x, rfl, _, _, wx⟩ := open_int Try.underlying2 hv h
  exact ⟨x, rfl, wx⟩
set_option maxRecDepth 100000 in
theorem isInts_of (hv : Value.okWide Try.prog W r b0 23 v) (h : DataW.Trod enc Try.prog W base spare held 23 v d p) : IsInts W v := by
  obtain ⟨fuel, hf⟩ := h
  rw [sl_cell Try.underlying23 hv] at hf
  obtain ⟨xs, h1, h2⟩ := sl_open (Q := fun n => (Lit.int .i64 n).wf = true) Try.underlying23 cellsInt (by omega) (fun _ => rfl) (fun a y hy => by simp [inC] at hy; subst hy; rfl) (fun _ _ _ h => int_cells h) hf
  exact ⟨xs, h1⟩
set_option maxRecDepth 100000 in
theorem ints_cells {fuel : Nat} {cs : List Value} {x : DataW H × List MemPlace} (h : DataW.trod enc Try.prog W base spare held fuel 23 cs = some x) : ∃ l : List Int, cs.length = 1 ∧ (∀ y ∈ cs, y.oneCell' = true) ∧ (∀ (j : Nat) cv y, ([Aw.AV.dsl 1 (l.map inL)] : List Aw.AV)[j]? = some cv → cs[j]? = some y → VRp W cv y) ∧ l.length ≤ 9223372036854775807 := by
  obtain ⟨a, n, c, hc⟩ : ∃ a n c, cs = [.slice a n c] := by
    rcases open_slice Try.underlying23 h with ⟨hc, _⟩ | ⟨a, len, cap, m, n, D, Pl, hc, _⟩
    · exact ⟨_, _, _, hc⟩
    · exact ⟨_, _, _, hc⟩
  subst hc
  obtain ⟨xs, h1, h2⟩ := sl_open (Q := fun n => (Lit.int .i64 n).wf = true) Try.underlying23 cellsInt (by omega) (fun _ => rfl) (fun a y hy => by simp [inC] at hy; subst hy; rfl) (fun _ _ _ h => int_cells h) h
  refine ⟨xs, rfl, fun y hy => ?_, fun j cv y hj hy => ?_, h1.2⟩
  · rw [List.mem_singleton] at hy; subst hy; rfl
  · match j with
    | 0 => cases hj; cases hy; exact h1.1
    | j + 1 => simp at hj
end
end Go.Proofs.Yteknfaldpajlpaa.Fr

namespace Go.Proofs.Yteknfaldpajlpaa.Fr
open Go.ChangeShapes Go.WideShapes Go.ChangeAt Go.RowKit Go.Deep
open Go.Proofs.Yteknfaldpajlpaa.Aw Go.Proofs.Yteknfaldpajlpaa.In Go.Proofs.Yteknfaldpajlpaa.Il Go.Proofs.Yteknfaldpajlpaa.Nb
set_option linter.unusedSimpArgs false
set_option linter.unusedVariables false
def IsProb (w : World) (v : Value) : Prop := ∃ ds ap : List (List Int), VRp w (.agg [.dsl 1 (nbL ds), .dsl 1 (nbL ap)]) v ∧ ds.length ≤ 9223372036854775807 ∧ (∀ l ∈ ds, l.length ≤ 9223372036854775807) ∧ ap.length ≤ 9223372036854775807 ∧ ∀ l ∈ ap, l.length ≤ 9223372036854775807
section
variable {H : Type} {enc : TypeId × Value → H} {W : World} {r : Reach} {b0 base : Nat} {spare : Nat → Bool} {held : Bool} {v : Value} {d : DataW H} {p : List MemPlace}
theorem cellsIntss : Try.prog.cellsOf 22 = 1 := by kernel_rfl
theorem cellsProb : Try.prog.cellsOf 47 = 2 := by kernel_rfl
theorem intss_open {fuel : Nat} {x : DataW H × List MemPlace} (h : DataW.trod enc Try.prog W base spare held fuel 22 [v] = some x) : ∃ ls : List (List Int), VRp W (.dsl 1 (nbL ls)) v ∧ ls.length ≤ 9223372036854775807 ∧ ∀ l ∈ ls, l.length ≤ 9223372036854775807  := by
  obtain ⟨ls, h1, h2, h3⟩ := sl_openT (Q := fun l : List Int => l.length ≤ 9223372036854775807) (tV := fun l => [.dsl 1 (l.map inL)]) Try.underlying22 cellsInts (by omega) (fun _ => rfl) (fun _ _ _ h => ints_cells h) h
  exact ⟨ls, h1, h2, h3⟩
set_option maxRecDepth 100000 in
theorem isProb_of (hv : Value.okWide Try.prog W r b0 47 v) (h : DataW.Trod enc Try.prog W base spare held 47 v d p) : IsProb W v := by
  obtain ⟨cs, rfl, hsz⟩ := okWide_struct Try.underlying47 hv
  obtain ⟨l⟩ := cs
  match l, hsz.trans cellsProb with
  | [c0, c1], _ =>
    obtain ⟨fuel, hf⟩ := h
    obtain ⟨xs, n, _, _, _, hlen, hg⟩ := DataW.trod_struct Try.underlying47 hf
    match xs, hlen with
    | [y0, y1], _ =>
      have g0 := hg 0 _ rfl
      have g1 := hg 1 _ rfl
      simp [Value.cells, cellsIntss] at g0 g1
      obtain ⟨ds, a1, a2, a3⟩ := intss_open g0
      obtain ⟨ap, b1, b2, b3⟩ := intss_open g1
      refine ⟨ds, ap, ?_, a2, a3, b2, b3⟩
      refine .agg _ _ [c0, c1] rfl fun j cv x hj hx => ?_
      match j, hj with
      | 0, hj => cases hj; cases hx; exact a1
      | 1, hj => cases hj; cases hx; exact b1
end
end Go.Proofs.Yteknfaldpajlpaa.Fr

namespace Go.Proofs.Yteknfaldpajlpaa.Aw
open Go Go.RowKit
set_option linter.unusedVariables false
section
variable {P : Program} {N g n : Nat} {Q : Exit → Tp → Hp → Nat → Prop} {T : Tp} {H : Hp}
theorem Rel.unpl {Old : Nat → Prop} {wi : WI} {K : Nat → Prop} {m : Nat → Loc} {S : Nat → Prop} {w : World} {id ty sz : Nat} {rows : List (List AV)} (hr : Rel Old wi K m S H w) (hl : look H id = some ⟨ty, sz, true, rows⟩) :
    Rel Old wi K m S ((id, ⟨ty, sz, false, rows⟩) :: H) w := by
  have pt : ∀ {i : Nat} {b : Blk}, look ((id, (⟨ty, sz, false, rows⟩ : Blk)) :: H) i = some b → ∃ b0, look H i = some b0 ∧ b0.size = b.size := by
    intro i b h
    rw [look_cons] at h
    split at h
    · rename_i e; subst e; simp only [Option.some.injEq] at h; subst h; exact ⟨_, hl, rfl⟩
    · exact ⟨b, h, rfl⟩
  exact { hr with
    oown := (fun i b h => by obtain ⟨b0, h0, _⟩ := pt h; exact hr.oown i b0 h0)
    om := (fun i b h => by obtain ⟨b0, h0, e⟩ := pt h; rw [← e]; exact hr.om i b0 h0)
    inS := (fun i b h => by obtain ⟨b0, h0, _⟩ := pt h; exact hr.inS i b0 h0)
    own := (fun i b h => by
      rw [look_cons] at h
      split at h
      · rename_i e
        subst e
        simp only [Option.some.injEq] at h
        subst h
        rcases hr.own _ _ hl with ⟨h1, h2⟩ | ⟨h1, h2⟩
        · exact .inl ⟨h1, h2⟩
        · refine .inr ⟨h1, { nk := h2.nk, sz := h2.sz, cap := h2.cap, capm := h2.capm, plv := (fun h => by cases h), ex := ?_ }⟩
          obtain ⟨cur, g1, g2, g3⟩ := h2.ex
          refine ⟨cur, g1, g2, fun r row hrow => ⟨(g3 r row hrow).1, fun j cv hj => ?_⟩⟩
          obtain ⟨x, x1, x2, x3⟩ := (g3 r row hrow).2 j cv hj
          exact ⟨x, x1, x2, x3.mono (fun _ h => h) (fun _ _ => rfl) (fun i hi => by simp at hi) (fun i hi => rfl)⟩
      · exact hr.own i b h)
    inj := (fun i j bi bj hi hj => by
      obtain ⟨b0, h0, _⟩ := pt hi
      obtain ⟨b1, h1, _⟩ := pt hj
      exact hr.inj i j b0 b1 h0 h1) }
theorem aw_unpl {c : Code} (id : Nat) {ty sz : Nat} {rows : List (List AV)} (hl : look H id = some ⟨ty, sz, true, rows⟩) (h : AW P N g c Q T ((id, ⟨ty, sz, false, rows⟩) :: H) n) : AW P N g c Q T H n := fun Old wi K m a w hp hr ht =>
  h Old wi K m a w hp (hr.unpl hl) ht
end
def mv (a b : Nat) : Nat → Nat := fun z => if z = a then b else z
end Go.Proofs.Yteknfaldpajlpaa.Aw

namespace Go.Proofs.Yteknfaldpajlpaa.Il
open Go Go.RowKit Go.Proofs.Yteknfaldpajlpaa.Aw Go.Proofs.Yteknfaldpajlpaa.In
set_option linter.unusedSimpArgs false
set_option linter.unusedVariables false
attribute [local irreducible] AW SQ Step RO RC DE Thn InB
def up (z : Int) (i : Nat) : Int := z + (i : Int)
set_option maxHeartbeats 4000000 in
theorem heldInt64S_ro (l : Nat) (z : Int) (hn : l ≤ 1048576) (h0 : 0 ≤ z) (h1 : z ≤ 1073741824) (k : Nat) : RO Try.prog 26 [.dsl 1 (((List.range l).map (up z)).map inL), .v (.int .i64 z)] k (.v (.int .i64 (z + (l : Int)))) [] k := by
  generalize hx : (List.range l).map (up z) = xs
  have hl : l = xs.length := by rw [← hx]; simp
  refine RO.ofv' Try.func26 Try.ntmps26 rfl (goFn_of Try.func26 rfl (by kernel_rfl)) rfl rfl ?_
  ((repeat' (first
    | (show SQ _ _ _ _ _ _ _ _; first | apply sq_nil | (apply q_assign; exact rfl; exact rfl))
    | (show AW _ _ _ _ _ _ _ _; first | refine aw_region ?_ | (refine aw_seqk ?_; intro K hK) | refine aw_block ?_)
    | refine thn_n ?_
    | (refine hK _ _ _ ?_; clear hK K))); all_goals (repeat (clear hK K)))
  refine aw_loop (ρ := id) (ι := Nat) (fun i => ([(5, .v (.int .i64 i)), (1, .v (.int .i64 (z + (i : Int)))), (0, .dsl 1 (xs.map inL))], [], 0))
    (fun i => i ≤ xs.length) (fun i => xs.length - i) 0 (Nat.zero_le _) ⟨by (repeat (refine ⟨by first | exact lk_i rfl rfl | exact lk_i rfl (by (try dsimp only); first | rfl | omega | (rw [IntWalk.i64_in _ (by omega)]; first | rfl | omega | (push_cast; omega)) | (simp; done) | (simp; omega)) | exact lk_d rfl rfl, ?_⟩)); exact trivial, by exact trivial, by rfl, by exact pin_0⟩ ?_
  intro i hi
  by_cases c2 : i < xs.length
  · have b2 : decide ((i : Int) < ((xs.map inL).length : Int)) = true := by simpa using c2
    have hrow : (xs.map inL)[((i : Int)).toNat]? = some (inL (z + (i : Int))) := by subst hx; simp at c2; simp [c2, up]
    rw [inL_eq] at hrow
    have b3 : (z + (i : Int) != z + (i : Int)) = false := by simp
    have hw : IntKind.i64.wrap (z + (i : Int) + 1) = z + ((i + 1 : Nat) : Int) := by rw [IntWalk.i64_in _ (by omega)]; omega
    ((repeat' (first
    | (show SQ _ _ _ _ _ _ _ _; first | apply sq_nil | (apply q_move; exact rfl; exact rfl) | (apply q_assign; exact rfl; exact rfl) | (apply q_lend; exact rfl; exact rfl; exact (ty rfl); exact rfl) | (apply q_add; exact rfl; exact rfl; exact rfl) | (apply q_neq; exact rfl; exact rfl; exact rfl) | (apply q_lss; exact rfl; exact rfl; exact rfl) | (apply q_ixd; exact rfl; exact rfl; exact rfl; exact (ty rfl); exact rfl; exact (by first | omega | (simp; done) | (simp; omega)); exact (by first | omega | (simp; done) | (simp; omega)); exact (by first | rfl | assumption)) | (apply q_ld1d; exact rfl; exact rfl; exact (ty rfl); exact rfl; exact rfl))
    | (show AW _ _ _ _ _ _ _ _; first | refine aw_region ?_ | (refine aw_seqk ?_; intro K hK) | refine aw_block ?_ | (apply aw_cond_t; exact rfl; exact (by assumption)) | (apply aw_cond_f; exact rfl; exact (by assumption)) | refine aw_skip ?_)
    | refine thn_n ?_
    | (refine hK _ _ _ ?_; clear hK K)
    | refine inb_n ?_)); all_goals (repeat (clear hK K)))
    exact ⟨i + 1, id, c2, by omega, ⟨by (repeat (refine ⟨by first | exact lk_i rfl (by (try dsimp only); first | rfl | omega | (rw [IntWalk.i64_in _ (by omega)]; first | rfl | omega | (push_cast; omega)) | (simp; done) | (simp; omega)) | exact lk_d rfl rfl, ?_⟩)); exact trivial, by exact trivial, by rfl, by exact pin_0⟩⟩
  · have b2 : decide ((i : Int) < ((xs.map inL).length : Int)) = false := by simpa using c2
    ((repeat' (first
    | (show SQ _ _ _ _ _ _ _ _; first | apply sq_nil | (apply q_move; exact rfl; exact rfl) | (apply q_assign; exact rfl; exact rfl) | (apply q_lend; exact rfl; exact rfl; exact (ty rfl); exact rfl) | (apply q_lss; exact rfl; exact rfl; exact rfl))
    | (show AW _ _ _ _ _ _ _ _; first | refine aw_region ?_ | (refine aw_seqk ?_; intro K hK) | (apply aw_cond_f; exact rfl; exact (by assumption)) | refine aw_ret ?_ | refine aw_exit ?_)
    | refine thn_n ?_
    | (refine hK _ _ _ ?_; clear hK K)
    | refine thn_e ?_
    | refine inb_same ?_
    | (clear hK K; refine hK _ _ _ ?_; clear hK K))); all_goals (repeat (clear hK K)))
    all_goals refine fin_r (fin_i rfl ?_)
    all_goals (simp; omega)
theorem mkI_get {z : Int} {xs : List Int} {i : Nat} (h : i < xs.length) : ((ramp (up z) xs i).map inL)[i]? = some (inL xs[i]) := by
  rw [List.getElem?_map, ramp_get h]; rfl
theorem mkI_set {z : Int} {xs : List Int} {i : Nat} (h : i < xs.length) : ((ramp (up z) xs i).map inL).set i (inL (z + (i : Int))) = (ramp (up z) xs (i + 1)).map inL := by
  rw [← ramp_set h, List.map_set]; rfl
set_option maxHeartbeats 4000000 in
theorem markInt64S_rc (b : Nat) (xs : List Int) (z : Int) (hn : xs.length ≤ 1048576) (h0 : 0 ≤ z) (h1 : z ≤ 1073741824) (k : Nat) :
    RC Try.prog 16 [.sl b 0 xs.length, .v (.int .i64 z)] [(b, ⟨2, 1, true, xs.map inL⟩)] k (.v (.int .i64 (z + (xs.length : Int)))) [(b, some ⟨2, 1, true, ((List.range xs.length).map (up z)).map inL⟩)] k := by
  refine RC.ofc [b] 0 [.sl 0 0 xs.length, .v (.int .i64 z)] [(0, ⟨2, 1, true, xs.map inL⟩)] (.v (.int .i64 (z + (xs.length : Int)))) [(0, some ⟨2, 1, true, ((List.range xs.length).map (up z)).map inL⟩)] Try.func16 Try.ntmps16 rfl (goFn_of Try.func16 rfl (by kernel_rfl)) rfl rfl rfl rfl rfl rfl rfl rfl (by simp_all) rfl ?_
  ((repeat' (first
    | (show SQ _ _ _ _ _ _ _ _; first | apply sq_nil | (apply q_assign; exact rfl; exact rfl))
    | (show AW _ _ _ _ _ _ _ _; first | refine aw_region ?_ | (refine aw_seqk ?_; intro K hK) | refine aw_block ?_)
    | refine thn_n ?_
    | (refine hK _ _ _ ?_; clear hK K))); all_goals (repeat (clear hK K)))
  refine aw_loop (ρ := id) (ι := Nat) (fun i => ([(5, .v (.int .i64 i)), (1, .v (.int .i64 (z + (i : Int)))), (0, .sl 0 0 xs.length)], [(0, ⟨2, 1, true, (ramp (up z) xs i).map inL⟩)], 1))
    (fun i => i ≤ xs.length) (fun i => xs.length - i) 0 (Nat.zero_le _) ⟨by (repeat (refine ⟨by first | exact lk_i rfl rfl | exact lk_i rfl (by (try dsimp only); first | rfl | omega | (rw [IntWalk.i64_in _ (by omega)]; first | rfl | omega | (push_cast; omega)) | (simp; done) | (simp; omega)) | exact lk_s rfl rfl rfl rfl, ?_⟩)); exact trivial, by (repeat (refine ⟨by first | exact ⟨rfl, rfl, rfl⟩, ?_⟩)); exact trivial, by rfl, by (intro i hi; (try dsimp only); refine ⟨?_, ?_⟩ <;> first | rfl | omega | (simp at hi; omega) | (simp; omega))⟩ ?_
  intro i hi
  by_cases c2 : i < xs.length
  · have b2 : decide ((i : Int) < ((xs.length : Nat) : Int)) = true := by simpa using c2
    have hr2 : ((ramp (up z) xs i).map inL)[0 + ((i : Int)).toNat]? = some (inL xs[i]) := by simpa using mkI_get (z := z) c2
    rw [inL_eq] at hr2
    have hw : IntKind.i64.wrap (z + (i : Int) + 1) = z + ((i + 1 : Nat) : Int) := by rw [IntWalk.i64_in _ (by omega)]; omega
    ((repeat' (first
    | (show SQ _ _ _ _ _ _ _ _; first | apply sq_nil | (apply q_move; exact rfl; exact rfl) | (apply q_assign; exact rfl; exact rfl) | (apply q_lenl; exact rfl; exact rfl; exact (ty rfl); exact rfl) | (apply q_add; exact rfl; exact rfl; exact rfl) | (apply q_lss; exact rfl; exact rfl; exact rfl) | (apply q_ixl; exact rfl; exact rfl; exact rfl; exact (ty rfl); exact rfl; exact rfl; exact rfl; exact (by first | omega | (simp; done) | (simp; omega)); exact (by first | omega | (simp; done) | (simp; omega))))
    | (show SQ _ _ _ _ _ _ _ _; (first | (apply q_store; exact rfl; exact rfl; exact (ty rfl); exact rfl; exact (by first | rfl | assumption | ((try simp only [Nat.zero_add]); refine List.getElem?_set_self ?_; (try simp only [List.length_set]); assumption)); exact rfl; exact rfl; exact rfl)); (try simp only [put, rowsOf, plR, List.all_cons, selE, ovr, setH, del, cellsA, splice, isV, List.nil_append, List.cons_append, List.map_cons, List.map_nil, List.length_cons, List.length_nil, List.set_cons_zero, List.set_cons_succ, List.take_succ_cons, List.take_zero, List.take_nil, List.drop_succ_cons, List.drop_zero, List.drop_nil, List.append_nil, List.all_cons, List.all_nil, Bool.and_true, Bool.true_and, Bool.and_false, Bool.false_and, Nat.reduceAdd, Nat.zero_add, Nat.add_zero, Nat.reduceEqDiff, if_true, if_false, reduceIte]))
    | (show AW _ _ _ _ _ _ _ _; first | refine aw_region ?_ | (refine aw_seqk ?_; intro K hK) | refine aw_block ?_ | (apply aw_cond_t; exact rfl; exact (by assumption)) | refine aw_skip ?_)
    | refine thn_n ?_
    | (refine hK _ _ _ ?_; clear hK K)
    | refine inb_n ?_)); all_goals (repeat (clear hK K)))
    exact ⟨i + 1, id, c2, by omega, ⟨by (repeat (refine ⟨by first | exact lk_i rfl (by (try dsimp only); first | rfl | omega | (rw [IntWalk.i64_in _ (by omega)]; first | rfl | omega | (push_cast; omega)) | (simp; done) | (simp; omega)) | exact lk_s rfl rfl rfl rfl, ?_⟩)); exact trivial, by (repeat (refine ⟨by first | exact lkb rfl rfl rfl (by rw [← mkI_set c2]; simp; rfl) rfl, ?_⟩)); exact trivial, by rfl, by (intro i hi; (try dsimp only); refine ⟨?_, ?_⟩ <;> first | rfl | omega | (simp at hi; omega) | (simp; omega))⟩⟩
  · have b2 : decide ((i : Int) < ((xs.length : Nat) : Int)) = false := by simpa using c2
    obtain rfl : i = xs.length := by omega
    ((repeat' (first
    | (show SQ _ _ _ _ _ _ _ _; first | apply sq_nil | (apply q_move; exact rfl; exact rfl) | (apply q_assign; exact rfl; exact rfl) | (apply q_lenl; exact rfl; exact rfl; exact (ty rfl); exact rfl) | (apply q_lss; exact rfl; exact rfl; exact rfl))
    | (show AW _ _ _ _ _ _ _ _; first | refine aw_region ?_ | (refine aw_seqk ?_; intro K hK) | (apply aw_cond_f; exact rfl; exact (by assumption)) | refine aw_ret ?_ | refine aw_exit ?_)
    | refine thn_n ?_
    | (refine hK _ _ _ ?_; clear hK K)
    | refine thn_e ?_
    | refine inb_same ?_
    | (clear hK K; refine hK _ _ _ ?_; clear hK K))); all_goals (repeat (clear hK K)))
    exact finc (fun i => i) (.r1 _ _ (.tmp _ _ rfl)) rfl (fun _ _ => rfl) ⟨by rw [ramp_full]; rfl, trivial⟩ rfl
end Go.Proofs.Yteknfaldpajlpaa.Il

namespace Go.Proofs.Yteknfaldpajlpaa.Aw
open Go Go.RowKit
set_option linter.unusedVariables false
section
variable {Old : Nat → Prop} {wi : WI} {K : Nat → Prop} {m : Nat → Loc} {S : Nat → Prop} {H H' : Hp} {w : World}
theorem Rel.less (hs : ∀ i b, look H' i = some b → look H i = some b) (hr : Rel Old wi K m S H w) : Rel Old wi K m S H' w :=
  { hr with
    oown := (fun i b h => hr.oown i b (hs i b h))
    om := (fun i b h => hr.om i b (hs i b h))
    inS := (fun i b h => hr.inS i b (hs i b h))
    own := (fun i b h => hr.own i b (hs i b h))
    inj := (fun i j bi bj hi hj => hr.inj i j bi bj (hs i bi hi) (hs j bj hj)) }
end
section
variable {P : Program} {N g n n' : Nat} {all : Array Oper} {l : List Oper} {G : Tp → Hp → Nat → Prop} {Q : Exit → Tp → Hp → Nat → Prop} {T : Tp} {H H' : Hp} {d : Nat} {ty : TypeId} {pos : String} {after : Array Edge}
theorem sq_sub (hs : ∀ i b, look H' i = some b → look H i = some b) (h : SQ P N all l G T H' n) : SQ P N all l G T H n := fun Old wi K m a w Q hr ht hq => h Old wi K m a w Q (hr.less hs) ht hq
theorem q_callN {f : Operand} {gf : FuncId} {xs : Array Operand} {ts : Array TypeId} {caps args args' : List AV} {v : AV} {u Ut : Hp} (hd : Nat.blt d N = true) (hf : evalA T f = some (.fn gf caps)) (ha : evalL T xs.toList = some args) (hz : FzL H (args ++ caps) args') (hro : RO P gf args' n v (u ++ Ut) n')
    (h : SQ P N all l G ((d, v) :: T) (u ++ (H ++ Ut)) n') : SQ P N all (⟨some d, .call { callee := .value f, args := xs, argTypes := ts }, ty, pos, after, none⟩ :: l) G T H n := by
  intro Old wi K m a w Q hr ht hq
  have hU := hro.2.2.1
  refine q_callU hd hf ha hz hro (sq_sub (fun i b hb => ?_) h) Old wi K m a w Q hr ht hq
  rw [look_append] at hb
  rw [List.append_assoc, look_append]
  cases hu : look u i with
  | some c => rw [hu] at hb; exact hb
  | none =>
    rw [hu, Option.none_or, look_append] at hb
    rw [Option.none_or, look_append]
    cases hh : look H i with
    | none => rw [hh, Option.none_or] at hb; rw [hb]; rfl
    | some c =>
      rw [hh, Option.some_or] at hb
      cases ht : look Ut i with
      | none => exact hb
      | some e =>
        have h1 := hr.inS i c hh
        have h2 := hU i e (by rw [look_append, hu, Option.none_or]; exact ht)
        exact absurd h2.1 (by have : i < n := h1; omega)
end
def nst (base : Nat) : List Blk → Hp
  | [] => []
  | b :: bs => (base, b) :: nst (base + 1) bs
theorem look_nst : ∀ (bs : List Blk) (base k : Nat), look (nst base bs) k = if base ≤ k then bs[k - base]? else none
  | [], base, k => by simp [nst, look_nil]
  | b :: bs, base, k => by
    rw [nst, look_cons, look_nst bs (base + 1) k]
    by_cases h : base = k
    · subst h; simp
    · rw [if_neg h]
      by_cases h2 : base ≤ k
      · rw [if_pos h2, if_pos (by omega), show k - base = (k - (base + 1)) + 1 by omega]; rfl
      · rw [if_neg h2, if_neg (by omega)]
theorem look_nst_at {bs : List Blk} {base j : Nat} : look (nst base bs) (base + j) = bs[j]? := by
  rw [look_nst, if_pos (by omega), Nat.add_sub_cancel_left]
theorem nst_keys : ∀ (bs : List Blk) (base : Nat), (nst base bs).map (·.1) = List.range' base bs.length
  | [], _ => rfl
  | b :: bs, base => by rw [nst, List.map_cons, nst_keys bs (base + 1), List.length_cons, List.range'_succ]
def NstIn (H : Hp) (base : Nat) (bs : List Blk) : Prop := ∀ (j : Nat) (b : Blk), bs[j]? = some b → look H (base + j) = some b
theorem nlt {bs : List Blk} {j : Nat} {b : Blk} (h : bs[j]? = some b) : j < bs.length := (List.getElem?_eq_some_iff.1 h).1
theorem NstIn.here' {base : Nat} {bs : List Blk} : NstIn (nst base bs) base bs := fun j b h => by rw [look_nst_at, h]
theorem NstIn.cons {base i : Nat} {b : Blk} {bs : List Blk} {H : Hp} (h : i < base ∨ base + bs.length ≤ i) (hn : NstIn H base bs) : NstIn ((i, b) :: H) base bs := fun j c hc => by
  have := nlt hc
  rw [look_cons, if_neg (by omega)]; exact hn j c hc
theorem NstIn.skip {base base' : Nat} {bs bs' : List Blk} {H : Hp} (h : base + bs.length ≤ base' ∨ base' + bs'.length ≤ base) (hn : NstIn H base bs) : NstIn (nst base' bs' ++ H) base bs := fun j c hc => by
  have := nlt hc
  rw [look_append, look_nst]
  by_cases h2 : base' ≤ base + j
  · rw [if_pos h2, List.getElem?_eq_none (by omega)]; exact hn j c hc
  · rw [if_neg h2]; exact hn j c hc
def outR (base : Nat) : List Nat → List (List AV)
  | [] => []
  | n :: ns => [.sl base 0 n] :: outR (base + 1) ns
theorem outR_len : ∀ (ns : List Nat) (base : Nat), (outR base ns).length = ns.length
  | [], _ => rfl
  | n :: ns, base => by rw [outR, List.length_cons, outR_len ns, List.length_cons]
theorem outR_get : ∀ (ns : List Nat) (base i : Nat), (outR base ns)[i]? = ns[i]?.map fun n => [.sl (base + i) 0 n]
  | [], base, i => by simp [outR]
  | n :: ns, base, 0 => rfl
  | n :: ns, base, i + 1 => by
    rw [outR, List.getElem?_cons_succ, outR_get ns (base + 1) i, List.getElem?_cons_succ, show base + 1 + i = base + (i + 1) by omega]
theorem outR_app : ∀ (ns ms : List Nat) (base : Nat), outR base (ns ++ ms) = outR base ns ++ outR (base + ns.length) ms
  | [], ms, base => rfl
  | n :: ns, ms, base => by rw [List.cons_append, outR, outR, outR_app ns ms (base + 1), List.cons_append, List.length_cons, show base + 1 + ns.length = base + (ns.length + 1) by omega]
def blkR (ity : TypeId) (rows : List (List AV)) : Blk := ⟨ity, 1, true, rows⟩
def nestB (ty : TypeId) (k : Nat) (Ls : List (List (List AV))) : Blk := ⟨ty, 1, false, outR (k + 1) (Ls.map List.length)⟩
theorem fz_outR {H : Hp} {ity : TypeId} : ∀ (Ls : List (List (List AV))) (base : Nat), NstIn H base (Ls.map (blkR ity)) → (outR base (Ls.map List.length)).mapM (fun r => r.mapM (fz 1 H)) = some (Ls.map fun rows => [.dsl 1 rows])
  | [], _, _ => rfl
  | rows :: Ls, base, h => by
    have h0 := h 0 (blkR ity rows) rfl
    have ih := fz_outR Ls (base + 1) fun j b hb => by
      have := h (j + 1) b (by simpa using hb)
      rwa [show base + (j + 1) = base + 1 + j by omega] at this
    rw [List.map_cons, outR, List.mapM_cons, ih, List.mapM_cons]
    have h0 : look H base = some (blkR ity rows) := h0
    have e : fz 1 H (.sl base 0 rows.length) = some (.dsl 1 rows) := by
      simp only [fz, h0, blkR, Nat.zero_add, Nat.le_refl, if_true, List.drop_zero, List.take_length]
    rw [e]; rfl
theorem Fz.nst {H : Hp} {k len : Nat} {ty ity : TypeId} {Ls : List (List (List AV))} {rows : List (List AV)} (hl : look H k = some (nestB ty k Ls)) (hn : NstIn H (k + 1) (Ls.map (blkR ity))) (he : len = Ls.length) (hr : (Ls.map fun rows => [.dsl 1 rows]) = rows) : Fz H (.sl k 0 len) (.dsl 1 rows) := by
  subst he hr
  refine fun _ _ _ _ _ _ _ hrel hv => fz_vr hrel 2 _ _ _ ?_ hv
  have hlen := outR_len (Ls.map List.length) (k + 1)
  rw [List.length_map] at hlen
  rw [fz, hl]
  simp only [nestB, Nat.zero_add, List.drop_zero]
  rw [if_pos (by omega), List.take_of_length_le (by omega), if_neg (by simp), fz_outR Ls (k + 1) hn]
  rfl
theorem RO.wide {P : Program} {f : FuncId} {args : List AV} {n n' n'' : Nat} {v : AV} {U : Hp} (h : RO P f args n v U n') (hn : n' ≤ n'') : RO P f args n v U n'' := by
  obtain ⟨h1, h2, h3, h4⟩ := h
  refine ⟨h1, by omega, fun i b hl => by have := h3 i b hl; omega, fun K w xs hk hv => (h4 K w xs hk hv).mono fun e w' ⟨r, m', he, hr⟩ => ⟨r, fun i => if i < n' then m' i else ⟨0, 0, 0, true⟩, he, ?_⟩⟩
  have hm : ∀ i, n ≤ i ∧ i < n' → (if i < n' then m' i else (⟨0, 0, 0, true⟩ : Loc)) = m' i := fun i hi => if_pos hi.2
  have hU : ∀ i b, look U i = some b → (if i < n' then m' i else (⟨0, 0, 0, true⟩ : Loc)) = m' i := fun i b hl => hm i (h3 i b hl)
  refine { below := hr.below, vr := hr.vr.mono (fun _ h => h) (fun _ _ => rfl) (fun i hi => ⟨hi.1, by omega⟩) hm, new := fun i g1 g2 hp => ?_, ids := fun i b hl => by have := h3 i b hl; omega, own := fun i b hl => ?_, inj := fun i j bi bj hi hj hne => ?_, nm := fun i b hl => ?_ }
  · split at hp
    · rename_i hlt; rw [if_pos hlt]; exact hr.new i g1 hlt hp
    · cases hp
  · have hs := h3 i b hl
    rcases hr.own i b hl with ⟨g1, g2⟩ | ⟨g1, g2⟩
    · exact .inl ⟨by dsimp only; rw [hU i b hl]; exact g1, g2⟩
    · refine .inr ⟨by dsimp only; rw [hU i b hl]; exact g1, ?_⟩
      have := g2.mono (w' := w') (m' := fun i => if i < n' then m' i else (⟨0, 0, 0, true⟩ : Loc)) (S' := fun i => n ≤ i ∧ i < n'') (fun _ _ => rfl) rfl (fun i hi => ⟨hi.1, by omega⟩) hm hs
      exact this
  · rw [hU i bi hi, hU j bj hj]; exact hr.inj i j bi bj hi hj hne
  · rw [hU i b hl]; exact hr.nm i b hl
/-! loops -/
theorem subH_nst {H : Hp} {ρ : Nat → Nat} {n' : Nat} : ∀ (bs : List Blk) (base : Nat) (R : Hp), (∀ (j : Nat) (b : Blk), bs[j]? = some b → look H (ρ (base + j)) = some (renB ρ b) ∧ idsOkB n' b = true ∧ Nat.blt (base + j) n' = true) → subH H ρ n' R → subH H ρ n' (nst base bs ++ R)
  | [], _, _, _, hR => hR
  | b :: bs, base, R, h, hR => ⟨h 0 b rfl, subH_nst bs (base + 1) R (fun j c hc => by
      have := h (j + 1) c (by simpa using hc)
      rwa [show base + (j + 1) = base + 1 + j by omega] at this) hR⟩
theorem injB_of {ρ : Nat → Nat} : ∀ {l : List Nat}, (∀ i ∈ l, ∀ j ∈ l, ρ i = ρ j → i = j) → injB ρ l = true
  | [], _ => rfl
  | i :: l, h => by
    rw [injB, Bool.and_eq_true]
    refine ⟨List.all_eq_true.2 fun j hj => ?_, injB_of fun a ha b hb => h a (List.mem_cons_of_mem _ ha) b (List.mem_cons_of_mem _ hb)⟩
    by_cases e : ρ i = ρ j
    · have := h i List.mem_cons_self j (List.mem_cons_of_mem _ hj) e
      subst this; simp
    · simp only [Bool.or_eq_true, Bool.not_eq_true']
      exact .inr (by cases hb : Nat.beq (ρ i) (ρ j) with | false => rfl | true => exact absurd (Nat.eq_of_beq_eq_true hb) e)
theorem outR_ren {ρ : Nat → Nat} : ∀ (ns : List Nat) (base base' : Nat), (∀ j, j < ns.length → ρ (base + j) = base' + j) → (outR base ns).map (renL ρ) = outR base' ns
  | [], _, _, _ => rfl
  | n :: ns, base, base', h => by
    have h0 : ρ base = base' := h 0 (by simp)
    rw [outR, outR, List.map_cons, outR_ren ns (base + 1) (base' + 1) fun j hj => by have := h (j + 1) (by simpa using hj); rw [show base + 1 + j = base + (j + 1) by omega, this]; omega]
    simp only [renL, renA, h0]
theorem outR_ids {n : Nat} : ∀ (ns : List Nat) (base : Nat), base + ns.length ≤ n → (outR base ns).all (idsOkL n) = true
  | [], _, _ => rfl
  | a :: ns, base, h => by
    rw [List.length_cons] at h
    rw [outR, List.all_cons, outR_ids ns (base + 1) (by omega)]
    simp only [idsOkL, idsOk, Nat.blt_eq, Bool.and_true]
    omega
end Go.Proofs.Yteknfaldpajlpaa.Aw

namespace Go.Proofs.Yteknfaldpajlpaa.Nb
open Go Go.RowKit Go.Proofs.Yteknfaldpajlpaa.Aw Go.Proofs.Yteknfaldpajlpaa.In Go.Proofs.Yteknfaldpajlpaa.Il
set_option linter.unusedSimpArgs false
set_option linter.unusedVariables false
set_option linter.unusedSectionVars false
attribute [local irreducible] AW SQ Step RO RC DE Thn InB
def szL : List (List Int) → Int → Int
  | [], z => z
  | l :: ls, z => if szB l.length z < 0 then -1 else szL ls (szB l.length z)
def szSS (ls : List (List Int)) (z : Int) : Int := if z - ls.length < 0 then -1 else szL ls (z - ls.length)
def totN (ls : List (List Int)) : Nat := (ls.map List.length).sum
theorem szL_in : ∀ {ls : List (List Int)} {z : Int}, z ≤ 1048576 → 0 ≤ z → ¬ szL ls z < 0 → (totN ls : Int) ≤ z ∧ ∀ l ∈ ls, l.length ≤ 1048576
  | [], z, h1, h0, _ => ⟨by simpa [totN] using h0, by simp⟩
  | l :: ls, z, h1, h0, h => by
    rw [szL] at h
    split at h
    · exact absurd h (by decide)
    · rename_i hc
      obtain ⟨g1, g2, g3, g4⟩ := szB_in h1 h0 hc
      obtain ⟨i1, i2⟩ := szL_in g3 g2 h
      have e : szB l.length z = z - l.length := by
        unfold szB at hc ⊢; split at hc
        · exact absurd hc (by decide)
        · rename_i h; rw [if_neg h]
      refine ⟨?_, fun x hx => ?_⟩
      · simp only [totN, List.map_cons, List.sum_cons] at i1 ⊢
        omega
      · rcases List.mem_cons.1 hx with rfl | hx
        · exact g1
        · exact i2 x hx
set_option maxHeartbeats 4000000 in
theorem eqInt64SS_ro (ls : List (List Int)) (hS : NbS ls) (k : Nat) : RO Try.prog 13 [.dsl 1 (nbL ls), .dsl 1 (nbL ls)] k (.v (.bool true)) [] k := by
  have hnl := nbL_len ls
  have b0 : (((nbL ls).length : Int) != ((nbL ls).length : Int)) = false := by simp
  have b3 : (!true) = false := rfl
  have hn := hS.n
  refine RO.ofv' Try.func13 Try.ntmps13 rfl (goFn_of Try.func13 rfl (by kernel_rfl)) rfl rfl ?_
  ((repeat' (first
    | (show SQ _ _ _ _ _ _ _ _; first | apply sq_nil | (apply q_move; exact rfl; exact rfl) | (apply q_assign; exact rfl; exact rfl) | (apply q_lend; exact rfl; exact rfl; exact (ty rfl); exact rfl) | (apply q_neq; exact rfl; exact rfl; exact rfl))
    | (show AW _ _ _ _ _ _ _ _; first | refine aw_region ?_ | (refine aw_seqk ?_; intro K hK) | refine aw_block ?_ | (apply aw_cond_f; exact rfl; exact (by assumption)) | refine aw_skip ?_)
    | refine thn_n ?_
    | (refine hK _ _ _ ?_; clear hK K))); all_goals (repeat (clear hK K)))
  refine aw_loop (ρ := id) (ι := Nat) (fun i => ([(5, .v (.int .i64 i)), (1, .dsl 1 (nbL ls)), (0, .dsl 1 (nbL ls))], [], 0))
    (fun i => i ≤ ls.length) (fun i => ls.length - i) 0 (Nat.zero_le _) ⟨by (repeat (refine ⟨by first | exact lk_i rfl rfl | exact lk_d rfl rfl, ?_⟩)); exact trivial, by exact trivial, by rfl, by exact pin_0⟩ ?_
  intro i hi
  by_cases c1 : i < ls.length
  · have b1 : decide ((i : Int) < ((nbL ls).length : Int)) = true := by rw [hnl]; simpa using c1
    have hrow := nbL_get c1
    have hE := eqInt64S_ro ls[i] (hS.m _ (List.getElem_mem c1))
    have hw : IntKind.i64.wrap ((i : Int) + 1) = ((i + 1 : Nat) : Int) := by rw [IntWalk.i64_in _ (by omega)]; omega
    ((repeat' (first
    | (show SQ _ _ _ _ _ _ _ _; first | apply sq_nil | (apply q_move; exact rfl; exact rfl) | (apply q_assign; exact rfl; exact rfl) | (apply q_lend; exact rfl; exact rfl; exact (ty rfl); exact rfl) | (apply q_add; exact rfl; exact rfl; exact rfl) | (apply q_lss; exact rfl; exact rfl; exact rfl))
    | (show DE _ _ _ _ _ _ _ _ _ _ _ _; first | (apply e_move; exact rfl; exact rfl; exact rfl) | (apply e_not; exact rfl; exact rfl; exact rfl) | (apply e_ixd; exact rfl; exact rfl; exact rfl; exact (ty rfl); exact rfl; exact (by first | omega | (simp; done) | (simp; omega)); exact (by first | omega | (simp; done) | (simp; omega)); exact (by first | rfl | assumption); exact rfl) | (apply e_ld1d; exact rfl; exact rfl; exact (ty rfl); exact rfl; exact rfl; exact rfl))
    | (show DE _ _ _ _ _ _ _ _ _ _ _ _; (first | (apply dr_nil; exact trivial) | (apply e_callU; exact rfl; exact rfl; exact rfl; exact FzL.of rfl; exact hE _; exact rfl)); (try simp only [put, rowsOf, plR, List.all_cons, selE, ovr, setH, del, cellsA, splice, isV, List.nil_append, List.cons_append, List.map_cons, List.map_nil, List.length_cons, List.length_nil, List.set_cons_zero, List.set_cons_succ, List.take_succ_cons, List.take_zero, List.take_nil, List.drop_succ_cons, List.drop_zero, List.drop_nil, List.append_nil, List.all_cons, List.all_nil, Bool.and_true, Bool.true_and, Bool.and_false, Bool.false_and, Nat.reduceAdd, Nat.zero_add, Nat.add_zero, Nat.reduceEqDiff, if_true, if_false, reduceIte]))
    | (show AW _ _ _ _ _ _ _ _; first | refine aw_region ?_ | (refine aw_seqk ?_; intro K hK) | refine aw_block ?_ | (apply aw_cond_f; exact rfl; exact rfl) | (apply aw_cond_t; exact rfl; exact (by assumption)) | refine aw_skip ?_ | refine aw_drawE (id := 6) [0, 0, 3, 7, 0, 0, 48, 112, 255, 511] [0, 0, 0, 1, 0, 0, 0, 1, 1, 0] mixed (by kernel_rfl) ?_)
    | refine thn_n ?_
    | (refine hK _ _ _ ?_; clear hK K)
    | refine inb_n ?_)); all_goals (repeat (clear hK K)))
    all_goals (refine ⟨i + 1, id, c1, by omega, ?_⟩; (try dsimp only); rw [← hw]; exact ⟨by (repeat (refine ⟨by first | exact lk_i rfl rfl | exact lk_d rfl rfl, ?_⟩)); exact trivial, by exact trivial, by rfl, by exact pin_0⟩)
  · have b1 : decide ((i : Int) < ((nbL ls).length : Int)) = false := by rw [hnl]; simpa using c1
    ((repeat' (first
    | (show SQ _ _ _ _ _ _ _ _; first | apply sq_nil | (apply q_move; exact rfl; exact rfl) | (apply q_assign; exact rfl; exact rfl) | (apply q_lend; exact rfl; exact rfl; exact (ty rfl); exact rfl) | (apply q_lss; exact rfl; exact rfl; exact rfl))
    | (show AW _ _ _ _ _ _ _ _; first | refine aw_region ?_ | (refine aw_seqk ?_; intro K hK) | (apply aw_cond_f; exact rfl; exact (by assumption)) | refine aw_ret ?_ | refine aw_exit ?_)
    | refine thn_n ?_
    | (refine hK _ _ _ ?_; clear hK K)
    | refine thn_e ?_
    | refine inb_same ?_
    | (clear hK K; refine hK _ _ _ ?_; clear hK K))); all_goals (repeat (clear hK K)))
    all_goals exact fin_r (fin_b rfl rfl)
def mkS (z : Int) : List (List Int) → List (List Int)
  | [] => []
  | l :: ls => (List.range l.length).map (up z) :: mkS (z + l.length) ls
theorem mkS_len : ∀ (ls : List (List Int)) (z : Int), (mkS z ls).length = ls.length
  | [], _ => rfl
  | l :: ls, z => by rw [mkS, List.length_cons, mkS_len ls, List.length_cons]
theorem mkS_get : ∀ (ls : List (List Int)) (z : Int) (i : Nat) (h : i < ls.length), (mkS z ls)[i]? = some ((List.range ls[i].length).map (up (z + (totN (ls.take i) : Int))))
  | l :: ls, z, 0, _ => by simp [mkS, totN]
  | l :: ls, z, i + 1, h => by
    have e : (z + (l.length : Int) + (totN (ls.take i) : Int)) = z + (totN (l :: ls.take i) : Int) := by
      simp only [totN, List.map_cons, List.sum_cons]; omega
    rw [mkS, List.getElem?_cons_succ, mkS_get ls (z + l.length) i (by simpa using h), e]; rfl
theorem totN_take {ls : List (List Int)} {i : Nat} (h : i < ls.length) : totN (ls.take (i + 1)) = totN (ls.take i) + ls[i].length := by
  unfold totN; rw [List.take_succ_eq_append_getElem h, List.map_append, List.sum_append]; simp
theorem totN_le (ls : List (List Int)) (i : Nat) : totN (ls.take i) ≤ totN ls := by
  unfold totN
  have := congrArg (fun l => (List.map List.length l).sum) (List.take_append_drop i ls)
  simp only [List.map_append, List.sum_append] at this
  omega
end Go.Proofs.Yteknfaldpajlpaa.Nb

namespace Go.Proofs.Yteknfaldpajlpaa.Nb
open Go Go.RowKit Go.Proofs.Yteknfaldpajlpaa.Aw Go.Proofs.Yteknfaldpajlpaa.In Go.Proofs.Yteknfaldpajlpaa.Il
set_option linter.unusedSimpArgs false
set_option linter.unusedVariables false
set_option linter.unusedSectionVars false
attribute [local irreducible] AW SQ Step RO RC DE Thn InB
def niB (k : Nat) (ls : List (List Int)) : Blk := ⟨23, 1, false, outR (k + 1) (ls.map List.length)⟩
def niT (ls : List (List Int)) : List Blk := ls.map fun l => ⟨2, 1, true, l.map inL⟩
theorem niT_len (ls : List (List Int)) : (niT ls).length = ls.length := List.length_map _
theorem niT_get {ls : List (List Int)} {j : Nat} {b : Blk} (h : (niT ls)[j]? = some b) : ∃ hj : j < ls.length, b = ⟨2, 1, true, ls[j].map inL⟩ := by
  have hj := nlt h
  rw [niT_len] at hj
  refine ⟨hj, ?_⟩
  simp only [niT, List.getElem?_map, List.getElem?_eq_getElem hj, Option.map_some, Option.some.injEq] at h
  exact h.symm
theorem renB_pl (ρ : Nat → Nat) {b : Blk} (h : b.pl = true) : renB ρ b = b := by
  obtain ⟨ty, sz, pl, rows⟩ := b
  dsimp only at h
  subst h; rfl
theorem sub_nest {g n' : Nat} {T : Tp} {H : Hp} {ρ : Nat → Nat} {T' : Tp} {b : Blk} {bs : List Blk} (ht : subT T ρ n' T') (hb : Aw.look H (ρ 0) = some (renB ρ b)) (hi : idsOkB n' b = true)
    (hn : ∀ (j : Nat) (c : Blk), bs[j]? = some c → Aw.look H (ρ (1 + j)) = some c ∧ c.pl = true) (hl : 1 + bs.length ≤ n') (hj : ∀ i j, i ≤ bs.length → j ≤ bs.length → ρ i = ρ j → i = j) (hp : PinOk g ρ n') : Sub g T H ρ T' ((0, b) :: nst 1 bs) n' := by
  refine ⟨ht, ⟨⟨hb, hi, ?_⟩, ?_⟩, ?_, hp⟩
  · rw [Nat.blt_eq]; omega
  · have := subH_nst (H := H) (ρ := ρ) (n' := n') bs 1 [] (fun j c hc => ?_) trivial
    · rwa [List.append_nil] at this
    · obtain ⟨h1, h2⟩ := hn j c hc
      have := nlt hc
      refine ⟨by rw [renB_pl ρ h2]; exact h1, ?_, by rw [Nat.blt_eq]; omega⟩
      obtain ⟨ty, sz, pl, rows⟩ := c
      dsimp only at h2
      subst h2; rfl
  · refine injB_of fun a ha c hc => hj a c ?_ ?_
    · rw [List.map_cons, nst_keys] at ha
      rcases List.mem_cons.1 ha with rfl | ha
      · exact Nat.zero_le _
      · have := List.mem_range'_1.1 ha; omega
    · rw [List.map_cons, nst_keys] at hc
      rcases List.mem_cons.1 hc with rfl | hc
      · exact Nat.zero_le _
      · have := List.mem_range'_1.1 hc; omega
def rowsT (ls : List (List Int)) (i : Nat) : List (List AV) := outR 1 ((ls.take i).map List.length) ++ List.replicate (ls.length - i) [.v (.slice none 0 0)]
theorem rowsT_len {ls : List (List Int)} {i : Nat} (h : i ≤ ls.length) : (rowsT ls i).length = ls.length := by
  rw [rowsT, List.length_append, outR_len, List.length_map, List.length_take, List.length_replicate]; omega
theorem rowsT_get {ls : List (List Int)} {i : Nat} (h : i < ls.length) : (rowsT ls i)[i]? = some [.v (.slice none 0 0)] := by
  have : (outR 1 ((ls.take i).map List.length)).length = i := by rw [outR_len, List.length_map, List.length_take]; omega
  rw [rowsT, List.getElem?_append_right (by omega), this, Nat.sub_self, List.getElem?_replicate, if_pos (by omega)]
theorem rowsT_step {ls : List (List Int)} {i X : Nat} (h : i < ls.length) (hX : 1 + i ≠ X) : (rowsT ls (i + 1)).map (renL (mv (1 + i) X)) = (rowsT ls i).set i [.sl X 0 ls[i].length] := by
  have hl : (outR 1 ((ls.take i).map List.length)).length = i := by rw [outR_len, List.length_map, List.length_take]; omega
  have hl2 : ((ls.take i).map List.length).length = i := by rw [List.length_map, List.length_take]; omega
  have e1 : outR 1 ((ls.take (i + 1)).map List.length) = outR 1 ((ls.take i).map List.length) ++ [[.sl (1 + i) 0 ls[i].length]] := by
    rw [List.take_succ_eq_append_getElem h, List.map_append, outR_app, hl2]; rfl
  have e2 : List.replicate (ls.length - i) [AV.v (.slice none 0 0)] = [.v (.slice none 0 0)] :: List.replicate (ls.length - (i + 1)) [.v (.slice none 0 0)] := by
    rw [show ls.length - i = (ls.length - (i + 1)) + 1 by omega]; rfl
  have e3 : (outR 1 ((ls.take i).map List.length)).map (renL (mv (1 + i) X)) = outR 1 ((ls.take i).map List.length) :=
    outR_ren _ 1 1 fun j hj => by rw [hl2] at hj; rw [mv, if_neg (by omega)]
  have e4 : (List.replicate (ls.length - (i + 1)) [AV.v (.slice none 0 0)]).map (renL (mv (1 + i) X)) = List.replicate (ls.length - (i + 1)) [.v (.slice none 0 0)] := by
    rw [List.map_replicate]; rfl
  rw [rowsT, e1, List.map_append, List.map_append, e3, e4, rowsT, e2, List.set_append_right _ _ (by omega), hl, Nat.sub_self, List.set_cons_zero]
  simp only [List.map_cons, List.map_nil, renL, renA, mv, if_true, List.append_assoc, List.singleton_append]
theorem rowsT_ids {ls : List (List Int)} {i n : Nat} (h : i ≤ ls.length) (hn : 1 + ls.length ≤ n) : (rowsT ls i).all (idsOkL n) = true := by
  rw [rowsT, List.all_append, outR_ids _ _ (by rw [List.length_map, List.length_take]; omega), Bool.true_and, List.all_eq_true]
  intro r hr
  rw [(List.mem_replicate.1 hr).2]; rfl
theorem shH_nst (n : Nat) : ∀ (bs : List Blk) (base : Nat), (∀ b ∈ bs, b.pl = true) → shH n (nst base bs) = nst (base + n) bs
  | [], _, _ => rfl
  | b :: bs, base, h => by
    have := shH_nst n bs (base + 1) fun c hc => h c (List.mem_cons_of_mem _ hc)
    rw [nst, nst, ← (by omega : base + 1 + n = base + n + 1), ← this]
    show (base + n, renB _ b) :: _ = _
    rw [renB_pl _ (h b List.mem_cons_self)]; rfl
theorem shH_ni (m : Nat) (ls : List (List Int)) : shH m ((0, niB 0 ls) :: nst 1 (niT ls)) = (m, niB m ls) :: nst (m + 1) (niT ls) := by
  have h1 := shH_nst m (niT ls) 1 fun b hb => by
    obtain ⟨j, hj⟩ := List.getElem?_of_mem hb
    obtain ⟨_, rfl⟩ := niT_get hj; rfl
  have h2 : renB (fun i => i + m) (niB 0 ls) = niB m ls := by
    unfold niB renB
    dsimp only
    rw [outR_ren _ 1 (m + 1) fun j hj => by omega]
  show (0 + m, renB _ (niB 0 ls)) :: shH m (nst 1 (niT ls)) = _
  rw [h1, h2, Nat.zero_add, Nat.add_comm 1 m]
theorem full_ni (ls : List (List Int)) : fullB ((0, niB 0 ls) :: nst 1 (niT ls)) (ls.length + 1) = true := by
  have hsz : ∀ (bs : List Blk) (base n : Nat), (∀ b ∈ bs, b.size = 1) → base + bs.length ≤ n → (nst base bs).all (fun p => Nat.blt p.1 n && !Nat.beq p.2.size 1000003) = true := by
    intro bs
    induction bs with
    | nil => intros; rfl
    | cons b bs ih =>
      intro base n h hn
      rw [List.length_cons] at hn
      rw [nst, List.all_cons, ih (base + 1) n (fun c hc => h c (List.mem_cons_of_mem _ hc)) (by omega), Bool.and_true]
      dsimp only
      rw [h b List.mem_cons_self]
      have : Nat.blt base n = true := by rw [Nat.blt_eq]; omega
      rw [this]; rfl
  unfold fullB
  rw [Bool.and_eq_true, List.all_cons, hsz (niT ls) 1 _ (fun b hb => by
    obtain ⟨j, hj⟩ := List.getElem?_of_mem hb
    obtain ⟨_, rfl⟩ := niT_get hj; rfl) (by rw [niT_len]; omega)]
  refine ⟨?_, List.all_eq_true.2 fun i hi => ?_⟩
  · have : Nat.blt 0 (ls.length + 1) = true := by rw [Nat.blt_eq]; omega
    dsimp only; rw [this]; rfl
  · have hi := List.mem_range.1 hi
    rw [look_cons]
    split
    · rfl
    · rw [look_nst, if_pos (by omega), List.getElem?_eq_getElem (by rw [niT_len]; omega)]; rfl
theorem nd_ni (ls : List (List Int)) : ((0, niB 0 ls) :: nst 1 (niT ls)).all (fun p => noDeepB p.2) = true := by
  have h1 : ∀ (ns : List Nat) (base : Nat), (outR base ns).all noDeepL = true := by
    intro ns
    induction ns with
    | nil => intro base; rfl
    | cons n ns ih => intro base; rw [outR, List.all_cons, ih]; rfl
  have h2 : ∀ (bs : List Blk) (base : Nat), (∀ b ∈ bs, noDeepB b = true) → (nst base bs).all (fun p => noDeepB p.2) = true := by
    intro bs
    induction bs with
    | nil => intros; rfl
    | cons b bs ih => intro base h; rw [nst, List.all_cons, ih _ fun c hc => h c (List.mem_cons_of_mem _ hc), h b List.mem_cons_self]; rfl
  rw [List.all_cons, h2 _ _ fun b hb => by
    obtain ⟨j, hj⟩ := List.getElem?_of_mem hb
    obtain ⟨_, rfl⟩ := niT_get hj; rfl, Bool.and_true]
  exact h1 _ _
theorem fin_ni {P : Program} {rs : List ResultVar} {X B : Nat} {T : Tp} {H : Hp} {ls : List (List Int)} {u v : AV} (ht : ResV P T H rs u) (hu : u = renA (fun z => if z = 0 then X else B + (z - 1)) v) (hi : idsOk (ls.length + 1) v = true) (hd : noDeep v = true)
    (hb : Aw.look H X = some ⟨23, 1, false, outR B (ls.map List.length)⟩) (hn : NstIn H B (niT ls)) (hx : X < B ∨ B + ls.length ≤ X) : FinOk P rs v ((0, niB 0 ls) :: nst 1 (niT ls)) (ls.length + 1) T H := by
  have hs : Sub 0 T H (fun z => if z = 0 then X else B + (z - 1)) [] ((0, niB 0 ls) :: nst 1 (niT ls)) (ls.length + 1) := by
    refine sub_nest trivial ?_ ?_ (fun j c hc => ?_) (by rw [niT_len]; omega) (fun i j hi hj he => ?_) pin_0
    · rw [if_pos rfl, hb]
      unfold niB renB
      dsimp only
      rw [outR_ren _ 1 B fun j hj => by rw [if_neg (by omega)]; omega]
    · exact outR_ids _ _ (by rw [List.length_map]; omega)
    · obtain ⟨_, rfl⟩ := niT_get hc
      refine ⟨?_, rfl⟩
      rw [if_neg (by omega), show B + (1 + j - 1) = B + j by omega]
      exact hn j _ hc
    · rw [niT_len] at hi hj
      split at he <;> split at he <;> omega
  exact ⟨⟨u, _, ht, hu, hs.h, hs.i⟩, hi, hd, nd_ni ls⟩
set_option maxHeartbeats 4000000 in
theorem toInt64SS_ro (ls : List (List Int)) (hS : NbS ls) (k : Nat) : RO Try.prog 10 [.dsl 1 (nbL ls)] k (.sl k 0 ls.length) ((k, niB k ls) :: nst (k + 1) (niT ls)) (k + 1048578) := by
  have hnl := nbL_len ls
  have hn := hS.n
  refine RO.wide (n' := k + (ls.length + 1)) (RO.ofm (.sl 0 0 ls.length) ((0, niB 0 ls) :: nst 1 (niT ls)) (ls.length + 1) Try.func10 Try.ntmps10 rfl (goFn_of Try.func10 rfl (by kernel_rfl)) rfl rfl (by simp [renA]) (shH_ni k ls) (full_ni ls) ?_) (by omega)
  ((repeat' (first
    | (show SQ _ _ _ _ _ _ _ _; first | apply sq_nil | (apply q_move; exact rfl; exact rfl) | (apply q_assign; exact rfl; exact rfl) | (apply q_lend; exact rfl; exact rfl; exact (ty rfl); exact rfl))
    | (show SQ _ _ _ _ _ _ _ _; (first | (apply q_mks; exact rfl; exact rfl; exact rfl; exact (ty rfl); exact rfl; exact (by first | omega | (simp; done) | (simp; omega)); exact (by first | omega | (simp; done) | (simp; omega)); exact (by first | omega | (simp; done) | (simp; omega)); exact (by first | omega | (simp; done) | (simp; omega)); exact rfl; exact rfl)); (try simp only [put, rowsOf, plR, List.all_cons, selE, ovr, setH, del, cellsA, splice, isV, List.nil_append, List.cons_append, List.map_cons, List.map_nil, List.length_cons, List.length_nil, List.set_cons_zero, List.set_cons_succ, List.take_succ_cons, List.take_zero, List.take_nil, List.drop_succ_cons, List.drop_zero, List.drop_nil, List.append_nil, List.all_cons, List.all_nil, Bool.and_true, Bool.true_and, Bool.and_false, Bool.false_and, Nat.reduceAdd, Nat.zero_add, Nat.add_zero, Nat.reduceEqDiff, if_true, if_false, reduceIte]))
    | (show AW _ _ _ _ _ _ _ _; first | refine aw_region ?_ | (refine aw_seqk ?_; intro K hK) | refine aw_block ?_)
    | refine thn_n ?_
    | (refine hK _ _ _ ?_; clear hK K))); all_goals (repeat (clear hK K)))
  refine aw_unpl 0 rfl ?_
  refine aw_loop (ρ := id) (ι := Nat) (fun i => ([(4, .v (.int .i64 i)), (3, .sl 0 0 ls.length), (0, .dsl 1 (nbL ls))], (0, ⟨23, 1, false, rowsT ls i⟩) :: nst 1 ((niT ls).take i), 1048578))
    (fun i => i ≤ ls.length) (fun i => ls.length - i) 0 (Nat.zero_le _) ?_ ?_
  · refine sub_nest (by (repeat (refine ⟨by first | exact lk_i rfl rfl | exact lk_i rfl (by (try dsimp only); first | rfl | omega | (simp; omega)) | exact lk_d rfl rfl | exact lk_s rfl rfl rfl rfl | exact lk_s rfl rfl (by (try dsimp only); first | rfl | omega | (simp; omega)) rfl, ?_⟩)); exact trivial) ?_ (rowsT_ids (n := 1048578) (Nat.zero_le _) (by omega)) (fun j c hc => by simp at hc) (by dsimp only; simp) (fun i j _ _ h => h) pin_0
    show some _ = some _
    rw [rowsT, hnl]
    unfold renB
    dsimp only
    rw [Int.toNat_natCast, Nat.sub_zero]
    show _ = some (Blk.mk _ _ _ ((List.replicate ls.length [AV.v (.slice none 0 0)]).map (renL id)))
    rw [List.map_replicate]; rfl
  intro i hi
  by_cases c1 : i < ls.length
  · have b1 : decide ((i : Int) < ((nbL ls).length : Int)) = true := by rw [hnl]; simpa using c1
    have hrow := nbL_get c1
    have hE := toInt64S_ro ls[i] (hS.m _ (List.getElem_mem c1))
    have hw : IntKind.i64.wrap ((i : Int) + 1) = ((i + 1 : Nat) : Int) := by rw [IntWalk.i64_in _ (by omega)]; omega
    have hr2 : (rowsT ls i)[0 + ((i : Int)).toNat]? = some [.v (.slice none 0 0)] := by rw [Nat.zero_add, Int.toNat_natCast]; exact rowsT_get c1
    have hrl := rowsT_len (ls := ls) hi
    have hlen2 : ((i : Int)).toNat < (rowsT ls i).length := by rw [hrl]; exact c1
    ((repeat' (first
    | (show SQ _ _ _ _ _ _ _ _; first | apply sq_nil | (apply q_move; exact rfl; exact rfl) | (apply q_assign; exact rfl; exact rfl) | (apply q_lend; exact rfl; exact rfl; exact (ty rfl); exact rfl) | (apply q_add; exact rfl; exact rfl; exact rfl) | (apply q_lss; exact rfl; exact rfl; exact rfl) | (apply q_ixd; exact rfl; exact rfl; exact rfl; exact (ty rfl); exact rfl; exact (by first | omega | (simp; done) | (simp; omega)); exact (by first | omega | (simp; done) | (simp; omega)); exact (by first | rfl | assumption)) | (apply q_ixl; exact rfl; exact rfl; exact rfl; exact (ty rfl); exact rfl; exact rfl; exact rfl; exact (by first | omega | (simp; done) | (simp; omega)); exact (by first | omega | (simp; done) | (simp; omega))) | (apply q_ld1d; exact rfl; exact rfl; exact (ty rfl); exact rfl; exact rfl))
    | (show SQ _ _ _ _ _ _ _ _; (first | (apply q_store; exact rfl; exact rfl; exact (ty rfl); exact rfl; exact (by first | rfl | assumption | ((try simp only [Nat.zero_add]); refine List.getElem?_set_self ?_; (try simp only [List.length_set]); assumption)); exact rfl; exact rfl; exact rfl) | (apply q_callU; exact rfl; exact rfl; exact rfl; exact FzL.of rfl; exact hE _)); (try simp only [put, rowsOf, plR, List.all_cons, selE, ovr, setH, del, cellsA, splice, isV, List.nil_append, List.cons_append, List.map_cons, List.map_nil, List.length_cons, List.length_nil, List.set_cons_zero, List.set_cons_succ, List.take_succ_cons, List.take_zero, List.take_nil, List.drop_succ_cons, List.drop_zero, List.drop_nil, List.append_nil, List.all_cons, List.all_nil, Bool.and_true, Bool.true_and, Bool.and_false, Bool.false_and, Nat.reduceAdd, Nat.zero_add, Nat.add_zero, Nat.reduceEqDiff, if_true, if_false, reduceIte]))
    | (show AW _ _ _ _ _ _ _ _; first | refine aw_region ?_ | (refine aw_seqk ?_; intro K hK) | refine aw_block ?_ | (apply aw_cond_t; exact rfl; exact (by assumption)) | refine aw_skip ?_)
    | refine thn_n ?_
    | (refine hK _ _ _ ?_; clear hK K)
    | refine inb_n ?_)); all_goals (repeat (clear hK K)))
    refine ⟨i + 1, mv (1 + i) 1048578, c1, by omega, ?_⟩
    (try dsimp only)
    rw [← hw]
    refine sub_nest ⟨lk_i rfl rfl, lk_s rfl (by rw [mv, if_neg (by omega)]) rfl rfl, lk_d rfl rfl, trivial⟩ ?_ (rowsT_ids c1 (by omega)) (fun j c hc => ?_) (by rw [List.length_take, niT_len]; omega) (fun a b ha hb he => ?_) pin_0
    · rw [show mv (1 + i) 1048578 0 = 0 from if_neg (by omega)]
      unfold renB
      dsimp only
      rw [rowsT_step c1 (by omega)]; rfl
    · have hj := nlt hc
      rw [List.length_take, niT_len] at hj
      rw [List.getElem?_take_of_lt (by omega)] at hc
      obtain ⟨hj2, rfl⟩ := niT_get hc
      refine ⟨?_, rfl⟩
      by_cases e : j = i
      · subst e
        rw [show mv (1 + j) 1048578 (1 + j) = 1048578 from if_pos rfl]; rfl
      · rw [show mv (1 + i) 1048578 (1 + j) = 1 + j from if_neg (by omega), look_cons, if_neg (by omega), look_cons, if_neg (by omega), look_del_ne _ (by omega), look_nst_at, List.getElem?_take_of_lt (by omega)]
        exact hc
    · rw [List.length_take, niT_len] at ha hb
      unfold mv at he
      split at he <;> split at he <;> omega
  · have b1 : decide ((i : Int) < ((nbL ls).length : Int)) = false := by rw [hnl]; simpa using c1
    obtain rfl : i = ls.length := by omega
    ((repeat' (first
    | (show SQ _ _ _ _ _ _ _ _; first | apply sq_nil | (apply q_move; exact rfl; exact rfl) | (apply q_assign; exact rfl; exact rfl) | (apply q_lend; exact rfl; exact rfl; exact (ty rfl); exact rfl) | (apply q_lss; exact rfl; exact rfl; exact rfl))
    | (show AW _ _ _ _ _ _ _ _; first | refine aw_region ?_ | (refine aw_seqk ?_; intro K hK) | (apply aw_cond_f; exact rfl; exact (by assumption)) | refine aw_ret ?_ | refine aw_exit ?_)
    | refine thn_n ?_
    | (refine hK _ _ _ ?_; clear hK K)
    | refine thn_e ?_
    | refine inb_same ?_
    | (clear hK K; refine hK _ _ _ ?_; clear hK K))); all_goals (repeat (clear hK K)))
    refine fin_r (fin_ni (X := 0) (B := 1) (.r1 _ _ (.tmp _ _ rfl)) ?_ ?_ rfl ?_ ?_ (by omega))
    · simp [renA]
    · simp [idsOk, Nat.blt_eq]
    · show some _ = some _
      rw [rowsT, List.take_length, Nat.sub_self, List.replicate_zero, List.append_nil]
    · rw [List.take_of_length_le (by rw [niT_len]; omega)]
      exact .cons (by omega) .here'
end Go.Proofs.Yteknfaldpajlpaa.Nb

namespace Go.Proofs.Yteknfaldpajlpaa.Nb
open Go Go.RowKit Go.Proofs.Yteknfaldpajlpaa.Aw Go.Proofs.Yteknfaldpajlpaa.In Go.Proofs.Yteknfaldpajlpaa.Il
set_option linter.unusedSimpArgs false
set_option linter.unusedVariables false
set_option linter.unusedSectionVars false
attribute [local irreducible] AW SQ Step RO RC DE Thn InB
def someE (H : Hp) : Ef := H.map fun p => (p.1, some p.2)
theorem nmC_range {b k n i : Nat} (h : i ≤ n) : nmC (List.range' b (n + 1)) k i = b + i := by
  unfold nmC
  rw [List.getElem?_range' (by omega)]
  dsimp only; omega
theorem renH_nst {σ : Nat → Nat} : ∀ (bs : List Blk) (base base' : Nat), (∀ b ∈ bs, b.pl = true) → (∀ j, j < bs.length → σ (base + j) = base' + j) → renH σ (nst base bs) = nst base' bs
  | [], _, _, _, _ => rfl
  | b :: bs, base, base', h, hj => by
    have h0 : σ base = base' := hj 0 (by simp)
    have := renH_nst (σ := σ) bs (base + 1) (base' + 1) (fun c hc => h c (List.mem_cons_of_mem _ hc)) fun j hl => by
      have := hj (j + 1) (by simpa using hl)
      rw [show base + 1 + j = base + (j + 1) by omega, this]; omega
    show (σ base, renB σ b) :: renH σ (nst (base + 1) bs) = _
    rw [this, h0, renB_pl _ (h b List.mem_cons_self)]; rfl
theorem niT_pl (ls : List (List Int)) : ∀ b ∈ niT ls, b.pl = true := fun b hb => by
  obtain ⟨j, hj⟩ := List.getElem?_of_mem hb
  obtain ⟨_, rfl⟩ := niT_get hj; rfl
theorem renB_ni {σ : Nat → Nat} {ls : List (List Int)} {a b : Nat} (h : ∀ j, j < ls.length → σ (a + 1 + j) = b + 1 + j) : renB σ (niB a ls) = niB b ls := by
  unfold niB renB
  dsimp only
  rw [outR_ren _ (a + 1) (b + 1) fun j hj => h j (by simpa using hj)]
theorem renH_ni {σ : Nat → Nat} {ls : List (List Int)} {b : Nat} (h : ∀ j, j ≤ ls.length → σ j = b + j) : renH σ ((0, niB 0 ls) :: nst 1 (niT ls)) = (b, niB b ls) :: nst (b + 1) (niT ls) := by
  show (σ 0, renB σ (niB 0 ls)) :: renH σ (nst 1 (niT ls)) = _
  rw [renH_nst (niT ls) 1 (b + 1) (niT_pl ls) fun j hj => by rw [niT_len] at hj; rw [h _ (by omega)]; omega, h 0 (Nat.zero_le _), renB_ni (b := b) fun j hj => by rw [h _ (by omega)]; omega]
  rfl
theorem renE_some (σ : Nat → Nat) (H : Hp) : renE σ (someE H) = someE (renH σ H) := by
  unfold renE someE renH
  rw [List.map_map, List.map_map]; rfl
theorem ok_ni (ls ms : List (List Int)) (hm : ms.length = ls.length) (x y : Int) : okC (ls.length + 1) 0 [.sl 0 0 ls.length, .v (.int .i64 x)] ((0, niB 0 ls) :: nst 1 (niT ls)) (.v (.int .i64 y)) (someE ((0, niB 0 ls) :: nst 1 (niT ms))) = true := by
  have hall : ∀ (f : Nat × Blk → Bool) (bs : List Blk) (base : Nat), (∀ (j : Nat) (b : Blk), bs[j]? = some b → f (base + j, b) = true) → (nst base bs).all f = true := by
    intro f bs
    induction bs with
    | nil => intros; rfl
    | cons b bs ih =>
      intro base h
      have h00 : f (base, b) = true := h 0 b rfl
      rw [nst, List.all_cons, h00, ih (base + 1) fun j c hc => by have := h (j + 1) c (by simpa using hc); rwa [show base + (j + 1) = base + 1 + j by omega] at this]
      rfl
  have hid : idsOkB (ls.length + 1) (niB 0 ls) = true := outR_ids _ _ (by rw [List.length_map]; omega)
  have h0 : Nat.blt 0 (ls.length + 1) = true := by rw [Nat.blt_eq]; omega
  unfold okC
  simp only [Bool.and_eq_true]
  refine ⟨⟨⟨⟨⟨?_, ?_⟩, ?_⟩, ?_⟩, rfl⟩, ?_⟩
  · simp only [List.all_cons, List.all_nil, idsOk, h0, Bool.and_true]
  · rw [List.all_cons, hall _ (niT ls) 1 fun j b hb => ?_]
    · dsimp only; rw [h0, hid]; rfl
    · obtain ⟨hj, rfl⟩ := niT_get hb
      have : Nat.blt (1 + j) (ls.length + 1) = true := by rw [Nat.blt_eq]; omega
      dsimp only; rw [this]; rfl
  · rw [List.all_eq_true]
    intro i hi
    have hi := List.mem_range.1 hi
    rw [Bool.and_eq_true]
    constructor
    · rw [look_cons]
      split
      · rfl
      · rw [look_nst, if_pos (by omega), List.getElem?_eq_getElem (by rw [niT_len]; omega)]; rfl
    · rw [List.contains_iff_mem]
      unfold someE
      rw [List.map_map, List.map_cons]
      show i ∈ 0 :: (nst 1 (niT ms)).map (·.1)
      rw [nst_keys, niT_len, List.mem_cons, List.mem_range'_1]; omega
  · unfold someE
    rw [List.all_map, List.all_cons, hall _ (niT ms) 1 fun j b hb => ?_]
    · simp only [Function.comp]; rw [show ls.length + 1 + 0 = ls.length + 1 from rfl, h0, hid]; rfl
    · obtain ⟨hj, rfl⟩ := niT_get hb
      have : Nat.blt (1 + j) (ls.length + 1 + 0) = true := by rw [Nat.blt_eq]; omega
      simp only [Function.comp]; rw [this]; rfl
  · rw [List.all_cons, hall _ (niT ls) 1 fun j b hb => ?_]
    · rfl
    · obtain ⟨hj, rfl⟩ := niT_get hb; rfl
theorem liveE_some {H : Hp} {ρ : Nat → Nat} : ∀ (U : Hp), (∀ p ∈ U, Aw.look H (ρ p.1) = some (renB ρ p.2)) → liveE H ρ (someE U)
  | [], _ => trivial
  | p :: U, h => ⟨h p List.mem_cons_self, liveE_some U fun q hq => h q (List.mem_cons_of_mem _ hq)⟩
theorem nst_mem : ∀ (bs : List Blk) (base : Nat) (p : Nat × Blk), p ∈ nst base bs → ∃ j, bs[j]? = some p.2 ∧ p.1 = base + j
  | [], _, p, h => by cases h
  | b :: bs, base, p, h => by
    rcases List.mem_cons.1 h with rfl | h
    · exact ⟨0, rfl, rfl⟩
    · obtain ⟨j, h1, h2⟩ := nst_mem bs (base + 1) p h
      exact ⟨j + 1, by simpa using h1, by omega⟩
def mkT (z : Int) (ls : List (List Int)) (i : Nat) : List Blk := (niT (mkS z ls)).take i ++ (niT ls).drop i
theorem mkT_len {z : Int} {ls : List (List Int)} {i : Nat} (h : i ≤ ls.length) : (mkT z ls i).length = ls.length := by
  rw [mkT, List.length_append, List.length_take, List.length_drop, niT_len, niT_len, mkS_len]; omega
theorem mkT_at {z : Int} {ls : List (List Int)} {i : Nat} (h : i < ls.length) : (mkT z ls i)[i]? = some ⟨2, 1, true, ls[i].map inL⟩ := by
  rw [mkT, List.getElem?_append_right (by rw [List.length_take, niT_len, mkS_len]; omega), List.length_take, niT_len, mkS_len, Nat.min_eq_left (by omega), Nat.sub_self, List.getElem?_drop]
  simp [niT, h]
theorem mkT_next {z : Int} {ls : List (List Int)} {i j : Nat} (h : i < ls.length) : (mkT z ls (i + 1))[j]? = if j = i then some ⟨2, 1, true, ((List.range ls[i].length).map (up (z + (totN (ls.take i) : Int)))).map inL⟩ else (mkT z ls i)[j]? := by
  have l1 : ((niT (mkS z ls)).take (i + 1)).length = i + 1 := by rw [List.length_take, niT_len, mkS_len]; omega
  have l2 : ((niT (mkS z ls)).take i).length = i := by rw [List.length_take, niT_len, mkS_len]; omega
  unfold mkT
  by_cases e : j = i
  · subst e
    rw [if_pos rfl, List.getElem?_append_left (by omega), List.getElem?_take_of_lt (by omega), niT, List.getElem?_map, mkS_get ls z j h]; rfl
  · rw [if_neg e]
    by_cases hj : j < i
    · rw [List.getElem?_append_left (by omega), List.getElem?_append_left (by omega), List.getElem?_take_of_lt (by omega), List.getElem?_take_of_lt hj]
    · rw [List.getElem?_append_right (by omega), List.getElem?_append_right (by omega), l1, l2, List.getElem?_drop, List.getElem?_drop, show i + 1 + (j - (i + 1)) = i + (j - i) by omega]
theorem mkT_pl {z : Int} {ls : List (List Int)} {i j : Nat} {b : Blk} (h : (mkT z ls i)[j]? = some b) : b.pl = true := by
  have hm := List.mem_of_getElem? h
  rcases List.mem_append.1 hm with hm | hm
  · exact niT_pl _ b (List.mem_of_mem_take hm)
  · exact niT_pl _ b (List.mem_of_mem_drop hm)
set_option maxHeartbeats 4000000 in
theorem markInt64SS_rc (b : Nat) (ls : List (List Int)) (hS : NbS ls) (ht : totN ls ≤ 1048576) (z : Int) (h0 : 0 ≤ z) (h1 : z ≤ 536870912) (k : Nat) :
    RC Try.prog 15 [.sl b 0 ls.length, .v (.int .i64 z)] ((b, niB b ls) :: nst (b + 1) (niT ls)) k (.v (.int .i64 (z + (totN ls : Int)))) (someE ((b, niB b ls) :: nst (b + 1) (niT (mkS z ls)))) k := by
  have hn := hS.n
  have hms := mkS_len ls z
  refine RC.ofc (g := ls.length + 1) (List.range' b (ls.length + 1)) 0 [.sl 0 0 ls.length, .v (.int .i64 z)] ((0, niB 0 ls) :: nst 1 (niT ls)) (.v (.int .i64 (z + (totN ls : Int)))) (someE ((0, niB 0 ls) :: nst 1 (niT (mkS z ls)))) Try.func15 Try.ntmps15 rfl (goFn_of Try.func15 rfl (by kernel_rfl)) rfl rfl
    ?_ ?_ rfl ?_ rfl ?_ List.nodup_range' List.length_range' ?_
  · simp only [List.map_cons, List.map_nil, renA, nmC_range (Nat.zero_le _), Nat.add_zero]
  · exact renH_ni fun j hj => nmC_range hj
  · rw [renE_some]
    refine congrArg someE ?_
    show (nmC _ _ 0, renB _ (niB 0 ls)) :: renH _ (nst 1 (niT (mkS z ls))) = _
    rw [renH_nst (niT (mkS z ls)) 1 (b + 1) (niT_pl _) fun j hj => by rw [niT_len, hms] at hj; rw [nmC_range (by omega)]; omega, nmC_range (Nat.zero_le _), renB_ni (b := b) fun j hj => by rw [nmC_range (by omega)]; omega]
    rfl
  · rw [List.length_range']; exact ok_ni ls _ hms z _
  ((repeat' (first
    | (show SQ _ _ _ _ _ _ _ _; first | apply sq_nil | (apply q_assign; exact rfl; exact rfl))
    | (show AW _ _ _ _ _ _ _ _; first | refine aw_region ?_ | (refine aw_seqk ?_; intro K hK) | refine aw_block ?_)
    | refine thn_n ?_
    | (refine hK _ _ _ ?_; clear hK K))); all_goals (repeat (clear hK K)))
  refine aw_loop (ρ := id) (ι := Nat) (fun i => ([(5, .v (.int .i64 i)), (1, .v (.int .i64 (z + (totN (ls.take i) : Int)))), (0, .sl 0 0 ls.length)], (0, niB 0 ls) :: nst 1 (mkT z ls i), ls.length + 1))
    (fun i => i ≤ ls.length) (fun i => ls.length - i) 0 (Nat.zero_le _) ?_ ?_
  · refine sub_nest ⟨lk_i rfl rfl, lk_i rfl (by simp [totN]), lk_s rfl rfl rfl (by rw [Nat.blt_eq]; dsimp only; omega), trivial⟩ ?_ ?_ (fun j c hc => ?_) (by dsimp only; rw [mkT_len (Nat.zero_le _)]; omega) (fun i j _ _ h => h) (fun i hi => ⟨rfl, hi⟩)
    · show some _ = some _
      rw [renB_ni (b := 0) fun j hj => rfl]
    · exact outR_ids _ _ (by dsimp only; rw [List.length_map]; omega)
    · refine ⟨?_, mkT_pl hc⟩
      have hj := nlt hc
      show Aw.look ((0, niB 0 ls) :: nst 1 (niT ls)) (1 + j) = _
      rw [look_cons, if_neg (by omega), look_nst_at]
      exact hc
  intro i hi
  have hle := totN_le ls i
  (try dsimp only)
  by_cases c1 : i < ls.length
  · have b1 : decide ((i : Int) < (ls.length : Int)) = true := by simpa using c1
    have hw : IntKind.i64.wrap ((i : Int) + 1) = ((i + 1 : Nat) : Int) := by rw [IntWalk.i64_in _ (by omega)]; omega
    have hrow : (niB 0 ls).rows[0 + ((i : Int)).toNat]? = some [.sl (1 + i) 0 ls[i].length] := by
      rw [Nat.zero_add, Int.toNat_natCast]
      show (outR 1 (ls.map List.length))[i]? = _
      rw [outR_get]; simp [c1]
    have hle2 := totN_le ls (i + 1)
    have ht2 := totN_take c1
    have hlk : Aw.look ((0, niB 0 ls) :: nst 1 (mkT z ls i)) (1 + i) = some ⟨2, 1, true, ls[i].map inL⟩ := by
      rw [look_cons, if_neg (by omega), look_nst_at]; exact mkT_at c1
    have hM := fun k => markInt64S_rc (1 + i) ls[i] (z + (totN (ls.take i) : Int)) (hS.m _ (List.getElem_mem c1)) (by omega) (by omega) k
    ((repeat' (first
    | (show SQ _ _ _ _ _ _ _ _; first | apply sq_nil | (apply q_move; exact rfl; exact rfl) | (apply q_assign; exact rfl; exact rfl) | (apply q_lenl; exact rfl; exact rfl; exact (ty rfl); exact rfl) | (apply q_add; exact rfl; exact rfl; exact rfl) | (apply q_lss; exact rfl; exact rfl; exact rfl) | (apply q_ixl; exact rfl; exact rfl; exact rfl; exact (ty rfl); exact rfl; exact rfl; exact rfl; exact (by first | omega | (simp; done) | (simp; omega)); exact (by first | omega | (simp; done) | (simp; omega))) | (apply q_ld1p; exact rfl; exact rfl; exact (ty rfl); exact rfl; exact rfl; exact (by first | rfl | assumption | ((try simp only [Nat.zero_add]); refine List.getElem?_set_self ?_; (try simp only [List.length_set]); assumption)); exact rfl))
    | (show SQ _ _ _ _ _ _ _ _; (first | (apply q_callC; exact rfl; exact rfl; exact rfl; exact hM _; (focus ((repeat (first | exact trivial | refine ⟨by first | exact rfl | assumption, ?_⟩)); done)); skip)); (try simp only [put, rowsOf, plR, List.all_cons, selE, ovr, setH, del, cellsA, splice, isV, List.nil_append, List.cons_append, List.map_cons, List.map_nil, List.length_cons, List.length_nil, List.set_cons_zero, List.set_cons_succ, List.take_succ_cons, List.take_zero, List.take_nil, List.drop_succ_cons, List.drop_zero, List.drop_nil, List.append_nil, List.all_cons, List.all_nil, Bool.and_true, Bool.true_and, Bool.and_false, Bool.false_and, Nat.reduceAdd, Nat.zero_add, Nat.add_zero, Nat.reduceEqDiff, if_true, if_false, reduceIte]))
    | (show AW _ _ _ _ _ _ _ _; first | refine aw_region ?_ | (refine aw_seqk ?_; intro K hK) | refine aw_block ?_ | (apply aw_cond_t; exact rfl; exact (by assumption)) | refine aw_skip ?_)
    | refine thn_n ?_
    | (refine hK _ _ _ ?_; clear hK K)
    | refine inb_n ?_)); all_goals (repeat (clear hK K)))
    refine ⟨i + 1, id, c1, by omega, ?_⟩
    (try dsimp only)
    rw [← hw, if_neg (show ¬ 0 = 1 + i by omega)]
    refine sub_nest ⟨lk_i rfl rfl, lk_i rfl (by omega), lk_s rfl rfl rfl (by rw [Nat.blt_eq]; omega), trivial⟩ ?_ ?_ (fun j c hc => ?_) (by rw [mkT_len c1]; omega) (fun i j _ _ h => h) (fun i hi => ⟨rfl, hi⟩)
    · rw [renB_ni (b := 0) fun j hj => rfl, look_cons, if_neg (show ¬ 1 + i = id 0 by show ¬ 1 + i = 0; omega)]; rfl
    · exact outR_ids _ _ (by rw [List.length_map]; omega)
    · refine ⟨?_, mkT_pl hc⟩
      rw [mkT_next c1] at hc
      show Aw.look _ (1 + j) = _
      by_cases e : j = i
      · subst e
        rw [if_pos rfl] at hc
        rw [look_cons, if_pos rfl]; exact hc
      · rw [if_neg e] at hc
        rw [look_cons, if_neg (by omega), look_cons, if_neg (by omega), look_del_ne _ (by omega), look_nst_at]; exact hc
  · have b1 : decide ((i : Int) < (ls.length : Int)) = false := by simpa using c1
    obtain rfl : i = ls.length := by omega
    rw [List.take_length]
    ((repeat' (first
    | (show SQ _ _ _ _ _ _ _ _; first | apply sq_nil | (apply q_move; exact rfl; exact rfl) | (apply q_assign; exact rfl; exact rfl) | (apply q_lenl; exact rfl; exact rfl; exact (ty rfl); exact rfl) | (apply q_lss; exact rfl; exact rfl; exact rfl))
    | (show AW _ _ _ _ _ _ _ _; first | refine aw_region ?_ | (refine aw_seqk ?_; intro K hK) | (apply aw_cond_f; exact rfl; exact (by assumption)) | refine aw_ret ?_ | refine aw_exit ?_)
    | refine thn_n ?_
    | (refine hK _ _ _ ?_; clear hK K)
    | refine thn_e ?_
    | refine inb_same ?_
    | (clear hK K; refine hK _ _ _ ?_; clear hK K))); all_goals (repeat (clear hK K)))
    refine finc id (.r1 _ _ (.tmp _ _ rfl)) rfl (fun _ _ => rfl) (liveE_some _ fun p hp => ?_) ?_
    · rcases List.mem_cons.1 hp with rfl | hp
      · rw [renB_ni (b := 0) fun j hj => rfl]; rfl
      · obtain ⟨j, h1, h2⟩ := nst_mem _ _ _ hp
        have hj := nlt h1
        rw [niT_len, hms] at hj
        rw [renB_pl _ (niT_pl _ _ (List.mem_of_getElem? h1))]
        show Aw.look _ p.1 = _
        rw [h2, look_cons, if_neg (by omega), look_nst_at, mkT, List.getElem?_append_left (by rw [List.length_take, niT_len, hms]; omega), List.getElem?_take_of_lt (by omega)]
        exact h1
    · exact injB_of fun i _ j _ h => h
end Go.Proofs.Yteknfaldpajlpaa.Nb

namespace Go.Proofs.Yteknfaldpajlpaa.Nb
open Go Go.RowKit Go.Proofs.Yteknfaldpajlpaa.Aw Go.Proofs.Yteknfaldpajlpaa.In Go.Proofs.Yteknfaldpajlpaa.Il
set_option linter.unusedSimpArgs false
set_option linter.unusedVariables false
set_option linter.unusedSectionVars false
attribute [local irreducible] AW SQ Step RO RC DE Thn InB
def Pl (bs : List Blk) : Prop := ∀ b ∈ bs, b.pl = true ∧ b.size = 1
theorem allN (f : Nat × Blk → Bool) : ∀ (bs : List Blk) (base : Nat), (∀ (j : Nat) (b : Blk), bs[j]? = some b → f (base + j, b) = true) → (nst base bs).all f = true
  | [], _, _ => rfl
  | b :: bs, base, h => by
    have h00 : f (base, b) = true := h 0 b rfl
    rw [nst, List.all_cons, h00, allN f bs (base + 1) fun j c hc => by have := h (j + 1) c (by simpa using hc); rwa [show base + (j + 1) = base + 1 + j by omega] at this]
    rfl
theorem outR_nd : ∀ (ns : List Nat) (base : Nat), (outR base ns).all noDeepL = true
  | [], _ => rfl
  | n :: ns, base => by rw [outR, List.all_cons, outR_nd ns]; rfl
end Go.Proofs.Yteknfaldpajlpaa.Nb

namespace Go.Proofs.Yteknfaldpajlpaa.Nb
open Go Go.RowKit Go.Proofs.Yteknfaldpajlpaa.Aw Go.Proofs.Yteknfaldpajlpaa.In Go.Proofs.Yteknfaldpajlpaa.Il
set_option linter.unusedSimpArgs false
set_option linter.unusedVariables false
set_option linter.unusedSectionVars false
attribute [local irreducible] AW SQ Step RO RC DE Thn InB
section
variable {n : Nat} {f g : Nat → Nat → Bool} {i j : Nat}
end
theorem look_mem {H : Hp} {i : Nat} {b : Blk} (h : Aw.look H i = some b) : (i, b) ∈ H := by
  induction H with
  | nil => simp [look_nil] at h
  | cons p H ih =>
    obtain ⟨k, c⟩ := p
    rw [look_cons] at h
    split at h
    · rename_i e; subst e; cases h; exact List.mem_cons_self
    · exact List.mem_cons_of_mem _ (ih h)
end Go.Proofs.Yteknfaldpajlpaa.Nb

namespace Go.Proofs.Yteknfaldpajlpaa.Nb
open Go Go.Proofs.Yteknfaldpajlpaa.In Go.Proofs.Yteknfaldpajlpaa.Il
set_option linter.unusedSimpArgs false
set_option linter.unusedVariables false
set_option linter.unusedSectionVars false
def OkFrom (ls : List (List Int)) (a : Nat) (cs : List Int) : Prop := ∀ i, a ≤ i → i < cs.length → earB ls (cs.take i) (cs.getD i 0) = false
structure ExI (ls : List (List Int)) (m : Int) (len : Nat) (st : Int × List Int) (q : Bool × (Int × List Int)) : Prop where
  keep : q.2.2.take len = st.2.take len
  le : len ≤ q.2.2.length
  bud : q.2.1 ≤ st.1
  lo : -1 ≤ q.2.1
  ok : q.1 = true → q.2.2.length = ls.length ∧ 0 ≤ q.2.1 ∧ OkFrom ls len q.2.2 ∧ ∀ i, len ≤ i → i < ls.length → 0 ≤ q.2.2.getD i 0 ∧ q.2.2.getD i 0 < m
theorem ExI.refl (ls : List (List Int)) (m : Int) {len : Nat} {st : Int × List Int} (h : len ≤ st.2.length) (h0 : -1 ≤ st.1) : ExI ls m len st (false, st) := ⟨rfl, h, Int.le_refl _, h0, fun h => by cases h⟩
inductive Sol (ls : List (List Int)) (m : Int) : List Int → Int → List Int → Prop
  | nil {p : List Int} {u : Int} : Sol ls m p u []
  | cons {p w : List Int} {u : Int} {c : Nat} (hm : (c : Int) < m) (hu : (c : Int) ≤ u) (he : earB ls p (c : Int) = false) (h : Sol ls m (p ++ [(c : Int)]) (max u ((c : Int) + 1)) w) : Sol ls m p u ((c : Int) :: w)
end Go.Proofs.Yteknfaldpajlpaa.Nb

namespace Go.Proofs.Yteknfaldpajlpaa.Aw
open Go Go.RowKit
set_option linter.unusedVariables false
set_option linter.unusedSimpArgs false
section
variable {K : Nat → Prop} {w w' : World} {m : Nat → Loc} {B : Nat} {es0 : Array MapEntry} {c0 : Nat}
end
section
variable {P : Program} {Old : Nat → Prop} {wi : WI} {K : Nat → Prop} {m : Nat → Loc} {S : Nat → Prop} {H : Hp} {w : World} {N n : Nat} {T : Tp} {o : Oper} {a : Act}
end
section
variable {P : Program} {N n : Nat} {all : Array Oper} {l : List Oper} {G : Tp → Hp → Nat → Prop} {T T' : Tp} {H : Hp} {ty : TypeId} {pos : String} {after : Array Edge} {d : Nat}
inductive VV : AV → Value → Prop
  | v (x : Value) : VV (.v x) x
  | agg2 (x y : Value) : VV (.agg [.v x, .v y]) (.agg #[x, y])
end
theorem VV.val {K : Nat → Prop} {w : World} {m : Nat → Loc} {S : Nat → Prop} {av : AV} {x : Value} (h : VV av x) : VR K w m S av x := by
  cases h with
  | v => exact .v _ _
  | agg2 a b =>
    refine .agg _ _ [a, b] rfl fun j cv y h1 h2 => ?_
    match j with
    | 0 => simp at h1 h2; subst h1 h2; exact .v _ _
    | 1 => simp at h1 h2; subst h1 h2; exact .v _ _
    | j + 2 => simp at h1
section
variable {P : Program} {N n : Nat} {all : Array Oper} {l : List Oper} {G : Tp → Hp → Nat → Prop} {T : Tp} {H : Hp} {ty : TypeId} {pos : String} {after : Array Edge} {d : Nat} {o : Oper}
end
section
variable {P : Program} {Old : Nat → Prop} {wi : WI} {K : Nat → Prop} {m : Nat → Loc} {S : Nat → Prop} {H : Hp} {w : World} {N n g : Nat} {T : Tp} {Q : Exit → Tp → Hp → Nat → Prop}
theorem Rel.reB {id ty sz : Nat} {pl : Bool} {rows rows' : List (List AV)} (hr : Rel Old wi K m S H w) (hl : look H id = some ⟨ty, sz, pl, rows⟩) (hlen : rows'.length = rows.length)
    (hw : ∀ (r : Nat) (row' : List AV), rows'[r]? = some row' → ∃ row, rows[r]? = some row ∧ row'.length = row.length ∧ ∀ (j : Nat) (cv' : AV), row'[j]? = some cv' → ∃ cv, row[j]? = some cv ∧ ∀ x, VR K w m S cv x → VR K w m S cv' x) : Rel Old wi K m S ((id, ⟨ty, sz, false, rows'⟩) :: H) w := by
  have old : ∀ i bi, look ((id, (⟨ty, sz, false, rows'⟩ : Blk)) :: H) i = some bi → ∃ b0, look H i = some b0 ∧ ((i = id ∧ bi = ⟨ty, sz, false, rows'⟩) ∨ bi = b0) := fun i bi h => by
    rw [look_cons] at h
    split at h
    · rename_i he; subst he; simp only [Option.some.injEq] at h; exact ⟨_, hl, .inl ⟨rfl, h.symm⟩⟩
    · exact ⟨bi, h, .inr rfl⟩
  refine { os := hr.os, tape := hr.tape, output := hr.output, size := hr.size, old := hr.old, olt := hr.olt, oown := fun i bi h => ?_, om := fun i bi h => ?_, kb := hr.kb, inS := fun i bi h => ?_, pin := hr.pin, pinS := hr.pinS, own := fun i bi h => ?_, inj := fun i j bi bj hi hj hne => ?_ }
  · obtain ⟨b0, h0, _⟩ := old i bi h; exact hr.oown i b0 h0
  · obtain ⟨b0, h0, hc⟩ := old i bi h
    rcases hc with ⟨rfl, rfl⟩ | rfl
    · exact fun hp hq => hr.om i ⟨ty, sz, pl, rows⟩ hl hp hq
    · exact hr.om i _ h0
  · obtain ⟨b0, h0, _⟩ := old i bi h; exact hr.inS i b0 h0
  · obtain ⟨b0, h0, hc⟩ := old i bi h
    rcases hc with ⟨rfl, rfl⟩ | rfl
    · rcases hr.own i _ hl with ⟨e1, e2⟩ | ⟨hp, hb⟩
      · refine .inl ⟨e1, ?_⟩
        simp only at e2
        rw [e2] at hlen
        exact List.length_eq_zero_iff.1 hlen
      · obtain ⟨cur, c1, c2, c3⟩ := hb.ex
        refine .inr ⟨hp, hb.nk, hb.sz, by have := hb.cap; simp only at this ⊢; rw [hlen]; exact this, hb.capm, (fun h => by cases h), cur, c1, c2, fun r row' hrow => ?_⟩
        obtain ⟨row, hr0, hlen, hcell⟩ := hw r row' hrow
        obtain ⟨g1, g2⟩ := c3 r row hr0
        refine ⟨hlen.trans g1, fun j cv' hj => ?_⟩
        obtain ⟨cv, hj0, hwk⟩ := hcell j cv' hj
        obtain ⟨x, hx, h1, hv⟩ := g2 j cv hj0
        refine ⟨x, hx, h1, (hwk x (hv.mono (fun _ h => h) (fun _ _ => rfl) (fun i hi => hi.1) (fun _ _ => rfl))).mono (fun _ h => h) (fun _ _ => rfl) (fun i hi => ⟨hi, rfl⟩) (fun _ _ => rfl)⟩
    · exact hr.own i _ h0
  · obtain ⟨b1, h1, _⟩ := old i bi hi
    obtain ⟨b2, h2, _⟩ := old j bj hj
    exact hr.inj i j b1 b2 h1 h2 hne
theorem aw_nilB {c : Code} (id r j ety esz : Nat) {ty sz : Nat} {pl : Bool} {rows rows' : List (List AV)} {row : List AV} (hl : look H id = some ⟨ty, sz, pl, rows⟩) (hne : Nat.beq n id = false) (hrow : rows[r]? = some row) (hj : row[j]? = some (.v (.slice none 0 0))) (he : rows.set r (row.set j (.sl n 0 0)) = rows')
    (h : AW P N g c Q T ((id, ⟨ty, sz, false, rows'⟩) :: (n, ⟨ety, esz, true, []⟩) :: H) (n + 1)) : AW P N g c Q T H n := fun Old wi K m a w hp hr ht => by
  have hn : ¬ (fun i => i < n) n := Nat.lt_irrefl n
  have hph := hr.phantom hn ety esz true
  have hm : ∀ i, i < n → updL m n ⟨0, 0, 0, true⟩ i = m i := fun i hi => updL_ne _ _ (fun e => hn (e ▸ hi))
  have eS : addS (fun i => i < n) n (n + 1) = fun i => i < n + 1 := addS_lt (Nat.le_succ n)
  rw [eS] at hph
  have hl2 : look ((n, (⟨ety, esz, true, []⟩ : Blk)) :: H) id = some ⟨ty, sz, pl, rows⟩ := by
    rw [look_cons, if_neg (fun e => by subst e; rw [Nat.beq_refl] at hne; cases hne)]; exact hl
  subst he
  refine h Old wi K _ a w hp (hph.reB hl2 (by simp) fun q row' hq => ?_) (ht.mono (fun _ h => h) (fun _ _ => rfl) (fun i (hi : i < n) => Nat.lt_succ_of_lt hi) hm)
  rw [List.getElem?_set] at hq
  split at hq
  · rename_i e
    subst e
    split at hq
    · simp only [Option.some.injEq] at hq
      subst hq
      refine ⟨row, hrow, by simp, fun k cv' hk => ?_⟩
      rw [List.getElem?_set] at hk
      split at hk
      · rename_i e
        subst e
        split at hk
        · simp only [Option.some.injEq] at hk
          subst hk
          refine ⟨_, hj, fun x hx => ?_⟩
          cases hx
          exact .sl0 _ _ _ _ (Nat.lt_succ_self n)
        · cases hk
      · exact ⟨cv', hk, fun x hx => hx⟩
    · cases hq
  · exact ⟨row', hq, rfl, fun k cv' hk => ⟨cv', hk, fun x hx => hx⟩⟩
end
end Go.Proofs.Yteknfaldpajlpaa.Aw

namespace Go.Proofs.Yteknfaldpajlpaa.Nb
open Go Go.RowKit Go.Proofs.Yteknfaldpajlpaa.Aw Go.Proofs.Yteknfaldpajlpaa.In Go.Proofs.Yteknfaldpajlpaa.Il
set_option linter.unusedSimpArgs false
set_option linter.unusedVariables false
set_option linter.unusedSectionVars false
attribute [local irreducible] AW SQ Step RO RC DE Thn InB
def us (cs : List Int) : Int := cs.foldl (fun u c => max u (c + 1)) 0
theorem Sol.mono {ls : List (List Int)} {m m' : Int} (h : m ≤ m') {p w : List Int} {u : Int} (hS : Sol ls m p u w) : Sol ls m' p u w := by
  induction hS with
  | nil => exact .nil
  | cons hm hu he _ ih => exact .cons (by omega) hu he ih
section
variable (ls : List (List Int)) (hS : NbS ls)
include hS
set_option maxHeartbeats 4000000 in
theorem budgetValid_ro (bu : Int) (k : Nat) : RO Try.prog 53 [.v (.int .i64 bu)] k (.v (.bool (inB bu 1 20000))) [] k := by
  refine RO.ofv' Try.func53 Try.ntmps53 rfl (goFn_of Try.func53 rfl (by kernel_rfl)) rfl rfl ?_
  ((repeat' (first
    | (show SQ _ _ _ _ _ _ _ _; first | apply sq_nil | (apply q_move; exact rfl; exact rfl) | (apply q_assign; exact rfl; exact rfl))
    | (show SQ _ _ _ _ _ _ _ _; (first | (apply q_callU; exact rfl; exact rfl; exact rfl; exact FzL.of rfl; exact within_ro _ _ _ _)); (try simp only [put, rowsOf, plR, List.all_cons, selE, ovr, setH, del, cellsA, splice, isV, List.nil_append, List.cons_append, List.map_cons, List.map_nil, List.length_cons, List.length_nil, List.set_cons_zero, List.set_cons_succ, List.take_succ_cons, List.take_zero, List.take_nil, List.drop_succ_cons, List.drop_zero, List.drop_nil, List.append_nil, List.all_cons, List.all_nil, Bool.and_true, Bool.true_and, Bool.and_false, Bool.false_and, Nat.reduceAdd, Nat.zero_add, Nat.add_zero, Nat.reduceEqDiff, if_true, if_false, reduceIte]))
    | (show AW _ _ _ _ _ _ _ _; first | refine aw_region ?_ | (refine aw_seqk ?_; intro K hK) | refine aw_ret ?_)
    | refine thn_n ?_
    | (refine hK _ _ _ ?_; clear hK K))); all_goals (repeat (clear hK K)))
  all_goals exact fin_r (fin_b rfl rfl)
end
end Go.Proofs.Yteknfaldpajlpaa.Nb

namespace Go.Proofs.Yteknfaldpajlpaa.Sr
open Go Go.RowKit Go.Proofs.Yteknfaldpajlpaa.Aw
set_option linter.unusedSimpArgs false
set_option linter.unusedVariables false
attribute [local irreducible] AW SQ Step RO RC DE
structure Sr where
  c : List Int
  a : Int
  s : Int
structure Sr.ok (s : Sr) (k : Int) : Prop where
  b : ∀ b ∈ s.c, 0 ≤ b ∧ b ≤ 255
  a0 : 0 ≤ s.a
  a1 : s.a ≤ k
  n : s.c.length ≤ 9223372036854775807
theorem Sr.ok.mono {s : Sr} {k k' : Int} (h : s.ok k) (hk : k ≤ k') : s.ok k' := ⟨h.b, h.a0, by have := h.a1; omega, h.n⟩
def tl (s : Int) : Int := IntKind.i64.wrap (andI IntKind.u64 (s / 2 ^ min (Int.toNat 40) IntKind.u64.bits) 255)
end Go.Proofs.Yteknfaldpajlpaa.Sr

-- Numbers chosen by the bytes of an input.
namespace Go.Proofs.Yteknfaldpajlpaa.Sr
open Go Go.RowKit Go.Proofs.Yteknfaldpajlpaa.Aw
set_option linter.unusedSimpArgs false
set_option linter.unusedVariables false
attribute [local irreducible] AW SQ Step RO RC DE Thn InB
end Go.Proofs.Yteknfaldpajlpaa.Sr

namespace Go.Proofs.Yteknfaldpajlpaa.Fg
open Go.ChangeShapes Go.WideShapes Go.ChangeAt Go.RowKit Go.Deep
open Go.ChangeMaps (open_string shut_string)
set_option linter.unusedSimpArgs false
def SlV {α : Type} (cV : α → List Value) (sz : Nat) (w : World) (v : Value) (xs : List α) : Prop :=
  Aw.VR (fun k => k < w.heap.size) w (fun _ => ⟨0, 0, 0, false⟩) Aw.NoS (.dsl sz (xs.map fun a => (cV a).map .v)) v ∧ xs.length ≤ 9223372036854775807
section
variable {P : Program} {H : Type} {enc : TypeId × Value → H} {W : World} {r : Reach} {b0 base : Nat} {spare : Nat → Bool} {held : Bool} {v : Value} {d : DataW H} {p : List MemPlace}
theorem sl_open {t e : TypeId} {sz : Nat} {α : Type} [Inhabited α] {cV : α → List Value} {Q : α → Prop} {fuel : Nat} {x : DataW H × List MemPlace} (hU : P.underlying t = some (.slice e)) (hcells : P.cellsOf e = sz) (hsz : 0 < sz) (hlen : ∀ a, (cV a).length = sz)
    (hone : ∀ a, ∀ y ∈ cV a, y.oneCell' = true) (hel : ∀ fuel cs x, DataW.trod enc P W base spare held fuel e cs = some x → ∃ a, cs = cV a ∧ Q a) (h : DataW.trod enc P W base spare held fuel t [v] = some x) :
    ∃ xs : List α, SlV cV sz W v xs ∧ ∀ a ∈ xs, Q a := by
  rcases open_slice hU h with ⟨hc, _⟩ | ⟨a, len, cap, m, n, D, Pl, hc, hb, hl, hm, hmm, _, hels⟩
  · simp only [List.cons.injEq, and_true] at hc
    subst hc
    exact ⟨[], ⟨.dsl0 _ _ _ _, by simp⟩, by simp⟩
  · simp only [List.cons.injEq, and_true] at hc
    subst hc
    have hlm : len ≤ m := by rw [hmm]; split <;> omega
    obtain ⟨f, hf2⟩ := choose_lt (n := len) (p := fun i (l : α) => W.cells? base (a.add (i * sz)) sz = some (cV l) ∧ Q l) fun i hi => by
      obtain ⟨cs', h1, h2⟩ := hels i (by omega)
      rw [hcells] at h1
      obtain ⟨l, rfl, hs⟩ := hel _ _ _ h2
      exact ⟨l, h1, hs⟩
    refine ⟨(List.range len).map f, ⟨?_, by simp only [maxLen] at hm; simp; omega⟩, fun l hl => ?_⟩
    · obtain ⟨b, off, spot⟩ := a
      cases len with
      | zero => exact .dsl0 _ _ _ _
      | succ len =>
        have hc0 : ∀ r, r < len + 1 → ∀ j, j < sz → W.cell? ((⟨b, off, spot⟩ : Addr).add (r * sz + j)) = (cV (f r))[j]? := fun r hr j hj => by
          obtain ⟨_, _, hc⟩ := World.cells?_some (hf2 r hr).1
          rw [← add_add]
          exact hc j hj
        obtain ⟨y0, hy0⟩ : ∃ y0, (cV (f 0))[0]? = some y0 := ⟨_, List.getElem?_eq_getElem (by rw [hlen]; exact hsz)⟩
        have h2 : W.cell? ((⟨b, off, spot⟩ : Addr).add 0) = some y0 := by
          have := hc0 0 (by omega) 0 hsz
          simp only [Nat.zero_mul, Nat.add_zero] at this
          rw [this, hy0]
        have hspot : spot = none := by simpa [Addr.add] using World.cell?_spot h2
        subst hspot
        have hlt : b < W.heap.size := block_lt_of_cell h2
        have get : ∀ (l : α) (j : Nat) (cv : Aw.AV), ((cV l).map Aw.AV.v)[j]? = some cv → ∃ y, (cV l)[j]? = some y ∧ cv = .v y ∧ y.oneCell' = true := fun l j cv h => by
          rw [List.getElem?_map] at h
          cases hj : (cV l)[j]? with
          | none => simp [hj] at h
          | some y =>
            simp only [hj, Option.map_some, Option.some.injEq] at h
            exact ⟨y, rfl, h.symm, hone l y (List.mem_of_getElem? hj)⟩
        refine .dsl _ sz _ _ b off cap (fun r j => ((cV (f r))[j]?).getD undef) (by simp) (by simpa using hl) hlt (fun r row hr => ?_) (fun r row j cv hr hj => ?_) (fun r row j cv hr hj => ?_)
        all_goals
          rw [List.getElem?_map, List.getElem?_map] at hr
          have hrl : r < len + 1 := by
            rcases Nat.lt_or_ge r (len + 1) with h | h
            · exact h
            · rw [List.getElem?_eq_none (by simpa using h)] at hr; simp at hr
          rw [List.getElem?_range hrl] at hr
          simp only [Option.map_some, Option.some.injEq] at hr
          subst hr
        · simp [hlen]
        · obtain ⟨y, hy, rfl, hone⟩ := get _ _ _ hj
          have hjl : j < sz := by rw [← hlen (f r)]; exact (List.getElem?_eq_some_iff.1 hy).1
          have := hc0 r hrl j hjl
          rw [Go.WideShapes.add_plain] at this
          simp only [hy, Option.getD_some]
          refine ⟨?_, hone⟩
          rw [Nat.add_assoc, this, hy]
        · obtain ⟨y, hy, rfl, hone⟩ := get _ _ _ hj
          simp only [hy, Option.getD_some]
          exact .v _ _
    · obtain ⟨i, hi, rfl⟩ := List.mem_map.1 hl
      exact (hf2 i (by simpa using hi)).2
theorem sl_cell {t e : TypeId} (hU : P.underlying t = some (.slice e)) (hv : Value.okWide P W r b0 t v) : v.cells.toList = [v] := by
  have hsl : ∃ a n c, v = .slice a n c := by
    simp only [Value.okWide, hU, Cell.okWide] at hv
    cases v <;> simp_all [Cell.ok]
  obtain ⟨a, n, c, rfl⟩ := hsl
  rfl
end
end Go.Proofs.Yteknfaldpajlpaa.Fg
namespace Go.Proofs.Yteknfaldpajlpaa.Fr
open Go.ChangeShapes Go.WideShapes Go.ChangeAt Go.RowKit Go.Deep
open Go.Proofs.Yteknfaldpajlpaa.Sr Go.Proofs.Yteknfaldpajlpaa.Fg
section
variable {H : Type} {enc : TypeId × Value → H} {W : World} {r : Reach} {b0 base : Nat} {spare : Nat → Bool} {held : Bool} {v : Value} {d : DataW H} {p : List MemPlace}
end
end Go.Proofs.Yteknfaldpajlpaa.Fr

namespace Go.Proofs.Yteknfaldpajlpaa.Nb
open Go Go.RowKit Go.Proofs.Yteknfaldpajlpaa.Aw Go.Proofs.Yteknfaldpajlpaa.In Go.Proofs.Yteknfaldpajlpaa.Il
set_option linter.unusedSimpArgs false
set_option linter.unusedVariables false
set_option linter.unusedSectionVars false
attribute [local irreducible] AW SQ Step RO RC DE Thn InB
def domB (l : List Int) : Bool := decide (1 ≤ l.length) && decide (l.length ≤ 32) && incB l && !l.any fun x => !inB x 0 999
set_option maxHeartbeats 4000000 in
theorem domainOk_ro (l : List Int) (hn : l.length ≤ 1048576) (k : Nat) : RO Try.prog 111 [.dsl 1 (l.map inL)] k (.v (.bool (domB l))) [] k := by
  have hml : (l.map inL).length = l.length := List.length_map _
  have hI := increasing_ro l hn
  have hA := allWithin_ro l (l.map inL) 0 999 rfl hn
  have e : domB l = (decide ((1 : Int) ≤ ((l.map inL).length : Int)) && decide (((l.map inL).length : Int) ≤ 32) && incB l && !l.any fun x => !inB x 0 999) := by
    rw [domB, hml]
    congr 3
    · rw [Bool.eq_iff_iff]; simp; omega
    · rw [Bool.eq_iff_iff]; simp; omega
  rw [e]
  clear e
  generalize (!l.any fun x => !inB x 0 999) = u2 at *
  generalize incB l = u1 at *
  generalize hd1 : decide ((1 : Int) ≤ ((l.map inL).length : Int)) = d1 at *
  generalize hd2 : decide (((l.map inL).length : Int) ≤ 32) = d2 at *
  refine RO.ofv' Try.func111 Try.ntmps111 rfl (goFn_of Try.func111 rfl (by kernel_rfl)) rfl rfl ?_
  cases d1 <;> cases d2 <;> cases u1 <;> cases u2
  all_goals ((repeat' (first
    | (show SQ _ _ _ _ _ _ _ _; first | apply sq_nil | (apply q_move; exact rfl; exact rfl) | (apply q_assign; exact rfl; exact rfl) | (apply q_pick_t; exact rfl; exact rfl; exact rfl; exact (by first | assumption | exact rfl)) | (apply q_pick_f; exact rfl; exact rfl; exact rfl; exact (by first | assumption | exact rfl)) | (apply q_lend; exact rfl; exact rfl; exact (ty rfl); exact rfl) | (apply q_leq; exact rfl; exact rfl; exact rfl) | (apply q_geq; exact rfl; exact rfl; exact rfl) | (apply q_g; exact rfl; exact rfl; exact rfl; exact (by assumption)) | (apply q_s; exact rfl; exact rfl; exact rfl; exact (by assumption); exact rfl) | (apply q_g; exact rfl; exact rfl; exact rfl; exact rfl) | (apply q_s; exact rfl; exact rfl; exact rfl; exact rfl; exact rfl))
    | (show SQ _ _ _ _ _ _ _ _; (first | (apply q_callU; exact rfl; exact rfl; exact rfl; exact FzL.of rfl; exact hI _) | (apply q_callU; exact rfl; exact rfl; exact rfl; exact FzL.of rfl; exact hA _)); (try simp only [put, rowsOf, plR, List.all_cons, selE, ovr, setH, del, cellsA, splice, isV, List.nil_append, List.cons_append, List.map_cons, List.map_nil, List.length_cons, List.length_nil, List.set_cons_zero, List.set_cons_succ, List.take_succ_cons, List.take_zero, List.take_nil, List.drop_succ_cons, List.drop_zero, List.drop_nil, List.append_nil, List.all_cons, List.all_nil, Bool.and_true, Bool.true_and, Bool.and_false, Bool.false_and, Nat.reduceAdd, Nat.zero_add, Nat.add_zero, Nat.reduceEqDiff, if_true, if_false, reduceIte]))
    | (show AW _ _ _ _ _ _ _ _; first | refine aw_region ?_ | (refine aw_seqk ?_; intro K hK) | refine aw_ret ?_)
    | refine thn_n ?_
    | (refine hK _ _ _ ?_; clear hK K))); all_goals (repeat (clear hK K)))
  all_goals exact fin_r (fin_b rfl rfl)
set_option maxHeartbeats 4000000 in
theorem l17Domain_ro (l : List Int) (hn : l.length ≤ 1048576) (k : Nat) : RO Try.prog 105 [.dsl 1 (l.map inL)] k (.v (.bool (domB l))) [] k := by
  have hml : (l.map inL).length = l.length := List.length_map _
  have hR := l00Rises_ro l 0 999 hn
  have e : domB l = (decide ((0 : Int) < ((l.map inL).length : Int)) && decide (((l.map inL).length : Int) ≤ 32) && risB l 0 999) := by
    rw [domB, hml, risB_eq, Bool.and_assoc]
    congr 2
    · rw [Bool.eq_iff_iff]; simp; omega
    · rw [Bool.eq_iff_iff]; simp; omega
  rw [e]
  clear e
  generalize risB l 0 999 = u1 at *
  generalize hd1 : decide ((0 : Int) < ((l.map inL).length : Int)) = d1 at *
  generalize hd2 : decide (((l.map inL).length : Int) ≤ 32) = d2 at *
  refine RO.ofv' Try.func105 Try.ntmps105 rfl (goFn_of Try.func105 rfl (by kernel_rfl)) rfl rfl ?_
  cases d1 <;> cases d2 <;> cases u1
  all_goals ((repeat' (first
    | (show SQ _ _ _ _ _ _ _ _; first | apply sq_nil | (apply q_move; exact rfl; exact rfl) | (apply q_assign; exact rfl; exact rfl) | (apply q_pick_t; exact rfl; exact rfl; exact rfl; exact (by first | assumption | exact rfl)) | (apply q_pick_f; exact rfl; exact rfl; exact rfl; exact (by first | assumption | exact rfl)) | (apply q_lend; exact rfl; exact rfl; exact (ty rfl); exact rfl) | (apply q_leq; exact rfl; exact rfl; exact rfl) | (apply q_gtr; exact rfl; exact rfl; exact rfl) | (apply q_g; exact rfl; exact rfl; exact rfl; exact (by assumption)) | (apply q_s; exact rfl; exact rfl; exact rfl; exact (by assumption); exact rfl) | (apply q_s; exact rfl; exact rfl; exact rfl; exact rfl; exact rfl))
    | (show SQ _ _ _ _ _ _ _ _; (first | (apply q_callU; exact rfl; exact rfl; exact rfl; exact FzL.of rfl; exact hR _)); (try simp only [put, rowsOf, plR, List.all_cons, selE, ovr, setH, del, cellsA, splice, isV, List.nil_append, List.cons_append, List.map_cons, List.map_nil, List.length_cons, List.length_nil, List.set_cons_zero, List.set_cons_succ, List.take_succ_cons, List.take_zero, List.take_nil, List.drop_succ_cons, List.drop_zero, List.drop_nil, List.append_nil, List.all_cons, List.all_nil, Bool.and_true, Bool.true_and, Bool.and_false, Bool.false_and, Nat.reduceAdd, Nat.zero_add, Nat.add_zero, Nat.reduceEqDiff, if_true, if_false, reduceIte]))
    | (show AW _ _ _ _ _ _ _ _; first | refine aw_region ?_ | (refine aw_seqk ?_; intro K hK) | refine aw_ret ?_)
    | refine thn_n ?_
    | (refine hK _ _ _ ?_; clear hK K))); all_goals (repeat (clear hK K)))
  all_goals exact fin_r (fin_b rfl rfl)
set_option maxHeartbeats 4000000 in
theorem domainsClosure_ro (l : List Int) (hn : l.length ≤ 1048576) (k : Nat) : RO Try.prog 110 [.dsl 1 (l.map inL)] k (.v (.bool (!domB l))) [] k := by
  have hD := domainOk_ro l hn
  refine RO.ofv' Try.func110 Try.ntmps110 rfl (goFn_of Try.func110 rfl (by kernel_rfl)) rfl rfl ?_
  ((repeat' (first
    | (show SQ _ _ _ _ _ _ _ _; first | apply sq_nil | (apply q_move; exact rfl; exact rfl) | (apply q_assign; exact rfl; exact rfl) | (apply q_not; exact rfl; exact rfl))
    | (show SQ _ _ _ _ _ _ _ _; (first | (apply q_callU; exact rfl; exact rfl; exact rfl; exact FzL.of rfl; exact hD _)); (try simp only [put, rowsOf, plR, List.all_cons, selE, ovr, setH, del, cellsA, splice, isV, List.nil_append, List.cons_append, List.map_cons, List.map_nil, List.length_cons, List.length_nil, List.set_cons_zero, List.set_cons_succ, List.take_succ_cons, List.take_zero, List.take_nil, List.drop_succ_cons, List.drop_zero, List.drop_nil, List.append_nil, List.all_cons, List.all_nil, Bool.and_true, Bool.true_and, Bool.and_false, Bool.false_and, Nat.reduceAdd, Nat.zero_add, Nat.add_zero, Nat.reduceEqDiff, if_true, if_false, reduceIte]))
    | (show AW _ _ _ _ _ _ _ _; first | refine aw_region ?_ | (refine aw_seqk ?_; intro K hK) | refine aw_ret ?_)
    | refine thn_n ?_
    | (refine hK _ _ _ ?_; clear hK K))); all_goals (repeat (clear hK K)))
  all_goals exact fin_r (fin_b rfl rfl)
set_option maxHeartbeats 4000000 in
theorem IndexFuncDom_ro (xs : List (List Int)) (hS : NbS xs) (f : FuncId) (p : List Int → Bool) (hf : ∀ x ∈ xs, ∀ m, RO Try.prog f [.dsl 1 (x.map inL)] m (.v (.bool (p x))) [] m) (k : Nat) :
    RO Try.prog 115 [.dsl 1 (nbL xs), .fn f []] k (.v (.int .i64 (ixG p xs))) [] k := by
  have hn := hS.n
  refine RO.ofv' Try.func115 Try.ntmps115 rfl (goFn_of Try.func115 rfl (by kernel_rfl)) rfl rfl ?_
  have hnl := nbL_len xs
  ((repeat' (first
    | (show SQ _ _ _ _ _ _ _ _; first | apply sq_nil | (apply q_move; exact rfl; exact rfl) | (apply q_assign; exact rfl; exact rfl) | (apply q_lend; exact rfl; exact rfl; exact (ty rfl); exact rfl))
    | (show AW _ _ _ _ _ _ _ _; first | refine aw_region ?_ | (refine aw_seqk ?_; intro K hK) | refine aw_block ?_)
    | refine thn_n ?_
    | (refine hK _ _ _ ?_; clear hK K))); all_goals (repeat (clear hK K)))
  refine aw_loop (ρ := id) (ι := Nat) (fun i => ([(8, .v (.int .i64 i)), (7, .v (.int .i64 xs.length)), (1, .fn f []), (0, .dsl 1 (nbL xs))], [], 0))
    (fun i => i ≤ xs.length ∧ ∀ y ∈ xs.take i, p y = false) (fun i => xs.length - i) 0 ⟨Nat.zero_le _, by simp⟩ ⟨⟨lk_i rfl rfl, lk_i rfl (by rw [hnl]), lk_f rfl rfl rfl, lk_d rfl rfl, trivial⟩, trivial, rfl, pin_0⟩ ?_
  rintro i ⟨hi, hp⟩
  by_cases c2 : i < xs.length
  · have b2 : decide ((i : Int) < (xs.length : Int)) = true := by simpa using c2
    have hrow := nbL_get c2
    have hc := hf xs[i] (List.getElem_mem c2)
    by_cases c3 : p xs[i] = true
    · ((repeat' (first
    | (show SQ _ _ _ _ _ _ _ _; first | apply sq_nil | (apply q_move; exact rfl; exact rfl) | (apply q_assign; exact rfl; exact rfl) | (apply q_lss; exact rfl; exact rfl; exact rfl) | (apply q_ixd; exact rfl; exact rfl; exact rfl; exact (ty rfl); exact rfl; exact (by first | omega | (simp; done) | (simp; omega)); exact (by first | omega | (simp; done) | (simp; omega)); exact (by first | rfl | assumption)) | (apply q_ld1d; exact rfl; exact rfl; exact (ty rfl); exact rfl; exact rfl))
    | (show SQ _ _ _ _ _ _ _ _; (first | (apply q_callU; exact rfl; exact rfl; exact rfl; exact FzL.of rfl; exact hc _)); (try simp only [put, rowsOf, plR, List.all_cons, selE, ovr, setH, del, cellsA, splice, isV, List.nil_append, List.cons_append, List.map_cons, List.map_nil, List.length_cons, List.length_nil, List.set_cons_zero, List.set_cons_succ, List.take_succ_cons, List.take_zero, List.take_nil, List.drop_succ_cons, List.drop_zero, List.drop_nil, List.append_nil, List.all_cons, List.all_nil, Bool.and_true, Bool.true_and, Bool.and_false, Bool.false_and, Nat.reduceAdd, Nat.zero_add, Nat.add_zero, Nat.reduceEqDiff, if_true, if_false, reduceIte]))
    | (show AW _ _ _ _ _ _ _ _; first | refine aw_region ?_ | (refine aw_seqk ?_; intro K hK) | refine aw_block ?_ | (apply aw_cond_t; exact rfl; exact (by assumption)) | refine aw_ret ?_ | refine aw_skip ?_)
    | refine thn_n ?_
    | (refine hK _ _ _ ?_; clear hK K)
    | refine thn_r ?_
    | refine inb_r ?_)); all_goals (repeat (clear hK K)))
      all_goals refine fin_r (fin_i rfl ?_)
      exact (ixG_hit c2 hp c3).symm
    · have c3 : p xs[i] = false := by simpa using c3
      ((repeat' (first
    | (show SQ _ _ _ _ _ _ _ _; first | apply sq_nil | (apply q_move; exact rfl; exact rfl) | (apply q_assign; exact rfl; exact rfl) | (apply q_add; exact rfl; exact rfl; exact rfl) | (apply q_lss; exact rfl; exact rfl; exact rfl) | (apply q_ixd; exact rfl; exact rfl; exact rfl; exact (ty rfl); exact rfl; exact (by first | omega | (simp; done) | (simp; omega)); exact (by first | omega | (simp; done) | (simp; omega)); exact (by first | rfl | assumption)) | (apply q_ld1d; exact rfl; exact rfl; exact (ty rfl); exact rfl; exact rfl))
    | (show SQ _ _ _ _ _ _ _ _; (first | (apply q_callU; exact rfl; exact rfl; exact rfl; exact FzL.of rfl; exact hc _)); (try simp only [put, rowsOf, plR, List.all_cons, selE, ovr, setH, del, cellsA, splice, isV, List.nil_append, List.cons_append, List.map_cons, List.map_nil, List.length_cons, List.length_nil, List.set_cons_zero, List.set_cons_succ, List.take_succ_cons, List.take_zero, List.take_nil, List.drop_succ_cons, List.drop_zero, List.drop_nil, List.append_nil, List.all_cons, List.all_nil, Bool.and_true, Bool.true_and, Bool.and_false, Bool.false_and, Nat.reduceAdd, Nat.zero_add, Nat.add_zero, Nat.reduceEqDiff, if_true, if_false, reduceIte]))
    | (show AW _ _ _ _ _ _ _ _; first | refine aw_region ?_ | (refine aw_seqk ?_; intro K hK) | refine aw_block ?_ | (apply aw_cond_t; exact rfl; exact (by assumption)) | (apply aw_cond_f; exact rfl; exact (by assumption)) | refine aw_skip ?_)
    | refine thn_n ?_
    | (refine hK _ _ _ ?_; clear hK K)
    | refine inb_n ?_)); all_goals (repeat (clear hK K)))
      refine ⟨i + 1, id, ⟨c2, takeS c2 hp c3⟩, by omega, ⟨lk_i rfl (by rw [IntWalk.i64_in _ (by omega)]; rfl), lk_i rfl rfl, lk_f rfl rfl rfl, lk_d rfl rfl, trivial⟩, trivial, rfl, pin_0⟩
  · have b2 : decide ((i : Int) < (xs.length : Int)) = false := by simpa using c2
    ((repeat' (first
    | (show SQ _ _ _ _ _ _ _ _; first | apply sq_nil | (apply q_assign; exact rfl; exact rfl) | (apply q_lss; exact rfl; exact rfl; exact rfl))
    | (show AW _ _ _ _ _ _ _ _; first | refine aw_region ?_ | (refine aw_seqk ?_; intro K hK) | (apply aw_cond_f; exact rfl; exact (by assumption)) | refine aw_ret ?_ | refine aw_exit ?_)
    | refine thn_n ?_
    | (refine hK _ _ _ ?_; clear hK K)
    | refine thn_e ?_
    | refine inb_same ?_
    | (clear hK K; refine hK _ _ _ ?_; clear hK K))); all_goals (repeat (clear hK K)))
    all_goals refine fin_r (fin_i rfl ?_)
    rw [List.take_of_length_le (by omega)] at hp
    exact (ixG_none p xs hp).symm
set_option maxHeartbeats 4000000 in
theorem ContainsFuncDom_ro (xs : List (List Int)) (hS : NbS xs) (f : FuncId) (p : List Int → Bool) (hf : ∀ x ∈ xs, ∀ m, RO Try.prog f [.dsl 1 (x.map inL)] m (.v (.bool (p x))) [] m) (k : Nat) :
    RO Try.prog 109 [.dsl 1 (nbL xs), .fn f []] k (.v (.bool (xs.any p))) [] k := by
  have hI := IndexFuncDom_ro xs hS f p hf
  refine RO.ofv' Try.func109 Try.ntmps109 rfl (goFn_of Try.func109 rfl (by kernel_rfl)) rfl rfl ?_
  ((repeat' (first
    | (show SQ _ _ _ _ _ _ _ _; first | apply sq_nil | (apply q_move; exact rfl; exact rfl) | (apply q_assign; exact rfl; exact rfl) | (apply q_geq; exact rfl; exact rfl; exact rfl))
    | (show SQ _ _ _ _ _ _ _ _; (first | (apply q_callU; exact rfl; exact rfl; exact rfl; exact FzL.of rfl; exact hI _)); (try simp only [put, rowsOf, plR, List.all_cons, selE, ovr, setH, del, cellsA, splice, isV, List.nil_append, List.cons_append, List.map_cons, List.map_nil, List.length_cons, List.length_nil, List.set_cons_zero, List.set_cons_succ, List.take_succ_cons, List.take_zero, List.take_nil, List.drop_succ_cons, List.drop_zero, List.drop_nil, List.append_nil, List.all_cons, List.all_nil, Bool.and_true, Bool.true_and, Bool.and_false, Bool.false_and, Nat.reduceAdd, Nat.zero_add, Nat.add_zero, Nat.reduceEqDiff, if_true, if_false, reduceIte]))
    | (show AW _ _ _ _ _ _ _ _; first | refine aw_region ?_ | (refine aw_seqk ?_; intro K hK) | refine aw_ret ?_)
    | refine thn_n ?_
    | (refine hK _ _ _ ?_; clear hK K))); all_goals (repeat (clear hK K)))
  all_goals refine fin_r (fin_b rfl ?_)
  exact ixG_any p xs
def domsB (ds : List (List Int)) : Bool := decide (1 ≤ ds.length) && decide (ds.length ≤ 24) && !ds.any fun d => !domB d
set_option maxHeartbeats 4000000 in
theorem domainsOk_ro (ds : List (List Int)) (hS : NbS ds) (k : Nat) : RO Try.prog 101 [.dsl 1 (nbL ds)] k (.v (.bool (domsB ds))) [] k := by
  have hnl := nbL_len ds
  have hC := ContainsFuncDom_ro ds hS 110 (fun d => !domB d) fun d hd m => domainsClosure_ro d (hS.m d hd) m
  have e : domsB ds = (decide ((1 : Int) ≤ ((nbL ds).length : Int)) && decide (((nbL ds).length : Int) ≤ 24) && !ds.any fun d => !domB d) := by
    rw [domsB, hnl]
    congr 2
    · rw [Bool.eq_iff_iff]; simp; omega
    · rw [Bool.eq_iff_iff]; simp; omega
  rw [e]
  clear e
  generalize (ds.any fun d => !domB d) = u1 at *
  generalize hd1 : decide ((1 : Int) ≤ ((nbL ds).length : Int)) = d1 at *
  generalize hd2 : decide (((nbL ds).length : Int) ≤ 24) = d2 at *
  refine RO.ofv' Try.func101 Try.ntmps101 rfl (goFn_of Try.func101 rfl (by kernel_rfl)) rfl rfl ?_
  cases d1 <;> cases d2 <;> cases u1
  all_goals ((repeat' (first
    | (show SQ _ _ _ _ _ _ _ _; first | apply sq_nil | (apply q_move; exact rfl; exact rfl) | (apply q_assign; exact rfl; exact rfl) | (apply q_pick_t; exact rfl; exact rfl; exact rfl; exact (by first | assumption | exact rfl)) | (apply q_pick_f; exact rfl; exact rfl; exact rfl; exact (by first | assumption | exact rfl)) | (apply q_not; exact rfl; exact rfl) | (apply q_lend; exact rfl; exact rfl; exact (ty rfl); exact rfl) | (apply q_leq; exact rfl; exact rfl; exact rfl) | (apply q_geq; exact rfl; exact rfl; exact rfl) | (apply q_g; exact rfl; exact rfl; exact rfl; exact (by assumption)) | (apply q_s; exact rfl; exact rfl; exact rfl; exact (by assumption); exact rfl) | (apply q_s; exact rfl; exact rfl; exact rfl; exact rfl; exact rfl))
    | (show SQ _ _ _ _ _ _ _ _; (first | (apply q_callU; exact rfl; exact rfl; exact rfl; exact FzL.of rfl; exact hC _)); (try simp only [put, rowsOf, plR, List.all_cons, selE, ovr, setH, del, cellsA, splice, isV, List.nil_append, List.cons_append, List.map_cons, List.map_nil, List.length_cons, List.length_nil, List.set_cons_zero, List.set_cons_succ, List.take_succ_cons, List.take_zero, List.take_nil, List.drop_succ_cons, List.drop_zero, List.drop_nil, List.append_nil, List.all_cons, List.all_nil, Bool.and_true, Bool.true_and, Bool.and_false, Bool.false_and, Nat.reduceAdd, Nat.zero_add, Nat.add_zero, Nat.reduceEqDiff, if_true, if_false, reduceIte]))
    | (show AW _ _ _ _ _ _ _ _; first | refine aw_region ?_ | (refine aw_seqk ?_; intro K hK) | refine aw_ret ?_)
    | refine thn_n ?_
    | (refine hK _ _ _ ?_; clear hK K))); all_goals (repeat (clear hK K)))
  all_goals exact fin_r (fin_b rfl rfl)
end Go.Proofs.Yteknfaldpajlpaa.Nb

namespace Go.Proofs.Yteknfaldpajlpaa.Nb
open Go Go.RowKit Go.Proofs.Yteknfaldpajlpaa.Aw Go.Proofs.Yteknfaldpajlpaa.In Go.Proofs.Yteknfaldpajlpaa.Il
set_option linter.unusedSimpArgs false
set_option linter.unusedVariables false
set_option linter.unusedSectionVars false
attribute [local irreducible] AW SQ Step RO RC DE Thn InB
def symB (ap : List (List Int)) (i k : Nat) : Bool := (ap.getD i []).getD k 0 == (ap.getD k []).getD i 0
def rowB (n : Nat) (ap : List (List Int)) (i : Nat) : Bool := decide ((ap.getD i []).length = n) && (!(ap.getD i []).any fun x => !inB x 0 100) && ((ap.getD i []).getD i 0 == 0) && (List.range i).all (symB ap i)
def prB (ds ap : List (List Int)) : Bool := domsB ds && decide (ap.length = ds.length) && (List.range ap.length).all (rowB ds.length ap)
set_option maxHeartbeats 4000000 in
theorem ValidProblem_ro (ds ap : List (List Int)) (hS : NbS ds) (hA : NbS ap) (k : Nat) : RO Try.prog 78 [.agg [.dsl 1 (nbL ds), .dsl 1 (nbL ap)]] k (.v (.bool (prB ds ap))) [] k := by
  have hnl := nbL_len ds
  have hal := nbL_len ap
  have hn := hS.n
  have hna := hA.n
  have hD := domainsOk_ro ds hS
  refine RO.ofv' Try.func78 Try.ntmps78 rfl (goFn_of Try.func78 rfl (by kernel_rfl)) rfl rfl ?_
  cases hd : domsB ds with
  | false =>
    rw [hd] at hD
    ((repeat' (first
    | (show SQ _ _ _ _ _ _ _ _; apply sq_frzp (t := 1); exact rfl; exact rfl; exact (by first | rfl | exact all_noOwn_map (fun _ => rfl) | assumption | exact hclo); exact (by first | rfl | assumption); exact rfl; (try simp only [put, rowsOf, plR, List.all_cons, selE, ovr, setH, del, cellsA, splice, isV, List.nil_append, List.cons_append, List.map_cons, List.map_nil, List.length_cons, List.length_nil, List.set_cons_zero, List.set_cons_succ, List.take_succ_cons, List.take_zero, List.take_nil, List.drop_succ_cons, List.drop_zero, List.drop_nil, List.append_nil, List.all_cons, List.all_nil, Bool.and_true, Bool.true_and, Bool.and_false, Bool.false_and, Nat.reduceAdd, Nat.zero_add, Nat.add_zero, Nat.reduceEqDiff, if_true, if_false, reduceIte]))
    | (show SQ _ _ _ _ _ _ _ _; first | apply sq_nil | (apply q_move; exact rfl; exact rfl) | (apply q_assign; exact rfl; exact rfl) | (apply q_pick_t; exact rfl; exact rfl; exact rfl; exact (by first | assumption | exact rfl)) | (apply q_fieldAddr; exact rfl; exact rfl; exact (ty rfl); exact rfl; exact rfl; exact rfl; exact rfl) | (apply q_not; exact rfl; exact rfl) | (apply q_ld1d; exact rfl; exact rfl; exact (ty rfl); exact rfl; exact rfl) | (apply q_s; exact rfl; exact rfl; exact rfl; exact rfl; exact rfl))
    | (show SQ _ _ _ _ _ _ _ _; (first | (apply q_box; exact rfl; exact rfl; exact rfl) | (apply q_callU; exact rfl; exact rfl; exact rfl; exact FzL.of rfl; exact hD _)); (try simp only [put, rowsOf, plR, List.all_cons, selE, ovr, setH, del, cellsA, splice, isV, List.nil_append, List.cons_append, List.map_cons, List.map_nil, List.length_cons, List.length_nil, List.set_cons_zero, List.set_cons_succ, List.take_succ_cons, List.take_zero, List.take_nil, List.drop_succ_cons, List.drop_zero, List.drop_nil, List.append_nil, List.all_cons, List.all_nil, Bool.and_true, Bool.true_and, Bool.and_false, Bool.false_and, Nat.reduceAdd, Nat.zero_add, Nat.add_zero, Nat.reduceEqDiff, if_true, if_false, reduceIte]))
    | (show AW _ _ _ _ _ _ _ _; first | refine aw_region ?_ | (refine aw_seqk ?_; intro K hK) | (apply aw_cond_t; exact rfl; exact rfl) | refine aw_ret ?_)
    | refine thn_n ?_
    | (refine hK _ _ _ ?_; clear hK K)
    | refine thn_r ?_)); all_goals (repeat (clear hK K)))
    all_goals refine fin_r (fin_b rfl ?_)
    rw [prB, hd]; rfl
  | true =>
    rw [hd] at hD
    cases hq : (((nbL ap).length : Int) != ((nbL ds).length : Int)) with
    | true =>
      ((repeat' (first
    | (show SQ _ _ _ _ _ _ _ _; apply sq_frzp (t := 1); exact rfl; exact rfl; exact (by first | rfl | exact all_noOwn_map (fun _ => rfl) | assumption | exact hclo); exact (by first | rfl | assumption); exact rfl; (try simp only [put, rowsOf, plR, List.all_cons, selE, ovr, setH, del, cellsA, splice, isV, List.nil_append, List.cons_append, List.map_cons, List.map_nil, List.length_cons, List.length_nil, List.set_cons_zero, List.set_cons_succ, List.take_succ_cons, List.take_zero, List.take_nil, List.drop_succ_cons, List.drop_zero, List.drop_nil, List.append_nil, List.all_cons, List.all_nil, Bool.and_true, Bool.true_and, Bool.and_false, Bool.false_and, Nat.reduceAdd, Nat.zero_add, Nat.add_zero, Nat.reduceEqDiff, if_true, if_false, reduceIte]))
    | (show SQ _ _ _ _ _ _ _ _; first | apply sq_nil | (apply q_move; exact rfl; exact rfl) | (apply q_assign; exact rfl; exact rfl) | (apply q_pick_f; exact rfl; exact rfl; exact rfl; exact (by first | assumption | exact rfl)) | (apply q_fieldAddr; exact rfl; exact rfl; exact (ty rfl); exact rfl; exact rfl; exact rfl; exact rfl) | (apply q_not; exact rfl; exact rfl) | (apply q_lend; exact rfl; exact rfl; exact (ty rfl); exact rfl) | (apply q_neq; exact rfl; exact rfl; exact rfl) | (apply q_ld1d; exact rfl; exact rfl; exact (ty rfl); exact rfl; exact rfl) | (apply q_g; exact rfl; exact rfl; exact rfl; exact rfl))
    | (show SQ _ _ _ _ _ _ _ _; (first | (apply q_box; exact rfl; exact rfl; exact rfl) | (apply q_callU; exact rfl; exact rfl; exact rfl; exact FzL.of rfl; exact hD _)); (try simp only [put, rowsOf, plR, List.all_cons, selE, ovr, setH, del, cellsA, splice, isV, List.nil_append, List.cons_append, List.map_cons, List.map_nil, List.length_cons, List.length_nil, List.set_cons_zero, List.set_cons_succ, List.take_succ_cons, List.take_zero, List.take_nil, List.drop_succ_cons, List.drop_zero, List.drop_nil, List.append_nil, List.all_cons, List.all_nil, Bool.and_true, Bool.true_and, Bool.and_false, Bool.false_and, Nat.reduceAdd, Nat.zero_add, Nat.add_zero, Nat.reduceEqDiff, if_true, if_false, reduceIte]))
    | (show AW _ _ _ _ _ _ _ _; first | refine aw_region ?_ | (refine aw_seqk ?_; intro K hK) | (apply aw_cond_t; exact rfl; exact (by assumption)) | refine aw_ret ?_)
    | refine thn_n ?_
    | (refine hK _ _ _ ?_; clear hK K)
    | refine thn_r ?_)); all_goals (repeat (clear hK K)))
      all_goals refine fin_r (fin_b rfl ?_)
      have : decide (ap.length = ds.length) = false := by
        rw [hnl, hal] at hq; simp at hq ⊢; omega
      rw [prB, hd, this]; rfl
    | false =>
      have hlen : ap.length = ds.length := by rw [hnl, hal] at hq; simp at hq; omega
      ((repeat' (first
    | (show SQ _ _ _ _ _ _ _ _; apply sq_frzp (t := 1); exact rfl; exact rfl; exact (by first | rfl | exact all_noOwn_map (fun _ => rfl) | assumption | exact hclo); exact (by first | rfl | assumption); exact rfl; (try simp only [put, rowsOf, plR, List.all_cons, selE, ovr, setH, del, cellsA, splice, isV, List.nil_append, List.cons_append, List.map_cons, List.map_nil, List.length_cons, List.length_nil, List.set_cons_zero, List.set_cons_succ, List.take_succ_cons, List.take_zero, List.take_nil, List.drop_succ_cons, List.drop_zero, List.drop_nil, List.append_nil, List.all_cons, List.all_nil, Bool.and_true, Bool.true_and, Bool.and_false, Bool.false_and, Nat.reduceAdd, Nat.zero_add, Nat.add_zero, Nat.reduceEqDiff, if_true, if_false, reduceIte]))
    | (show SQ _ _ _ _ _ _ _ _; first | apply sq_nil | (apply q_move; exact rfl; exact rfl) | (apply q_assign; exact rfl; exact rfl) | (apply q_pick_f; exact rfl; exact rfl; exact rfl; exact (by first | assumption | exact rfl)) | (apply q_fieldAddr; exact rfl; exact rfl; exact (ty rfl); exact rfl; exact rfl; exact rfl; exact rfl) | (apply q_not; exact rfl; exact rfl) | (apply q_lend; exact rfl; exact rfl; exact (ty rfl); exact rfl) | (apply q_neq; exact rfl; exact rfl; exact rfl) | (apply q_ld1d; exact rfl; exact rfl; exact (ty rfl); exact rfl; exact rfl) | (apply q_g; exact rfl; exact rfl; exact rfl; exact rfl))
    | (show SQ _ _ _ _ _ _ _ _; (first | (apply q_box; exact rfl; exact rfl; exact rfl) | (apply q_callU; exact rfl; exact rfl; exact rfl; exact FzL.of rfl; exact hD _)); (try simp only [put, rowsOf, plR, List.all_cons, selE, ovr, setH, del, cellsA, splice, isV, List.nil_append, List.cons_append, List.map_cons, List.map_nil, List.length_cons, List.length_nil, List.set_cons_zero, List.set_cons_succ, List.take_succ_cons, List.take_zero, List.take_nil, List.drop_succ_cons, List.drop_zero, List.drop_nil, List.append_nil, List.all_cons, List.all_nil, Bool.and_true, Bool.true_and, Bool.and_false, Bool.false_and, Nat.reduceAdd, Nat.zero_add, Nat.add_zero, Nat.reduceEqDiff, if_true, if_false, reduceIte]))
    | (show AW _ _ _ _ _ _ _ _; first | refine aw_region ?_ | (refine aw_seqk ?_; intro K hK) | refine aw_block ?_ | (apply aw_cond_f; exact rfl; exact (by assumption)) | refine aw_skip ?_)
    | refine thn_n ?_
    | (refine hK _ _ _ ?_; clear hK K))); all_goals (repeat (clear hK K)))
      refine aw_loop (ρ := id) (ι := Nat) (fun i => ([(22, .v (.int .i64 i)), (21, .v (.int .i64 ap.length)), (20, .dsl 1 (nbL ap)), (1, .dptr [.dsl 1 (nbL ds), .dsl 1 (nbL ap)])], [], 1))
        (fun i => i ≤ ap.length ∧ ∀ j, j < i → rowB ds.length ap j = true) (fun i => ap.length - i) 0 ⟨Nat.zero_le _, fun j hj => absurd hj (Nat.not_lt_zero _)⟩ ⟨by (repeat (refine ⟨by first | exact lk_i rfl rfl | exact lk_i rfl (by (try dsimp only); first | rfl | omega | (rw [IntWalk.i64_in _ (by omega)]; first | rfl | omega | (push_cast; omega)) | (simp; done) | (simp; omega)) | exact lk_d rfl rfl | exact lk_p rfl rfl, ?_⟩)); exact trivial, by exact trivial, by rfl, by exact pin_0⟩ ?_
      rintro i ⟨hi, hg⟩
      by_cases c1 : i < ap.length
      · have b1 : decide ((i : Int) < (ap.length : Int)) = true := by simpa using c1
        have hrow := nbL_get c1
        have hm := hA.m _ (List.getElem_mem c1)
        have hlm : (ap[i].map inL).length = ap[i].length := List.length_map _
        have hG : ap.getD i [] = ap[i] := by simp [List.getD, c1]
        have hw : IntKind.i64.wrap ((i : Int) + 1) = ((i + 1 : Nat) : Int) := by rw [IntWalk.i64_in _ (by omega)]; omega
        have hW := allWithin_ro ap[i] (ap[i].map inL) 0 100 rfl hm
        have bad : rowB ds.length ap i = false → prB ds ap = false := fun h => by
          have : (List.range ap.length).all (rowB ds.length ap) = false := by
            rw [← Bool.not_eq_true, List.all_eq_true]
            intro hh
            rw [hh i (List.mem_range.2 c1)] at h; cases h
          rw [prB, this, Bool.and_false]
        cases h1 : (((ap[i].map inL).length : Int) != ((nbL ds).length : Int)) with
        | true =>
          ((repeat' (first
    | (show SQ _ _ _ _ _ _ _ _; first | apply sq_nil | (apply q_move; exact rfl; exact rfl) | (apply q_assign; exact rfl; exact rfl) | (apply q_pick_t; exact rfl; exact rfl; exact rfl; exact (by first | assumption | exact rfl)) | (apply q_fieldAddr; exact rfl; exact rfl; exact (ty rfl); exact rfl; exact rfl; exact rfl; exact rfl) | (apply q_lend; exact rfl; exact rfl; exact (ty rfl); exact rfl) | (apply q_neq; exact rfl; exact rfl; exact rfl) | (apply q_lss; exact rfl; exact rfl; exact rfl) | (apply q_ixd; exact rfl; exact rfl; exact rfl; exact (ty rfl); exact rfl; exact (by first | omega | (simp; done) | (simp; omega)); exact (by first | omega | (simp; done) | (simp; omega)); exact (by first | rfl | assumption)) | (apply q_ld1d; exact rfl; exact rfl; exact (ty rfl); exact rfl; exact rfl) | (apply q_s; exact rfl; exact rfl; exact rfl; exact (by assumption); exact rfl) | (apply q_s; exact rfl; exact rfl; exact rfl; exact rfl; exact rfl))
    | (show AW _ _ _ _ _ _ _ _; first | refine aw_region ?_ | (refine aw_seqk ?_; intro K hK) | refine aw_block ?_ | (apply aw_cond_t; exact rfl; exact rfl) | (apply aw_cond_t; exact rfl; exact (by assumption)) | refine aw_ret ?_ | refine aw_skip ?_)
    | refine thn_n ?_
    | (refine hK _ _ _ ?_; clear hK K)
    | refine thn_r ?_
    | refine inb_r ?_)); all_goals (repeat (clear hK K)))
          all_goals refine fin_r (fin_b rfl ?_)
          refine (bad ?_).symm
          have : decide (ap[i].length = ds.length) = false := by
            rw [hnl, hlm] at h1; simp at h1 ⊢; omega
          rw [rowB, hG, this]; rfl
        | false =>
          have hli : ap[i].length = ds.length := by rw [hnl, hlm] at h1; simp at h1; omega
          cases h2 : (!ap[i].any fun x => !inB x 0 100) with
          | false =>
            rw [h2] at hW
            ((repeat' (first
    | (show SQ _ _ _ _ _ _ _ _; first | apply sq_nil | (apply q_move; exact rfl; exact rfl) | (apply q_assign; exact rfl; exact rfl) | (apply q_pick_t; exact rfl; exact rfl; exact rfl; exact (by first | assumption | exact rfl)) | (apply q_pick_f; exact rfl; exact rfl; exact rfl; exact (by first | assumption | exact rfl)) | (apply q_fieldAddr; exact rfl; exact rfl; exact (ty rfl); exact rfl; exact rfl; exact rfl; exact rfl) | (apply q_not; exact rfl; exact rfl) | (apply q_lend; exact rfl; exact rfl; exact (ty rfl); exact rfl) | (apply q_neq; exact rfl; exact rfl; exact rfl) | (apply q_lss; exact rfl; exact rfl; exact rfl) | (apply q_ixd; exact rfl; exact rfl; exact rfl; exact (ty rfl); exact rfl; exact (by first | omega | (simp; done) | (simp; omega)); exact (by first | omega | (simp; done) | (simp; omega)); exact (by first | rfl | assumption)) | (apply q_ld1d; exact rfl; exact rfl; exact (ty rfl); exact rfl; exact rfl) | (apply q_g; exact rfl; exact rfl; exact rfl; exact (by assumption)) | (apply q_s; exact rfl; exact rfl; exact rfl; exact rfl; exact rfl))
    | (show SQ _ _ _ _ _ _ _ _; (first | (apply q_callU; exact rfl; exact rfl; exact rfl; exact FzL.of rfl; exact hW _)); (try simp only [put, rowsOf, plR, List.all_cons, selE, ovr, setH, del, cellsA, splice, isV, List.nil_append, List.cons_append, List.map_cons, List.map_nil, List.length_cons, List.length_nil, List.set_cons_zero, List.set_cons_succ, List.take_succ_cons, List.take_zero, List.take_nil, List.drop_succ_cons, List.drop_zero, List.drop_nil, List.append_nil, List.all_cons, List.all_nil, Bool.and_true, Bool.true_and, Bool.and_false, Bool.false_and, Nat.reduceAdd, Nat.zero_add, Nat.add_zero, Nat.reduceEqDiff, if_true, if_false, reduceIte]))
    | (show AW _ _ _ _ _ _ _ _; first | refine aw_region ?_ | (refine aw_seqk ?_; intro K hK) | refine aw_block ?_ | (apply aw_cond_t; exact rfl; exact rfl) | (apply aw_cond_t; exact rfl; exact (by assumption)) | refine aw_ret ?_ | refine aw_skip ?_)
    | refine thn_n ?_
    | (refine hK _ _ _ ?_; clear hK K)
    | refine thn_r ?_
    | refine inb_r ?_)); all_goals (repeat (clear hK K)))
            all_goals refine fin_r (fin_b rfl ?_)
            refine (bad ?_).symm
            rw [rowB, hG, h2]; simp
          | true =>
            rw [h2] at hW
            have hr2 : (ap[i].map inL)[((i : Int)).toNat]? = some (inL (ap[i].getD i 0)) := by
              have : i < ap[i].length := by omega
              simp [this, List.getD]
            rw [inL_eq] at hr2
            cases h3 : (ap[i].getD i 0 != 0) with
            | true =>
              ((repeat' (first
    | (show SQ _ _ _ _ _ _ _ _; first | apply sq_nil | (apply q_move; exact rfl; exact rfl) | (apply q_assign; exact rfl; exact rfl) | (apply q_pick_f; exact rfl; exact rfl; exact rfl; exact (by first | assumption | exact rfl)) | (apply q_fieldAddr; exact rfl; exact rfl; exact (ty rfl); exact rfl; exact rfl; exact rfl; exact rfl) | (apply q_not; exact rfl; exact rfl) | (apply q_lend; exact rfl; exact rfl; exact (ty rfl); exact rfl) | (apply q_neq; exact rfl; exact rfl; exact rfl) | (apply q_lss; exact rfl; exact rfl; exact rfl) | (apply q_ixd; exact rfl; exact rfl; exact rfl; exact (ty rfl); exact rfl; exact (by first | omega | (simp; done) | (simp; omega)); exact (by first | omega | (simp; done) | (simp; omega)); exact (by first | rfl | assumption)) | (apply q_ld1d; exact rfl; exact rfl; exact (ty rfl); exact rfl; exact rfl) | (apply q_g; exact rfl; exact rfl; exact rfl; exact (by assumption)) | (apply q_g; exact rfl; exact rfl; exact rfl; exact rfl))
    | (show SQ _ _ _ _ _ _ _ _; (first | (apply q_callU; exact rfl; exact rfl; exact rfl; exact FzL.of rfl; exact hW _)); (try simp only [put, rowsOf, plR, List.all_cons, selE, ovr, setH, del, cellsA, splice, isV, List.nil_append, List.cons_append, List.map_cons, List.map_nil, List.length_cons, List.length_nil, List.set_cons_zero, List.set_cons_succ, List.take_succ_cons, List.take_zero, List.take_nil, List.drop_succ_cons, List.drop_zero, List.drop_nil, List.append_nil, List.all_cons, List.all_nil, Bool.and_true, Bool.true_and, Bool.and_false, Bool.false_and, Nat.reduceAdd, Nat.zero_add, Nat.add_zero, Nat.reduceEqDiff, if_true, if_false, reduceIte]))
    | (show AW _ _ _ _ _ _ _ _; first | refine aw_region ?_ | (refine aw_seqk ?_; intro K hK) | refine aw_block ?_ | (apply aw_cond_t; exact rfl; exact (by assumption)) | refine aw_ret ?_ | refine aw_skip ?_)
    | refine thn_n ?_
    | (refine hK _ _ _ ?_; clear hK K)
    | refine thn_r ?_
    | refine inb_r ?_)); all_goals (repeat (clear hK K)))
              all_goals refine fin_r (fin_b rfl ?_)
              refine (bad ?_).symm
              have : (ap[i].getD i 0 == 0) = false := by simpa using h3
              rw [rowB, hG, this]; simp
            | false =>
              have h3' : (ap[i].getD i 0 == 0) = true := by simpa using h3
              ((repeat' (first
    | (show SQ _ _ _ _ _ _ _ _; first | apply sq_nil | (apply q_move; exact rfl; exact rfl) | (apply q_assign; exact rfl; exact rfl) | (apply q_pick_f; exact rfl; exact rfl; exact rfl; exact (by first | assumption | exact rfl)) | (apply q_fieldAddr; exact rfl; exact rfl; exact (ty rfl); exact rfl; exact rfl; exact rfl; exact rfl) | (apply q_not; exact rfl; exact rfl) | (apply q_lend; exact rfl; exact rfl; exact (ty rfl); exact rfl) | (apply q_neq; exact rfl; exact rfl; exact rfl) | (apply q_lss; exact rfl; exact rfl; exact rfl) | (apply q_ixd; exact rfl; exact rfl; exact rfl; exact (ty rfl); exact rfl; exact (by first | omega | (simp; done) | (simp; omega)); exact (by first | omega | (simp; done) | (simp; omega)); exact (by first | rfl | assumption)) | (apply q_ld1d; exact rfl; exact rfl; exact (ty rfl); exact rfl; exact rfl) | (apply q_g; exact rfl; exact rfl; exact rfl; exact (by assumption)) | (apply q_g; exact rfl; exact rfl; exact rfl; exact rfl))
    | (show SQ _ _ _ _ _ _ _ _; (first | (apply q_callU; exact rfl; exact rfl; exact rfl; exact FzL.of rfl; exact hW _)); (try simp only [put, rowsOf, plR, List.all_cons, selE, ovr, setH, del, cellsA, splice, isV, List.nil_append, List.cons_append, List.map_cons, List.map_nil, List.length_cons, List.length_nil, List.set_cons_zero, List.set_cons_succ, List.take_succ_cons, List.take_zero, List.take_nil, List.drop_succ_cons, List.drop_zero, List.drop_nil, List.append_nil, List.all_cons, List.all_nil, Bool.and_true, Bool.true_and, Bool.and_false, Bool.false_and, Nat.reduceAdd, Nat.zero_add, Nat.add_zero, Nat.reduceEqDiff, if_true, if_false, reduceIte]))
    | (show AW _ _ _ _ _ _ _ _; first | refine aw_region ?_ | (refine aw_seqk ?_; intro K hK) | refine aw_block ?_ | (apply aw_cond_t; exact rfl; exact (by assumption)) | (apply aw_cond_f; exact rfl; exact (by assumption)) | refine aw_skip ?_)
    | refine thn_n ?_
    | (refine hK _ _ _ ?_; clear hK K))); all_goals (repeat (clear hK K)))
              refine aw_loop (ρ := id) (ι := Nat) (fun k => ([(46, .v (.int .i64 k)), (45, .v (.int .i64 i)), (22, .v (.int .i64 i)), (21, .v (.int .i64 ap.length)), (20, .dsl 1 (nbL ap)), (4, .dsl 1 (ap[i].map inL)), (3, .v (.int .i64 i)), (1, .dptr [.dsl 1 (nbL ds), .dsl 1 (nbL ap)])], [], 1))
                (fun k => k ≤ i ∧ ∀ j, j < k → symB ap i j = true) (fun k => i - k) 0 ⟨Nat.zero_le _, fun j hj => absurd hj (Nat.not_lt_zero _)⟩ ⟨by (repeat (refine ⟨by first | exact lk_i rfl rfl | exact lk_d rfl rfl | exact lk_p rfl rfl, ?_⟩)); exact trivial, by exact trivial, by rfl, by exact pin_0⟩ ?_
              rintro k ⟨hk, hgk⟩
              by_cases c2 : k < i
              · have b2 : decide ((k : Int) < (i : Int)) = true := by simpa using c2
                have hkl : k < ap.length := by omega
                have hrowk := nbL_get hkl
                have hGk : ap.getD k [] = ap[k] := by simp [List.getD, hkl]
                have hlmk : (ap[k].map inL).length = ap[k].length := List.length_map _
                have hlk : ap[k].length = ds.length := by
                  have := hg k c2
                  simp only [rowB, Bool.and_eq_true, decide_eq_true_eq, hGk] at this
                  exact this.1.1.1
                have hrk1 : (ap[i].map inL)[((k : Int)).toNat]? = some (inL (ap[i].getD k 0)) := by
                  have : k < ap[i].length := by omega
                  simp [this, List.getD]
                have hrk2 : (ap[k].map inL)[((i : Int)).toNat]? = some (inL (ap[k].getD i 0)) := by
                  have : i < ap[k].length := by omega
                  simp [this, List.getD]
                rw [inL_eq] at hrk1 hrk2
                have hwk : IntKind.i64.wrap ((k : Int) + 1) = ((k + 1 : Nat) : Int) := by rw [IntWalk.i64_in _ (by omega)]; omega
                have hsy : symB ap i k = (ap[i].getD k 0 == ap[k].getD i 0) := by rw [symB, hG, hGk]
                cases h4 : (ap[i].getD k 0 != ap[k].getD i 0) with
                | true =>
                  ((repeat' (first
    | (show SQ _ _ _ _ _ _ _ _; first | apply sq_nil | (apply q_move; exact rfl; exact rfl) | (apply q_assign; exact rfl; exact rfl) | (apply q_lss; exact rfl; exact rfl; exact rfl))
    | (show DE _ _ _ _ _ _ _ _ _ _ _ _; first | (apply e_move; exact rfl; exact rfl; exact rfl) | (apply e_fieldAddr; exact rfl; exact rfl; exact (ty rfl); exact rfl; exact rfl; exact rfl; exact rfl; exact rfl) | (apply e_neq; exact rfl; exact rfl; exact rfl; exact rfl) | (apply e_ixd; exact rfl; exact rfl; exact rfl; exact (ty rfl); exact rfl; exact (by first | omega | (simp; done) | (simp; omega)); exact (by first | omega | (simp; done) | (simp; omega)); exact (by first | rfl | assumption); exact rfl) | (apply e_ld1d; exact rfl; exact rfl; exact (ty rfl); exact rfl; exact rfl; exact rfl))
    | (show DE _ _ _ _ _ _ _ _ _ _ _ _; (first | (apply dr_nil; exact trivial)); (try simp only [put, rowsOf, plR, List.all_cons, selE, ovr, setH, del, cellsA, splice, isV, List.nil_append, List.cons_append, List.map_cons, List.map_nil, List.length_cons, List.length_nil, List.set_cons_zero, List.set_cons_succ, List.take_succ_cons, List.take_zero, List.take_nil, List.drop_succ_cons, List.drop_zero, List.drop_nil, List.append_nil, List.all_cons, List.all_nil, Bool.and_true, Bool.true_and, Bool.and_false, Bool.false_and, Nat.reduceAdd, Nat.zero_add, Nat.add_zero, Nat.reduceEqDiff, if_true, if_false, reduceIte]))
    | (show AW _ _ _ _ _ _ _ _; first | refine aw_region ?_ | (refine aw_seqk ?_; intro K hK) | refine aw_block ?_ | (apply aw_cond_t; exact rfl; exact (by assumption)) | refine aw_ret ?_ | refine aw_skip ?_ | refine aw_drawE (id := 11) [0, 0, 3, 7, 0, 16, 0, 112, 240, 0, 1008, 2032, 4095] [0, 0, 0, 1, 0, 1, 0, 0, 1, 0, 0, 1, 0] mixed (by kernel_rfl) ?_)
    | refine thn_n ?_
    | (refine hK _ _ _ ?_; clear hK K)
    | refine thn_r ?_
    | refine inb_r ?_)); all_goals (repeat (clear hK K)))
                  all_goals refine fin_r (fin_b rfl ?_)
                  refine (bad ?_).symm
                  have e1 : symB ap i k = false := by rw [hsy]; simpa using h4
                  have : (List.range i).all (symB ap i) = false := by
                    rw [← Bool.not_eq_true, List.all_eq_true]
                    intro hh
                    rw [hh k (List.mem_range.2 c2)] at e1; cases e1
                  rw [rowB, this, Bool.and_false]
                | false =>
                  have e1 : symB ap i k = true := by rw [hsy]; simpa using h4
                  ((repeat' (first
    | (show SQ _ _ _ _ _ _ _ _; first | apply sq_nil | (apply q_move; exact rfl; exact rfl) | (apply q_assign; exact rfl; exact rfl) | (apply q_add; exact rfl; exact rfl; exact rfl) | (apply q_lss; exact rfl; exact rfl; exact rfl))
    | (show DE _ _ _ _ _ _ _ _ _ _ _ _; first | (apply e_move; exact rfl; exact rfl; exact rfl) | (apply e_fieldAddr; exact rfl; exact rfl; exact (ty rfl); exact rfl; exact rfl; exact rfl; exact rfl; exact rfl) | (apply e_neq; exact rfl; exact rfl; exact rfl; exact rfl) | (apply e_ixd; exact rfl; exact rfl; exact rfl; exact (ty rfl); exact rfl; exact (by first | omega | (simp; done) | (simp; omega)); exact (by first | omega | (simp; done) | (simp; omega)); exact (by first | rfl | assumption); exact rfl) | (apply e_ld1d; exact rfl; exact rfl; exact (ty rfl); exact rfl; exact rfl; exact rfl))
    | (show DE _ _ _ _ _ _ _ _ _ _ _ _; (first | (apply dr_nil; exact trivial)); (try simp only [put, rowsOf, plR, List.all_cons, selE, ovr, setH, del, cellsA, splice, isV, List.nil_append, List.cons_append, List.map_cons, List.map_nil, List.length_cons, List.length_nil, List.set_cons_zero, List.set_cons_succ, List.take_succ_cons, List.take_zero, List.take_nil, List.drop_succ_cons, List.drop_zero, List.drop_nil, List.append_nil, List.all_cons, List.all_nil, Bool.and_true, Bool.true_and, Bool.and_false, Bool.false_and, Nat.reduceAdd, Nat.zero_add, Nat.add_zero, Nat.reduceEqDiff, if_true, if_false, reduceIte]))
    | (show AW _ _ _ _ _ _ _ _; first | refine aw_region ?_ | (refine aw_seqk ?_; intro K hK) | refine aw_block ?_ | (apply aw_cond_t; exact rfl; exact (by assumption)) | (apply aw_cond_f; exact rfl; exact (by assumption)) | refine aw_skip ?_ | refine aw_drawE (id := 11) [0, 0, 3, 7, 0, 16, 0, 112, 240, 0, 1008, 2032, 4095] [0, 0, 0, 1, 0, 1, 0, 0, 1, 0, 0, 1, 0] mixed (by kernel_rfl) ?_)
    | refine thn_n ?_
    | (refine hK _ _ _ ?_; clear hK K)
    | refine inb_n ?_)); all_goals (repeat (clear hK K)))
                  all_goals (refine ⟨k + 1, id, ⟨c2, fun j hj => ?_⟩, by omega, ?_⟩)
                  · by_cases hjq : j < k
                    · exact hgk j hjq
                    · obtain rfl : j = k := by omega
                      exact e1
                  · (try dsimp only); rw [← hwk]; exact ⟨by (repeat (refine ⟨by first | exact lk_i rfl rfl | exact lk_d rfl rfl | exact lk_p rfl rfl, ?_⟩)); exact trivial, by exact trivial, by rfl, by exact pin_0⟩
              · have b2 : decide ((k : Int) < (i : Int)) = false := by simpa using c2
                ((repeat' (first
    | (show SQ _ _ _ _ _ _ _ _; first | apply sq_nil | (apply q_move; exact rfl; exact rfl) | (apply q_add; exact rfl; exact rfl; exact rfl) | (apply q_lss; exact rfl; exact rfl; exact rfl))
    | (show AW _ _ _ _ _ _ _ _; first | refine aw_region ?_ | (refine aw_seqk ?_; intro K hK) | (apply aw_cond_f; exact rfl; exact (by assumption)) | refine aw_exit ?_)
    | refine thn_n ?_
    | (refine hK _ _ _ ?_; clear hK K)
    | refine thn_e ?_
    | refine inb_same ?_
    | refine inb_n ?_
    | (clear hK K; refine hK _ _ _ ?_; clear hK K))); all_goals (repeat (clear hK K)))
                all_goals (refine ⟨i + 1, id, ⟨c1, fun j hj => ?_⟩, by omega, ?_⟩)
                · by_cases hjq : j < i
                  · exact hg j hjq
                  · obtain rfl : j = i := by omega
                    have : (List.range j).all (symB ap j) = true := List.all_eq_true.2 fun q hq => hgk q (by have := List.mem_range.1 hq; omega)
                    rw [rowB, hG, h2, h3', this]; simp; omega
                · (try dsimp only); rw [← hw]; exact ⟨by (repeat (refine ⟨by first | exact lk_i rfl rfl | exact lk_d rfl rfl | exact lk_p rfl rfl, ?_⟩)); exact trivial, by exact trivial, by rfl, by exact pin_0⟩
      · have b1 : decide ((i : Int) < (ap.length : Int)) = false := by simpa using c1
        ((repeat' (first
    | (show SQ _ _ _ _ _ _ _ _; first | apply sq_nil | (apply q_assign; exact rfl; exact rfl) | (apply q_lss; exact rfl; exact rfl; exact rfl))
    | (show AW _ _ _ _ _ _ _ _; first | refine aw_region ?_ | (refine aw_seqk ?_; intro K hK) | (apply aw_cond_f; exact rfl; exact (by assumption)) | refine aw_ret ?_ | refine aw_exit ?_)
    | refine thn_n ?_
    | (refine hK _ _ _ ?_; clear hK K)
    | refine thn_e ?_
    | refine inb_same ?_
    | (clear hK K; refine hK _ _ _ ?_; clear hK K))); all_goals (repeat (clear hK K)))
        all_goals refine fin_r (fin_b rfl ?_)
        have : (List.range ap.length).all (rowB ds.length ap) = true := List.all_eq_true.2 fun q hq => hg q (by have := List.mem_range.1 hq; omega)
        rw [prB, hd, this, hlen]; simp
end Go.Proofs.Yteknfaldpajlpaa.Nb

namespace Go.Proofs.Yteknfaldpajlpaa.Nb
open Go Go.RowKit Go.Proofs.Yteknfaldpajlpaa.Aw Go.Proofs.Yteknfaldpajlpaa.In Go.Proofs.Yteknfaldpajlpaa.Il
set_option linter.unusedSimpArgs false
set_option linter.unusedVariables false
set_option linter.unusedSectionVars false
attribute [local irreducible] AW SQ Step RO RC DE Thn InB
theorem prB_dom {ds ap : List (List Int)} (h : domsB ds = false) : prB ds ap = false := by rw [prB, h]; rfl
theorem prB_row {ds ap : List (List Int)} {i : Nat} (hi : i < ap.length) (h : rowB ds.length ap i = false) : prB ds ap = false := by
  have : (List.range ap.length).all (rowB ds.length ap) = false := by
    rw [← Bool.not_eq_true, List.all_eq_true]
    intro hh
    rw [hh i (List.mem_range.2 hi)] at h; cases h
  rw [prB, this, Bool.and_false]
set_option maxHeartbeats 4000000 in
theorem l17Ok_ro (ds ap : List (List Int)) (hS : NbS ds) (hA : NbS ap) (k : Nat) : RO Try.prog 95 [.dptr [.dsl 1 (nbL ds), .dsl 1 (nbL ap)]] k (.v (.bool (prB ds ap))) [] k := by
  have hnl := nbL_len ds
  have hal := nbL_len ap
  have hn := hS.n
  have hna := hA.n
  refine RO.ofv' Try.func95 Try.ntmps95 rfl (goFn_of Try.func95 rfl (by kernel_rfl)) rfl rfl ?_
  by_cases q1 : ((nbL ds).length : Int) < 1
  · have b1 : decide (((nbL ds).length : Int) < 1) = true := by simpa using q1
    ((repeat' (first
    | (show SQ _ _ _ _ _ _ _ _; first | apply sq_nil | (apply q_move; exact rfl; exact rfl) | (apply q_assign; exact rfl; exact rfl) | (apply q_pick_t; exact rfl; exact rfl; exact rfl; exact (by first | assumption | exact rfl)) | (apply q_fieldAddr; exact rfl; exact rfl; exact (ty rfl); exact rfl; exact rfl; exact rfl; exact rfl) | (apply q_nilc; exact rfl; exact rfl; exact rfl) | (apply q_lend; exact rfl; exact rfl; exact (ty rfl); exact rfl) | (apply q_lss; exact rfl; exact rfl; exact rfl) | (apply q_ld1d; exact rfl; exact rfl; exact (ty rfl); exact rfl; exact rfl) | (apply q_s; exact rfl; exact rfl; exact rfl; exact (by assumption); exact rfl) | (apply q_s; exact rfl; exact rfl; exact rfl; exact rfl; exact rfl))
    | (show AW _ _ _ _ _ _ _ _; first | refine aw_region ?_ | (refine aw_seqk ?_; intro K hK) | (apply aw_cond_t; exact rfl; exact rfl) | refine aw_ret ?_)
    | refine thn_n ?_
    | (refine hK _ _ _ ?_; clear hK K)
    | refine thn_r ?_)); all_goals (repeat (clear hK K)))
    all_goals refine fin_r (fin_b rfl ?_)
    refine (prB_dom ?_).symm
    have : decide (1 ≤ ds.length) = false := by rw [decide_eq_false_iff_not]; omega
    rw [domsB, this]; rfl
  have b1 : decide (((nbL ds).length : Int) < 1) = false := by simpa using q1
  by_cases q2 : (24 : Int) < ((nbL ds).length : Int)
  · have b2 : decide ((24 : Int) < ((nbL ds).length : Int)) = true := by simpa using q2
    ((repeat' (first
    | (show SQ _ _ _ _ _ _ _ _; first | apply sq_nil | (apply q_move; exact rfl; exact rfl) | (apply q_assign; exact rfl; exact rfl) | (apply q_pick_t; exact rfl; exact rfl; exact rfl; exact (by first | assumption | exact rfl)) | (apply q_pick_f; exact rfl; exact rfl; exact rfl; exact (by first | assumption | exact rfl)) | (apply q_fieldAddr; exact rfl; exact rfl; exact (ty rfl); exact rfl; exact rfl; exact rfl; exact rfl) | (apply q_nilc; exact rfl; exact rfl; exact rfl) | (apply q_lend; exact rfl; exact rfl; exact (ty rfl); exact rfl) | (apply q_lss; exact rfl; exact rfl; exact rfl) | (apply q_gtr; exact rfl; exact rfl; exact rfl) | (apply q_ld1d; exact rfl; exact rfl; exact (ty rfl); exact rfl; exact rfl) | (apply q_g; exact rfl; exact rfl; exact rfl; exact (by assumption)) | (apply q_s; exact rfl; exact rfl; exact rfl; exact (by assumption); exact rfl))
    | (show AW _ _ _ _ _ _ _ _; first | refine aw_region ?_ | (refine aw_seqk ?_; intro K hK) | (apply aw_cond_t; exact rfl; exact rfl) | refine aw_ret ?_)
    | refine thn_n ?_
    | (refine hK _ _ _ ?_; clear hK K)
    | refine thn_r ?_)); all_goals (repeat (clear hK K)))
    all_goals refine fin_r (fin_b rfl ?_)
    refine (prB_dom ?_).symm
    have : decide (ds.length ≤ 24) = false := by simp; omega
    rw [domsB, this]; simp
  have b2 : decide ((24 : Int) < ((nbL ds).length : Int)) = false := by simpa using q2
  cases q3 : (((nbL ap).length : Int) != ((nbL ds).length : Int)) with
  | true =>
    ((repeat' (first
    | (show SQ _ _ _ _ _ _ _ _; first | apply sq_nil | (apply q_move; exact rfl; exact rfl) | (apply q_assign; exact rfl; exact rfl) | (apply q_pick_f; exact rfl; exact rfl; exact rfl; exact (by first | assumption | exact rfl)) | (apply q_fieldAddr; exact rfl; exact rfl; exact (ty rfl); exact rfl; exact rfl; exact rfl; exact rfl) | (apply q_nilc; exact rfl; exact rfl; exact rfl) | (apply q_lend; exact rfl; exact rfl; exact (ty rfl); exact rfl) | (apply q_neq; exact rfl; exact rfl; exact rfl) | (apply q_lss; exact rfl; exact rfl; exact rfl) | (apply q_gtr; exact rfl; exact rfl; exact rfl) | (apply q_ld1d; exact rfl; exact rfl; exact (ty rfl); exact rfl; exact rfl) | (apply q_g; exact rfl; exact rfl; exact rfl; exact (by assumption)))
    | (show AW _ _ _ _ _ _ _ _; first | refine aw_region ?_ | (refine aw_seqk ?_; intro K hK) | (apply aw_cond_t; exact rfl; exact (by assumption)) | refine aw_ret ?_)
    | refine thn_n ?_
    | (refine hK _ _ _ ?_; clear hK K)
    | refine thn_r ?_)); all_goals (repeat (clear hK K)))
    all_goals refine fin_r (fin_b rfl ?_)
    have : decide (ap.length = ds.length) = false := by
      rw [hnl, hal] at q3; simp at q3 ⊢; omega
    rw [prB, this]; simp
  | false =>
  have hlen : ap.length = ds.length := by rw [hnl, hal] at q3; simp at q3; omega
  ((repeat' (first
    | (show SQ _ _ _ _ _ _ _ _; first | apply sq_nil | (apply q_move; exact rfl; exact rfl) | (apply q_assign; exact rfl; exact rfl) | (apply q_pick_f; exact rfl; exact rfl; exact rfl; exact (by first | assumption | exact rfl)) | (apply q_fieldAddr; exact rfl; exact rfl; exact (ty rfl); exact rfl; exact rfl; exact rfl; exact rfl) | (apply q_nilc; exact rfl; exact rfl; exact rfl) | (apply q_lend; exact rfl; exact rfl; exact (ty rfl); exact rfl) | (apply q_neq; exact rfl; exact rfl; exact rfl) | (apply q_lss; exact rfl; exact rfl; exact rfl) | (apply q_gtr; exact rfl; exact rfl; exact rfl) | (apply q_ld1d; exact rfl; exact rfl; exact (ty rfl); exact rfl; exact rfl) | (apply q_g; exact rfl; exact rfl; exact rfl; exact (by assumption)))
    | (show AW _ _ _ _ _ _ _ _; first | refine aw_region ?_ | (refine aw_seqk ?_; intro K hK) | refine aw_block ?_ | (apply aw_cond_f; exact rfl; exact (by assumption)) | refine aw_skip ?_)
    | refine thn_n ?_
    | (refine hK _ _ _ ?_; clear hK K))); all_goals (repeat (clear hK K)))
  rw [hnl]
  refine aw_loop (ρ := id) (ι := Nat) (fun i => ([(4, .v (.int .i64 i)), (3, .v (.int .i64 ds.length)), (0, .dptr [.dsl 1 (nbL ds), .dsl 1 (nbL ap)])], [], 0))
    (fun i => i ≤ ds.length ∧ ∀ j, j < i → rowB ds.length ap j = true ∧ domB (ds.getD j []) = true) (fun i => ds.length - i) 0 ⟨Nat.zero_le _, fun j hj => absurd hj (Nat.not_lt_zero _)⟩ ⟨by (repeat (refine ⟨by first | exact lk_i rfl rfl | exact lk_p rfl rfl, ?_⟩)); exact trivial, by exact trivial, by rfl, by exact pin_0⟩ ?_
  rintro i ⟨hi, hg⟩
  by_cases c1 : i < ds.length
  · have b3 : decide ((i : Int) < (ds.length : Int)) = true := by simpa using c1
    have c1a : i < ap.length := by omega
    have hrow := nbL_get c1
    have hrowa := nbL_get c1a
    have hG : ap.getD i [] = ap[i] := by simp [List.getD, c1a]
    have hGd : ds.getD i [] = ds[i] := by simp [List.getD, c1]
    have hlm : (ap[i].map inL).length = ap[i].length := List.length_map _
    have hD := l17Domain_ro ds[i] (hS.m _ (List.getElem_mem c1))
    have hw : IntKind.i64.wrap ((i : Int) + 1) = ((i + 1 : Nat) : Int) := by rw [IntWalk.i64_in _ (by omega)]; omega
    have bad : rowB ds.length ap i = false → prB ds ap = false := prB_row c1a
    cases h0 : domB ds[i] with
    | false =>
      rw [h0] at hD
      ((repeat' (first
    | (show SQ _ _ _ _ _ _ _ _; first | apply sq_nil | (apply q_move; exact rfl; exact rfl) | (apply q_assign; exact rfl; exact rfl) | (apply q_pick_t; exact rfl; exact rfl; exact rfl; exact (by first | assumption | exact rfl)) | (apply q_fieldAddr; exact rfl; exact rfl; exact (ty rfl); exact rfl; exact rfl; exact rfl; exact rfl) | (apply q_nilc; exact rfl; exact rfl; exact rfl) | (apply q_not; exact rfl; exact rfl) | (apply q_lss; exact rfl; exact rfl; exact rfl) | (apply q_ixd; exact rfl; exact rfl; exact rfl; exact (ty rfl); exact rfl; exact (by first | omega | (simp; done) | (simp; omega)); exact (by first | omega | (simp; done) | (simp; omega)); exact (by first | rfl | assumption)) | (apply q_ld1d; exact rfl; exact rfl; exact (ty rfl); exact rfl; exact rfl) | (apply q_s; exact rfl; exact rfl; exact rfl; exact rfl; exact rfl))
    | (show SQ _ _ _ _ _ _ _ _; (first | (apply q_callU; exact rfl; exact rfl; exact rfl; exact FzL.of rfl; exact hD _)); (try simp only [put, rowsOf, plR, List.all_cons, selE, ovr, setH, del, cellsA, splice, isV, List.nil_append, List.cons_append, List.map_cons, List.map_nil, List.length_cons, List.length_nil, List.set_cons_zero, List.set_cons_succ, List.take_succ_cons, List.take_zero, List.take_nil, List.drop_succ_cons, List.drop_zero, List.drop_nil, List.append_nil, List.all_cons, List.all_nil, Bool.and_true, Bool.true_and, Bool.and_false, Bool.false_and, Nat.reduceAdd, Nat.zero_add, Nat.add_zero, Nat.reduceEqDiff, if_true, if_false, reduceIte]))
    | (show AW _ _ _ _ _ _ _ _; first | refine aw_region ?_ | (refine aw_seqk ?_; intro K hK) | refine aw_block ?_ | (apply aw_cond_t; exact rfl; exact rfl) | (apply aw_cond_t; exact rfl; exact (by assumption)) | refine aw_ret ?_ | refine aw_skip ?_)
    | refine thn_n ?_
    | (refine hK _ _ _ ?_; clear hK K)
    | refine thn_r ?_
    | refine inb_r ?_)); all_goals (repeat (clear hK K)))
      all_goals refine fin_r (fin_b rfl ?_)
      refine (prB_dom ?_).symm
      have : (ds.any fun d => !domB d) = true := List.any_eq_true.2 ⟨_, List.getElem_mem c1, by rw [h0]; rfl⟩
      rw [domsB, this]; simp
    | true =>
    rw [h0] at hD
    cases h1 : (((ap[i].map inL).length : Int) != (ds.length : Int)) with
    | true =>
      ((repeat' (first
    | (show SQ _ _ _ _ _ _ _ _; first | apply sq_nil | (apply q_move; exact rfl; exact rfl) | (apply q_assign; exact rfl; exact rfl) | (apply q_pick_t; exact rfl; exact rfl; exact rfl; exact (by first | assumption | exact rfl)) | (apply q_pick_f; exact rfl; exact rfl; exact rfl; exact (by first | assumption | exact rfl)) | (apply q_fieldAddr; exact rfl; exact rfl; exact (ty rfl); exact rfl; exact rfl; exact rfl; exact rfl) | (apply q_nilc; exact rfl; exact rfl; exact rfl) | (apply q_not; exact rfl; exact rfl) | (apply q_lend; exact rfl; exact rfl; exact (ty rfl); exact rfl) | (apply q_neq; exact rfl; exact rfl; exact rfl) | (apply q_lss; exact rfl; exact rfl; exact rfl) | (apply q_ixd; exact rfl; exact rfl; exact rfl; exact (ty rfl); exact rfl; exact (by first | omega | (simp; done) | (simp; omega)); exact (by first | omega | (simp; done) | (simp; omega)); exact (by first | rfl | assumption)) | (apply q_ld1d; exact rfl; exact rfl; exact (ty rfl); exact rfl; exact rfl) | (apply q_s; exact rfl; exact rfl; exact rfl; exact (by assumption); exact rfl) | (apply q_g; exact rfl; exact rfl; exact rfl; exact rfl))
    | (show SQ _ _ _ _ _ _ _ _; (first | (apply q_callU; exact rfl; exact rfl; exact rfl; exact FzL.of rfl; exact hD _)); (try simp only [put, rowsOf, plR, List.all_cons, selE, ovr, setH, del, cellsA, splice, isV, List.nil_append, List.cons_append, List.map_cons, List.map_nil, List.length_cons, List.length_nil, List.set_cons_zero, List.set_cons_succ, List.take_succ_cons, List.take_zero, List.take_nil, List.drop_succ_cons, List.drop_zero, List.drop_nil, List.append_nil, List.all_cons, List.all_nil, Bool.and_true, Bool.true_and, Bool.and_false, Bool.false_and, Nat.reduceAdd, Nat.zero_add, Nat.add_zero, Nat.reduceEqDiff, if_true, if_false, reduceIte]))
    | (show AW _ _ _ _ _ _ _ _; first | refine aw_region ?_ | (refine aw_seqk ?_; intro K hK) | refine aw_block ?_ | (apply aw_cond_t; exact rfl; exact rfl) | (apply aw_cond_t; exact rfl; exact (by assumption)) | refine aw_ret ?_ | refine aw_skip ?_)
    | refine thn_n ?_
    | (refine hK _ _ _ ?_; clear hK K)
    | refine thn_r ?_
    | refine inb_r ?_)); all_goals (repeat (clear hK K)))
      all_goals refine fin_r (fin_b rfl ?_)
      refine (bad ?_).symm
      have : decide (ap[i].length = ds.length) = false := by
        rw [hlm] at h1; simp at h1 ⊢; omega
      rw [rowB, hG, this]; rfl
    | false =>
    have hli : ap[i].length = ds.length := by rw [hlm] at h1; simp at h1; omega
    have hr2 : (ap[i].map inL)[((i : Int)).toNat]? = some (inL (ap[i].getD i 0)) := by
      have : i < ap[i].length := by omega
      simp [this, List.getD]
    rw [inL_eq] at hr2
    cases h3 : (ap[i].getD i 0 != 0) with
    | true =>
      ((repeat' (first
    | (show SQ _ _ _ _ _ _ _ _; first | apply sq_nil | (apply q_move; exact rfl; exact rfl) | (apply q_assign; exact rfl; exact rfl) | (apply q_pick_f; exact rfl; exact rfl; exact rfl; exact (by first | assumption | exact rfl)) | (apply q_fieldAddr; exact rfl; exact rfl; exact (ty rfl); exact rfl; exact rfl; exact rfl; exact rfl) | (apply q_nilc; exact rfl; exact rfl; exact rfl) | (apply q_not; exact rfl; exact rfl) | (apply q_lend; exact rfl; exact rfl; exact (ty rfl); exact rfl) | (apply q_neq; exact rfl; exact rfl; exact rfl) | (apply q_lss; exact rfl; exact rfl; exact rfl) | (apply q_ixd; exact rfl; exact rfl; exact rfl; exact (ty rfl); exact rfl; exact (by first | omega | (simp; done) | (simp; omega)); exact (by first | omega | (simp; done) | (simp; omega)); exact (by first | rfl | assumption)) | (apply q_ld1d; exact rfl; exact rfl; exact (ty rfl); exact rfl; exact rfl) | (apply q_g; exact rfl; exact rfl; exact rfl; exact (by assumption)) | (apply q_g; exact rfl; exact rfl; exact rfl; exact rfl))
    | (show SQ _ _ _ _ _ _ _ _; (first | (apply q_callU; exact rfl; exact rfl; exact rfl; exact FzL.of rfl; exact hD _)); (try simp only [put, rowsOf, plR, List.all_cons, selE, ovr, setH, del, cellsA, splice, isV, List.nil_append, List.cons_append, List.map_cons, List.map_nil, List.length_cons, List.length_nil, List.set_cons_zero, List.set_cons_succ, List.take_succ_cons, List.take_zero, List.take_nil, List.drop_succ_cons, List.drop_zero, List.drop_nil, List.append_nil, List.all_cons, List.all_nil, Bool.and_true, Bool.true_and, Bool.and_false, Bool.false_and, Nat.reduceAdd, Nat.zero_add, Nat.add_zero, Nat.reduceEqDiff, if_true, if_false, reduceIte]))
    | (show AW _ _ _ _ _ _ _ _; first | refine aw_region ?_ | (refine aw_seqk ?_; intro K hK) | refine aw_block ?_ | (apply aw_cond_t; exact rfl; exact (by assumption)) | refine aw_ret ?_ | refine aw_skip ?_)
    | refine thn_n ?_
    | (refine hK _ _ _ ?_; clear hK K)
    | refine thn_r ?_
    | refine inb_r ?_)); all_goals (repeat (clear hK K)))
      all_goals refine fin_r (fin_b rfl ?_)
      refine (bad ?_).symm
      have : (ap[i].getD i 0 == 0) = false := by simpa using h3
      rw [rowB, hG, this]; simp
    | false =>
    have h3' : (ap[i].getD i 0 == 0) = true := by simpa using h3
    ((repeat' (first
    | (show SQ _ _ _ _ _ _ _ _; first | apply sq_nil | (apply q_move; exact rfl; exact rfl) | (apply q_assign; exact rfl; exact rfl) | (apply q_pick_f; exact rfl; exact rfl; exact rfl; exact (by first | assumption | exact rfl)) | (apply q_fieldAddr; exact rfl; exact rfl; exact (ty rfl); exact rfl; exact rfl; exact rfl; exact rfl) | (apply q_nilc; exact rfl; exact rfl; exact rfl) | (apply q_not; exact rfl; exact rfl) | (apply q_lend; exact rfl; exact rfl; exact (ty rfl); exact rfl) | (apply q_neq; exact rfl; exact rfl; exact rfl) | (apply q_lss; exact rfl; exact rfl; exact rfl) | (apply q_ixd; exact rfl; exact rfl; exact rfl; exact (ty rfl); exact rfl; exact (by first | omega | (simp; done) | (simp; omega)); exact (by first | omega | (simp; done) | (simp; omega)); exact (by first | rfl | assumption)) | (apply q_ld1d; exact rfl; exact rfl; exact (ty rfl); exact rfl; exact rfl) | (apply q_g; exact rfl; exact rfl; exact rfl; exact (by assumption)) | (apply q_g; exact rfl; exact rfl; exact rfl; exact rfl))
    | (show SQ _ _ _ _ _ _ _ _; (first | (apply q_callU; exact rfl; exact rfl; exact rfl; exact FzL.of rfl; exact hD _)); (try simp only [put, rowsOf, plR, List.all_cons, selE, ovr, setH, del, cellsA, splice, isV, List.nil_append, List.cons_append, List.map_cons, List.map_nil, List.length_cons, List.length_nil, List.set_cons_zero, List.set_cons_succ, List.take_succ_cons, List.take_zero, List.take_nil, List.drop_succ_cons, List.drop_zero, List.drop_nil, List.append_nil, List.all_cons, List.all_nil, Bool.and_true, Bool.true_and, Bool.and_false, Bool.false_and, Nat.reduceAdd, Nat.zero_add, Nat.add_zero, Nat.reduceEqDiff, if_true, if_false, reduceIte]))
    | (show AW _ _ _ _ _ _ _ _; first | refine aw_region ?_ | (refine aw_seqk ?_; intro K hK) | refine aw_block ?_ | (apply aw_cond_t; exact rfl; exact (by assumption)) | (apply aw_cond_f; exact rfl; exact (by assumption)) | refine aw_skip ?_)
    | refine thn_n ?_
    | (refine hK _ _ _ ?_; clear hK K))); all_goals (repeat (clear hK K)))
    refine aw_loop (ρ := id) (ι := Nat) (fun k => ([(5, .v (.int .i64 k)), (4, .v (.int .i64 i)), (3, .v (.int .i64 ds.length)), (0, .dptr [.dsl 1 (nbL ds), .dsl 1 (nbL ap)])], [], 0))
      (fun k => k ≤ ds.length ∧ ∀ j, j < k → inB (ap[i].getD j 0) 0 100 = true ∧ (j < i → symB ap i j = true)) (fun k => ds.length - k) 0 ⟨Nat.zero_le _, fun j hj => absurd hj (Nat.not_lt_zero _)⟩ ⟨by (repeat (refine ⟨by first | exact lk_i rfl rfl | exact lk_p rfl rfl, ?_⟩)); exact trivial, by exact trivial, by rfl, by exact pin_0⟩ ?_
    rintro k ⟨hk, hgk⟩
    by_cases c2 : k < ds.length
    · have b4 : decide ((k : Int) < (ds.length : Int)) = true := by simpa using c2
      have hkl : k < ap.length := by omega
      have hrowk := nbL_get hkl
      have hGk : ap.getD k [] = ap[k] := by simp [List.getD, hkl]
      have hki : k < ap[i].length := by omega
      have hlmk : (ap[k].map inL).length = ap[k].length := List.length_map _
      have hrk1 : (ap[i].map inL)[((k : Int)).toNat]? = some (inL (ap[i].getD k 0)) := by simp [hki, List.getD]
      rw [inL_eq] at hrk1
      have hwk : IntKind.i64.wrap ((k : Int) + 1) = ((k + 1 : Nat) : Int) := by rw [IntWalk.i64_in _ (by omega)]; omega
      have hsy : symB ap i k = (ap[i].getD k 0 == ap[k].getD i 0) := by rw [symB, hG, hGk]
      have hin : (ap[i].getD k 0) ∈ ap[i] := by simp [List.getD, hki]
      cases h4 : inB (ap[i].getD k 0) 0 100 with
      | false =>
        have h4' : (!inB (ap[i].getD k 0) 0 100) = true := by rw [h4]; rfl
        ((repeat' (first
    | (show SQ _ _ _ _ _ _ _ _; first | apply sq_nil | (apply q_move; exact rfl; exact rfl) | (apply q_assign; exact rfl; exact rfl) | (apply q_lss; exact rfl; exact rfl; exact rfl))
    | (show DE _ _ _ _ _ _ _ _ _ _ _ _; first | (apply e_move; exact rfl; exact rfl; exact rfl) | (apply e_pick_t; exact rfl; exact rfl; exact rfl; exact (by first | assumption | exact rfl); exact rfl) | (apply e_fieldAddr; exact rfl; exact rfl; exact (ty rfl); exact rfl; exact rfl; exact rfl; exact rfl; exact rfl) | (apply e_nilc; exact rfl; exact rfl; exact rfl; exact rfl) | (apply e_not; exact rfl; exact rfl; exact rfl) | (apply e_ixd; exact rfl; exact rfl; exact rfl; exact (ty rfl); exact rfl; exact (by first | omega | (simp; done) | (simp; omega)); exact (by first | omega | (simp; done) | (simp; omega)); exact (by first | rfl | assumption); exact rfl) | (apply e_ld1d; exact rfl; exact rfl; exact (ty rfl); exact rfl; exact rfl; exact rfl) | (apply e_s; exact rfl; exact rfl; exact rfl; exact (by assumption); exact rfl) | (apply e_sU; exact rfl; exact rfl; exact rfl; exact rfl; exact rfl))
    | (show DE _ _ _ _ _ _ _ _ _ _ _ _; (first | (apply dr_nil; exact trivial) | (apply e_callU; exact rfl; exact rfl; exact rfl; exact FzL.of rfl; exact l00In_ro _ _ _ _; exact rfl)); (try simp only [put, rowsOf, plR, List.all_cons, selE, ovr, setH, del, cellsA, splice, isV, List.nil_append, List.cons_append, List.map_cons, List.map_nil, List.length_cons, List.length_nil, List.set_cons_zero, List.set_cons_succ, List.take_succ_cons, List.take_zero, List.take_nil, List.drop_succ_cons, List.drop_zero, List.drop_nil, List.append_nil, List.all_cons, List.all_nil, Bool.and_true, Bool.true_and, Bool.and_false, Bool.false_and, Nat.reduceAdd, Nat.zero_add, Nat.add_zero, Nat.reduceEqDiff, if_true, if_false, reduceIte]))
    | (show AW _ _ _ _ _ _ _ _; first | refine aw_region ?_ | (refine aw_seqk ?_; intro K hK) | refine aw_block ?_ | (apply aw_cond_t; exact rfl; exact rfl) | (apply aw_cond_t; exact rfl; exact (by assumption)) | refine aw_ret ?_ | refine aw_skip ?_ | refine aw_drawE (id := 12) [0, 1, 3, 7, 0, 31, 63, 0, 255, 511, 1023, 2047, 4095, 8191, 8191, 32767, 65535, 131071, 262143, 524287, 1048575, 131071, 4194303, 8388607, 131071, 33554431, 67108863, 131071, 134348799, 402784255, 939655167, 131071, 4160880639, 8455847935, 131071, 34225651711, 68585390079, 137438953471, 274877906943, 549755813887] [0, 0, 0, 1, 0, 0, 1, 0, 0, 1, 1, 0, 0, 0, 0, 0, 0, 0, 0, 0, 1, 0, 0, 1, 0, 0, 1, 0, 0, 0, 1, 0, 0, 1, 0, 0, 1, 0, 0, 0] mixed (by kernel_rfl) ?_)
    | refine thn_n ?_
    | (refine hK _ _ _ ?_; clear hK K)
    | refine thn_r ?_
    | refine inb_r ?_)); all_goals (repeat (clear hK K)))
        all_goals refine fin_r (fin_b rfl ?_)
        refine (bad ?_).symm
        have : (ap[i].any fun x => !inB x 0 100) = true := List.any_eq_true.2 ⟨_, hin, h4'⟩
        rw [rowB, hG, this]; simp
      | true =>
        have h4' : (!inB (ap[i].getD k 0) 0 100) = false := by rw [h4]; rfl
        by_cases c5 : k < i
        · have b5 : decide ((k : Int) < (i : Int)) = true := by simpa using c5
          have hlk : ap[k].length = ds.length := by
            have := (hg k c5).1
            simp only [rowB, Bool.and_eq_true, decide_eq_true_eq, hGk] at this
            exact this.1.1.1
          have hrk2 : (ap[k].map inL)[((i : Int)).toNat]? = some (inL (ap[k].getD i 0)) := by
            have : i < ap[k].length := by omega
            simp [this, List.getD]
          rw [inL_eq] at hrk2
          cases h6 : (ap[k].getD i 0 != ap[i].getD k 0) with
          | true =>
            ((repeat' (first
    | (show SQ _ _ _ _ _ _ _ _; first | apply sq_nil | (apply q_move; exact rfl; exact rfl) | (apply q_assign; exact rfl; exact rfl) | (apply q_lss; exact rfl; exact rfl; exact rfl))
    | (show DE _ _ _ _ _ _ _ _ _ _ _ _; first | (apply e_move; exact rfl; exact rfl; exact rfl) | (apply e_pick_t; exact rfl; exact rfl; exact rfl; exact (by first | assumption | exact rfl); exact rfl) | (apply e_pick_f; exact rfl; exact rfl; exact rfl; exact (by first | assumption | exact rfl); exact rfl) | (apply e_fieldAddr; exact rfl; exact rfl; exact (ty rfl); exact rfl; exact rfl; exact rfl; exact rfl; exact rfl) | (apply e_nilc; exact rfl; exact rfl; exact rfl; exact rfl) | (apply e_not; exact rfl; exact rfl; exact rfl) | (apply e_neq; exact rfl; exact rfl; exact rfl; exact rfl) | (apply e_lss; exact rfl; exact rfl; exact rfl; exact rfl) | (apply e_ixd; exact rfl; exact rfl; exact rfl; exact (ty rfl); exact rfl; exact (by first | omega | (simp; done) | (simp; omega)); exact (by first | omega | (simp; done) | (simp; omega)); exact (by first | rfl | assumption); exact rfl) | (apply e_ld1d; exact rfl; exact rfl; exact (ty rfl); exact rfl; exact rfl; exact rfl) | (apply e_g; exact rfl; exact rfl; exact rfl; exact (by assumption)))
    | (show DE _ _ _ _ _ _ _ _ _ _ _ _; (first | (apply dr_nil; exact trivial) | (apply e_callU; exact rfl; exact rfl; exact rfl; exact FzL.of rfl; exact l00In_ro _ _ _ _; exact rfl)); (try simp only [put, rowsOf, plR, List.all_cons, selE, ovr, setH, del, cellsA, splice, isV, List.nil_append, List.cons_append, List.map_cons, List.map_nil, List.length_cons, List.length_nil, List.set_cons_zero, List.set_cons_succ, List.take_succ_cons, List.take_zero, List.take_nil, List.drop_succ_cons, List.drop_zero, List.drop_nil, List.append_nil, List.all_cons, List.all_nil, Bool.and_true, Bool.true_and, Bool.and_false, Bool.false_and, Nat.reduceAdd, Nat.zero_add, Nat.add_zero, Nat.reduceEqDiff, if_true, if_false, reduceIte]))
    | (show AW _ _ _ _ _ _ _ _; first | refine aw_region ?_ | (refine aw_seqk ?_; intro K hK) | refine aw_block ?_ | (apply aw_cond_t; exact rfl; exact (by assumption)) | refine aw_ret ?_ | refine aw_skip ?_ | refine aw_drawE (id := 12) [0, 1, 3, 7, 0, 31, 63, 0, 255, 511, 1023, 2047, 4095, 8191, 8191, 32767, 65535, 131071, 262143, 524287, 1048575, 131071, 4194303, 8388607, 131071, 33554431, 67108863, 131071, 134348799, 402784255, 939655167, 131071, 4160880639, 8455847935, 131071, 34225651711, 68585390079, 137438953471, 274877906943, 549755813887] [0, 0, 0, 1, 0, 0, 1, 0, 0, 1, 1, 0, 0, 0, 0, 0, 0, 0, 0, 0, 1, 0, 0, 1, 0, 0, 1, 0, 0, 0, 1, 0, 0, 1, 0, 0, 1, 0, 0, 0] mixed (by kernel_rfl) ?_)
    | refine thn_n ?_
    | (refine hK _ _ _ ?_; clear hK K)
    | refine thn_r ?_
    | refine inb_r ?_)); all_goals (repeat (clear hK K)))
            all_goals refine fin_r (fin_b rfl ?_)
            refine (bad ?_).symm
            have e1 : symB ap i k = false := by
              rw [hsy]
              simp at h6 ⊢
              exact fun e => h6 e.symm
            have : (List.range i).all (symB ap i) = false := by
              rw [← Bool.not_eq_true, List.all_eq_true]
              intro hh
              rw [hh k (List.mem_range.2 c5)] at e1; cases e1
            rw [rowB, this, Bool.and_false]
          | false =>
            have e1 : symB ap i k = true := by rw [hsy]; simp at h6 ⊢; exact h6.symm
            ((repeat' (first
    | (show SQ _ _ _ _ _ _ _ _; first | apply sq_nil | (apply q_move; exact rfl; exact rfl) | (apply q_assign; exact rfl; exact rfl) | (apply q_add; exact rfl; exact rfl; exact rfl) | (apply q_lss; exact rfl; exact rfl; exact rfl))
    | (show DE _ _ _ _ _ _ _ _ _ _ _ _; first | (apply e_move; exact rfl; exact rfl; exact rfl) | (apply e_pick_t; exact rfl; exact rfl; exact rfl; exact (by first | assumption | exact rfl); exact rfl) | (apply e_pick_f; exact rfl; exact rfl; exact rfl; exact (by first | assumption | exact rfl); exact rfl) | (apply e_fieldAddr; exact rfl; exact rfl; exact (ty rfl); exact rfl; exact rfl; exact rfl; exact rfl; exact rfl) | (apply e_nilc; exact rfl; exact rfl; exact rfl; exact rfl) | (apply e_not; exact rfl; exact rfl; exact rfl) | (apply e_neq; exact rfl; exact rfl; exact rfl; exact rfl) | (apply e_lss; exact rfl; exact rfl; exact rfl; exact rfl) | (apply e_ixd; exact rfl; exact rfl; exact rfl; exact (ty rfl); exact rfl; exact (by first | omega | (simp; done) | (simp; omega)); exact (by first | omega | (simp; done) | (simp; omega)); exact (by first | rfl | assumption); exact rfl) | (apply e_ld1d; exact rfl; exact rfl; exact (ty rfl); exact rfl; exact rfl; exact rfl) | (apply e_g; exact rfl; exact rfl; exact rfl; exact (by assumption)))
    | (show DE _ _ _ _ _ _ _ _ _ _ _ _; (first | (apply dr_nil; exact trivial) | (apply e_callU; exact rfl; exact rfl; exact rfl; exact FzL.of rfl; exact l00In_ro _ _ _ _; exact rfl)); (try simp only [put, rowsOf, plR, List.all_cons, selE, ovr, setH, del, cellsA, splice, isV, List.nil_append, List.cons_append, List.map_cons, List.map_nil, List.length_cons, List.length_nil, List.set_cons_zero, List.set_cons_succ, List.take_succ_cons, List.take_zero, List.take_nil, List.drop_succ_cons, List.drop_zero, List.drop_nil, List.append_nil, List.all_cons, List.all_nil, Bool.and_true, Bool.true_and, Bool.and_false, Bool.false_and, Nat.reduceAdd, Nat.zero_add, Nat.add_zero, Nat.reduceEqDiff, if_true, if_false, reduceIte]))
    | (show AW _ _ _ _ _ _ _ _; first | refine aw_region ?_ | (refine aw_seqk ?_; intro K hK) | refine aw_block ?_ | (apply aw_cond_t; exact rfl; exact (by assumption)) | (apply aw_cond_f; exact rfl; exact (by assumption)) | refine aw_skip ?_ | refine aw_drawE (id := 12) [0, 1, 3, 7, 0, 31, 63, 0, 255, 511, 1023, 2047, 4095, 8191, 8191, 32767, 65535, 131071, 262143, 524287, 1048575, 131071, 4194303, 8388607, 131071, 33554431, 67108863, 131071, 134348799, 402784255, 939655167, 131071, 4160880639, 8455847935, 131071, 34225651711, 68585390079, 137438953471, 274877906943, 549755813887] [0, 0, 0, 1, 0, 0, 1, 0, 0, 1, 1, 0, 0, 0, 0, 0, 0, 0, 0, 0, 1, 0, 0, 1, 0, 0, 1, 0, 0, 0, 1, 0, 0, 1, 0, 0, 1, 0, 0, 0] mixed (by kernel_rfl) ?_)
    | refine thn_n ?_
    | (refine hK _ _ _ ?_; clear hK K)
    | refine inb_n ?_)); all_goals (repeat (clear hK K)))
            all_goals (refine ⟨k + 1, id, ⟨c2, fun j hj => ?_⟩, by omega, ?_⟩)
            · by_cases hjq : j < k
              · exact hgk j hjq
              · obtain rfl : j = k := by omega
                exact ⟨h4, fun _ => e1⟩
            · (try dsimp only); rw [← hwk]; exact ⟨by (repeat (refine ⟨by first | exact lk_i rfl rfl | exact lk_p rfl rfl, ?_⟩)); exact trivial, by exact trivial, by rfl, by exact pin_0⟩
        · have b5 : decide ((k : Int) < (i : Int)) = false := by simpa using c5
          ((repeat' (first
    | (show SQ _ _ _ _ _ _ _ _; first | apply sq_nil | (apply q_move; exact rfl; exact rfl) | (apply q_assign; exact rfl; exact rfl) | (apply q_add; exact rfl; exact rfl; exact rfl) | (apply q_lss; exact rfl; exact rfl; exact rfl))
    | (show DE _ _ _ _ _ _ _ _ _ _ _ _; first | (apply e_move; exact rfl; exact rfl; exact rfl) | (apply e_pick_f; exact rfl; exact rfl; exact rfl; exact (by first | assumption | exact rfl); exact rfl) | (apply e_fieldAddr; exact rfl; exact rfl; exact (ty rfl); exact rfl; exact rfl; exact rfl; exact rfl; exact rfl) | (apply e_nilc; exact rfl; exact rfl; exact rfl; exact rfl) | (apply e_not; exact rfl; exact rfl; exact rfl) | (apply e_lss; exact rfl; exact rfl; exact rfl; exact rfl) | (apply e_ixd; exact rfl; exact rfl; exact rfl; exact (ty rfl); exact rfl; exact (by first | omega | (simp; done) | (simp; omega)); exact (by first | omega | (simp; done) | (simp; omega)); exact (by first | rfl | assumption); exact rfl) | (apply e_ld1d; exact rfl; exact rfl; exact (ty rfl); exact rfl; exact rfl; exact rfl) | (apply e_g; exact rfl; exact rfl; exact rfl; exact (by assumption)) | (apply e_s; exact rfl; exact rfl; exact rfl; exact (by assumption); exact rfl))
    | (show DE _ _ _ _ _ _ _ _ _ _ _ _; (first | (apply dr_nil; exact trivial) | (apply e_callU; exact rfl; exact rfl; exact rfl; exact FzL.of rfl; exact l00In_ro _ _ _ _; exact rfl)); (try simp only [put, rowsOf, plR, List.all_cons, selE, ovr, setH, del, cellsA, splice, isV, List.nil_append, List.cons_append, List.map_cons, List.map_nil, List.length_cons, List.length_nil, List.set_cons_zero, List.set_cons_succ, List.take_succ_cons, List.take_zero, List.take_nil, List.drop_succ_cons, List.drop_zero, List.drop_nil, List.append_nil, List.all_cons, List.all_nil, Bool.and_true, Bool.true_and, Bool.and_false, Bool.false_and, Nat.reduceAdd, Nat.zero_add, Nat.add_zero, Nat.reduceEqDiff, if_true, if_false, reduceIte]))
    | (show AW _ _ _ _ _ _ _ _; first | refine aw_region ?_ | (refine aw_seqk ?_; intro K hK) | refine aw_block ?_ | (apply aw_cond_f; exact rfl; exact rfl) | (apply aw_cond_t; exact rfl; exact (by assumption)) | refine aw_skip ?_ | refine aw_drawE (id := 12) [0, 1, 3, 7, 0, 31, 63, 0, 255, 511, 1023, 2047, 4095, 8191, 8191, 32767, 65535, 131071, 262143, 524287, 1048575, 131071, 4194303, 8388607, 131071, 33554431, 67108863, 131071, 134348799, 402784255, 939655167, 131071, 4160880639, 8455847935, 131071, 34225651711, 68585390079, 137438953471, 274877906943, 549755813887] [0, 0, 0, 1, 0, 0, 1, 0, 0, 1, 1, 0, 0, 0, 0, 0, 0, 0, 0, 0, 1, 0, 0, 1, 0, 0, 1, 0, 0, 0, 1, 0, 0, 1, 0, 0, 1, 0, 0, 0] mixed (by kernel_rfl) ?_)
    | refine thn_n ?_
    | (refine hK _ _ _ ?_; clear hK K)
    | refine inb_n ?_)); all_goals (repeat (clear hK K)))
          all_goals (refine ⟨k + 1, id, ⟨c2, fun j hj => ?_⟩, by omega, ?_⟩)
          · by_cases hjq : j < k
            · exact hgk j hjq
            · obtain rfl : j = k := by omega
              exact ⟨h4, fun h => absurd h c5⟩
          · (try dsimp only); rw [← hwk]; exact ⟨by (repeat (refine ⟨by first | exact lk_i rfl rfl | exact lk_p rfl rfl, ?_⟩)); exact trivial, by exact trivial, by rfl, by exact pin_0⟩
    · have b4 : decide ((k : Int) < (ds.length : Int)) = false := by simpa using c2
      ((repeat' (first
    | (show SQ _ _ _ _ _ _ _ _; first | apply sq_nil | (apply q_move; exact rfl; exact rfl) | (apply q_assign; exact rfl; exact rfl) | (apply q_add; exact rfl; exact rfl; exact rfl) | (apply q_lss; exact rfl; exact rfl; exact rfl))
    | (show AW _ _ _ _ _ _ _ _; first | refine aw_region ?_ | (refine aw_seqk ?_; intro K hK) | (apply aw_cond_f; exact rfl; exact (by assumption)) | refine aw_exit ?_)
    | refine thn_n ?_
    | (refine hK _ _ _ ?_; clear hK K)
    | refine thn_e ?_
    | refine inb_same ?_
    | refine inb_n ?_
    | (clear hK K; refine hK _ _ _ ?_; clear hK K))); all_goals (repeat (clear hK K)))
      all_goals (refine ⟨i + 1, id, ⟨c1, fun j hj => ?_⟩, by omega, ?_⟩)
      · by_cases hjq : j < i
        · exact hg j hjq
        · obtain rfl : j = i := by omega
          have e1 : (List.range j).all (symB ap j) = true := List.all_eq_true.2 fun q hq => (hgk q (by have := List.mem_range.1 hq; omega)).2 (List.mem_range.1 hq)
          have e2 : (ap[j].any fun x => !inB x 0 100) = false := List.any_eq_false.2 fun x hx => by
            obtain ⟨q, hq, rfl⟩ := List.getElem_of_mem hx
            have := (hgk q (by omega)).1
            simp only [List.getD, List.getElem?_eq_getElem hq, Option.getD_some] at this
            rw [this]; simp
          exact ⟨by rw [rowB, hG, e1, e2, h3']; simp; omega, by rw [hGd]; exact h0⟩
      · (try dsimp only); rw [← hw]; exact ⟨by (repeat (refine ⟨by first | exact lk_i rfl rfl | exact lk_p rfl rfl, ?_⟩)); exact trivial, by exact trivial, by rfl, by exact pin_0⟩
  · have b3 : decide ((i : Int) < (ds.length : Int)) = false := by simpa using c1
    ((repeat' (first
    | (show SQ _ _ _ _ _ _ _ _; first | apply sq_nil | (apply q_move; exact rfl; exact rfl) | (apply q_assign; exact rfl; exact rfl) | (apply q_lss; exact rfl; exact rfl; exact rfl))
    | (show AW _ _ _ _ _ _ _ _; first | refine aw_region ?_ | (refine aw_seqk ?_; intro K hK) | (apply aw_cond_f; exact rfl; exact (by assumption)) | refine aw_ret ?_ | refine aw_exit ?_)
    | refine thn_n ?_
    | (refine hK _ _ _ ?_; clear hK K)
    | refine thn_e ?_
    | refine inb_same ?_
    | (clear hK K; refine hK _ _ _ ?_; clear hK K))); all_goals (repeat (clear hK K)))
    all_goals refine fin_r (fin_b rfl ?_)
    have e1 : (List.range ap.length).all (rowB ds.length ap) = true := List.all_eq_true.2 fun q hq => (hg q (by have := List.mem_range.1 hq; omega)).1
    have e2 : (ds.any fun d => !domB d) = false := List.any_eq_false.2 fun x hx => by
      obtain ⟨q, hq, rfl⟩ := List.getElem_of_mem hx
      have := (hg q (by omega)).2
      simp only [List.getD, List.getElem?_eq_getElem hq, Option.getD_some] at this
      rw [this]; simp
    have e3 : decide (1 ≤ ds.length) = true := by rw [decide_eq_true_eq]; omega
    have e4 : decide (ds.length ≤ 24) = true := by simp; omega
    rw [prB, e1, domsB, e2, e3, e4, hlen]; simp
set_option maxHeartbeats 4000000 in
theorem specValidProblem_ro (ds ap : List (List Int)) (hS : NbS ds) (hA : NbS ap) (k : Nat) : RO Try.prog 62 [.agg [.dsl 1 (nbL ds), .dsl 1 (nbL ap)]] k (.v (.bool (prB ds ap))) [] k := by
  have hO := l17Ok_ro ds ap hS hA
  refine RO.ofv' Try.func62 Try.ntmps62 rfl (goFn_of Try.func62 rfl (by kernel_rfl)) rfl rfl ?_
  ((repeat' (first
    | (show SQ _ _ _ _ _ _ _ _; apply sq_frzp (t := 1); exact rfl; exact rfl; exact (by first | rfl | exact all_noOwn_map (fun _ => rfl) | assumption | exact hclo); exact (by first | rfl | assumption); exact rfl; (try simp only [put, rowsOf, plR, List.all_cons, selE, ovr, setH, del, cellsA, splice, isV, List.nil_append, List.cons_append, List.map_cons, List.map_nil, List.length_cons, List.length_nil, List.set_cons_zero, List.set_cons_succ, List.take_succ_cons, List.take_zero, List.take_nil, List.drop_succ_cons, List.drop_zero, List.drop_nil, List.append_nil, List.all_cons, List.all_nil, Bool.and_true, Bool.true_and, Bool.and_false, Bool.false_and, Nat.reduceAdd, Nat.zero_add, Nat.add_zero, Nat.reduceEqDiff, if_true, if_false, reduceIte]))
    | (show SQ _ _ _ _ _ _ _ _; first | apply sq_nil | (apply q_assign; exact rfl; exact rfl))
    | (show SQ _ _ _ _ _ _ _ _; (first | (apply q_box; exact rfl; exact rfl; exact rfl) | (apply q_callU; exact rfl; exact rfl; exact rfl; exact FzL.of rfl; exact hO _)); (try simp only [put, rowsOf, plR, List.all_cons, selE, ovr, setH, del, cellsA, splice, isV, List.nil_append, List.cons_append, List.map_cons, List.map_nil, List.length_cons, List.length_nil, List.set_cons_zero, List.set_cons_succ, List.take_succ_cons, List.take_zero, List.take_nil, List.drop_succ_cons, List.drop_zero, List.drop_nil, List.append_nil, List.all_cons, List.all_nil, Bool.and_true, Bool.true_and, Bool.and_false, Bool.false_and, Nat.reduceAdd, Nat.zero_add, Nat.add_zero, Nat.reduceEqDiff, if_true, if_false, reduceIte]))
    | (show AW _ _ _ _ _ _ _ _; first | refine aw_region ?_ | (refine aw_seqk ?_; intro K hK) | refine aw_ret ?_)
    | refine thn_n ?_
    | (refine hK _ _ _ ?_; clear hK K))); all_goals (repeat (clear hK K)))
  all_goals exact fin_r (fin_b rfl rfl)
end Go.Proofs.Yteknfaldpajlpaa.Nb

namespace Go.Proofs.Yteknfaldpajlpaa.Nb
open Go Go.RowKit Go.Proofs.Yteknfaldpajlpaa.Aw Go.Proofs.Yteknfaldpajlpaa.In Go.Proofs.Yteknfaldpajlpaa.Il
set_option linter.unusedSimpArgs false
set_option linter.unusedVariables false
set_option linter.unusedSectionVars false
attribute [local irreducible] AW SQ Step RO RC DE Thn InB
set_option maxHeartbeats 4000000 in
theorem abs_ro (x : Int) (h0 : -1000000 ≤ x) (h1 : x ≤ 1000000) (k : Nat) : RO Try.prog 102 [.v (.int .i64 x)] k (.v (.int .i64 (max x (-x)))) [] k := by
  have hw : IntKind.i64.wrap (0 - x) = -x := by rw [IntWalk.i64_in _ (by omega)]; omega
  refine RO.ofv' Try.func102 Try.ntmps102 rfl (goFn_of Try.func102 rfl (by kernel_rfl)) rfl rfl ?_
  ((repeat' (first
    | (show SQ _ _ _ _ _ _ _ _; first | apply sq_nil | (apply q_move; exact rfl; exact rfl) | (apply q_assign; exact rfl; exact rfl) | (apply q_neg; exact rfl; exact rfl) | (apply q_max; exact rfl; exact rfl; exact rfl))
    | (show AW _ _ _ _ _ _ _ _; first | refine aw_region ?_ | (refine aw_seqk ?_; intro K hK) | refine aw_ret ?_)
    | refine thn_n ?_
    | (refine hK _ _ _ ?_; clear hK K))); all_goals (repeat (clear hK K)))
  all_goals refine fin_r (fin_i rfl ?_)
  rw [hw, mxI]
  split <;> omega
def cfl (ap : List (List Int)) (list : List Int) (item : Nat) (ch : Int) (i : Nat) : Bool := decide (i ≠ item) && decide (max (ch - list.getD i 0) (-(ch - list.getD i 0)) < (ap.getD item []).getD i 0)
def cfN (ap : List (List Int)) (list : List Int) (item : Nat) (ch : Int) (i : Nat) : Nat := (List.range i).countP (cfl ap list item ch)
theorem cfN_succ (ap : List (List Int)) (list : List Int) (item : Nat) (ch : Int) (i : Nat) : cfN ap list item ch (i + 1) = cfN ap list item ch i + (if cfl ap list item ch i then 1 else 0) := by
  unfold cfN
  rw [List.range_succ, List.countP_append, List.countP_singleton]
theorem cfN_le (ap : List (List Int)) (list : List Int) (item : Nat) (ch : Int) (i : Nat) : cfN ap list item ch i ≤ i := by
  have := List.countP_le_length (p := cfl ap list item ch) (l := List.range i)
  simpa [cfN] using this
set_option maxHeartbeats 4000000 in
theorem conflicts_ro (ds ap : List (List Int)) (list : List Int) (item : Nat) (ch : Int) (hA : NbS ap) (hit : item < ap.length) (hl : list.length ≤ (ap.getD item []).length) (hl2 : list.length ≤ 1000) (hc : 0 ≤ ch ∧ ch ≤ 999) (hv : ∀ x ∈ list, 0 ≤ x ∧ x ≤ 999) (k : Nat) :
    RO Try.prog 103 [.agg [.dsl 1 (nbL ds), .dsl 1 (nbL ap)], .dsl 1 (list.map inL), .v (.int .i64 item), .v (.int .i64 ch)] k (.v (.int .i64 (cfN ap list item ch list.length))) [] k := by
  have hal := nbL_len ap
  have hna := hA.n
  have hml : (list.map inL).length = list.length := List.length_map _
  have hrow := nbL_get hit
  have hG : ap.getD item [] = ap[item] := by simp [List.getD, hit]
  rw [hG] at hl
  have hlm : (ap[item].map inL).length = ap[item].length := List.length_map _
  refine RO.ofv' Try.func103 Try.ntmps103 rfl (goFn_of Try.func103 rfl (by kernel_rfl)) rfl rfl ?_
  ((repeat' (first
    | (show SQ _ _ _ _ _ _ _ _; apply sq_frzp (t := 4); exact rfl; exact rfl; exact (by first | rfl | exact all_noOwn_map (fun _ => rfl) | assumption | exact hclo); exact (by first | rfl | assumption); exact rfl; (try simp only [put, rowsOf, plR, List.all_cons, selE, ovr, setH, del, cellsA, splice, isV, List.nil_append, List.cons_append, List.map_cons, List.map_nil, List.length_cons, List.length_nil, List.set_cons_zero, List.set_cons_succ, List.take_succ_cons, List.take_zero, List.take_nil, List.drop_succ_cons, List.drop_zero, List.drop_nil, List.append_nil, List.all_cons, List.all_nil, Bool.and_true, Bool.true_and, Bool.and_false, Bool.false_and, Nat.reduceAdd, Nat.zero_add, Nat.add_zero, Nat.reduceEqDiff, if_true, if_false, reduceIte]))
    | (show SQ _ _ _ _ _ _ _ _; first | apply sq_nil | (apply q_move; exact rfl; exact rfl) | (apply q_assign; exact rfl; exact rfl) | (apply q_lend; exact rfl; exact rfl; exact (ty rfl); exact rfl))
    | (show SQ _ _ _ _ _ _ _ _; (first | (apply q_box; exact rfl; exact rfl; exact rfl)); (try simp only [put, rowsOf, plR, List.all_cons, selE, ovr, setH, del, cellsA, splice, isV, List.nil_append, List.cons_append, List.map_cons, List.map_nil, List.length_cons, List.length_nil, List.set_cons_zero, List.set_cons_succ, List.take_succ_cons, List.take_zero, List.take_nil, List.drop_succ_cons, List.drop_zero, List.drop_nil, List.append_nil, List.all_cons, List.all_nil, Bool.and_true, Bool.true_and, Bool.and_false, Bool.false_and, Nat.reduceAdd, Nat.zero_add, Nat.add_zero, Nat.reduceEqDiff, if_true, if_false, reduceIte]))
    | (show AW _ _ _ _ _ _ _ _; first | refine aw_region ?_ | (refine aw_seqk ?_; intro K hK) | refine aw_block ?_)
    | refine thn_n ?_
    | (refine hK _ _ _ ?_; clear hK K))); all_goals (repeat (clear hK K)))
  refine aw_loop (ρ := id) (ι := Nat) (fun i => ([(14, .v (.int .i64 i)), (13, .v (.int .i64 list.length)), (12, .dsl 1 (list.map inL)), (9, .v (.int .i64 (cfN ap list item ch i))), (4, .dptr [.dsl 1 (nbL ds), .dsl 1 (nbL ap)]), (3, .v (.int .i64 ch)), (2, .v (.int .i64 item))], [], 1))
    (fun i => i ≤ list.length) (fun i => list.length - i) 0 (Nat.zero_le _) ⟨by (repeat (refine ⟨by first | exact lk_i rfl rfl | exact lk_i rfl (by (try dsimp only); first | rfl | omega | (rw [IntWalk.i64_in _ (by omega)]; first | rfl | omega | (push_cast; omega)) | (simp; done) | (simp; omega)) | exact lk_d rfl rfl | exact lk_p rfl rfl, ?_⟩)); exact trivial, by exact trivial, by rfl, by exact pin_0⟩ ?_
  intro i hi
  have hle := cfN_le ap list item ch i
  have hsu := cfN_succ ap list item ch i
  by_cases c1 : i < list.length
  · have b1 : decide ((i : Int) < (list.length : Int)) = true := by simpa using c1
    have hr1 : (list.map inL)[((i : Int)).toNat]? = some (inL list[i]) := by simp [c1]
    rw [inL_eq] at hr1
    have hD : list.getD i 0 = list[i] := by simp [List.getD, c1]
    have hii : i < ap[item].length := by omega
    have hr2 : (ap[item].map inL)[((i : Int)).toNat]? = some (inL (ap[item].getD i 0)) := by simp [hii, List.getD]
    rw [inL_eq] at hr2
    have hv1 := hv _ (List.getElem_mem c1)
    have hw : IntKind.i64.wrap ((i : Int) + 1) = ((i + 1 : Nat) : Int) := by rw [IntWalk.i64_in _ (by omega)]; omega
    have hwd : IntKind.i64.wrap (ch - list[i]) = ch - list[i] := IntWalk.i64_in _ (by omega)
    have hAb := abs_ro (IntKind.i64.wrap (ch - list[i])) (by rw [hwd]; omega) (by rw [hwd]; omega)
    rw [show max (IntKind.i64.wrap (ch - list[i])) (-IntKind.i64.wrap (ch - list[i])) = max (ch - list[i]) (-(ch - list[i])) by rw [hwd]] at hAb
    have hcf : cfl ap list item ch i = (decide (i ≠ item) && decide (max (ch - list[i]) (-(ch - list[i])) < ap[item].getD i 0)) := by rw [cfl, hD, hG]
    by_cases c2 : i = item
    · have b2 : ((i : Int) != (item : Int)) = false := by simp; omega
      have e : cfl ap list item ch i = false := by rw [hcf]; simp [c2]
      rw [e] at hsu
      ((repeat' (first
    | (show SQ _ _ _ _ _ _ _ _; first | apply sq_nil | (apply q_move; exact rfl; exact rfl) | (apply q_assign; exact rfl; exact rfl) | (apply q_add; exact rfl; exact rfl; exact rfl) | (apply q_lss; exact rfl; exact rfl; exact rfl) | (apply q_ixd; exact rfl; exact rfl; exact rfl; exact (ty rfl); exact rfl; exact (by first | omega | (simp; done) | (simp; omega)); exact (by first | omega | (simp; done) | (simp; omega)); exact (by first | rfl | assumption)) | (apply q_ld1d; exact rfl; exact rfl; exact (ty rfl); exact rfl; exact rfl))
    | (show DE _ _ _ _ _ _ _ _ _ _ _ _; first | (apply e_move; exact rfl; exact rfl; exact rfl) | (apply e_pick_f; exact rfl; exact rfl; exact rfl; exact (by first | assumption | exact rfl); exact rfl) | (apply e_neq; exact rfl; exact rfl; exact rfl; exact rfl) | (apply e_s; exact rfl; exact rfl; exact rfl; exact (by assumption); exact rfl))
    | (show DE _ _ _ _ _ _ _ _ _ _ _ _; (first | (apply dr_nil; exact trivial)); (try simp only [put, rowsOf, plR, List.all_cons, selE, ovr, setH, del, cellsA, splice, isV, List.nil_append, List.cons_append, List.map_cons, List.map_nil, List.length_cons, List.length_nil, List.set_cons_zero, List.set_cons_succ, List.take_succ_cons, List.take_zero, List.take_nil, List.drop_succ_cons, List.drop_zero, List.drop_nil, List.append_nil, List.all_cons, List.all_nil, Bool.and_true, Bool.true_and, Bool.and_false, Bool.false_and, Nat.reduceAdd, Nat.zero_add, Nat.add_zero, Nat.reduceEqDiff, if_true, if_false, reduceIte]))
    | (show AW _ _ _ _ _ _ _ _; first | refine aw_region ?_ | (refine aw_seqk ?_; intro K hK) | refine aw_block ?_ | (apply aw_cond_f; exact rfl; exact rfl) | (apply aw_cond_t; exact rfl; exact (by assumption)) | refine aw_skip ?_ | refine aw_drawE (id := 5) [0, 0, 3, 7, 15, 15, 63, 127, 15, 271, 15, 1807, 3855, 15, 16143, 32527, 65535, 131071] [0, 0, 0, 0, 0, 0, 0, 1, 0, 1, 0, 0, 1, 0, 0, 1, 0, 0] mixed (by kernel_rfl) ?_)
    | refine thn_n ?_
    | (refine hK _ _ _ ?_; clear hK K)
    | refine inb_n ?_)); all_goals (repeat (clear hK K)))
      all_goals (refine ⟨i + 1, id, c1, by omega, ?_⟩; (try dsimp only); rw [hsu, ← hw]; exact ⟨by (repeat (refine ⟨by first | exact lk_i rfl rfl | exact lk_d rfl rfl | exact lk_p rfl rfl, ?_⟩)); exact trivial, by exact trivial, by rfl, by exact pin_0⟩)
    · have b2 : ((i : Int) != (item : Int)) = true := by simp; omega
      cases b3 : decide (max (ch - list[i]) (-(ch - list[i])) < ap[item].getD i 0) with
      | false =>
        have e : cfl ap list item ch i = false := by rw [hcf, b3, Bool.and_false]
        rw [e] at hsu
        ((repeat' (first
    | (show SQ _ _ _ _ _ _ _ _; first | apply sq_nil | (apply q_move; exact rfl; exact rfl) | (apply q_assign; exact rfl; exact rfl) | (apply q_add; exact rfl; exact rfl; exact rfl) | (apply q_lss; exact rfl; exact rfl; exact rfl) | (apply q_ixd; exact rfl; exact rfl; exact rfl; exact (ty rfl); exact rfl; exact (by first | omega | (simp; done) | (simp; omega)); exact (by first | omega | (simp; done) | (simp; omega)); exact (by first | rfl | assumption)) | (apply q_ld1d; exact rfl; exact rfl; exact (ty rfl); exact rfl; exact rfl))
    | (show DE _ _ _ _ _ _ _ _ _ _ _ _; first | (apply e_move; exact rfl; exact rfl; exact rfl) | (apply e_pick_t; exact rfl; exact rfl; exact rfl; exact (by first | assumption | exact rfl); exact rfl) | (apply e_fieldAddr; exact rfl; exact rfl; exact (ty rfl); exact rfl; exact rfl; exact rfl; exact rfl; exact rfl) | (apply e_sub; exact rfl; exact rfl; exact rfl; exact rfl) | (apply e_neq; exact rfl; exact rfl; exact rfl; exact rfl) | (apply e_lss; exact rfl; exact rfl; exact rfl; exact rfl) | (apply e_ixd; exact rfl; exact rfl; exact rfl; exact (ty rfl); exact rfl; exact (by first | omega | (simp; done) | (simp; omega)); exact (by first | omega | (simp; done) | (simp; omega)); exact (by first | rfl | assumption); exact rfl) | (apply e_ld1d; exact rfl; exact rfl; exact (ty rfl); exact rfl; exact rfl; exact rfl) | (apply e_g; exact rfl; exact rfl; exact rfl; exact (by assumption)))
    | (show DE _ _ _ _ _ _ _ _ _ _ _ _; (first | (apply dr_nil; exact trivial) | (apply e_callU; exact rfl; exact rfl; exact rfl; exact FzL.of rfl; exact hAb _; exact rfl)); (try simp only [put, rowsOf, plR, List.all_cons, selE, ovr, setH, del, cellsA, splice, isV, List.nil_append, List.cons_append, List.map_cons, List.map_nil, List.length_cons, List.length_nil, List.set_cons_zero, List.set_cons_succ, List.take_succ_cons, List.take_zero, List.take_nil, List.drop_succ_cons, List.drop_zero, List.drop_nil, List.append_nil, List.all_cons, List.all_nil, Bool.and_true, Bool.true_and, Bool.and_false, Bool.false_and, Nat.reduceAdd, Nat.zero_add, Nat.add_zero, Nat.reduceEqDiff, if_true, if_false, reduceIte]))
    | (show AW _ _ _ _ _ _ _ _; first | refine aw_region ?_ | (refine aw_seqk ?_; intro K hK) | refine aw_block ?_ | (apply aw_cond_t; exact rfl; exact (by assumption)) | (apply aw_cond_f; exact rfl; exact (by assumption)) | refine aw_skip ?_ | refine aw_drawE (id := 5) [0, 0, 3, 7, 15, 15, 63, 127, 15, 271, 15, 1807, 3855, 15, 16143, 32527, 65535, 131071] [0, 0, 0, 0, 0, 0, 0, 1, 0, 1, 0, 0, 1, 0, 0, 1, 0, 0] mixed (by kernel_rfl) ?_)
    | refine thn_n ?_
    | (refine hK _ _ _ ?_; clear hK K)
    | refine inb_n ?_)); all_goals (repeat (clear hK K)))
        all_goals (refine ⟨i + 1, id, c1, by omega, ?_⟩; (try dsimp only); rw [hsu, ← hw]; exact ⟨by (repeat (refine ⟨by first | exact lk_i rfl rfl | exact lk_d rfl rfl | exact lk_p rfl rfl, ?_⟩)); exact trivial, by exact trivial, by rfl, by exact pin_0⟩)
      | true =>
        have e : cfl ap list item ch i = true := by rw [hcf, b3]; simp [c2]
        rw [e] at hsu
        have hwn : IntKind.i64.wrap ((cfN ap list item ch i : Int) + 1) = ((cfN ap list item ch i + 1 : Nat) : Int) := by rw [IntWalk.i64_in _ (by omega)]; omega
        ((repeat' (first
    | (show SQ _ _ _ _ _ _ _ _; first | apply sq_nil | (apply q_move; exact rfl; exact rfl) | (apply q_assign; exact rfl; exact rfl) | (apply q_add; exact rfl; exact rfl; exact rfl) | (apply q_lss; exact rfl; exact rfl; exact rfl) | (apply q_ixd; exact rfl; exact rfl; exact rfl; exact (ty rfl); exact rfl; exact (by first | omega | (simp; done) | (simp; omega)); exact (by first | omega | (simp; done) | (simp; omega)); exact (by first | rfl | assumption)) | (apply q_ld1d; exact rfl; exact rfl; exact (ty rfl); exact rfl; exact rfl))
    | (show DE _ _ _ _ _ _ _ _ _ _ _ _; first | (apply e_move; exact rfl; exact rfl; exact rfl) | (apply e_pick_t; exact rfl; exact rfl; exact rfl; exact (by first | assumption | exact rfl); exact rfl) | (apply e_fieldAddr; exact rfl; exact rfl; exact (ty rfl); exact rfl; exact rfl; exact rfl; exact rfl; exact rfl) | (apply e_sub; exact rfl; exact rfl; exact rfl; exact rfl) | (apply e_neq; exact rfl; exact rfl; exact rfl; exact rfl) | (apply e_lss; exact rfl; exact rfl; exact rfl; exact rfl) | (apply e_ixd; exact rfl; exact rfl; exact rfl; exact (ty rfl); exact rfl; exact (by first | omega | (simp; done) | (simp; omega)); exact (by first | omega | (simp; done) | (simp; omega)); exact (by first | rfl | assumption); exact rfl) | (apply e_ld1d; exact rfl; exact rfl; exact (ty rfl); exact rfl; exact rfl; exact rfl) | (apply e_g; exact rfl; exact rfl; exact rfl; exact (by assumption)))
    | (show DE _ _ _ _ _ _ _ _ _ _ _ _; (first | (apply dr_nil; exact trivial) | (apply e_callU; exact rfl; exact rfl; exact rfl; exact FzL.of rfl; exact hAb _; exact rfl)); (try simp only [put, rowsOf, plR, List.all_cons, selE, ovr, setH, del, cellsA, splice, isV, List.nil_append, List.cons_append, List.map_cons, List.map_nil, List.length_cons, List.length_nil, List.set_cons_zero, List.set_cons_succ, List.take_succ_cons, List.take_zero, List.take_nil, List.drop_succ_cons, List.drop_zero, List.drop_nil, List.append_nil, List.all_cons, List.all_nil, Bool.and_true, Bool.true_and, Bool.and_false, Bool.false_and, Nat.reduceAdd, Nat.zero_add, Nat.add_zero, Nat.reduceEqDiff, if_true, if_false, reduceIte]))
    | (show AW _ _ _ _ _ _ _ _; first | refine aw_region ?_ | (refine aw_seqk ?_; intro K hK) | refine aw_block ?_ | (apply aw_cond_t; exact rfl; exact (by assumption)) | refine aw_skip ?_ | refine aw_drawE (id := 5) [0, 0, 3, 7, 15, 15, 63, 127, 15, 271, 15, 1807, 3855, 15, 16143, 32527, 65535, 131071] [0, 0, 0, 0, 0, 0, 0, 1, 0, 1, 0, 0, 1, 0, 0, 1, 0, 0] mixed (by kernel_rfl) ?_)
    | refine thn_n ?_
    | (refine hK _ _ _ ?_; clear hK K)
    | refine inb_n ?_)); all_goals (repeat (clear hK K)))
        all_goals (refine ⟨i + 1, id, c1, by omega, ?_⟩; (try dsimp only); rw [hsu, if_pos rfl, ← hw, ← hwn]; exact ⟨by (repeat (refine ⟨by first | exact lk_i rfl rfl | exact lk_d rfl rfl | exact lk_p rfl rfl, ?_⟩)); exact trivial, by exact trivial, by rfl, by exact pin_0⟩)
  · have b1 : decide ((i : Int) < (list.length : Int)) = false := by simpa using c1
    obtain rfl : i = list.length := by omega
    ((repeat' (first
    | (show SQ _ _ _ _ _ _ _ _; first | apply sq_nil | (apply q_move; exact rfl; exact rfl) | (apply q_assign; exact rfl; exact rfl) | (apply q_lss; exact rfl; exact rfl; exact rfl))
    | (show AW _ _ _ _ _ _ _ _; first | refine aw_region ?_ | (refine aw_seqk ?_; intro K hK) | (apply aw_cond_f; exact rfl; exact (by assumption)) | refine aw_ret ?_ | refine aw_exit ?_)
    | refine thn_n ?_
    | (refine hK _ _ _ ?_; clear hK K)
    | refine thn_e ?_
    | refine inb_same ?_
    | (clear hK K; refine hK _ _ _ ?_; clear hK K))); all_goals (repeat (clear hK K)))
    all_goals exact fin_r (fin_i rfl rfl)
end Go.Proofs.Yteknfaldpajlpaa.Nb
