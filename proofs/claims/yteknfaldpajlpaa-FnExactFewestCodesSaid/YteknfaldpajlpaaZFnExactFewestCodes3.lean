/-
  What the law FnExactFewestCodes rests on, part 3.
-/
import Derived.Test.YteknfaldpajlpaaZFnExactFewestCodes2
namespace Go.Proofs.Yteknfaldpajlpaa.Il
open Go Go.RowKit Go.Proofs.Yteknfaldpajlpaa.Aw Go.Proofs.Yteknfaldpajlpaa.In
set_option linter.unusedSimpArgs false
set_option linter.unusedVariables false
attribute [local irreducible] AW SQ Step RO RC DE Thn InB
theorem allR_false {n : Nat} {f : Nat → Bool} {i : Nat} (hi : i < n) (h : f i = false) : (List.range n).all f = false := by
  cases ha : (List.range n).all f with
  | false => rfl
  | true => have := List.all_eq_true.1 ha i (List.mem_range.2 hi); rw [h] at this; cases this
theorem allR_true {n : Nat} {f : Nat → Bool} (h : ∀ i, i < n → f i = true) : (List.range n).all f = true :=
  List.all_eq_true.2 fun i hi => h i (List.mem_range.1 hi)
theorem anyR_true {n : Nat} {f : Nat → Bool} {i : Nat} (hi : i < n) (h : f i = true) : (List.range n).any f = true :=
  List.any_eq_true.2 ⟨i, List.mem_range.2 hi, h⟩
theorem anyR_false {n : Nat} {f : Nat → Bool} (h : ∀ i, i < n → f i = false) : (List.range n).any f = false :=
  List.any_eq_false.2 fun i hi => by rw [h i (List.mem_range.1 hi)]; simp
def incAt (xs : List Int) (i : Nat) : Bool := decide (i = 0) || decide (xs.getD (i - 1) 0 < xs.getD i 0)
theorem incAt0 (xs : List Int) : incAt xs 0 = true := rfl
def incB (xs : List Int) : Bool := (List.range xs.length).all (incAt xs)
def risB (xs : List Int) (lo hi : Int) : Bool := (List.range xs.length).all fun i => inB (xs.getD i 0) lo hi && incAt xs i
theorem risB_eq (xs : List Int) (lo hi : Int) : risB xs lo hi = (incB xs && !xs.any fun x => !inB x lo hi) := by
  rw [Bool.eq_iff_iff]
  simp only [risB, incB, Bool.and_eq_true, List.all_eq_true, List.mem_range, Bool.not_eq_true', List.any_eq_false, Bool.not_eq_true, Bool.not_eq_false']
  constructor
  · intro h
    refine ⟨fun i hi => (h i hi).2, fun x hx => ?_⟩
    obtain ⟨j, hj, rfl⟩ := List.getElem_of_mem hx
    have := (h j hj).1
    simpa [List.getD, hj] using this
  · rintro ⟨h, g⟩ i hi
    refine ⟨?_, h i hi⟩
    have := g xs[i] (List.getElem_mem hi)
    simpa [List.getD, hi] using this
set_option maxHeartbeats 4000000 in
theorem increasing_ro (xs : List Int) (hn : xs.length ≤ 1048576) (k : Nat) : RO Try.prog 68 [.dsl 1 (xs.map inL)] k (.v (.bool (incB xs))) [] k := by
  refine RO.ofv' Try.func68 Try.ntmps68 rfl (goFn_of Try.func68 rfl (by kernel_rfl)) rfl rfl ?_
  ((repeat' (first
    | (show SQ _ _ _ _ _ _ _ _; first | apply sq_nil | (apply q_assign; exact rfl; exact rfl))
    | (show AW _ _ _ _ _ _ _ _; first | refine aw_region ?_ | (refine aw_seqk ?_; intro K hK) | refine aw_block ?_)
    | refine thn_n ?_
    | (refine hK _ _ _ ?_; clear hK K))); all_goals (repeat (clear hK K)))
  refine aw_loop (ρ := id) (ι := Nat) (fun i => ([(3, .v (.int .i64 i)), (0, .dsl 1 (xs.map inL))], [], 0))
    (fun i => 1 ≤ i ∧ ∀ j, j < i → j < xs.length → incAt xs j = true) (fun i => xs.length - i) 1 ⟨Nat.le_refl _, fun j hj _ => (show j = 0 by omega) ▸ incAt0 xs⟩ ⟨by (repeat (refine ⟨by first | exact lk_i rfl rfl | exact lk_d rfl rfl, ?_⟩)); exact trivial, by exact trivial, by rfl, by exact pin_0⟩ ?_
  rintro i ⟨hi, hg⟩
  by_cases c2 : i < xs.length
  · have b2 : decide ((i : Int) < ((xs.map inL).length : Int)) = true := by simpa using c2
    have hrow : (xs.map inL)[((i : Int)).toNat]? = some (inL xs[i]) := by simp [c2]
    have hw2 : IntKind.i64.wrap ((i : Int) - 1) = (i : Int) - 1 := IntWalk.i64_in _ (by omega)
    have hrow2 : (xs.map inL)[(IntKind.i64.wrap ((i : Int) - 1)).toNat]? = some (inL xs[i - 1]) := by
      rw [hw2, show ((i : Int) - 1).toNat = i - 1 by omega]; simp [show i - 1 < xs.length by omega]
    rw [inL_eq] at hrow hrow2
    have hD : incAt xs i = decide (xs[i - 1] < xs[i]) := by simp [incAt, List.getD, c2, show i - 1 < xs.length by omega, show i ≠ 0 by omega]
    ((repeat' (first
    | (show SQ _ _ _ _ _ _ _ _; first | apply sq_nil | (apply q_move; exact rfl; exact rfl) | (apply q_assign; exact rfl; exact rfl) | (apply q_lend; exact rfl; exact rfl; exact (ty rfl); exact rfl) | (apply q_add; exact rfl; exact rfl; exact rfl) | (apply q_lss; exact rfl; exact rfl; exact rfl))
    | (show DE _ _ _ _ _ _ _ _ _ _ _ _; first | (apply e_move; exact rfl; exact rfl; exact rfl) | (apply e_sub; exact rfl; exact rfl; exact rfl; exact rfl) | (apply e_leq; exact rfl; exact rfl; exact rfl; exact rfl) | (apply e_ixd; exact rfl; exact rfl; exact rfl; exact (ty rfl); exact rfl; exact (by first | omega | (simp; done) | (simp; omega)); exact (by first | omega | (simp; done) | (simp; omega)); exact (by first | rfl | assumption); exact rfl) | (apply e_ld1d; exact rfl; exact rfl; exact (ty rfl); exact rfl; exact rfl; exact rfl))
    | (show DE _ _ _ _ _ _ _ _ _ _ _ _; (first | (apply dr_nil; exact trivial)); (try simp only [put, rowsOf, plR, List.all_cons, selE, ovr, setH, del, cellsA, splice, isV, List.nil_append, List.cons_append, List.map_cons, List.map_nil, List.length_cons, List.length_nil, List.set_cons_zero, List.set_cons_succ, List.take_succ_cons, List.take_zero, List.take_nil, List.drop_succ_cons, List.drop_zero, List.drop_nil, List.append_nil, List.all_cons, List.all_nil, Bool.and_true, Bool.true_and, Bool.and_false, Bool.false_and, Nat.reduceAdd, Nat.zero_add, Nat.add_zero, Nat.reduceEqDiff, if_true, if_false, reduceIte]))
    | (show AW _ _ _ _ _ _ _ _; first | refine aw_region ?_ | (refine aw_seqk ?_; intro K hK) | refine aw_block ?_ | (apply aw_cond_t; exact rfl; exact (by assumption)) | refine aw_ret ?_ | refine aw_skip ?_ | refine aw_drawE (id := 4) [0, 0, 3, 7, 0, 0, 32, 112, 240, 511] [0, 0, 0, 1, 0, 0, 0, 0, 1, 0] mixed (by kernel_rfl) ?_ | (apply aw_ite; exact rfl; all_goals intro h))
    | refine thn_n ?_
    | (refine hK _ _ _ ?_; clear hK K)
    | refine thn_r ?_
    | refine inb_n ?_
    | refine inb_r ?_)); all_goals (repeat (clear hK K)))
    all_goals first
      | (refine fin_r (fin_b rfl ?_)
         refine (allR_false c2 ?_).symm
         rw [hD]; simp_all; done)
      | (refine ⟨i + 1, id, ⟨by omega, fun j hj hj2 => ?_⟩, by omega, ⟨by (repeat (refine ⟨by first | exact lk_i rfl (by (try dsimp only); first | rfl | omega | (rw [IntWalk.i64_in _ (by omega)]; first | rfl | omega | (push_cast; omega)) | (simp; done) | (simp; omega)) | exact lk_d rfl rfl, ?_⟩)); exact trivial, by exact trivial, by rfl, by exact pin_0⟩⟩
         by_cases hjq : j < i
         · exact hg j hjq hj2
         · obtain rfl : j = i := by omega
           rw [hD]; simp_all)
  · have b2 : decide ((i : Int) < ((xs.map inL).length : Int)) = false := by simpa using c2
    ((repeat' (first
    | (show SQ _ _ _ _ _ _ _ _; first | apply sq_nil | (apply q_move; exact rfl; exact rfl) | (apply q_assign; exact rfl; exact rfl) | (apply q_lend; exact rfl; exact rfl; exact (ty rfl); exact rfl) | (apply q_lss; exact rfl; exact rfl; exact rfl))
    | (show AW _ _ _ _ _ _ _ _; first | refine aw_region ?_ | (refine aw_seqk ?_; intro K hK) | (apply aw_cond_f; exact rfl; exact (by assumption)) | refine aw_ret ?_ | refine aw_exit ?_)
    | refine thn_n ?_
    | (refine hK _ _ _ ?_; clear hK K)
    | refine thn_e ?_
    | refine inb_same ?_
    | (clear hK K; refine hK _ _ _ ?_; clear hK K))); all_goals (repeat (clear hK K)))
    all_goals refine fin_r (fin_b rfl ?_)
    exact (allR_true fun j hj => hg j (by omega) hj).symm
set_option maxHeartbeats 4000000 in
theorem l00Rises_ro (xs : List Int) (lo u : Int) (hn : xs.length ≤ 1048576) (k : Nat) : RO Try.prog 64 [.dsl 1 (xs.map inL), .v (.int .i64 lo), .v (.int .i64 u)] k (.v (.bool (risB xs lo u))) [] k := by
  refine RO.ofv' Try.func64 Try.ntmps64 rfl (goFn_of Try.func64 rfl (by kernel_rfl)) rfl rfl ?_
  ((repeat' (first
    | (show SQ _ _ _ _ _ _ _ _; first | apply sq_nil | (apply q_assign; exact rfl; exact rfl))
    | (show AW _ _ _ _ _ _ _ _; first | refine aw_region ?_ | (refine aw_seqk ?_; intro K hK) | refine aw_block ?_)
    | refine thn_n ?_
    | (refine hK _ _ _ ?_; clear hK K))); all_goals (repeat (clear hK K)))
  refine aw_loop (ρ := id) (ι := Nat) (fun i => ([(7, .v (.int .i64 i)), (2, .v (.int .i64 u)), (1, .v (.int .i64 lo)), (0, .dsl 1 (xs.map inL))], [], 0))
    (fun i => i ≤ xs.length ∧ ∀ j, j < i → (inB (xs.getD j 0) lo u && incAt xs j) = true) (fun i => xs.length - i) 0 ⟨Nat.zero_le _, fun j hj => absurd hj (Nat.not_lt_zero _)⟩ ⟨by (repeat (refine ⟨by first | exact lk_i rfl rfl | exact lk_d rfl rfl, ?_⟩)); exact trivial, by exact trivial, by rfl, by exact pin_0⟩ ?_
  rintro i ⟨hi, hg⟩
  by_cases c2 : i < xs.length
  · have b2 : decide ((i : Int) < ((xs.map inL).length : Int)) = true := by simpa using c2
    have hrow : (xs.map inL)[((i : Int)).toNat]? = some (inL xs[i]) := by simp [c2]
    rw [inL_eq] at hrow
    by_cases c3 : i = 0
    · have b5 : decide ((0 : Int) < (i : Int)) = false := by simp; omega
      have hD : (inB (xs.getD i 0) lo u && incAt xs i) = inB xs[i] lo u := by
        have e : incAt xs i = true := by simp [incAt, c3]
        rw [e, Bool.and_true]; simp [List.getD, c2]
      ((repeat' (first
    | (show SQ _ _ _ _ _ _ _ _; first | apply sq_nil | (apply q_move; exact rfl; exact rfl) | (apply q_assign; exact rfl; exact rfl) | (apply q_lend; exact rfl; exact rfl; exact (ty rfl); exact rfl) | (apply q_add; exact rfl; exact rfl; exact rfl) | (apply q_lss; exact rfl; exact rfl; exact rfl))
    | (show DE _ _ _ _ _ _ _ _ _ _ _ _; first | (apply e_move; exact rfl; exact rfl; exact rfl) | (apply e_pick_t; exact rfl; exact rfl; exact rfl; exact (by first | assumption | exact rfl); exact rfl) | (apply e_pick_f; exact rfl; exact rfl; exact rfl; exact (by first | assumption | exact rfl); exact rfl) | (apply e_not; exact rfl; exact rfl; exact rfl) | (apply e_gtr; exact rfl; exact rfl; exact rfl; exact rfl) | (apply e_ixd; exact rfl; exact rfl; exact rfl; exact (ty rfl); exact rfl; exact (by first | omega | (simp; done) | (simp; omega)); exact (by first | omega | (simp; done) | (simp; omega)); exact (by first | rfl | assumption); exact rfl) | (apply e_ld1d; exact rfl; exact rfl; exact (ty rfl); exact rfl; exact rfl; exact rfl) | (apply e_g; exact rfl; exact rfl; exact rfl; exact (by assumption)) | (apply e_s; exact rfl; exact rfl; exact rfl; exact (by assumption); exact rfl) | (apply e_sU; exact rfl; exact rfl; exact rfl; exact rfl; exact rfl))
    | (show DE _ _ _ _ _ _ _ _ _ _ _ _; (first | (apply dr_nil; exact trivial) | (apply e_callU; exact rfl; exact rfl; exact rfl; exact FzL.of rfl; exact l00In_ro _ _ _ _; exact rfl)); (try simp only [put, rowsOf, plR, List.all_cons, selE, ovr, setH, del, cellsA, splice, isV, List.nil_append, List.cons_append, List.map_cons, List.map_nil, List.length_cons, List.length_nil, List.set_cons_zero, List.set_cons_succ, List.take_succ_cons, List.take_zero, List.take_nil, List.drop_succ_cons, List.drop_zero, List.drop_nil, List.append_nil, List.all_cons, List.all_nil, Bool.and_true, Bool.true_and, Bool.and_false, Bool.false_and, Nat.reduceAdd, Nat.zero_add, Nat.add_zero, Nat.reduceEqDiff, if_true, if_false, reduceIte]))
    | (show DE _ _ _ _ _ _ _ _ _ _ _ _; apply e_gs; exact rfl; exact rfl; exact rfl; exact rfl; all_goals intro h)
    | (show AW _ _ _ _ _ _ _ _; first | refine aw_region ?_ | (refine aw_seqk ?_; intro K hK) | refine aw_block ?_ | (apply aw_cond_t; exact rfl; exact rfl) | (apply aw_cond_f; exact rfl; exact rfl) | (apply aw_cond_t; exact rfl; exact (by assumption)) | refine aw_ret ?_ | refine aw_skip ?_ | refine aw_drawE (id := 4) [0, 0, 3, 7, 0, 0, 63, 127, 255, 511, 1023, 2047, 4095, 4095, 12287, 32767, 65535, 4095, 4095, 397311, 921599, 2097151, 4194303, 8388607] [0, 0, 0, 1, 0, 0, 1, 0, 0, 0, 0, 0, 0, 0, 0, 0, 1, 0, 0, 0, 1, 0, 0, 0] mixed (by kernel_rfl) ?_)
    | refine thn_n ?_
    | (refine hK _ _ _ ?_; clear hK K)
    | refine thn_r ?_
    | refine inb_n ?_
    | refine inb_r ?_)); all_goals (repeat (clear hK K)))
      all_goals first
        | (refine fin_r (fin_b rfl ?_)
           refine (allR_false c2 ?_).symm
           rw [hD]; simp_all; done)
        | (refine ⟨i + 1, id, ⟨c2, fun j hj => ?_⟩, by omega, ⟨by (repeat (refine ⟨by first | exact lk_i rfl rfl | exact lk_i rfl (by (try dsimp only); first | rfl | omega | (rw [IntWalk.i64_in _ (by omega)]; first | rfl | omega | (push_cast; omega)) | (simp; done) | (simp; omega)) | exact lk_d rfl rfl, ?_⟩)); exact trivial, by exact trivial, by rfl, by exact pin_0⟩⟩
           by_cases hjq : j < i
           · exact hg j hjq
           · obtain rfl : j = i := by omega
             rw [hD]; simp_all)
    · have b5 : decide ((0 : Int) < (i : Int)) = true := by simp; omega
      have hw2 : IntKind.i64.wrap ((i : Int) - 1) = (i : Int) - 1 := IntWalk.i64_in _ (by omega)
      have hrow2 : (xs.map inL)[(IntKind.i64.wrap ((i : Int) - 1)).toNat]? = some (inL xs[i - 1]) := by
        rw [hw2, show ((i : Int) - 1).toNat = i - 1 by omega]; simp [show i - 1 < xs.length by omega]
      rw [inL_eq] at hrow2
      have hD : (inB (xs.getD i 0) lo u && incAt xs i) = (inB xs[i] lo u && decide (xs[i - 1] < xs[i])) := by simp [incAt, List.getD, c2, c3, show i - 1 < xs.length by omega]
      ((repeat' (first
    | (show SQ _ _ _ _ _ _ _ _; first | apply sq_nil | (apply q_move; exact rfl; exact rfl) | (apply q_assign; exact rfl; exact rfl) | (apply q_lend; exact rfl; exact rfl; exact (ty rfl); exact rfl) | (apply q_add; exact rfl; exact rfl; exact rfl) | (apply q_lss; exact rfl; exact rfl; exact rfl))
    | (show DE _ _ _ _ _ _ _ _ _ _ _ _; first | (apply e_move; exact rfl; exact rfl; exact rfl) | (apply e_pick_t; exact rfl; exact rfl; exact rfl; exact (by first | assumption | exact rfl); exact rfl) | (apply e_pick_f; exact rfl; exact rfl; exact rfl; exact (by first | assumption | exact rfl); exact rfl) | (apply e_not; exact rfl; exact rfl; exact rfl) | (apply e_sub; exact rfl; exact rfl; exact rfl; exact rfl) | (apply e_gtr; exact rfl; exact rfl; exact rfl; exact rfl) | (apply e_geq; exact rfl; exact rfl; exact rfl; exact rfl) | (apply e_ixd; exact rfl; exact rfl; exact rfl; exact (ty rfl); exact rfl; exact (by first | omega | (simp; done) | (simp; omega)); exact (by first | omega | (simp; done) | (simp; omega)); exact (by first | rfl | assumption); exact rfl) | (apply e_ld1d; exact rfl; exact rfl; exact (ty rfl); exact rfl; exact rfl; exact rfl) | (apply e_g; exact rfl; exact rfl; exact rfl; exact (by assumption)) | (apply e_s; exact rfl; exact rfl; exact rfl; exact (by assumption); exact rfl) | (apply e_sU; exact rfl; exact rfl; exact rfl; exact rfl; exact rfl))
    | (show DE _ _ _ _ _ _ _ _ _ _ _ _; (first | (apply dr_nil; exact trivial) | (apply e_callU; exact rfl; exact rfl; exact rfl; exact FzL.of rfl; exact l00In_ro _ _ _ _; exact rfl)); (try simp only [put, rowsOf, plR, List.all_cons, selE, ovr, setH, del, cellsA, splice, isV, List.nil_append, List.cons_append, List.map_cons, List.map_nil, List.length_cons, List.length_nil, List.set_cons_zero, List.set_cons_succ, List.take_succ_cons, List.take_zero, List.take_nil, List.drop_succ_cons, List.drop_zero, List.drop_nil, List.append_nil, List.all_cons, List.all_nil, Bool.and_true, Bool.true_and, Bool.and_false, Bool.false_and, Nat.reduceAdd, Nat.zero_add, Nat.add_zero, Nat.reduceEqDiff, if_true, if_false, reduceIte]))
    | (show DE _ _ _ _ _ _ _ _ _ _ _ _; apply e_gs; exact rfl; exact rfl; exact rfl; exact rfl; all_goals intro h)
    | (show AW _ _ _ _ _ _ _ _; first | refine aw_region ?_ | (refine aw_seqk ?_; intro K hK) | refine aw_block ?_ | (apply aw_cond_t; exact rfl; exact rfl) | (apply aw_cond_t; exact rfl; exact (by assumption)) | refine aw_ret ?_ | refine aw_skip ?_ | refine aw_drawE (id := 4) [0, 0, 3, 7, 0, 0, 63, 127, 255, 511, 1023, 2047, 4095, 4095, 12287, 32767, 65535, 4095, 4095, 397311, 921599, 2097151, 4194303, 8388607] [0, 0, 0, 1, 0, 0, 1, 0, 0, 0, 0, 0, 0, 0, 0, 0, 1, 0, 0, 0, 1, 0, 0, 0] mixed (by kernel_rfl) ?_ | (apply aw_ite; exact rfl; all_goals intro h))
    | refine thn_n ?_
    | (refine hK _ _ _ ?_; clear hK K)
    | refine thn_r ?_
    | refine inb_n ?_
    | refine inb_r ?_)); all_goals (repeat (clear hK K)))
      all_goals first
        | (refine fin_r (fin_b rfl ?_)
           refine (allR_false c2 ?_).symm
           rw [hD]; simp_all; done)
        | (refine ⟨i + 1, id, ⟨c2, fun j hj => ?_⟩, by omega, ⟨by (repeat (refine ⟨by first | exact lk_i rfl rfl | exact lk_i rfl (by (try dsimp only); first | rfl | omega | (rw [IntWalk.i64_in _ (by omega)]; first | rfl | omega | (push_cast; omega)) | (simp; done) | (simp; omega)) | exact lk_d rfl rfl, ?_⟩)); exact trivial, by exact trivial, by rfl, by exact pin_0⟩⟩
           by_cases hjq : j < i
           · exact hg j hjq
           · obtain rfl : j = i := by omega
             rw [hD]; simp_all)
  · have b2 : decide ((i : Int) < ((xs.map inL).length : Int)) = false := by simpa using c2
    ((repeat' (first
    | (show SQ _ _ _ _ _ _ _ _; first | apply sq_nil | (apply q_move; exact rfl; exact rfl) | (apply q_assign; exact rfl; exact rfl) | (apply q_lend; exact rfl; exact rfl; exact (ty rfl); exact rfl) | (apply q_lss; exact rfl; exact rfl; exact rfl))
    | (show AW _ _ _ _ _ _ _ _; first | refine aw_region ?_ | (refine aw_seqk ?_; intro K hK) | (apply aw_cond_f; exact rfl; exact (by assumption)) | refine aw_ret ?_ | refine aw_exit ?_)
    | refine thn_n ?_
    | (refine hK _ _ _ ?_; clear hK K)
    | refine thn_e ?_
    | refine inb_same ?_
    | (clear hK K; refine hK _ _ _ ?_; clear hK K))); all_goals (repeat (clear hK K)))
    all_goals refine fin_r (fin_b rfl ?_)
    exact (allR_true fun j hj => hg j (by omega)).symm
set_option maxHeartbeats 4000000 in
theorem l00Has_ro (xs : List Int) (rows : List (List AV)) (n : Int) (hrows : rows = xs.map inL) (hn : xs.length ≤ 1048576) (k : Nat) : RO Try.prog 85 [.dsl 1 rows, .v (.int .i64 n)] k (.v (.bool (xs.any fun y => y == n))) [] k := by
  subst hrows
  refine RO.ofv' Try.func85 Try.ntmps85 rfl (goFn_of Try.func85 rfl (by kernel_rfl)) rfl rfl ?_
  ((repeat' (first
    | (show SQ _ _ _ _ _ _ _ _; first | apply sq_nil | (apply q_assign; exact rfl; exact rfl))
    | (show AW _ _ _ _ _ _ _ _; first | refine aw_region ?_ | (refine aw_seqk ?_; intro K hK) | refine aw_block ?_)
    | refine thn_n ?_
    | (refine hK _ _ _ ?_; clear hK K))); all_goals (repeat (clear hK K)))
  refine aw_loop (ρ := id) (ι := Nat) (fun i => ([(5, .v (.int .i64 i)), (1, .v (.int .i64 n)), (0, .dsl 1 (xs.map inL))], [], 0))
    (fun i => i ≤ xs.length ∧ ∀ y ∈ xs.take i, (y == n) = false) (fun i => xs.length - i) 0 ⟨Nat.zero_le _, by simp⟩ ⟨by (repeat (refine ⟨by first | exact lk_i rfl rfl | exact lk_d rfl rfl, ?_⟩)); exact trivial, by exact trivial, by rfl, by exact pin_0⟩ ?_
  rintro i ⟨hi, hg⟩
  by_cases c2 : i < xs.length
  · have b2 : decide ((i : Int) < ((xs.map inL).length : Int)) = true := by simpa using c2
    have hrow : (xs.map inL)[((i : Int)).toNat]? = some (inL xs[i]) := by simp [c2]
    rw [inL_eq] at hrow
    ((repeat' (first
    | (show SQ _ _ _ _ _ _ _ _; first | apply sq_nil | (apply q_move; exact rfl; exact rfl) | (apply q_assign; exact rfl; exact rfl) | (apply q_lend; exact rfl; exact rfl; exact (ty rfl); exact rfl) | (apply q_add; exact rfl; exact rfl; exact rfl) | (apply q_eql; exact rfl; exact rfl; exact rfl) | (apply q_lss; exact rfl; exact rfl; exact rfl) | (apply q_ixd; exact rfl; exact rfl; exact rfl; exact (ty rfl); exact rfl; exact (by first | omega | (simp; done) | (simp; omega)); exact (by first | omega | (simp; done) | (simp; omega)); exact (by first | rfl | assumption)) | (apply q_ld1d; exact rfl; exact rfl; exact (ty rfl); exact rfl; exact rfl))
    | (show AW _ _ _ _ _ _ _ _; first | refine aw_region ?_ | (refine aw_seqk ?_; intro K hK) | refine aw_block ?_ | (apply aw_cond_t; exact rfl; exact (by assumption)) | refine aw_ret ?_ | refine aw_skip ?_ | (apply aw_ite; exact rfl; all_goals intro h))
    | refine thn_n ?_
    | (refine hK _ _ _ ?_; clear hK K)
    | refine thn_r ?_
    | refine inb_n ?_
    | refine inb_r ?_)); all_goals (repeat (clear hK K)))
    all_goals first
      | (refine fin_r (fin_b rfl ?_)
         exact (List.any_eq_true.2 ⟨xs[i], List.getElem_mem c2, by simp_all⟩).symm)
      | (refine ⟨i + 1, id, ⟨c2, takeS c2 hg ?_⟩, by omega, ⟨by (repeat (refine ⟨by first | exact lk_i rfl rfl | exact lk_i rfl (by (try dsimp only); first | rfl | omega | (rw [IntWalk.i64_in _ (by omega)]; first | rfl | omega | (push_cast; omega)) | (simp; done) | (simp; omega)) | exact lk_d rfl rfl, ?_⟩)); exact trivial, by exact trivial, by rfl, by exact pin_0⟩⟩
         simp_all; done)
  · have b2 : decide ((i : Int) < ((xs.map inL).length : Int)) = false := by simpa using c2
    ((repeat' (first
    | (show SQ _ _ _ _ _ _ _ _; first | apply sq_nil | (apply q_move; exact rfl; exact rfl) | (apply q_assign; exact rfl; exact rfl) | (apply q_lend; exact rfl; exact rfl; exact (ty rfl); exact rfl) | (apply q_lss; exact rfl; exact rfl; exact rfl))
    | (show AW _ _ _ _ _ _ _ _; first | refine aw_region ?_ | (refine aw_seqk ?_; intro K hK) | (apply aw_cond_f; exact rfl; exact (by assumption)) | refine aw_ret ?_ | refine aw_exit ?_)
    | refine thn_n ?_
    | (refine hK _ _ _ ?_; clear hK K)
    | refine thn_e ?_
    | refine inb_same ?_
    | (clear hK K; refine hK _ _ _ ?_; clear hK K))); all_goals (repeat (clear hK K)))
    all_goals refine fin_r (fin_b rfl ?_)
    rw [List.take_of_length_le (by omega)] at hg
    exact (List.any_eq_false.2 (fun y hy => by rw [hg y hy]; simp)).symm
set_option maxHeartbeats 4000000 in
theorem slIndex_ro (xs : List Int) (rows : List (List AV)) (n : Int) (hrows : rows = xs.map inL) (hn : xs.length ≤ 1048576) (k : Nat) : RO Try.prog 104 [.dsl 1 rows, .v (.int .i64 n)] k (.v (.int .i64 (ixG (fun y => y == n) xs))) [] k := by
  subst hrows
  refine RO.ofv' Try.func104 Try.ntmps104 rfl (goFn_of Try.func104 rfl (by kernel_rfl)) rfl rfl ?_
  ((repeat' (first
    | (show SQ _ _ _ _ _ _ _ _; first | apply sq_nil | (apply q_move; exact rfl; exact rfl) | (apply q_assign; exact rfl; exact rfl) | (apply q_lend; exact rfl; exact rfl; exact (ty rfl); exact rfl))
    | (show AW _ _ _ _ _ _ _ _; first | refine aw_region ?_ | (refine aw_seqk ?_; intro K hK) | refine aw_block ?_)
    | refine thn_n ?_
    | (refine hK _ _ _ ?_; clear hK K))); all_goals (repeat (clear hK K)))
  refine aw_loop (ρ := id) (ι := Nat) (fun i => ([(8, .v (.int .i64 i)), (7, .v (.int .i64 xs.length)), (1, .v (.int .i64 n)), (0, .dsl 1 (xs.map inL))], [], 0))
    (fun i => i ≤ xs.length ∧ ∀ y ∈ xs.take i, (y == n) = false) (fun i => xs.length - i) 0 ⟨Nat.zero_le _, by simp⟩ ⟨⟨lk_i rfl rfl, lk_i rfl (by simp), lk_i rfl rfl, lk_d rfl rfl, trivial⟩, trivial, rfl, pin_0⟩ ?_
  rintro i ⟨hi, hg⟩
  by_cases c2 : i < xs.length
  · have b2 : decide ((i : Int) < (xs.length : Int)) = true := by simpa using c2
    have hrow : (xs.map inL)[((i : Int)).toNat]? = some (inL xs[i]) := by simp [c2]
    rw [inL_eq] at hrow
    have hcm : (n == xs[i]) = (xs[i] == n) := by rw [Bool.eq_iff_iff]; simp only [beq_iff_eq]; exact eq_comm
    ((repeat' (first
    | (show SQ _ _ _ _ _ _ _ _; first | apply sq_nil | (apply q_move; exact rfl; exact rfl) | (apply q_assign; exact rfl; exact rfl) | (apply q_add; exact rfl; exact rfl; exact rfl) | (apply q_eql; exact rfl; exact rfl; exact rfl) | (apply q_lss; exact rfl; exact rfl; exact rfl) | (apply q_ixd; exact rfl; exact rfl; exact rfl; exact (ty rfl); exact rfl; exact (by first | omega | (simp; done) | (simp; omega)); exact (by first | omega | (simp; done) | (simp; omega)); exact (by first | rfl | assumption)) | (apply q_ld1d; exact rfl; exact rfl; exact (ty rfl); exact rfl; exact rfl))
    | (show AW _ _ _ _ _ _ _ _; first | refine aw_region ?_ | (refine aw_seqk ?_; intro K hK) | refine aw_block ?_ | (apply aw_cond_t; exact rfl; exact (by assumption)) | refine aw_ret ?_ | refine aw_skip ?_ | (apply aw_ite; exact rfl; all_goals intro h))
    | refine thn_n ?_
    | (refine hK _ _ _ ?_; clear hK K)
    | refine thn_r ?_
    | refine inb_n ?_
    | refine inb_r ?_)); all_goals (repeat (clear hK K)))
    all_goals first
      | (refine fin_r (fin_i rfl ?_)
         refine (ixG_hit c2 hg ?_).symm
         rw [← hcm]; assumption)
      | (refine ⟨i + 1, id, ⟨c2, takeS c2 hg ?_⟩, by omega, ⟨by (repeat (refine ⟨by first | exact lk_i rfl rfl | exact lk_i rfl (by (try dsimp only); first | rfl | omega | (rw [IntWalk.i64_in _ (by omega)]; first | rfl | omega | (push_cast; omega)) | (simp; done) | (simp; omega)) | exact lk_d rfl rfl, ?_⟩)); exact trivial, by exact trivial, by rfl, by exact pin_0⟩⟩
         rw [← hcm]; assumption)
  · have b2 : decide ((i : Int) < (xs.length : Int)) = false := by simpa using c2
    ((repeat' (first
    | (show SQ _ _ _ _ _ _ _ _; first | apply sq_nil | (apply q_assign; exact rfl; exact rfl) | (apply q_lss; exact rfl; exact rfl; exact rfl))
    | (show AW _ _ _ _ _ _ _ _; first | refine aw_region ?_ | (refine aw_seqk ?_; intro K hK) | (apply aw_cond_f; exact rfl; exact (by assumption)) | refine aw_ret ?_ | refine aw_exit ?_)
    | refine thn_n ?_
    | (refine hK _ _ _ ?_; clear hK K)
    | refine thn_e ?_
    | refine inb_same ?_
    | (clear hK K; refine hK _ _ _ ?_; clear hK K))); all_goals (repeat (clear hK K)))
    all_goals refine fin_r (fin_i rfl ?_)
    rw [List.take_of_length_le (by omega)] at hg
    exact (ixG_none _ xs hg).symm
set_option maxHeartbeats 4000000 in
theorem slContains_ro (xs : List Int) (rows : List (List AV)) (n : Int) (hrows : rows = xs.map inL) (hn : xs.length ≤ 1048576) (k : Nat) : RO Try.prog 86 [.dsl 1 rows, .v (.int .i64 n)] k (.v (.bool (xs.any fun y => y == n))) [] k := by
  refine RO.ofv' Try.func86 Try.ntmps86 rfl (goFn_of Try.func86 rfl (by kernel_rfl)) rfl rfl ?_
  ((repeat' (first
    | (show SQ _ _ _ _ _ _ _ _; first | apply sq_nil | (apply q_move; exact rfl; exact rfl) | (apply q_assign; exact rfl; exact rfl) | (apply q_geq; exact rfl; exact rfl; exact rfl))
    | (show SQ _ _ _ _ _ _ _ _; (first | (apply q_callU; exact rfl; exact rfl; exact rfl; exact FzL.of rfl; exact slIndex_ro xs rows n hrows hn _)); (try simp only [put, rowsOf, plR, List.all_cons, selE, ovr, setH, del, cellsA, splice, isV, List.nil_append, List.cons_append, List.map_cons, List.map_nil, List.length_cons, List.length_nil, List.set_cons_zero, List.set_cons_succ, List.take_succ_cons, List.take_zero, List.take_nil, List.drop_succ_cons, List.drop_zero, List.drop_nil, List.append_nil, List.all_cons, List.all_nil, Bool.and_true, Bool.true_and, Bool.and_false, Bool.false_and, Nat.reduceAdd, Nat.zero_add, Nat.add_zero, Nat.reduceEqDiff, if_true, if_false, reduceIte]))
    | (show AW _ _ _ _ _ _ _ _; first | refine aw_region ?_ | (refine aw_seqk ?_; intro K hK) | refine aw_ret ?_)
    | refine thn_n ?_
    | (refine hK _ _ _ ?_; clear hK K))); all_goals (repeat (clear hK K)))
  all_goals refine fin_r (fin_b rfl ?_)
  exact ixG_any _ xs
end Go.Proofs.Yteknfaldpajlpaa.Il

namespace Go.Proofs.Yteknfaldpajlpaa.Aw
open Go Go.RowKit
set_option linter.unusedVariables false
set_option linter.unusedSimpArgs false
section
variable {P : Program} {H : Hp} {N n g : Nat} {T : Tp} {all : Array Oper} {l : List Oper} {G : Tp → Hp → Nat → Prop}
end
section
variable {P : Program} {N n n' : Nat} {all : Array Oper} {l : List Oper} {G : Tp → Hp → Nat → Prop} {T : Tp} {H : Hp} {bs ks : List Nat} {i : Nat} {eff : List (Nat × List (Nat × Option Blk))} {ty : TypeId} {pos : String} {after : Array Edge} {d : Nat}
end
theorem WkC.same (cv : AV) : WkC cv cv := .inl rfl
theorem WkC.nil (s : Nat) : WkC (.v (.slice none 0 0)) (.dsl s []) := .inr ⟨s, rfl, rfl⟩
end Go.Proofs.Yteknfaldpajlpaa.Aw

namespace Go.Proofs.Yteknfaldpajlpaa.Nb
open Go Go.RowKit Go.Proofs.Yteknfaldpajlpaa.Aw Go.Proofs.Yteknfaldpajlpaa.In Go.Proofs.Yteknfaldpajlpaa.Il
set_option linter.unusedSimpArgs false
set_option linter.unusedVariables false
attribute [local irreducible] AW SQ Step RO RC DE Thn InB
def nbL (ls : List (List Int)) : List (List AV) := ls.map fun l => [.dsl 1 (l.map inL)]
def nbG (ls : List (List Int)) (i : Nat) : Bool := incB (ls.getD i []) && (!(ls.getD i []).any fun x => !inB x 0 ((ls.length : Int) - 1)) && !((ls.getD i []).any fun y => y == (i : Int))
def nbB (ls : List (List Int)) : Bool := decide (ls.length ≤ 24) && (List.range ls.length).all (nbG ls)
structure NbS (ls : List (List Int)) : Prop where
  n : ls.length ≤ 1048576
  m : ∀ l ∈ ls, l.length ≤ 1048576
theorem nbL_len (ls : List (List Int)) : (nbL ls).length = ls.length := List.length_map _
theorem nbL_get {ls : List (List Int)} {i : Nat} (h : i < ls.length) : (nbL ls)[((i : Int)).toNat]? = some [.dsl 1 (ls[i].map inL)] := by simp [nbL, h]
set_option maxHeartbeats 4000000 in
theorem ValidNeighbours_ro (ls : List (List Int)) (hS : NbS ls) (k : Nat) : RO Try.prog 42 [.dsl 1 (nbL ls)] k (.v (.bool (nbB ls))) [] k := by
  have hl := nbL_len ls
  by_cases c0 : 24 < ls.length
  · have b0 : decide ((24 : Int) < ((nbL ls).length : Int)) = true := by rw [hl]; simp; omega
    refine RO.ofv' Try.func42 Try.ntmps42 rfl (goFn_of Try.func42 rfl (by kernel_rfl)) rfl rfl ?_
    ((repeat' (first
    | (show SQ _ _ _ _ _ _ _ _; first | apply sq_nil | (apply q_move; exact rfl; exact rfl) | (apply q_assign; exact rfl; exact rfl) | (apply q_lend; exact rfl; exact rfl; exact (ty rfl); exact rfl) | (apply q_gtr; exact rfl; exact rfl; exact rfl))
    | (show AW _ _ _ _ _ _ _ _; first | refine aw_region ?_ | (refine aw_seqk ?_; intro K hK) | (apply aw_cond_t; exact rfl; exact (by assumption)) | refine aw_ret ?_)
    | refine thn_n ?_
    | (refine hK _ _ _ ?_; clear hK K)
    | refine thn_r ?_)); all_goals (repeat (clear hK K)))
    all_goals refine fin_r (fin_b rfl ?_)
    simp [nbB]; omega
  have b0 : decide ((24 : Int) < ((nbL ls).length : Int)) = false := by rw [hl]; simp; omega
  have hdec : decide (ls.length ≤ 24) = true := by simp; omega
  refine RO.ofv' Try.func42 Try.ntmps42 rfl (goFn_of Try.func42 rfl (by kernel_rfl)) rfl rfl ?_
  ((repeat' (first
    | (show SQ _ _ _ _ _ _ _ _; first | apply sq_nil | (apply q_move; exact rfl; exact rfl) | (apply q_assign; exact rfl; exact rfl) | (apply q_lend; exact rfl; exact rfl; exact (ty rfl); exact rfl) | (apply q_gtr; exact rfl; exact rfl; exact rfl))
    | (show AW _ _ _ _ _ _ _ _; first | refine aw_region ?_ | (refine aw_seqk ?_; intro K hK) | refine aw_block ?_ | (apply aw_cond_f; exact rfl; exact (by assumption)) | refine aw_skip ?_)
    | refine thn_n ?_
    | (refine hK _ _ _ ?_; clear hK K))); all_goals (repeat (clear hK K)))
  refine aw_loop (ρ := id) (ι := Nat) (fun i => ([(10, .v (.int .i64 i)), (9, .v (.int .i64 ls.length)), (8, .dsl 1 (nbL ls)), (0, .dsl 1 (nbL ls))], [], 0))
    (fun i => i ≤ ls.length ∧ ∀ j, j < i → nbG ls j = true) (fun i => ls.length - i) 0 ⟨Nat.zero_le _, fun j hj => absurd hj (Nat.not_lt_zero _)⟩ ⟨by (repeat (refine ⟨by first | exact lk_i rfl rfl | exact lk_i rfl (by (try dsimp only); first | rfl | omega | (rw [IntWalk.i64_in _ (by omega)]; first | rfl | omega | (push_cast; omega)) | (simp; done) | (simp; omega)) | exact lk_d rfl rfl, ?_⟩)); exact trivial, by exact trivial, by rfl, by exact pin_0⟩ ?_
  rintro i ⟨hi, hg⟩
  by_cases c1 : i < ls.length
  · have b1 : decide ((i : Int) < (ls.length : Int)) = true := by simpa using c1
    have hrow := nbL_get c1
    have hD : ls.getD i [] = ls[i] := by simp [List.getD, c1]
    have hm := hS.m _ (List.getElem_mem c1)
    have hG : nbG ls i = (incB ls[i] && (!ls[i].any fun x => !inB x 0 ((ls.length : Int) - 1)) && !(ls[i].any fun y => y == (i : Int))) := by rw [nbG, hD]
    have hwl : IntKind.i64.wrap (((nbL ls).length : Int) - 1) = (ls.length : Int) - 1 := by rw [hl]; exact IntWalk.i64_in _ (by omega)
    have hw : IntKind.i64.wrap ((i : Int) + 1) = ((i + 1 : Nat) : Int) := by rw [IntWalk.i64_in _ (by omega)]; omega
    have hA := allWithin_ro ls[i] (ls[i].map inL) 0 (IntKind.i64.wrap (((nbL ls).length : Int) - 1)) rfl hm
    rw [show (ls[i].any fun x => !inB x 0 (IntKind.i64.wrap (((nbL ls).length : Int) - 1))) = (ls[i].any fun x => !inB x 0 ((ls.length : Int) - 1)) by rw [hwl]] at hA
    have hI := increasing_ro ls[i] hm
    have hC := slContains_ro ls[i] (ls[i].map inL) (i : Int) rfl hm
    generalize (ls[i].any fun x => !inB x 0 ((ls.length : Int) - 1)) = u1 at *
    generalize incB ls[i] = u2 at *
    generalize (ls[i].any fun y => y == (i : Int)) = u3 at *
    ((repeat' (first
    | (show SQ _ _ _ _ _ _ _ _; first | apply sq_nil | (apply q_move; exact rfl; exact rfl) | (apply q_assign; exact rfl; exact rfl) | (apply q_pick_t; exact rfl; exact rfl; exact rfl; exact (by first | assumption | exact rfl)) | (apply q_pick_f; exact rfl; exact rfl; exact rfl; exact (by first | assumption | exact rfl)) | (apply q_not; exact rfl; exact rfl) | (apply q_lend; exact rfl; exact rfl; exact (ty rfl); exact rfl) | (apply q_add; exact rfl; exact rfl; exact rfl) | (apply q_sub; exact rfl; exact rfl; exact rfl) | (apply q_lss; exact rfl; exact rfl; exact rfl) | (apply q_ixd; exact rfl; exact rfl; exact rfl; exact (ty rfl); exact rfl; exact (by first | omega | (simp; done) | (simp; omega)); exact (by first | omega | (simp; done) | (simp; omega)); exact (by first | rfl | assumption)) | (apply q_ld1d; exact rfl; exact rfl; exact (ty rfl); exact rfl; exact rfl) | (apply q_g; exact rfl; exact rfl; exact rfl; exact (by assumption)) | (apply q_s; exact rfl; exact rfl; exact rfl; exact (by assumption); exact rfl) | (apply q_s; exact rfl; exact rfl; exact rfl; exact rfl; exact rfl))
    | (show SQ _ _ _ _ _ _ _ _; (first | (apply q_callU; exact rfl; exact rfl; exact rfl; exact FzL.of rfl; exact hA _) | (apply q_callU; exact rfl; exact rfl; exact rfl; exact FzL.of rfl; exact hI _) | (apply q_callU; exact rfl; exact rfl; exact rfl; exact FzL.of rfl; exact hC _)); (try simp only [put, rowsOf, plR, List.all_cons, selE, ovr, setH, del, cellsA, splice, isV, List.nil_append, List.cons_append, List.map_cons, List.map_nil, List.length_cons, List.length_nil, List.set_cons_zero, List.set_cons_succ, List.take_succ_cons, List.take_zero, List.take_nil, List.drop_succ_cons, List.drop_zero, List.drop_nil, List.append_nil, List.all_cons, List.all_nil, Bool.and_true, Bool.true_and, Bool.and_false, Bool.false_and, Nat.reduceAdd, Nat.zero_add, Nat.add_zero, Nat.reduceEqDiff, if_true, if_false, reduceIte]))
    | (show SQ _ _ _ _ _ _ _ _; apply q_gs; exact rfl; exact rfl; exact rfl; exact rfl; all_goals intro h)
    | (show AW _ _ _ _ _ _ _ _; first | refine aw_region ?_ | (refine aw_seqk ?_; intro K hK) | refine aw_block ?_ | (apply aw_cond_t; exact rfl; exact rfl) | (apply aw_cond_t; exact rfl; exact (by assumption)) | refine aw_ret ?_ | refine aw_skip ?_ | (apply aw_ite; exact rfl; all_goals intro h))
    | refine thn_n ?_
    | (refine hK _ _ _ ?_; clear hK K)
    | refine thn_r ?_
    | refine inb_n ?_
    | refine inb_r ?_)); all_goals (repeat (clear hK K)))
    all_goals first
      | (refine fin_r (fin_b rfl ?_)
         rw [nbB, allR_false c1 (by rw [hG]; simp_all), Bool.and_false]; done)
      | (refine ⟨i + 1, id, ⟨c1, fun j hj => ?_⟩, by omega, ?_⟩
         · by_cases hjq : j < i
           · exact hg j hjq
           · obtain rfl : j = i := by omega
             rw [hG]; simp_all
         · (try dsimp only); rw [← hw]; exact ⟨by (repeat (refine ⟨by first | exact lk_i rfl rfl | exact lk_d rfl rfl, ?_⟩)); exact trivial, by exact trivial, by rfl, by exact pin_0⟩)
  · have b1 : decide ((i : Int) < (ls.length : Int)) = false := by simpa using c1
    ((repeat' (first
    | (show SQ _ _ _ _ _ _ _ _; first | apply sq_nil | (apply q_assign; exact rfl; exact rfl) | (apply q_lss; exact rfl; exact rfl; exact rfl))
    | (show AW _ _ _ _ _ _ _ _; first | refine aw_region ?_ | (refine aw_seqk ?_; intro K hK) | (apply aw_cond_f; exact rfl; exact (by assumption)) | refine aw_ret ?_ | refine aw_exit ?_)
    | refine thn_n ?_
    | (refine hK _ _ _ ?_; clear hK K)
    | refine thn_e ?_
    | refine inb_same ?_
    | (clear hK K; refine hK _ _ _ ?_; clear hK K))); all_goals (repeat (clear hK K)))
    all_goals refine fin_r (fin_b rfl ?_)
    rw [nbB, hdec, allR_true fun j hj => hg j (by omega)]; rfl
def nearB (ls : List (List Int)) (i k : Nat) : Bool := ((ls.getD i []).any fun y => y == (k : Int)) || ((ls.getD k []).any fun y => y == (i : Int))
def shareB (ls : List (List Int)) (i k : Nat) : Bool := (List.range ls.length).any fun x => nearB ls i x && nearB ls x k
def clB (ls : List (List Int)) (i k : Nat) : Bool := nearB ls i k || shareB ls i k
section
variable (ls : List (List Int)) (hS : NbS ls)
include hS
set_option maxHeartbeats 4000000 in
theorem areNeighbours_ro (i j : Nat) (hi : i < ls.length) (hj : j < ls.length) (k : Nat) : RO Try.prog 87 [.dsl 1 (nbL ls), .v (.int .i64 i), .v (.int .i64 j)] k (.v (.bool (nearB ls i j))) [] k := by
  have hl := nbL_len ls
  have hr1 := nbL_get hi
  have hr2 := nbL_get hj
  have hC1 := slContains_ro ls[i] (ls[i].map inL) (j : Int) rfl (hS.m _ (List.getElem_mem hi))
  have hC2 := slContains_ro ls[j] (ls[j].map inL) (i : Int) rfl (hS.m _ (List.getElem_mem hj))
  have hD : nearB ls i j = ((ls[i].any fun y => y == (j : Int)) || (ls[j].any fun y => y == (i : Int))) := by simp [nearB, List.getD, hi, hj]
  rw [hD]
  clear hD
  generalize (ls[i].any fun y => y == (j : Int)) = u1 at *
  generalize (ls[j].any fun y => y == (i : Int)) = u2 at *
  refine RO.ofv' Try.func87 Try.ntmps87 rfl (goFn_of Try.func87 rfl (by kernel_rfl)) rfl rfl ?_
  ((repeat' (first
    | (show SQ _ _ _ _ _ _ _ _; first | apply sq_nil | (apply q_move; exact rfl; exact rfl) | (apply q_assign; exact rfl; exact rfl) | (apply q_pick_t; exact rfl; exact rfl; exact rfl; exact (by first | assumption | exact rfl)) | (apply q_pick_f; exact rfl; exact rfl; exact rfl; exact (by first | assumption | exact rfl)) | (apply q_ixd; exact rfl; exact rfl; exact rfl; exact (ty rfl); exact rfl; exact (by first | omega | (simp; done) | (simp; omega)); exact (by first | omega | (simp; done) | (simp; omega)); exact (by first | rfl | assumption)) | (apply q_ld1d; exact rfl; exact rfl; exact (ty rfl); exact rfl; exact rfl) | (apply q_g; exact rfl; exact rfl; exact rfl; exact (by assumption)) | (apply q_s; exact rfl; exact rfl; exact rfl; exact (by assumption); exact rfl))
    | (show SQ _ _ _ _ _ _ _ _; (first | (apply q_callU; exact rfl; exact rfl; exact rfl; exact FzL.of rfl; exact hC1 _) | (apply q_callU; exact rfl; exact rfl; exact rfl; exact FzL.of rfl; exact hC2 _)); (try simp only [put, rowsOf, plR, List.all_cons, selE, ovr, setH, del, cellsA, splice, isV, List.nil_append, List.cons_append, List.map_cons, List.map_nil, List.length_cons, List.length_nil, List.set_cons_zero, List.set_cons_succ, List.take_succ_cons, List.take_zero, List.take_nil, List.drop_succ_cons, List.drop_zero, List.drop_nil, List.append_nil, List.all_cons, List.all_nil, Bool.and_true, Bool.true_and, Bool.and_false, Bool.false_and, Nat.reduceAdd, Nat.zero_add, Nat.add_zero, Nat.reduceEqDiff, if_true, if_false, reduceIte]))
    | (show SQ _ _ _ _ _ _ _ _; apply q_gs; exact rfl; exact rfl; exact rfl; exact rfl; all_goals intro h)
    | (show AW _ _ _ _ _ _ _ _; first | refine aw_region ?_ | (refine aw_seqk ?_; intro K hK) | refine aw_ret ?_)
    | refine thn_n ?_
    | (refine hK _ _ _ ?_; clear hK K))); all_goals (repeat (clear hK K)))
  all_goals refine fin_r (fin_b rfl ?_)
  all_goals simp_all
set_option maxHeartbeats 4000000 in
theorem shareNeighbour_ro (i j : Nat) (hi : i < ls.length) (hj : j < ls.length) (k : Nat) : RO Try.prog 88 [.dsl 1 (nbL ls), .v (.int .i64 i), .v (.int .i64 j)] k (.v (.bool (shareB ls i j))) [] k := by
  have hl := nbL_len ls
  refine RO.ofv' Try.func88 Try.ntmps88 rfl (goFn_of Try.func88 rfl (by kernel_rfl)) rfl rfl ?_
  ((repeat' (first
    | (show SQ _ _ _ _ _ _ _ _; first | apply sq_nil | (apply q_move; exact rfl; exact rfl) | (apply q_assign; exact rfl; exact rfl) | (apply q_lend; exact rfl; exact rfl; exact (ty rfl); exact rfl))
    | (show AW _ _ _ _ _ _ _ _; first | refine aw_region ?_ | (refine aw_seqk ?_; intro K hK) | refine aw_block ?_)
    | refine thn_n ?_
    | (refine hK _ _ _ ?_; clear hK K))); all_goals (repeat (clear hK K)))
  refine aw_loop (ρ := id) (ι := Nat) (fun x => ([(10, .v (.int .i64 x)), (9, .v (.int .i64 ls.length)), (2, .v (.int .i64 j)), (1, .v (.int .i64 i)), (0, .dsl 1 (nbL ls))], [], 0))
    (fun x => x ≤ ls.length ∧ ∀ y, y < x → (nearB ls i y && nearB ls y j) = false) (fun x => ls.length - x) 0 ⟨Nat.zero_le _, fun j hj => absurd hj (Nat.not_lt_zero _)⟩ ⟨by (repeat (refine ⟨by first | exact lk_i rfl rfl | exact lk_i rfl (by (try dsimp only); first | rfl | omega | (rw [IntWalk.i64_in _ (by omega)]; first | rfl | omega | (push_cast; omega)) | (simp; done) | (simp; omega)) | exact lk_d rfl rfl, ?_⟩)); exact trivial, by exact trivial, by rfl, by exact pin_0⟩ ?_
  rintro x ⟨hx, hg⟩
  have hn := hS.n
  by_cases c1 : x < ls.length
  · have b1 : decide ((x : Int) < (ls.length : Int)) = true := by simpa using c1
    have hw : IntKind.i64.wrap ((x : Int) + 1) = ((x + 1 : Nat) : Int) := by rw [IntWalk.i64_in _ (by omega)]; omega
    have hA1 := areNeighbours_ro ls hS i x hi c1
    have hA2 := areNeighbours_ro ls hS x j c1 hj
    ((repeat' (first
    | (show SQ _ _ _ _ _ _ _ _; first | apply sq_nil | (apply q_move; exact rfl; exact rfl) | (apply q_assign; exact rfl; exact rfl) | (apply q_pick_t; exact rfl; exact rfl; exact rfl; exact (by first | assumption | exact rfl)) | (apply q_pick_f; exact rfl; exact rfl; exact rfl; exact (by first | assumption | exact rfl)) | (apply q_add; exact rfl; exact rfl; exact rfl) | (apply q_lss; exact rfl; exact rfl; exact rfl) | (apply q_g; exact rfl; exact rfl; exact rfl; exact (by assumption)) | (apply q_s; exact rfl; exact rfl; exact rfl; exact (by assumption); exact rfl))
    | (show SQ _ _ _ _ _ _ _ _; (first | (apply q_callU; exact rfl; exact rfl; exact rfl; exact FzL.of rfl; exact hA1 _) | (apply q_callU; exact rfl; exact rfl; exact rfl; exact FzL.of rfl; exact hA2 _)); (try simp only [put, rowsOf, plR, List.all_cons, selE, ovr, setH, del, cellsA, splice, isV, List.nil_append, List.cons_append, List.map_cons, List.map_nil, List.length_cons, List.length_nil, List.set_cons_zero, List.set_cons_succ, List.take_succ_cons, List.take_zero, List.take_nil, List.drop_succ_cons, List.drop_zero, List.drop_nil, List.append_nil, List.all_cons, List.all_nil, Bool.and_true, Bool.true_and, Bool.and_false, Bool.false_and, Nat.reduceAdd, Nat.zero_add, Nat.add_zero, Nat.reduceEqDiff, if_true, if_false, reduceIte]))
    | (show SQ _ _ _ _ _ _ _ _; apply q_gs; exact rfl; exact rfl; exact rfl; exact rfl; all_goals intro h)
    | (show AW _ _ _ _ _ _ _ _; first | refine aw_region ?_ | (refine aw_seqk ?_; intro K hK) | refine aw_block ?_ | (apply aw_cond_f; exact rfl; exact rfl) | (apply aw_cond_t; exact rfl; exact (by assumption)) | refine aw_ret ?_ | refine aw_skip ?_ | (apply aw_ite; exact rfl; all_goals intro h))
    | refine thn_n ?_
    | (refine hK _ _ _ ?_; clear hK K)
    | refine thn_r ?_
    | refine inb_n ?_
    | refine inb_r ?_)); all_goals (repeat (clear hK K)))
    all_goals first
      | (refine fin_r (fin_b rfl ?_)
         exact (anyR_true c1 (by simp_all)).symm)
      | (refine ⟨x + 1, id, ⟨c1, fun y hy => ?_⟩, by omega, ?_⟩
         · by_cases hyq : y < x
           · exact hg y hyq
           · obtain rfl : y = x := by omega
             simp_all
         · (try dsimp only); rw [← hw]; exact ⟨by (repeat (refine ⟨by first | exact lk_i rfl rfl | exact lk_d rfl rfl, ?_⟩)); exact trivial, by exact trivial, by rfl, by exact pin_0⟩)
  · have b1 : decide ((x : Int) < (ls.length : Int)) = false := by simpa using c1
    ((repeat' (first
    | (show SQ _ _ _ _ _ _ _ _; first | apply sq_nil | (apply q_assign; exact rfl; exact rfl) | (apply q_lss; exact rfl; exact rfl; exact rfl))
    | (show AW _ _ _ _ _ _ _ _; first | refine aw_region ?_ | (refine aw_seqk ?_; intro K hK) | (apply aw_cond_f; exact rfl; exact (by assumption)) | refine aw_ret ?_ | refine aw_exit ?_)
    | refine thn_n ?_
    | (refine hK _ _ _ ?_; clear hK K)
    | refine thn_e ?_
    | refine inb_same ?_
    | (clear hK K; refine hK _ _ _ ?_; clear hK K))); all_goals (repeat (clear hK K)))
    all_goals refine fin_r (fin_b rfl ?_)
    exact (anyR_false fun y hy => hg y (by omega)).symm
set_option maxHeartbeats 4000000 in
theorem mayClash_ro (i j : Nat) (hi : i < ls.length) (hj : j < ls.length) (k : Nat) : RO Try.prog 46 [.dsl 1 (nbL ls), .v (.int .i64 i), .v (.int .i64 j)] k (.v (.bool (clB ls i j))) [] k := by
  have hA := areNeighbours_ro ls hS i j hi hj
  have hB := shareNeighbour_ro ls hS i j hi hj
  refine RO.ofv' Try.func46 Try.ntmps46 rfl (goFn_of Try.func46 rfl (by kernel_rfl)) rfl rfl ?_
  ((repeat' (first
    | (show SQ _ _ _ _ _ _ _ _; first | apply sq_nil | (apply q_move; exact rfl; exact rfl) | (apply q_assign; exact rfl; exact rfl) | (apply q_pick_t; exact rfl; exact rfl; exact rfl; exact (by first | assumption | exact rfl)) | (apply q_pick_f; exact rfl; exact rfl; exact rfl; exact (by first | assumption | exact rfl)) | (apply q_g; exact rfl; exact rfl; exact rfl; exact (by assumption)) | (apply q_s; exact rfl; exact rfl; exact rfl; exact (by assumption); exact rfl))
    | (show SQ _ _ _ _ _ _ _ _; (first | (apply q_callU; exact rfl; exact rfl; exact rfl; exact FzL.of rfl; exact hA _) | (apply q_callU; exact rfl; exact rfl; exact rfl; exact FzL.of rfl; exact hB _)); (try simp only [put, rowsOf, plR, List.all_cons, selE, ovr, setH, del, cellsA, splice, isV, List.nil_append, List.cons_append, List.map_cons, List.map_nil, List.length_cons, List.length_nil, List.set_cons_zero, List.set_cons_succ, List.take_succ_cons, List.take_zero, List.take_nil, List.drop_succ_cons, List.drop_zero, List.drop_nil, List.append_nil, List.all_cons, List.all_nil, Bool.and_true, Bool.true_and, Bool.and_false, Bool.false_and, Nat.reduceAdd, Nat.zero_add, Nat.add_zero, Nat.reduceEqDiff, if_true, if_false, reduceIte]))
    | (show SQ _ _ _ _ _ _ _ _; apply q_gs; exact rfl; exact rfl; exact rfl; exact rfl; all_goals intro h)
    | (show AW _ _ _ _ _ _ _ _; first | refine aw_region ?_ | (refine aw_seqk ?_; intro K hK) | refine aw_ret ?_)
    | refine thn_n ?_
    | (refine hK _ _ _ ?_; clear hK K))); all_goals (repeat (clear hK K)))
  all_goals refine fin_r (fin_b rfl ?_)
  all_goals simp_all [clB]
def earB (ls : List (List Int)) (cs : List Int) (c : Int) : Bool := (List.range cs.length).any fun i => cs.getD i 0 == c && clB ls i cs.length
set_option maxHeartbeats 4000000 in
theorem clashesEarlier_ro (cs : List Int) (c : Int) (hc : cs.length < ls.length) (k : Nat) : RO Try.prog 58 [.dsl 1 (nbL ls), .dsl 1 (cs.map inL), .v (.int .i64 c)] k (.v (.bool (earB ls cs c))) [] k := by
  have hn := hS.n
  have hml : (cs.map inL).length = cs.length := List.length_map _
  refine RO.ofv' Try.func58 Try.ntmps58 rfl (goFn_of Try.func58 rfl (by kernel_rfl)) rfl rfl ?_
  ((repeat' (first
    | (show SQ _ _ _ _ _ _ _ _; first | apply sq_nil | (apply q_move; exact rfl; exact rfl) | (apply q_assign; exact rfl; exact rfl) | (apply q_lend; exact rfl; exact rfl; exact (ty rfl); exact rfl))
    | (show AW _ _ _ _ _ _ _ _; first | refine aw_region ?_ | (refine aw_seqk ?_; intro K hK) | refine aw_block ?_)
    | refine thn_n ?_
    | (refine hK _ _ _ ?_; clear hK K))); all_goals (repeat (clear hK K)))
  refine aw_loop (ρ := id) (ι := Nat) (fun i => ([(14, .v (.int .i64 i)), (13, .v (.int .i64 cs.length)), (12, .dsl 1 (cs.map inL)), (7, .v (.int .i64 cs.length)), (2, .v (.int .i64 c)), (0, .dsl 1 (nbL ls))], [], 0))
    (fun i => i ≤ cs.length ∧ ∀ j, j < i → (cs.getD j 0 == c && clB ls j cs.length) = false) (fun i => cs.length - i) 0 ⟨Nat.zero_le _, fun j hj => absurd hj (Nat.not_lt_zero _)⟩ ⟨by (repeat (refine ⟨by first | exact lk_i rfl rfl | exact lk_i rfl (by (try dsimp only); first | rfl | omega | (rw [IntWalk.i64_in _ (by omega)]; first | rfl | omega | (push_cast; omega)) | (simp; done) | (simp; omega)) | exact lk_d rfl rfl, ?_⟩)); exact trivial, by exact trivial, by rfl, by exact pin_0⟩ ?_
  rintro i ⟨hi, hg⟩
  by_cases c1 : i < cs.length
  · have b1 : decide ((i : Int) < (cs.length : Int)) = true := by simpa using c1
    have hrow : (cs.map inL)[((i : Int)).toNat]? = some (inL cs[i]) := by simp [c1]
    rw [inL_eq] at hrow
    have hD : cs.getD i 0 = cs[i] := by simp [List.getD, c1]
    have hw : IntKind.i64.wrap ((i : Int) + 1) = ((i + 1 : Nat) : Int) := by rw [IntWalk.i64_in _ (by omega)]; omega
    have hA := mayClash_ro ls hS i cs.length (by omega) hc
    ((repeat' (first
    | (show SQ _ _ _ _ _ _ _ _; first | apply sq_nil | (apply q_move; exact rfl; exact rfl) | (apply q_assign; exact rfl; exact rfl) | (apply q_pick_t; exact rfl; exact rfl; exact rfl; exact (by first | assumption | exact rfl)) | (apply q_pick_f; exact rfl; exact rfl; exact rfl; exact (by first | assumption | exact rfl)) | (apply q_add; exact rfl; exact rfl; exact rfl) | (apply q_eql; exact rfl; exact rfl; exact rfl) | (apply q_lss; exact rfl; exact rfl; exact rfl) | (apply q_ixd; exact rfl; exact rfl; exact rfl; exact (ty rfl); exact rfl; exact (by first | omega | (simp; done) | (simp; omega)); exact (by first | omega | (simp; done) | (simp; omega)); exact (by first | rfl | assumption)) | (apply q_ld1d; exact rfl; exact rfl; exact (ty rfl); exact rfl; exact rfl) | (apply q_g; exact rfl; exact rfl; exact rfl; exact (by assumption)) | (apply q_s; exact rfl; exact rfl; exact rfl; exact (by assumption); exact rfl))
    | (show SQ _ _ _ _ _ _ _ _; (first | (apply q_callU; exact rfl; exact rfl; exact rfl; exact FzL.of rfl; exact hA _)); (try simp only [put, rowsOf, plR, List.all_cons, selE, ovr, setH, del, cellsA, splice, isV, List.nil_append, List.cons_append, List.map_cons, List.map_nil, List.length_cons, List.length_nil, List.set_cons_zero, List.set_cons_succ, List.take_succ_cons, List.take_zero, List.take_nil, List.drop_succ_cons, List.drop_zero, List.drop_nil, List.append_nil, List.all_cons, List.all_nil, Bool.and_true, Bool.true_and, Bool.and_false, Bool.false_and, Nat.reduceAdd, Nat.zero_add, Nat.add_zero, Nat.reduceEqDiff, if_true, if_false, reduceIte]))
    | (show SQ _ _ _ _ _ _ _ _; apply q_gs; exact rfl; exact rfl; exact rfl; exact rfl; all_goals intro h)
    | (show AW _ _ _ _ _ _ _ _; first | refine aw_region ?_ | (refine aw_seqk ?_; intro K hK) | refine aw_block ?_ | (apply aw_cond_f; exact rfl; exact rfl) | (apply aw_cond_t; exact rfl; exact (by assumption)) | refine aw_ret ?_ | refine aw_skip ?_ | (apply aw_ite; exact rfl; all_goals intro h))
    | refine thn_n ?_
    | (refine hK _ _ _ ?_; clear hK K)
    | refine thn_r ?_
    | refine inb_n ?_
    | refine inb_r ?_)); all_goals (repeat (clear hK K)))
    all_goals first
      | (refine fin_r (fin_b rfl ?_)
         exact (anyR_true c1 (by rw [hD]; simp_all)).symm)
      | (refine ⟨i + 1, id, ⟨c1, fun j hj => ?_⟩, by omega, ?_⟩
         · by_cases hjq : j < i
           · exact hg j hjq
           · obtain rfl : j = i := by omega
             rw [hD]; simp_all
         · (try dsimp only); rw [← hw]; exact ⟨by (repeat (refine ⟨by first | exact lk_i rfl rfl | exact lk_d rfl rfl, ?_⟩)); exact trivial, by exact trivial, by rfl, by exact pin_0⟩)
  · have b1 : decide ((i : Int) < (cs.length : Int)) = false := by simpa using c1
    ((repeat' (first
    | (show SQ _ _ _ _ _ _ _ _; first | apply sq_nil | (apply q_assign; exact rfl; exact rfl) | (apply q_lss; exact rfl; exact rfl; exact rfl))
    | (show AW _ _ _ _ _ _ _ _; first | refine aw_region ?_ | (refine aw_seqk ?_; intro K hK) | (apply aw_cond_f; exact rfl; exact (by assumption)) | refine aw_ret ?_ | refine aw_exit ?_)
    | refine thn_n ?_
    | (refine hK _ _ _ ?_; clear hK K)
    | refine thn_e ?_
    | refine inb_same ?_
    | (clear hK K; refine hK _ _ _ ?_; clear hK K))); all_goals (repeat (clear hK K)))
    all_goals refine fin_r (fin_b rfl ?_)
    exact (anyR_false fun j hj => hg j (by omega)).symm
end
end Go.Proofs.Yteknfaldpajlpaa.Nb

namespace Go.Proofs.Yteknfaldpajlpaa.Fr
open Go.ChangeShapes Go.WideShapes Go.ChangeAt Go.RowKit Go.Deep
open Go.ChangeMaps (open_string shut_string)
open Go.Proofs.Yteknfaldpajlpaa.Nb Go.Proofs.Yteknfaldpajlpaa.In Go.Proofs.Yteknfaldpajlpaa.Il
set_option linter.unusedSimpArgs false
abbrev VRp (w : World) := Aw.VR (fun k => k < w.heap.size) w (fun _ => ⟨0, 0, 0, false⟩) Aw.NoS
def inC (x : Int) : List Value := [.int .i64 x]
def IsIntss (w : World) (v : Value) : Prop := ∃ ls : List (List Int), VRp w (.dsl 1 (nbL ls)) v ∧ ls.length ≤ 9223372036854775807 ∧ ∀ l ∈ ls, l.length ≤ 9223372036854775807
section
variable {P : Program} {H : Type} {enc : TypeId × Value → H} {W : World} {r : Reach} {b0 base : Nat} {spare : Nat → Bool} {held : Bool} {v : Value} {d : DataW H} {p : List MemPlace}
theorem sl_openT {t e : TypeId} {sz : Nat} {α : Type} [Inhabited α] {tV : α → List Aw.AV} {Q : α → Prop} {fuel : Nat} {x : DataW H × List MemPlace} (hU : P.underlying t = some (.slice e)) (hcells : P.cellsOf e = sz) (hsz : 0 < sz) (hlen : ∀ a, (tV a).length = sz)
    (hel : ∀ fuel cs x, DataW.trod enc P W base spare held fuel e cs = some x → ∃ a, cs.length = sz ∧ (∀ y ∈ cs, y.oneCell' = true) ∧ (∀ (j : Nat) cv y, (tV a)[j]? = some cv → cs[j]? = some y → VRp W cv y) ∧ Q a) (h : DataW.trod enc P W base spare held fuel t [v] = some x) :
    ∃ xs : List α, VRp W (.dsl sz (xs.map tV)) v ∧ xs.length ≤ 9223372036854775807 ∧ ∀ a ∈ xs, Q a := by
  rcases open_slice hU h with ⟨hc, _⟩ | ⟨a, len, cap, m, n, D, Pl, hc, hb, hl, hm, hmm, _, hels⟩
  · simp only [List.cons.injEq, and_true] at hc
    subst hc
    exact ⟨[], .dsl0 _ _ _ _, by simp, by simp⟩
  · simp only [List.cons.injEq, and_true] at hc
    subst hc
    have hlm : len ≤ m := by rw [hmm]; split <;> omega
    obtain ⟨f, hf2⟩ := choose_lt (n := len) (p := fun i (l : α) => ∃ cs : List Value, W.cells? base (a.add (i * sz)) sz = some cs ∧ cs.length = sz ∧ (∀ y ∈ cs, y.oneCell' = true) ∧ (∀ (j : Nat) cv y, (tV l)[j]? = some cv → cs[j]? = some y → VRp W cv y) ∧ Q l) fun i hi => by
      obtain ⟨cs', h1, h2⟩ := hels i (by omega)
      rw [hcells] at h1
      obtain ⟨l, g1, g2, g3, g4⟩ := hel _ _ _ h2
      exact ⟨l, cs', h1, g1, g2, g3, g4⟩
    obtain ⟨c, hc2⟩ := choose_lt (n := len) (p := fun i (cs : List Value) => W.cells? base (a.add (i * sz)) sz = some cs ∧ cs.length = sz ∧ (∀ y ∈ cs, y.oneCell' = true) ∧ (∀ (j : Nat) cv y, (tV (f i))[j]? = some cv → cs[j]? = some y → VRp W cv y) ∧ Q (f i)) fun i hi => hf2 i hi
    refine ⟨(List.range len).map f, ?_, by simp only [maxLen] at hm; simp; omega, fun l hl => ?_⟩
    · obtain ⟨b, off, spot⟩ := a
      cases len with
      | zero => exact .dsl0 _ _ _ _
      | succ len =>
        have hc0 : ∀ r, r < len + 1 → ∀ j, j < sz → W.cell? ((⟨b, off, spot⟩ : Addr).add (r * sz + j)) = (c r)[j]? := fun r hr j hj => by
          obtain ⟨_, _, hc⟩ := World.cells?_some (hc2 r hr).1
          rw [← add_add]
          exact hc j hj
        obtain ⟨y0, hy0⟩ : ∃ y0, (c 0)[0]? = some y0 := ⟨_, List.getElem?_eq_getElem (by rw [(hc2 0 (by omega)).2.1]; exact hsz)⟩
        have h2 : W.cell? ((⟨b, off, spot⟩ : Addr).add 0) = some y0 := by
          have := hc0 0 (by omega) 0 hsz
          simp only [Nat.zero_mul, Nat.add_zero] at this
          rw [this, hy0]
        have hspot : spot = none := by simpa [Addr.add] using World.cell?_spot h2
        subst hspot
        have hlt : b < W.heap.size := block_lt_of_cell h2
        have get : ∀ (r : Nat), r < len + 1 → ∀ (j : Nat) (cv : Aw.AV), (tV (f r))[j]? = some cv → ∃ y, (c r)[j]? = some y ∧ y.oneCell' = true ∧ VRp W cv y := fun r hr j cv h => by
          obtain ⟨_, g1, g2, g3, _⟩ := hc2 r hr
          have hj : j < (c r).length := by rw [g1, ← hlen (f r)]; exact (List.getElem?_eq_some_iff.1 h).1
          exact ⟨_, List.getElem?_eq_getElem hj, g2 _ (List.getElem_mem hj), g3 j cv _ h (List.getElem?_eq_getElem hj)⟩
        refine .dsl _ sz _ _ b off cap (fun r j => ((c r)[j]?).getD undef) (by simp) (by simpa using hl) hlt (fun r row hr => ?_) (fun r row j cv hr hj => ?_) (fun r row j cv hr hj => ?_)
        all_goals
          rw [List.getElem?_map, List.getElem?_map] at hr
          have hrl : r < len + 1 := by
            rcases Nat.lt_or_ge r (len + 1) with h | h
            · exact h
            · rw [List.getElem?_eq_none (by simpa using h)] at hr; simp at hr
          rw [List.getElem?_range hrl] at hr
          simp only [Option.map_some, Option.some.injEq] at hr
          subst hr
        · exact hlen _
        · obtain ⟨y, hy, hone, _⟩ := get r hrl j cv hj
          have hjl : j < sz := by rw [← hlen (f r)]; exact (List.getElem?_eq_some_iff.1 hj).1
          have := hc0 r hrl j hjl
          rw [Go.WideShapes.add_plain] at this
          simp only [hy, Option.getD_some]
          refine ⟨?_, hone⟩
          rw [Nat.add_assoc, this, hy]
        · obtain ⟨y, hy, hone, hv⟩ := get r hrl j cv hj
          simp only [hy, Option.getD_some]
          exact hv
    · obtain ⟨i, hi, rfl⟩ := List.mem_map.1 hl
      obtain ⟨_, _, _, _, _, hq⟩ := hf2 i (by simpa using hi)
      exact hq
end
section
variable {H : Type} {enc : TypeId × Value → H} {W : World} {r : Reach} {b0 base : Nat} {spare : Nat → Bool} {held : Bool} {v : Value} {d : DataW H} {p : List MemPlace}
theorem cellsInt : Try.prog.cellsOf 2 = 1 := by kernel_rfl
theorem cellsInts : Try.prog.cellsOf 23 = 1 := by kernel_rfl
theorem int_cells {fuel : Nat} {cs : List Value} {x : DataW H × List MemPlace} (h : DataW.trod enc Try.prog W base spare held fuel 2 cs = some x) : ∃ n : Int, cs = inC n ∧ (Lit.int .i64 n).wf = true := by
  obtain ⟨n, e, _, w⟩ := DataW.trod_int Try.underlying2 h
  exact ⟨n, e, w⟩
set_option maxRecDepth 100000 in
theorem isInt_of (hv : Value.okWide Try.prog W r b0 2 v) (h : DataW.Trod enc Try.prog W base spare held 2 v d p) : IsInt W v := by
  obtain ⟨x, rfl, _, _, wx⟩ := open_int Try.underlying2 hv h
  exact ⟨x, rfl, wx⟩
set_option maxRecDepth 100000 in
theorem ints_cells {fuel : Nat} {cs : List Value} {x : DataW H × List MemPlace} (h : DataW.trod enc Try.prog W base spare held fuel 23 cs = some x) : ∃ l : List Int, cs.length = 1 ∧ (∀ y ∈ cs, y.oneCell' = true) ∧ (∀ (j : Nat) cv y, ([Aw.AV.dsl 1 (l.map inL)] : List Aw.AV)[j]? = some cv → cs[j]? = some y → VRp W cv y) ∧ l.length ≤ 9223372036854775807 := by
  obtain ⟨a, n, c, hc⟩ : ∃ a n c, cs = [.slice a n c] := by
    rcases open_slice Try.underlying23 h with ⟨hc, _⟩ | ⟨a, len, cap, m, n, D, Pl, hc, _⟩
    · exact ⟨_, _, _, hc⟩
    · exact ⟨_, _, _, hc⟩
  subst hc
  obtain ⟨xs, h1, h2⟩ := sl_open (Q := fun n => (Lit.int .i64 n).wf = true) Try.underlying23 cellsInt (by omega) (fun _ => rfl) (fun a y hy => by simp [inC] at hy; subst hy; rfl) (fun _ _ _ h => int_cells h) h
  refine ⟨xs, rfl, fun y hy => ?_, fun j cv y hj hy => ?_, h1.2⟩
  · rw [List.mem_singleton] at hy; subst hy; rfl
  · match j with
    | 0 => cases hj; cases hy; exact h1.1
    | j + 1 => simp at hj
set_option maxRecDepth 100000 in
theorem isIntss_of (hv : Value.okWide Try.prog W r b0 22 v) (h : DataW.Trod enc Try.prog W base spare held 22 v d p) : IsIntss W v := by
  obtain ⟨fuel, hf⟩ := h
  rw [sl_cell Try.underlying22 hv] at hf
  obtain ⟨ls, h1, h2, h3⟩ := sl_openT (Q := fun l : List Int => l.length ≤ 9223372036854775807) (tV := fun l => [.dsl 1 (l.map inL)]) Try.underlying22 cellsInts (by omega) (fun _ => rfl) (fun _ _ _ h => ints_cells h) hf
  exact ⟨ls, h1, h2, h3⟩
end
end Go.Proofs.Yteknfaldpajlpaa.Fr

namespace Go.Proofs.Yteknfaldpajlpaa.Aw
open Go Go.RowKit
set_option linter.unusedVariables false
section
variable {P : Program} {N g n : Nat} {Q : Exit → Tp → Hp → Nat → Prop} {T : Tp} {H : Hp}
theorem Rel.unpl {Old : Nat → Prop} {wi : WI} {K : Nat → Prop} {m : Nat → Loc} {S : Nat → Prop} {w : World} {id ty sz : Nat} {rows : List (List AV)} (hr : Rel Old wi K m S H w) (hl : look H id = some ⟨ty, sz, true, rows⟩) :
    Rel Old wi K m S ((id, ⟨ty, sz, false, rows⟩) :: H) w := by
  have pt : ∀ {i : Nat} {b : Blk}, look ((id, (⟨ty, sz, false, rows⟩ : Blk)) :: H) i = some b → ∃ b0, look H i = some b0 ∧ b0.size = b.size := by
    intro i b h
    rw [look_cons] at h
    split at h
    · rename_i e; subst e; simp only [Option.some.injEq] at h; subst h; exact ⟨_, hl, rfl⟩
    · exact ⟨b, h, rfl⟩
  exact { hr with
    oown := (fun i b h => by obtain ⟨b0, h0, _⟩ := pt h; exact hr.oown i b0 h0)
    om := (fun i b h => by obtain ⟨b0, h0, e⟩ := pt h; rw [← e]; exact hr.om i b0 h0)
    inS := (fun i b h => by obtain ⟨b0, h0, _⟩ := pt h; exact hr.inS i b0 h0)
    own := (fun i b h => by
      rw [look_cons] at h
      split at h
      · rename_i e
        subst e
        simp only [Option.some.injEq] at h
        subst h
        rcases hr.own _ _ hl with ⟨h1, h2⟩ | ⟨h1, h2⟩
        · exact .inl ⟨h1, h2⟩
        · refine .inr ⟨h1, { nk := h2.nk, sz := h2.sz, cap := h2.cap, capm := h2.capm, plv := (fun h => by cases h), ex := ?_ }⟩
          obtain ⟨cur, g1, g2, g3⟩ := h2.ex
          refine ⟨cur, g1, g2, fun r row hrow => ⟨(g3 r row hrow).1, fun j cv hj => ?_⟩⟩
          obtain ⟨x, x1, x2, x3⟩ := (g3 r row hrow).2 j cv hj
          exact ⟨x, x1, x2, x3.mono (fun _ h => h) (fun _ _ => rfl) (fun i hi => by simp at hi) (fun i hi => rfl)⟩
      · exact hr.own i b h)
    inj := (fun i j bi bj hi hj => by
      obtain ⟨b0, h0, _⟩ := pt hi
      obtain ⟨b1, h1, _⟩ := pt hj
      exact hr.inj i j b0 b1 h0 h1) }
theorem aw_unpl {c : Code} (id : Nat) {ty sz : Nat} {rows : List (List AV)} (hl : look H id = some ⟨ty, sz, true, rows⟩) (h : AW P N g c Q T ((id, ⟨ty, sz, false, rows⟩) :: H) n) : AW P N g c Q T H n := fun Old wi K m a w hp hr ht =>
  h Old wi K m a w hp (hr.unpl hl) ht
end
def mv (a b : Nat) : Nat → Nat := fun z => if z = a then b else z
end Go.Proofs.Yteknfaldpajlpaa.Aw

namespace Go.Proofs.Yteknfaldpajlpaa.Il
open Go Go.RowKit Go.Proofs.Yteknfaldpajlpaa.Aw Go.Proofs.Yteknfaldpajlpaa.In
set_option linter.unusedSimpArgs false
set_option linter.unusedVariables false
attribute [local irreducible] AW SQ Step RO RC DE Thn InB
def up (z : Int) (i : Nat) : Int := z + (i : Int)
set_option maxHeartbeats 4000000 in
theorem heldInt64S_ro (l : Nat) (z : Int) (hn : l ≤ 1048576) (h0 : 0 ≤ z) (h1 : z ≤ 1073741824) (k : Nat) : RO Try.prog 26 [.dsl 1 (((List.range l).map (up z)).map inL), .v (.int .i64 z)] k (.v (.int .i64 (z + (l : Int)))) [] k := by
  generalize hx : (List.range l).map (up z) = xs
  have hl : l = xs.length := by rw [← hx]; simp
  refine RO.ofv' Try.func26 Try.ntmps26 rfl (goFn_of Try.func26 rfl (by kernel_rfl)) rfl rfl ?_
  ((repeat' (first
    | (show SQ _ _ _ _ _ _ _ _; first | apply sq_nil | (apply q_assign; exact rfl; exact rfl))
    | (show AW _ _ _ _ _ _ _ _; first | refine aw_region ?_ | (refine aw_seqk ?_; intro K hK) | refine aw_block ?_)
    | refine thn_n ?_
    | (refine hK _ _ _ ?_; clear hK K))); all_goals (repeat (clear hK K)))
  refine aw_loop (ρ := id) (ι := Nat) (fun i => ([(5, .v (.int .i64 i)), (1, .v (.int .i64 (z + (i : Int)))), (0, .dsl 1 (xs.map inL))], [], 0))
    (fun i => i ≤ xs.length) (fun i => xs.length - i) 0 (Nat.zero_le _) ⟨by (repeat (refine ⟨by first | exact lk_i rfl rfl | exact lk_i rfl (by (try dsimp only); first | rfl | omega | (rw [IntWalk.i64_in _ (by omega)]; first | rfl | omega | (push_cast; omega)) | (simp; done) | (simp; omega)) | exact lk_d rfl rfl, ?_⟩)); exact trivial, by exact trivial, by rfl, by exact pin_0⟩ ?_
  intro i hi
  by_cases c2 : i < xs.length
  · have b2 : decide ((i : Int) < ((xs.map inL).length : Int)) = true := by simpa using c2
    have hrow : (xs.map inL)[((i : Int)).toNat]? = some (inL (z + (i : Int))) := by subst hx; simp at c2; simp [c2, up]
    rw [inL_eq] at hrow
    have b3 : (z + (i : Int) != z + (i : Int)) = false := by simp
    have hw : IntKind.i64.wrap (z + (i : Int) + 1) = z + ((i + 1 : Nat) : Int) := by rw [IntWalk.i64_in _ (by omega)]; omega
    ((repeat' (first
    | (show SQ _ _ _ _ _ _ _ _; first | apply sq_nil | (apply q_move; exact rfl; exact rfl) | (apply q_assign; exact rfl; exact rfl) | (apply q_lend; exact rfl; exact rfl; exact (ty rfl); exact rfl) | (apply q_add; exact rfl; exact rfl; exact rfl) | (apply q_neq; exact rfl; exact rfl; exact rfl) | (apply q_lss; exact rfl; exact rfl; exact rfl) | (apply q_ixd; exact rfl; exact rfl; exact rfl; exact (ty rfl); exact rfl; exact (by first | omega | (simp; done) | (simp; omega)); exact (by first | omega | (simp; done) | (simp; omega)); exact (by first | rfl | assumption)) | (apply q_ld1d; exact rfl; exact rfl; exact (ty rfl); exact rfl; exact rfl))
    | (show AW _ _ _ _ _ _ _ _; first | refine aw_region ?_ | (refine aw_seqk ?_; intro K hK) | refine aw_block ?_ | (apply aw_cond_t; exact rfl; exact (by assumption)) | (apply aw_cond_f; exact rfl; exact (by assumption)) | refine aw_skip ?_)
    | refine thn_n ?_
    | (refine hK _ _ _ ?_; clear hK K)
    | refine inb_n ?_)); all_goals (repeat (clear hK K)))
    exact ⟨i + 1, id, c2, by omega, ⟨by (repeat (refine ⟨by first | exact lk_i rfl (by (try dsimp only); first | rfl | omega | (rw [IntWalk.i64_in _ (by omega)]; first | rfl | omega | (push_cast; omega)) | (simp; done) | (simp; omega)) | exact lk_d rfl rfl, ?_⟩)); exact trivial, by exact trivial, by rfl, by exact pin_0⟩⟩
  · have b2 : decide ((i : Int) < ((xs.map inL).length : Int)) = false := by simpa using c2
    ((repeat' (first
    | (show SQ _ _ _ _ _ _ _ _; first | apply sq_nil | (apply q_move; exact rfl; exact rfl) | (apply q_assign; exact rfl; exact rfl) | (apply q_lend; exact rfl; exact rfl; exact (ty rfl); exact rfl) | (apply q_lss; exact rfl; exact rfl; exact rfl))
    | (show AW _ _ _ _ _ _ _ _; first | refine aw_region ?_ | (refine aw_seqk ?_; intro K hK) | (apply aw_cond_f; exact rfl; exact (by assumption)) | refine aw_ret ?_ | refine aw_exit ?_)
    | refine thn_n ?_
    | (refine hK _ _ _ ?_; clear hK K)
    | refine thn_e ?_
    | refine inb_same ?_
    | (clear hK K; refine hK _ _ _ ?_; clear hK K))); all_goals (repeat (clear hK K)))
    all_goals refine fin_r (fin_i rfl ?_)
    all_goals (simp; omega)
theorem mkI_get {z : Int} {xs : List Int} {i : Nat} (h : i < xs.length) : ((ramp (up z) xs i).map inL)[i]? = some (inL xs[i]) := by
  rw [List.getElem?_map, ramp_get h]; rfl
theorem mkI_set {z : Int} {xs : List Int} {i : Nat} (h : i < xs.length) : ((ramp (up z) xs i).map inL).set i (inL (z + (i : Int))) = (ramp (up z) xs (i + 1)).map inL := by
  rw [← ramp_set h, List.map_set]; rfl
set_option maxHeartbeats 4000000 in
theorem markInt64S_rc (b : Nat) (xs : List Int) (z : Int) (hn : xs.length ≤ 1048576) (h0 : 0 ≤ z) (h1 : z ≤ 1073741824) (k : Nat) :
    RC Try.prog 16 [.sl b 0 xs.length, .v (.int .i64 z)] [(b, ⟨2, 1, true, xs.map inL⟩)] k (.v (.int .i64 (z + (xs.length : Int)))) [(b, some ⟨2, 1, true, ((List.range xs.length).map (up z)).map inL⟩)] k := by
  refine RC.ofc [b] 0 [.sl 0 0 xs.length, .v (.int .i64 z)] [(0, ⟨2, 1, true, xs.map inL⟩)] (.v (.int .i64 (z + (xs.length : Int)))) [(0, some ⟨2, 1, true, ((List.range xs.length).map (up z)).map inL⟩)] Try.func16 Try.ntmps16 rfl (goFn_of Try.func16 rfl (by kernel_rfl)) rfl rfl rfl rfl rfl rfl rfl rfl (by simp_all) rfl ?_
  ((repeat' (first
    | (show SQ _ _ _ _ _ _ _ _; first | apply sq_nil | (apply q_assign; exact rfl; exact rfl))
    | (show AW _ _ _ _ _ _ _ _; first | refine aw_region ?_ | (refine aw_seqk ?_; intro K hK) | refine aw_block ?_)
    | refine thn_n ?_
    | (refine hK _ _ _ ?_; clear hK K))); all_goals (repeat (clear hK K)))
  refine aw_loop (ρ := id) (ι := Nat) (fun i => ([(5, .v (.int .i64 i)), (1, .v (.int .i64 (z + (i : Int)))), (0, .sl 0 0 xs.length)], [(0, ⟨2, 1, true, (ramp (up z) xs i).map inL⟩)], 1))
    (fun i => i ≤ xs.length) (fun i => xs.length - i) 0 (Nat.zero_le _) ⟨by (repeat (refine ⟨by first | exact lk_i rfl rfl | exact lk_i rfl (by (try dsimp only); first | rfl | omega | (rw [IntWalk.i64_in _ (by omega)]; first | rfl | omega | (push_cast; omega)) | (simp; done) | (simp; omega)) | exact lk_s rfl rfl rfl rfl, ?_⟩)); exact trivial, by (repeat (refine ⟨by first | exact ⟨rfl, rfl, rfl⟩, ?_⟩)); exact trivial, by rfl, by (intro i hi; (try dsimp only); refine ⟨?_, ?_⟩ <;> first | rfl | omega | (simp at hi; omega) | (simp; omega))⟩ ?_
  intro i hi
  by_cases c2 : i < xs.length
  · have b2 : decide ((i : Int) < ((xs.length : Nat) : Int)) = true := by simpa using c2
    have hr2 : ((ramp (up z) xs i).map inL)[0 + ((i : Int)).toNat]? = some (inL xs[i]) := by simpa using mkI_get (z := z) c2
    rw [inL_eq] at hr2
    have hw : IntKind.i64.wrap (z + (i : Int) + 1) = z + ((i + 1 : Nat) : Int) := by rw [IntWalk.i64_in _ (by omega)]; omega
    ((repeat' (first
    | (show SQ _ _ _ _ _ _ _ _; first | apply sq_nil | (apply q_move; exact rfl; exact rfl) | (apply q_assign; exact rfl; exact rfl) | (apply q_lenl; exact rfl; exact rfl; exact (ty rfl); exact rfl) | (apply q_add; exact rfl; exact rfl; exact rfl) | (apply q_lss; exact rfl; exact rfl; exact rfl) | (apply q_ixl; exact rfl; exact rfl; exact rfl; exact (ty rfl); exact rfl; exact rfl; exact rfl; exact (by first | omega | (simp; done) | (simp; omega)); exact (by first | omega | (simp; done) | (simp; omega))))
    | (show SQ _ _ _ _ _ _ _ _; (first | (apply q_store; exact rfl; exact rfl; exact (ty rfl); exact rfl; exact (by first | rfl | assumption | ((try simp only [Nat.zero_add]); refine List.getElem?_set_self ?_; (try simp only [List.length_set]); assumption)); exact rfl; exact rfl; exact rfl)); (try simp only [put, rowsOf, plR, List.all_cons, selE, ovr, setH, del, cellsA, splice, isV, List.nil_append, List.cons_append, List.map_cons, List.map_nil, List.length_cons, List.length_nil, List.set_cons_zero, List.set_cons_succ, List.take_succ_cons, List.take_zero, List.take_nil, List.drop_succ_cons, List.drop_zero, List.drop_nil, List.append_nil, List.all_cons, List.all_nil, Bool.and_true, Bool.true_and, Bool.and_false, Bool.false_and, Nat.reduceAdd, Nat.zero_add, Nat.add_zero, Nat.reduceEqDiff, if_true, if_false, reduceIte]))
    | (show AW _ _ _ _ _ _ _ _; first | refine aw_region ?_ | (refine aw_seqk ?_; intro K hK) | refine aw_block ?_ | (apply aw_cond_t; exact rfl; exact (by assumption)) | refine aw_skip ?_)
    | refine thn_n ?_
    | (refine hK _ _ _ ?_; clear hK K)
    | refine inb_n ?_)); all_goals (repeat (clear hK K)))
    exact ⟨i + 1, id, c2, by omega, ⟨by (repeat (refine ⟨by first | exact lk_i rfl (by (try dsimp only); first | rfl | omega | (rw [IntWalk.i64_in _ (by omega)]; first | rfl | omega | (push_cast; omega)) | (simp; done) | (simp; omega)) | exact lk_s rfl rfl rfl rfl, ?_⟩)); exact trivial, by (repeat (refine ⟨by first | exact lkb rfl rfl rfl (by rw [← mkI_set c2]; simp; rfl) rfl, ?_⟩)); exact trivial, by rfl, by (intro i hi; (try dsimp only); refine ⟨?_, ?_⟩ <;> first | rfl | omega | (simp at hi; omega) | (simp; omega))⟩⟩
  · have b2 : decide ((i : Int) < ((xs.length : Nat) : Int)) = false := by simpa using c2
    obtain rfl : i = xs.length := by omega
    ((repeat' (first
    | (show SQ _ _ _ _ _ _ _ _; first | apply sq_nil | (apply q_move; exact rfl; exact rfl) | (apply q_assign; exact rfl; exact rfl) | (apply q_lenl; exact rfl; exact rfl; exact (ty rfl); exact rfl) | (apply q_lss; exact rfl; exact rfl; exact rfl))
    | (show AW _ _ _ _ _ _ _ _; first | refine aw_region ?_ | (refine aw_seqk ?_; intro K hK) | (apply aw_cond_f; exact rfl; exact (by assumption)) | refine aw_ret ?_ | refine aw_exit ?_)
    | refine thn_n ?_
    | (refine hK _ _ _ ?_; clear hK K)
    | refine thn_e ?_
    | refine inb_same ?_
    | (clear hK K; refine hK _ _ _ ?_; clear hK K))); all_goals (repeat (clear hK K)))
    exact finc (fun i => i) (.r1 _ _ (.tmp _ _ rfl)) rfl (fun _ _ => rfl) ⟨by rw [ramp_full]; rfl, trivial⟩ rfl
end Go.Proofs.Yteknfaldpajlpaa.Il

namespace Go.Proofs.Yteknfaldpajlpaa.Aw
open Go Go.RowKit
set_option linter.unusedVariables false
section
variable {Old : Nat → Prop} {wi : WI} {K : Nat → Prop} {m : Nat → Loc} {S : Nat → Prop} {H H' : Hp} {w : World}
theorem Rel.less (hs : ∀ i b, look H' i = some b → look H i = some b) (hr : Rel Old wi K m S H w) : Rel Old wi K m S H' w :=
  { hr with
    oown := (fun i b h => hr.oown i b (hs i b h))
    om := (fun i b h => hr.om i b (hs i b h))
    inS := (fun i b h => hr.inS i b (hs i b h))
    own := (fun i b h => hr.own i b (hs i b h))
    inj := (fun i j bi bj hi hj => hr.inj i j bi bj (hs i bi hi) (hs j bj hj)) }
end
section
variable {P : Program} {N g n n' : Nat} {all : Array Oper} {l : List Oper} {G : Tp → Hp → Nat → Prop} {Q : Exit → Tp → Hp → Nat → Prop} {T : Tp} {H H' : Hp} {d : Nat} {ty : TypeId} {pos : String} {after : Array Edge}
theorem sq_sub (hs : ∀ i b, look H' i = some b → look H i = some b) (h : SQ P N all l G T H' n) : SQ P N all l G T H n := fun Old wi K m a w Q hr ht hq => h Old wi K m a w Q (hr.less hs) ht hq
end
def nst (base : Nat) : List Blk → Hp
  | [] => []
  | b :: bs => (base, b) :: nst (base + 1) bs
theorem look_nst : ∀ (bs : List Blk) (base k : Nat), look (nst base bs) k = if base ≤ k then bs[k - base]? else none
  | [], base, k => by simp [nst, look_nil]
  | b :: bs, base, k => by
    rw [nst, look_cons, look_nst bs (base + 1) k]
    by_cases h : base = k
    · subst h; simp
    · rw [if_neg h]
      by_cases h2 : base ≤ k
      · rw [if_pos h2, if_pos (by omega), show k - base = (k - (base + 1)) + 1 by omega]; rfl
      · rw [if_neg h2, if_neg (by omega)]
theorem look_nst_at {bs : List Blk} {base j : Nat} : look (nst base bs) (base + j) = bs[j]? := by
  rw [look_nst, if_pos (by omega), Nat.add_sub_cancel_left]
theorem nst_keys : ∀ (bs : List Blk) (base : Nat), (nst base bs).map (·.1) = List.range' base bs.length
  | [], _ => rfl
  | b :: bs, base => by rw [nst, List.map_cons, nst_keys bs (base + 1), List.length_cons, List.range'_succ]
def NstIn (H : Hp) (base : Nat) (bs : List Blk) : Prop := ∀ (j : Nat) (b : Blk), bs[j]? = some b → look H (base + j) = some b
theorem nlt {bs : List Blk} {j : Nat} {b : Blk} (h : bs[j]? = some b) : j < bs.length := (List.getElem?_eq_some_iff.1 h).1
theorem NstIn.here {base : Nat} {bs : List Blk} {H : Hp} : NstIn (nst base bs ++ H) base bs := fun j b h => by rw [look_append, look_nst_at, h]; rfl
theorem NstIn.here' {base : Nat} {bs : List Blk} : NstIn (nst base bs) base bs := fun j b h => by rw [look_nst_at, h]
theorem NstIn.cons {base i : Nat} {b : Blk} {bs : List Blk} {H : Hp} (h : i < base ∨ base + bs.length ≤ i) (hn : NstIn H base bs) : NstIn ((i, b) :: H) base bs := fun j c hc => by
  have := nlt hc
  rw [look_cons, if_neg (by omega)]; exact hn j c hc
theorem NstIn.skip {base base' : Nat} {bs bs' : List Blk} {H : Hp} (h : base + bs.length ≤ base' ∨ base' + bs'.length ≤ base) (hn : NstIn H base bs) : NstIn (nst base' bs' ++ H) base bs := fun j c hc => by
  have := nlt hc
  rw [look_append, look_nst]
  by_cases h2 : base' ≤ base + j
  · rw [if_pos h2, List.getElem?_eq_none (by omega)]; exact hn j c hc
  · rw [if_neg h2]; exact hn j c hc
def outR (base : Nat) : List Nat → List (List AV)
  | [] => []
  | n :: ns => [.sl base 0 n] :: outR (base + 1) ns
theorem outR_len : ∀ (ns : List Nat) (base : Nat), (outR base ns).length = ns.length
  | [], _ => rfl
  | n :: ns, base => by rw [outR, List.length_cons, outR_len ns, List.length_cons]
theorem outR_get : ∀ (ns : List Nat) (base i : Nat), (outR base ns)[i]? = ns[i]?.map fun n => [.sl (base + i) 0 n]
  | [], base, i => by simp [outR]
  | n :: ns, base, 0 => rfl
  | n :: ns, base, i + 1 => by
    rw [outR, List.getElem?_cons_succ, outR_get ns (base + 1) i, List.getElem?_cons_succ, show base + 1 + i = base + (i + 1) by omega]
theorem outR_app : ∀ (ns ms : List Nat) (base : Nat), outR base (ns ++ ms) = outR base ns ++ outR (base + ns.length) ms
  | [], ms, base => rfl
  | n :: ns, ms, base => by rw [List.cons_append, outR, outR, outR_app ns ms (base + 1), List.cons_append, List.length_cons, show base + 1 + ns.length = base + (ns.length + 1) by omega]
def blkR (ity : TypeId) (rows : List (List AV)) : Blk := ⟨ity, 1, true, rows⟩
def nestB (ty : TypeId) (k : Nat) (Ls : List (List (List AV))) : Blk := ⟨ty, 1, false, outR (k + 1) (Ls.map List.length)⟩
theorem fz_outR {H : Hp} {ity : TypeId} : ∀ (Ls : List (List (List AV))) (base : Nat), NstIn H base (Ls.map (blkR ity)) → (outR base (Ls.map List.length)).mapM (fun r => r.mapM (fz 1 H)) = some (Ls.map fun rows => [.dsl 1 rows])
  | [], _, _ => rfl
  | rows :: Ls, base, h => by
    have h0 := h 0 (blkR ity rows) rfl
    have ih := fz_outR Ls (base + 1) fun j b hb => by
      have := h (j + 1) b (by simpa using hb)
      rwa [show base + (j + 1) = base + 1 + j by omega] at this
    rw [List.map_cons, outR, List.mapM_cons, ih, List.mapM_cons]
    have h0 : look H base = some (blkR ity rows) := h0
    have e : fz 1 H (.sl base 0 rows.length) = some (.dsl 1 rows) := by
      simp only [fz, h0, blkR, Nat.zero_add, Nat.le_refl, if_true, List.drop_zero, List.take_length]
    rw [e]; rfl
theorem Fz.nst {H : Hp} {k len : Nat} {ty ity : TypeId} {Ls : List (List (List AV))} {rows : List (List AV)} (hl : look H k = some (nestB ty k Ls)) (hn : NstIn H (k + 1) (Ls.map (blkR ity))) (he : len = Ls.length) (hr : (Ls.map fun rows => [.dsl 1 rows]) = rows) : Fz H (.sl k 0 len) (.dsl 1 rows) := by
  subst he hr
  refine fun _ _ _ _ _ _ _ hrel hv => fz_vr hrel 2 _ _ _ ?_ hv
  have hlen := outR_len (Ls.map List.length) (k + 1)
  rw [List.length_map] at hlen
  rw [fz, hl]
  simp only [nestB, Nat.zero_add, List.drop_zero]
  rw [if_pos (by omega), List.take_of_length_le (by omega), if_neg (by simp), fz_outR Ls (k + 1) hn]
  rfl
theorem RO.wide {P : Program} {f : FuncId} {args : List AV} {n n' n'' : Nat} {v : AV} {U : Hp} (h : RO P f args n v U n') (hn : n' ≤ n'') : RO P f args n v U n'' := by
  obtain ⟨h1, h2, h3, h4⟩ := h
  refine ⟨h1, by omega, fun i b hl => by have := h3 i b hl; omega, fun K w xs hk hv => (h4 K w xs hk hv).mono fun e w' ⟨r, m', he, hr⟩ => ⟨r, fun i => if i < n' then m' i else ⟨0, 0, 0, true⟩, he, ?_⟩⟩
  have hm : ∀ i, n ≤ i ∧ i < n' → (if i < n' then m' i else (⟨0, 0, 0, true⟩ : Loc)) = m' i := fun i hi => if_pos hi.2
  have hU : ∀ i b, look U i = some b → (if i < n' then m' i else (⟨0, 0, 0, true⟩ : Loc)) = m' i := fun i b hl => hm i (h3 i b hl)
  refine { below := hr.below, vr := hr.vr.mono (fun _ h => h) (fun _ _ => rfl) (fun i hi => ⟨hi.1, by omega⟩) hm, new := fun i g1 g2 hp => ?_, ids := fun i b hl => by have := h3 i b hl; omega, own := fun i b hl => ?_, inj := fun i j bi bj hi hj hne => ?_, nm := fun i b hl => ?_ }
  · split at hp
    · rename_i hlt; rw [if_pos hlt]; exact hr.new i g1 hlt hp
    · cases hp
  · have hs := h3 i b hl
    rcases hr.own i b hl with ⟨g1, g2⟩ | ⟨g1, g2⟩
    · exact .inl ⟨by dsimp only; rw [hU i b hl]; exact g1, g2⟩
    · refine .inr ⟨by dsimp only; rw [hU i b hl]; exact g1, ?_⟩
      have := g2.mono (w' := w') (m' := fun i => if i < n' then m' i else (⟨0, 0, 0, true⟩ : Loc)) (S' := fun i => n ≤ i ∧ i < n'') (fun _ _ => rfl) rfl (fun i hi => ⟨hi.1, by omega⟩) hm hs
      exact this
  · rw [hU i bi hi, hU j bj hj]; exact hr.inj i j bi bj hi hj hne
  · rw [hU i b hl]; exact hr.nm i b hl
/-! loops -/
theorem subH_nst {H : Hp} {ρ : Nat → Nat} {n' : Nat} : ∀ (bs : List Blk) (base : Nat) (R : Hp), (∀ (j : Nat) (b : Blk), bs[j]? = some b → look H (ρ (base + j)) = some (renB ρ b) ∧ idsOkB n' b = true ∧ Nat.blt (base + j) n' = true) → subH H ρ n' R → subH H ρ n' (nst base bs ++ R)
  | [], _, _, _, hR => hR
  | b :: bs, base, R, h, hR => ⟨h 0 b rfl, subH_nst bs (base + 1) R (fun j c hc => by
      have := h (j + 1) c (by simpa using hc)
      rwa [show base + (j + 1) = base + 1 + j by omega] at this) hR⟩
theorem injB_of {ρ : Nat → Nat} : ∀ {l : List Nat}, (∀ i ∈ l, ∀ j ∈ l, ρ i = ρ j → i = j) → injB ρ l = true
  | [], _ => rfl
  | i :: l, h => by
    rw [injB, Bool.and_eq_true]
    refine ⟨List.all_eq_true.2 fun j hj => ?_, injB_of fun a ha b hb => h a (List.mem_cons_of_mem _ ha) b (List.mem_cons_of_mem _ hb)⟩
    by_cases e : ρ i = ρ j
    · have := h i List.mem_cons_self j (List.mem_cons_of_mem _ hj) e
      subst this; simp
    · simp only [Bool.or_eq_true, Bool.not_eq_true']
      exact .inr (by cases hb : Nat.beq (ρ i) (ρ j) with | false => rfl | true => exact absurd (Nat.eq_of_beq_eq_true hb) e)
theorem outR_ren {ρ : Nat → Nat} : ∀ (ns : List Nat) (base base' : Nat), (∀ j, j < ns.length → ρ (base + j) = base' + j) → (outR base ns).map (renL ρ) = outR base' ns
  | [], _, _, _ => rfl
  | n :: ns, base, base', h => by
    have h0 : ρ base = base' := h 0 (by simp)
    rw [outR, outR, List.map_cons, outR_ren ns (base + 1) (base' + 1) fun j hj => by have := h (j + 1) (by simpa using hj); rw [show base + 1 + j = base + (j + 1) by omega, this]; omega]
    simp only [renL, renA, h0]
theorem outR_ids {n : Nat} : ∀ (ns : List Nat) (base : Nat), base + ns.length ≤ n → (outR base ns).all (idsOkL n) = true
  | [], _, _ => rfl
  | a :: ns, base, h => by
    rw [List.length_cons] at h
    rw [outR, List.all_cons, outR_ids ns (base + 1) (by omega)]
    simp only [idsOkL, idsOk, Nat.blt_eq, Bool.and_true]
    omega
end Go.Proofs.Yteknfaldpajlpaa.Aw

namespace Go.Proofs.Yteknfaldpajlpaa.Nb
open Go Go.RowKit Go.Proofs.Yteknfaldpajlpaa.Aw Go.Proofs.Yteknfaldpajlpaa.In Go.Proofs.Yteknfaldpajlpaa.Il
set_option linter.unusedSimpArgs false
set_option linter.unusedVariables false
set_option linter.unusedSectionVars false
attribute [local irreducible] AW SQ Step RO RC DE Thn InB
def szL : List (List Int) → Int → Int
  | [], z => z
  | l :: ls, z => if szB l.length z < 0 then -1 else szL ls (szB l.length z)
def szSS (ls : List (List Int)) (z : Int) : Int := if z - ls.length < 0 then -1 else szL ls (z - ls.length)
def totN (ls : List (List Int)) : Nat := (ls.map List.length).sum
theorem szL_in : ∀ {ls : List (List Int)} {z : Int}, z ≤ 1048576 → 0 ≤ z → ¬ szL ls z < 0 → (totN ls : Int) ≤ z ∧ ∀ l ∈ ls, l.length ≤ 1048576
  | [], z, h1, h0, _ => ⟨by simpa [totN] using h0, by simp⟩
  | l :: ls, z, h1, h0, h => by
    rw [szL] at h
    split at h
    · exact absurd h (by decide)
    · rename_i hc
      obtain ⟨g1, g2, g3, g4⟩ := szB_in h1 h0 hc
      obtain ⟨i1, i2⟩ := szL_in g3 g2 h
      have e : szB l.length z = z - l.length := by
        unfold szB at hc ⊢; split at hc
        · exact absurd hc (by decide)
        · rename_i h; rw [if_neg h]
      refine ⟨?_, fun x hx => ?_⟩
      · simp only [totN, List.map_cons, List.sum_cons] at i1 ⊢
        omega
      · rcases List.mem_cons.1 hx with rfl | hx
        · exact g1
        · exact i2 x hx
theorem szSS_in {ls : List (List Int)} (h : ¬ szSS ls 1048576 < 0) : NbS ls ∧ ls.length + totN ls ≤ 1048576 := by
  unfold szSS at h
  split at h
  · exact absurd h (by decide)
  · rename_i hc
    obtain ⟨h1, h2⟩ := szL_in (by omega) (by omega) h
    exact ⟨⟨by omega, h2⟩, by omega⟩
set_option maxHeartbeats 4000000 in
theorem szInt64SS_ro (ls : List (List Int)) (hn : ls.length ≤ 9223372036854775807) (hl : ∀ l ∈ ls, l.length ≤ 9223372036854775807) (k : Nat) : RO Try.prog 8 [.dsl 1 (nbL ls), .v (.int .i64 1048576)] k (.v (.int .i64 (szSS ls 1048576))) [] k := by
  have hnl := nbL_len ls
  have e1 : IntKind.i64.wrap (1048576 - ((nbL ls).length : Int)) = 1048576 - (ls.length : Int) := by rw [hnl]; exact IntWalk.i64_in _ (by omega)
  by_cases c0 : 1048576 - (ls.length : Int) < 0
  · have b0 : decide (IntKind.i64.wrap (1048576 - ((nbL ls).length : Int)) < 0) = true := by rw [e1]; simpa using c0
    have e : szSS ls 1048576 = -1 := by unfold szSS; rw [if_pos c0]
    rw [e]
    refine RO.ofv' Try.func8 Try.ntmps8 rfl (goFn_of Try.func8 rfl (by kernel_rfl)) rfl rfl ?_
    ((repeat' (first
    | (show SQ _ _ _ _ _ _ _ _; first | apply sq_nil | (apply q_move; exact rfl; exact rfl) | (apply q_assign; exact rfl; exact rfl) | (apply q_lend; exact rfl; exact rfl; exact (ty rfl); exact rfl) | (apply q_sub; exact rfl; exact rfl; exact rfl) | (apply q_lss; exact rfl; exact rfl; exact rfl))
    | (show AW _ _ _ _ _ _ _ _; first | refine aw_region ?_ | (refine aw_seqk ?_; intro K hK) | (apply aw_cond_t; exact rfl; exact (by assumption)) | refine aw_ret ?_)
    | refine thn_n ?_
    | (refine hK _ _ _ ?_; clear hK K)
    | refine thn_r ?_)); all_goals (repeat (clear hK K)))
    all_goals exact fin_r (fin_i rfl rfl)
  · have b0 : decide (IntKind.i64.wrap (1048576 - ((nbL ls).length : Int)) < 0) = false := by rw [e1]; simpa using c0
    have e : szSS ls 1048576 = szL ls (1048576 - ls.length) := by unfold szSS; rw [if_neg c0]
    rw [e]
    refine RO.ofv' Try.func8 Try.ntmps8 rfl (goFn_of Try.func8 rfl (by kernel_rfl)) rfl rfl ?_
    ((repeat' (first
    | (show SQ _ _ _ _ _ _ _ _; first | apply sq_nil | (apply q_move; exact rfl; exact rfl) | (apply q_assign; exact rfl; exact rfl) | (apply q_lend; exact rfl; exact rfl; exact (ty rfl); exact rfl) | (apply q_sub; exact rfl; exact rfl; exact rfl) | (apply q_lss; exact rfl; exact rfl; exact rfl))
    | (show AW _ _ _ _ _ _ _ _; first | refine aw_region ?_ | (refine aw_seqk ?_; intro K hK) | refine aw_block ?_ | (apply aw_cond_f; exact rfl; exact (by assumption)) | refine aw_skip ?_)
    | refine thn_n ?_
    | (refine hK _ _ _ ?_; clear hK K))); all_goals (repeat (clear hK K)))
    rw [e1]
    refine aw_loop (ρ := id) (ι := Nat × Int) (fun s => ([(5, .v (.int .i64 (s.1 : Int))), (1, .v (.int .i64 s.2)), (0, .dsl 1 (nbL ls))], [], 0))
      (fun s => s.1 ≤ ls.length ∧ 0 ≤ s.2 ∧ s.2 ≤ 1048576 ∧ szL (ls.drop s.1) s.2 = szL ls (1048576 - ls.length)) (fun s => ls.length - s.1) (0, 1048576 - (ls.length : Int)) ⟨Nat.zero_le _, by dsimp only; omega, by dsimp only; omega, rfl⟩ ⟨by (repeat (refine ⟨by first | exact lk_i rfl rfl | exact lk_d rfl rfl, ?_⟩)); exact trivial, by exact trivial, by rfl, by exact pin_0⟩ ?_
    rintro ⟨i, z⟩ ⟨hi, z0, z1, hg⟩
    dsimp only at hi z0 z1 hg
    by_cases c1 : i < ls.length
    · have b1 : decide ((i : Int) < ((nbL ls).length : Int)) = true := by rw [hnl]; simpa using c1
      have hrow := nbL_get c1
      have hS := szInt64S_ro ls[i] z (hl _ (List.getElem_mem c1)) z0 z1
      have hw : IntKind.i64.wrap ((i : Int) + 1) = ((i + 1 : Nat) : Int) := by rw [IntWalk.i64_in _ (by omega)]; omega
      rw [List.drop_eq_getElem_cons c1, szL] at hg
      by_cases c2 : szB ls[i].length z < 0
      · have b2 : decide (szB ls[i].length z < 0) = true := by simpa using c2
        rw [if_pos c2] at hg
        ((repeat' (first
    | (show SQ _ _ _ _ _ _ _ _; first | apply sq_nil | (apply q_move; exact rfl; exact rfl) | (apply q_assign; exact rfl; exact rfl) | (apply q_lend; exact rfl; exact rfl; exact (ty rfl); exact rfl) | (apply q_lss; exact rfl; exact rfl; exact rfl) | (apply q_ixd; exact rfl; exact rfl; exact rfl; exact (ty rfl); exact rfl; exact (by first | omega | (simp; done) | (simp; omega)); exact (by first | omega | (simp; done) | (simp; omega)); exact (by first | rfl | assumption)) | (apply q_ld1d; exact rfl; exact rfl; exact (ty rfl); exact rfl; exact rfl))
    | (show SQ _ _ _ _ _ _ _ _; (first | (apply q_callU; exact rfl; exact rfl; exact rfl; exact FzL.of rfl; exact hS _)); (try simp only [put, rowsOf, plR, List.all_cons, selE, ovr, setH, del, cellsA, splice, isV, List.nil_append, List.cons_append, List.map_cons, List.map_nil, List.length_cons, List.length_nil, List.set_cons_zero, List.set_cons_succ, List.take_succ_cons, List.take_zero, List.take_nil, List.drop_succ_cons, List.drop_zero, List.drop_nil, List.append_nil, List.all_cons, List.all_nil, Bool.and_true, Bool.true_and, Bool.and_false, Bool.false_and, Nat.reduceAdd, Nat.zero_add, Nat.add_zero, Nat.reduceEqDiff, if_true, if_false, reduceIte]))
    | (show AW _ _ _ _ _ _ _ _; first | refine aw_region ?_ | (refine aw_seqk ?_; intro K hK) | refine aw_block ?_ | (apply aw_cond_t; exact rfl; exact (by assumption)) | refine aw_ret ?_ | refine aw_skip ?_)
    | refine thn_n ?_
    | (refine hK _ _ _ ?_; clear hK K)
    | refine thn_r ?_
    | refine inb_r ?_)); all_goals (repeat (clear hK K)))
        all_goals exact fin_r (fin_i rfl hg)
      · have b2 : decide (szB ls[i].length z < 0) = false := by simpa using c2
        rw [if_neg c2] at hg
        have := szB_in z1 z0 c2
        ((repeat' (first
    | (show SQ _ _ _ _ _ _ _ _; first | apply sq_nil | (apply q_move; exact rfl; exact rfl) | (apply q_assign; exact rfl; exact rfl) | (apply q_lend; exact rfl; exact rfl; exact (ty rfl); exact rfl) | (apply q_add; exact rfl; exact rfl; exact rfl) | (apply q_lss; exact rfl; exact rfl; exact rfl) | (apply q_ixd; exact rfl; exact rfl; exact rfl; exact (ty rfl); exact rfl; exact (by first | omega | (simp; done) | (simp; omega)); exact (by first | omega | (simp; done) | (simp; omega)); exact (by first | rfl | assumption)) | (apply q_ld1d; exact rfl; exact rfl; exact (ty rfl); exact rfl; exact rfl))
    | (show SQ _ _ _ _ _ _ _ _; (first | (apply q_callU; exact rfl; exact rfl; exact rfl; exact FzL.of rfl; exact hS _)); (try simp only [put, rowsOf, plR, List.all_cons, selE, ovr, setH, del, cellsA, splice, isV, List.nil_append, List.cons_append, List.map_cons, List.map_nil, List.length_cons, List.length_nil, List.set_cons_zero, List.set_cons_succ, List.take_succ_cons, List.take_zero, List.take_nil, List.drop_succ_cons, List.drop_zero, List.drop_nil, List.append_nil, List.all_cons, List.all_nil, Bool.and_true, Bool.true_and, Bool.and_false, Bool.false_and, Nat.reduceAdd, Nat.zero_add, Nat.add_zero, Nat.reduceEqDiff, if_true, if_false, reduceIte]))
    | (show AW _ _ _ _ _ _ _ _; first | refine aw_region ?_ | (refine aw_seqk ?_; intro K hK) | refine aw_block ?_ | (apply aw_cond_t; exact rfl; exact (by assumption)) | (apply aw_cond_f; exact rfl; exact (by assumption)) | refine aw_skip ?_)
    | refine thn_n ?_
    | (refine hK _ _ _ ?_; clear hK K)
    | refine inb_n ?_)); all_goals (repeat (clear hK K)))
        all_goals (refine ⟨(i + 1, szB ls[i].length z), id, ⟨c1, by dsimp only; omega, by dsimp only; omega, hg⟩, by dsimp only; omega, ?_⟩; (try dsimp only); rw [← hw]; exact ⟨by (repeat (refine ⟨by first | exact lk_i rfl rfl | exact lk_d rfl rfl, ?_⟩)); exact trivial, by exact trivial, by rfl, by exact pin_0⟩)
    · have b1 : decide ((i : Int) < ((nbL ls).length : Int)) = false := by rw [hnl]; simpa using c1
      rw [List.drop_eq_nil_of_le (by omega), szL] at hg
      ((repeat' (first
    | (show SQ _ _ _ _ _ _ _ _; first | apply sq_nil | (apply q_move; exact rfl; exact rfl) | (apply q_assign; exact rfl; exact rfl) | (apply q_lend; exact rfl; exact rfl; exact (ty rfl); exact rfl) | (apply q_lss; exact rfl; exact rfl; exact rfl))
    | (show AW _ _ _ _ _ _ _ _; first | refine aw_region ?_ | (refine aw_seqk ?_; intro K hK) | (apply aw_cond_f; exact rfl; exact (by assumption)) | refine aw_ret ?_ | refine aw_exit ?_)
    | refine thn_n ?_
    | (refine hK _ _ _ ?_; clear hK K)
    | refine thn_e ?_
    | refine inb_same ?_
    | (clear hK K; refine hK _ _ _ ?_; clear hK K))); all_goals (repeat (clear hK K)))
      all_goals exact fin_r (fin_i rfl hg)
set_option maxHeartbeats 4000000 in
theorem eqInt64SS_ro (ls : List (List Int)) (hS : NbS ls) (k : Nat) : RO Try.prog 13 [.dsl 1 (nbL ls), .dsl 1 (nbL ls)] k (.v (.bool true)) [] k := by
  have hnl := nbL_len ls
  have b0 : (((nbL ls).length : Int) != ((nbL ls).length : Int)) = false := by simp
  have b3 : (!true) = false := rfl
  have hn := hS.n
  refine RO.ofv' Try.func13 Try.ntmps13 rfl (goFn_of Try.func13 rfl (by kernel_rfl)) rfl rfl ?_
  ((repeat' (first
    | (show SQ _ _ _ _ _ _ _ _; first | apply sq_nil | (apply q_move; exact rfl; exact rfl) | (apply q_assign; exact rfl; exact rfl) | (apply q_lend; exact rfl; exact rfl; exact (ty rfl); exact rfl) | (apply q_neq; exact rfl; exact rfl; exact rfl))
    | (show AW _ _ _ _ _ _ _ _; first | refine aw_region ?_ | (refine aw_seqk ?_; intro K hK) | refine aw_block ?_ | (apply aw_cond_f; exact rfl; exact (by assumption)) | refine aw_skip ?_)
    | refine thn_n ?_
    | (refine hK _ _ _ ?_; clear hK K))); all_goals (repeat (clear hK K)))
  refine aw_loop (ρ := id) (ι := Nat) (fun i => ([(5, .v (.int .i64 i)), (1, .dsl 1 (nbL ls)), (0, .dsl 1 (nbL ls))], [], 0))
    (fun i => i ≤ ls.length) (fun i => ls.length - i) 0 (Nat.zero_le _) ⟨by (repeat (refine ⟨by first | exact lk_i rfl rfl | exact lk_d rfl rfl, ?_⟩)); exact trivial, by exact trivial, by rfl, by exact pin_0⟩ ?_
  intro i hi
  by_cases c1 : i < ls.length
  · have b1 : decide ((i : Int) < ((nbL ls).length : Int)) = true := by rw [hnl]; simpa using c1
    have hrow := nbL_get c1
    have hE := eqInt64S_ro ls[i] (hS.m _ (List.getElem_mem c1))
    have hw : IntKind.i64.wrap ((i : Int) + 1) = ((i + 1 : Nat) : Int) := by rw [IntWalk.i64_in _ (by omega)]; omega
    ((repeat' (first
    | (show SQ _ _ _ _ _ _ _ _; first | apply sq_nil | (apply q_move; exact rfl; exact rfl) | (apply q_assign; exact rfl; exact rfl) | (apply q_lend; exact rfl; exact rfl; exact (ty rfl); exact rfl) | (apply q_add; exact rfl; exact rfl; exact rfl) | (apply q_lss; exact rfl; exact rfl; exact rfl))
    | (show DE _ _ _ _ _ _ _ _ _ _ _ _; first | (apply e_move; exact rfl; exact rfl; exact rfl) | (apply e_not; exact rfl; exact rfl; exact rfl) | (apply e_ixd; exact rfl; exact rfl; exact rfl; exact (ty rfl); exact rfl; exact (by first | omega | (simp; done) | (simp; omega)); exact (by first | omega | (simp; done) | (simp; omega)); exact (by first | rfl | assumption); exact rfl) | (apply e_ld1d; exact rfl; exact rfl; exact (ty rfl); exact rfl; exact rfl; exact rfl))
    | (show DE _ _ _ _ _ _ _ _ _ _ _ _; (first | (apply dr_nil; exact trivial) | (apply e_callU; exact rfl; exact rfl; exact rfl; exact FzL.of rfl; exact hE _; exact rfl)); (try simp only [put, rowsOf, plR, List.all_cons, selE, ovr, setH, del, cellsA, splice, isV, List.nil_append, List.cons_append, List.map_cons, List.map_nil, List.length_cons, List.length_nil, List.set_cons_zero, List.set_cons_succ, List.take_succ_cons, List.take_zero, List.take_nil, List.drop_succ_cons, List.drop_zero, List.drop_nil, List.append_nil, List.all_cons, List.all_nil, Bool.and_true, Bool.true_and, Bool.and_false, Bool.false_and, Nat.reduceAdd, Nat.zero_add, Nat.add_zero, Nat.reduceEqDiff, if_true, if_false, reduceIte]))
    | (show AW _ _ _ _ _ _ _ _; first | refine aw_region ?_ | (refine aw_seqk ?_; intro K hK) | refine aw_block ?_ | (apply aw_cond_f; exact rfl; exact rfl) | (apply aw_cond_t; exact rfl; exact (by assumption)) | refine aw_skip ?_ | refine aw_drawE (id := 6) [0, 0, 3, 7, 0, 0, 48, 112, 255, 511] [0, 0, 0, 1, 0, 0, 0, 1, 1, 0] mixed (by kernel_rfl) ?_)
    | refine thn_n ?_
    | (refine hK _ _ _ ?_; clear hK K)
    | refine inb_n ?_)); all_goals (repeat (clear hK K)))
    all_goals (refine ⟨i + 1, id, c1, by omega, ?_⟩; (try dsimp only); rw [← hw]; exact ⟨by (repeat (refine ⟨by first | exact lk_i rfl rfl | exact lk_d rfl rfl, ?_⟩)); exact trivial, by exact trivial, by rfl, by exact pin_0⟩)
  · have b1 : decide ((i : Int) < ((nbL ls).length : Int)) = false := by rw [hnl]; simpa using c1
    ((repeat' (first
    | (show SQ _ _ _ _ _ _ _ _; first | apply sq_nil | (apply q_move; exact rfl; exact rfl) | (apply q_assign; exact rfl; exact rfl) | (apply q_lend; exact rfl; exact rfl; exact (ty rfl); exact rfl) | (apply q_lss; exact rfl; exact rfl; exact rfl))
    | (show AW _ _ _ _ _ _ _ _; first | refine aw_region ?_ | (refine aw_seqk ?_; intro K hK) | (apply aw_cond_f; exact rfl; exact (by assumption)) | refine aw_ret ?_ | refine aw_exit ?_)
    | refine thn_n ?_
    | (refine hK _ _ _ ?_; clear hK K)
    | refine thn_e ?_
    | refine inb_same ?_
    | (clear hK K; refine hK _ _ _ ?_; clear hK K))); all_goals (repeat (clear hK K)))
    all_goals exact fin_r (fin_b rfl rfl)
def mkS (z : Int) : List (List Int) → List (List Int)
  | [] => []
  | l :: ls => (List.range l.length).map (up z) :: mkS (z + l.length) ls
theorem mkS_len : ∀ (ls : List (List Int)) (z : Int), (mkS z ls).length = ls.length
  | [], _ => rfl
  | l :: ls, z => by rw [mkS, List.length_cons, mkS_len ls, List.length_cons]
theorem mkS_get : ∀ (ls : List (List Int)) (z : Int) (i : Nat) (h : i < ls.length), (mkS z ls)[i]? = some ((List.range ls[i].length).map (up (z + (totN (ls.take i) : Int))))
  | l :: ls, z, 0, _ => by simp [mkS, totN]
  | l :: ls, z, i + 1, h => by
    have e : (z + (l.length : Int) + (totN (ls.take i) : Int)) = z + (totN (l :: ls.take i) : Int) := by
      simp only [totN, List.map_cons, List.sum_cons]; omega
    rw [mkS, List.getElem?_cons_succ, mkS_get ls (z + l.length) i (by simpa using h), e]; rfl
theorem totN_take {ls : List (List Int)} {i : Nat} (h : i < ls.length) : totN (ls.take (i + 1)) = totN (ls.take i) + ls[i].length := by
  unfold totN; rw [List.take_succ_eq_append_getElem h, List.map_append, List.sum_append]; simp
theorem totN_le (ls : List (List Int)) (i : Nat) : totN (ls.take i) ≤ totN ls := by
  unfold totN
  have := congrArg (fun l => (List.map List.length l).sum) (List.take_append_drop i ls)
  simp only [List.map_append, List.sum_append] at this
  omega
end Go.Proofs.Yteknfaldpajlpaa.Nb

namespace Go.Proofs.Yteknfaldpajlpaa.Nb
open Go Go.RowKit Go.Proofs.Yteknfaldpajlpaa.Aw Go.Proofs.Yteknfaldpajlpaa.In Go.Proofs.Yteknfaldpajlpaa.Il
set_option linter.unusedSimpArgs false
set_option linter.unusedVariables false
set_option linter.unusedSectionVars false
attribute [local irreducible] AW SQ Step RO RC DE Thn InB
def niB (k : Nat) (ls : List (List Int)) : Blk := ⟨23, 1, false, outR (k + 1) (ls.map List.length)⟩
def niT (ls : List (List Int)) : List Blk := ls.map fun l => ⟨2, 1, true, l.map inL⟩
theorem niT_len (ls : List (List Int)) : (niT ls).length = ls.length := List.length_map _
theorem niT_get {ls : List (List Int)} {j : Nat} {b : Blk} (h : (niT ls)[j]? = some b) : ∃ hj : j < ls.length, b = ⟨2, 1, true, ls[j].map inL⟩ := by
  have hj := nlt h
  rw [niT_len] at hj
  refine ⟨hj, ?_⟩
  simp only [niT, List.getElem?_map, List.getElem?_eq_getElem hj, Option.map_some, Option.some.injEq] at h
  exact h.symm
theorem renB_pl (ρ : Nat → Nat) {b : Blk} (h : b.pl = true) : renB ρ b = b := by
  obtain ⟨ty, sz, pl, rows⟩ := b
  dsimp only at h
  subst h; rfl
theorem sub_nest {g n' : Nat} {T : Tp} {H : Hp} {ρ : Nat → Nat} {T' : Tp} {b : Blk} {bs : List Blk} (ht : subT T ρ n' T') (hb : Aw.look H (ρ 0) = some (renB ρ b)) (hi : idsOkB n' b = true)
    (hn : ∀ (j : Nat) (c : Blk), bs[j]? = some c → Aw.look H (ρ (1 + j)) = some c ∧ c.pl = true) (hl : 1 + bs.length ≤ n') (hj : ∀ i j, i ≤ bs.length → j ≤ bs.length → ρ i = ρ j → i = j) (hp : PinOk g ρ n') : Sub g T H ρ T' ((0, b) :: nst 1 bs) n' := by
  refine ⟨ht, ⟨⟨hb, hi, ?_⟩, ?_⟩, ?_, hp⟩
  · rw [Nat.blt_eq]; omega
  · have := subH_nst (H := H) (ρ := ρ) (n' := n') bs 1 [] (fun j c hc => ?_) trivial
    · rwa [List.append_nil] at this
    · obtain ⟨h1, h2⟩ := hn j c hc
      have := nlt hc
      refine ⟨by rw [renB_pl ρ h2]; exact h1, ?_, by rw [Nat.blt_eq]; omega⟩
      obtain ⟨ty, sz, pl, rows⟩ := c
      dsimp only at h2
      subst h2; rfl
  · refine injB_of fun a ha c hc => hj a c ?_ ?_
    · rw [List.map_cons, nst_keys] at ha
      rcases List.mem_cons.1 ha with rfl | ha
      · exact Nat.zero_le _
      · have := List.mem_range'_1.1 ha; omega
    · rw [List.map_cons, nst_keys] at hc
      rcases List.mem_cons.1 hc with rfl | hc
      · exact Nat.zero_le _
      · have := List.mem_range'_1.1 hc; omega
def rowsT (ls : List (List Int)) (i : Nat) : List (List AV) := outR 1 ((ls.take i).map List.length) ++ List.replicate (ls.length - i) [.v (.slice none 0 0)]
theorem rowsT_len {ls : List (List Int)} {i : Nat} (h : i ≤ ls.length) : (rowsT ls i).length = ls.length := by
  rw [rowsT, List.length_append, outR_len, List.length_map, List.length_take, List.length_replicate]; omega
theorem rowsT_get {ls : List (List Int)} {i : Nat} (h : i < ls.length) : (rowsT ls i)[i]? = some [.v (.slice none 0 0)] := by
  have : (outR 1 ((ls.take i).map List.length)).length = i := by rw [outR_len, List.length_map, List.length_take]; omega
  rw [rowsT, List.getElem?_append_right (by omega), this, Nat.sub_self, List.getElem?_replicate, if_pos (by omega)]
theorem rowsT_step {ls : List (List Int)} {i X : Nat} (h : i < ls.length) (hX : 1 + i ≠ X) : (rowsT ls (i + 1)).map (renL (mv (1 + i) X)) = (rowsT ls i).set i [.sl X 0 ls[i].length] := by
  have hl : (outR 1 ((ls.take i).map List.length)).length = i := by rw [outR_len, List.length_map, List.length_take]; omega
  have hl2 : ((ls.take i).map List.length).length = i := by rw [List.length_map, List.length_take]; omega
  have e1 : outR 1 ((ls.take (i + 1)).map List.length) = outR 1 ((ls.take i).map List.length) ++ [[.sl (1 + i) 0 ls[i].length]] := by
    rw [List.take_succ_eq_append_getElem h, List.map_append, outR_app, hl2]; rfl
  have e2 : List.replicate (ls.length - i) [AV.v (.slice none 0 0)] = [.v (.slice none 0 0)] :: List.replicate (ls.length - (i + 1)) [.v (.slice none 0 0)] := by
    rw [show ls.length - i = (ls.length - (i + 1)) + 1 by omega]; rfl
  have e3 : (outR 1 ((ls.take i).map List.length)).map (renL (mv (1 + i) X)) = outR 1 ((ls.take i).map List.length) :=
    outR_ren _ 1 1 fun j hj => by rw [hl2] at hj; rw [mv, if_neg (by omega)]
  have e4 : (List.replicate (ls.length - (i + 1)) [AV.v (.slice none 0 0)]).map (renL (mv (1 + i) X)) = List.replicate (ls.length - (i + 1)) [.v (.slice none 0 0)] := by
    rw [List.map_replicate]; rfl
  rw [rowsT, e1, List.map_append, List.map_append, e3, e4, rowsT, e2, List.set_append_right _ _ (by omega), hl, Nat.sub_self, List.set_cons_zero]
  simp only [List.map_cons, List.map_nil, renL, renA, mv, if_true, List.append_assoc, List.singleton_append]
theorem rowsT_ids {ls : List (List Int)} {i n : Nat} (h : i ≤ ls.length) (hn : 1 + ls.length ≤ n) : (rowsT ls i).all (idsOkL n) = true := by
  rw [rowsT, List.all_append, outR_ids _ _ (by rw [List.length_map, List.length_take]; omega), Bool.true_and, List.all_eq_true]
  intro r hr
  rw [(List.mem_replicate.1 hr).2]; rfl
theorem shH_nst (n : Nat) : ∀ (bs : List Blk) (base : Nat), (∀ b ∈ bs, b.pl = true) → shH n (nst base bs) = nst (base + n) bs
  | [], _, _ => rfl
  | b :: bs, base, h => by
    have := shH_nst n bs (base + 1) fun c hc => h c (List.mem_cons_of_mem _ hc)
    rw [nst, nst, ← (by omega : base + 1 + n = base + n + 1), ← this]
    show (base + n, renB _ b) :: _ = _
    rw [renB_pl _ (h b List.mem_cons_self)]; rfl
theorem shH_ni (m : Nat) (ls : List (List Int)) : shH m ((0, niB 0 ls) :: nst 1 (niT ls)) = (m, niB m ls) :: nst (m + 1) (niT ls) := by
  have h1 := shH_nst m (niT ls) 1 fun b hb => by
    obtain ⟨j, hj⟩ := List.getElem?_of_mem hb
    obtain ⟨_, rfl⟩ := niT_get hj; rfl
  have h2 : renB (fun i => i + m) (niB 0 ls) = niB m ls := by
    unfold niB renB
    dsimp only
    rw [outR_ren _ 1 (m + 1) fun j hj => by omega]
  show (0 + m, renB _ (niB 0 ls)) :: shH m (nst 1 (niT ls)) = _
  rw [h1, h2, Nat.zero_add, Nat.add_comm 1 m]
theorem full_ni (ls : List (List Int)) : fullB ((0, niB 0 ls) :: nst 1 (niT ls)) (ls.length + 1) = true := by
  have hsz : ∀ (bs : List Blk) (base n : Nat), (∀ b ∈ bs, b.size = 1) → base + bs.length ≤ n → (nst base bs).all (fun p => Nat.blt p.1 n && !Nat.beq p.2.size 1000003) = true := by
    intro bs
    induction bs with
    | nil => intros; rfl
    | cons b bs ih =>
      intro base n h hn
      rw [List.length_cons] at hn
      rw [nst, List.all_cons, ih (base + 1) n (fun c hc => h c (List.mem_cons_of_mem _ hc)) (by omega), Bool.and_true]
      dsimp only
      rw [h b List.mem_cons_self]
      have : Nat.blt base n = true := by rw [Nat.blt_eq]; omega
      rw [this]; rfl
  unfold fullB
  rw [Bool.and_eq_true, List.all_cons, hsz (niT ls) 1 _ (fun b hb => by
    obtain ⟨j, hj⟩ := List.getElem?_of_mem hb
    obtain ⟨_, rfl⟩ := niT_get hj; rfl) (by rw [niT_len]; omega)]
  refine ⟨?_, List.all_eq_true.2 fun i hi => ?_⟩
  · have : Nat.blt 0 (ls.length + 1) = true := by rw [Nat.blt_eq]; omega
    dsimp only; rw [this]; rfl
  · have hi := List.mem_range.1 hi
    rw [look_cons]
    split
    · rfl
    · rw [look_nst, if_pos (by omega), List.getElem?_eq_getElem (by rw [niT_len]; omega)]; rfl
theorem nd_ni (ls : List (List Int)) : ((0, niB 0 ls) :: nst 1 (niT ls)).all (fun p => noDeepB p.2) = true := by
  have h1 : ∀ (ns : List Nat) (base : Nat), (outR base ns).all noDeepL = true := by
    intro ns
    induction ns with
    | nil => intro base; rfl
    | cons n ns ih => intro base; rw [outR, List.all_cons, ih]; rfl
  have h2 : ∀ (bs : List Blk) (base : Nat), (∀ b ∈ bs, noDeepB b = true) → (nst base bs).all (fun p => noDeepB p.2) = true := by
    intro bs
    induction bs with
    | nil => intros; rfl
    | cons b bs ih => intro base h; rw [nst, List.all_cons, ih _ fun c hc => h c (List.mem_cons_of_mem _ hc), h b List.mem_cons_self]; rfl
  rw [List.all_cons, h2 _ _ fun b hb => by
    obtain ⟨j, hj⟩ := List.getElem?_of_mem hb
    obtain ⟨_, rfl⟩ := niT_get hj; rfl, Bool.and_true]
  exact h1 _ _
theorem fin_ni {P : Program} {rs : List ResultVar} {X B : Nat} {T : Tp} {H : Hp} {ls : List (List Int)} {u v : AV} (ht : ResV P T H rs u) (hu : u = renA (fun z => if z = 0 then X else B + (z - 1)) v) (hi : idsOk (ls.length + 1) v = true) (hd : noDeep v = true)
    (hb : Aw.look H X = some ⟨23, 1, false, outR B (ls.map List.length)⟩) (hn : NstIn H B (niT ls)) (hx : X < B ∨ B + ls.length ≤ X) : FinOk P rs v ((0, niB 0 ls) :: nst 1 (niT ls)) (ls.length + 1) T H := by
  have hs : Sub 0 T H (fun z => if z = 0 then X else B + (z - 1)) [] ((0, niB 0 ls) :: nst 1 (niT ls)) (ls.length + 1) := by
    refine sub_nest trivial ?_ ?_ (fun j c hc => ?_) (by rw [niT_len]; omega) (fun i j hi hj he => ?_) pin_0
    · rw [if_pos rfl, hb]
      unfold niB renB
      dsimp only
      rw [outR_ren _ 1 B fun j hj => by rw [if_neg (by omega)]; omega]
    · exact outR_ids _ _ (by rw [List.length_map]; omega)
    · obtain ⟨_, rfl⟩ := niT_get hc
      refine ⟨?_, rfl⟩
      rw [if_neg (by omega), show B + (1 + j - 1) = B + j by omega]
      exact hn j _ hc
    · rw [niT_len] at hi hj
      split at he <;> split at he <;> omega
  exact ⟨⟨u, _, ht, hu, hs.h, hs.i⟩, hi, hd, nd_ni ls⟩
set_option maxHeartbeats 4000000 in
theorem toInt64SS_ro (ls : List (List Int)) (hS : NbS ls) (k : Nat) : RO Try.prog 10 [.dsl 1 (nbL ls)] k (.sl k 0 ls.length) ((k, niB k ls) :: nst (k + 1) (niT ls)) (k + 1048578) := by
  have hnl := nbL_len ls
  have hn := hS.n
  refine RO.wide (n' := k + (ls.length + 1)) (RO.ofm (.sl 0 0 ls.length) ((0, niB 0 ls) :: nst 1 (niT ls)) (ls.length + 1) Try.func10 Try.ntmps10 rfl (goFn_of Try.func10 rfl (by kernel_rfl)) rfl rfl (by simp [renA]) (shH_ni k ls) (full_ni ls) ?_) (by omega)
  ((repeat' (first
    | (show SQ _ _ _ _ _ _ _ _; first | apply sq_nil | (apply q_move; exact rfl; exact rfl) | (apply q_assign; exact rfl; exact rfl) | (apply q_lend; exact rfl; exact rfl; exact (ty rfl); exact rfl))
    | (show SQ _ _ _ _ _ _ _ _; (first | (apply q_mks; exact rfl; exact rfl; exact rfl; exact (ty rfl); exact rfl; exact (by first | omega | (simp; done) | (simp; omega)); exact (by first | omega | (simp; done) | (simp; omega)); exact (by first | omega | (simp; done) | (simp; omega)); exact (by first | omega | (simp; done) | (simp; omega)); exact rfl; exact rfl)); (try simp only [put, rowsOf, plR, List.all_cons, selE, ovr, setH, del, cellsA, splice, isV, List.nil_append, List.cons_append, List.map_cons, List.map_nil, List.length_cons, List.length_nil, List.set_cons_zero, List.set_cons_succ, List.take_succ_cons, List.take_zero, List.take_nil, List.drop_succ_cons, List.drop_zero, List.drop_nil, List.append_nil, List.all_cons, List.all_nil, Bool.and_true, Bool.true_and, Bool.and_false, Bool.false_and, Nat.reduceAdd, Nat.zero_add, Nat.add_zero, Nat.reduceEqDiff, if_true, if_false, reduceIte]))
    | (show AW _ _ _ _ _ _ _ _; first | refine aw_region ?_ | (refine aw_seqk ?_; intro K hK) | refine aw_block ?_)
    | refine thn_n ?_
    | (refine hK _ _ _ ?_; clear hK K))); all_goals (repeat (clear hK K)))
  refine aw_unpl 0 rfl ?_
  refine aw_loop (ρ := id) (ι := Nat) (fun i => ([(4, .v (.int .i64 i)), (3, .sl 0 0 ls.length), (0, .dsl 1 (nbL ls))], (0, ⟨23, 1, false, rowsT ls i⟩) :: nst 1 ((niT ls).take i), 1048578))
    (fun i => i ≤ ls.length) (fun i => ls.length - i) 0 (Nat.zero_le _) ?_ ?_
  · refine sub_nest (by (repeat (refine ⟨by first | exact lk_i rfl rfl | exact lk_i rfl (by (try dsimp only); first | rfl | omega | (simp; omega)) | exact lk_d rfl rfl | exact lk_s rfl rfl rfl rfl | exact lk_s rfl rfl (by (try dsimp only); first | rfl | omega | (simp; omega)) rfl, ?_⟩)); exact trivial) ?_ (rowsT_ids (n := 1048578) (Nat.zero_le _) (by omega)) (fun j c hc => by simp at hc) (by dsimp only; simp) (fun i j _ _ h => h) pin_0
    show some _ = some _
    rw [rowsT, hnl]
    unfold renB
    dsimp only
    rw [Int.toNat_natCast, Nat.sub_zero]
    show _ = some (Blk.mk _ _ _ ((List.replicate ls.length [AV.v (.slice none 0 0)]).map (renL id)))
    rw [List.map_replicate]; rfl
  intro i hi
  by_cases c1 : i < ls.length
  · have b1 : decide ((i : Int) < ((nbL ls).length : Int)) = true := by rw [hnl]; simpa using c1
    have hrow := nbL_get c1
    have hE := toInt64S_ro ls[i] (hS.m _ (List.getElem_mem c1))
    have hw : IntKind.i64.wrap ((i : Int) + 1) = ((i + 1 : Nat) : Int) := by rw [IntWalk.i64_in _ (by omega)]; omega
    have hr2 : (rowsT ls i)[0 + ((i : Int)).toNat]? = some [.v (.slice none 0 0)] := by rw [Nat.zero_add, Int.toNat_natCast]; exact rowsT_get c1
    have hrl := rowsT_len (ls := ls) hi
    have hlen2 : ((i : Int)).toNat < (rowsT ls i).length := by rw [hrl]; exact c1
    ((repeat' (first
    | (show SQ _ _ _ _ _ _ _ _; first | apply sq_nil | (apply q_move; exact rfl; exact rfl) | (apply q_assign; exact rfl; exact rfl) | (apply q_lend; exact rfl; exact rfl; exact (ty rfl); exact rfl) | (apply q_add; exact rfl; exact rfl; exact rfl) | (apply q_lss; exact rfl; exact rfl; exact rfl) | (apply q_ixd; exact rfl; exact rfl; exact rfl; exact (ty rfl); exact rfl; exact (by first | omega | (simp; done) | (simp; omega)); exact (by first | omega | (simp; done) | (simp; omega)); exact (by first | rfl | assumption)) | (apply q_ixl; exact rfl; exact rfl; exact rfl; exact (ty rfl); exact rfl; exact rfl; exact rfl; exact (by first | omega | (simp; done) | (simp; omega)); exact (by first | omega | (simp; done) | (simp; omega))) | (apply q_ld1d; exact rfl; exact rfl; exact (ty rfl); exact rfl; exact rfl))
    | (show SQ _ _ _ _ _ _ _ _; (first | (apply q_store; exact rfl; exact rfl; exact (ty rfl); exact rfl; exact (by first | rfl | assumption | ((try simp only [Nat.zero_add]); refine List.getElem?_set_self ?_; (try simp only [List.length_set]); assumption)); exact rfl; exact rfl; exact rfl) | (apply q_callU; exact rfl; exact rfl; exact rfl; exact FzL.of rfl; exact hE _)); (try simp only [put, rowsOf, plR, List.all_cons, selE, ovr, setH, del, cellsA, splice, isV, List.nil_append, List.cons_append, List.map_cons, List.map_nil, List.length_cons, List.length_nil, List.set_cons_zero, List.set_cons_succ, List.take_succ_cons, List.take_zero, List.take_nil, List.drop_succ_cons, List.drop_zero, List.drop_nil, List.append_nil, List.all_cons, List.all_nil, Bool.and_true, Bool.true_and, Bool.and_false, Bool.false_and, Nat.reduceAdd, Nat.zero_add, Nat.add_zero, Nat.reduceEqDiff, if_true, if_false, reduceIte]))
    | (show AW _ _ _ _ _ _ _ _; first | refine aw_region ?_ | (refine aw_seqk ?_; intro K hK) | refine aw_block ?_ | (apply aw_cond_t; exact rfl; exact (by assumption)) | refine aw_skip ?_)
    | refine thn_n ?_
    | (refine hK _ _ _ ?_; clear hK K)
    | refine inb_n ?_)); all_goals (repeat (clear hK K)))
    refine ⟨i + 1, mv (1 + i) 1048578, c1, by omega, ?_⟩
    (try dsimp only)
    rw [← hw]
    refine sub_nest ⟨lk_i rfl rfl, lk_s rfl (by rw [mv, if_neg (by omega)]) rfl rfl, lk_d rfl rfl, trivial⟩ ?_ (rowsT_ids c1 (by omega)) (fun j c hc => ?_) (by rw [List.length_take, niT_len]; omega) (fun a b ha hb he => ?_) pin_0
    · rw [show mv (1 + i) 1048578 0 = 0 from if_neg (by omega)]
      unfold renB
      dsimp only
      rw [rowsT_step c1 (by omega)]; rfl
    · have hj := nlt hc
      rw [List.length_take, niT_len] at hj
      rw [List.getElem?_take_of_lt (by omega)] at hc
      obtain ⟨hj2, rfl⟩ := niT_get hc
      refine ⟨?_, rfl⟩
      by_cases e : j = i
      · subst e
        rw [show mv (1 + j) 1048578 (1 + j) = 1048578 from if_pos rfl]; rfl
      · rw [show mv (1 + i) 1048578 (1 + j) = 1 + j from if_neg (by omega), look_cons, if_neg (by omega), look_cons, if_neg (by omega), look_del_ne _ (by omega), look_nst_at, List.getElem?_take_of_lt (by omega)]
        exact hc
    · rw [List.length_take, niT_len] at ha hb
      unfold mv at he
      split at he <;> split at he <;> omega
  · have b1 : decide ((i : Int) < ((nbL ls).length : Int)) = false := by rw [hnl]; simpa using c1
    obtain rfl : i = ls.length := by omega
    ((repeat' (first
    | (show SQ _ _ _ _ _ _ _ _; first | apply sq_nil | (apply q_move; exact rfl; exact rfl) | (apply q_assign; exact rfl; exact rfl) | (apply q_lend; exact rfl; exact rfl; exact (ty rfl); exact rfl) | (apply q_lss; exact rfl; exact rfl; exact rfl))
    | (show AW _ _ _ _ _ _ _ _; first | refine aw_region ?_ | (refine aw_seqk ?_; intro K hK) | (apply aw_cond_f; exact rfl; exact (by assumption)) | refine aw_ret ?_ | refine aw_exit ?_)
    | refine thn_n ?_
    | (refine hK _ _ _ ?_; clear hK K)
    | refine thn_e ?_
    | refine inb_same ?_
    | (clear hK K; refine hK _ _ _ ?_; clear hK K))); all_goals (repeat (clear hK K)))
    refine fin_r (fin_ni (X := 0) (B := 1) (.r1 _ _ (.tmp _ _ rfl)) ?_ ?_ rfl ?_ ?_ (by omega))
    · simp [renA]
    · simp [idsOk, Nat.blt_eq]
    · show some _ = some _
      rw [rowsT, List.take_length, Nat.sub_self, List.replicate_zero, List.append_nil]
    · rw [List.take_of_length_le (by rw [niT_len]; omega)]
      exact .cons (by omega) .here'
end Go.Proofs.Yteknfaldpajlpaa.Nb

namespace Go.Proofs.Yteknfaldpajlpaa.Nb
open Go Go.RowKit Go.Proofs.Yteknfaldpajlpaa.Aw Go.Proofs.Yteknfaldpajlpaa.In Go.Proofs.Yteknfaldpajlpaa.Il
set_option linter.unusedSimpArgs false
set_option linter.unusedVariables false
set_option linter.unusedSectionVars false
attribute [local irreducible] AW SQ Step RO RC DE Thn InB
def someE (H : Hp) : Ef := H.map fun p => (p.1, some p.2)
theorem nmC_range {b k n i : Nat} (h : i ≤ n) : nmC (List.range' b (n + 1)) k i = b + i := by
  unfold nmC
  rw [List.getElem?_range' (by omega)]
  dsimp only; omega
theorem renH_nst {σ : Nat → Nat} : ∀ (bs : List Blk) (base base' : Nat), (∀ b ∈ bs, b.pl = true) → (∀ j, j < bs.length → σ (base + j) = base' + j) → renH σ (nst base bs) = nst base' bs
  | [], _, _, _, _ => rfl
  | b :: bs, base, base', h, hj => by
    have h0 : σ base = base' := hj 0 (by simp)
    have := renH_nst (σ := σ) bs (base + 1) (base' + 1) (fun c hc => h c (List.mem_cons_of_mem _ hc)) fun j hl => by
      have := hj (j + 1) (by simpa using hl)
      rw [show base + 1 + j = base + (j + 1) by omega, this]; omega
    show (σ base, renB σ b) :: renH σ (nst (base + 1) bs) = _
    rw [this, h0, renB_pl _ (h b List.mem_cons_self)]; rfl
theorem niT_pl (ls : List (List Int)) : ∀ b ∈ niT ls, b.pl = true := fun b hb => by
  obtain ⟨j, hj⟩ := List.getElem?_of_mem hb
  obtain ⟨_, rfl⟩ := niT_get hj; rfl
theorem renB_ni {σ : Nat → Nat} {ls : List (List Int)} {a b : Nat} (h : ∀ j, j < ls.length → σ (a + 1 + j) = b + 1 + j) : renB σ (niB a ls) = niB b ls := by
  unfold niB renB
  dsimp only
  rw [outR_ren _ (a + 1) (b + 1) fun j hj => h j (by simpa using hj)]
theorem renH_ni {σ : Nat → Nat} {ls : List (List Int)} {b : Nat} (h : ∀ j, j ≤ ls.length → σ j = b + j) : renH σ ((0, niB 0 ls) :: nst 1 (niT ls)) = (b, niB b ls) :: nst (b + 1) (niT ls) := by
  show (σ 0, renB σ (niB 0 ls)) :: renH σ (nst 1 (niT ls)) = _
  rw [renH_nst (niT ls) 1 (b + 1) (niT_pl ls) fun j hj => by rw [niT_len] at hj; rw [h _ (by omega)]; omega, h 0 (Nat.zero_le _), renB_ni (b := b) fun j hj => by rw [h _ (by omega)]; omega]
  rfl
theorem renE_some (σ : Nat → Nat) (H : Hp) : renE σ (someE H) = someE (renH σ H) := by
  unfold renE someE renH
  rw [List.map_map, List.map_map]; rfl
theorem ok_ni (ls ms : List (List Int)) (hm : ms.length = ls.length) (x y : Int) : okC (ls.length + 1) 0 [.sl 0 0 ls.length, .v (.int .i64 x)] ((0, niB 0 ls) :: nst 1 (niT ls)) (.v (.int .i64 y)) (someE ((0, niB 0 ls) :: nst 1 (niT ms))) = true := by
  have hall : ∀ (f : Nat × Blk → Bool) (bs : List Blk) (base : Nat), (∀ (j : Nat) (b : Blk), bs[j]? = some b → f (base + j, b) = true) → (nst base bs).all f = true := by
    intro f bs
    induction bs with
    | nil => intros; rfl
    | cons b bs ih =>
      intro base h
      have h00 : f (base, b) = true := h 0 b rfl
      rw [nst, List.all_cons, h00, ih (base + 1) fun j c hc => by have := h (j + 1) c (by simpa using hc); rwa [show base + (j + 1) = base + 1 + j by omega] at this]
      rfl
  have hid : idsOkB (ls.length + 1) (niB 0 ls) = true := outR_ids _ _ (by rw [List.length_map]; omega)
  have h0 : Nat.blt 0 (ls.length + 1) = true := by rw [Nat.blt_eq]; omega
  unfold okC
  simp only [Bool.and_eq_true]
  refine ⟨⟨⟨⟨⟨?_, ?_⟩, ?_⟩, ?_⟩, rfl⟩, ?_⟩
  · simp only [List.all_cons, List.all_nil, idsOk, h0, Bool.and_true]
  · rw [List.all_cons, hall _ (niT ls) 1 fun j b hb => ?_]
    · dsimp only; rw [h0, hid]; rfl
    · obtain ⟨hj, rfl⟩ := niT_get hb
      have : Nat.blt (1 + j) (ls.length + 1) = true := by rw [Nat.blt_eq]; omega
      dsimp only; rw [this]; rfl
  · rw [List.all_eq_true]
    intro i hi
    have hi := List.mem_range.1 hi
    rw [Bool.and_eq_true]
    constructor
    · rw [look_cons]
      split
      · rfl
      · rw [look_nst, if_pos (by omega), List.getElem?_eq_getElem (by rw [niT_len]; omega)]; rfl
    · rw [List.contains_iff_mem]
      unfold someE
      rw [List.map_map, List.map_cons]
      show i ∈ 0 :: (nst 1 (niT ms)).map (·.1)
      rw [nst_keys, niT_len, List.mem_cons, List.mem_range'_1]; omega
  · unfold someE
    rw [List.all_map, List.all_cons, hall _ (niT ms) 1 fun j b hb => ?_]
    · simp only [Function.comp]; rw [show ls.length + 1 + 0 = ls.length + 1 from rfl, h0, hid]; rfl
    · obtain ⟨hj, rfl⟩ := niT_get hb
      have : Nat.blt (1 + j) (ls.length + 1 + 0) = true := by rw [Nat.blt_eq]; omega
      simp only [Function.comp]; rw [this]; rfl
  · rw [List.all_cons, hall _ (niT ls) 1 fun j b hb => ?_]
    · rfl
    · obtain ⟨hj, rfl⟩ := niT_get hb; rfl
theorem liveE_some {H : Hp} {ρ : Nat → Nat} : ∀ (U : Hp), (∀ p ∈ U, Aw.look H (ρ p.1) = some (renB ρ p.2)) → liveE H ρ (someE U)
  | [], _ => trivial
  | p :: U, h => ⟨h p List.mem_cons_self, liveE_some U fun q hq => h q (List.mem_cons_of_mem _ hq)⟩
theorem nst_mem : ∀ (bs : List Blk) (base : Nat) (p : Nat × Blk), p ∈ nst base bs → ∃ j, bs[j]? = some p.2 ∧ p.1 = base + j
  | [], _, p, h => by cases h
  | b :: bs, base, p, h => by
    rcases List.mem_cons.1 h with rfl | h
    · exact ⟨0, rfl, rfl⟩
    · obtain ⟨j, h1, h2⟩ := nst_mem bs (base + 1) p h
      exact ⟨j + 1, by simpa using h1, by omega⟩
def mkT (z : Int) (ls : List (List Int)) (i : Nat) : List Blk := (niT (mkS z ls)).take i ++ (niT ls).drop i
theorem mkT_len {z : Int} {ls : List (List Int)} {i : Nat} (h : i ≤ ls.length) : (mkT z ls i).length = ls.length := by
  rw [mkT, List.length_append, List.length_take, List.length_drop, niT_len, niT_len, mkS_len]; omega
theorem mkT_at {z : Int} {ls : List (List Int)} {i : Nat} (h : i < ls.length) : (mkT z ls i)[i]? = some ⟨2, 1, true, ls[i].map inL⟩ := by
  rw [mkT, List.getElem?_append_right (by rw [List.length_take, niT_len, mkS_len]; omega), List.length_take, niT_len, mkS_len, Nat.min_eq_left (by omega), Nat.sub_self, List.getElem?_drop]
  simp [niT, h]
theorem mkT_next {z : Int} {ls : List (List Int)} {i j : Nat} (h : i < ls.length) : (mkT z ls (i + 1))[j]? = if j = i then some ⟨2, 1, true, ((List.range ls[i].length).map (up (z + (totN (ls.take i) : Int)))).map inL⟩ else (mkT z ls i)[j]? := by
  have l1 : ((niT (mkS z ls)).take (i + 1)).length = i + 1 := by rw [List.length_take, niT_len, mkS_len]; omega
  have l2 : ((niT (mkS z ls)).take i).length = i := by rw [List.length_take, niT_len, mkS_len]; omega
  unfold mkT
  by_cases e : j = i
  · subst e
    rw [if_pos rfl, List.getElem?_append_left (by omega), List.getElem?_take_of_lt (by omega), niT, List.getElem?_map, mkS_get ls z j h]; rfl
  · rw [if_neg e]
    by_cases hj : j < i
    · rw [List.getElem?_append_left (by omega), List.getElem?_append_left (by omega), List.getElem?_take_of_lt (by omega), List.getElem?_take_of_lt hj]
    · rw [List.getElem?_append_right (by omega), List.getElem?_append_right (by omega), l1, l2, List.getElem?_drop, List.getElem?_drop, show i + 1 + (j - (i + 1)) = i + (j - i) by omega]
theorem mkT_pl {z : Int} {ls : List (List Int)} {i j : Nat} {b : Blk} (h : (mkT z ls i)[j]? = some b) : b.pl = true := by
  have hm := List.mem_of_getElem? h
  rcases List.mem_append.1 hm with hm | hm
  · exact niT_pl _ b (List.mem_of_mem_take hm)
  · exact niT_pl _ b (List.mem_of_mem_drop hm)
set_option maxHeartbeats 4000000 in
theorem markInt64SS_rc (b : Nat) (ls : List (List Int)) (hS : NbS ls) (ht : totN ls ≤ 1048576) (z : Int) (h0 : 0 ≤ z) (h1 : z ≤ 536870912) (k : Nat) :
    RC Try.prog 15 [.sl b 0 ls.length, .v (.int .i64 z)] ((b, niB b ls) :: nst (b + 1) (niT ls)) k (.v (.int .i64 (z + (totN ls : Int)))) (someE ((b, niB b ls) :: nst (b + 1) (niT (mkS z ls)))) k := by
  have hn := hS.n
  have hms := mkS_len ls z
  refine RC.ofc (g := ls.length + 1) (List.range' b (ls.length + 1)) 0 [.sl 0 0 ls.length, .v (.int .i64 z)] ((0, niB 0 ls) :: nst 1 (niT ls)) (.v (.int .i64 (z + (totN ls : Int)))) (someE ((0, niB 0 ls) :: nst 1 (niT (mkS z ls)))) Try.func15 Try.ntmps15 rfl (goFn_of Try.func15 rfl (by kernel_rfl)) rfl rfl
    ?_ ?_ rfl ?_ rfl ?_ List.nodup_range' List.length_range' ?_
  · simp only [List.map_cons, List.map_nil, renA, nmC_range (Nat.zero_le _), Nat.add_zero]
  · exact renH_ni fun j hj => nmC_range hj
  · rw [renE_some]
    refine congrArg someE ?_
    show (nmC _ _ 0, renB _ (niB 0 ls)) :: renH _ (nst 1 (niT (mkS z ls))) = _
    rw [renH_nst (niT (mkS z ls)) 1 (b + 1) (niT_pl _) fun j hj => by rw [niT_len, hms] at hj; rw [nmC_range (by omega)]; omega, nmC_range (Nat.zero_le _), renB_ni (b := b) fun j hj => by rw [nmC_range (by omega)]; omega]
    rfl
  · rw [List.length_range']; exact ok_ni ls _ hms z _
  ((repeat' (first
    | (show SQ _ _ _ _ _ _ _ _; first | apply sq_nil | (apply q_assign; exact rfl; exact rfl))
    | (show AW _ _ _ _ _ _ _ _; first | refine aw_region ?_ | (refine aw_seqk ?_; intro K hK) | refine aw_block ?_)
    | refine thn_n ?_
    | (refine hK _ _ _ ?_; clear hK K))); all_goals (repeat (clear hK K)))
  refine aw_loop (ρ := id) (ι := Nat) (fun i => ([(5, .v (.int .i64 i)), (1, .v (.int .i64 (z + (totN (ls.take i) : Int)))), (0, .sl 0 0 ls.length)], (0, niB 0 ls) :: nst 1 (mkT z ls i), ls.length + 1))
    (fun i => i ≤ ls.length) (fun i => ls.length - i) 0 (Nat.zero_le _) ?_ ?_
  · refine sub_nest ⟨lk_i rfl rfl, lk_i rfl (by simp [totN]), lk_s rfl rfl rfl (by rw [Nat.blt_eq]; dsimp only; omega), trivial⟩ ?_ ?_ (fun j c hc => ?_) (by dsimp only; rw [mkT_len (Nat.zero_le _)]; omega) (fun i j _ _ h => h) (fun i hi => ⟨rfl, hi⟩)
    · show some _ = some _
      rw [renB_ni (b := 0) fun j hj => rfl]
    · exact outR_ids _ _ (by dsimp only; rw [List.length_map]; omega)
    · refine ⟨?_, mkT_pl hc⟩
      have hj := nlt hc
      show Aw.look ((0, niB 0 ls) :: nst 1 (niT ls)) (1 + j) = _
      rw [look_cons, if_neg (by omega), look_nst_at]
      exact hc
  intro i hi
  have hle := totN_le ls i
  (try dsimp only)
  by_cases c1 : i < ls.length
  · have b1 : decide ((i : Int) < (ls.length : Int)) = true := by simpa using c1
    have hw : IntKind.i64.wrap ((i : Int) + 1) = ((i + 1 : Nat) : Int) := by rw [IntWalk.i64_in _ (by omega)]; omega
    have hrow : (niB 0 ls).rows[0 + ((i : Int)).toNat]? = some [.sl (1 + i) 0 ls[i].length] := by
      rw [Nat.zero_add, Int.toNat_natCast]
      show (outR 1 (ls.map List.length))[i]? = _
      rw [outR_get]; simp [c1]
    have hle2 := totN_le ls (i + 1)
    have ht2 := totN_take c1
    have hlk : Aw.look ((0, niB 0 ls) :: nst 1 (mkT z ls i)) (1 + i) = some ⟨2, 1, true, ls[i].map inL⟩ := by
      rw [look_cons, if_neg (by omega), look_nst_at]; exact mkT_at c1
    have hM := fun k => markInt64S_rc (1 + i) ls[i] (z + (totN (ls.take i) : Int)) (hS.m _ (List.getElem_mem c1)) (by omega) (by omega) k
    ((repeat' (first
    | (show SQ _ _ _ _ _ _ _ _; first | apply sq_nil | (apply q_move; exact rfl; exact rfl) | (apply q_assign; exact rfl; exact rfl) | (apply q_lenl; exact rfl; exact rfl; exact (ty rfl); exact rfl) | (apply q_add; exact rfl; exact rfl; exact rfl) | (apply q_lss; exact rfl; exact rfl; exact rfl) | (apply q_ixl; exact rfl; exact rfl; exact rfl; exact (ty rfl); exact rfl; exact rfl; exact rfl; exact (by first | omega | (simp; done) | (simp; omega)); exact (by first | omega | (simp; done) | (simp; omega))) | (apply q_ld1p; exact rfl; exact rfl; exact (ty rfl); exact rfl; exact rfl; exact (by first | rfl | assumption | ((try simp only [Nat.zero_add]); refine List.getElem?_set_self ?_; (try simp only [List.length_set]); assumption)); exact rfl))
    | (show SQ _ _ _ _ _ _ _ _; (first | (apply q_callC; exact rfl; exact rfl; exact rfl; exact hM _; (focus ((repeat (first | exact trivial | refine ⟨by first | exact rfl | assumption, ?_⟩)); done)); skip)); (try simp only [put, rowsOf, plR, List.all_cons, selE, ovr, setH, del, cellsA, splice, isV, List.nil_append, List.cons_append, List.map_cons, List.map_nil, List.length_cons, List.length_nil, List.set_cons_zero, List.set_cons_succ, List.take_succ_cons, List.take_zero, List.take_nil, List.drop_succ_cons, List.drop_zero, List.drop_nil, List.append_nil, List.all_cons, List.all_nil, Bool.and_true, Bool.true_and, Bool.and_false, Bool.false_and, Nat.reduceAdd, Nat.zero_add, Nat.add_zero, Nat.reduceEqDiff, if_true, if_false, reduceIte]))
    | (show AW _ _ _ _ _ _ _ _; first | refine aw_region ?_ | (refine aw_seqk ?_; intro K hK) | refine aw_block ?_ | (apply aw_cond_t; exact rfl; exact (by assumption)) | refine aw_skip ?_)
    | refine thn_n ?_
    | (refine hK _ _ _ ?_; clear hK K)
    | refine inb_n ?_)); all_goals (repeat (clear hK K)))
    refine ⟨i + 1, id, c1, by omega, ?_⟩
    (try dsimp only)
    rw [← hw, if_neg (show ¬ 0 = 1 + i by omega)]
    refine sub_nest ⟨lk_i rfl rfl, lk_i rfl (by omega), lk_s rfl rfl rfl (by rw [Nat.blt_eq]; omega), trivial⟩ ?_ ?_ (fun j c hc => ?_) (by rw [mkT_len c1]; omega) (fun i j _ _ h => h) (fun i hi => ⟨rfl, hi⟩)
    · rw [renB_ni (b := 0) fun j hj => rfl, look_cons, if_neg (show ¬ 1 + i = id 0 by show ¬ 1 + i = 0; omega)]; rfl
    · exact outR_ids _ _ (by rw [List.length_map]; omega)
    · refine ⟨?_, mkT_pl hc⟩
      rw [mkT_next c1] at hc
      show Aw.look _ (1 + j) = _
      by_cases e : j = i
      · subst e
        rw [if_pos rfl] at hc
        rw [look_cons, if_pos rfl]; exact hc
      · rw [if_neg e] at hc
        rw [look_cons, if_neg (by omega), look_cons, if_neg (by omega), look_del_ne _ (by omega), look_nst_at]; exact hc
  · have b1 : decide ((i : Int) < (ls.length : Int)) = false := by simpa using c1
    obtain rfl : i = ls.length := by omega
    rw [List.take_length]
    ((repeat' (first
    | (show SQ _ _ _ _ _ _ _ _; first | apply sq_nil | (apply q_move; exact rfl; exact rfl) | (apply q_assign; exact rfl; exact rfl) | (apply q_lenl; exact rfl; exact rfl; exact (ty rfl); exact rfl) | (apply q_lss; exact rfl; exact rfl; exact rfl))
    | (show AW _ _ _ _ _ _ _ _; first | refine aw_region ?_ | (refine aw_seqk ?_; intro K hK) | (apply aw_cond_f; exact rfl; exact (by assumption)) | refine aw_ret ?_ | refine aw_exit ?_)
    | refine thn_n ?_
    | (refine hK _ _ _ ?_; clear hK K)
    | refine thn_e ?_
    | refine inb_same ?_
    | (clear hK K; refine hK _ _ _ ?_; clear hK K))); all_goals (repeat (clear hK K)))
    refine finc id (.r1 _ _ (.tmp _ _ rfl)) rfl (fun _ _ => rfl) (liveE_some _ fun p hp => ?_) ?_
    · rcases List.mem_cons.1 hp with rfl | hp
      · rw [renB_ni (b := 0) fun j hj => rfl]; rfl
      · obtain ⟨j, h1, h2⟩ := nst_mem _ _ _ hp
        have hj := nlt h1
        rw [niT_len, hms] at hj
        rw [renB_pl _ (niT_pl _ _ (List.mem_of_getElem? h1))]
        show Aw.look _ p.1 = _
        rw [h2, look_cons, if_neg (by omega), look_nst_at, mkT, List.getElem?_append_left (by rw [List.length_take, niT_len, hms]; omega), List.getElem?_take_of_lt (by omega)]
        exact h1
    · exact injB_of fun i _ j _ h => h
end Go.Proofs.Yteknfaldpajlpaa.Nb

namespace Go.Proofs.Yteknfaldpajlpaa.Nb
open Go Go.RowKit Go.Proofs.Yteknfaldpajlpaa.Aw Go.Proofs.Yteknfaldpajlpaa.In Go.Proofs.Yteknfaldpajlpaa.Il
set_option linter.unusedSimpArgs false
set_option linter.unusedVariables false
set_option linter.unusedSectionVars false
attribute [local irreducible] AW SQ Step RO RC DE Thn InB
def boL (b : Bool) : List AV := [.v (.bool b)]
def tabR (n : Nat) (f : Nat → Bool) : List (List AV) := ((List.range n).map f).map boL
def tabB (k n : Nat) : Blk := ⟨106, 1, false, outR (k + 1) (List.replicate n n)⟩
def tabT (n i : Nat) (f : Nat → Nat → Bool) : List Blk := (List.range i).map fun a => ⟨4, 1, true, tabR n (f a)⟩
theorem tabT_len (n i : Nat) (f : Nat → Nat → Bool) : (tabT n i f).length = i := by simp [tabT]
theorem tabT_at {n i a : Nat} {f : Nat → Nat → Bool} (h : a < i) : (tabT n i f)[a]? = some ⟨4, 1, true, tabR n (f a)⟩ := by simp [tabT, h]
theorem tabT_get {n i a : Nat} {f : Nat → Nat → Bool} {b : Blk} (h : (tabT n i f)[a]? = some b) : a < i ∧ b = ⟨4, 1, true, tabR n (f a)⟩ := by
  have hj := nlt h
  rw [tabT_len] at hj
  rw [tabT_at hj, Option.some.injEq] at h
  exact ⟨hj, h.symm⟩
theorem tabR_len (n : Nat) (f : Nat → Bool) : (tabR n f).length = n := by simp [tabR]
theorem tabR_at {n a : Nat} {f : Nat → Bool} (h : a < n) : (tabR n f)[a]? = some (boL (f a)) := by simp [tabR, h]
theorem tabR_set {n a : Nat} {f : Nat → Bool} (h : a < n) : (tabR n f).set a (boL true) = tabR n (fun x => f x || x == a) := by
  apply List.ext_getElem?
  intro x
  rw [List.getElem?_set]
  by_cases hx : x < n
  · split
    · rename_i e; subst e; rw [if_pos (by rw [tabR_len]; exact hx), tabR_at hx, beq_self_eq_true, Bool.or_true]
    · rename_i e
      rw [tabR_at hx, tabR_at hx]
      have : (x == a) = false := beq_eq_false_iff_ne.2 fun h => e h.symm
      rw [this, Bool.or_false]
  · rw [List.getElem?_eq_none (by rw [tabR_len]; omega), if_neg (by omega), List.getElem?_eq_none (by rw [tabR_len]; omega)]
theorem tabR_congr {n : Nat} {f g : Nat → Bool} (h : ∀ a, a < n → f a = g a) : tabR n f = tabR n g := by
  unfold tabR
  rw [List.map_congr_left fun a ha => h a (List.mem_range.1 ha)]
def nrP (ls : List (List Int)) (i k a b : Nat) : Bool := (decide (a < i) && ((ls.getD a []).any fun y => y == (b : Int))) || (decide (b < i) && ((ls.getD b []).any fun y => y == (a : Int))) ||
  (a == i && (((ls.getD i []).take k).any fun y => y == (b : Int))) || (b == i && (((ls.getD i []).take k).any fun y => y == (a : Int)))
theorem nrP_done (ls : List (List Int)) {a b : Nat} (ha : a < ls.length) (hb : b < ls.length) : nrP ls ls.length 0 a b = nearB ls a b := by
  unfold nrP nearB
  have h1 : (a == ls.length) = false := by simp; omega
  have h2 : (b == ls.length) = false := by simp; omega
  rw [h1, h2, decide_eq_true ha, decide_eq_true hb]; simp
theorem nrP_row (ls : List (List Int)) (i a b : Nat) : nrP ls i (ls.getD i []).length a b = nrP ls (i + 1) 0 a b := by
  unfold nrP
  rw [List.take_length, List.take_zero]
  by_cases ha : a = i <;> by_cases hb : b = i
  · subst ha hb; simp
  · subst ha
    have e1 : (b == a) = false := by simp [hb]
    have e2 : decide (b < a + 1) = decide (b < a) := by simp; omega
    rw [e1, e2]; simp [Bool.or_comm]
  · subst hb
    have e1 : (a == b) = false := by simp [ha]
    have e2 : decide (a < b + 1) = decide (a < b) := by simp; omega
    rw [e1, e2]; simp [Bool.or_comm]
  · have e1 : (a == i) = false := by simp [ha]
    have e2 : (b == i) = false := by simp [hb]
    have e3 : decide (a < i + 1) = decide (a < i) := by simp; omega
    have e4 : decide (b < i + 1) = decide (b < i) := by simp; omega
    rw [e1, e2, e3, e4]; simp
theorem nrP_next {ls : List (List Int)} {i k j : Nat} (hk : k < (ls.getD i []).length) (hj : (ls.getD i [])[k] = (j : Int)) (a b : Nat) : nrP ls i (k + 1) a b = (nrP ls i k a b || (a == i && b == j) || (a == j && b == i)) := by
  have e : ∀ x : Nat, (((ls.getD i []).take (k + 1)).any fun y => y == (x : Int)) = ((((ls.getD i []).take k).any fun y => y == (x : Int)) || x == j) := fun x => by
    rw [List.take_succ_eq_append_getElem hk, List.any_append, hj]
    have : (((j : Int)) == (x : Int)) = (x == j) := by
      rw [Bool.eq_iff_iff]; simp; omega
    simp [this]
  unfold nrP
  rw [e, e]
  cases decide (a < i) && ((ls.getD a []).any fun y => y == (b : Int)) <;> cases decide (b < i) && ((ls.getD b []).any fun y => y == (a : Int)) <;> cases (a == i) <;> cases (b == i) <;> cases ((ls.getD i []).take k).any (fun y => y == (b : Int)) <;> cases ((ls.getD i []).take k).any (fun y => y == (a : Int)) <;> cases (a == j) <;> cases (b == j) <;> rfl
end Go.Proofs.Yteknfaldpajlpaa.Nb

namespace Go.Proofs.Yteknfaldpajlpaa.Nb
open Go Go.RowKit Go.Proofs.Yteknfaldpajlpaa.Aw Go.Proofs.Yteknfaldpajlpaa.In Go.Proofs.Yteknfaldpajlpaa.Il
set_option linter.unusedSimpArgs false
set_option linter.unusedVariables false
set_option linter.unusedSectionVars false
attribute [local irreducible] AW SQ Step RO RC DE Thn InB
def Pl (bs : List Blk) : Prop := ∀ b ∈ bs, b.pl = true ∧ b.size = 1
def gB (ty : TypeId) (k : Nat) (lens : List Nat) : Blk := ⟨ty, 1, false, outR (k + 1) lens⟩
theorem renB_gB {σ : Nat → Nat} {ty : TypeId} {lens : List Nat} {a b : Nat} (h : ∀ j, j < lens.length → σ (a + 1 + j) = b + 1 + j) : renB σ (gB ty a lens) = gB ty b lens := by
  unfold gB renB
  dsimp only
  rw [outR_ren _ (a + 1) (b + 1) h]
theorem shH_gn (m : Nat) {ty : TypeId} {lens : List Nat} {bs : List Blk} (h : Pl bs) : shH m ((0, gB ty 0 lens) :: nst 1 bs) = (m, gB ty m lens) :: nst (m + 1) bs := by
  have h1 := shH_nst m bs 1 fun b hb => (h b hb).1
  show (0 + m, renB _ (gB ty 0 lens)) :: shH m (nst 1 bs) = _
  rw [h1, renB_gB (b := m) fun j _ => by omega, Nat.zero_add, Nat.add_comm 1 m]
theorem allN (f : Nat × Blk → Bool) : ∀ (bs : List Blk) (base : Nat), (∀ (j : Nat) (b : Blk), bs[j]? = some b → f (base + j, b) = true) → (nst base bs).all f = true
  | [], _, _ => rfl
  | b :: bs, base, h => by
    have h00 : f (base, b) = true := h 0 b rfl
    rw [nst, List.all_cons, h00, allN f bs (base + 1) fun j c hc => by have := h (j + 1) c (by simpa using hc); rwa [show base + (j + 1) = base + 1 + j by omega] at this]
    rfl
theorem full_gn {ty : TypeId} {lens : List Nat} {bs : List Blk} (h : Pl bs) : fullB ((0, gB ty 0 lens) :: nst 1 bs) (bs.length + 1) = true := by
  unfold fullB
  rw [Bool.and_eq_true, List.all_cons, allN _ bs 1 fun j b hb => by
    have hj := nlt hb
    have : Nat.blt (1 + j) (bs.length + 1) = true := by rw [Nat.blt_eq]; omega
    dsimp only; rw [this, (h b (List.mem_of_getElem? hb)).2]; rfl]
  refine ⟨?_, List.all_eq_true.2 fun i hi => ?_⟩
  · have : Nat.blt 0 (bs.length + 1) = true := by rw [Nat.blt_eq]; omega
    dsimp only; rw [this]; rfl
  · have hi := List.mem_range.1 hi
    rw [look_cons]
    split
    · rfl
    · rw [look_nst, if_pos (by omega), List.getElem?_eq_getElem (by omega)]; rfl
theorem outR_nd : ∀ (ns : List Nat) (base : Nat), (outR base ns).all noDeepL = true
  | [], _ => rfl
  | n :: ns, base => by rw [outR, List.all_cons, outR_nd ns]; rfl
theorem nd_gn {ty : TypeId} {lens : List Nat} {bs : List Blk} (h : Pl bs) : ((0, gB ty 0 lens) :: nst 1 bs).all (fun p => noDeepB p.2) = true := by
  rw [List.all_cons, allN _ bs 1 fun j b hb => by
    obtain ⟨ty, sz, pl, rows⟩ := b
    have := (h _ (List.mem_of_getElem? hb)).1
    dsimp only at this
    subst this; rfl, Bool.and_true]
  exact outR_nd _ _
theorem fin_gn {P : Program} {rs : List ResultVar} {X B : Nat} {T : Tp} {H : Hp} {ty : TypeId} {lens : List Nat} {bs : List Blk} {u v : AV} (hp : Pl bs) (hll : lens.length = bs.length) (ht : ResV P T H rs u) (hu : u = renA (fun z => if z = 0 then X else B + (z - 1)) v) (hi : idsOk (bs.length + 1) v = true) (hd : noDeep v = true)
    (hb : Aw.look H X = some ⟨ty, 1, false, outR B lens⟩) (hn : NstIn H B bs) (hx : X < B ∨ B + bs.length ≤ X) : FinOk P rs v ((0, gB ty 0 lens) :: nst 1 bs) (bs.length + 1) T H := by
  have hs : Sub 0 T H (fun z => if z = 0 then X else B + (z - 1)) [] ((0, gB ty 0 lens) :: nst 1 bs) (bs.length + 1) := by
    refine sub_nest trivial ?_ ?_ (fun j c hc => ?_) (by omega) (fun i j hi hj he => ?_) pin_0
    · rw [if_pos rfl, hb]
      unfold gB renB
      dsimp only
      rw [outR_ren _ 1 B fun j hj => by rw [if_neg (by omega)]; omega]
    · exact outR_ids _ _ (by omega)
    · refine ⟨?_, (hp c (List.mem_of_getElem? hc)).1⟩
      rw [if_neg (by omega), show B + (1 + j - 1) = B + j by omega]
      exact hn j _ hc
    · split at he <;> split at he <;> omega
  exact ⟨⟨u, _, ht, hu, hs.h, hs.i⟩, hi, hd, nd_gn hp⟩
theorem tabT_pl (n i : Nat) (f : Nat → Nat → Bool) : Pl (tabT n i f) := fun b hb => by
  obtain ⟨j, hj⟩ := List.getElem?_of_mem hb
  obtain ⟨_, rfl⟩ := tabT_get hj; exact ⟨rfl, rfl⟩
theorem sub_grow {g n' i X Z len : Nat} {T : Tp} {H : Hp} {T' : Tp} {ty : TypeId} {lens : List Nat} {bs : List Blk} {b : Blk} (hl : lens.length = bs.length) (hpl : Pl bs) (hb : b.pl = true)
    (ht : subT T (fun z => if z = 0 then Z else if z = 1 + bs.length then X else z) n' T') (ho : Aw.look H Z = some ⟨ty, 1, false, outR 1 lens ++ [[.sl X 0 len]]⟩) (hX : Aw.look H X = some b) (hn : ∀ (j : Nat) (c : Blk), bs[j]? = some c → Aw.look H (1 + j) = some c)
    (hnn : 2 + bs.length ≤ n') (hXZ : X ≠ Z) (hXn : 1 + bs.length < X) (hZn : 1 + bs.length < Z) (hp : PinOk g (fun z => if z = 0 then Z else if z = 1 + bs.length then X else z) n') :
    Sub g T H (fun z => if z = 0 then Z else if z = 1 + bs.length then X else z) T' ((0, gB ty 0 (lens ++ [len])) :: nst 1 (bs ++ [b])) n' := by
  refine sub_nest ht ?_ ?_ (fun j c hc => ?_) (by rw [List.length_append, List.length_singleton]; omega) (fun i j hi hj he => ?_) hp
  · rw [if_pos rfl, ho]
    unfold gB renB
    dsimp only
    rw [outR_app, List.map_append, outR_ren lens 1 1 fun j hj => by rw [if_neg (by omega), if_neg (by omega)]]
    simp only [outR, List.map_cons, List.map_nil, renL, renA]
    rw [if_neg (by omega), if_pos (by omega)]
  · exact outR_ids _ _ (by rw [List.length_append, List.length_singleton]; omega)
  · by_cases e : j = bs.length
    · subst e
      rw [List.getElem?_append_right (Nat.le_refl _), Nat.sub_self] at hc
      simp only [List.getElem?_cons_zero, Option.some.injEq] at hc
      subst hc
      rw [if_neg (by omega), if_pos rfl]
      exact ⟨hX, hb⟩
    · have hj := nlt hc
      rw [List.length_append, List.length_singleton] at hj
      rw [List.getElem?_append_left (by omega)] at hc
      rw [if_neg (by omega), if_neg (by omega)]
      exact ⟨hn j c hc, (hpl c (List.mem_of_getElem? hc)).1⟩
  · rw [List.length_append, List.length_singleton] at hi hj
    repeat' (split at he)
    all_goals omega
end Go.Proofs.Yteknfaldpajlpaa.Nb

namespace Go.Proofs.Yteknfaldpajlpaa.Nb
open Go Go.RowKit Go.Proofs.Yteknfaldpajlpaa.Aw Go.Proofs.Yteknfaldpajlpaa.In Go.Proofs.Yteknfaldpajlpaa.Il
set_option linter.unusedSimpArgs false
set_option linter.unusedVariables false
set_option linter.unusedSectionVars false
attribute [local irreducible] AW SQ Step RO RC DE Thn InB
theorem nbB_ok {ls : List (List Int)} (h : nbB ls = true) : ls.length ≤ 24 ∧ ∀ (i : Nat) (hi : i < ls.length), ∀ y ∈ ls[i], 0 ≤ y ∧ y < ls.length ∧ y ≠ (i : Int) := by
  simp only [nbB, Bool.and_eq_true, decide_eq_true_eq] at h
  refine ⟨h.1, fun i hi y hy => ?_⟩
  have := List.all_eq_true.1 h.2 i (List.mem_range.2 hi)
  simp only [nbG, Bool.and_eq_true, Bool.not_eq_true', List.any_eq_false, List.getD, List.getElem?_eq_getElem hi, Option.getD_some] at this
  obtain ⟨⟨_, h2⟩, h3⟩ := this
  have g2 := h2 y hy
  have g3 := h3 y hy
  simp [inB] at g2
  simp at g3
  exact ⟨by omega, by omega, g3⟩
theorem tabT_succ (n i : Nat) (f : Nat → Nat → Bool) : tabT n (i + 1) f = tabT n i f ++ [⟨4, 1, true, tabR n (f i)⟩] := by
  simp [tabT, List.range_succ]
theorem tabR_ff (n : Nat) : tabR n (fun _ => false) = List.replicate n [AV.v (.bool false)] := by
  unfold tabR
  apply List.ext_getElem?
  intro x
  by_cases h : x < n <;> simp [h, boL]
theorem tab_put {n m i j : Nat} {f : Nat → Nat → Bool} {B : Blk} (hi : i < m) (hj : j < n) : ∀ z b, Aw.look ((0, B) :: nst 1 (tabT n m fun a b => f a b || (a == i && b == j))) z = some b →
    Aw.look ((1 + i, ⟨4, 1, true, (tabR n (f i)).set j [.v (.bool true)]⟩) :: del ((0, B) :: nst 1 (tabT n m f)) (1 + i)) z = some b := by
  intro z b h
  rw [look_cons] at h ⊢
  by_cases e0 : z = 0
  · subst e0
    rw [if_pos rfl] at h
    rw [if_neg (by omega), look_del_ne _ (by omega), look_cons, if_pos rfl]; exact h
  · rw [if_neg (fun h => e0 h.symm)] at h
    have hz := h
    rw [look_nst] at hz
    split at hz
    · obtain ⟨h1, rfl⟩ := tabT_get hz
      by_cases e1 : z = 1 + i
      · subst e1
        have e2 : 1 + i - 1 = i := by omega
        rw [if_pos rfl, Option.some.injEq, Blk.mk.injEq]
        refine ⟨rfl, rfl, rfl, ?_⟩
        rw [show ([AV.v (.bool true)] : List AV) = boL true from rfl, tabR_set hj, e2]
        refine tabR_congr fun a _ => ?_
        rw [beq_self_eq_true, Bool.true_and]
      · rw [if_neg (fun h => e1 h.symm), look_del_ne _ (by omega), look_cons, if_neg (fun h => e0 h.symm), look_nst, if_pos (by omega), tabT_at h1]
        have e2 : (z - 1 == i) = false := by simp; omega
        simp [e2]
    · cases hz
theorem sub_tab {g n' n : Nat} {T T' : Tp} {H : Hp} {f : Nat → Nat → Bool} (ht : subT T id n' T') (h0 : Aw.look H 0 = some ⟨106, 1, false, outR 1 (List.replicate n n)⟩)
    (hn : ∀ (j : Nat) (c : Blk), (tabT n n f)[j]? = some c → Aw.look H (1 + j) = some c) (hb : 1 + n ≤ n') (hp : PinOk g id n') : Sub g T H id T' ((0, ⟨106, 1, false, outR 1 (List.replicate n n)⟩) :: nst 1 (tabT n n f)) n' := by
  have hl := tabT_len n n f
  refine sub_nest ht ?_ (outR_ids _ _ (by rw [List.length_replicate]; omega)) (fun j c hc => ⟨hn j c hc, (tabT_pl _ _ _ c (List.mem_of_getElem? hc)).1⟩) (by omega) (fun i j _ _ h => h) hp
  show Aw.look H 0 = some ⟨_, _, _, (outR 1 (List.replicate n n)).map (renL id)⟩
  rw [outR_ren _ 1 1 fun j _ => rfl]; exact h0
theorem tab_in {n : Nat} {B : Blk} {f : Nat → Nat → Bool} (j : Nat) (c : Blk) (h : (tabT n n f)[j]? = some c) : Aw.look ((0, B) :: nst 1 (tabT n n f)) (1 + j) = some c := by
  rw [look_cons, if_neg (by omega), look_nst_at]; exact h
theorem tab_at {n m j : Nat} {B : Blk} {f : Nat → Nat → Bool} (h : j < m) : Aw.look ((0, B) :: nst 1 (tabT n m f)) (1 + j) = some ⟨4, 1, true, tabR n (f j)⟩ := by
  rw [look_cons, if_neg (by omega), look_nst_at, tabT_at h]
theorem tab_congr {n m : Nat} {f g : Nat → Nat → Bool} (h : ∀ a b, a < m → b < n → f a b = g a b) : tabT n m f = tabT n m g := by
  unfold tabT
  refine List.map_congr_left fun a ha => ?_
  rw [tabR_congr fun b hb => h a b (List.mem_range.1 ha) hb]
theorem rep_at {n i : Nat} (h : i < n) : (outR 1 (List.replicate n n))[0 + ((i : Int)).toNat]? = some [.sl (1 + i) 0 n] := by
  rw [Nat.zero_add, Int.toNat_natCast, outR_get, List.getElem?_replicate, if_pos h]; rfl
theorem repR_len (n i : Nat) : (List.replicate i n).length = i := List.length_replicate
set_option maxHeartbeats 4000000 in
theorem l23Table_ro (ls : List (List Int)) (hS : NbS ls) (h : nbB ls = true) (k : Nat) : RO Try.prog 91 [.dsl 1 (nbL ls)] k (.sl k 0 ls.length) ((k, tabB k ls.length) :: nst (k + 1) (tabT ls.length ls.length (nearB ls))) (k + 5000) := by
  have hnl := nbL_len ls
  obtain ⟨hN, hV⟩ := nbB_ok h
  have hlen0 := tabT_len ls.length ls.length (nearB ls)
  refine RO.wide (n' := k + ((tabT ls.length ls.length (nearB ls)).length + 1)) (RO.ofm (.sl 0 0 ls.length) ((0, tabB 0 ls.length) :: nst 1 (tabT ls.length ls.length (nearB ls))) ((tabT ls.length ls.length (nearB ls)).length + 1) Try.func91 Try.ntmps91 rfl (goFn_of Try.func91 rfl (by kernel_rfl)) rfl rfl (by simp [renA]) (shH_gn k (tabT_pl _ _ _)) (full_gn (tabT_pl _ _ _)) ?_) (by omega)
  ((repeat' (first
    | (show SQ _ _ _ _ _ _ _ _; first | apply sq_nil | (apply q_assign; exact rfl; exact rfl))
    | (show SQ _ _ _ _ _ _ _ _; (first | (apply q_build0; exact rfl; exact (ty rfl); exact rfl)); (try simp only [put, rowsOf, plR, List.all_cons, selE, ovr, setH, del, cellsA, splice, isV, List.nil_append, List.cons_append, List.map_cons, List.map_nil, List.length_cons, List.length_nil, List.set_cons_zero, List.set_cons_succ, List.take_succ_cons, List.take_zero, List.take_nil, List.drop_succ_cons, List.drop_zero, List.drop_nil, List.append_nil, List.all_cons, List.all_nil, Bool.and_true, Bool.true_and, Bool.and_false, Bool.false_and, Nat.reduceAdd, Nat.zero_add, Nat.add_zero, Nat.reduceEqDiff, if_true, if_false, reduceIte]))
    | (show AW _ _ _ _ _ _ _ _; first | refine aw_region ?_ | (refine aw_seqk ?_; intro K hK) | refine aw_block ?_)
    | refine thn_n ?_
    | (refine hK _ _ _ ?_; clear hK K))); all_goals (repeat (clear hK K)))
  refine aw_unpl 0 rfl ?_
  refine aw_loop (ρ := id) (ι := Nat) (fun i => ([(4, .v (.int .i64 i)), (3, .sl 0 0 i), (0, .dsl 1 (nbL ls))], (0, ⟨106, 1, false, outR 1 (List.replicate i ls.length)⟩) :: nst 1 (tabT ls.length i fun _ _ => false), 1000))
    (fun i => i ≤ ls.length) (fun i => ls.length - i) 0 (Nat.zero_le _) ⟨by (repeat (refine ⟨by first | exact lk_i rfl rfl | exact lk_d rfl rfl | exact lk_s rfl rfl rfl rfl, ?_⟩)); exact trivial, by (repeat (refine ⟨by first | exact ⟨rfl, rfl, rfl⟩, ?_⟩)); exact trivial, by rfl, by exact pin_0⟩ ?_
  intro i hi
  (try dsimp only)
  have hol : (outR 1 (List.replicate i ls.length)).length = i := by rw [outR_len, List.length_replicate]
  by_cases c1 : i < ls.length
  · have b1 : decide ((i : Int) < ((nbL ls).length : Int)) = true := by rw [hnl]; simpa using c1
    have hw : IntKind.i64.wrap ((i : Int) + 1) = ((i + 1 : Nat) : Int) := by rw [IntWalk.i64_in _ (by omega)]; omega
    ((repeat' (first
    | (show SQ _ _ _ _ _ _ _ _; first | apply sq_nil | (apply q_move; exact rfl; exact rfl) | (apply q_assign; exact rfl; exact rfl) | (apply q_lend; exact rfl; exact rfl; exact (ty rfl); exact rfl) | (apply q_add; exact rfl; exact rfl; exact rfl) | (apply q_lss; exact rfl; exact rfl; exact rfl))
    | (show SQ _ _ _ _ _ _ _ _; (first | (apply q_mks; exact rfl; exact rfl; exact rfl; exact (ty rfl); exact rfl; exact (by first | omega | (simp; done) | (simp; omega)); exact (by first | omega | (simp; done) | (simp; omega)); exact (by first | omega | (simp; done) | (simp; omega)); exact (by first | omega | (simp; done) | (simp; omega)); exact rfl; exact rfl) | (apply q_buildn; exact rfl; exact (ty rfl); exact rfl; exact rfl; exact rfl; exact rfl; exact rfl; exact rfl; exact rfl) | (apply q_apo_s; exact rfl; exact rfl; exact rfl; exact (ty rfl); exact rfl; exact rfl; exact (by first | omega | (simp; done) | (simp; omega)); exact (by first | exact List.take_of_length_le (by first | omega | (simp; done) | (simp; omega)) | rfl); exact (ty rfl); exact rfl; exact rfl; exact (by first | omega | (simp; done) | (simp; omega)); exact (by first | exact dt_full (by first | omega | (simp; done) | (simp; omega)) | assumption | rfl); exact rfl; exact (by first | omega | (simp; done) | (simp; omega)); exact (by first | omega | (simp; done) | (simp; omega)); exact (by first | assumption | exact rfl))); (try simp only [put, rowsOf, plR, List.all_cons, selE, ovr, setH, del, cellsA, splice, isV, List.nil_append, List.cons_append, List.map_cons, List.map_nil, List.length_cons, List.length_nil, List.set_cons_zero, List.set_cons_succ, List.take_succ_cons, List.take_zero, List.take_nil, List.drop_succ_cons, List.drop_zero, List.drop_nil, List.append_nil, List.all_cons, List.all_nil, Bool.and_true, Bool.true_and, Bool.and_false, Bool.false_and, Nat.reduceAdd, Nat.zero_add, Nat.add_zero, Nat.reduceEqDiff, if_true, if_false, reduceIte]))
    | (show AW _ _ _ _ _ _ _ _; first | refine aw_region ?_ | (refine aw_seqk ?_; intro K hK) | refine aw_block ?_ | (apply aw_cond_t; exact rfl; exact (by assumption)) | refine aw_skip ?_)
    | refine thn_n ?_
    | (refine hK _ _ _ ?_; clear hK K)
    | refine inb_n ?_)); all_goals (repeat (clear hK K)))
    have hnt : (↑(nbL ls).length : Int).toNat = ls.length := by rw [hnl, Int.toNat_natCast]
    have htl := tabT_len ls.length i fun _ _ => false
    refine ⟨i + 1, fun z => if z = 0 then 1002 else if z = 1 + (tabT ls.length i fun _ _ => false).length then 1000 else z, c1, by omega, ?_⟩
    (try dsimp only)
    rw [List.replicate_succ', tabT_succ, tabR_ff, hnt]
    refine sub_grow (i := 0) (by rw [List.length_replicate, htl]) (tabT_pl _ _ _) rfl ?_ rfl rfl (fun j c hc => ?_) (by (try dsimp only); rw [htl]; omega) (by omega) (by rw [htl]; omega) (by rw [htl]; omega) pin_0
    · exact ⟨lk_i rfl hw, lk_s rfl rfl rfl rfl, lk_d rfl rfl, trivial⟩
    · have := nlt hc
      rw [htl] at this
      rw [look_cons, if_neg (by omega), look_cons, if_neg (by omega), look_cons, if_neg (by omega), look_del_ne _ (by omega), look_nst_at]
      exact hc
  have b1 : decide ((i : Int) < ((nbL ls).length : Int)) = false := by rw [hnl]; simpa using c1
  obtain rfl : i = ls.length := by omega
  ((repeat' (first
    | (show SQ _ _ _ _ _ _ _ _; first | apply sq_nil | (apply q_move; exact rfl; exact rfl) | (apply q_assign; exact rfl; exact rfl) | (apply q_lend; exact rfl; exact rfl; exact (ty rfl); exact rfl) | (apply q_lss; exact rfl; exact rfl; exact rfl))
    | (show AW _ _ _ _ _ _ _ _; first | refine aw_region ?_ | (refine aw_seqk ?_; intro K hK) | refine aw_block ?_ | (apply aw_cond_f; exact rfl; exact (by assumption)) | refine aw_exit ?_)
    | refine thn_n ?_
    | (refine hK _ _ _ ?_; clear hK K)
    | refine thn_e ?_
    | refine inb_same ?_
    | (clear hK K; refine hK _ _ _ ?_; clear hK K))); all_goals (repeat (clear hK K)))
  refine aw_loop (ρ := id) (ι := Nat) (fun i => ([(5, .v (.int .i64 i)), (3, .sl 0 0 ls.length), (0, .dsl 1 (nbL ls))], (0, ⟨106, 1, false, outR 1 (List.replicate ls.length ls.length)⟩) :: nst 1 (tabT ls.length ls.length (nrP ls i 0)), 1000))
    (fun i => i ≤ ls.length) (fun i => ls.length - i) 0 (Nat.zero_le _) (sub_tab ⟨lk_i rfl rfl, lk_s rfl rfl rfl rfl, lk_d rfl rfl, trivial⟩ rfl (fun j c hc => ?_) (by (try dsimp only); omega) pin_0) ?_
  · rw [tab_congr (g := fun _ _ => false) fun a b _ _ => by simp [nrP]] at hc
    exact tab_in j c hc
  intro i hi
  (try dsimp only)
  have hnl2 := repR_len ls.length ls.length
  by_cases c2 : i < ls.length
  · have b2 : decide ((i : Int) < ((nbL ls).length : Int)) = true := by rw [hnl]; simpa using c2
    have hrow := nbL_get c2
    ((repeat' (first
    | (show SQ _ _ _ _ _ _ _ _; first | apply sq_nil | (apply q_move; exact rfl; exact rfl) | (apply q_assign; exact rfl; exact rfl) | (apply q_lend; exact rfl; exact rfl; exact (ty rfl); exact rfl) | (apply q_lss; exact rfl; exact rfl; exact rfl))
    | (show AW _ _ _ _ _ _ _ _; first | refine aw_region ?_ | (refine aw_seqk ?_; intro K hK) | refine aw_block ?_ | (apply aw_cond_t; exact rfl; exact (by assumption)) | refine aw_skip ?_)
    | refine thn_n ?_
    | (refine hK _ _ _ ?_; clear hK K))); all_goals (repeat (clear hK K)))
    refine aw_loop (ρ := id) (ι := Nat) (fun k => ([(6, .v (.int .i64 k)), (5, .v (.int .i64 i)), (3, .sl 0 0 ls.length), (0, .dsl 1 (nbL ls))], (0, ⟨106, 1, false, outR 1 (List.replicate ls.length ls.length)⟩) :: nst 1 (tabT ls.length ls.length (nrP ls i k)), 1000))
      (fun k => k ≤ ls[i].length) (fun k => ls[i].length - k) 0 (Nat.zero_le _) (sub_tab ⟨lk_i rfl rfl, lk_i rfl rfl, lk_s rfl rfl rfl rfl, lk_d rfl rfl, trivial⟩ rfl tab_in (by (try dsimp only); omega) pin_0) ?_
    intro k hk
    (try dsimp only)
    have hll : (ls[i].map inL).length = ls[i].length := List.length_map _
    have hLn := hS.m _ (List.getElem_mem c2)
    by_cases c3 : k < ls[i].length
    · have b3 : decide ((k : Int) < ((ls[i].map inL).length : Int)) = true := by rw [hll]; simpa using c3
      obtain ⟨y0, y1, y2⟩ := hV i c2 _ (List.getElem_mem c3)
      obtain ⟨y, hy⟩ : ∃ y : Nat, ls[i][k] = (y : Int) := ⟨(ls[i][k]).toNat, by omega⟩
      rw [hy] at y1 y2
      have hr2 : (ls[i].map inL)[((k : Int)).toNat]? = some (inL (y : Int)) := by simp [c3, hy]
      rw [inL_eq] at hr2
      have hor := rep_at c2
      have hor2 := rep_at (n := ls.length) (i := y) (by omega)
      have hbi := tab_at (n := ls.length) (B := ⟨106, 1, false, outR 1 (List.replicate ls.length ls.length)⟩) (f := nrP ls i k) c2
      have hst : (tabR ls.length (nrP ls i k i))[0 + ((y : Int)).toNat]? = some [.v (.bool (nrP ls i k i y))] := by rw [Nat.zero_add, Int.toNat_natCast, tabR_at (by omega)]; rfl
      have hw : IntKind.i64.wrap ((k : Int) + 1) = ((k + 1 : Nat) : Int) := by rw [IntWalk.i64_in _ (by omega)]; omega
      ((repeat' (first
    | (show SQ _ _ _ _ _ _ _ _; first | apply sq_nil | (apply q_move; exact rfl; exact rfl) | (apply q_assign; exact rfl; exact rfl) | (apply q_lend; exact rfl; exact rfl; exact (ty rfl); exact rfl) | (apply q_lss; exact rfl; exact rfl; exact rfl) | (apply q_ixd; exact rfl; exact rfl; exact rfl; exact (ty rfl); exact rfl; exact (by first | omega | (simp; done) | (simp; omega)); exact (by first | omega | (simp; done) | (simp; omega)); exact (by first | rfl | assumption)) | (apply q_ixl; exact rfl; exact rfl; exact rfl; exact (ty rfl); exact rfl; exact rfl; exact rfl; exact (by first | omega | (simp; done) | (simp; omega)); exact (by first | omega | (simp; done) | (simp; omega))) | (apply q_ld1d; exact rfl; exact rfl; exact (ty rfl); exact rfl; exact rfl) | (apply q_ld1p; exact rfl; exact rfl; exact (ty rfl); exact rfl; exact rfl; exact (by first | rfl | assumption | ((try simp only [Nat.zero_add]); refine List.getElem?_set_self ?_; (try simp only [List.length_set]); assumption)); exact rfl) | (apply q_ixl; exact rfl; exact rfl; exact rfl; exact (ty rfl); exact rfl; exact (by assumption); exact rfl; exact (by first | omega | (simp; done) | (simp; omega)); exact (by first | omega | (simp; done) | (simp; omega))))
    | (show SQ _ _ _ _ _ _ _ _; (first | (apply q_store; exact rfl; exact rfl; exact (ty rfl); exact (by assumption); exact (by first | rfl | assumption | ((try simp only [Nat.zero_add]); refine List.getElem?_set_self ?_; (try simp only [List.length_set]); assumption)); exact rfl; exact rfl; exact rfl)); (try simp only [put, rowsOf, plR, List.all_cons, selE, ovr, setH, del, cellsA, splice, isV, List.nil_append, List.cons_append, List.map_cons, List.map_nil, List.length_cons, List.length_nil, List.set_cons_zero, List.set_cons_succ, List.take_succ_cons, List.take_zero, List.take_nil, List.drop_succ_cons, List.drop_zero, List.drop_nil, List.append_nil, List.all_cons, List.all_nil, Bool.and_true, Bool.true_and, Bool.and_false, Bool.false_and, Nat.reduceAdd, Nat.zero_add, Nat.add_zero, Nat.reduceEqDiff, if_true, if_false, reduceIte]))
    | (show AW _ _ _ _ _ _ _ _; first | refine aw_region ?_ | (refine aw_seqk ?_; intro K hK) | refine aw_block ?_ | (apply aw_cond_t; exact rfl; exact (by assumption)) | refine aw_skip ?_)
    | refine thn_n ?_
    | (refine hK _ _ _ ?_; clear hK K))); all_goals (repeat (clear hK K)))
      refine sq_sub (tab_put (j := y) c2 (by omega)) ?_
      have hbj := tab_at (n := ls.length) (B := ⟨106, 1, false, outR 1 (List.replicate ls.length ls.length)⟩) (f := fun a b => nrP ls i k a b || (a == i && b == y)) (show y < ls.length by omega)
      have hst2 : (tabR ls.length (fun b => nrP ls i k y b || (y == i && b == y)))[0 + ((i : Int)).toNat]? = some [.v (.bool (nrP ls i k y i || (y == i && i == y)))] := by rw [Nat.zero_add, Int.toNat_natCast, tabR_at (by omega)]; rfl
      ((repeat' (first
    | (show SQ _ _ _ _ _ _ _ _; first | apply sq_nil | (apply q_move; exact rfl; exact rfl) | (apply q_assign; exact rfl; exact rfl) | (apply q_add; exact rfl; exact rfl; exact rfl) | (apply q_ixl; exact rfl; exact rfl; exact rfl; exact (ty rfl); exact rfl; exact rfl; exact rfl; exact (by first | omega | (simp; done) | (simp; omega)); exact (by first | omega | (simp; done) | (simp; omega))) | (apply q_ld1p; exact rfl; exact rfl; exact (ty rfl); exact rfl; exact rfl; exact (by first | rfl | assumption | ((try simp only [Nat.zero_add]); refine List.getElem?_set_self ?_; (try simp only [List.length_set]); assumption)); exact rfl) | (apply q_ixl; exact rfl; exact rfl; exact rfl; exact (ty rfl); exact rfl; exact (by assumption); exact rfl; exact (by first | omega | (simp; done) | (simp; omega)); exact (by first | omega | (simp; done) | (simp; omega))))
    | (show SQ _ _ _ _ _ _ _ _; (first | (apply q_store; exact rfl; exact rfl; exact (ty rfl); exact (by assumption); exact (by first | rfl | assumption | ((try simp only [Nat.zero_add]); refine List.getElem?_set_self ?_; (try simp only [List.length_set]); assumption)); exact rfl; exact rfl; exact rfl)); (try simp only [put, rowsOf, plR, List.all_cons, selE, ovr, setH, del, cellsA, splice, isV, List.nil_append, List.cons_append, List.map_cons, List.map_nil, List.length_cons, List.length_nil, List.set_cons_zero, List.set_cons_succ, List.take_succ_cons, List.take_zero, List.take_nil, List.drop_succ_cons, List.drop_zero, List.drop_nil, List.append_nil, List.all_cons, List.all_nil, Bool.and_true, Bool.true_and, Bool.and_false, Bool.false_and, Nat.reduceAdd, Nat.zero_add, Nat.add_zero, Nat.reduceEqDiff, if_true, if_false, reduceIte]))
    | (show AW _ _ _ _ _ _ _ _; first | refine aw_region ?_)
    | refine thn_n ?_
    | (refine hK _ _ _ ?_; clear hK K)
    | refine inb_n ?_)); all_goals (repeat (clear hK K)))
      refine ⟨k + 1, id, c3, by omega, ?_⟩
      (try dsimp only)
      rw [← hw]
      refine sub_tab ⟨lk_i rfl rfl, lk_i rfl rfl, lk_s rfl rfl rfl rfl, lk_d rfl rfl, trivial⟩ ?_ (fun j c hc => ?_) (by (try dsimp only); omega) pin_0
      · rw [look_cons, if_neg (by omega), if_neg (by omega)]; rfl
      · refine tab_put (n := ls.length) (j := i) (i := y) (f := fun a b => nrP ls i k a b || (a == i && b == y)) (by omega) c2 (1 + j) c ?_
        rw [tab_congr (g := fun a b => nrP ls i k a b || (a == i && b == y) || (a == y && b == i)) fun a b _ _ => nrP_next (by simpa [List.getD, c2] using c3) (by simpa [List.getD, c2] using hy) a b] at hc
        exact tab_in j c hc
    · have b3 : decide ((k : Int) < ((ls[i].map inL).length : Int)) = false := by rw [hll]; simpa using c3
      obtain rfl : k = ls[i].length := by omega
      have hw : IntKind.i64.wrap ((i : Int) + 1) = ((i + 1 : Nat) : Int) := by rw [IntWalk.i64_in _ (by omega)]; omega
      ((repeat' (first
    | (show SQ _ _ _ _ _ _ _ _; first | apply sq_nil | (apply q_move; exact rfl; exact rfl) | (apply q_assign; exact rfl; exact rfl) | (apply q_lend; exact rfl; exact rfl; exact (ty rfl); exact rfl) | (apply q_add; exact rfl; exact rfl; exact rfl) | (apply q_lss; exact rfl; exact rfl; exact rfl) | (apply q_ixd; exact rfl; exact rfl; exact rfl; exact (ty rfl); exact rfl; exact (by first | omega | (simp; done) | (simp; omega)); exact (by first | omega | (simp; done) | (simp; omega)); exact (by first | rfl | assumption)) | (apply q_ld1d; exact rfl; exact rfl; exact (ty rfl); exact rfl; exact rfl))
    | (show AW _ _ _ _ _ _ _ _; first | refine aw_region ?_ | (refine aw_seqk ?_; intro K hK) | (apply aw_cond_f; exact rfl; exact (by assumption)) | refine aw_exit ?_)
    | refine thn_n ?_
    | (refine hK _ _ _ ?_; clear hK K)
    | refine thn_e ?_
    | refine inb_same ?_
    | refine inb_n ?_
    | (clear hK K; refine hK _ _ _ ?_; clear hK K))); all_goals (repeat (clear hK K)))
      refine ⟨i + 1, id, c2, by omega, ?_⟩
      (try dsimp only)
      rw [← hw]
      refine sub_tab ⟨lk_i rfl rfl, lk_s rfl rfl rfl rfl, lk_d rfl rfl, trivial⟩ rfl (fun j c hc => ?_) (by (try dsimp only); omega) pin_0
      rw [tab_congr (g := nrP ls i ls[i].length) fun a b _ _ => by have := nrP_row ls i a b; rw [show ls.getD i [] = ls[i] by simp [List.getD, c2]] at this; rw [this]] at hc
      exact tab_in j c hc
  have b2 : decide ((i : Int) < ((nbL ls).length : Int)) = false := by rw [hnl]; simpa using c2
  obtain rfl : i = ls.length := by omega
  ((repeat' (first
    | (show SQ _ _ _ _ _ _ _ _; first | apply sq_nil | (apply q_move; exact rfl; exact rfl) | (apply q_assign; exact rfl; exact rfl) | (apply q_lend; exact rfl; exact rfl; exact (ty rfl); exact rfl) | (apply q_lss; exact rfl; exact rfl; exact rfl))
    | (show AW _ _ _ _ _ _ _ _; first | refine aw_region ?_ | (refine aw_seqk ?_; intro K hK) | (apply aw_cond_f; exact rfl; exact (by assumption)) | refine aw_ret ?_ | refine aw_exit ?_)
    | refine thn_n ?_
    | (refine hK _ _ _ ?_; clear hK K)
    | refine thn_e ?_
    | refine inb_same ?_
    | (clear hK K; refine hK _ _ _ ?_; clear hK K))); all_goals (repeat (clear hK K)))
  have hpl := tabT_pl ls.length ls.length (nearB ls)
  refine fin_r (fin_gn (X := 0) (B := 1) hpl (by rw [hnl2, hlen0]) (.r1 _ _ (.tmp _ _ rfl)) ?_ ?_ rfl rfl (fun j c hc => ?_) (by omega))
  · simp [renA]
  · simp [idsOk, Nat.blt_eq]
  · rw [tab_congr (g := nrP ls ls.length 0) fun a b ha hb => (nrP_done ls ha hb).symm] at hc
    exact tab_in j c hc
end Go.Proofs.Yteknfaldpajlpaa.Nb

namespace Go.Proofs.Yteknfaldpajlpaa.Nb
open Go Go.RowKit Go.Proofs.Yteknfaldpajlpaa.Aw Go.Proofs.Yteknfaldpajlpaa.In Go.Proofs.Yteknfaldpajlpaa.Il
set_option linter.unusedSimpArgs false
set_option linter.unusedVariables false
set_option linter.unusedSectionVars false
attribute [local irreducible] AW SQ Step RO RC DE Thn InB
theorem renB_idd (b : Blk) : renB id b = b := renB_id b
theorem sub_id {g n' : Nat} {T T' : Tp} {H : Hp} : ∀ {H' : Hp}, subT T id n' T' → (∀ p ∈ H', Aw.look H p.1 = some p.2) → (∀ p ∈ H', idsOkB n' p.2 = true ∧ p.1 < n') → PinOk g id n' → Sub g T H id T' H' n' := by
  intro H' ht hm hi hp
  refine ⟨ht, ?_, injB_of fun i _ j _ h => h, hp⟩
  clear ht hp
  induction H' with
  | nil => trivial
  | cons p H' ih =>
    refine ⟨⟨?_, (hi p List.mem_cons_self).1, by rw [Nat.blt_eq]; exact (hi p List.mem_cons_self).2⟩, ih (fun q hq => hm q (List.mem_cons_of_mem _ hq)) fun q hq => hi q (List.mem_cons_of_mem _ hq)⟩
    rw [renB_idd]; exact hm p List.mem_cons_self
theorem pl_ids {n : Nat} {b : Blk} (h : b.pl = true) : idsOkB n b = true := by
  obtain ⟨ty, sz, pl, rows⟩ := b
  dsimp only at h
  subst h; rfl
def dT (n : Nat) (f : Nat → Nat → Bool) : List (List AV) := (List.range n).map fun a => [.dsl 1 (tabR n (f a))]
theorem dT_len (n : Nat) (f : Nat → Nat → Bool) : (dT n f).length = n := by simp [dT]
theorem dT_at {n a : Nat} {f : Nat → Nat → Bool} (h : a < n) : (dT n f)[((a : Int)).toNat]? = some [.dsl 1 (tabR n (f a))] := by simp [dT, h]
theorem tabR_i {n a : Nat} {f : Nat → Bool} (h : a < n) : (tabR n f)[((a : Int)).toNat]? = some [.v (.bool (f a))] := by rw [Int.toNat_natCast, tabR_at h]; rfl
def secB (n : Nat) (f : Nat → Nat → Bool) (i j : Nat) : Bool := (j != i) && (List.range n).any fun x => f i x && f x j
def rwS (n : Nat) (f : Nat → Nat → Bool) (i j m b : Nat) : Bool := (decide (b < j) && secB n f i b) || (b == j && (j != i && (List.range m).any fun x => f i x && f x j))
section
variable {n : Nat} {f : Nat → Nat → Bool} {i j m : Nat}
theorem rwS_0 : rwS n f i 0 0 = fun _ => false := by
  funext b; simp [rwS]
theorem rwS_next (h : j ≠ i) (h1 : f i m = true) (h2 : f m j = true) : rwS n f i j (m + 1) = fun b => rwS n f i j m b || b == j := by
  funext b
  have h3 : (j != i) = true := by simpa using h
  unfold rwS
  rw [List.range_succ, List.any_append, List.any_cons, List.any_nil, h1, h2, h3]
  cases (b == j) <;> simp
theorem rwS_same (h1 : (f i m && f m j) = false) : rwS n f i j (m + 1) = rwS n f i j m := by
  funext b
  unfold rwS
  rw [List.range_succ, List.any_append, List.any_cons, List.any_nil, h1]; simp
theorem rwS_j : rwS n f i j n = rwS n f i (j + 1) 0 := by
  funext b
  unfold rwS
  by_cases e : b = j
  · subst e; simp [secB]
  · have e1 : (b == j) = false := by simp [e]
    have e2 : decide (b < j + 1) = decide (b < j) := by simp; omega
    rw [e1, e2]; simp
theorem rwS_ji (h : j = i) : rwS n f i j 0 = rwS n f i (j + 1) 0 := by
  subst h
  funext b
  unfold rwS
  by_cases e : b = j
  · subst e; simp [secB]
  · have e2 : decide (b < j + 1) = decide (b < j) := by simp; omega
    rw [e2]; simp
theorem rwS_end : tabR n (rwS n f i n 0) = tabR n (secB n f i) := tabR_congr fun b hb => by
  unfold rwS; simp [hb]
end
set_option maxHeartbeats 4000000 in
theorem l23Second_ro (n : Nat) (f : Nat → Nat → Bool) (hN : n ≤ 24) (k : Nat) : RO Try.prog 92 [.dsl 1 (dT n f)] k (.sl k 0 n) ((k, tabB k n) :: nst (k + 1) (tabT n n (secB n f))) (k + 5000) := by
  have hnl := dT_len n f
  have hlen0 := tabT_len n n (secB n f)
  refine RO.wide (n' := k + ((tabT n n (secB n f)).length + 1)) (RO.ofm (.sl 0 0 n) ((0, tabB 0 n) :: nst 1 (tabT n n (secB n f))) ((tabT n n (secB n f)).length + 1) Try.func92 Try.ntmps92 rfl (goFn_of Try.func92 rfl (by kernel_rfl)) rfl rfl (by simp [renA]) (shH_gn k (tabT_pl _ _ _)) (full_gn (tabT_pl _ _ _)) ?_) (by omega)
  ((repeat' (first
    | (show SQ _ _ _ _ _ _ _ _; first | apply sq_nil | (apply q_assign; exact rfl; exact rfl))
    | (show SQ _ _ _ _ _ _ _ _; (first | (apply q_build0; exact rfl; exact (ty rfl); exact rfl)); (try simp only [put, rowsOf, plR, List.all_cons, selE, ovr, setH, del, cellsA, splice, isV, List.nil_append, List.cons_append, List.map_cons, List.map_nil, List.length_cons, List.length_nil, List.set_cons_zero, List.set_cons_succ, List.take_succ_cons, List.take_zero, List.take_nil, List.drop_succ_cons, List.drop_zero, List.drop_nil, List.append_nil, List.all_cons, List.all_nil, Bool.and_true, Bool.true_and, Bool.and_false, Bool.false_and, Nat.reduceAdd, Nat.zero_add, Nat.add_zero, Nat.reduceEqDiff, if_true, if_false, reduceIte]))
    | (show AW _ _ _ _ _ _ _ _; first | refine aw_region ?_ | (refine aw_seqk ?_; intro K hK) | refine aw_block ?_)
    | refine thn_n ?_
    | (refine hK _ _ _ ?_; clear hK K))); all_goals (repeat (clear hK K)))
  refine aw_unpl 0 rfl ?_
  refine aw_loop (ρ := id) (ι := Nat) (fun i => ([(4, .v (.int .i64 i)), (3, .sl 0 0 i), (0, .dsl 1 (dT n f))], (0, ⟨106, 1, false, outR 1 (List.replicate i n)⟩) :: nst 1 (tabT n i (secB n f)), 1000))
    (fun i => i ≤ n) (fun i => n - i) 0 (Nat.zero_le _) ⟨by (repeat (refine ⟨by first | exact lk_i rfl rfl | exact lk_d rfl rfl | exact lk_s rfl rfl rfl rfl, ?_⟩)); exact trivial, by (repeat (refine ⟨by first | exact ⟨rfl, rfl, rfl⟩, ?_⟩)); exact trivial, by rfl, by exact pin_0⟩ ?_
  intro i hi
  (try dsimp only)
  have hol : (outR 1 (List.replicate i n)).length = i := by rw [outR_len, List.length_replicate]
  have htl := tabT_len n i (secB n f)
  have hki : ∀ p ∈ (0, (⟨106, 1, false, outR 1 (List.replicate i n)⟩ : Blk)) :: nst 1 (tabT n i (secB n f)), Aw.look ((0, (⟨106, 1, false, outR 1 (List.replicate i n)⟩ : Blk)) :: nst 1 (tabT n i (secB n f))) p.1 = some p.2 ∧ (idsOkB 1001 p.2 = true ∧ p.1 < 1000) := by
    intro p hp
    rcases List.mem_cons.1 hp with rfl | hp
    · exact ⟨rfl, outR_ids _ _ (by rw [List.length_replicate]; omega), by dsimp only; omega⟩
    · obtain ⟨j, h1, h2⟩ := nst_mem _ _ _ hp
      have := nlt h1
      refine ⟨?_, pl_ids (tabT_pl _ _ _ _ (List.mem_of_getElem? h1)).1, by omega⟩
      rw [h2, look_cons, if_neg (by omega), look_nst_at]; exact h1
  by_cases c1 : i < n
  · have b1 : decide ((i : Int) < ((dT n f).length : Int)) = true := by rw [hnl]; simpa using c1
    have hrow := dT_at (f := f) c1
    ((repeat' (first
    | (show SQ _ _ _ _ _ _ _ _; first | apply sq_nil | (apply q_move; exact rfl; exact rfl) | (apply q_assign; exact rfl; exact rfl) | (apply q_lend; exact rfl; exact rfl; exact (ty rfl); exact rfl) | (apply q_lss; exact rfl; exact rfl; exact rfl))
    | (show SQ _ _ _ _ _ _ _ _; (first | (apply q_mks; exact rfl; exact rfl; exact rfl; exact (ty rfl); exact rfl; exact (by first | omega | (simp; done) | (simp; omega)); exact (by first | omega | (simp; done) | (simp; omega)); exact (by first | omega | (simp; done) | (simp; omega)); exact (by first | omega | (simp; done) | (simp; omega)); exact rfl; exact rfl)); (try simp only [put, rowsOf, plR, List.all_cons, selE, ovr, setH, del, cellsA, splice, isV, List.nil_append, List.cons_append, List.map_cons, List.map_nil, List.length_cons, List.length_nil, List.set_cons_zero, List.set_cons_succ, List.take_succ_cons, List.take_zero, List.take_nil, List.drop_succ_cons, List.drop_zero, List.drop_nil, List.append_nil, List.all_cons, List.all_nil, Bool.and_true, Bool.true_and, Bool.and_false, Bool.false_and, Nat.reduceAdd, Nat.zero_add, Nat.add_zero, Nat.reduceEqDiff, if_true, if_false, reduceIte]))
    | (show AW _ _ _ _ _ _ _ _; first | refine aw_region ?_ | (refine aw_seqk ?_; intro K hK) | refine aw_block ?_ | (apply aw_cond_t; exact rfl; exact (by assumption)) | refine aw_skip ?_)
    | refine thn_n ?_
    | (refine hK _ _ _ ?_; clear hK K))); all_goals (repeat (clear hK K)))
    refine aw_loop (ρ := id) (ι := Nat) (fun j => ([(6, .v (.int .i64 j)), (5, .sl 1000 0 n), (4, .v (.int .i64 i)), (3, .sl 0 0 i), (0, .dsl 1 (dT n f))], (1000, ⟨4, 1, true, tabR n (rwS n f i j 0)⟩) :: (0, ⟨106, 1, false, outR 1 (List.replicate i n)⟩) :: nst 1 (tabT n i (secB n f)), 1001))
      (fun j => j ≤ n) (fun j => n - j) 0 (Nat.zero_le _) (sub_id ?_ ?_ ?_ pin_0) ?_
    · exact ⟨lk_i rfl rfl, lk_s rfl rfl (by rw [hnl]; rfl) rfl, lk_i rfl rfl, lk_s rfl rfl rfl rfl, lk_d rfl rfl, trivial⟩
    · intro p hp
      rcases List.mem_cons.1 hp with rfl | hp
      · show some _ = some _
        rw [rwS_0, tabR_ff, hnl]; rfl
      · obtain ⟨h1, h2, h3⟩ := hki p hp
        rw [look_cons, if_neg (by omega)]; exact h1
    · intro p hp
      rcases List.mem_cons.1 hp with rfl | hp
      · exact ⟨rfl, by (try dsimp only); omega⟩
      · exact ⟨(hki p hp).2.1, by have := (hki p hp).2.2; (try dsimp only); omega⟩
    intro j hj
    (try dsimp only)
    by_cases c2 : j < n
    · have b2 : decide ((j : Int) < ((dT n f).length : Int)) = true := by rw [hnl]; simpa using c2
      ((repeat' (first
    | (show SQ _ _ _ _ _ _ _ _; first | apply sq_nil | (apply q_move; exact rfl; exact rfl) | (apply q_assign; exact rfl; exact rfl) | (apply q_lend; exact rfl; exact rfl; exact (ty rfl); exact rfl) | (apply q_lss; exact rfl; exact rfl; exact rfl))
    | (show AW _ _ _ _ _ _ _ _; first | refine aw_region ?_ | (refine aw_seqk ?_; intro K hK) | refine aw_block ?_ | (apply aw_cond_t; exact rfl; exact (by assumption)) | refine aw_skip ?_)
    | refine thn_n ?_
    | (refine hK _ _ _ ?_; clear hK K))); all_goals (repeat (clear hK K)))
      refine aw_loop (ρ := id) (ι := Nat) (fun m => ([(7, .v (.int .i64 m)), (6, .v (.int .i64 j)), (5, .sl 1000 0 n), (4, .v (.int .i64 i)), (3, .sl 0 0 i), (0, .dsl 1 (dT n f))], (1000, ⟨4, 1, true, tabR n (rwS n f i j m)⟩) :: (0, ⟨106, 1, false, outR 1 (List.replicate i n)⟩) :: nst 1 (tabT n i (secB n f)), 1001))
        (fun m => m ≤ n) (fun m => n - m) 0 (Nat.zero_le _) (sub_id ?_ ?_ ?_ pin_0) ?_
      · exact ⟨lk_i rfl rfl, lk_i rfl rfl, lk_s rfl rfl rfl rfl, lk_i rfl rfl, lk_s rfl rfl rfl rfl, lk_d rfl rfl, trivial⟩
      · intro p hp
        rcases List.mem_cons.1 hp with rfl | hp
        · rfl
        · obtain ⟨h1, h2, h3⟩ := hki p hp
          rw [look_cons, if_neg (by omega)]; exact h1
      · intro p hp
        rcases List.mem_cons.1 hp with rfl | hp
        · exact ⟨rfl, by (try dsimp only); omega⟩
        · exact ⟨(hki p hp).2.1, by have := (hki p hp).2.2; (try dsimp only); omega⟩
      intro m hm
      (try dsimp only)
      have hids : ∀ p ∈ (1000, (⟨4, 1, true, tabR n (rwS n f i j (m + 1))⟩ : Blk)) :: (0, (⟨106, 1, false, outR 1 (List.replicate i n)⟩ : Blk)) :: nst 1 (tabT n i (secB n f)), idsOkB 1001 p.2 = true ∧ p.1 < 1001 := by
        intro p hp
        rcases List.mem_cons.1 hp with rfl | hp
        · exact ⟨rfl, by (try dsimp only); omega⟩
        · exact ⟨(hki p hp).2.1, by have := (hki p hp).2.2; (try dsimp only); omega⟩
      by_cases e : j = i
      · have b4 : ((j : Int) != (i : Int)) = false := by subst e; simp
        have hw : IntKind.i64.wrap ((j : Int) + 1) = ((j + 1 : Nat) : Int) := by rw [IntWalk.i64_in _ (by omega)]; omega
        have em : rwS n f i j m = rwS n f i (j + 1) 0 := by
          subst e
          rw [← rwS_ji rfl]
          funext b; simp [rwS]
        by_cases c3 : m < n
        · have b3 : decide ((m : Int) < ((dT n f).length : Int)) = true := by rw [hnl]; simpa using c3
          ((repeat' (first
    | (show SQ _ _ _ _ _ _ _ _; first | apply sq_nil | (apply q_move; exact rfl; exact rfl) | (apply q_assign; exact rfl; exact rfl) | (apply q_pick_t; exact rfl; exact rfl; exact rfl; exact (by first | assumption | exact rfl)) | (apply q_lend; exact rfl; exact rfl; exact (ty rfl); exact rfl) | (apply q_add; exact rfl; exact rfl; exact rfl) | (apply q_neq; exact rfl; exact rfl; exact rfl) | (apply q_lss; exact rfl; exact rfl; exact rfl) | (apply q_g; exact rfl; exact rfl; exact rfl; exact (by assumption)))
    | (show AW _ _ _ _ _ _ _ _; first | refine aw_region ?_ | (refine aw_seqk ?_; intro K hK) | (apply aw_cond_f; exact rfl; exact (by assumption)) | refine aw_exit ?_)
    | refine thn_n ?_
    | (refine hK _ _ _ ?_; clear hK K)
    | refine thn_e ?_
    | refine inb_same ?_
    | refine inb_n ?_
    | (clear hK K; refine hK _ _ _ ?_; clear hK K))); all_goals (repeat (clear hK K)))
          refine ⟨j + 1, id, c2, by omega, sub_id ⟨lk_i rfl hw, lk_s rfl rfl rfl rfl, lk_i rfl rfl, lk_s rfl rfl rfl rfl, lk_d rfl rfl, trivial⟩ (fun p hp => ?_) (fun p hp => ?_) pin_0⟩
          · rcases List.mem_cons.1 hp with rfl | hp
            · rw [← em]; rfl
            · obtain ⟨h1, h2, h3⟩ := hki p hp
              rw [look_cons, if_neg (by omega)]; exact h1
          · rcases List.mem_cons.1 hp with rfl | hp
            · exact ⟨rfl, by (try dsimp only); omega⟩
            · exact ⟨(hki p hp).2.1, by have := (hki p hp).2.2; (try dsimp only); omega⟩
        · have b3 : decide ((m : Int) < ((dT n f).length : Int)) = false := by rw [hnl]; simpa using c3
          ((repeat' (first
    | (show SQ _ _ _ _ _ _ _ _; first | apply sq_nil | (apply q_move; exact rfl; exact rfl) | (apply q_assign; exact rfl; exact rfl) | (apply q_pick_f; exact rfl; exact rfl; exact rfl; exact (by first | assumption | exact rfl)) | (apply q_lend; exact rfl; exact rfl; exact (ty rfl); exact rfl) | (apply q_add; exact rfl; exact rfl; exact rfl) | (apply q_lss; exact rfl; exact rfl; exact rfl) | (apply q_s; exact rfl; exact rfl; exact rfl; exact (by assumption); exact rfl))
    | (show AW _ _ _ _ _ _ _ _; first | refine aw_region ?_ | (refine aw_seqk ?_; intro K hK) | (apply aw_cond_f; exact rfl; exact rfl) | refine aw_exit ?_)
    | refine thn_n ?_
    | (refine hK _ _ _ ?_; clear hK K)
    | refine thn_e ?_
    | refine inb_same ?_
    | refine inb_n ?_
    | (clear hK K; refine hK _ _ _ ?_; clear hK K))); all_goals (repeat (clear hK K)))
          refine ⟨j + 1, id, c2, by omega, sub_id ⟨lk_i rfl hw, lk_s rfl rfl rfl rfl, lk_i rfl rfl, lk_s rfl rfl rfl rfl, lk_d rfl rfl, trivial⟩ (fun p hp => ?_) (fun p hp => ?_) pin_0⟩
          · rcases List.mem_cons.1 hp with rfl | hp
            · rw [← em]; rfl
            · obtain ⟨h1, h2, h3⟩ := hki p hp
              rw [look_cons, if_neg (by omega)]; exact h1
          · rcases List.mem_cons.1 hp with rfl | hp
            · exact ⟨rfl, by (try dsimp only); omega⟩
            · exact ⟨(hki p hp).2.1, by have := (hki p hp).2.2; (try dsimp only); omega⟩
      · have b4 : ((j : Int) != (i : Int)) = true := by simp; omega
        by_cases c3 : m < n
        · have b3 : decide ((m : Int) < ((dT n f).length : Int)) = true := by rw [hnl]; simpa using c3
          have hrowm := dT_at (f := f) c3
          have hl1 := tabR_len n (f i)
          have hl2 := tabR_len n (f m)
          have hl3 := tabR_len n (rwS n f i j m)
          have hc1 := tabR_i (f := f i) c3
          have hc2 := tabR_i (f := f m) c2
          have hw : IntKind.i64.wrap ((m : Int) + 1) = ((m + 1 : Nat) : Int) := by rw [IntWalk.i64_in _ (by omega)]; omega
          have hst : (tabR n (rwS n f i j m))[0 + ((j : Int)).toNat]? = some [.v (.bool (rwS n f i j m j))] := by rw [Nat.zero_add]; exact tabR_i c2
          cases h1 : f i m with
          | false =>
            rw [h1] at hc1
            ((repeat' (first
    | (show SQ _ _ _ _ _ _ _ _; first | apply sq_nil | (apply q_move; exact rfl; exact rfl) | (apply q_assign; exact rfl; exact rfl) | (apply q_pick_t; exact rfl; exact rfl; exact rfl; exact (by first | assumption | exact rfl)) | (apply q_pick_f; exact rfl; exact rfl; exact rfl; exact (by first | assumption | exact rfl)) | (apply q_lend; exact rfl; exact rfl; exact (ty rfl); exact rfl) | (apply q_add; exact rfl; exact rfl; exact rfl) | (apply q_neq; exact rfl; exact rfl; exact rfl) | (apply q_lss; exact rfl; exact rfl; exact rfl) | (apply q_ixd; exact rfl; exact rfl; exact rfl; exact (ty rfl); exact rfl; exact (by first | omega | (simp; done) | (simp; omega)); exact (by first | omega | (simp; done) | (simp; omega)); exact (by first | rfl | assumption)) | (apply q_ld1d; exact rfl; exact rfl; exact (ty rfl); exact rfl; exact rfl) | (apply q_g; exact rfl; exact rfl; exact rfl; exact (by assumption)) | (apply q_s; exact rfl; exact rfl; exact rfl; exact rfl; exact rfl))
    | (show AW _ _ _ _ _ _ _ _; first | refine aw_region ?_ | (refine aw_seqk ?_; intro K hK) | refine aw_block ?_ | (apply aw_cond_f; exact rfl; exact rfl) | (apply aw_cond_t; exact rfl; exact (by assumption)) | refine aw_skip ?_)
    | refine thn_n ?_
    | (refine hK _ _ _ ?_; clear hK K)
    | refine inb_n ?_)); all_goals (repeat (clear hK K)))
            refine ⟨m + 1, id, c3, by omega, sub_id ⟨lk_i rfl hw, lk_i rfl rfl, lk_s rfl rfl rfl rfl, lk_i rfl rfl, lk_s rfl rfl rfl rfl, lk_d rfl rfl, trivial⟩ (fun p hp => ?_) hids pin_0⟩
            rcases List.mem_cons.1 hp with rfl | hp
            · rw [rwS_same (by rw [h1]; rfl)]; rfl
            · obtain ⟨h1, h2, h3⟩ := hki p hp
              rw [look_cons, if_neg (by omega)]; exact h1
          | true =>
            rw [h1] at hc1
            cases h2 : f m j with
            | false =>
              rw [h2] at hc2
              ((repeat' (first
    | (show SQ _ _ _ _ _ _ _ _; first | apply sq_nil | (apply q_move; exact rfl; exact rfl) | (apply q_assign; exact rfl; exact rfl) | (apply q_pick_t; exact rfl; exact rfl; exact rfl; exact (by first | assumption | exact rfl)) | (apply q_lend; exact rfl; exact rfl; exact (ty rfl); exact rfl) | (apply q_add; exact rfl; exact rfl; exact rfl) | (apply q_neq; exact rfl; exact rfl; exact rfl) | (apply q_lss; exact rfl; exact rfl; exact rfl) | (apply q_ixd; exact rfl; exact rfl; exact rfl; exact (ty rfl); exact rfl; exact (by first | omega | (simp; done) | (simp; omega)); exact (by first | omega | (simp; done) | (simp; omega)); exact (by first | rfl | assumption)) | (apply q_ld1d; exact rfl; exact rfl; exact (ty rfl); exact rfl; exact rfl) | (apply q_g; exact rfl; exact rfl; exact rfl; exact (by assumption)) | (apply q_g; exact rfl; exact rfl; exact rfl; exact rfl))
    | (show AW _ _ _ _ _ _ _ _; first | refine aw_region ?_ | (refine aw_seqk ?_; intro K hK) | refine aw_block ?_ | (apply aw_cond_f; exact rfl; exact rfl) | (apply aw_cond_t; exact rfl; exact (by assumption)) | refine aw_skip ?_)
    | refine thn_n ?_
    | (refine hK _ _ _ ?_; clear hK K)
    | refine inb_n ?_)); all_goals (repeat (clear hK K)))
              refine ⟨m + 1, id, c3, by omega, sub_id ⟨lk_i rfl hw, lk_i rfl rfl, lk_s rfl rfl rfl rfl, lk_i rfl rfl, lk_s rfl rfl rfl rfl, lk_d rfl rfl, trivial⟩ (fun p hp => ?_) hids pin_0⟩
              rcases List.mem_cons.1 hp with rfl | hp
              · rw [rwS_same (by rw [h1, h2]; rfl)]; rfl
              · obtain ⟨h1, h2, h3⟩ := hki p hp
                rw [look_cons, if_neg (by omega)]; exact h1
            | true =>
              rw [h2] at hc2
              ((repeat' (first
    | (show SQ _ _ _ _ _ _ _ _; first | apply sq_nil | (apply q_move; exact rfl; exact rfl) | (apply q_assign; exact rfl; exact rfl) | (apply q_pick_t; exact rfl; exact rfl; exact rfl; exact (by first | assumption | exact rfl)) | (apply q_lend; exact rfl; exact rfl; exact (ty rfl); exact rfl) | (apply q_add; exact rfl; exact rfl; exact rfl) | (apply q_neq; exact rfl; exact rfl; exact rfl) | (apply q_lss; exact rfl; exact rfl; exact rfl) | (apply q_ixd; exact rfl; exact rfl; exact rfl; exact (ty rfl); exact rfl; exact (by first | omega | (simp; done) | (simp; omega)); exact (by first | omega | (simp; done) | (simp; omega)); exact (by first | rfl | assumption)) | (apply q_ixl; exact rfl; exact rfl; exact rfl; exact (ty rfl); exact rfl; exact rfl; exact rfl; exact (by first | omega | (simp; done) | (simp; omega)); exact (by first | omega | (simp; done) | (simp; omega))) | (apply q_ld1d; exact rfl; exact rfl; exact (ty rfl); exact rfl; exact rfl) | (apply q_g; exact rfl; exact rfl; exact rfl; exact (by assumption)) | (apply q_g; exact rfl; exact rfl; exact rfl; exact rfl))
    | (show SQ _ _ _ _ _ _ _ _; (first | (apply q_store; exact rfl; exact rfl; exact (ty rfl); exact rfl; exact (by first | rfl | assumption | ((try simp only [Nat.zero_add]); refine List.getElem?_set_self ?_; (try simp only [List.length_set]); assumption)); exact rfl; exact rfl; exact rfl)); (try simp only [put, rowsOf, plR, List.all_cons, selE, ovr, setH, del, cellsA, splice, isV, List.nil_append, List.cons_append, List.map_cons, List.map_nil, List.length_cons, List.length_nil, List.set_cons_zero, List.set_cons_succ, List.take_succ_cons, List.take_zero, List.take_nil, List.drop_succ_cons, List.drop_zero, List.drop_nil, List.append_nil, List.all_cons, List.all_nil, Bool.and_true, Bool.true_and, Bool.and_false, Bool.false_and, Nat.reduceAdd, Nat.zero_add, Nat.add_zero, Nat.reduceEqDiff, if_true, if_false, reduceIte]))
    | (show AW _ _ _ _ _ _ _ _; first | refine aw_region ?_ | (refine aw_seqk ?_; intro K hK) | refine aw_block ?_ | (apply aw_cond_t; exact rfl; exact rfl) | (apply aw_cond_t; exact rfl; exact (by assumption)) | refine aw_skip ?_)
    | refine thn_n ?_
    | (refine hK _ _ _ ?_; clear hK K)
    | refine inb_n ?_)); all_goals (repeat (clear hK K)))
              refine ⟨m + 1, id, c3, by omega, sub_id ⟨lk_i rfl hw, lk_i rfl rfl, lk_s rfl rfl rfl rfl, lk_i rfl rfl, lk_s rfl rfl rfl rfl, lk_d rfl rfl, trivial⟩ (fun p hp => ?_) hids pin_0⟩
              rcases List.mem_cons.1 hp with rfl | hp
              · rw [rwS_next e h1 h2, ← tabR_set c2]; rfl
              · obtain ⟨h1, h2, h3⟩ := hki p hp
                rw [look_cons, if_neg (by omega)]
                exact (look_del_ne ((0, (⟨106, 1, false, outR 1 (List.replicate i n)⟩ : Blk)) :: nst 1 (tabT n i (secB n f))) (k := 1000) (by omega)).trans h1
        · have b3 : decide ((m : Int) < ((dT n f).length : Int)) = false := by rw [hnl]; simpa using c3
          obtain rfl : m = n := by omega
          have hw : IntKind.i64.wrap ((j : Int) + 1) = ((j + 1 : Nat) : Int) := by rw [IntWalk.i64_in _ (by omega)]; omega
          ((repeat' (first
    | (show SQ _ _ _ _ _ _ _ _; first | apply sq_nil | (apply q_move; exact rfl; exact rfl) | (apply q_assign; exact rfl; exact rfl) | (apply q_pick_f; exact rfl; exact rfl; exact rfl; exact (by first | assumption | exact rfl)) | (apply q_lend; exact rfl; exact rfl; exact (ty rfl); exact rfl) | (apply q_add; exact rfl; exact rfl; exact rfl) | (apply q_lss; exact rfl; exact rfl; exact rfl) | (apply q_s; exact rfl; exact rfl; exact rfl; exact (by assumption); exact rfl))
    | (show AW _ _ _ _ _ _ _ _; first | refine aw_region ?_ | (refine aw_seqk ?_; intro K hK) | (apply aw_cond_f; exact rfl; exact rfl) | refine aw_exit ?_)
    | refine thn_n ?_
    | (refine hK _ _ _ ?_; clear hK K)
    | refine thn_e ?_
    | refine inb_same ?_
    | refine inb_n ?_
    | (clear hK K; refine hK _ _ _ ?_; clear hK K))); all_goals (repeat (clear hK K)))
          refine ⟨j + 1, id, c2, by omega, sub_id ⟨lk_i rfl hw, lk_s rfl rfl rfl rfl, lk_i rfl rfl, lk_s rfl rfl rfl rfl, lk_d rfl rfl, trivial⟩ (fun p hp => ?_) (fun p hp => ?_) pin_0⟩
          · rcases List.mem_cons.1 hp with rfl | hp
            · rw [← rwS_j]; rfl
            · obtain ⟨h1, h2, h3⟩ := hki p hp
              rw [look_cons, if_neg (by omega)]; exact h1
          · rcases List.mem_cons.1 hp with rfl | hp
            · exact ⟨rfl, by (try dsimp only); omega⟩
            · exact ⟨(hki p hp).2.1, by have := (hki p hp).2.2; (try dsimp only); omega⟩
    · have b2 : decide ((j : Int) < ((dT n f).length : Int)) = false := by rw [hnl]; simpa using c2
      obtain rfl : j = n := by omega
      have hw : IntKind.i64.wrap ((i : Int) + 1) = ((i + 1 : Nat) : Int) := by rw [IntWalk.i64_in _ (by omega)]; omega
      ((repeat' (first
    | (show SQ _ _ _ _ _ _ _ _; first | apply sq_nil | (apply q_move; exact rfl; exact rfl) | (apply q_assign; exact rfl; exact rfl) | (apply q_lend; exact rfl; exact rfl; exact (ty rfl); exact rfl) | (apply q_add; exact rfl; exact rfl; exact rfl) | (apply q_lss; exact rfl; exact rfl; exact rfl))
    | (show SQ _ _ _ _ _ _ _ _; (first | (apply q_buildn; exact rfl; exact (ty rfl); exact rfl; exact rfl; exact rfl; exact rfl; exact rfl; exact rfl; exact rfl) | (apply q_apo_s; exact rfl; exact rfl; exact rfl; exact (ty rfl); exact rfl; exact rfl; exact (by first | omega | (simp; done) | (simp; omega)); exact (by first | exact List.take_of_length_le (by first | omega | (simp; done) | (simp; omega)) | rfl); exact (ty rfl); exact rfl; exact rfl; exact (by first | omega | (simp; done) | (simp; omega)); exact (by first | exact dt_full (by first | omega | (simp; done) | (simp; omega)) | assumption | rfl); exact rfl; exact (by first | omega | (simp; done) | (simp; omega)); exact (by first | omega | (simp; done) | (simp; omega)); exact (by first | assumption | exact rfl))); (try simp only [put, rowsOf, plR, List.all_cons, selE, ovr, setH, del, cellsA, splice, isV, List.nil_append, List.cons_append, List.map_cons, List.map_nil, List.length_cons, List.length_nil, List.set_cons_zero, List.set_cons_succ, List.take_succ_cons, List.take_zero, List.take_nil, List.drop_succ_cons, List.drop_zero, List.drop_nil, List.append_nil, List.all_cons, List.all_nil, Bool.and_true, Bool.true_and, Bool.and_false, Bool.false_and, Nat.reduceAdd, Nat.zero_add, Nat.add_zero, Nat.reduceEqDiff, if_true, if_false, reduceIte]))
    | (show AW _ _ _ _ _ _ _ _; first | refine aw_region ?_ | (refine aw_seqk ?_; intro K hK) | (apply aw_cond_f; exact rfl; exact (by assumption)) | refine aw_exit ?_)
    | refine thn_n ?_
    | (refine hK _ _ _ ?_; clear hK K)
    | refine thn_e ?_
    | refine inb_same ?_
    | refine inb_n ?_
    | (clear hK K; refine hK _ _ _ ?_; clear hK K))); all_goals (repeat (clear hK K)))
      refine ⟨i + 1, fun z => if z = 0 then 1002 else if z = 1 + (tabT j i (secB j f)).length then 1000 else z, c1, by omega, ?_⟩
      (try dsimp only)
      rw [List.replicate_succ', tabT_succ, ← rwS_end]
      refine sub_grow (i := 0) (by rw [List.length_replicate, htl]) (tabT_pl _ _ _) rfl ?_ rfl rfl (fun j c hc => ?_) (by (try dsimp only); rw [htl]; omega) (by omega) (by rw [htl]; omega) (by rw [htl]; omega) pin_0
      · exact ⟨lk_i rfl hw, lk_s rfl rfl rfl rfl, lk_d rfl rfl, trivial⟩
      · have := nlt hc
        rw [htl] at this
        rw [look_cons, if_neg (by omega), look_cons, if_neg (by omega), look_cons, if_neg (by omega), look_del_ne _ (by omega), look_nst_at]
        exact hc
  have b1 : decide ((i : Int) < ((dT n f).length : Int)) = false := by rw [hnl]; simpa using c1
  obtain rfl : i = n := by omega
  ((repeat' (first
    | (show SQ _ _ _ _ _ _ _ _; first | apply sq_nil | (apply q_move; exact rfl; exact rfl) | (apply q_assign; exact rfl; exact rfl) | (apply q_lend; exact rfl; exact rfl; exact (ty rfl); exact rfl) | (apply q_lss; exact rfl; exact rfl; exact rfl))
    | (show AW _ _ _ _ _ _ _ _; first | refine aw_region ?_ | (refine aw_seqk ?_; intro K hK) | (apply aw_cond_f; exact rfl; exact (by assumption)) | refine aw_ret ?_ | refine aw_exit ?_)
    | refine thn_n ?_
    | (refine hK _ _ _ ?_; clear hK K)
    | refine thn_e ?_
    | refine inb_same ?_
    | (clear hK K; refine hK _ _ _ ?_; clear hK K))); all_goals (repeat (clear hK K)))
  refine fin_r (fin_gn (X := 0) (B := 1) (tabT_pl _ _ _) (by rw [repR_len, hlen0]) (.r1 _ _ (.tmp _ _ rfl)) ?_ ?_ rfl rfl (fun j c hc => ?_) (by omega))
  · simp [renA]
  · simp [idsOk, Nat.blt_eq]
  · exact tab_in j c hc
end Go.Proofs.Yteknfaldpajlpaa.Nb

namespace Go.Proofs.Yteknfaldpajlpaa.Nb
open Go Go.RowKit Go.Proofs.Yteknfaldpajlpaa.Aw Go.Proofs.Yteknfaldpajlpaa.In Go.Proofs.Yteknfaldpajlpaa.Il
set_option linter.unusedSimpArgs false
set_option linter.unusedVariables false
set_option linter.unusedSectionVars false
attribute [local irreducible] AW SQ Step RO RC DE Thn InB
theorem fz_tab {H : Hp} {k n : Nat} {f : Nat → Nat → Bool} (hl : Aw.look H k = some (tabB k n)) (hn : NstIn H (k + 1) (tabT n n f)) : Fz H (.sl k 0 n) (.dsl 1 (dT n f)) := by
  have e1 : ((List.range n).map fun a => tabR n (f a)).map List.length = List.replicate n n := by
    apply List.ext_getElem?
    intro x
    by_cases h : x < n <;> simp [h, tabR_len]
  refine Fz.nst (ity := 4) (ty := 106) (Ls := (List.range n).map fun a => tabR n (f a)) ?_ ?_ (by simp) ?_
  · rw [nestB, e1]; exact hl
  · rw [List.map_map]; exact hn
  · rw [List.map_map]; rfl
def brP (n : Nat) (f g : Nat → Nat → Bool) (i j a b : Nat) : Bool := g a b || (f a b && (decide (a < i) || (a == i && decide (b < j))))
section
variable {n : Nat} {f g : Nat → Nat → Bool} {i j : Nat}
theorem brP_0 : brP n f g 0 0 = g := by funext a b; simp [brP]
theorem brP_no {a : Nat} (h : f i j = false) : brP n f g i (j + 1) a = brP n f g i j a := by
  funext b
  unfold brP
  by_cases e : a = i
  · subst e
    by_cases e2 : b = j
    · subst e2; rw [h]; simp
    · have e3 : decide (b < j + 1) = decide (b < j) := by simp; omega
      rw [e3]
  · have e1 : (a == i) = false := by simp [e]
    rw [e1]; simp
theorem brP_off {a j' : Nat} (h : a ≠ i) : brP n f g i j' a = brP n f g i j a := by
  funext b
  unfold brP
  have e1 : (a == i) = false := by simp [h]
  rw [e1]; simp
theorem brP_yes (h : f i j = true) : brP n f g i (j + 1) i = fun b => brP n f g i j i b || b == j := by
  funext b
  unfold brP
  by_cases e2 : b = j
  · subst e2; rw [h]; simp
  · have e3 : decide (b < j + 1) = decide (b < j) := by simp; omega
    have e4 : (b == j) = false := by simp [e2]
    rw [e3, e4]; simp
theorem brP_i {a : Nat} : tabR n (brP n f g i n a) = tabR n (brP n f g (i + 1) 0 a) := tabR_congr fun b hb => by
  unfold brP
  by_cases e : a = i
  · subst e; simp [hb]
  · have e1 : (a == i) = false := by simp [e]
    have e2 : decide (a < i + 1) = decide (a < i) := by simp; omega
    rw [e1, e2]; simp
theorem brP_end {a : Nat} (h : a < n) : tabR n (brP n f g n 0 a) = tabR n fun b => f a b || g a b := tabR_congr fun b hb => by
  unfold brP
  have e1 : decide (a < n) = true := by simpa using h
  rw [e1]; simp [Bool.or_comm]
end
def tw (n : Nat) (f g : Nat → Nat → Bool) : Hp := (5000, ⟨106, 1, false, outR 5001 (List.replicate n n)⟩) :: (0, ⟨106, 1, false, outR 1 (List.replicate n n)⟩) :: (nst 1 (tabT n n f) ++ nst 5001 (tabT n n g))
theorem tw_f {n a : Nat} {f g : Nat → Nat → Bool} (hN : n ≤ 24) (h : a < n) : Aw.look (tw n f g) (1 + a) = some ⟨4, 1, true, tabR n (f a)⟩ := by
  unfold tw
  rw [look_cons, if_neg (by omega), look_cons, if_neg (by omega), look_append, look_nst_at, tabT_at h]; rfl
theorem tw_g {n a : Nat} {f g : Nat → Nat → Bool} (hN : n ≤ 24) (h : a < n) : Aw.look (tw n f g) (5001 + a) = some ⟨4, 1, true, tabR n (g a)⟩ := by
  have := tabT_len n n f
  unfold tw
  rw [look_cons, if_neg (by omega), look_cons, if_neg (by omega), look_append, look_nst, if_pos (by omega), List.getElem?_eq_none (by omega), Option.none_or, look_nst_at, tabT_at h]
theorem tw_mem {n : Nat} {f g : Nat → Nat → Bool} {p : Nat × Blk} (h : p ∈ tw n f g) : p = (5000, ⟨106, 1, false, outR 5001 (List.replicate n n)⟩) ∨ p = (0, ⟨106, 1, false, outR 1 (List.replicate n n)⟩) ∨
    (∃ a, a < n ∧ p = (1 + a, ⟨4, 1, true, tabR n (f a)⟩)) ∨ ∃ a, a < n ∧ p = (5001 + a, ⟨4, 1, true, tabR n (g a)⟩) := by
  unfold tw at h
  rcases List.mem_cons.1 h with h | h
  · exact .inl h
  rcases List.mem_cons.1 h with h | h
  · exact .inr (.inl h)
  obtain ⟨p1, p2⟩ := p
  rcases List.mem_append.1 h with h | h
  · obtain ⟨a, h1, h2⟩ := nst_mem _ _ _ h
    obtain ⟨h3, h4⟩ := tabT_get h1
    dsimp only at h2 h4
    subst h2 h4
    exact .inr (.inr (.inl ⟨a, h3, rfl⟩))
  · obtain ⟨a, h1, h2⟩ := nst_mem _ _ _ h
    obtain ⟨h3, h4⟩ := tabT_get h1
    dsimp only at h2 h4
    subst h2 h4
    exact .inr (.inr (.inr ⟨a, h3, rfl⟩))
theorem tw_ids {n : Nat} {f g : Nat → Nat → Bool} (hN : n ≤ 24) : ∀ p ∈ tw n f g, idsOkB 10000 p.2 = true ∧ p.1 < 10000 := by
  intro p hp
  rcases tw_mem hp with rfl | rfl | ⟨a, h1, rfl⟩ | ⟨a, h1, rfl⟩
  · exact ⟨outR_ids _ _ (by rw [List.length_replicate]; omega), by (try dsimp only); omega⟩
  · exact ⟨outR_ids _ _ (by rw [List.length_replicate]; omega), by (try dsimp only); omega⟩
  · exact ⟨rfl, by (try dsimp only); omega⟩
  · exact ⟨rfl, by (try dsimp only); omega⟩
theorem tw_sub {n : Nat} {f g : Nat → Nat → Bool} {H : Hp} (h5 : Aw.look H 5000 = some ⟨106, 1, false, outR 5001 (List.replicate n n)⟩) (h0 : Aw.look H 0 = some ⟨106, 1, false, outR 1 (List.replicate n n)⟩)
    (hf : ∀ a, a < n → Aw.look H (1 + a) = some ⟨4, 1, true, tabR n (f a)⟩) (hg : ∀ a, a < n → Aw.look H (5001 + a) = some ⟨4, 1, true, tabR n (g a)⟩) : ∀ p ∈ tw n f g, Aw.look H p.1 = some p.2 := by
  intro p hp
  rcases tw_mem hp with rfl | rfl | ⟨a, h1, rfl⟩ | ⟨a, h1, rfl⟩
  · exact h5
  · exact h0
  · exact hf a h1
  · exact hg a h1
theorem look_mem {H : Hp} {i : Nat} {b : Blk} (h : Aw.look H i = some b) : (i, b) ∈ H := by
  induction H with
  | nil => simp [look_nil] at h
  | cons p H ih =>
    obtain ⟨k, c⟩ := p
    rw [look_cons] at h
    split at h
    · rename_i e; subst e; cases h; exact List.mem_cons_self
    · exact List.mem_cons_of_mem _ (ih h)
def barB (ls : List (List Int)) (a b : Nat) : Bool := nearB ls a b || secB ls.length (nearB ls) a b
set_option maxHeartbeats 4000000 in
theorem l23Bars_ro (ls : List (List Int)) (hS : NbS ls) (h : nbB ls = true) (k : Nat) : RO Try.prog 60 [.dsl 1 (nbL ls)] k (.sl k 0 ls.length) ((k, tabB k ls.length) :: nst (k + 1) (tabT ls.length ls.length (barB ls))) (k + 5000) := by
  have hnl := nbL_len ls
  obtain ⟨hN, hV⟩ := nbB_ok h
  have hT := l23Table_ro ls hS h
  have hS2 := l23Second_ro ls.length (nearB ls) hN
  have hlen0 := tabT_len ls.length ls.length (barB ls)
  clear hV
  generalize hn : ls.length = n at *
  refine RO.wide (n' := k + ((tabT n n (barB ls)).length + 1)) (RO.ofm (.sl 0 0 n) ((0, tabB 0 n) :: nst 1 (tabT n n (barB ls))) ((tabT n n (barB ls)).length + 1) Try.func60 Try.ntmps60 rfl (goFn_of Try.func60 rfl (by kernel_rfl)) rfl rfl (by simp [renA]) (shH_gn k (tabT_pl _ _ _)) (full_gn (tabT_pl _ _ _)) ?_) (by omega)
  ((repeat' (first
    | (show SQ _ _ _ _ _ _ _ _; first | apply sq_nil | (apply q_move; exact rfl; exact rfl) | (apply q_assign; exact rfl; exact rfl))
    | (show SQ _ _ _ _ _ _ _ _; (first | (apply q_callU; exact rfl; exact rfl; exact rfl; exact FzL.of rfl; exact hT _)); (try simp only [put, rowsOf, plR, List.all_cons, selE, ovr, setH, del, cellsA, splice, isV, List.nil_append, List.cons_append, List.map_cons, List.map_nil, List.length_cons, List.length_nil, List.set_cons_zero, List.set_cons_succ, List.take_succ_cons, List.take_zero, List.take_nil, List.drop_succ_cons, List.drop_zero, List.drop_nil, List.append_nil, List.all_cons, List.all_nil, Bool.and_true, Bool.true_and, Bool.and_false, Bool.false_and, Nat.reduceAdd, Nat.zero_add, Nat.add_zero, Nat.reduceEqDiff, if_true, if_false, reduceIte]))
    | (show AW _ _ _ _ _ _ _ _; first | refine aw_region ?_ | (refine aw_seqk ?_; intro K hK))
    | refine thn_n ?_
    | (refine hK _ _ _ ?_; clear hK K))); all_goals (repeat (clear hK K)))
  refine q_callU rfl rfl rfl (FzL.cons (fz_tab rfl fun j c hc => ?_) FzL.nil) (hS2 _) ?_
  · exact tab_in j c hc
  ((repeat' (first
    | (show SQ _ _ _ _ _ _ _ _; first | apply sq_nil | (apply q_assign; exact rfl; exact rfl))
    | (show AW _ _ _ _ _ _ _ _; first | refine aw_region ?_ | (refine aw_seqk ?_; intro K hK) | refine aw_block ?_)
    | refine thn_n ?_
    | (refine hK _ _ _ ?_; clear hK K))); all_goals (repeat (clear hK K)))
  refine aw_loop (ρ := id) (ι := Nat) (fun i => ([(5, .v (.int .i64 i)), (4, .sl 5000 0 n), (3, .sl 0 0 n)], tw n (nearB ls) (brP n (nearB ls) (secB n (nearB ls)) i 0), 10000))
    (fun i => i ≤ n) (fun i => n - i) 0 (Nat.zero_le _) (sub_id ⟨lk_i rfl rfl, lk_s rfl rfl rfl rfl, lk_s rfl rfl rfl rfl, trivial⟩ (tw_sub rfl ?_ (fun a ha => ?_) fun a ha => ?_) (tw_ids hN) pin_0) ?_
  · rw [List.cons_append, look_cons, if_neg (by omega), look_append, look_nst, if_neg (by omega)]; rfl
  · rw [List.cons_append, look_cons, if_neg (by omega), look_append, look_nst, if_neg (by omega), Option.none_or]
    exact tab_at ha
  · rw [List.cons_append, look_cons, if_neg (by omega), look_append, look_nst_at, tabT_at ha, brP_0]; rfl
  intro i hi
  (try dsimp only)
  have hol0 : (outR 1 (List.replicate n n)).length = n := by rw [outR_len, List.length_replicate]
  have hol5 : (outR 5001 (List.replicate n n)).length = n := by rw [outR_len, List.length_replicate]
  by_cases c1 : i < n
  · have b1 : decide ((i : Int) < (n : Int)) = true := by simpa using c1
    ((repeat' (first
    | (show SQ _ _ _ _ _ _ _ _; first | apply sq_nil | (apply q_move; exact rfl; exact rfl) | (apply q_assign; exact rfl; exact rfl) | (apply q_lenl; exact rfl; exact rfl; exact (ty rfl); exact rfl) | (apply q_lss; exact rfl; exact rfl; exact rfl))
    | (show AW _ _ _ _ _ _ _ _; first | refine aw_region ?_ | (refine aw_seqk ?_; intro K hK) | refine aw_block ?_ | (apply aw_cond_t; exact rfl; exact (by assumption)) | refine aw_skip ?_)
    | refine thn_n ?_
    | (refine hK _ _ _ ?_; clear hK K))); all_goals (repeat (clear hK K)))
    refine aw_loop (ρ := id) (ι := Nat) (fun j => ([(6, .v (.int .i64 j)), (5, .v (.int .i64 i)), (4, .sl 5000 0 n), (3, .sl 0 0 n)], tw n (nearB ls) (brP n (nearB ls) (secB n (nearB ls)) i j), 10000))
      (fun j => j ≤ n) (fun j => n - j) 0 (Nat.zero_le _) (sub_id ⟨lk_i rfl rfl, lk_i rfl rfl, lk_s rfl rfl rfl rfl, lk_s rfl rfl rfl rfl, trivial⟩ (tw_sub rfl rfl (fun a ha => tw_f hN ha) fun a ha => tw_g hN ha) (tw_ids hN) pin_0) ?_
    intro j hj
    (try dsimp only)
    by_cases c2 : j < n
    · have b2 : decide ((j : Int) < (n : Int)) = true := by simpa using c2
      have hw : IntKind.i64.wrap ((j : Int) + 1) = ((j + 1 : Nat) : Int) := by rw [IntWalk.i64_in _ (by omega)]; omega
      have hr0 : (outR 1 (List.replicate n n))[0 + ((i : Int)).toNat]? = some [.sl (1 + i) 0 n] := rep_at c1
      have hr5 : (outR 5001 (List.replicate n n))[0 + ((i : Int)).toNat]? = some [.sl (5001 + i) 0 n] := by rw [Nat.zero_add, Int.toNat_natCast, outR_get, List.getElem?_replicate, if_pos c1]; rfl
      have hbf := tw_f (g := brP n (nearB ls) (secB n (nearB ls)) i j) (f := nearB ls) hN c1
      have hbg := tw_g (g := brP n (nearB ls) (secB n (nearB ls)) i j) (f := nearB ls) hN c1
      have hl1 := tabR_len n (nearB ls i)
      have hc1 : (tabR n (nearB ls i))[0 + ((j : Int)).toNat]? = some [.v (.bool (nearB ls i j))] := by rw [Nat.zero_add]; exact tabR_i c2
      have hst : (tabR n (brP n (nearB ls) (secB n (nearB ls)) i j i))[0 + ((j : Int)).toNat]? = some [.v (.bool (brP n (nearB ls) (secB n (nearB ls)) i j i j))] := by rw [Nat.zero_add]; exact tabR_i c2
      cases hne : nearB ls i j with
      | false =>
        rw [hne] at hc1
        ((repeat' (first
    | (show SQ _ _ _ _ _ _ _ _; first | apply sq_nil | (apply q_move; exact rfl; exact rfl) | (apply q_assign; exact rfl; exact rfl) | (apply q_lenl; exact rfl; exact rfl; exact (ty rfl); exact rfl) | (apply q_add; exact rfl; exact rfl; exact rfl) | (apply q_lss; exact rfl; exact rfl; exact rfl) | (apply q_ixl; exact rfl; exact rfl; exact rfl; exact (ty rfl); exact rfl; exact rfl; exact rfl; exact (by first | omega | (simp; done) | (simp; omega)); exact (by first | omega | (simp; done) | (simp; omega))) | (apply q_ld1p; exact rfl; exact rfl; exact (ty rfl); exact rfl; exact rfl; exact (by first | rfl | assumption | ((try simp only [Nat.zero_add]); refine List.getElem?_set_self ?_; (try simp only [List.length_set]); assumption)); exact rfl) | (apply q_ixl; exact rfl; exact rfl; exact rfl; exact (ty rfl); exact rfl; exact (by assumption); exact rfl; exact (by first | omega | (simp; done) | (simp; omega)); exact (by first | omega | (simp; done) | (simp; omega))) | (apply q_ld1p; exact rfl; exact rfl; exact (ty rfl); exact rfl; exact (by assumption); exact (by first | rfl | assumption | ((try simp only [Nat.zero_add]); refine List.getElem?_set_self ?_; (try simp only [List.length_set]); assumption)); exact rfl))
    | (show AW _ _ _ _ _ _ _ _; first | refine aw_region ?_ | (refine aw_seqk ?_; intro K hK) | refine aw_block ?_ | (apply aw_cond_f; exact rfl; exact rfl) | (apply aw_cond_t; exact rfl; exact (by assumption)) | refine aw_skip ?_)
    | refine thn_n ?_
    | (refine hK _ _ _ ?_; clear hK K)
    | refine inb_n ?_)); all_goals (repeat (clear hK K)))
        refine ⟨j + 1, id, c2, by omega, sub_id ⟨lk_i rfl hw, lk_i rfl rfl, lk_s rfl rfl rfl rfl, lk_s rfl rfl rfl rfl, trivial⟩ (tw_sub rfl rfl (fun a ha => tw_f hN ha) fun a ha => ?_) (tw_ids hN) pin_0⟩
        by_cases e : a = i
        · subst e; rw [brP_no hne]; exact tw_g hN ha
        · rw [brP_off (j := j) e]; exact tw_g hN ha
      | true =>
        rw [hne] at hc1
        ((repeat' (first
    | (show SQ _ _ _ _ _ _ _ _; first | apply sq_nil | (apply q_move; exact rfl; exact rfl) | (apply q_assign; exact rfl; exact rfl) | (apply q_lenl; exact rfl; exact rfl; exact (ty rfl); exact rfl) | (apply q_add; exact rfl; exact rfl; exact rfl) | (apply q_lss; exact rfl; exact rfl; exact rfl) | (apply q_ixl; exact rfl; exact rfl; exact rfl; exact (ty rfl); exact rfl; exact rfl; exact rfl; exact (by first | omega | (simp; done) | (simp; omega)); exact (by first | omega | (simp; done) | (simp; omega))) | (apply q_ld1p; exact rfl; exact rfl; exact (ty rfl); exact rfl; exact rfl; exact (by first | rfl | assumption | ((try simp only [Nat.zero_add]); refine List.getElem?_set_self ?_; (try simp only [List.length_set]); assumption)); exact rfl) | (apply q_ixl; exact rfl; exact rfl; exact rfl; exact (ty rfl); exact rfl; exact (by assumption); exact rfl; exact (by first | omega | (simp; done) | (simp; omega)); exact (by first | omega | (simp; done) | (simp; omega))) | (apply q_ld1p; exact rfl; exact rfl; exact (ty rfl); exact rfl; exact (by assumption); exact (by first | rfl | assumption | ((try simp only [Nat.zero_add]); refine List.getElem?_set_self ?_; (try simp only [List.length_set]); assumption)); exact rfl))
    | (show SQ _ _ _ _ _ _ _ _; (first | (apply q_store; exact rfl; exact rfl; exact (ty rfl); exact (by assumption); exact (by first | rfl | assumption | ((try simp only [Nat.zero_add]); refine List.getElem?_set_self ?_; (try simp only [List.length_set]); assumption)); exact rfl; exact rfl; exact rfl)); (try simp only [put, rowsOf, plR, List.all_cons, selE, ovr, setH, del, cellsA, splice, isV, List.nil_append, List.cons_append, List.map_cons, List.map_nil, List.length_cons, List.length_nil, List.set_cons_zero, List.set_cons_succ, List.take_succ_cons, List.take_zero, List.take_nil, List.drop_succ_cons, List.drop_zero, List.drop_nil, List.append_nil, List.all_cons, List.all_nil, Bool.and_true, Bool.true_and, Bool.and_false, Bool.false_and, Nat.reduceAdd, Nat.zero_add, Nat.add_zero, Nat.reduceEqDiff, if_true, if_false, reduceIte]))
    | (show AW _ _ _ _ _ _ _ _; first | refine aw_region ?_ | (refine aw_seqk ?_; intro K hK) | refine aw_block ?_ | (apply aw_cond_t; exact rfl; exact rfl) | (apply aw_cond_t; exact rfl; exact (by assumption)) | refine aw_skip ?_)
    | refine thn_n ?_
    | (refine hK _ _ _ ?_; clear hK K)
    | refine inb_n ?_)); all_goals (repeat (clear hK K)))
        refine ⟨j + 1, id, c2, by omega, sub_id ⟨lk_i rfl hw, lk_i rfl rfl, lk_s rfl rfl rfl rfl, lk_s rfl rfl rfl rfl, trivial⟩ (tw_sub ?_ ?_ (fun a ha => ?_) fun a ha => ?_) (tw_ids hN) pin_0⟩
        · rw [look_cons, if_neg (by omega), look_del_ne _ (by omega)]; rfl
        · rw [look_cons, if_neg (by omega), look_del_ne _ (by omega)]; rfl
        · rw [look_cons, if_neg (by omega), look_del_ne _ (by omega)]; exact tw_f hN ha
        · by_cases e : a = i
          · subst e
            rw [look_cons, if_pos rfl, brP_yes hne, ← tabR_set c2]; rfl
          · rw [look_cons, if_neg (by omega), look_del_ne _ (by omega), brP_off (j := j) e]; exact tw_g hN ha
    · have b2 : decide ((j : Int) < (n : Int)) = false := by simpa using c2
      obtain rfl : j = n := by omega
      have hw : IntKind.i64.wrap ((i : Int) + 1) = ((i + 1 : Nat) : Int) := by rw [IntWalk.i64_in _ (by omega)]; omega
      ((repeat' (first
    | (show SQ _ _ _ _ _ _ _ _; first | apply sq_nil | (apply q_move; exact rfl; exact rfl) | (apply q_assign; exact rfl; exact rfl) | (apply q_lenl; exact rfl; exact rfl; exact (ty rfl); exact rfl) | (apply q_add; exact rfl; exact rfl; exact rfl) | (apply q_lss; exact rfl; exact rfl; exact rfl))
    | (show AW _ _ _ _ _ _ _ _; first | refine aw_region ?_ | (refine aw_seqk ?_; intro K hK) | (apply aw_cond_f; exact rfl; exact (by assumption)) | refine aw_exit ?_)
    | refine thn_n ?_
    | (refine hK _ _ _ ?_; clear hK K)
    | refine thn_e ?_
    | refine inb_same ?_
    | refine inb_n ?_
    | (clear hK K; refine hK _ _ _ ?_; clear hK K))); all_goals (repeat (clear hK K)))
      refine ⟨i + 1, id, c1, by omega, sub_id ⟨lk_i rfl hw, lk_s rfl rfl rfl rfl, lk_s rfl rfl rfl rfl, trivial⟩ (tw_sub rfl rfl (fun a ha => tw_f hN ha) fun a ha => ?_) (tw_ids hN) pin_0⟩
      rw [← brP_i]; exact tw_g hN ha
  have b1 : decide ((i : Int) < (n : Int)) = false := by simpa using c1
  obtain rfl : i = n := by omega
  ((repeat' (first
    | (show SQ _ _ _ _ _ _ _ _; first | apply sq_nil | (apply q_move; exact rfl; exact rfl) | (apply q_assign; exact rfl; exact rfl) | (apply q_lenl; exact rfl; exact rfl; exact (ty rfl); exact rfl) | (apply q_lss; exact rfl; exact rfl; exact rfl))
    | (show AW _ _ _ _ _ _ _ _; first | refine aw_region ?_ | (refine aw_seqk ?_; intro K hK) | (apply aw_cond_f; exact rfl; exact (by assumption)) | refine aw_ret ?_ | refine aw_exit ?_)
    | refine thn_n ?_
    | (refine hK _ _ _ ?_; clear hK K)
    | refine thn_e ?_
    | refine inb_same ?_
    | (clear hK K; refine hK _ _ _ ?_; clear hK K))); all_goals (repeat (clear hK K)))
  refine fin_r (fin_gn (X := 5000) (B := 5001) (tabT_pl _ _ _) (by rw [repR_len, hlen0]) (.r1 _ _ (.tmp _ _ rfl)) ?_ ?_ rfl rfl (fun j c hc => ?_) (by omega))
  · simp [renA]
  · simp [idsOk, Nat.blt_eq]
  · obtain ⟨h1, rfl⟩ := tabT_get hc
    rw [tw_g hN h1, brP_end h1]; subst hn; rfl
end Go.Proofs.Yteknfaldpajlpaa.Nb

namespace Go.Proofs.Yteknfaldpajlpaa.Nb
open Go Go.RowKit Go.Proofs.Yteknfaldpajlpaa.Aw Go.Proofs.Yteknfaldpajlpaa.In Go.Proofs.Yteknfaldpajlpaa.Il
set_option linter.unusedSimpArgs false
set_option linter.unusedVariables false
set_option linter.unusedSectionVars false
attribute [local irreducible] AW SQ Step RO RC DE Thn InB
theorem nbB_in {ls : List (List Int)} (h : nbB ls = true) : ls.length ≤ 24 := by
  simp only [nbB, Bool.and_eq_true, decide_eq_true_eq] at h; exact h.1
section
variable (ls : List (List Int)) (hS : NbS ls)
include hS
end
end Go.Proofs.Yteknfaldpajlpaa.Nb

namespace Go.Proofs.Yteknfaldpajlpaa.Nb
open Go Go.Proofs.Yteknfaldpajlpaa.In Go.Proofs.Yteknfaldpajlpaa.Il
set_option linter.unusedSimpArgs false
set_option linter.unusedVariables false
set_option linter.unusedSectionVars false
theorem fresh : ∀ (n : Nat) (cs : List Int), cs.length < n → ∃ c : Nat, c < n ∧ (c : Int) ∉ cs
  | 0, cs, h => absurd h (Nat.not_lt_zero _)
  | n + 1, cs, h => by
    by_cases hm : (n : Int) ∈ cs
    · obtain ⟨c, h1, h2⟩ := fresh n (cs.erase n) (by rw [List.length_erase_of_mem hm]; have := List.length_pos_of_mem hm; omega)
      exact ⟨c, by omega, fun hc => h2 ((List.mem_erase_of_ne (by omega)).2 hc)⟩
    · exact ⟨n, by omega, hm⟩
theorem earB_fresh {ls : List (List Int)} {cs : List Int} {c : Int} (h : c ∉ cs) : earB ls cs c = false :=
  anyR_false fun i hi => by
    have : cs.getD i 0 ≠ c := fun e => h (by rw [← e]; simp [List.getD, hi])
    have hb : (cs.getD i 0 == c) = false := beq_eq_false_iff_ne.2 this
    rw [hb]; rfl
def frC (ls : List (List Int)) (cs : List Int) : Nat := ((List.range 1000).find? fun (c : Nat) => !earB ls cs (c : Int)).getD 0
theorem frC_spec {ls : List (List Int)} {cs : List Int} {u : Nat} (hu : u < 1000) (hf : earB ls cs (u : Int) = false) : frC ls cs ≤ u ∧ earB ls cs (frC ls cs : Int) = false ∧ ∀ j : Nat, j < frC ls cs → earB ls cs (j : Int) = true := by
  unfold frC
  cases h : (List.range 1000).find? fun (c : Nat) => !earB ls cs (c : Int) with
  | none =>
    have := List.find?_eq_none.1 h u (List.mem_range.2 hu)
    rw [hf] at this; simp at this
  | some c =>
    rw [List.find?_range_eq_some] at h
    obtain ⟨h1, h2, h3⟩ := h
    simp only [Option.getD_some]
    refine ⟨?_, by simpa using h1, fun j hj => by simpa using h3 j hj⟩
    apply Nat.le_of_not_lt
    intro hlt
    have := h3 u hlt
    rw [hf] at this; simp at this
def asgC (ls : List (List Int)) : Nat → List Int
  | 0 => []
  | i + 1 => asgC ls i ++ [(frC ls (asgC ls i) : Int)]
theorem asgC_len (ls : List (List Int)) : ∀ i, (asgC ls i).length = i
  | 0 => rfl
  | i + 1 => by simp [asgC, asgC_len ls i]
theorem frC_asg (ls : List (List Int)) {i : Nat} (hi : i < 999) : frC ls (asgC ls i) ≤ i ∧ earB ls (asgC ls i) (frC ls (asgC ls i) : Int) = false ∧ ∀ j : Nat, j < frC ls (asgC ls i) → earB ls (asgC ls i) (j : Int) = true := by
  obtain ⟨c, h1, h2⟩ := fresh (i + 1) (asgC ls i) (by rw [asgC_len]; omega)
  have := frC_spec (u := c) (by omega) (earB_fresh (ls := ls) h2)
  exact ⟨by omega, this.2⟩
def OkFrom (ls : List (List Int)) (a : Nat) (cs : List Int) : Prop := ∀ i, a ≤ i → i < cs.length → earB ls (cs.take i) (cs.getD i 0) = false
def extG (nxt : Int → Int × List Int → Bool × (Int × List Int)) (ls : List (List Int)) (len : Nat) (used : Int) : Nat → Nat → Int × List Int → Bool × (Int × List Int)
  | 0, _, st => (false, st)
  | k + 1, c, st => if earB ls (st.2.take len) (c : Int) then extG nxt ls len used k (c + 1) st
    else if st.1 - 1 < 0 then (false, (st.1 - 1, st.2))
    else if (nxt (max used ((c : Int) + 1)) (st.1 - 1, st.2.take len ++ [(c : Int)])).1 then (true, (nxt (max used ((c : Int) + 1)) (st.1 - 1, st.2.take len ++ [(c : Int)])).2)
    else if (nxt (max used ((c : Int) + 1)) (st.1 - 1, st.2.take len ++ [(c : Int)])).2.1 < 0 then (false, (nxt (max used ((c : Int) + 1)) (st.1 - 1, st.2.take len ++ [(c : Int)])).2)
    else extG nxt ls len used k (c + 1) (nxt (max used ((c : Int) + 1)) (st.1 - 1, st.2.take len ++ [(c : Int)])).2
def extN (m used : Int) : Nat := (min m (used + 1)).toNat
def ext (ls : List (List Int)) (m : Int) : Nat → Int → Int × List Int → Bool × (Int × List Int)
  | 0, _, st => (true, st)
  | r + 1, used, st => extG (ext ls m r) ls (ls.length - (r + 1)) used (extN m used) 0 st
structure ExI (ls : List (List Int)) (m : Int) (len : Nat) (st : Int × List Int) (q : Bool × (Int × List Int)) : Prop where
  keep : q.2.2.take len = st.2.take len
  le : len ≤ q.2.2.length
  bud : q.2.1 ≤ st.1
  lo : -1 ≤ q.2.1
  ok : q.1 = true → q.2.2.length = ls.length ∧ 0 ≤ q.2.1 ∧ OkFrom ls len q.2.2 ∧ ∀ i, len ≤ i → i < ls.length → 0 ≤ q.2.2.getD i 0 ∧ q.2.2.getD i 0 < m
theorem ExI.refl (ls : List (List Int)) (m : Int) {len : Nat} {st : Int × List Int} (h : len ≤ st.2.length) (h0 : -1 ≤ st.1) : ExI ls m len st (false, st) := ⟨rfl, h, Int.le_refl _, h0, fun h => by cases h⟩
theorem extG_keep {nxt : Int → Int × List Int → Bool × (Int × List Int)} {ls : List (List Int)} {m used : Int} {len : Nat} (hl : len < ls.length)
    (hn : ∀ used' st', 0 ≤ st'.1 → len + 1 = st'.2.length → ExI ls m (len + 1) st' (nxt used' st')) : ∀ (k c : Nat) (st : Int × List Int), 0 ≤ st.1 → len ≤ st.2.length → ((c + k : Nat) : Int) ≤ max m 0 → ExI ls m len st (extG nxt ls len used k c st)
  | 0, c, st, h0, h1, _ => .refl ls m h1 (by show -1 ≤ st.1; omega)
  | k + 1, c, st, h0, h1, hm => by
    have htl : (st.2.take len).length = len := by rw [List.length_take]; omega
    unfold extG
    split
    · exact extG_keep hl hn k (c + 1) st h0 h1 (by omega)
    · rename_i he
      split
      · exact ⟨rfl, h1, by show st.1 - 1 ≤ st.1; omega, by show -1 ≤ st.1 - 1; omega, fun h => by cases h⟩
      · rename_i hb
        have hq := hn (max used ((c : Int) + 1)) (st.1 - 1, st.2.take len ++ [(c : Int)]) (by show 0 ≤ st.1 - 1; omega) (by simp [htl])
        generalize nxt (max used ((c : Int) + 1)) (st.1 - 1, st.2.take len ++ [(c : Int)]) = q at hq ⊢
        obtain ⟨g1, g2, g3, g3b, g4⟩ := hq
        dsimp only at g1 g3
        have hc1 : (st.2.take len ++ [(c : Int)]).length = len + 1 := by simp [htl]
        rw [List.take_of_length_le (by omega : (st.2.take len ++ [(c : Int)]).length ≤ len + 1)] at g1
        have hk : q.2.2.take len = st.2.take len := by
          have := congrArg (List.take len) g1
          rw [List.take_take, Nat.min_eq_left (by omega), List.take_append_of_le_length (by omega), List.take_take, Nat.min_self] at this
          exact this
        split
        · rename_i hok
          obtain ⟨w1, w1b, w2, w3⟩ := g4 hok
          have hat : q.2.2.getD len 0 = (c : Int) := by
            have := congrArg (fun l => List.getD l len 0) g1
            simp only [List.getD] at this ⊢
            rw [List.getElem?_take_of_lt (Nat.lt_succ_self len), List.getElem?_append_right (by omega), htl] at this
            simpa using this
          refine ⟨hk, by dsimp only; omega, by dsimp only; omega, by dsimp only; omega, fun _ => ⟨w1, w1b, fun i hi hil => ?_, fun i hi hil => ?_⟩⟩
          · by_cases e : i = len
            · subst e
              dsimp only at hil ⊢
              rw [hk, hat]; simpa using he
            · exact w2 i (by omega) hil
          · by_cases e : i = len
            · subst e
              dsimp only
              rw [hat]; omega
            · exact w3 i (by omega) hil
        · split
          · exact ⟨hk, by dsimp only; omega, by dsimp only; omega, g3b, fun h => by cases h⟩
          · rename_i hok hbq
            have ih := extG_keep hl hn (used := used) k (c + 1) q.2 (by omega) (by omega) (by omega)
            exact ⟨ih.keep.trans hk, ih.le, by have := ih.bud; omega, ih.lo, ih.ok⟩
theorem ext_keep {ls : List (List Int)} {m : Int} : ∀ (r : Nat) (used : Int) (st : Int × List Int), r ≤ ls.length → 0 ≤ st.1 → ls.length - r ≤ st.2.length → (r = 0 → st.2.length = ls.length) → ExI ls m (ls.length - r) st (ext ls m r used st)
  | 0, used, st, hr, h0, h1, h2 => ⟨rfl, h1, Int.le_refl _, by show -1 ≤ st.1; omega, fun _ => ⟨h2 rfl, h0, fun i hi hil => by have := h2 rfl; simp only [ext] at hil; omega, fun i hi hil => by omega⟩⟩
  | r + 1, used, st, hr, h0, h1, _ => by
    have hN : ((0 + extN m used : Nat) : Int) ≤ max m 0 := by unfold extN; omega
    exact extG_keep (by omega) (fun used' st' g0 g1 => by
      have := ext_keep (ls := ls) (m := m) r used' st' (by omega) g0 (by omega) (by omega)
      rwa [show ls.length - r = ls.length - (r + 1) + 1 by omega] at this) _ _ st h0 h1 hN
inductive Sol (ls : List (List Int)) (m : Int) : List Int → Int → List Int → Prop
  | nil {p : List Int} {u : Int} : Sol ls m p u []
  | cons {p w : List Int} {u : Int} {c : Nat} (hm : (c : Int) < m) (hu : (c : Int) ≤ u) (he : earB ls p (c : Int) = false) (h : Sol ls m (p ++ [(c : Int)]) (max u ((c : Int) + 1)) w) : Sol ls m p u ((c : Int) :: w)
theorem extG_find {nxt : Int → Int × List Int → Bool × (Int × List Int)} {ls : List (List Int)} {m used : Int} {len : Nat} (hl : len < ls.length)
    (hn : ∀ used' st', 0 ≤ st'.1 → len + 1 = st'.2.length → ExI ls m (len + 1) st' (nxt used' st')) {p : List Int} {c : Nat} (he : earB ls p (c : Int) = false)
    (hs : ∀ st', 0 ≤ st'.1 → st'.2 = p ++ [(c : Int)] → (nxt (max used ((c : Int) + 1)) st').1 = true ∨ (nxt (max used ((c : Int) + 1)) st').2.1 < 0) :
    ∀ (k a : Nat) (st : Int × List Int), 0 ≤ st.1 → len ≤ st.2.length → st.2.take len = p → a ≤ c → c < a + k → ((a + k : Nat) : Int) ≤ max m 0 → (extG nxt ls len used k a st).1 = true ∨ (extG nxt ls len used k a st).2.1 < 0
  | 0, a, st, h0, h1, hp, ha, hc, _ => by omega
  | k + 1, a, st, h0, h1, hp, ha, hc, hm => by
    have htl : (st.2.take len).length = len := by rw [List.length_take]; omega
    unfold extG
    split
    · rename_i hea
      have : a ≠ c := fun e => by subst e; rw [hp, he] at hea; cases hea
      exact extG_find hl hn he hs k (a + 1) st h0 h1 hp (by omega) (by omega) (by omega)
    · split
      · rename_i hb; exact .inr hb
      · rename_i hb
        have hq := hn (max used ((a : Int) + 1)) (st.1 - 1, st.2.take len ++ [(a : Int)]) (by show 0 ≤ st.1 - 1; omega) (by simp [htl])
        by_cases e : a = c
        · subst e
          have := hs (st.1 - 1, st.2.take len ++ [(a : Int)]) (by show 0 ≤ st.1 - 1; omega) (by rw [hp])
          generalize nxt (max used ((a : Int) + 1)) (st.1 - 1, st.2.take len ++ [(a : Int)]) = q at hq this ⊢
          split
          · exact .inl rfl
          · split
            · rename_i h; exact .inr h
            · rename_i g1 g2
              rcases this with h | h
              · exact absurd h g1
              · exact absurd h g2
        · generalize nxt (max used ((a : Int) + 1)) (st.1 - 1, st.2.take len ++ [(a : Int)]) = q at hq ⊢
          split
          · exact .inl rfl
          · split
            · rename_i h; exact .inr h
            · have hk : q.2.2.take len = p := by
                have g1 := hq.keep
                dsimp only at g1
                rw [List.take_of_length_le (by simp [htl] : (st.2.take len ++ [(a : Int)]).length ≤ len + 1)] at g1
                have := congrArg (List.take len) g1
                rw [List.take_take, Nat.min_eq_left (by omega), List.take_append_of_le_length (by omega), List.take_take, Nat.min_self] at this
                rw [this, hp]
              have := hq.le
              exact extG_find hl hn he hs k (a + 1) q.2 (by omega) (by omega) hk (by omega) (by omega) (by omega)
theorem ext_find {ls : List (List Int)} {m : Int} : ∀ (r : Nat) (used : Int) (st : Int × List Int) (p w : List Int), r ≤ ls.length → 0 ≤ st.1 → ls.length - r ≤ st.2.length → (r = 0 → st.2.length = ls.length) → st.2.take (ls.length - r) = p → w.length = r → Sol ls m p used w →
    (ext ls m r used st).1 = true ∨ (ext ls m r used st).2.1 < 0
  | 0, used, st, p, w, hr, h0, h1, h2, hp, hw, hS => .inl rfl
  | r + 1, used, st, p, w, hr, h0, h1, h2, hp, hw, hS => by
    cases hS with
    | nil => simp at hw
    | @cons _ w _ c hm hu he hS =>
      have hN : ((0 + extN m used : Nat) : Int) ≤ max m 0 := by unfold extN; omega
      have hpl : p.length = ls.length - (r + 1) := by rw [← hp, List.length_take]; omega
      refine extG_find (m := m) (p := p) (c := c) (by omega) (fun used' st' g0 g1 => ?_) he (fun st' g0 g1 => ?_) _ _ st h0 h1 hp (Nat.zero_le _) (by unfold extN; omega) hN
      · have := ext_keep (ls := ls) (m := m) r used' st' (by omega) g0 (by omega) (by omega)
        rwa [show ls.length - r = ls.length - (r + 1) + 1 by omega] at this
      · have hl : st'.2.length = ls.length - r := by rw [g1, List.length_append, List.length_singleton]; omega
        exact ext_find r _ st' (p ++ [(c : Int)]) w (by omega) g0 (by omega) (by omega) (by rw [List.take_of_length_le (by omega), g1]) (by simpa using hw) hS
end Go.Proofs.Yteknfaldpajlpaa.Nb

namespace Go.Proofs.Yteknfaldpajlpaa.Aw
open Go Go.RowKit
set_option linter.unusedVariables false
set_option linter.unusedSimpArgs false
section
variable {K : Nat → Prop} {w w' : World} {m : Nat → Loc} {B : Nat} {es0 : Array MapEntry} {c0 : Nat}
end
section
variable {P : Program} {Old : Nat → Prop} {wi : WI} {K : Nat → Prop} {m : Nat → Loc} {S : Nat → Prop} {H : Hp} {w : World} {N n : Nat} {T : Tp} {o : Oper} {a : Act}
end
section
variable {P : Program} {N n : Nat} {all : Array Oper} {l : List Oper} {G : Tp → Hp → Nat → Prop} {T T' : Tp} {H : Hp} {ty : TypeId} {pos : String} {after : Array Edge} {d : Nat}
inductive VV : AV → Value → Prop
  | v (x : Value) : VV (.v x) x
  | agg2 (x y : Value) : VV (.agg [.v x, .v y]) (.agg #[x, y])
end
theorem VV.val {K : Nat → Prop} {w : World} {m : Nat → Loc} {S : Nat → Prop} {av : AV} {x : Value} (h : VV av x) : VR K w m S av x := by
  cases h with
  | v => exact .v _ _
  | agg2 a b =>
    refine .agg _ _ [a, b] rfl fun j cv y h1 h2 => ?_
    match j with
    | 0 => simp at h1 h2; subst h1 h2; exact .v _ _
    | 1 => simp at h1 h2; subst h1 h2; exact .v _ _
    | j + 2 => simp at h1
section
variable {P : Program} {N n : Nat} {all : Array Oper} {l : List Oper} {G : Tp → Hp → Nat → Prop} {T : Tp} {H : Hp} {ty : TypeId} {pos : String} {after : Array Edge} {d : Nat} {o : Oper}
end
section
variable {P : Program} {Old : Nat → Prop} {wi : WI} {K : Nat → Prop} {m : Nat → Loc} {S : Nat → Prop} {H : Hp} {w : World} {N n g : Nat} {T : Tp} {Q : Exit → Tp → Hp → Nat → Prop}
theorem Rel.reB {id ty sz : Nat} {pl : Bool} {rows rows' : List (List AV)} (hr : Rel Old wi K m S H w) (hl : look H id = some ⟨ty, sz, pl, rows⟩) (hlen : rows'.length = rows.length)
    (hw : ∀ (r : Nat) (row' : List AV), rows'[r]? = some row' → ∃ row, rows[r]? = some row ∧ row'.length = row.length ∧ ∀ (j : Nat) (cv' : AV), row'[j]? = some cv' → ∃ cv, row[j]? = some cv ∧ ∀ x, VR K w m S cv x → VR K w m S cv' x) : Rel Old wi K m S ((id, ⟨ty, sz, false, rows'⟩) :: H) w := by
  have old : ∀ i bi, look ((id, (⟨ty, sz, false, rows'⟩ : Blk)) :: H) i = some bi → ∃ b0, look H i = some b0 ∧ ((i = id ∧ bi = ⟨ty, sz, false, rows'⟩) ∨ bi = b0) := fun i bi h => by
    rw [look_cons] at h
    split at h
    · rename_i he; subst he; simp only [Option.some.injEq] at h; exact ⟨_, hl, .inl ⟨rfl, h.symm⟩⟩
    · exact ⟨bi, h, .inr rfl⟩
  refine { os := hr.os, tape := hr.tape, output := hr.output, size := hr.size, old := hr.old, olt := hr.olt, oown := fun i bi h => ?_, om := fun i bi h => ?_, kb := hr.kb, inS := fun i bi h => ?_, pin := hr.pin, pinS := hr.pinS, own := fun i bi h => ?_, inj := fun i j bi bj hi hj hne => ?_ }
  · obtain ⟨b0, h0, _⟩ := old i bi h; exact hr.oown i b0 h0
  · obtain ⟨b0, h0, hc⟩ := old i bi h
    rcases hc with ⟨rfl, rfl⟩ | rfl
    · exact fun hp hq => hr.om i ⟨ty, sz, pl, rows⟩ hl hp hq
    · exact hr.om i _ h0
  · obtain ⟨b0, h0, _⟩ := old i bi h; exact hr.inS i b0 h0
  · obtain ⟨b0, h0, hc⟩ := old i bi h
    rcases hc with ⟨rfl, rfl⟩ | rfl
    · rcases hr.own i _ hl with ⟨e1, e2⟩ | ⟨hp, hb⟩
      · refine .inl ⟨e1, ?_⟩
        simp only at e2
        rw [e2] at hlen
        exact List.length_eq_zero_iff.1 hlen
      · obtain ⟨cur, c1, c2, c3⟩ := hb.ex
        refine .inr ⟨hp, hb.nk, hb.sz, by have := hb.cap; simp only at this ⊢; rw [hlen]; exact this, hb.capm, (fun h => by cases h), cur, c1, c2, fun r row' hrow => ?_⟩
        obtain ⟨row, hr0, hlen, hcell⟩ := hw r row' hrow
        obtain ⟨g1, g2⟩ := c3 r row hr0
        refine ⟨hlen.trans g1, fun j cv' hj => ?_⟩
        obtain ⟨cv, hj0, hwk⟩ := hcell j cv' hj
        obtain ⟨x, hx, h1, hv⟩ := g2 j cv hj0
        refine ⟨x, hx, h1, (hwk x (hv.mono (fun _ h => h) (fun _ _ => rfl) (fun i hi => hi.1) (fun _ _ => rfl))).mono (fun _ h => h) (fun _ _ => rfl) (fun i hi => ⟨hi, rfl⟩) (fun _ _ => rfl)⟩
    · exact hr.own i _ h0
  · obtain ⟨b1, h1, _⟩ := old i bi hi
    obtain ⟨b2, h2, _⟩ := old j bj hj
    exact hr.inj i j b1 b2 h1 h2 hne
theorem aw_nilB {c : Code} (id r j ety esz : Nat) {ty sz : Nat} {pl : Bool} {rows rows' : List (List AV)} {row : List AV} (hl : look H id = some ⟨ty, sz, pl, rows⟩) (hne : Nat.beq n id = false) (hrow : rows[r]? = some row) (hj : row[j]? = some (.v (.slice none 0 0))) (he : rows.set r (row.set j (.sl n 0 0)) = rows')
    (h : AW P N g c Q T ((id, ⟨ty, sz, false, rows'⟩) :: (n, ⟨ety, esz, true, []⟩) :: H) (n + 1)) : AW P N g c Q T H n := fun Old wi K m a w hp hr ht => by
  have hn : ¬ (fun i => i < n) n := Nat.lt_irrefl n
  have hph := hr.phantom hn ety esz true
  have hm : ∀ i, i < n → updL m n ⟨0, 0, 0, true⟩ i = m i := fun i hi => updL_ne _ _ (fun e => hn (e ▸ hi))
  have eS : addS (fun i => i < n) n (n + 1) = fun i => i < n + 1 := addS_lt (Nat.le_succ n)
  rw [eS] at hph
  have hl2 : look ((n, (⟨ety, esz, true, []⟩ : Blk)) :: H) id = some ⟨ty, sz, pl, rows⟩ := by
    rw [look_cons, if_neg (fun e => by subst e; rw [Nat.beq_refl] at hne; cases hne)]; exact hl
  subst he
  refine h Old wi K _ a w hp (hph.reB hl2 (by simp) fun q row' hq => ?_) (ht.mono (fun _ h => h) (fun _ _ => rfl) (fun i (hi : i < n) => Nat.lt_succ_of_lt hi) hm)
  rw [List.getElem?_set] at hq
  split at hq
  · rename_i e
    subst e
    split at hq
    · simp only [Option.some.injEq] at hq
      subst hq
      refine ⟨row, hrow, by simp, fun k cv' hk => ?_⟩
      rw [List.getElem?_set] at hk
      split at hk
      · rename_i e
        subst e
        split at hk
        · simp only [Option.some.injEq] at hk
          subst hk
          refine ⟨_, hj, fun x hx => ?_⟩
          cases hx
          exact .sl0 _ _ _ _ (Nat.lt_succ_self n)
        · cases hk
      · exact ⟨cv', hk, fun x hx => hx⟩
    · cases hq
  · exact ⟨row', hq, rfl, fun k cv' hk => ⟨cv', hk, fun x hx => hx⟩⟩
end
end Go.Proofs.Yteknfaldpajlpaa.Aw
