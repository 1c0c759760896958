/-
  What the law FnCodes rests on, part 3.
-/
import Derived.Test.YteknfaldpajlpaaZFnCodes2
namespace Go.Proofs.Yteknfaldpajlpaa.Il
open Go Go.RowKit Go.Proofs.Yteknfaldpajlpaa.Aw Go.Proofs.Yteknfaldpajlpaa.In
set_option linter.unusedSimpArgs false
set_option linter.unusedVariables false
attribute [local irreducible] AW SQ Step RO RC DE Thn InB
theorem allR_false {n : Nat} {f : Nat → Bool} {i : Nat} (hi : i < n) (h : f i = false) : (List.range n).all f = false := by
  cases ha : (List.range n).all f with
  | false => rfl
  | true => have := List.all_eq_true.1 ha i (List.mem_range.2 hi); rw [h] at this; cases this
theorem allR_true {n : Nat} {f : Nat → Bool} (h : ∀ i, i < n → f i = true) : (List.range n).all f = true :=
  List.all_eq_true.2 fun i hi => h i (List.mem_range.1 hi)
theorem anyR_true {n : Nat} {f : Nat → Bool} {i : Nat} (hi : i < n) (h : f i = true) : (List.range n).any f = true :=
  List.any_eq_true.2 ⟨i, List.mem_range.2 hi, h⟩
theorem anyR_false {n : Nat} {f : Nat → Bool} (h : ∀ i, i < n → f i = false) : (List.range n).any f = false :=
  List.any_eq_false.2 fun i hi => by rw [h i (List.mem_range.1 hi)]; simp
def incAt (xs : List Int) (i : Nat) : Bool := decide (i = 0) || decide (xs.getD (i - 1) 0 < xs.getD i 0)
theorem incAt0 (xs : List Int) : incAt xs 0 = true := rfl
def incB (xs : List Int) : Bool := (List.range xs.length).all (incAt xs)
def risB (xs : List Int) (lo hi : Int) : Bool := (List.range xs.length).all fun i => inB (xs.getD i 0) lo hi && incAt xs i
theorem risB_eq (xs : List Int) (lo hi : Int) : risB xs lo hi = (incB xs && !xs.any fun x => !inB x lo hi) := by
  rw [Bool.eq_iff_iff]
  simp only [risB, incB, Bool.and_eq_true, List.all_eq_true, List.mem_range, Bool.not_eq_true', List.any_eq_false, Bool.not_eq_true, Bool.not_eq_false']
  constructor
  · intro h
    refine ⟨fun i hi => (h i hi).2, fun x hx => ?_⟩
    obtain ⟨j, hj, rfl⟩ := List.getElem_of_mem hx
    have := (h j hj).1
    simpa [List.getD, hj] using this
  · rintro ⟨h, g⟩ i hi
    refine ⟨?_, h i hi⟩
    have := g xs[i] (List.getElem_mem hi)
    simpa [List.getD, hi] using this
set_option maxHeartbeats 4000000 in
theorem increasing_ro (xs : List Int) (hn : xs.length ≤ 1048576) (k : Nat) : RO Try.prog 68 [.dsl 1 (xs.map inL)] k (.v (.bool (incB xs))) [] k := by
  refine RO.ofv' Try.func68 Try.ntmps68 rfl (goFn_of Try.func68 rfl (by kernel_rfl)) rfl rfl ?_
  ((repeat' (first
    | (show SQ _ _ _ _ _ _ _ _; first | apply sq_nil | (apply q_assign; exact rfl; exact rfl))
    | (show AW _ _ _ _ _ _ _ _; first | refine aw_region ?_ | (refine aw_seqk ?_; intro K hK) | refine aw_block ?_)
    | refine thn_n ?_
    | (refine hK _ _ _ ?_; clear hK K))); all_goals (repeat (clear hK K)))
  refine aw_loop (ρ := id) (ι := Nat) (fun i => ([(3, .v (.int .i64 i)), (0, .dsl 1 (xs.map inL))], [], 0))
    (fun i => 1 ≤ i ∧ ∀ j, j < i → j < xs.length → incAt xs j = true) (fun i => xs.length - i) 1 ⟨Nat.le_refl _, fun j hj _ => (show j = 0 by omega) ▸ incAt0 xs⟩ ⟨by (repeat (refine ⟨by first | exact lk_i rfl rfl | exact lk_d rfl rfl, ?_⟩)); exact trivial, by exact trivial, by rfl, by exact pin_0⟩ ?_
  rintro i ⟨hi, hg⟩
  by_cases c2 : i < xs.length
  · have b2 : decide ((i : Int) < ((xs.map inL).length : Int)) = true := by simpa using c2
    have hrow : (xs.map inL)[((i : Int)).toNat]? = some (inL xs[i]) := by simp [c2]
    have hw2 : IntKind.i64.wrap ((i : Int) - 1) = (i : Int) - 1 := IntWalk.i64_in _ (by omega)
    have hrow2 : (xs.map inL)[(IntKind.i64.wrap ((i : Int) - 1)).toNat]? = some (inL xs[i - 1]) := by
      rw [hw2, show ((i : Int) - 1).toNat = i - 1 by omega]; simp [show i - 1 < xs.length by omega]
    rw [inL_eq] at hrow hrow2
    have hD : incAt xs i = decide (xs[i - 1] < xs[i]) := by simp [incAt, List.getD, c2, show i - 1 < xs.length by omega, show i ≠ 0 by omega]
    ((repeat' (first
    | (show SQ _ _ _ _ _ _ _ _; first | apply sq_nil | (apply q_move; exact rfl; exact rfl) | (apply q_assign; exact rfl; exact rfl) | (apply q_lend; exact rfl; exact rfl; exact (ty rfl); exact rfl) | (apply q_add; exact rfl; exact rfl; exact rfl) | (apply q_lss; exact rfl; exact rfl; exact rfl))
    | (show DE _ _ _ _ _ _ _ _ _ _ _ _; first | (apply e_move; exact rfl; exact rfl; exact rfl) | (apply e_sub; exact rfl; exact rfl; exact rfl; exact rfl) | (apply e_leq; exact rfl; exact rfl; exact rfl; exact rfl) | (apply e_ixd; exact rfl; exact rfl; exact rfl; exact (ty rfl); exact rfl; exact (by first | omega | (simp; done) | (simp; omega)); exact (by first | omega | (simp; done) | (simp; omega)); exact (by first | rfl | assumption); exact rfl) | (apply e_ld1d; exact rfl; exact rfl; exact (ty rfl); exact rfl; exact rfl; exact rfl))
    | (show DE _ _ _ _ _ _ _ _ _ _ _ _; (first | (apply dr_nil; exact trivial)); (try simp only [put, rowsOf, plR, List.all_cons, selE, ovr, setH, del, cellsA, splice, isV, List.nil_append, List.cons_append, List.map_cons, List.map_nil, List.length_cons, List.length_nil, List.set_cons_zero, List.set_cons_succ, List.take_succ_cons, List.take_zero, List.take_nil, List.drop_succ_cons, List.drop_zero, List.drop_nil, List.append_nil, List.all_cons, List.all_nil, Bool.and_true, Bool.true_and, Bool.and_false, Bool.false_and, Nat.reduceAdd, Nat.zero_add, Nat.add_zero, Nat.reduceEqDiff, if_true, if_false, reduceIte]))
    | (show AW _ _ _ _ _ _ _ _; first | refine aw_region ?_ | (refine aw_seqk ?_; intro K hK) | refine aw_block ?_ | (apply aw_cond_t; exact rfl; exact (by assumption)) | refine aw_ret ?_ | refine aw_skip ?_ | refine aw_drawE (id := 4) [0, 0, 3, 7, 0, 0, 32, 112, 240, 511] [0, 0, 0, 1, 0, 0, 0, 0, 1, 0] mixed (by kernel_rfl) ?_ | (apply aw_ite; exact rfl; all_goals intro h))
    | refine thn_n ?_
    | (refine hK _ _ _ ?_; clear hK K)
    | refine thn_r ?_
    | refine inb_n ?_
    | refine inb_r ?_)); all_goals (repeat (clear hK K)))
    all_goals first
      | (refine fin_r (fin_b rfl ?_)
         refine (allR_false c2 ?_).symm
         rw [hD]; simp_all; done)
      | (refine ⟨i + 1, id, ⟨by omega, fun j hj hj2 => ?_⟩, by omega, ⟨by (repeat (refine ⟨by first | exact lk_i rfl (by (try dsimp only); first | rfl | omega | (rw [IntWalk.i64_in _ (by omega)]; first | rfl | omega | (push_cast; omega)) | (simp; done) | (simp; omega)) | exact lk_d rfl rfl, ?_⟩)); exact trivial, by exact trivial, by rfl, by exact pin_0⟩⟩
         by_cases hjq : j < i
         · exact hg j hjq hj2
         · obtain rfl : j = i := by omega
           rw [hD]; simp_all)
  · have b2 : decide ((i : Int) < ((xs.map inL).length : Int)) = false := by simpa using c2
    ((repeat' (first
    | (show SQ _ _ _ _ _ _ _ _; first | apply sq_nil | (apply q_move; exact rfl; exact rfl) | (apply q_assign; exact rfl; exact rfl) | (apply q_lend; exact rfl; exact rfl; exact (ty rfl); exact rfl) | (apply q_lss; exact rfl; exact rfl; exact rfl))
    | (show AW _ _ _ _ _ _ _ _; first | refine aw_region ?_ | (refine aw_seqk ?_; intro K hK) | (apply aw_cond_f; exact rfl; exact (by assumption)) | refine aw_ret ?_ | refine aw_exit ?_)
    | refine thn_n ?_
    | (refine hK _ _ _ ?_; clear hK K)
    | refine thn_e ?_
    | refine inb_same ?_
    | (clear hK K; refine hK _ _ _ ?_; clear hK K))); all_goals (repeat (clear hK K)))
    all_goals refine fin_r (fin_b rfl ?_)
    exact (allR_true fun j hj => hg j (by omega) hj).symm
set_option maxHeartbeats 4000000 in
theorem l00Rises_ro (xs : List Int) (lo u : Int) (hn : xs.length ≤ 1048576) (k : Nat) : RO Try.prog 64 [.dsl 1 (xs.map inL), .v (.int .i64 lo), .v (.int .i64 u)] k (.v (.bool (risB xs lo u))) [] k := by
  refine RO.ofv' Try.func64 Try.ntmps64 rfl (goFn_of Try.func64 rfl (by kernel_rfl)) rfl rfl ?_
  ((repeat' (first
    | (show SQ _ _ _ _ _ _ _ _; first | apply sq_nil | (apply q_assign; exact rfl; exact rfl))
    | (show AW _ _ _ _ _ _ _ _; first | refine aw_region ?_ | (refine aw_seqk ?_; intro K hK) | refine aw_block ?_)
    | refine thn_n ?_
    | (refine hK _ _ _ ?_; clear hK K))); all_goals (repeat (clear hK K)))
  refine aw_loop (ρ := id) (ι := Nat) (fun i => ([(7, .v (.int .i64 i)), (2, .v (.int .i64 u)), (1, .v (.int .i64 lo)), (0, .dsl 1 (xs.map inL))], [], 0))
    (fun i => i ≤ xs.length ∧ ∀ j, j < i → (inB (xs.getD j 0) lo u && incAt xs j) = true) (fun i => xs.length - i) 0 ⟨Nat.zero_le _, fun j hj => absurd hj (Nat.not_lt_zero _)⟩ ⟨by (repeat (refine ⟨by first | exact lk_i rfl rfl | exact lk_d rfl rfl, ?_⟩)); exact trivial, by exact trivial, by rfl, by exact pin_0⟩ ?_
  rintro i ⟨hi, hg⟩
  by_cases c2 : i < xs.length
  · have b2 : decide ((i : Int) < ((xs.map inL).length : Int)) = true := by simpa using c2
    have hrow : (xs.map inL)[((i : Int)).toNat]? = some (inL xs[i]) := by simp [c2]
    rw [inL_eq] at hrow
    by_cases c3 : i = 0
    · have b5 : decide ((0 : Int) < (i : Int)) = false := by simp; omega
      have hD : (inB (xs.getD i 0) lo u && incAt xs i) = inB xs[i] lo u := by
        have e : incAt xs i = true := by simp [incAt, c3]
        rw [e, Bool.and_true]; simp [List.getD, c2]
      ((repeat' (first
    | (show SQ _ _ _ _ _ _ _ _; first | apply sq_nil | (apply q_move; exact rfl; exact rfl) | (apply q_assign; exact rfl; exact rfl) | (apply q_lend; exact rfl; exact rfl; exact (ty rfl); exact rfl) | (apply q_add; exact rfl; exact rfl; exact rfl) | (apply q_lss; exact rfl; exact rfl; exact rfl))
    | (show DE _ _ _ _ _ _ _ _ _ _ _ _; first | (apply e_move; exact rfl; exact rfl; exact rfl) | (apply e_pick_t; exact rfl; exact rfl; exact rfl; exact (by first | assumption | exact rfl); exact rfl) | (apply e_pick_f; exact rfl; exact rfl; exact rfl; exact (by first | assumption | exact rfl); exact rfl) | (apply e_not; exact rfl; exact rfl; exact rfl) | (apply e_gtr; exact rfl; exact rfl; exact rfl; exact rfl) | (apply e_ixd; exact rfl; exact rfl; exact rfl; exact (ty rfl); exact rfl; exact (by first | omega | (simp; done) | (simp; omega)); exact (by first | omega | (simp; done) | (simp; omega)); exact (by first | rfl | assumption); exact rfl) | (apply e_ld1d; exact rfl; exact rfl; exact (ty rfl); exact rfl; exact rfl; exact rfl) | (apply e_g; exact rfl; exact rfl; exact rfl; exact (by assumption)) | (apply e_s; exact rfl; exact rfl; exact rfl; exact (by assumption); exact rfl) | (apply e_sU; exact rfl; exact rfl; exact rfl; exact rfl; exact rfl))
    | (show DE _ _ _ _ _ _ _ _ _ _ _ _; (first | (apply dr_nil; exact trivial) | (apply e_callU; exact rfl; exact rfl; exact rfl; exact FzL.of rfl; exact l00In_ro _ _ _ _; exact rfl)); (try simp only [put, rowsOf, plR, List.all_cons, selE, ovr, setH, del, cellsA, splice, isV, List.nil_append, List.cons_append, List.map_cons, List.map_nil, List.length_cons, List.length_nil, List.set_cons_zero, List.set_cons_succ, List.take_succ_cons, List.take_zero, List.take_nil, List.drop_succ_cons, List.drop_zero, List.drop_nil, List.append_nil, List.all_cons, List.all_nil, Bool.and_true, Bool.true_and, Bool.and_false, Bool.false_and, Nat.reduceAdd, Nat.zero_add, Nat.add_zero, Nat.reduceEqDiff, if_true, if_false, reduceIte]))
    | (show DE _ _ _ _ _ _ _ _ _ _ _ _; apply e_gs; exact rfl; exact rfl; exact rfl; exact rfl; all_goals intro h)
    | (show AW _ _ _ _ _ _ _ _; first | refine aw_region ?_ | (refine aw_seqk ?_; intro K hK) | refine aw_block ?_ | (apply aw_cond_t; exact rfl; exact rfl) | (apply aw_cond_f; exact rfl; exact rfl) | (apply aw_cond_t; exact rfl; exact (by assumption)) | refine aw_ret ?_ | refine aw_skip ?_ | refine aw_drawE (id := 4) [0, 0, 3, 7, 0, 0, 63, 127, 255, 511, 1023, 2047, 4095, 4095, 12287, 32767, 65535, 4095, 4095, 397311, 921599, 2097151, 4194303, 8388607] [0, 0, 0, 1, 0, 0, 1, 0, 0, 0, 0, 0, 0, 0, 0, 0, 1, 0, 0, 0, 1, 0, 0, 0] mixed (by kernel_rfl) ?_)
    | refine thn_n ?_
    | (refine hK _ _ _ ?_; clear hK K)
    | refine thn_r ?_
    | refine inb_n ?_
    | refine inb_r ?_)); all_goals (repeat (clear hK K)))
      all_goals first
        | (refine fin_r (fin_b rfl ?_)
           refine (allR_false c2 ?_).symm
           rw [hD]; simp_all; done)
        | (refine ⟨i + 1, id, ⟨c2, fun j hj => ?_⟩, by omega, ⟨by (repeat (refine ⟨by first | exact lk_i rfl rfl | exact lk_i rfl (by (try dsimp only); first | rfl | omega | (rw [IntWalk.i64_in _ (by omega)]; first | rfl | omega | (push_cast; omega)) | (simp; done) | (simp; omega)) | exact lk_d rfl rfl, ?_⟩)); exact trivial, by exact trivial, by rfl, by exact pin_0⟩⟩
           by_cases hjq : j < i
           · exact hg j hjq
           · obtain rfl : j = i := by omega
             rw [hD]; simp_all)
    · have b5 : decide ((0 : Int) < (i : Int)) = true := by simp; omega
      have hw2 : IntKind.i64.wrap ((i : Int) - 1) = (i : Int) - 1 := IntWalk.i64_in _ (by omega)
      have hrow2 : (xs.map inL)[(IntKind.i64.wrap ((i : Int) - 1)).toNat]? = some (inL xs[i - 1]) := by
        rw [hw2, show ((i : Int) - 1).toNat = i - 1 by omega]; simp [show i - 1 < xs.length by omega]
      rw [inL_eq] at hrow2
      have hD : (inB (xs.getD i 0) lo u && incAt xs i) = (inB xs[i] lo u && decide (xs[i - 1] < xs[i])) := by simp [incAt, List.getD, c2, c3, show i - 1 < xs.length by omega]
      ((repeat' (first
    | (show SQ _ _ _ _ _ _ _ _; first | apply sq_nil | (apply q_move; exact rfl; exact rfl) | (apply q_assign; exact rfl; exact rfl) | (apply q_lend; exact rfl; exact rfl; exact (ty rfl); exact rfl) | (apply q_add; exact rfl; exact rfl; exact rfl) | (apply q_lss; exact rfl; exact rfl; exact rfl))
    | (show DE _ _ _ _ _ _ _ _ _ _ _ _; first | (apply e_move; exact rfl; exact rfl; exact rfl) | (apply e_pick_t; exact rfl; exact rfl; exact rfl; exact (by first | assumption | exact rfl); exact rfl) | (apply e_pick_f; exact rfl; exact rfl; exact rfl; exact (by first | assumption | exact rfl); exact rfl) | (apply e_not; exact rfl; exact rfl; exact rfl) | (apply e_sub; exact rfl; exact rfl; exact rfl; exact rfl) | (apply e_gtr; exact rfl; exact rfl; exact rfl; exact rfl) | (apply e_geq; exact rfl; exact rfl; exact rfl; exact rfl) | (apply e_ixd; exact rfl; exact rfl; exact rfl; exact (ty rfl); exact rfl; exact (by first | omega | (simp; done) | (simp; omega)); exact (by first | omega | (simp; done) | (simp; omega)); exact (by first | rfl | assumption); exact rfl) | (apply e_ld1d; exact rfl; exact rfl; exact (ty rfl); exact rfl; exact rfl; exact rfl) | (apply e_g; exact rfl; exact rfl; exact rfl; exact (by assumption)) | (apply e_s; exact rfl; exact rfl; exact rfl; exact (by assumption); exact rfl) | (apply e_sU; exact rfl; exact rfl; exact rfl; exact rfl; exact rfl))
    | (show DE _ _ _ _ _ _ _ _ _ _ _ _; (first | (apply dr_nil; exact trivial) | (apply e_callU; exact rfl; exact rfl; exact rfl; exact FzL.of rfl; exact l00In_ro _ _ _ _; exact rfl)); (try simp only [put, rowsOf, plR, List.all_cons, selE, ovr, setH, del, cellsA, splice, isV, List.nil_append, List.cons_append, List.map_cons, List.map_nil, List.length_cons, List.length_nil, List.set_cons_zero, List.set_cons_succ, List.take_succ_cons, List.take_zero, List.take_nil, List.drop_succ_cons, List.drop_zero, List.drop_nil, List.append_nil, List.all_cons, List.all_nil, Bool.and_true, Bool.true_and, Bool.and_false, Bool.false_and, Nat.reduceAdd, Nat.zero_add, Nat.add_zero, Nat.reduceEqDiff, if_true, if_false, reduceIte]))
    | (show DE _ _ _ _ _ _ _ _ _ _ _ _; apply e_gs; exact rfl; exact rfl; exact rfl; exact rfl; all_goals intro h)
    | (show AW _ _ _ _ _ _ _ _; first | refine aw_region ?_ | (refine aw_seqk ?_; intro K hK) | refine aw_block ?_ | (apply aw_cond_t; exact rfl; exact rfl) | (apply aw_cond_t; exact rfl; exact (by assumption)) | refine aw_ret ?_ | refine aw_skip ?_ | refine aw_drawE (id := 4) [0, 0, 3, 7, 0, 0, 63, 127, 255, 511, 1023, 2047, 4095, 4095, 12287, 32767, 65535, 4095, 4095, 397311, 921599, 2097151, 4194303, 8388607] [0, 0, 0, 1, 0, 0, 1, 0, 0, 0, 0, 0, 0, 0, 0, 0, 1, 0, 0, 0, 1, 0, 0, 0] mixed (by kernel_rfl) ?_ | (apply aw_ite; exact rfl; all_goals intro h))
    | refine thn_n ?_
    | (refine hK _ _ _ ?_; clear hK K)
    | refine thn_r ?_
    | refine inb_n ?_
    | refine inb_r ?_)); all_goals (repeat (clear hK K)))
      all_goals first
        | (refine fin_r (fin_b rfl ?_)
           refine (allR_false c2 ?_).symm
           rw [hD]; simp_all; done)
        | (refine ⟨i + 1, id, ⟨c2, fun j hj => ?_⟩, by omega, ⟨by (repeat (refine ⟨by first | exact lk_i rfl rfl | exact lk_i rfl (by (try dsimp only); first | rfl | omega | (rw [IntWalk.i64_in _ (by omega)]; first | rfl | omega | (push_cast; omega)) | (simp; done) | (simp; omega)) | exact lk_d rfl rfl, ?_⟩)); exact trivial, by exact trivial, by rfl, by exact pin_0⟩⟩
           by_cases hjq : j < i
           · exact hg j hjq
           · obtain rfl : j = i := by omega
             rw [hD]; simp_all)
  · have b2 : decide ((i : Int) < ((xs.map inL).length : Int)) = false := by simpa using c2
    ((repeat' (first
    | (show SQ _ _ _ _ _ _ _ _; first | apply sq_nil | (apply q_move; exact rfl; exact rfl) | (apply q_assign; exact rfl; exact rfl) | (apply q_lend; exact rfl; exact rfl; exact (ty rfl); exact rfl) | (apply q_lss; exact rfl; exact rfl; exact rfl))
    | (show AW _ _ _ _ _ _ _ _; first | refine aw_region ?_ | (refine aw_seqk ?_; intro K hK) | (apply aw_cond_f; exact rfl; exact (by assumption)) | refine aw_ret ?_ | refine aw_exit ?_)
    | refine thn_n ?_
    | (refine hK _ _ _ ?_; clear hK K)
    | refine thn_e ?_
    | refine inb_same ?_
    | (clear hK K; refine hK _ _ _ ?_; clear hK K))); all_goals (repeat (clear hK K)))
    all_goals refine fin_r (fin_b rfl ?_)
    exact (allR_true fun j hj => hg j (by omega)).symm
set_option maxHeartbeats 4000000 in
theorem l00Has_ro (xs : List Int) (rows : List (List AV)) (n : Int) (hrows : rows = xs.map inL) (hn : xs.length ≤ 1048576) (k : Nat) : RO Try.prog 85 [.dsl 1 rows, .v (.int .i64 n)] k (.v (.bool (xs.any fun y => y == n))) [] k := by
  subst hrows
  refine RO.ofv' Try.func85 Try.ntmps85 rfl (goFn_of Try.func85 rfl (by kernel_rfl)) rfl rfl ?_
  ((repeat' (first
    | (show SQ _ _ _ _ _ _ _ _; first | apply sq_nil | (apply q_assign; exact rfl; exact rfl))
    | (show AW _ _ _ _ _ _ _ _; first | refine aw_region ?_ | (refine aw_seqk ?_; intro K hK) | refine aw_block ?_)
    | refine thn_n ?_
    | (refine hK _ _ _ ?_; clear hK K))); all_goals (repeat (clear hK K)))
  refine aw_loop (ρ := id) (ι := Nat) (fun i => ([(5, .v (.int .i64 i)), (1, .v (.int .i64 n)), (0, .dsl 1 (xs.map inL))], [], 0))
    (fun i => i ≤ xs.length ∧ ∀ y ∈ xs.take i, (y == n) = false) (fun i => xs.length - i) 0 ⟨Nat.zero_le _, by simp⟩ ⟨by (repeat (refine ⟨by first | exact lk_i rfl rfl | exact lk_d rfl rfl, ?_⟩)); exact trivial, by exact trivial, by rfl, by exact pin_0⟩ ?_
  rintro i ⟨hi, hg⟩
  by_cases c2 : i < xs.length
  · have b2 : decide ((i : Int) < ((xs.map inL).length : Int)) = true := by simpa using c2
    have hrow : (xs.map inL)[((i : Int)).toNat]? = some (inL xs[i]) := by simp [c2]
    rw [inL_eq] at hrow
    ((repeat' (first
    | (show SQ _ _ _ _ _ _ _ _; first | apply sq_nil | (apply q_move; exact rfl; exact rfl) | (apply q_assign; exact rfl; exact rfl) | (apply q_lend; exact rfl; exact rfl; exact (ty rfl); exact rfl) | (apply q_add; exact rfl; exact rfl; exact rfl) | (apply q_eql; exact rfl; exact rfl; exact rfl) | (apply q_lss; exact rfl; exact rfl; exact rfl) | (apply q_ixd; exact rfl; exact rfl; exact rfl; exact (ty rfl); exact rfl; exact (by first | omega | (simp; done) | (simp; omega)); exact (by first | omega | (simp; done) | (simp; omega)); exact (by first | rfl | assumption)) | (apply q_ld1d; exact rfl; exact rfl; exact (ty rfl); exact rfl; exact rfl))
    | (show AW _ _ _ _ _ _ _ _; first | refine aw_region ?_ | (refine aw_seqk ?_; intro K hK) | refine aw_block ?_ | (apply aw_cond_t; exact rfl; exact (by assumption)) | refine aw_ret ?_ | refine aw_skip ?_ | (apply aw_ite; exact rfl; all_goals intro h))
    | refine thn_n ?_
    | (refine hK _ _ _ ?_; clear hK K)
    | refine thn_r ?_
    | refine inb_n ?_
    | refine inb_r ?_)); all_goals (repeat (clear hK K)))
    all_goals first
      | (refine fin_r (fin_b rfl ?_)
         exact (List.any_eq_true.2 ⟨xs[i], List.getElem_mem c2, by simp_all⟩).symm)
      | (refine ⟨i + 1, id, ⟨c2, takeS c2 hg ?_⟩, by omega, ⟨by (repeat (refine ⟨by first | exact lk_i rfl rfl | exact lk_i rfl (by (try dsimp only); first | rfl | omega | (rw [IntWalk.i64_in _ (by omega)]; first | rfl | omega | (push_cast; omega)) | (simp; done) | (simp; omega)) | exact lk_d rfl rfl, ?_⟩)); exact trivial, by exact trivial, by rfl, by exact pin_0⟩⟩
         simp_all; done)
  · have b2 : decide ((i : Int) < ((xs.map inL).length : Int)) = false := by simpa using c2
    ((repeat' (first
    | (show SQ _ _ _ _ _ _ _ _; first | apply sq_nil | (apply q_move; exact rfl; exact rfl) | (apply q_assign; exact rfl; exact rfl) | (apply q_lend; exact rfl; exact rfl; exact (ty rfl); exact rfl) | (apply q_lss; exact rfl; exact rfl; exact rfl))
    | (show AW _ _ _ _ _ _ _ _; first | refine aw_region ?_ | (refine aw_seqk ?_; intro K hK) | (apply aw_cond_f; exact rfl; exact (by assumption)) | refine aw_ret ?_ | refine aw_exit ?_)
    | refine thn_n ?_
    | (refine hK _ _ _ ?_; clear hK K)
    | refine thn_e ?_
    | refine inb_same ?_
    | (clear hK K; refine hK _ _ _ ?_; clear hK K))); all_goals (repeat (clear hK K)))
    all_goals refine fin_r (fin_b rfl ?_)
    rw [List.take_of_length_le (by omega)] at hg
    exact (List.any_eq_false.2 (fun y hy => by rw [hg y hy]; simp)).symm
set_option maxHeartbeats 4000000 in
theorem slIndex_ro (xs : List Int) (rows : List (List AV)) (n : Int) (hrows : rows = xs.map inL) (hn : xs.length ≤ 1048576) (k : Nat) : RO Try.prog 104 [.dsl 1 rows, .v (.int .i64 n)] k (.v (.int .i64 (ixG (fun y => y == n) xs))) [] k := by
  subst hrows
  refine RO.ofv' Try.func104 Try.ntmps104 rfl (goFn_of Try.func104 rfl (by kernel_rfl)) rfl rfl ?_
  ((repeat' (first
    | (show SQ _ _ _ _ _ _ _ _; first | apply sq_nil | (apply q_move; exact rfl; exact rfl) | (apply q_assign; exact rfl; exact rfl) | (apply q_lend; exact rfl; exact rfl; exact (ty rfl); exact rfl))
    | (show AW _ _ _ _ _ _ _ _; first | refine aw_region ?_ | (refine aw_seqk ?_; intro K hK) | refine aw_block ?_)
    | refine thn_n ?_
    | (refine hK _ _ _ ?_; clear hK K))); all_goals (repeat (clear hK K)))
  refine aw_loop (ρ := id) (ι := Nat) (fun i => ([(8, .v (.int .i64 i)), (7, .v (.int .i64 xs.length)), (1, .v (.int .i64 n)), (0, .dsl 1 (xs.map inL))], [], 0))
    (fun i => i ≤ xs.length ∧ ∀ y ∈ xs.take i, (y == n) = false) (fun i => xs.length - i) 0 ⟨Nat.zero_le _, by simp⟩ ⟨⟨lk_i rfl rfl, lk_i rfl (by simp), lk_i rfl rfl, lk_d rfl rfl, trivial⟩, trivial, rfl, pin_0⟩ ?_
  rintro i ⟨hi, hg⟩
  by_cases c2 : i < xs.length
  · have b2 : decide ((i : Int) < (xs.length : Int)) = true := by simpa using c2
    have hrow : (xs.map inL)[((i : Int)).toNat]? = some (inL xs[i]) := by simp [c2]
    rw [inL_eq] at hrow
    have hcm : (n == xs[i]) = (xs[i] == n) := by rw [Bool.eq_iff_iff]; simp only [beq_iff_eq]; exact eq_comm
    ((repeat' (first
    | (show SQ _ _ _ _ _ _ _ _; first | apply sq_nil | (apply q_move; exact rfl; exact rfl) | (apply q_assign; exact rfl; exact rfl) | (apply q_add; exact rfl; exact rfl; exact rfl) | (apply q_eql; exact rfl; exact rfl; exact rfl) | (apply q_lss; exact rfl; exact rfl; exact rfl) | (apply q_ixd; exact rfl; exact rfl; exact rfl; exact (ty rfl); exact rfl; exact (by first | omega | (simp; done) | (simp; omega)); exact (by first | omega | (simp; done) | (simp; omega)); exact (by first | rfl | assumption)) | (apply q_ld1d; exact rfl; exact rfl; exact (ty rfl); exact rfl; exact rfl))
    | (show AW _ _ _ _ _ _ _ _; first | refine aw_region ?_ | (refine aw_seqk ?_; intro K hK) | refine aw_block ?_ | (apply aw_cond_t; exact rfl; exact (by assumption)) | refine aw_ret ?_ | refine aw_skip ?_ | (apply aw_ite; exact rfl; all_goals intro h))
    | refine thn_n ?_
    | (refine hK _ _ _ ?_; clear hK K)
    | refine thn_r ?_
    | refine inb_n ?_
    | refine inb_r ?_)); all_goals (repeat (clear hK K)))
    all_goals first
      | (refine fin_r (fin_i rfl ?_)
         refine (ixG_hit c2 hg ?_).symm
         rw [← hcm]; assumption)
      | (refine ⟨i + 1, id, ⟨c2, takeS c2 hg ?_⟩, by omega, ⟨by (repeat (refine ⟨by first | exact lk_i rfl rfl | exact lk_i rfl (by (try dsimp only); first | rfl | omega | (rw [IntWalk.i64_in _ (by omega)]; first | rfl | omega | (push_cast; omega)) | (simp; done) | (simp; omega)) | exact lk_d rfl rfl, ?_⟩)); exact trivial, by exact trivial, by rfl, by exact pin_0⟩⟩
         rw [← hcm]; assumption)
  · have b2 : decide ((i : Int) < (xs.length : Int)) = false := by simpa using c2
    ((repeat' (first
    | (show SQ _ _ _ _ _ _ _ _; first | apply sq_nil | (apply q_assign; exact rfl; exact rfl) | (apply q_lss; exact rfl; exact rfl; exact rfl))
    | (show AW _ _ _ _ _ _ _ _; first | refine aw_region ?_ | (refine aw_seqk ?_; intro K hK) | (apply aw_cond_f; exact rfl; exact (by assumption)) | refine aw_ret ?_ | refine aw_exit ?_)
    | refine thn_n ?_
    | (refine hK _ _ _ ?_; clear hK K)
    | refine thn_e ?_
    | refine inb_same ?_
    | (clear hK K; refine hK _ _ _ ?_; clear hK K))); all_goals (repeat (clear hK K)))
    all_goals refine fin_r (fin_i rfl ?_)
    rw [List.take_of_length_le (by omega)] at hg
    exact (ixG_none _ xs hg).symm
set_option maxHeartbeats 4000000 in
theorem slContains_ro (xs : List Int) (rows : List (List AV)) (n : Int) (hrows : rows = xs.map inL) (hn : xs.length ≤ 1048576) (k : Nat) : RO Try.prog 86 [.dsl 1 rows, .v (.int .i64 n)] k (.v (.bool (xs.any fun y => y == n))) [] k := by
  refine RO.ofv' Try.func86 Try.ntmps86 rfl (goFn_of Try.func86 rfl (by kernel_rfl)) rfl rfl ?_
  ((repeat' (first
    | (show SQ _ _ _ _ _ _ _ _; first | apply sq_nil | (apply q_move; exact rfl; exact rfl) | (apply q_assign; exact rfl; exact rfl) | (apply q_geq; exact rfl; exact rfl; exact rfl))
    | (show SQ _ _ _ _ _ _ _ _; (first | (apply q_callU; exact rfl; exact rfl; exact rfl; exact FzL.of rfl; exact slIndex_ro xs rows n hrows hn _)); (try simp only [put, rowsOf, plR, List.all_cons, selE, ovr, setH, del, cellsA, splice, isV, List.nil_append, List.cons_append, List.map_cons, List.map_nil, List.length_cons, List.length_nil, List.set_cons_zero, List.set_cons_succ, List.take_succ_cons, List.take_zero, List.take_nil, List.drop_succ_cons, List.drop_zero, List.drop_nil, List.append_nil, List.all_cons, List.all_nil, Bool.and_true, Bool.true_and, Bool.and_false, Bool.false_and, Nat.reduceAdd, Nat.zero_add, Nat.add_zero, Nat.reduceEqDiff, if_true, if_false, reduceIte]))
    | (show AW _ _ _ _ _ _ _ _; first | refine aw_region ?_ | (refine aw_seqk ?_; intro K hK) | refine aw_ret ?_)
    | refine thn_n ?_
    | (refine hK _ _ _ ?_; clear hK K))); all_goals (repeat (clear hK K)))
  all_goals refine fin_r (fin_b rfl ?_)
  exact ixG_any _ xs
end Go.Proofs.Yteknfaldpajlpaa.Il

namespace Go.Proofs.Yteknfaldpajlpaa.Aw
open Go Go.RowKit
set_option linter.unusedVariables false
set_option linter.unusedSimpArgs false
section
variable {P : Program} {H : Hp} {N n g : Nat} {T : Tp} {all : Array Oper} {l : List Oper} {G : Tp → Hp → Nat → Prop}
end
section
variable {P : Program} {N n n' : Nat} {all : Array Oper} {l : List Oper} {G : Tp → Hp → Nat → Prop} {T : Tp} {H : Hp} {bs ks : List Nat} {i : Nat} {eff : List (Nat × List (Nat × Option Blk))} {ty : TypeId} {pos : String} {after : Array Edge} {d : Nat}
end
theorem WkC.same (cv : AV) : WkC cv cv := .inl rfl
theorem WkC.nil (s : Nat) : WkC (.v (.slice none 0 0)) (.dsl s []) := .inr ⟨s, rfl, rfl⟩
mutual
theorem ren_noOwn (ρ : Nat → Nat) (n : Nat) : ∀ v : AV, noOwn v = true → renA ρ v = v ∧ idsOk n v = true
  | .ptr _ _ _, h => by simp [noOwn] at h
  | .sl _ _ _, h => by simp [noOwn] at h
  | .sx _ _ _ _, h => by simp [noOwn] at h
  | .v _, _ => by simp [renA, idsOk]
  | .dsl _ _, _ => by simp [renA, idsOk]
  | .dptr _, _ => by simp [renA, idsOk]
  | .om _ _, h => by simp [noOwn] at h
  | .emp, _ => by simp [renA, idsOk]
  | .agg cs, h => by simp only [noOwn] at h; have := renL_noOwn ρ n cs h; simp [renA, idsOk, this.1, this.2]
  | .tup cs, h => by simp only [noOwn] at h; have := renL_noOwn ρ n cs h; simp [renA, idsOk, this.1, this.2]
  | .fn _ cs, h => by simp only [noOwn] at h; have := renL_noOwn ρ n cs h; simp [renA, idsOk, this.1, this.2]
theorem renL_noOwn (ρ : Nat → Nat) (n : Nat) : ∀ l : List AV, noOwnL l = true → renL ρ l = l ∧ idsOkL n l = true
  | [], _ => by simp [renL, idsOkL]
  | x :: l, h => by
    simp only [noOwnL, Bool.and_eq_true] at h
    have h1 := ren_noOwn ρ n x h.1
    have h2 := renL_noOwn ρ n l h.2
    simp [renL, idsOkL, h1.1, h1.2, h2.1, h2.2]
end
theorem lknc {H : Hp} {ρ : Nat → Nat} {n i i' ty sz : Nat} {pl : Bool} {rows rows' : List (List AV)} (h : look H i' = some ⟨ty, sz, pl, rows'⟩) (hi : i' = ρ i) (hp : pl = false) (e : rows' = rows) (hc : rows.all noOwnL = true) (hn : Nat.blt i n = true) :
    look H (ρ i) = some (renB ρ ⟨ty, sz, false, rows⟩) ∧ idsOkB n ⟨ty, sz, false, rows⟩ = true ∧ Nat.blt i n = true := by
  subst e hi hp
  refine ⟨?_, ?_, hn⟩
  · rw [h]
    simp only [renB]
    congr 2
    refine (List.map_id _).symm.trans (List.map_congr_left fun r hr => ?_)
    exact (renL_noOwn ρ n r (List.all_eq_true.1 hc r hr)).1.symm
  · simp only [idsOkB]
    exact List.all_eq_true.2 fun r hr => (renL_noOwn ρ n r (List.all_eq_true.1 hc r hr)).2
end Go.Proofs.Yteknfaldpajlpaa.Aw

namespace Go.Proofs.Yteknfaldpajlpaa.Nb
open Go Go.RowKit Go.Proofs.Yteknfaldpajlpaa.Aw Go.Proofs.Yteknfaldpajlpaa.In Go.Proofs.Yteknfaldpajlpaa.Il
set_option linter.unusedSimpArgs false
set_option linter.unusedVariables false
attribute [local irreducible] AW SQ Step RO RC DE Thn InB
def nbL (ls : List (List Int)) : List (List AV) := ls.map fun l => [.dsl 1 (l.map inL)]
def nbG (ls : List (List Int)) (i : Nat) : Bool := incB (ls.getD i []) && (!(ls.getD i []).any fun x => !inB x 0 ((ls.length : Int) - 1)) && !((ls.getD i []).any fun y => y == (i : Int))
def nbB (ls : List (List Int)) : Bool := decide (ls.length ≤ 24) && (List.range ls.length).all (nbG ls)
structure NbS (ls : List (List Int)) : Prop where
  n : ls.length ≤ 1048576
  m : ∀ l ∈ ls, l.length ≤ 1048576
theorem nbL_len (ls : List (List Int)) : (nbL ls).length = ls.length := List.length_map _
theorem nbL_get {ls : List (List Int)} {i : Nat} (h : i < ls.length) : (nbL ls)[((i : Int)).toNat]? = some [.dsl 1 (ls[i].map inL)] := by simp [nbL, h]
set_option maxHeartbeats 4000000 in
theorem ValidNeighbours_ro (ls : List (List Int)) (hS : NbS ls) (k : Nat) : RO Try.prog 42 [.dsl 1 (nbL ls)] k (.v (.bool (nbB ls))) [] k := by
  have hl := nbL_len ls
  by_cases c0 : 24 < ls.length
  · have b0 : decide ((24 : Int) < ((nbL ls).length : Int)) = true := by rw [hl]; simp; omega
    refine RO.ofv' Try.func42 Try.ntmps42 rfl (goFn_of Try.func42 rfl (by kernel_rfl)) rfl rfl ?_
    ((repeat' (first
    | (show SQ _ _ _ _ _ _ _ _; first | apply sq_nil | (apply q_move; exact rfl; exact rfl) | (apply q_assign; exact rfl; exact rfl) | (apply q_lend; exact rfl; exact rfl; exact (ty rfl); exact rfl) | (apply q_gtr; exact rfl; exact rfl; exact rfl))
    | (show AW _ _ _ _ _ _ _ _; first | refine aw_region ?_ | (refine aw_seqk ?_; intro K hK) | (apply aw_cond_t; exact rfl; exact (by assumption)) | refine aw_ret ?_)
    | refine thn_n ?_
    | (refine hK _ _ _ ?_; clear hK K)
    | refine thn_r ?_)); all_goals (repeat (clear hK K)))
    all_goals refine fin_r (fin_b rfl ?_)
    simp [nbB]; omega
  have b0 : decide ((24 : Int) < ((nbL ls).length : Int)) = false := by rw [hl]; simp; omega
  have hdec : decide (ls.length ≤ 24) = true := by simp; omega
  refine RO.ofv' Try.func42 Try.ntmps42 rfl (goFn_of Try.func42 rfl (by kernel_rfl)) rfl rfl ?_
  ((repeat' (first
    | (show SQ _ _ _ _ _ _ _ _; first | apply sq_nil | (apply q_move; exact rfl; exact rfl) | (apply q_assign; exact rfl; exact rfl) | (apply q_lend; exact rfl; exact rfl; exact (ty rfl); exact rfl) | (apply q_gtr; exact rfl; exact rfl; exact rfl))
    | (show AW _ _ _ _ _ _ _ _; first | refine aw_region ?_ | (refine aw_seqk ?_; intro K hK) | refine aw_block ?_ | (apply aw_cond_f; exact rfl; exact (by assumption)) | refine aw_skip ?_)
    | refine thn_n ?_
    | (refine hK _ _ _ ?_; clear hK K))); all_goals (repeat (clear hK K)))
  refine aw_loop (ρ := id) (ι := Nat) (fun i => ([(10, .v (.int .i64 i)), (9, .v (.int .i64 ls.length)), (8, .dsl 1 (nbL ls)), (0, .dsl 1 (nbL ls))], [], 0))
    (fun i => i ≤ ls.length ∧ ∀ j, j < i → nbG ls j = true) (fun i => ls.length - i) 0 ⟨Nat.zero_le _, fun j hj => absurd hj (Nat.not_lt_zero _)⟩ ⟨by (repeat (refine ⟨by first | exact lk_i rfl rfl | exact lk_i rfl (by (try dsimp only); first | rfl | omega | (rw [IntWalk.i64_in _ (by omega)]; first | rfl | omega | (push_cast; omega)) | (simp; done) | (simp; omega)) | exact lk_d rfl rfl, ?_⟩)); exact trivial, by exact trivial, by rfl, by exact pin_0⟩ ?_
  rintro i ⟨hi, hg⟩
  by_cases c1 : i < ls.length
  · have b1 : decide ((i : Int) < (ls.length : Int)) = true := by simpa using c1
    have hrow := nbL_get c1
    have hD : ls.getD i [] = ls[i] := by simp [List.getD, c1]
    have hm := hS.m _ (List.getElem_mem c1)
    have hG : nbG ls i = (incB ls[i] && (!ls[i].any fun x => !inB x 0 ((ls.length : Int) - 1)) && !(ls[i].any fun y => y == (i : Int))) := by rw [nbG, hD]
    have hwl : IntKind.i64.wrap (((nbL ls).length : Int) - 1) = (ls.length : Int) - 1 := by rw [hl]; exact IntWalk.i64_in _ (by omega)
    have hw : IntKind.i64.wrap ((i : Int) + 1) = ((i + 1 : Nat) : Int) := by rw [IntWalk.i64_in _ (by omega)]; omega
    have hA := allWithin_ro ls[i] (ls[i].map inL) 0 (IntKind.i64.wrap (((nbL ls).length : Int) - 1)) rfl hm
    rw [show (ls[i].any fun x => !inB x 0 (IntKind.i64.wrap (((nbL ls).length : Int) - 1))) = (ls[i].any fun x => !inB x 0 ((ls.length : Int) - 1)) by rw [hwl]] at hA
    have hI := increasing_ro ls[i] hm
    have hC := slContains_ro ls[i] (ls[i].map inL) (i : Int) rfl hm
    generalize (ls[i].any fun x => !inB x 0 ((ls.length : Int) - 1)) = u1 at *
    generalize incB ls[i] = u2 at *
    generalize (ls[i].any fun y => y == (i : Int)) = u3 at *
    ((repeat' (first
    | (show SQ _ _ _ _ _ _ _ _; first | apply sq_nil | (apply q_move; exact rfl; exact rfl) | (apply q_assign; exact rfl; exact rfl) | (apply q_pick_t; exact rfl; exact rfl; exact rfl; exact (by first | assumption | exact rfl)) | (apply q_pick_f; exact rfl; exact rfl; exact rfl; exact (by first | assumption | exact rfl)) | (apply q_not; exact rfl; exact rfl) | (apply q_lend; exact rfl; exact rfl; exact (ty rfl); exact rfl) | (apply q_add; exact rfl; exact rfl; exact rfl) | (apply q_sub; exact rfl; exact rfl; exact rfl) | (apply q_lss; exact rfl; exact rfl; exact rfl) | (apply q_ixd; exact rfl; exact rfl; exact rfl; exact (ty rfl); exact rfl; exact (by first | omega | (simp; done) | (simp; omega)); exact (by first | omega | (simp; done) | (simp; omega)); exact (by first | rfl | assumption)) | (apply q_ld1d; exact rfl; exact rfl; exact (ty rfl); exact rfl; exact rfl) | (apply q_g; exact rfl; exact rfl; exact rfl; exact (by assumption)) | (apply q_s; exact rfl; exact rfl; exact rfl; exact (by assumption); exact rfl) | (apply q_s; exact rfl; exact rfl; exact rfl; exact rfl; exact rfl))
    | (show SQ _ _ _ _ _ _ _ _; (first | (apply q_callU; exact rfl; exact rfl; exact rfl; exact FzL.of rfl; exact hA _) | (apply q_callU; exact rfl; exact rfl; exact rfl; exact FzL.of rfl; exact hI _) | (apply q_callU; exact rfl; exact rfl; exact rfl; exact FzL.of rfl; exact hC _)); (try simp only [put, rowsOf, plR, List.all_cons, selE, ovr, setH, del, cellsA, splice, isV, List.nil_append, List.cons_append, List.map_cons, List.map_nil, List.length_cons, List.length_nil, List.set_cons_zero, List.set_cons_succ, List.take_succ_cons, List.take_zero, List.take_nil, List.drop_succ_cons, List.drop_zero, List.drop_nil, List.append_nil, List.all_cons, List.all_nil, Bool.and_true, Bool.true_and, Bool.and_false, Bool.false_and, Nat.reduceAdd, Nat.zero_add, Nat.add_zero, Nat.reduceEqDiff, if_true, if_false, reduceIte]))
    | (show SQ _ _ _ _ _ _ _ _; apply q_gs; exact rfl; exact rfl; exact rfl; exact rfl; all_goals intro h)
    | (show AW _ _ _ _ _ _ _ _; first | refine aw_region ?_ | (refine aw_seqk ?_; intro K hK) | refine aw_block ?_ | (apply aw_cond_t; exact rfl; exact rfl) | (apply aw_cond_t; exact rfl; exact (by assumption)) | refine aw_ret ?_ | refine aw_skip ?_ | (apply aw_ite; exact rfl; all_goals intro h))
    | refine thn_n ?_
    | (refine hK _ _ _ ?_; clear hK K)
    | refine thn_r ?_
    | refine inb_n ?_
    | refine inb_r ?_)); all_goals (repeat (clear hK K)))
    all_goals first
      | (refine fin_r (fin_b rfl ?_)
         rw [nbB, allR_false c1 (by rw [hG]; simp_all), Bool.and_false]; done)
      | (refine ⟨i + 1, id, ⟨c1, fun j hj => ?_⟩, by omega, ?_⟩
         · by_cases hjq : j < i
           · exact hg j hjq
           · obtain rfl : j = i := by omega
             rw [hG]; simp_all
         · (try dsimp only); rw [← hw]; exact ⟨by (repeat (refine ⟨by first | exact lk_i rfl rfl | exact lk_d rfl rfl, ?_⟩)); exact trivial, by exact trivial, by rfl, by exact pin_0⟩)
  · have b1 : decide ((i : Int) < (ls.length : Int)) = false := by simpa using c1
    ((repeat' (first
    | (show SQ _ _ _ _ _ _ _ _; first | apply sq_nil | (apply q_assign; exact rfl; exact rfl) | (apply q_lss; exact rfl; exact rfl; exact rfl))
    | (show AW _ _ _ _ _ _ _ _; first | refine aw_region ?_ | (refine aw_seqk ?_; intro K hK) | (apply aw_cond_f; exact rfl; exact (by assumption)) | refine aw_ret ?_ | refine aw_exit ?_)
    | refine thn_n ?_
    | (refine hK _ _ _ ?_; clear hK K)
    | refine thn_e ?_
    | refine inb_same ?_
    | (clear hK K; refine hK _ _ _ ?_; clear hK K))); all_goals (repeat (clear hK K)))
    all_goals refine fin_r (fin_b rfl ?_)
    rw [nbB, hdec, allR_true fun j hj => hg j (by omega)]; rfl
def nearB (ls : List (List Int)) (i k : Nat) : Bool := ((ls.getD i []).any fun y => y == (k : Int)) || ((ls.getD k []).any fun y => y == (i : Int))
def shareB (ls : List (List Int)) (i k : Nat) : Bool := (List.range ls.length).any fun x => nearB ls i x && nearB ls x k
def clB (ls : List (List Int)) (i k : Nat) : Bool := nearB ls i k || shareB ls i k
section
variable (ls : List (List Int)) (hS : NbS ls)
include hS
set_option maxHeartbeats 4000000 in
theorem areNeighbours_ro (i j : Nat) (hi : i < ls.length) (hj : j < ls.length) (k : Nat) : RO Try.prog 87 [.dsl 1 (nbL ls), .v (.int .i64 i), .v (.int .i64 j)] k (.v (.bool (nearB ls i j))) [] k := by
  have hl := nbL_len ls
  have hr1 := nbL_get hi
  have hr2 := nbL_get hj
  have hC1 := slContains_ro ls[i] (ls[i].map inL) (j : Int) rfl (hS.m _ (List.getElem_mem hi))
  have hC2 := slContains_ro ls[j] (ls[j].map inL) (i : Int) rfl (hS.m _ (List.getElem_mem hj))
  have hD : nearB ls i j = ((ls[i].any fun y => y == (j : Int)) || (ls[j].any fun y => y == (i : Int))) := by simp [nearB, List.getD, hi, hj]
  rw [hD]
  clear hD
  generalize (ls[i].any fun y => y == (j : Int)) = u1 at *
  generalize (ls[j].any fun y => y == (i : Int)) = u2 at *
  refine RO.ofv' Try.func87 Try.ntmps87 rfl (goFn_of Try.func87 rfl (by kernel_rfl)) rfl rfl ?_
  ((repeat' (first
    | (show SQ _ _ _ _ _ _ _ _; first | apply sq_nil | (apply q_move; exact rfl; exact rfl) | (apply q_assign; exact rfl; exact rfl) | (apply q_pick_t; exact rfl; exact rfl; exact rfl; exact (by first | assumption | exact rfl)) | (apply q_pick_f; exact rfl; exact rfl; exact rfl; exact (by first | assumption | exact rfl)) | (apply q_ixd; exact rfl; exact rfl; exact rfl; exact (ty rfl); exact rfl; exact (by first | omega | (simp; done) | (simp; omega)); exact (by first | omega | (simp; done) | (simp; omega)); exact (by first | rfl | assumption)) | (apply q_ld1d; exact rfl; exact rfl; exact (ty rfl); exact rfl; exact rfl) | (apply q_g; exact rfl; exact rfl; exact rfl; exact (by assumption)) | (apply q_s; exact rfl; exact rfl; exact rfl; exact (by assumption); exact rfl))
    | (show SQ _ _ _ _ _ _ _ _; (first | (apply q_callU; exact rfl; exact rfl; exact rfl; exact FzL.of rfl; exact hC1 _) | (apply q_callU; exact rfl; exact rfl; exact rfl; exact FzL.of rfl; exact hC2 _)); (try simp only [put, rowsOf, plR, List.all_cons, selE, ovr, setH, del, cellsA, splice, isV, List.nil_append, List.cons_append, List.map_cons, List.map_nil, List.length_cons, List.length_nil, List.set_cons_zero, List.set_cons_succ, List.take_succ_cons, List.take_zero, List.take_nil, List.drop_succ_cons, List.drop_zero, List.drop_nil, List.append_nil, List.all_cons, List.all_nil, Bool.and_true, Bool.true_and, Bool.and_false, Bool.false_and, Nat.reduceAdd, Nat.zero_add, Nat.add_zero, Nat.reduceEqDiff, if_true, if_false, reduceIte]))
    | (show SQ _ _ _ _ _ _ _ _; apply q_gs; exact rfl; exact rfl; exact rfl; exact rfl; all_goals intro h)
    | (show AW _ _ _ _ _ _ _ _; first | refine aw_region ?_ | (refine aw_seqk ?_; intro K hK) | refine aw_ret ?_)
    | refine thn_n ?_
    | (refine hK _ _ _ ?_; clear hK K))); all_goals (repeat (clear hK K)))
  all_goals refine fin_r (fin_b rfl ?_)
  all_goals simp_all
set_option maxHeartbeats 4000000 in
theorem shareNeighbour_ro (i j : Nat) (hi : i < ls.length) (hj : j < ls.length) (k : Nat) : RO Try.prog 88 [.dsl 1 (nbL ls), .v (.int .i64 i), .v (.int .i64 j)] k (.v (.bool (shareB ls i j))) [] k := by
  have hl := nbL_len ls
  refine RO.ofv' Try.func88 Try.ntmps88 rfl (goFn_of Try.func88 rfl (by kernel_rfl)) rfl rfl ?_
  ((repeat' (first
    | (show SQ _ _ _ _ _ _ _ _; first | apply sq_nil | (apply q_move; exact rfl; exact rfl) | (apply q_assign; exact rfl; exact rfl) | (apply q_lend; exact rfl; exact rfl; exact (ty rfl); exact rfl))
    | (show AW _ _ _ _ _ _ _ _; first | refine aw_region ?_ | (refine aw_seqk ?_; intro K hK) | refine aw_block ?_)
    | refine thn_n ?_
    | (refine hK _ _ _ ?_; clear hK K))); all_goals (repeat (clear hK K)))
  refine aw_loop (ρ := id) (ι := Nat) (fun x => ([(10, .v (.int .i64 x)), (9, .v (.int .i64 ls.length)), (2, .v (.int .i64 j)), (1, .v (.int .i64 i)), (0, .dsl 1 (nbL ls))], [], 0))
    (fun x => x ≤ ls.length ∧ ∀ y, y < x → (nearB ls i y && nearB ls y j) = false) (fun x => ls.length - x) 0 ⟨Nat.zero_le _, fun j hj => absurd hj (Nat.not_lt_zero _)⟩ ⟨by (repeat (refine ⟨by first | exact lk_i rfl rfl | exact lk_i rfl (by (try dsimp only); first | rfl | omega | (rw [IntWalk.i64_in _ (by omega)]; first | rfl | omega | (push_cast; omega)) | (simp; done) | (simp; omega)) | exact lk_d rfl rfl, ?_⟩)); exact trivial, by exact trivial, by rfl, by exact pin_0⟩ ?_
  rintro x ⟨hx, hg⟩
  have hn := hS.n
  by_cases c1 : x < ls.length
  · have b1 : decide ((x : Int) < (ls.length : Int)) = true := by simpa using c1
    have hw : IntKind.i64.wrap ((x : Int) + 1) = ((x + 1 : Nat) : Int) := by rw [IntWalk.i64_in _ (by omega)]; omega
    have hA1 := areNeighbours_ro ls hS i x hi c1
    have hA2 := areNeighbours_ro ls hS x j c1 hj
    ((repeat' (first
    | (show SQ _ _ _ _ _ _ _ _; first | apply sq_nil | (apply q_move; exact rfl; exact rfl) | (apply q_assign; exact rfl; exact rfl) | (apply q_pick_t; exact rfl; exact rfl; exact rfl; exact (by first | assumption | exact rfl)) | (apply q_pick_f; exact rfl; exact rfl; exact rfl; exact (by first | assumption | exact rfl)) | (apply q_add; exact rfl; exact rfl; exact rfl) | (apply q_lss; exact rfl; exact rfl; exact rfl) | (apply q_g; exact rfl; exact rfl; exact rfl; exact (by assumption)) | (apply q_s; exact rfl; exact rfl; exact rfl; exact (by assumption); exact rfl))
    | (show SQ _ _ _ _ _ _ _ _; (first | (apply q_callU; exact rfl; exact rfl; exact rfl; exact FzL.of rfl; exact hA1 _) | (apply q_callU; exact rfl; exact rfl; exact rfl; exact FzL.of rfl; exact hA2 _)); (try simp only [put, rowsOf, plR, List.all_cons, selE, ovr, setH, del, cellsA, splice, isV, List.nil_append, List.cons_append, List.map_cons, List.map_nil, List.length_cons, List.length_nil, List.set_cons_zero, List.set_cons_succ, List.take_succ_cons, List.take_zero, List.take_nil, List.drop_succ_cons, List.drop_zero, List.drop_nil, List.append_nil, List.all_cons, List.all_nil, Bool.and_true, Bool.true_and, Bool.and_false, Bool.false_and, Nat.reduceAdd, Nat.zero_add, Nat.add_zero, Nat.reduceEqDiff, if_true, if_false, reduceIte]))
    | (show SQ _ _ _ _ _ _ _ _; apply q_gs; exact rfl; exact rfl; exact rfl; exact rfl; all_goals intro h)
    | (show AW _ _ _ _ _ _ _ _; first | refine aw_region ?_ | (refine aw_seqk ?_; intro K hK) | refine aw_block ?_ | (apply aw_cond_f; exact rfl; exact rfl) | (apply aw_cond_t; exact rfl; exact (by assumption)) | refine aw_ret ?_ | refine aw_skip ?_ | (apply aw_ite; exact rfl; all_goals intro h))
    | refine thn_n ?_
    | (refine hK _ _ _ ?_; clear hK K)
    | refine thn_r ?_
    | refine inb_n ?_
    | refine inb_r ?_)); all_goals (repeat (clear hK K)))
    all_goals first
      | (refine fin_r (fin_b rfl ?_)
         exact (anyR_true c1 (by simp_all)).symm)
      | (refine ⟨x + 1, id, ⟨c1, fun y hy => ?_⟩, by omega, ?_⟩
         · by_cases hyq : y < x
           · exact hg y hyq
           · obtain rfl : y = x := by omega
             simp_all
         · (try dsimp only); rw [← hw]; exact ⟨by (repeat (refine ⟨by first | exact lk_i rfl rfl | exact lk_d rfl rfl, ?_⟩)); exact trivial, by exact trivial, by rfl, by exact pin_0⟩)
  · have b1 : decide ((x : Int) < (ls.length : Int)) = false := by simpa using c1
    ((repeat' (first
    | (show SQ _ _ _ _ _ _ _ _; first | apply sq_nil | (apply q_assign; exact rfl; exact rfl) | (apply q_lss; exact rfl; exact rfl; exact rfl))
    | (show AW _ _ _ _ _ _ _ _; first | refine aw_region ?_ | (refine aw_seqk ?_; intro K hK) | (apply aw_cond_f; exact rfl; exact (by assumption)) | refine aw_ret ?_ | refine aw_exit ?_)
    | refine thn_n ?_
    | (refine hK _ _ _ ?_; clear hK K)
    | refine thn_e ?_
    | refine inb_same ?_
    | (clear hK K; refine hK _ _ _ ?_; clear hK K))); all_goals (repeat (clear hK K)))
    all_goals refine fin_r (fin_b rfl ?_)
    exact (anyR_false fun y hy => hg y (by omega)).symm
set_option maxHeartbeats 4000000 in
theorem mayClash_ro (i j : Nat) (hi : i < ls.length) (hj : j < ls.length) (k : Nat) : RO Try.prog 46 [.dsl 1 (nbL ls), .v (.int .i64 i), .v (.int .i64 j)] k (.v (.bool (clB ls i j))) [] k := by
  have hA := areNeighbours_ro ls hS i j hi hj
  have hB := shareNeighbour_ro ls hS i j hi hj
  refine RO.ofv' Try.func46 Try.ntmps46 rfl (goFn_of Try.func46 rfl (by kernel_rfl)) rfl rfl ?_
  ((repeat' (first
    | (show SQ _ _ _ _ _ _ _ _; first | apply sq_nil | (apply q_move; exact rfl; exact rfl) | (apply q_assign; exact rfl; exact rfl) | (apply q_pick_t; exact rfl; exact rfl; exact rfl; exact (by first | assumption | exact rfl)) | (apply q_pick_f; exact rfl; exact rfl; exact rfl; exact (by first | assumption | exact rfl)) | (apply q_g; exact rfl; exact rfl; exact rfl; exact (by assumption)) | (apply q_s; exact rfl; exact rfl; exact rfl; exact (by assumption); exact rfl))
    | (show SQ _ _ _ _ _ _ _ _; (first | (apply q_callU; exact rfl; exact rfl; exact rfl; exact FzL.of rfl; exact hA _) | (apply q_callU; exact rfl; exact rfl; exact rfl; exact FzL.of rfl; exact hB _)); (try simp only [put, rowsOf, plR, List.all_cons, selE, ovr, setH, del, cellsA, splice, isV, List.nil_append, List.cons_append, List.map_cons, List.map_nil, List.length_cons, List.length_nil, List.set_cons_zero, List.set_cons_succ, List.take_succ_cons, List.take_zero, List.take_nil, List.drop_succ_cons, List.drop_zero, List.drop_nil, List.append_nil, List.all_cons, List.all_nil, Bool.and_true, Bool.true_and, Bool.and_false, Bool.false_and, Nat.reduceAdd, Nat.zero_add, Nat.add_zero, Nat.reduceEqDiff, if_true, if_false, reduceIte]))
    | (show SQ _ _ _ _ _ _ _ _; apply q_gs; exact rfl; exact rfl; exact rfl; exact rfl; all_goals intro h)
    | (show AW _ _ _ _ _ _ _ _; first | refine aw_region ?_ | (refine aw_seqk ?_; intro K hK) | refine aw_ret ?_)
    | refine thn_n ?_
    | (refine hK _ _ _ ?_; clear hK K))); all_goals (repeat (clear hK K)))
  all_goals refine fin_r (fin_b rfl ?_)
  all_goals simp_all [clB]
def earB (ls : List (List Int)) (cs : List Int) (c : Int) : Bool := (List.range cs.length).any fun i => cs.getD i 0 == c && clB ls i cs.length
set_option maxHeartbeats 4000000 in
theorem clashesEarlier_ro (cs : List Int) (c : Int) (hc : cs.length < ls.length) (k : Nat) : RO Try.prog 58 [.dsl 1 (nbL ls), .dsl 1 (cs.map inL), .v (.int .i64 c)] k (.v (.bool (earB ls cs c))) [] k := by
  have hn := hS.n
  have hml : (cs.map inL).length = cs.length := List.length_map _
  refine RO.ofv' Try.func58 Try.ntmps58 rfl (goFn_of Try.func58 rfl (by kernel_rfl)) rfl rfl ?_
  ((repeat' (first
    | (show SQ _ _ _ _ _ _ _ _; first | apply sq_nil | (apply q_move; exact rfl; exact rfl) | (apply q_assign; exact rfl; exact rfl) | (apply q_lend; exact rfl; exact rfl; exact (ty rfl); exact rfl))
    | (show AW _ _ _ _ _ _ _ _; first | refine aw_region ?_ | (refine aw_seqk ?_; intro K hK) | refine aw_block ?_)
    | refine thn_n ?_
    | (refine hK _ _ _ ?_; clear hK K))); all_goals (repeat (clear hK K)))
  refine aw_loop (ρ := id) (ι := Nat) (fun i => ([(14, .v (.int .i64 i)), (13, .v (.int .i64 cs.length)), (12, .dsl 1 (cs.map inL)), (7, .v (.int .i64 cs.length)), (2, .v (.int .i64 c)), (0, .dsl 1 (nbL ls))], [], 0))
    (fun i => i ≤ cs.length ∧ ∀ j, j < i → (cs.getD j 0 == c && clB ls j cs.length) = false) (fun i => cs.length - i) 0 ⟨Nat.zero_le _, fun j hj => absurd hj (Nat.not_lt_zero _)⟩ ⟨by (repeat (refine ⟨by first | exact lk_i rfl rfl | exact lk_i rfl (by (try dsimp only); first | rfl | omega | (rw [IntWalk.i64_in _ (by omega)]; first | rfl | omega | (push_cast; omega)) | (simp; done) | (simp; omega)) | exact lk_d rfl rfl, ?_⟩)); exact trivial, by exact trivial, by rfl, by exact pin_0⟩ ?_
  rintro i ⟨hi, hg⟩
  by_cases c1 : i < cs.length
  · have b1 : decide ((i : Int) < (cs.length : Int)) = true := by simpa using c1
    have hrow : (cs.map inL)[((i : Int)).toNat]? = some (inL cs[i]) := by simp [c1]
    rw [inL_eq] at hrow
    have hD : cs.getD i 0 = cs[i] := by simp [List.getD, c1]
    have hw : IntKind.i64.wrap ((i : Int) + 1) = ((i + 1 : Nat) : Int) := by rw [IntWalk.i64_in _ (by omega)]; omega
    have hA := mayClash_ro ls hS i cs.length (by omega) hc
    ((repeat' (first
    | (show SQ _ _ _ _ _ _ _ _; first | apply sq_nil | (apply q_move; exact rfl; exact rfl) | (apply q_assign; exact rfl; exact rfl) | (apply q_pick_t; exact rfl; exact rfl; exact rfl; exact (by first | assumption | exact rfl)) | (apply q_pick_f; exact rfl; exact rfl; exact rfl; exact (by first | assumption | exact rfl)) | (apply q_add; exact rfl; exact rfl; exact rfl) | (apply q_eql; exact rfl; exact rfl; exact rfl) | (apply q_lss; exact rfl; exact rfl; exact rfl) | (apply q_ixd; exact rfl; exact rfl; exact rfl; exact (ty rfl); exact rfl; exact (by first | omega | (simp; done) | (simp; omega)); exact (by first | omega | (simp; done) | (simp; omega)); exact (by first | rfl | assumption)) | (apply q_ld1d; exact rfl; exact rfl; exact (ty rfl); exact rfl; exact rfl) | (apply q_g; exact rfl; exact rfl; exact rfl; exact (by assumption)) | (apply q_s; exact rfl; exact rfl; exact rfl; exact (by assumption); exact rfl))
    | (show SQ _ _ _ _ _ _ _ _; (first | (apply q_callU; exact rfl; exact rfl; exact rfl; exact FzL.of rfl; exact hA _)); (try simp only [put, rowsOf, plR, List.all_cons, selE, ovr, setH, del, cellsA, splice, isV, List.nil_append, List.cons_append, List.map_cons, List.map_nil, List.length_cons, List.length_nil, List.set_cons_zero, List.set_cons_succ, List.take_succ_cons, List.take_zero, List.take_nil, List.drop_succ_cons, List.drop_zero, List.drop_nil, List.append_nil, List.all_cons, List.all_nil, Bool.and_true, Bool.true_and, Bool.and_false, Bool.false_and, Nat.reduceAdd, Nat.zero_add, Nat.add_zero, Nat.reduceEqDiff, if_true, if_false, reduceIte]))
    | (show SQ _ _ _ _ _ _ _ _; apply q_gs; exact rfl; exact rfl; exact rfl; exact rfl; all_goals intro h)
    | (show AW _ _ _ _ _ _ _ _; first | refine aw_region ?_ | (refine aw_seqk ?_; intro K hK) | refine aw_block ?_ | (apply aw_cond_f; exact rfl; exact rfl) | (apply aw_cond_t; exact rfl; exact (by assumption)) | refine aw_ret ?_ | refine aw_skip ?_ | (apply aw_ite; exact rfl; all_goals intro h))
    | refine thn_n ?_
    | (refine hK _ _ _ ?_; clear hK K)
    | refine thn_r ?_
    | refine inb_n ?_
    | refine inb_r ?_)); all_goals (repeat (clear hK K)))
    all_goals first
      | (refine fin_r (fin_b rfl ?_)
         exact (anyR_true c1 (by rw [hD]; simp_all)).symm)
      | (refine ⟨i + 1, id, ⟨c1, fun j hj => ?_⟩, by omega, ?_⟩
         · by_cases hjq : j < i
           · exact hg j hjq
           · obtain rfl : j = i := by omega
             rw [hD]; simp_all
         · (try dsimp only); rw [← hw]; exact ⟨by (repeat (refine ⟨by first | exact lk_i rfl rfl | exact lk_d rfl rfl, ?_⟩)); exact trivial, by exact trivial, by rfl, by exact pin_0⟩)
  · have b1 : decide ((i : Int) < (cs.length : Int)) = false := by simpa using c1
    ((repeat' (first
    | (show SQ _ _ _ _ _ _ _ _; first | apply sq_nil | (apply q_assign; exact rfl; exact rfl) | (apply q_lss; exact rfl; exact rfl; exact rfl))
    | (show AW _ _ _ _ _ _ _ _; first | refine aw_region ?_ | (refine aw_seqk ?_; intro K hK) | (apply aw_cond_f; exact rfl; exact (by assumption)) | refine aw_ret ?_ | refine aw_exit ?_)
    | refine thn_n ?_
    | (refine hK _ _ _ ?_; clear hK K)
    | refine thn_e ?_
    | refine inb_same ?_
    | (clear hK K; refine hK _ _ _ ?_; clear hK K))); all_goals (repeat (clear hK K)))
    all_goals refine fin_r (fin_b rfl ?_)
    exact (anyR_false fun j hj => hg j (by omega)).symm
end
end Go.Proofs.Yteknfaldpajlpaa.Nb

namespace Go.Proofs.Yteknfaldpajlpaa.Aw
open Go Go.RowKit
set_option linter.unusedVariables false
section
variable {P : Program} {N g n : Nat} {Q : Exit → Tp → Hp → Nat → Prop} {T : Tp} {H : Hp}
theorem aw_nilF {c : Code} {t : Nat} (ty sz : Nat) (pl : Bool) (h : look T t = some (.v (.slice none 0 0))) (hc : AW P N g c Q ((t, .sl n 0 0) :: T) ((n, ⟨ty, sz, pl, []⟩) :: H) (n + 1)) : AW P N g c Q T H n := fun Old wi K m a w hp hr ht => by
  have hns : ¬ (fun i => i < n) n := Nat.lt_irrefl _
  have e : addS (fun i => i < n) n (n + 1) = fun i => i < n + 1 := addS_lt (Nat.le_succ _)
  have hr' := hr.phantom hns ty sz pl
  rw [e] at hr'
  refine hc Old wi K _ a w hp hr' ⟨ht.dn, ht.sz, fun u av hl => ?_⟩
  rw [look_cons] at hl
  split at hl
  · rename_i hu
    subst hu
    simp only [Option.some.injEq] at hl
    subst hl
    have hv := ht.tm t _ h
    generalize a.tmps.getD t undef = x at hv
    cases hv
    exact .sl0 _ _ _ _ (Nat.lt_succ_self n)
  · exact (ht.tm u av hl).mono (fun _ h => h) (fun _ _ => rfl) (fun i hi => Nat.lt_succ_of_lt hi) (fun i hi => updL_ne _ _ (Nat.ne_of_lt hi))
theorem Rel.unpl {Old : Nat → Prop} {wi : WI} {K : Nat → Prop} {m : Nat → Loc} {S : Nat → Prop} {w : World} {id ty sz : Nat} {rows : List (List AV)} (hr : Rel Old wi K m S H w) (hl : look H id = some ⟨ty, sz, true, rows⟩) :
    Rel Old wi K m S ((id, ⟨ty, sz, false, rows⟩) :: H) w := by
  have pt : ∀ {i : Nat} {b : Blk}, look ((id, (⟨ty, sz, false, rows⟩ : Blk)) :: H) i = some b → ∃ b0, look H i = some b0 ∧ b0.size = b.size := by
    intro i b h
    rw [look_cons] at h
    split at h
    · rename_i e; subst e; simp only [Option.some.injEq] at h; subst h; exact ⟨_, hl, rfl⟩
    · exact ⟨b, h, rfl⟩
  exact { hr with
    oown := (fun i b h => by obtain ⟨b0, h0, _⟩ := pt h; exact hr.oown i b0 h0)
    om := (fun i b h => by obtain ⟨b0, h0, e⟩ := pt h; rw [← e]; exact hr.om i b0 h0)
    inS := (fun i b h => by obtain ⟨b0, h0, _⟩ := pt h; exact hr.inS i b0 h0)
    own := (fun i b h => by
      rw [look_cons] at h
      split at h
      · rename_i e
        subst e
        simp only [Option.some.injEq] at h
        subst h
        rcases hr.own _ _ hl with ⟨h1, h2⟩ | ⟨h1, h2⟩
        · exact .inl ⟨h1, h2⟩
        · refine .inr ⟨h1, { nk := h2.nk, sz := h2.sz, cap := h2.cap, capm := h2.capm, plv := (fun h => by cases h), ex := ?_ }⟩
          obtain ⟨cur, g1, g2, g3⟩ := h2.ex
          refine ⟨cur, g1, g2, fun r row hrow => ⟨(g3 r row hrow).1, fun j cv hj => ?_⟩⟩
          obtain ⟨x, x1, x2, x3⟩ := (g3 r row hrow).2 j cv hj
          exact ⟨x, x1, x2, x3.mono (fun _ h => h) (fun _ _ => rfl) (fun i hi => by simp at hi) (fun i hi => rfl)⟩
      · exact hr.own i b h)
    inj := (fun i j bi bj hi hj => by
      obtain ⟨b0, h0, _⟩ := pt hi
      obtain ⟨b1, h1, _⟩ := pt hj
      exact hr.inj i j b0 b1 h0 h1) }
theorem aw_unpl {c : Code} (id : Nat) {ty sz : Nat} {rows : List (List AV)} (hl : look H id = some ⟨ty, sz, true, rows⟩) (h : AW P N g c Q T ((id, ⟨ty, sz, false, rows⟩) :: H) n) : AW P N g c Q T H n := fun Old wi K m a w hp hr ht =>
  h Old wi K m a w hp (hr.unpl hl) ht
end
def mv (a b : Nat) : Nat → Nat := fun z => if z = a then b else z
def simB : AV → Bool
  | .v _ | .dsl _ _ | .dptr _ | .emp => true
  | _ => false
theorem rows_no (ρ : Nat → Nat) {rows : List (List AV)} (h : rows.all noOwnL = true) : rows.map (renL ρ) = rows := by
  conv => rhs; rw [← List.map_id rows]
  exact List.map_congr_left fun r hr => (renL_noOwn ρ 0 r (List.all_eq_true.1 h r hr)).1
theorem rows_ok (n : Nat) {rows : List (List AV)} (h : rows.all noOwnL = true) : rows.all (idsOkL n) = true :=
  List.all_eq_true.2 fun r hr => (renL_noOwn (fun i => i) n r (List.all_eq_true.1 h r hr)).2
end Go.Proofs.Yteknfaldpajlpaa.Aw

namespace Go.Proofs.Yteknfaldpajlpaa.Nb
open Go Go.RowKit Go.Proofs.Yteknfaldpajlpaa.Aw Go.Proofs.Yteknfaldpajlpaa.In Go.Proofs.Yteknfaldpajlpaa.Il
set_option linter.unusedSimpArgs false
set_option linter.unusedVariables false
attribute [local irreducible] AW SQ Step RO RC DE Thn InB
def prR (p : Int × Int) : List AV := [.dsl 1 [[.v (.int .i64 p.1)], [.v (.int .i64 p.2)]]]
def prIn (p : Nat → Nat → Bool) (i : Nat) (acc : List (Int × Int)) : Nat → List (Int × Int)
  | 0 => acc
  | j + 1 => if p i (i + 1 + j) then prIn p i acc j ++ [((i : Int), ((i + 1 + j : Nat) : Int))] else prIn p i acc j
def prOut (p : Nat → Nat → Bool) (n : Nat) : Nat → List (Int × Int)
  | 0 => []
  | i + 1 => prIn p i (prOut p n i) (n - (i + 1))
theorem prIn_len (p : Nat → Nat → Bool) (i : Nat) (acc : List (Int × Int)) : ∀ j, (prIn p i acc j).length ≤ acc.length + j
  | 0 => Nat.le_refl _
  | j + 1 => by
    have := prIn_len p i acc j
    unfold prIn
    split
    · simp only [List.length_append, List.length_singleton]; omega
    · omega
theorem prOut_len (p : Nat → Nat → Bool) (n : Nat) (hn : n ≤ 24) : ∀ i, (prOut p n i).length ≤ 24 * i
  | 0 => Nat.le_refl _
  | i + 1 => by
    have h1 := prOut_len p n hn i
    have h2 := prIn_len p i (prOut p n i) (n - (i + 1))
    unfold prOut
    omega
theorem prIn_nil {p : Nat → Nat → Bool} {i : Nat} {acc : List (Int × Int)} : ∀ j, prIn p i acc j = [] ↔ acc = [] ∧ ∀ k, k < j → p i (i + 1 + k) = false
  | 0 => by simp [prIn]
  | j + 1 => by
    unfold prIn
    split
    · rename_i h
      refine ⟨fun e => absurd e (by simp), fun ⟨_, hk⟩ => ?_⟩
      have := hk j (Nat.lt_succ_self j)
      rw [h] at this; cases this
    · rename_i h
      rw [prIn_nil j]
      refine and_congr_right fun _ => ⟨fun hk k hk2 => ?_, fun hk k hk2 => hk k (by omega)⟩
      by_cases e : k = j
      · subst e; simpa using h
      · exact hk k (by omega)
theorem prOut_nil {p : Nat → Nat → Bool} {n : Nat} : ∀ i, prOut p n i = [] ↔ ∀ a, a < i → ∀ b, a < b → b < n → p a b = false
  | 0 => by simp [prOut]
  | i + 1 => by
    unfold prOut
    rw [prIn_nil, prOut_nil i]
    constructor
    · rintro ⟨h1, h2⟩ a ha b hb hbn
      by_cases e : a = i
      · subst e
        have := h2 (b - (a + 1)) (by omega)
        rwa [show a + 1 + (b - (a + 1)) = b by omega] at this
      · exact h1 a (by omega) b hb hbn
    · exact fun h => ⟨fun a ha b hb hbn => h a (by omega) b hb hbn, fun k hk => h i (by omega) _ (by omega) (by omega)⟩
theorem prR_no (ps : List (Int × Int)) : (ps.map prR).all noOwnL = true := all_noOwn_map fun _ => rfl
set_option maxHeartbeats 4000000 in
theorem itemPairs_rc (n : Nat) (f : FuncId) (caps : List AV) (p : Nat → Nat → Bool) (hno : noOwnL caps = true) (hcap : idsOkL 1 caps = true) (hz : FzC caps) (hn : n ≤ 24)
    (hf : ∀ i j : Nat, i < n → j < n → ∀ m, RO Try.prog f (.v (.int .i64 i) :: .v (.int .i64 j) :: caps) m (.v (.bool (p i j))) [] m) (k : Nat) :
    RC Try.prog 44 [.v (.int .i64 n), .fn f caps] [] k (.sl k 0 (prOut p n n).length) [(k, some ⟨23, 1, false, (prOut p n n).map prR⟩)] (k + 1) := by
  refine RC.ofc [] 1 [.v (.int .i64 n), .fn f caps] [] (.sl 0 0 (prOut p n n).length) [(0, some ⟨23, 1, false, (prOut p n n).map prR⟩)] Try.func44 Try.ntmps44 rfl (goFn_of Try.func44 rfl (by kernel_rfl)) rfl rfl ?_ rfl rfl ?_ rfl ?_ (by simp_all) rfl ?_
  · simp only [List.map_cons, List.map_nil, renA, (renL_noOwn _ 0 caps hno).1]
  · have := rows_no (nmC [] k) (prR_no (prOut p n n))
    simp only [renE, renB, List.map_cons, List.map_nil, Option.map_some, this]; rfl
  · have := rows_ok (0 + 1) (prR_no (prOut p n n))
    simp [okC, idsOk, idsOkB, this, (renL_noOwn (fun i => i) _ caps hno).2]
  ((repeat' (first
    | (show SQ _ _ _ _ _ _ _ _; first | apply sq_nil | (apply q_move; exact rfl; exact rfl) | (apply q_assign; exact rfl; exact rfl))
    | (show AW _ _ _ _ _ _ _ _; first | refine aw_region ?_ | (refine aw_seqk ?_; intro K hK) | refine aw_block ?_)
    | refine thn_n ?_
    | (refine hK _ _ _ ?_; clear hK K))); all_goals (repeat (clear hK K)))
  refine aw_nilF (t := 5) 23 1 false rfl ?_
  refine aw_loop (ρ := id) (ι := Nat) (fun i => ([(9, .v (.int .i64 i)), (8, .v (.int .i64 n)), (5, .sl 0 0 (prOut p n i).length), (1, .fn f caps), (0, .v (.int .i64 n))], [(0, ⟨23, 1, false, (prOut p n i).map prR⟩)], 1))
    (fun i => i ≤ n) (fun i => n - i) 0 (Nat.zero_le _) ⟨by (repeat (refine ⟨by first | exact lk_i rfl rfl | exact lk_s rfl rfl rfl rfl | exact lk_f rfl (renL_id _) (by assumption), ?_⟩)); exact trivial, by (repeat (refine ⟨by first | exact ⟨rfl, rfl, rfl⟩, ?_⟩)); exact trivial, by rfl, by exact pin_0⟩ ?_
  intro i hi
  have hlen := prOut_len p n hn i
  have e1 : prOut p n (i + 1) = prIn p i (prOut p n i) (n - (i + 1)) := rfl
  by_cases c1 : i < n
  · have b1 : decide ((i : Int) < (n : Int)) = true := by simpa using c1
    have hw : IntKind.i64.wrap ((i : Int) + 1) = ((i + 1 : Nat) : Int) := by rw [IntWalk.i64_in _ (by omega)]; omega
    have hw0 : IntKind.i64.wrap ((i : Int) + 1) = ((i + 1 + 0 : Nat) : Int) := hw
    generalize prOut p n i = acc at *
    ((repeat' (first
    | (show SQ _ _ _ _ _ _ _ _; first | apply sq_nil | (apply q_move; exact rfl; exact rfl) | (apply q_assign; exact rfl; exact rfl) | (apply q_add; exact rfl; exact rfl; exact rfl) | (apply q_lss; exact rfl; exact rfl; exact rfl))
    | (show AW _ _ _ _ _ _ _ _; first | refine aw_region ?_ | (refine aw_seqk ?_; intro K hK) | refine aw_block ?_ | (apply aw_cond_t; exact rfl; exact (by assumption)) | refine aw_skip ?_)
    | refine thn_n ?_
    | (refine hK _ _ _ ?_; clear hK K))); all_goals (repeat (clear hK K)))
    refine aw_loop (ρ := id) (ι := Nat) (fun j => ([(7, .v (.int .i64 ((i + 1 + j : Nat) : Int))), (6, .v (.int .i64 i)), (9, .v (.int .i64 i)), (8, .v (.int .i64 n)), (5, .sl 0 0 (prIn p i acc j).length), (1, .fn f caps), (0, .v (.int .i64 n))], [(0, ⟨23, 1, false, (prIn p i acc j).map prR⟩)], 1))
      (fun j => j ≤ n - (i + 1)) (fun j => n - (i + 1) - j) 0 (Nat.zero_le _) ⟨by (repeat (refine ⟨by first | exact lk_i rfl rfl | exact lk_i rfl (by (try dsimp only); first | rfl | omega | (rw [IntWalk.i64_in _ (by omega)]; first | rfl | omega | (push_cast; omega)) | (simp; done) | (simp; omega)) | exact lk_s rfl rfl rfl rfl | exact lk_f rfl (renL_id _) (by assumption), ?_⟩)); exact trivial, by (repeat (refine ⟨by first | exact lknc rfl rfl rfl rfl (by first | rfl | exact all_noOwn_map (fun _ => rfl) | assumption | exact hclo) rfl, ?_⟩)); exact trivial, by rfl, by exact pin_0⟩ ?_
    intro j hj
    have hlen2 := prIn_len p i acc j
    have e2 : prIn p i acc (j + 1) = if p i (i + 1 + j) then prIn p i acc j ++ [((i : Int), ((i + 1 + j : Nat) : Int))] else prIn p i acc j := rfl
    by_cases c2 : j < n - (i + 1)
    · have b2 : decide (((i + 1 + j : Nat) : Int) < (n : Int)) = true := by simp only [decide_eq_true_eq]; omega
      have hwj : IntKind.i64.wrap (((i + 1 + j : Nat) : Int) + 1) = ((i + 1 + (j + 1) : Nat) : Int) := by rw [IntWalk.i64_in _ (by omega)]; omega
      have hC := hf i (i + 1 + j) c1 (by omega)
      generalize prIn p i acc j = cur at *
      have hml : (cur.map prR).length = cur.length := List.length_map _
      cases hp : p i (i + 1 + j) with
      | true =>
        rw [hp] at hC e2
        have e3 : (cur ++ [((i : Int), ((i + 1 + j : Nat) : Int))]).map prR = cur.map prR ++ [[.dsl 1 [[.v (.int .i64 (i : Int))], [.v (.int .i64 ((i + 1 + j : Nat) : Int))]]]] := by rw [List.map_append]; rfl
        ((repeat' (first
    | (show SQ _ _ _ _ _ _ _ _; apply sq_frz (t := 26); exact rfl; exact rfl; exact (by first | rfl | exact all_noOwn_map (fun _ => rfl) | assumption | exact hclo); exact (by first | omega | (simp; done) | (simp; omega)); exact (by first | exact dt_full (by first | omega | (simp; done) | (simp; omega)) | assumption | rfl); (try simp only [put, rowsOf, plR, List.all_cons, selE, ovr, setH, del, cellsA, splice, isV, List.nil_append, List.cons_append, List.map_cons, List.map_nil, List.length_cons, List.length_nil, List.set_cons_zero, List.set_cons_succ, List.take_succ_cons, List.take_zero, List.take_nil, List.drop_succ_cons, List.drop_zero, List.drop_nil, List.append_nil, List.all_cons, List.all_nil, Bool.and_true, Bool.true_and, Bool.and_false, Bool.false_and, Nat.reduceAdd, Nat.zero_add, Nat.add_zero, Nat.reduceEqDiff, if_true, if_false, reduceIte]))
    | (show SQ _ _ _ _ _ _ _ _; first | apply sq_nil | (apply q_move; exact rfl; exact rfl) | (apply q_assign; exact rfl; exact rfl) | (apply q_add; exact rfl; exact rfl; exact rfl) | (apply q_lss; exact rfl; exact rfl; exact rfl))
    | (show SQ _ _ _ _ _ _ _ _; (first | (apply q_buildn; exact rfl; exact (ty rfl); exact rfl; exact rfl; exact rfl; exact rfl; exact rfl; exact rfl; exact rfl) | (apply q_apo_s; exact rfl; exact rfl; exact rfl; exact (ty rfl); exact rfl; exact rfl; exact (by first | omega | (simp; done) | (simp; omega)); exact (by first | exact List.take_of_length_le (by first | omega | (simp; done) | (simp; omega)) | rfl); exact (ty rfl); exact rfl; exact rfl; exact (by first | omega | (simp; done) | (simp; omega)); exact (by first | exact dt_full (by first | omega | (simp; done) | (simp; omega)) | assumption | rfl); exact rfl; exact (by first | omega | (simp; done) | (simp; omega)); exact (by first | omega | (simp; done) | (simp; omega)); exact (by first | assumption | exact rfl)) | (apply q_callU; exact rfl; exact rfl; exact rfl; rotate_left; exact hC _; rotate_right; focus ((repeat' (first | exact FzL.nil | exact (by assumption : FzC _) _ | refine FzL.cons ?_ ?_ | exact Fz.of rfl | exact Fz.nil | exact Fz.emp | (apply Fz.fnC; assumption) | (apply Fz.sl2; exact rfl; exact (by first | omega | (simp; done) | (simp; omega)); first | exact rfl | exact dt_full (by first | omega | (simp; done) | (simp; omega)) | assumption) | apply Fz.agg | (apply Fz.ptrL; exact rfl; first | exact rfl | assumption) | apply Fz.fnL)); done))); (try simp only [put, rowsOf, plR, List.all_cons, selE, ovr, setH, del, cellsA, splice, isV, List.nil_append, List.cons_append, List.map_cons, List.map_nil, List.length_cons, List.length_nil, List.set_cons_zero, List.set_cons_succ, List.take_succ_cons, List.take_zero, List.take_nil, List.drop_succ_cons, List.drop_zero, List.drop_nil, List.append_nil, List.all_cons, List.all_nil, Bool.and_true, Bool.true_and, Bool.and_false, Bool.false_and, Nat.reduceAdd, Nat.zero_add, Nat.add_zero, Nat.reduceEqDiff, if_true, if_false, reduceIte]))
    | (show AW _ _ _ _ _ _ _ _; first | refine aw_region ?_ | (refine aw_seqk ?_; intro K hK) | refine aw_block ?_ | (apply aw_cond_t; exact rfl; exact rfl) | (apply aw_cond_t; exact rfl; exact (by assumption)) | refine aw_skip ?_)
    | refine thn_n ?_
    | (refine hK _ _ _ ?_; clear hK K)
    | refine inb_n ?_)); all_goals (repeat (clear hK K)))
        all_goals (refine ⟨j + 1, mv 0 3, c2, by omega, ?_⟩; (try dsimp only); rw [e2, if_pos rfl, ← hwj, List.length_append]; exact ⟨by (repeat (refine ⟨by first | exact lk_i rfl rfl | exact lk_s rfl rfl rfl rfl | exact lk_f rfl (renL_noOwn _ 0 _ (by assumption)).1 (renL_noOwn (fun i => i) _ _ (by assumption)).2, ?_⟩)); exact trivial, by (repeat (refine ⟨by first | exact lknc rfl rfl rfl (by rw [e3]; rfl) (by first | rfl | exact all_noOwn_map (fun _ => rfl) | assumption | exact hclo) rfl, ?_⟩)); exact trivial, by rfl, by exact pin_0⟩)
      | false =>
        rw [hp] at hC e2
        ((repeat' (first
    | (show SQ _ _ _ _ _ _ _ _; first | apply sq_nil | (apply q_move; exact rfl; exact rfl) | (apply q_assign; exact rfl; exact rfl) | (apply q_add; exact rfl; exact rfl; exact rfl) | (apply q_lss; exact rfl; exact rfl; exact rfl))
    | (show SQ _ _ _ _ _ _ _ _; (first | (apply q_callU; exact rfl; exact rfl; exact rfl; rotate_left; exact hC _; rotate_right; focus ((repeat' (first | exact FzL.nil | exact (by assumption : FzC _) _ | refine FzL.cons ?_ ?_ | exact Fz.of rfl | exact Fz.nil | exact Fz.emp | (apply Fz.fnC; assumption) | (apply Fz.sl2; exact rfl; exact (by first | omega | (simp; done) | (simp; omega)); first | exact rfl | exact dt_full (by first | omega | (simp; done) | (simp; omega)) | assumption) | apply Fz.agg | (apply Fz.ptrL; exact rfl; first | exact rfl | assumption) | apply Fz.fnL)); done))); (try simp only [put, rowsOf, plR, List.all_cons, selE, ovr, setH, del, cellsA, splice, isV, List.nil_append, List.cons_append, List.map_cons, List.map_nil, List.length_cons, List.length_nil, List.set_cons_zero, List.set_cons_succ, List.take_succ_cons, List.take_zero, List.take_nil, List.drop_succ_cons, List.drop_zero, List.drop_nil, List.append_nil, List.all_cons, List.all_nil, Bool.and_true, Bool.true_and, Bool.and_false, Bool.false_and, Nat.reduceAdd, Nat.zero_add, Nat.add_zero, Nat.reduceEqDiff, if_true, if_false, reduceIte]))
    | (show AW _ _ _ _ _ _ _ _; first | refine aw_region ?_ | (refine aw_seqk ?_; intro K hK) | refine aw_block ?_ | (apply aw_cond_f; exact rfl; exact rfl) | (apply aw_cond_t; exact rfl; exact (by assumption)) | refine aw_skip ?_)
    | refine thn_n ?_
    | (refine hK _ _ _ ?_; clear hK K)
    | refine inb_n ?_)); all_goals (repeat (clear hK K)))
        all_goals (refine ⟨j + 1, id, c2, by omega, ?_⟩; (try dsimp only); rw [e2, if_neg (by simp), ← hwj]; exact ⟨by (repeat (refine ⟨by first | exact lk_i rfl rfl | exact lk_s rfl rfl rfl rfl | exact lk_f rfl (renL_id _) (by assumption), ?_⟩)); exact trivial, by (repeat (refine ⟨by first | exact lknc rfl rfl rfl rfl (by first | rfl | exact all_noOwn_map (fun _ => rfl) | assumption | exact hclo) rfl, ?_⟩)); exact trivial, by rfl, by exact pin_0⟩)
    · have b2 : decide (((i + 1 + j : Nat) : Int) < (n : Int)) = false := by simp only [decide_eq_false_iff_not]; omega
      obtain rfl : j = n - (i + 1) := by omega
      ((repeat' (first
    | (show SQ _ _ _ _ _ _ _ _; first | apply sq_nil | (apply q_move; exact rfl; exact rfl) | (apply q_add; exact rfl; exact rfl; exact rfl) | (apply q_lss; exact rfl; exact rfl; exact rfl))
    | (show AW _ _ _ _ _ _ _ _; first | refine aw_region ?_ | (refine aw_seqk ?_; intro K hK) | (apply aw_cond_f; exact rfl; exact (by assumption)) | refine aw_exit ?_)
    | refine thn_n ?_
    | (refine hK _ _ _ ?_; clear hK K)
    | refine thn_e ?_
    | refine inb_same ?_
    | refine inb_n ?_
    | (clear hK K; refine hK _ _ _ ?_; clear hK K))); all_goals (repeat (clear hK K)))
      all_goals (refine ⟨i + 1, id, c1, by omega, ?_⟩; (try dsimp only); rw [e1, ← hw]; exact ⟨by (repeat (refine ⟨by first | exact lk_i rfl rfl | exact lk_s rfl rfl rfl rfl | exact lk_f rfl (renL_id _) (by assumption), ?_⟩)); exact trivial, by (repeat (refine ⟨by first | exact lknc rfl rfl rfl rfl (by first | rfl | exact all_noOwn_map (fun _ => rfl) | assumption | exact hclo) rfl, ?_⟩)); exact trivial, by rfl, by exact pin_0⟩)
  · have b1 : decide ((i : Int) < (n : Int)) = false := by simpa using c1
    obtain rfl : i = n := by omega
    ((repeat' (first
    | (show SQ _ _ _ _ _ _ _ _; first | apply sq_nil | (apply q_move; exact rfl; exact rfl) | (apply q_assign; exact rfl; exact rfl) | (apply q_lss; exact rfl; exact rfl; exact rfl))
    | (show AW _ _ _ _ _ _ _ _; first | refine aw_region ?_ | (refine aw_seqk ?_; intro K hK) | (apply aw_cond_f; exact rfl; exact (by assumption)) | refine aw_ret ?_ | refine aw_exit ?_)
    | refine thn_n ?_
    | (refine hK _ _ _ ?_; clear hK K)
    | refine thn_e ?_
    | refine inb_same ?_
    | (clear hK K; refine hK _ _ _ ?_; clear hK K))); all_goals (repeat (clear hK K)))
    all_goals exact finc id (.r1 _ _ (.tmp _ _ rfl)) rfl (fun _ h => absurd h (Nat.not_lt_zero _)) ⟨(by simp only [renB, rows_no _ (prR_no _)]; rfl), trivial⟩ rfl
end Go.Proofs.Yteknfaldpajlpaa.Nb

namespace Go.Proofs.Yteknfaldpajlpaa.Nb
open Go Go.RowKit Go.Proofs.Yteknfaldpajlpaa.Aw Go.Proofs.Yteknfaldpajlpaa.In Go.Proofs.Yteknfaldpajlpaa.Il
set_option linter.unusedSimpArgs false
set_option linter.unusedVariables false
set_option linter.unusedSectionVars false
attribute [local irreducible] AW SQ Step RO RC DE Thn InB
def ccP (ls : List (List Int)) (cs : List Int) (i j : Nat) : Bool := cs.getD i 0 == cs.getD j 0 && clB ls i j
def coB (ls : List (List Int)) (cs : List Int) : Bool := ((cs.length : Int) == (ls.length : Int)) && !cs.any fun x => !inB x 0 999
theorem nbB_in {ls : List (List Int)} (h : nbB ls = true) : ls.length ≤ 24 := by
  simp only [nbB, Bool.and_eq_true, decide_eq_true_eq] at h; exact h.1
set_option maxHeartbeats 4000000 in
theorem vcClosure_ro (x many : Int) (k : Nat) : RO Try.prog 51 [.v (.int .i64 x), .dptr [.v (.int .i64 many)]] k (.v (.bool (decide (many ≤ x)))) [] k := by
  refine RO.ofv' Try.func51 Try.ntmps51 rfl (goFn_of Try.func51 rfl (by kernel_rfl)) rfl rfl ?_
  ((repeat' (first
    | (show SQ _ _ _ _ _ _ _ _; first | apply sq_nil | (apply q_move; exact rfl; exact rfl) | (apply q_assign; exact rfl; exact rfl) | (apply q_geq; exact rfl; exact rfl; exact rfl) | (apply q_ld1d; exact rfl; exact rfl; exact (ty rfl); exact rfl; exact rfl))
    | (show AW _ _ _ _ _ _ _ _; first | refine aw_region ?_ | (refine aw_seqk ?_; intro K hK) | refine aw_ret ?_)
    | refine thn_n ?_
    | (refine hK _ _ _ ?_; clear hK K))); all_goals (repeat (clear hK K)))
  all_goals exact fin_r (fin_b rfl rfl)
section
variable (ls : List (List Int)) (hS : NbS ls)
include hS
set_option maxHeartbeats 4000000 in
theorem ccClosure_ro (cs : List Int) (hc : cs.length = ls.length) (i j : Nat) (hi : i < ls.length) (hj : j < ls.length) (k : Nat) :
    RO Try.prog 45 [.v (.int .i64 i), .v (.int .i64 j), .dptr [.dsl 1 (cs.map inL)], .dptr [.dsl 1 (nbL ls)]] k (.v (.bool (ccP ls cs i j))) [] k := by
  have hml : (cs.map inL).length = cs.length := List.length_map _
  have hr1 : (cs.map inL)[((i : Int)).toNat]? = some (inL cs[i]) := by simp [hc, hi]
  have hr2 : (cs.map inL)[((j : Int)).toNat]? = some (inL cs[j]) := by simp [hc, hj]
  rw [inL_eq] at hr1 hr2
  have hM := mayClash_ro ls hS i j hi hj
  have e : ccP ls cs i j = (cs[i] == cs[j] && clB ls i j) := by simp [ccP, List.getD, hc, hi, hj]
  rw [e]
  clear e
  generalize clB ls i j = u at *
  generalize cs[i] = x at *
  generalize cs[j] = y at *
  refine RO.ofv' Try.func45 Try.ntmps45 rfl (goFn_of Try.func45 rfl (by kernel_rfl)) rfl rfl ?_
  ((repeat' (first
    | (show SQ _ _ _ _ _ _ _ _; first | apply sq_nil | (apply q_assign; exact rfl; exact rfl))
    | (show DE _ _ _ _ _ _ _ _ _ _ _ _; first | (apply e_move; exact rfl; exact rfl; exact rfl) | (apply e_assign; exact rfl; exact rfl; exact rfl) | (apply e_pick_t; exact rfl; exact rfl; exact rfl; exact (by first | assumption | exact rfl); exact rfl) | (apply e_pick_f; exact rfl; exact rfl; exact rfl; exact (by first | assumption | exact rfl); exact rfl) | (apply e_eql; exact rfl; exact rfl; exact rfl; exact rfl) | (apply e_ixd; exact rfl; exact rfl; exact rfl; exact (ty rfl); exact rfl; exact (by first | omega | (simp; done) | (simp; omega)); exact (by first | omega | (simp; done) | (simp; omega)); exact (by first | rfl | assumption); exact rfl) | (apply e_ld1d; exact rfl; exact rfl; exact (ty rfl); exact rfl; exact rfl; exact rfl) | (apply e_g; exact rfl; exact rfl; exact rfl; exact (by assumption)) | (apply e_s; exact rfl; exact rfl; exact rfl; exact (by assumption); exact rfl))
    | (show DE _ _ _ _ _ _ _ _ _ _ _ _; (first | (apply dr_nil; exact trivial) | (apply e_callU; exact rfl; exact rfl; exact rfl; exact FzL.of rfl; exact hM _; exact rfl)); (try simp only [put, rowsOf, plR, List.all_cons, selE, ovr, setH, del, cellsA, splice, isV, List.nil_append, List.cons_append, List.map_cons, List.map_nil, List.length_cons, List.length_nil, List.set_cons_zero, List.set_cons_succ, List.take_succ_cons, List.take_zero, List.take_nil, List.drop_succ_cons, List.drop_zero, List.drop_nil, List.append_nil, List.all_cons, List.all_nil, Bool.and_true, Bool.true_and, Bool.and_false, Bool.false_and, Nat.reduceAdd, Nat.zero_add, Nat.add_zero, Nat.reduceEqDiff, if_true, if_false, reduceIte]))
    | (show DE _ _ _ _ _ _ _ _ _ _ _ _; apply e_gs; exact rfl; exact rfl; exact rfl; exact rfl; all_goals intro h)
    | (show AW _ _ _ _ _ _ _ _; first | refine aw_region ?_ | (refine aw_seqk ?_; intro K hK) | refine aw_ret ?_ | refine aw_drawE (id := 1) [0, 0, 3, 7, 0, 0, 48, 112, 255, 511, 1023, 1023, 1023, 8191, 16383, 32767] [1, 0, 0, 1, 1, 0, 0, 1, 0, 0, 1, 0, 0, 1, 0, 0] mixed (by kernel_rfl) ?_)
    | refine thn_n ?_
    | (refine hK _ _ _ ?_; clear hK K))); all_goals (repeat (clear hK K)))
  all_goals refine fin_r (fin_b rfl ?_)
  all_goals simp_all
set_option maxHeartbeats 4000000 in
theorem codesOk_ro (cs : List Int) (hn : cs.length ≤ 1048576) (k : Nat) : RO Try.prog 43 [.dsl 1 (nbL ls), .dsl 1 (cs.map inL)] k (.v (.bool (coB ls cs))) [] k := by
  have hl := nbL_len ls
  have hml : (cs.map inL).length = cs.length := List.length_map _
  have hA := allWithin_ro cs (cs.map inL) 0 999 rfl hn
  have e : coB ls cs = ((((cs.map inL).length : Int) == ((nbL ls).length : Int)) && !cs.any fun x => !inB x 0 999) := by rw [coB, hl, hml]
  rw [e]
  clear e
  generalize (cs.any fun x => !inB x 0 999) = u2 at *
  refine RO.ofv' Try.func43 Try.ntmps43 rfl (goFn_of Try.func43 rfl (by kernel_rfl)) rfl rfl ?_
  ((repeat' (first
    | (show SQ _ _ _ _ _ _ _ _; first | apply sq_nil | (apply q_move; exact rfl; exact rfl) | (apply q_assign; exact rfl; exact rfl) | (apply q_pick_t; exact rfl; exact rfl; exact rfl; exact (by first | assumption | exact rfl)) | (apply q_pick_f; exact rfl; exact rfl; exact rfl; exact (by first | assumption | exact rfl)) | (apply q_lend; exact rfl; exact rfl; exact (ty rfl); exact rfl) | (apply q_eql; exact rfl; exact rfl; exact rfl) | (apply q_g; exact rfl; exact rfl; exact rfl; exact (by assumption)) | (apply q_s; exact rfl; exact rfl; exact rfl; exact (by assumption); exact rfl))
    | (show SQ _ _ _ _ _ _ _ _; (first | (apply q_callU; exact rfl; exact rfl; exact rfl; exact FzL.of rfl; exact hA _)); (try simp only [put, rowsOf, plR, List.all_cons, selE, ovr, setH, del, cellsA, splice, isV, List.nil_append, List.cons_append, List.map_cons, List.map_nil, List.length_cons, List.length_nil, List.set_cons_zero, List.set_cons_succ, List.take_succ_cons, List.take_zero, List.take_nil, List.drop_succ_cons, List.drop_zero, List.drop_nil, List.append_nil, List.all_cons, List.all_nil, Bool.and_true, Bool.true_and, Bool.and_false, Bool.false_and, Nat.reduceAdd, Nat.zero_add, Nat.add_zero, Nat.reduceEqDiff, if_true, if_false, reduceIte]))
    | (show SQ _ _ _ _ _ _ _ _; apply q_gs; exact rfl; exact rfl; exact rfl; exact rfl; all_goals intro h)
    | (show AW _ _ _ _ _ _ _ _; first | refine aw_region ?_ | (refine aw_seqk ?_; intro K hK) | refine aw_ret ?_)
    | refine thn_n ?_
    | (refine hK _ _ _ ?_; clear hK K))); all_goals (repeat (clear hK K)))
  all_goals refine fin_r (fin_b rfl ?_)
  all_goals simp_all
set_option maxHeartbeats 4000000 in
theorem Clashes_bad_ro (cs : List Int) (h : nbB ls = false) (k : Nat) : RO Try.prog 12 [.dsl 1 (nbL ls), .dsl 1 (cs.map inL)] k (.tup [.v (.slice none 0 0), .v (.int .i64 1)]) [] k := by
  have hV := ValidNeighbours_ro ls hS
  have b1 : (!nbB ls) = true := by rw [h]; rfl
  refine RO.ofp Try.func12 Try.ntmps12 rfl (goFn_of Try.func12 rfl (by kernel_rfl)) rfl rfl rfl ?_
  ((repeat' (first
    | (show SQ _ _ _ _ _ _ _ _; first | apply sq_nil | (apply q_assign; exact rfl; exact rfl) | (apply q_not; exact rfl; exact rfl) | (apply q_ld1p; exact rfl; exact rfl; exact (ty rfl); exact rfl; exact rfl; exact (by first | rfl | assumption | ((try simp only [Nat.zero_add]); refine List.getElem?_set_self ?_; (try simp only [List.length_set]); assumption)); exact rfl))
    | (show SQ _ _ _ _ _ _ _ _; (first | (apply q_box; exact rfl; exact rfl; exact rfl) | (apply q_callU; exact rfl; exact rfl; exact rfl; exact FzL.of rfl; exact hV _)); (try simp only [put, rowsOf, plR, List.all_cons, selE, ovr, setH, del, cellsA, splice, isV, List.nil_append, List.cons_append, List.map_cons, List.map_nil, List.length_cons, List.length_nil, List.set_cons_zero, List.set_cons_succ, List.take_succ_cons, List.take_zero, List.take_nil, List.drop_succ_cons, List.drop_zero, List.drop_nil, List.append_nil, List.all_cons, List.all_nil, Bool.and_true, Bool.true_and, Bool.and_false, Bool.false_and, Nat.reduceAdd, Nat.zero_add, Nat.add_zero, Nat.reduceEqDiff, if_true, if_false, reduceIte]))
    | (show AW _ _ _ _ _ _ _ _; first | refine aw_region ?_ | (refine aw_seqk ?_; intro K hK) | refine aw_block ?_ | (apply aw_cond_t; exact rfl; exact (by assumption)) | refine aw_ret ?_)
    | refine thn_n ?_
    | (refine hK _ _ _ ?_; clear hK K)
    | refine thn_r ?_
    | refine inb_r ?_)); all_goals (repeat (clear hK K)))
  all_goals refine fin_r (fin_p (.r2 _ _ _ _ (.tmp _ _ rfl) (.tmp _ _ rfl)) ?_ rfl rfl rfl)
  all_goals rfl
set_option maxHeartbeats 4000000 in
theorem Clashes_st_ro (cs : List Int) (hn : cs.length ≤ 1048576) (h : nbB ls = true) (h2 : coB ls cs = false) (k : Nat) : RO Try.prog 12 [.dsl 1 (nbL ls), .dsl 1 (cs.map inL)] k (.tup [.v (.slice none 0 0), .v (.int .i64 6)]) [] k := by
  have hV := ValidNeighbours_ro ls hS
  have hC := codesOk_ro ls hS cs hn
  have b1 : (!nbB ls) = false := by rw [h]; rfl
  have b2 : (!coB ls cs) = true := by rw [h2]; rfl
  refine RO.ofp Try.func12 Try.ntmps12 rfl (goFn_of Try.func12 rfl (by kernel_rfl)) rfl rfl rfl ?_
  ((repeat' (first
    | (show SQ _ _ _ _ _ _ _ _; first | apply sq_nil | (apply q_assign; exact rfl; exact rfl) | (apply q_not; exact rfl; exact rfl) | (apply q_ld1p; exact rfl; exact rfl; exact (ty rfl); exact rfl; exact rfl; exact (by first | rfl | assumption | ((try simp only [Nat.zero_add]); refine List.getElem?_set_self ?_; (try simp only [List.length_set]); assumption)); exact rfl))
    | (show SQ _ _ _ _ _ _ _ _; (first | (apply q_box; exact rfl; exact rfl; exact rfl) | (apply q_callU; exact rfl; exact rfl; exact rfl; exact FzL.of rfl; exact hV _) | (apply q_callU; exact rfl; exact rfl; exact rfl; exact FzL.of rfl; exact hC _)); (try simp only [put, rowsOf, plR, List.all_cons, selE, ovr, setH, del, cellsA, splice, isV, List.nil_append, List.cons_append, List.map_cons, List.map_nil, List.length_cons, List.length_nil, List.set_cons_zero, List.set_cons_succ, List.take_succ_cons, List.take_zero, List.take_nil, List.drop_succ_cons, List.drop_zero, List.drop_nil, List.append_nil, List.all_cons, List.all_nil, Bool.and_true, Bool.true_and, Bool.and_false, Bool.false_and, Nat.reduceAdd, Nat.zero_add, Nat.add_zero, Nat.reduceEqDiff, if_true, if_false, reduceIte]))
    | (show AW _ _ _ _ _ _ _ _; first | refine aw_region ?_ | (refine aw_seqk ?_; intro K hK) | refine aw_block ?_ | (apply aw_cond_t; exact rfl; exact (by assumption)) | (apply aw_cond_f; exact rfl; exact (by assumption)) | refine aw_ret ?_)
    | refine thn_n ?_
    | (refine hK _ _ _ ?_; clear hK K)
    | refine thn_r ?_
    | refine inb_r ?_)); all_goals (repeat (clear hK K)))
  all_goals refine fin_r (fin_p (.r2 _ _ _ _ (.tmp _ _ rfl) (.tmp _ _ rfl)) ?_ rfl rfl rfl)
  all_goals rfl
set_option maxHeartbeats 4000000 in
theorem Clashes_ok_rc (cs : List Int) (hn : cs.length ≤ 1048576) (h : nbB ls = true) (h2 : coB ls cs = true) (k : Nat) :
    RC Try.prog 12 [.dsl 1 (nbL ls), .dsl 1 (cs.map inL)] [] k (.tup [.sl k 0 (prOut (ccP ls cs) ls.length ls.length).length, .v (.int .i64 0)]) [(k, some ⟨23, 1, false, (prOut (ccP ls cs) ls.length ls.length).map prR⟩)] (k + 1) := by
  have hV := ValidNeighbours_ro ls hS
  have hC := codesOk_ro ls hS cs hn
  have b1 : (!nbB ls) = false := by rw [h]; rfl
  have b2 : (!coB ls cs) = false := by rw [h2]; rfl
  have hcl : cs.length = ls.length := by
    simp only [coB, Bool.and_eq_true, beq_iff_eq] at h2
    omega
  have hl := nbL_len ls
  have hP := itemPairs_rc ls.length 45 [.dptr [.dsl 1 (cs.map inL)], .dptr [.dsl 1 (nbL ls)]] (ccP ls cs) rfl rfl (fun H => FzL.of rfl) (nbB_in h) fun i j hi hj m => ccClosure_ro ls hS cs hcl i j hi hj m
  generalize prOut (ccP ls cs) ls.length ls.length = ps at *
  refine RC.ofc [] 1 [.dsl 1 (nbL ls), .dsl 1 (cs.map inL)] [] (.tup [.sl 0 0 ps.length, .v (.int .i64 0)]) [(0, some ⟨23, 1, false, ps.map prR⟩)] Try.func12 Try.ntmps12 rfl (goFn_of Try.func12 rfl (by kernel_rfl)) rfl rfl ?_ rfl rfl ?_ rfl ?_ (by simp_all) rfl ?_
  · rfl
  · have := rows_no (nmC [] k) (prR_no ps)
    simp only [renE, renB, List.map_cons, List.map_nil, Option.map_some, this]; rfl
  · have := rows_ok (0 + 1) (prR_no ps)
    simp [okC, idsOk, idsOkL, idsOkB, this]
  rw [← hl] at hP
  ((repeat' (first
    | (show SQ _ _ _ _ _ _ _ _; apply sq_frzp (t := 2); exact rfl; exact rfl; exact (by first | rfl | exact all_noOwn_map (fun _ => rfl) | assumption | exact hclo); exact (by first | rfl | assumption); exact rfl; (try simp only [put, rowsOf, plR, List.all_cons, selE, ovr, setH, del, cellsA, splice, isV, List.nil_append, List.cons_append, List.map_cons, List.map_nil, List.length_cons, List.length_nil, List.set_cons_zero, List.set_cons_succ, List.take_succ_cons, List.take_zero, List.take_nil, List.drop_succ_cons, List.drop_zero, List.drop_nil, List.append_nil, List.all_cons, List.all_nil, Bool.and_true, Bool.true_and, Bool.and_false, Bool.false_and, Nat.reduceAdd, Nat.zero_add, Nat.add_zero, Nat.reduceEqDiff, if_true, if_false, reduceIte]))
    | (show SQ _ _ _ _ _ _ _ _; apply sq_frzp (t := 3); exact rfl; exact rfl; exact (by first | rfl | exact all_noOwn_map (fun _ => rfl) | assumption | exact hclo); exact (by first | rfl | assumption); exact rfl; (try simp only [put, rowsOf, plR, List.all_cons, selE, ovr, setH, del, cellsA, splice, isV, List.nil_append, List.cons_append, List.map_cons, List.map_nil, List.length_cons, List.length_nil, List.set_cons_zero, List.set_cons_succ, List.take_succ_cons, List.take_zero, List.take_nil, List.drop_succ_cons, List.drop_zero, List.drop_nil, List.append_nil, List.all_cons, List.all_nil, Bool.and_true, Bool.true_and, Bool.and_false, Bool.false_and, Nat.reduceAdd, Nat.zero_add, Nat.add_zero, Nat.reduceEqDiff, if_true, if_false, reduceIte]))
    | (show SQ _ _ _ _ _ _ _ _; first | apply sq_nil | (apply q_assign; exact rfl; exact rfl) | (apply q_not; exact rfl; exact rfl) | (apply q_lend; exact rfl; exact rfl; exact (ty rfl); exact rfl) | (apply q_ld1d; exact rfl; exact rfl; exact (ty rfl); exact rfl; exact rfl) | (apply q_mkf; exact rfl; exact rfl))
    | (show SQ _ _ _ _ _ _ _ _; (first | (apply q_box; exact rfl; exact rfl; exact rfl) | (apply q_callU; exact rfl; exact rfl; exact rfl; exact FzL.of rfl; exact hV _) | (apply q_callU; exact rfl; exact rfl; exact rfl; exact FzL.of rfl; exact hC _) | (apply q_callC; exact rfl; exact rfl; exact rfl; exact hP _; (focus ((repeat (first | exact trivial | refine ⟨by first | exact rfl | assumption, ?_⟩)); done)); skip)); (try simp only [put, rowsOf, plR, List.all_cons, selE, ovr, setH, del, cellsA, splice, isV, List.nil_append, List.cons_append, List.map_cons, List.map_nil, List.length_cons, List.length_nil, List.set_cons_zero, List.set_cons_succ, List.take_succ_cons, List.take_zero, List.take_nil, List.drop_succ_cons, List.drop_zero, List.drop_nil, List.append_nil, List.all_cons, List.all_nil, Bool.and_true, Bool.true_and, Bool.and_false, Bool.false_and, Nat.reduceAdd, Nat.zero_add, Nat.add_zero, Nat.reduceEqDiff, if_true, if_false, reduceIte]))
    | (show AW _ _ _ _ _ _ _ _; first | refine aw_region ?_ | (refine aw_seqk ?_; intro K hK) | refine aw_block ?_ | (apply aw_cond_f; exact rfl; exact (by assumption)) | refine aw_ret ?_ | refine aw_skip ?_)
    | refine thn_n ?_
    | (refine hK _ _ _ ?_; clear hK K)
    | refine inb_n ?_)); all_goals (repeat (clear hK K)))
  all_goals exact finc (mv 0 2) (.r2 _ _ _ _ (.tmp _ _ rfl) (.tmp _ _ rfl)) rfl (fun _ h => absurd h (Nat.not_lt_zero _)) ⟨(by simp only [renB, rows_no _ (prR_no _)]; rfl), trivial⟩ rfl
def vcB (ls : List (List Int)) (cs : List Int) (many : Int) : Bool := nbB ls && coB ls cs && decide (prOut (ccP ls cs) ls.length ls.length = []) && !cs.any fun x => decide (many ≤ x)
set_option maxHeartbeats 4000000 in
theorem ValidCodes_ro (cs : List Int) (many : Int) (hn : cs.length ≤ 1048576) (k : Nat) : RO Try.prog 20 [.dsl 1 (nbL ls), .dsl 1 (cs.map inL), .v (.int .i64 many)] k (.v (.bool (vcB ls cs many))) [] k := by
  have hF := ContainsFuncInt_ro cs (cs.map inL) 51 [.dptr [.v (.int .i64 many)]] (fun x => decide (many ≤ x)) rfl (fun H => FzL.of rfl) rfl (fun x _ m => vcClosure_ro x many m) hn
  have z1 : ((1 : Int) == 0) = false := rfl
  have z6 : ((6 : Int) == 0) = false := rfl
  have z0 : ((0 : Int) == 0) = true := rfl
  cases h : nbB ls with
  | false =>
    have hB := Clashes_bad_ro ls hS cs h
    have e : vcB ls cs many = false := by unfold vcB; rw [h]; rfl
    rw [e]
    refine RO.ofv' Try.func20 Try.ntmps20 rfl (goFn_of Try.func20 rfl (by kernel_rfl)) rfl rfl ?_
    ((repeat' (first
    | (show SQ _ _ _ _ _ _ _ _; first | apply sq_nil | (apply q_move; exact rfl; exact rfl) | (apply q_assign; exact rfl; exact rfl) | (apply q_pick_f; exact rfl; exact rfl; exact rfl; exact (by first | assumption | exact rfl)) | (apply q_ext; exact rfl; exact rfl; exact rfl) | (apply q_eql; exact rfl; exact rfl; exact rfl) | (apply q_s; exact rfl; exact rfl; exact rfl; exact (by assumption); exact rfl))
    | (show SQ _ _ _ _ _ _ _ _; (first | (apply q_box; exact rfl; exact rfl; exact rfl) | (apply q_callU; exact rfl; exact rfl; exact rfl; exact FzL.of rfl; exact hB _)); (try simp only [put, rowsOf, plR, List.all_cons, selE, ovr, setH, del, cellsA, splice, isV, List.nil_append, List.cons_append, List.map_cons, List.map_nil, List.length_cons, List.length_nil, List.set_cons_zero, List.set_cons_succ, List.take_succ_cons, List.take_zero, List.take_nil, List.drop_succ_cons, List.drop_zero, List.drop_nil, List.append_nil, List.all_cons, List.all_nil, Bool.and_true, Bool.true_and, Bool.and_false, Bool.false_and, Nat.reduceAdd, Nat.zero_add, Nat.add_zero, Nat.reduceEqDiff, if_true, if_false, reduceIte]))
    | (show AW _ _ _ _ _ _ _ _; first | refine aw_region ?_ | (refine aw_seqk ?_; intro K hK) | refine aw_ret ?_)
    | refine thn_n ?_
    | (refine hK _ _ _ ?_; clear hK K))); all_goals (repeat (clear hK K)))
    all_goals exact fin_r (fin_b rfl rfl)
  | true =>
    cases h2 : coB ls cs with
    | false =>
      have hB := Clashes_st_ro ls hS cs hn h h2
      have e : vcB ls cs many = false := by unfold vcB; rw [h, h2]; rfl
      rw [e]
      refine RO.ofv' Try.func20 Try.ntmps20 rfl (goFn_of Try.func20 rfl (by kernel_rfl)) rfl rfl ?_
      ((repeat' (first
    | (show SQ _ _ _ _ _ _ _ _; first | apply sq_nil | (apply q_move; exact rfl; exact rfl) | (apply q_assign; exact rfl; exact rfl) | (apply q_pick_f; exact rfl; exact rfl; exact rfl; exact (by first | assumption | exact rfl)) | (apply q_ext; exact rfl; exact rfl; exact rfl) | (apply q_eql; exact rfl; exact rfl; exact rfl) | (apply q_s; exact rfl; exact rfl; exact rfl; exact (by assumption); exact rfl))
    | (show SQ _ _ _ _ _ _ _ _; (first | (apply q_box; exact rfl; exact rfl; exact rfl) | (apply q_callU; exact rfl; exact rfl; exact rfl; exact FzL.of rfl; exact hB _)); (try simp only [put, rowsOf, plR, List.all_cons, selE, ovr, setH, del, cellsA, splice, isV, List.nil_append, List.cons_append, List.map_cons, List.map_nil, List.length_cons, List.length_nil, List.set_cons_zero, List.set_cons_succ, List.take_succ_cons, List.take_zero, List.take_nil, List.drop_succ_cons, List.drop_zero, List.drop_nil, List.append_nil, List.all_cons, List.all_nil, Bool.and_true, Bool.true_and, Bool.and_false, Bool.false_and, Nat.reduceAdd, Nat.zero_add, Nat.add_zero, Nat.reduceEqDiff, if_true, if_false, reduceIte]))
    | (show AW _ _ _ _ _ _ _ _; first | refine aw_region ?_ | (refine aw_seqk ?_; intro K hK) | refine aw_ret ?_)
    | refine thn_n ?_
    | (refine hK _ _ _ ?_; clear hK K))); all_goals (repeat (clear hK K)))
      all_goals exact fin_r (fin_b rfl rfl)
    | true =>
      have hB := Clashes_ok_rc ls hS cs hn h h2
      have e : vcB ls cs many = (decide (prOut (ccP ls cs) ls.length ls.length = []) && !cs.any fun x => decide (many ≤ x)) := by unfold vcB; rw [h, h2]; rfl
      have e2 : decide (prOut (ccP ls cs) ls.length ls.length = []) = (((prOut (ccP ls cs) ls.length ls.length).length : Int) == 0) := by
        rw [Bool.eq_iff_iff]
        simp
      rw [e, e2]
      clear e e2
      generalize prOut (ccP ls cs) ls.length ls.length = ps at *
      generalize hu : ((ps.length : Int) == 0) = u at *
      generalize (cs.any fun x => decide (many ≤ x)) = u2 at *
      cases u with
      | true =>
        refine RO.ofv' Try.func20 Try.ntmps20 rfl (goFn_of Try.func20 rfl (by kernel_rfl)) rfl rfl ?_
        ((repeat' (first
    | (show SQ _ _ _ _ _ _ _ _; first | apply sq_nil | (apply q_move; exact rfl; exact rfl) | (apply q_assign; exact rfl; exact rfl) | (apply q_pick_t; exact rfl; exact rfl; exact rfl; exact (by first | assumption | exact rfl)) | (apply q_not; exact rfl; exact rfl) | (apply q_ext; exact rfl; exact rfl; exact rfl) | (apply q_lenl; exact rfl; exact rfl; exact (ty rfl); exact rfl) | (apply q_eql; exact rfl; exact rfl; exact rfl) | (apply q_mkf; exact rfl; exact rfl) | (apply q_g; exact rfl; exact rfl; exact rfl; exact (by assumption)))
    | (show SQ _ _ _ _ _ _ _ _; (first | (apply q_box; exact rfl; exact rfl; exact rfl) | (apply q_callU; exact rfl; exact rfl; exact rfl; exact FzL.of rfl; exact hF _) | (apply q_callC; exact rfl; exact rfl; exact rfl; exact hB _; (focus ((repeat (first | exact trivial | refine ⟨by first | exact rfl | assumption, ?_⟩)); done)); skip)); (try simp only [put, rowsOf, plR, List.all_cons, selE, ovr, setH, del, cellsA, splice, isV, List.nil_append, List.cons_append, List.map_cons, List.map_nil, List.length_cons, List.length_nil, List.set_cons_zero, List.set_cons_succ, List.take_succ_cons, List.take_zero, List.take_nil, List.drop_succ_cons, List.drop_zero, List.drop_nil, List.append_nil, List.all_cons, List.all_nil, Bool.and_true, Bool.true_and, Bool.and_false, Bool.false_and, Nat.reduceAdd, Nat.zero_add, Nat.add_zero, Nat.reduceEqDiff, if_true, if_false, reduceIte]))
    | (show AW _ _ _ _ _ _ _ _; first | refine aw_region ?_ | (refine aw_seqk ?_; intro K hK) | refine aw_ret ?_)
    | refine thn_n ?_
    | (refine hK _ _ _ ?_; clear hK K))); all_goals (repeat (clear hK K)))
        all_goals refine fin_r (fin_b rfl ?_)
        all_goals simp_all
      | false =>
        refine RO.ofv' Try.func20 Try.ntmps20 rfl (goFn_of Try.func20 rfl (by kernel_rfl)) rfl rfl ?_
        ((repeat' (first
    | (show SQ _ _ _ _ _ _ _ _; first | apply sq_nil | (apply q_move; exact rfl; exact rfl) | (apply q_assign; exact rfl; exact rfl) | (apply q_pick_t; exact rfl; exact rfl; exact rfl; exact (by first | assumption | exact rfl)) | (apply q_pick_f; exact rfl; exact rfl; exact rfl; exact (by first | assumption | exact rfl)) | (apply q_ext; exact rfl; exact rfl; exact rfl) | (apply q_lenl; exact rfl; exact rfl; exact (ty rfl); exact rfl) | (apply q_eql; exact rfl; exact rfl; exact rfl) | (apply q_g; exact rfl; exact rfl; exact rfl; exact (by assumption)) | (apply q_s; exact rfl; exact rfl; exact rfl; exact (by assumption); exact rfl))
    | (show SQ _ _ _ _ _ _ _ _; (first | (apply q_box; exact rfl; exact rfl; exact rfl) | (apply q_callC; exact rfl; exact rfl; exact rfl; exact hB _; (focus ((repeat (first | exact trivial | refine ⟨by first | exact rfl | assumption, ?_⟩)); done)); skip)); (try simp only [put, rowsOf, plR, List.all_cons, selE, ovr, setH, del, cellsA, splice, isV, List.nil_append, List.cons_append, List.map_cons, List.map_nil, List.length_cons, List.length_nil, List.set_cons_zero, List.set_cons_succ, List.take_succ_cons, List.take_zero, List.take_nil, List.drop_succ_cons, List.drop_zero, List.drop_nil, List.append_nil, List.all_cons, List.all_nil, Bool.and_true, Bool.true_and, Bool.and_false, Bool.false_and, Nat.reduceAdd, Nat.zero_add, Nat.add_zero, Nat.reduceEqDiff, if_true, if_false, reduceIte]))
    | (show AW _ _ _ _ _ _ _ _; first | refine aw_region ?_ | (refine aw_seqk ?_; intro K hK) | refine aw_ret ?_)
    | refine thn_n ?_
    | (refine hK _ _ _ ?_; clear hK K))); all_goals (repeat (clear hK K)))
        all_goals refine fin_r (fin_b rfl ?_)
        all_goals simp_all
end
end Go.Proofs.Yteknfaldpajlpaa.Nb

namespace Go.Proofs.Yteknfaldpajlpaa.Nb
open Go Go.Proofs.Yteknfaldpajlpaa.In Go.Proofs.Yteknfaldpajlpaa.Il
set_option linter.unusedSimpArgs false
set_option linter.unusedVariables false
set_option linter.unusedSectionVars false
theorem fresh : ∀ (n : Nat) (cs : List Int), cs.length < n → ∃ c : Nat, c < n ∧ (c : Int) ∉ cs
  | 0, cs, h => absurd h (Nat.not_lt_zero _)
  | n + 1, cs, h => by
    by_cases hm : (n : Int) ∈ cs
    · obtain ⟨c, h1, h2⟩ := fresh n (cs.erase n) (by rw [List.length_erase_of_mem hm]; have := List.length_pos_of_mem hm; omega)
      exact ⟨c, by omega, fun hc => h2 ((List.mem_erase_of_ne (by omega)).2 hc)⟩
    · exact ⟨n, by omega, hm⟩
theorem earB_fresh {ls : List (List Int)} {cs : List Int} {c : Int} (h : c ∉ cs) : earB ls cs c = false :=
  anyR_false fun i hi => by
    have : cs.getD i 0 ≠ c := fun e => h (by rw [← e]; simp [List.getD, hi])
    have hb : (cs.getD i 0 == c) = false := beq_eq_false_iff_ne.2 this
    rw [hb]; rfl
def frC (ls : List (List Int)) (cs : List Int) : Nat := ((List.range 1000).find? fun (c : Nat) => !earB ls cs (c : Int)).getD 0
theorem frC_spec {ls : List (List Int)} {cs : List Int} {u : Nat} (hu : u < 1000) (hf : earB ls cs (u : Int) = false) : frC ls cs ≤ u ∧ earB ls cs (frC ls cs : Int) = false ∧ ∀ j : Nat, j < frC ls cs → earB ls cs (j : Int) = true := by
  unfold frC
  cases h : (List.range 1000).find? fun (c : Nat) => !earB ls cs (c : Int) with
  | none =>
    have := List.find?_eq_none.1 h u (List.mem_range.2 hu)
    rw [hf] at this; simp at this
  | some c =>
    rw [List.find?_range_eq_some] at h
    obtain ⟨h1, h2, h3⟩ := h
    simp only [Option.getD_some]
    refine ⟨?_, by simpa using h1, fun j hj => by simpa using h3 j hj⟩
    apply Nat.le_of_not_lt
    intro hlt
    have := h3 u hlt
    rw [hf] at this; simp at this
def asgC (ls : List (List Int)) : Nat → List Int
  | 0 => []
  | i + 1 => asgC ls i ++ [(frC ls (asgC ls i) : Int)]
theorem asgC_len (ls : List (List Int)) : ∀ i, (asgC ls i).length = i
  | 0 => rfl
  | i + 1 => by simp [asgC, asgC_len ls i]
theorem frC_asg (ls : List (List Int)) {i : Nat} (hi : i < 999) : frC ls (asgC ls i) ≤ i ∧ earB ls (asgC ls i) (frC ls (asgC ls i) : Int) = false ∧ ∀ j : Nat, j < frC ls (asgC ls i) → earB ls (asgC ls i) (j : Int) = true := by
  obtain ⟨c, h1, h2⟩ := fresh (i + 1) (asgC ls i) (by rw [asgC_len]; omega)
  have := frC_spec (u := c) (by omega) (earB_fresh (ls := ls) h2)
  exact ⟨by omega, this.2⟩
def OkFrom (ls : List (List Int)) (a : Nat) (cs : List Int) : Prop := ∀ i, a ≤ i → i < cs.length → earB ls (cs.take i) (cs.getD i 0) = false
theorem earB_iff {ls : List (List Int)} {cs : List Int} {c : Int} : earB ls cs c = false ↔ ∀ i, i < cs.length → (cs.getD i 0 == c && clB ls i cs.length) = false := by
  constructor
  · intro h i hi
    cases hc : (cs.getD i 0 == c && clB ls i cs.length) with
    | false => rfl
    | true => have := anyR_true (f := fun i => cs.getD i 0 == c && clB ls i cs.length) hi hc; rw [earB] at h; rw [h] at this; cases this
  · exact fun h => anyR_false h
theorem OkFrom.pairs {ls : List (List Int)} {cs : List Int} (hn : cs.length = ls.length) (h : OkFrom ls 0 cs) : prOut (ccP ls cs) ls.length ls.length = [] := by
  rw [prOut_nil]
  intro a ha b hab hb
  have hl : (cs.take b).length = b := by rw [List.length_take]; omega
  have := earB_iff.1 (h b (Nat.zero_le _) (by omega)) a (by omega)
  rw [hl] at this
  have e : (cs.take b).getD a 0 = cs.getD a 0 := by simp [List.getD, List.getElem?_take, hab]
  rw [e] at this
  exact this
theorem OkFrom.app {ls : List (List Int)} {a : Nat} {cs : List Int} {c : Int} (h : OkFrom ls a cs) (hc : earB ls cs c = false) : OkFrom ls a (cs ++ [c]) := by
  intro i hi hl
  simp only [List.length_append, List.length_singleton] at hl
  by_cases e : i < cs.length
  · have := h i hi e
    rw [List.take_append_of_le_length (by omega)]
    simpa [List.getD, List.getElem?_append_left e] using this
  · obtain rfl : i = cs.length := by omega
    simpa [List.getD] using hc
theorem asgC_ok (ls : List (List Int)) : ∀ i, i ≤ 24 → OkFrom ls 0 (asgC ls i) ∧ ∀ x ∈ asgC ls i, 0 ≤ x ∧ x < 24
  | 0, _ => ⟨fun i _ h => absurd h (Nat.not_lt_zero _), by simp [asgC]⟩
  | i + 1, h => by
    obtain ⟨h1, h2⟩ := asgC_ok ls i (by omega)
    obtain ⟨h3, h4, _⟩ := frC_asg ls (i := i) (by omega)
    refine ⟨h1.app h4, fun x hx => ?_⟩
    rcases List.mem_append.1 hx with hx | hx
    · exact h2 x hx
    · simp at hx; omega
theorem vcB_true {ls : List (List Int)} {cs : List Int} {many : Int} (hb : nbB ls = true) (hl : cs.length = ls.length) (hr : ∀ x ∈ cs, 0 ≤ x ∧ x < 24 ∧ x < many) (h : OkFrom ls 0 cs) : vcB ls cs many = true := by
  have h1 : coB ls cs = true := by
    simp only [coB, Bool.and_eq_true, beq_iff_eq, Bool.not_eq_true', List.any_eq_false]
    refine ⟨by omega, fun x hx => ?_⟩
    have := hr x hx
    simp [inB]; omega
  have h2 := h.pairs hl
  have h3 : (cs.any fun x => decide (many ≤ x)) = false := by
    rw [List.any_eq_false]
    intro x hx
    have := hr x hx
    simp; omega
  unfold vcB
  rw [hb, h1, h2, h3]; rfl
def extG (nxt : Int → Int × List Int → Bool × (Int × List Int)) (ls : List (List Int)) (len : Nat) (used : Int) : Nat → Nat → Int × List Int → Bool × (Int × List Int)
  | 0, _, st => (false, st)
  | k + 1, c, st => if earB ls (st.2.take len) (c : Int) then extG nxt ls len used k (c + 1) st
    else if st.1 - 1 < 0 then (false, (st.1 - 1, st.2))
    else if (nxt (max used ((c : Int) + 1)) (st.1 - 1, st.2.take len ++ [(c : Int)])).1 then (true, (nxt (max used ((c : Int) + 1)) (st.1 - 1, st.2.take len ++ [(c : Int)])).2)
    else if (nxt (max used ((c : Int) + 1)) (st.1 - 1, st.2.take len ++ [(c : Int)])).2.1 < 0 then (false, (nxt (max used ((c : Int) + 1)) (st.1 - 1, st.2.take len ++ [(c : Int)])).2)
    else extG nxt ls len used k (c + 1) (nxt (max used ((c : Int) + 1)) (st.1 - 1, st.2.take len ++ [(c : Int)])).2
def extN (m used : Int) : Nat := (min m (used + 1)).toNat
def ext (ls : List (List Int)) (m : Int) : Nat → Int → Int × List Int → Bool × (Int × List Int)
  | 0, _, st => (true, st)
  | r + 1, used, st => extG (ext ls m r) ls (ls.length - (r + 1)) used (extN m used) 0 st
structure ExI (ls : List (List Int)) (m : Int) (len : Nat) (st : Int × List Int) (q : Bool × (Int × List Int)) : Prop where
  keep : q.2.2.take len = st.2.take len
  le : len ≤ q.2.2.length
  bud : q.2.1 ≤ st.1
  lo : -1 ≤ q.2.1
  ok : q.1 = true → q.2.2.length = ls.length ∧ 0 ≤ q.2.1 ∧ OkFrom ls len q.2.2 ∧ ∀ i, len ≤ i → i < ls.length → 0 ≤ q.2.2.getD i 0 ∧ q.2.2.getD i 0 < m
theorem ExI.refl (ls : List (List Int)) (m : Int) {len : Nat} {st : Int × List Int} (h : len ≤ st.2.length) (h0 : -1 ≤ st.1) : ExI ls m len st (false, st) := ⟨rfl, h, Int.le_refl _, h0, fun h => by cases h⟩
theorem extG_keep {nxt : Int → Int × List Int → Bool × (Int × List Int)} {ls : List (List Int)} {m used : Int} {len : Nat} (hl : len < ls.length)
    (hn : ∀ used' st', 0 ≤ st'.1 → len + 1 = st'.2.length → ExI ls m (len + 1) st' (nxt used' st')) : ∀ (k c : Nat) (st : Int × List Int), 0 ≤ st.1 → len ≤ st.2.length → ((c + k : Nat) : Int) ≤ max m 0 → ExI ls m len st (extG nxt ls len used k c st)
  | 0, c, st, h0, h1, _ => .refl ls m h1 (by show -1 ≤ st.1; omega)
  | k + 1, c, st, h0, h1, hm => by
    have htl : (st.2.take len).length = len := by rw [List.length_take]; omega
    unfold extG
    split
    · exact extG_keep hl hn k (c + 1) st h0 h1 (by omega)
    · rename_i he
      split
      · exact ⟨rfl, h1, by show st.1 - 1 ≤ st.1; omega, by show -1 ≤ st.1 - 1; omega, fun h => by cases h⟩
      · rename_i hb
        have hq := hn (max used ((c : Int) + 1)) (st.1 - 1, st.2.take len ++ [(c : Int)]) (by show 0 ≤ st.1 - 1; omega) (by simp [htl])
        generalize nxt (max used ((c : Int) + 1)) (st.1 - 1, st.2.take len ++ [(c : Int)]) = q at hq ⊢
        obtain ⟨g1, g2, g3, g3b, g4⟩ := hq
        dsimp only at g1 g3
        have hc1 : (st.2.take len ++ [(c : Int)]).length = len + 1 := by simp [htl]
        rw [List.take_of_length_le (by omega : (st.2.take len ++ [(c : Int)]).length ≤ len + 1)] at g1
        have hk : q.2.2.take len = st.2.take len := by
          have := congrArg (List.take len) g1
          rw [List.take_take, Nat.min_eq_left (by omega), List.take_append_of_le_length (by omega), List.take_take, Nat.min_self] at this
          exact this
        split
        · rename_i hok
          obtain ⟨w1, w1b, w2, w3⟩ := g4 hok
          have hat : q.2.2.getD len 0 = (c : Int) := by
            have := congrArg (fun l => List.getD l len 0) g1
            simp only [List.getD] at this ⊢
            rw [List.getElem?_take_of_lt (Nat.lt_succ_self len), List.getElem?_append_right (by omega), htl] at this
            simpa using this
          refine ⟨hk, by dsimp only; omega, by dsimp only; omega, by dsimp only; omega, fun _ => ⟨w1, w1b, fun i hi hil => ?_, fun i hi hil => ?_⟩⟩
          · by_cases e : i = len
            · subst e
              dsimp only at hil ⊢
              rw [hk, hat]; simpa using he
            · exact w2 i (by omega) hil
          · by_cases e : i = len
            · subst e
              dsimp only
              rw [hat]; omega
            · exact w3 i (by omega) hil
        · split
          · exact ⟨hk, by dsimp only; omega, by dsimp only; omega, g3b, fun h => by cases h⟩
          · rename_i hok hbq
            have ih := extG_keep hl hn (used := used) k (c + 1) q.2 (by omega) (by omega) (by omega)
            exact ⟨ih.keep.trans hk, ih.le, by have := ih.bud; omega, ih.lo, ih.ok⟩
theorem ext_keep {ls : List (List Int)} {m : Int} : ∀ (r : Nat) (used : Int) (st : Int × List Int), r ≤ ls.length → 0 ≤ st.1 → ls.length - r ≤ st.2.length → (r = 0 → st.2.length = ls.length) → ExI ls m (ls.length - r) st (ext ls m r used st)
  | 0, used, st, hr, h0, h1, h2 => ⟨rfl, h1, Int.le_refl _, by show -1 ≤ st.1; omega, fun _ => ⟨h2 rfl, h0, fun i hi hil => by have := h2 rfl; simp only [ext] at hil; omega, fun i hi hil => by omega⟩⟩
  | r + 1, used, st, hr, h0, h1, _ => by
    have hN : ((0 + extN m used : Nat) : Int) ≤ max m 0 := by unfold extN; omega
    exact extG_keep (by omega) (fun used' st' g0 g1 => by
      have := ext_keep (ls := ls) (m := m) r used' st' (by omega) g0 (by omega) (by omega)
      rwa [show ls.length - r = ls.length - (r + 1) + 1 by omega] at this) _ _ st h0 h1 hN
inductive Sol (ls : List (List Int)) (m : Int) : List Int → Int → List Int → Prop
  | nil {p : List Int} {u : Int} : Sol ls m p u []
  | cons {p w : List Int} {u : Int} {c : Nat} (hm : (c : Int) < m) (hu : (c : Int) ≤ u) (he : earB ls p (c : Int) = false) (h : Sol ls m (p ++ [(c : Int)]) (max u ((c : Int) + 1)) w) : Sol ls m p u ((c : Int) :: w)
theorem extG_find {nxt : Int → Int × List Int → Bool × (Int × List Int)} {ls : List (List Int)} {m used : Int} {len : Nat} (hl : len < ls.length)
    (hn : ∀ used' st', 0 ≤ st'.1 → len + 1 = st'.2.length → ExI ls m (len + 1) st' (nxt used' st')) {p : List Int} {c : Nat} (he : earB ls p (c : Int) = false)
    (hs : ∀ st', 0 ≤ st'.1 → st'.2 = p ++ [(c : Int)] → (nxt (max used ((c : Int) + 1)) st').1 = true ∨ (nxt (max used ((c : Int) + 1)) st').2.1 < 0) :
    ∀ (k a : Nat) (st : Int × List Int), 0 ≤ st.1 → len ≤ st.2.length → st.2.take len = p → a ≤ c → c < a + k → ((a + k : Nat) : Int) ≤ max m 0 → (extG nxt ls len used k a st).1 = true ∨ (extG nxt ls len used k a st).2.1 < 0
  | 0, a, st, h0, h1, hp, ha, hc, _ => by omega
  | k + 1, a, st, h0, h1, hp, ha, hc, hm => by
    have htl : (st.2.take len).length = len := by rw [List.length_take]; omega
    unfold extG
    split
    · rename_i hea
      have : a ≠ c := fun e => by subst e; rw [hp, he] at hea; cases hea
      exact extG_find hl hn he hs k (a + 1) st h0 h1 hp (by omega) (by omega) (by omega)
    · split
      · rename_i hb; exact .inr hb
      · rename_i hb
        have hq := hn (max used ((a : Int) + 1)) (st.1 - 1, st.2.take len ++ [(a : Int)]) (by show 0 ≤ st.1 - 1; omega) (by simp [htl])
        by_cases e : a = c
        · subst e
          have := hs (st.1 - 1, st.2.take len ++ [(a : Int)]) (by show 0 ≤ st.1 - 1; omega) (by rw [hp])
          generalize nxt (max used ((a : Int) + 1)) (st.1 - 1, st.2.take len ++ [(a : Int)]) = q at hq this ⊢
          split
          · exact .inl rfl
          · split
            · rename_i h; exact .inr h
            · rename_i g1 g2
              rcases this with h | h
              · exact absurd h g1
              · exact absurd h g2
        · generalize nxt (max used ((a : Int) + 1)) (st.1 - 1, st.2.take len ++ [(a : Int)]) = q at hq ⊢
          split
          · exact .inl rfl
          · split
            · rename_i h; exact .inr h
            · have hk : q.2.2.take len = p := by
                have g1 := hq.keep
                dsimp only at g1
                rw [List.take_of_length_le (by simp [htl] : (st.2.take len ++ [(a : Int)]).length ≤ len + 1)] at g1
                have := congrArg (List.take len) g1
                rw [List.take_take, Nat.min_eq_left (by omega), List.take_append_of_le_length (by omega), List.take_take, Nat.min_self] at this
                rw [this, hp]
              have := hq.le
              exact extG_find hl hn he hs k (a + 1) q.2 (by omega) (by omega) hk (by omega) (by omega) (by omega)
theorem ext_find {ls : List (List Int)} {m : Int} : ∀ (r : Nat) (used : Int) (st : Int × List Int) (p w : List Int), r ≤ ls.length → 0 ≤ st.1 → ls.length - r ≤ st.2.length → (r = 0 → st.2.length = ls.length) → st.2.take (ls.length - r) = p → w.length = r → Sol ls m p used w →
    (ext ls m r used st).1 = true ∨ (ext ls m r used st).2.1 < 0
  | 0, used, st, p, w, hr, h0, h1, h2, hp, hw, hS => .inl rfl
  | r + 1, used, st, p, w, hr, h0, h1, h2, hp, hw, hS => by
    cases hS with
    | nil => simp at hw
    | @cons _ w _ c hm hu he hS =>
      have hN : ((0 + extN m used : Nat) : Int) ≤ max m 0 := by unfold extN; omega
      have hpl : p.length = ls.length - (r + 1) := by rw [← hp, List.length_take]; omega
      refine extG_find (m := m) (p := p) (c := c) (by omega) (fun used' st' g0 g1 => ?_) he (fun st' g0 g1 => ?_) _ _ st h0 h1 hp (Nat.zero_le _) (by unfold extN; omega) hN
      · have := ext_keep (ls := ls) (m := m) r used' st' (by omega) g0 (by omega) (by omega)
        rwa [show ls.length - r = ls.length - (r + 1) + 1 by omega] at this
      · have hl : st'.2.length = ls.length - r := by rw [g1, List.length_append, List.length_singleton]; omega
        exact ext_find r _ st' (p ++ [(c : Int)]) w (by omega) g0 (by omega) (by omega) (by rw [List.take_of_length_le (by omega), g1]) (by simpa using hw) hS
end Go.Proofs.Yteknfaldpajlpaa.Nb

namespace Go.Proofs.Yteknfaldpajlpaa.Aw
open Go Go.RowKit
set_option linter.unusedVariables false
set_option linter.unusedSimpArgs false
section
variable {K : Nat → Prop} {w w' : World} {m : Nat → Loc} {B : Nat} {es0 : Array MapEntry} {c0 : Nat}
end
section
variable {P : Program} {Old : Nat → Prop} {wi : WI} {K : Nat → Prop} {m : Nat → Loc} {S : Nat → Prop} {H : Hp} {w : World} {N n : Nat} {T : Tp} {o : Oper} {a : Act}
end
section
variable {P : Program} {N n : Nat} {all : Array Oper} {l : List Oper} {G : Tp → Hp → Nat → Prop} {T T' : Tp} {H : Hp} {ty : TypeId} {pos : String} {after : Array Edge} {d : Nat}
inductive VV : AV → Value → Prop
  | v (x : Value) : VV (.v x) x
  | agg2 (x y : Value) : VV (.agg [.v x, .v y]) (.agg #[x, y])
end
theorem VV.val {K : Nat → Prop} {w : World} {m : Nat → Loc} {S : Nat → Prop} {av : AV} {x : Value} (h : VV av x) : VR K w m S av x := by
  cases h with
  | v => exact .v _ _
  | agg2 a b =>
    refine .agg _ _ [a, b] rfl fun j cv y h1 h2 => ?_
    match j with
    | 0 => simp at h1 h2; subst h1 h2; exact .v _ _
    | 1 => simp at h1 h2; subst h1 h2; exact .v _ _
    | j + 2 => simp at h1
section
variable {P : Program} {N n : Nat} {all : Array Oper} {l : List Oper} {G : Tp → Hp → Nat → Prop} {T : Tp} {H : Hp} {ty : TypeId} {pos : String} {after : Array Edge} {d : Nat} {o : Oper}
end
section
variable {P : Program} {Old : Nat → Prop} {wi : WI} {K : Nat → Prop} {m : Nat → Loc} {S : Nat → Prop} {H : Hp} {w : World} {N n g : Nat} {T : Tp} {Q : Exit → Tp → Hp → Nat → Prop}
theorem Rel.reB {id ty sz : Nat} {pl : Bool} {rows rows' : List (List AV)} (hr : Rel Old wi K m S H w) (hl : look H id = some ⟨ty, sz, pl, rows⟩) (hlen : rows'.length = rows.length)
    (hw : ∀ (r : Nat) (row' : List AV), rows'[r]? = some row' → ∃ row, rows[r]? = some row ∧ row'.length = row.length ∧ ∀ (j : Nat) (cv' : AV), row'[j]? = some cv' → ∃ cv, row[j]? = some cv ∧ ∀ x, VR K w m S cv x → VR K w m S cv' x) : Rel Old wi K m S ((id, ⟨ty, sz, false, rows'⟩) :: H) w := by
  have old : ∀ i bi, look ((id, (⟨ty, sz, false, rows'⟩ : Blk)) :: H) i = some bi → ∃ b0, look H i = some b0 ∧ ((i = id ∧ bi = ⟨ty, sz, false, rows'⟩) ∨ bi = b0) := fun i bi h => by
    rw [look_cons] at h
    split at h
    · rename_i he; subst he; simp only [Option.some.injEq] at h; exact ⟨_, hl, .inl ⟨rfl, h.symm⟩⟩
    · exact ⟨bi, h, .inr rfl⟩
  refine { os := hr.os, tape := hr.tape, output := hr.output, size := hr.size, old := hr.old, olt := hr.olt, oown := fun i bi h => ?_, om := fun i bi h => ?_, kb := hr.kb, inS := fun i bi h => ?_, pin := hr.pin, pinS := hr.pinS, own := fun i bi h => ?_, inj := fun i j bi bj hi hj hne => ?_ }
  · obtain ⟨b0, h0, _⟩ := old i bi h; exact hr.oown i b0 h0
  · obtain ⟨b0, h0, hc⟩ := old i bi h
    rcases hc with ⟨rfl, rfl⟩ | rfl
    · exact fun hp hq => hr.om i ⟨ty, sz, pl, rows⟩ hl hp hq
    · exact hr.om i _ h0
  · obtain ⟨b0, h0, _⟩ := old i bi h; exact hr.inS i b0 h0
  · obtain ⟨b0, h0, hc⟩ := old i bi h
    rcases hc with ⟨rfl, rfl⟩ | rfl
    · rcases hr.own i _ hl with ⟨e1, e2⟩ | ⟨hp, hb⟩
      · refine .inl ⟨e1, ?_⟩
        simp only at e2
        rw [e2] at hlen
        exact List.length_eq_zero_iff.1 hlen
      · obtain ⟨cur, c1, c2, c3⟩ := hb.ex
        refine .inr ⟨hp, hb.nk, hb.sz, by have := hb.cap; simp only at this ⊢; rw [hlen]; exact this, hb.capm, (fun h => by cases h), cur, c1, c2, fun r row' hrow => ?_⟩
        obtain ⟨row, hr0, hlen, hcell⟩ := hw r row' hrow
        obtain ⟨g1, g2⟩ := c3 r row hr0
        refine ⟨hlen.trans g1, fun j cv' hj => ?_⟩
        obtain ⟨cv, hj0, hwk⟩ := hcell j cv' hj
        obtain ⟨x, hx, h1, hv⟩ := g2 j cv hj0
        refine ⟨x, hx, h1, (hwk x (hv.mono (fun _ h => h) (fun _ _ => rfl) (fun i hi => hi.1) (fun _ _ => rfl))).mono (fun _ h => h) (fun _ _ => rfl) (fun i hi => ⟨hi, rfl⟩) (fun _ _ => rfl)⟩
    · exact hr.own i _ h0
  · obtain ⟨b1, h1, _⟩ := old i bi hi
    obtain ⟨b2, h2, _⟩ := old j bj hj
    exact hr.inj i j b1 b2 h1 h2 hne
theorem aw_nilB {c : Code} (id r j ety esz : Nat) {ty sz : Nat} {pl : Bool} {rows rows' : List (List AV)} {row : List AV} (hl : look H id = some ⟨ty, sz, pl, rows⟩) (hne : Nat.beq n id = false) (hrow : rows[r]? = some row) (hj : row[j]? = some (.v (.slice none 0 0))) (he : rows.set r (row.set j (.sl n 0 0)) = rows')
    (h : AW P N g c Q T ((id, ⟨ty, sz, false, rows'⟩) :: (n, ⟨ety, esz, true, []⟩) :: H) (n + 1)) : AW P N g c Q T H n := fun Old wi K m a w hp hr ht => by
  have hn : ¬ (fun i => i < n) n := Nat.lt_irrefl n
  have hph := hr.phantom hn ety esz true
  have hm : ∀ i, i < n → updL m n ⟨0, 0, 0, true⟩ i = m i := fun i hi => updL_ne _ _ (fun e => hn (e ▸ hi))
  have eS : addS (fun i => i < n) n (n + 1) = fun i => i < n + 1 := addS_lt (Nat.le_succ n)
  rw [eS] at hph
  have hl2 : look ((n, (⟨ety, esz, true, []⟩ : Blk)) :: H) id = some ⟨ty, sz, pl, rows⟩ := by
    rw [look_cons, if_neg (fun e => by subst e; rw [Nat.beq_refl] at hne; cases hne)]; exact hl
  subst he
  refine h Old wi K _ a w hp (hph.reB hl2 (by simp) fun q row' hq => ?_) (ht.mono (fun _ h => h) (fun _ _ => rfl) (fun i (hi : i < n) => Nat.lt_succ_of_lt hi) hm)
  rw [List.getElem?_set] at hq
  split at hq
  · rename_i e
    subst e
    split at hq
    · simp only [Option.some.injEq] at hq
      subst hq
      refine ⟨row, hrow, by simp, fun k cv' hk => ?_⟩
      rw [List.getElem?_set] at hk
      split at hk
      · rename_i e
        subst e
        split at hk
        · simp only [Option.some.injEq] at hk
          subst hk
          refine ⟨_, hj, fun x hx => ?_⟩
          cases hx
          exact .sl0 _ _ _ _ (Nat.lt_succ_self n)
        · cases hk
      · exact ⟨cv', hk, fun x hx => hx⟩
    · cases hq
  · exact ⟨row', hq, rfl, fun k cv' hk => ⟨cv', hk, fun x hx => hx⟩⟩
end
end Go.Proofs.Yteknfaldpajlpaa.Aw

namespace Go.Proofs.Yteknfaldpajlpaa.Nb
open Go Go.RowKit Go.Proofs.Yteknfaldpajlpaa.Aw Go.Proofs.Yteknfaldpajlpaa.In Go.Proofs.Yteknfaldpajlpaa.Il
set_option linter.unusedSimpArgs false
set_option linter.unusedVariables false
set_option linter.unusedSectionVars false
attribute [local irreducible] AW SQ Step RO RC DE Thn InB
set_option maxHeartbeats 4000000 in
theorem least_ro (hi : Int) (f : FuncId) (caps : List AV) (p : Nat → Bool) (c : Nat) (hc : (c : Int) ≤ hi) (hh : hi ≤ 1000000) (hp : p c = true) (hb : ∀ j, j < c → p j = false) (hno : noOwnL caps = true) (hcap : idsOkL 0 caps = true) (hz : FzC caps)
    (hf : ∀ j : Nat, j ≤ c → ∀ m, RO Try.prog f (.v (.int .i64 j) :: caps) m (.v (.bool (p j))) [] m) (k : Nat) : RO Try.prog 56 [.v (.int .i64 0), .v (.int .i64 hi), .fn f caps] k (.tup [.v (.int .i64 c), .v (.bool true)]) [] k := by
  refine RO.ofp Try.func56 Try.ntmps56 rfl (goFn_of Try.func56 rfl (by kernel_rfl)) rfl rfl rfl ?_
  ((repeat' (first
    | (show SQ _ _ _ _ _ _ _ _; first | apply sq_nil | (apply q_move; exact rfl; exact rfl) | (apply q_assign; exact rfl; exact rfl))
    | (show AW _ _ _ _ _ _ _ _; first | refine aw_region ?_ | (refine aw_seqk ?_; intro K hK) | refine aw_block ?_)
    | refine thn_n ?_
    | (refine hK _ _ _ ?_; clear hK K))); all_goals (repeat (clear hK K)))
  refine aw_loop (ρ := id) (ι := Nat) (fun j => ([(8, .v (.int .i64 j)), (2, .fn f caps), (1, .v (.int .i64 hi))], [], 0)) (fun j => j ≤ c) (fun j => c - j) 0 (Nat.zero_le _) ⟨by (repeat (refine ⟨by first | exact lk_i rfl rfl | exact lk_f rfl (renL_id _) (by assumption), ?_⟩)); exact trivial, by exact trivial, by rfl, by exact pin_0⟩ ?_
  intro j hj
  have b1 : decide ((j : Int) ≤ hi) = true := by simp; omega
  have hC := hf j hj
  have hw : IntKind.i64.wrap ((j : Int) + 1) = ((j + 1 : Nat) : Int) := by rw [IntWalk.i64_in _ (by omega)]; omega
  by_cases e : j = c
  · subst e
    rw [hp] at hC
    ((repeat' (first
    | (show SQ _ _ _ _ _ _ _ _; first | apply sq_nil | (apply q_move; exact rfl; exact rfl) | (apply q_assign; exact rfl; exact rfl) | (apply q_leq; exact rfl; exact rfl; exact rfl))
    | (show SQ _ _ _ _ _ _ _ _; (first | (apply q_callU; exact rfl; exact rfl; exact rfl; rotate_left; exact hC _; rotate_right; focus ((repeat' (first | exact FzL.nil | exact (by assumption : FzC _) _ | refine FzL.cons ?_ ?_ | exact Fz.of rfl | exact Fz.nil | exact Fz.emp | (apply Fz.fnC; assumption) | (apply Fz.sl2; exact rfl; exact (by first | omega | (simp; done) | (simp; omega)); first | exact rfl | exact dt_full (by first | omega | (simp; done) | (simp; omega)) | assumption) | apply Fz.agg | (apply Fz.ptrL; exact rfl; first | exact rfl | assumption) | apply Fz.fnL)); done))); (try simp only [put, rowsOf, plR, List.all_cons, selE, ovr, setH, del, cellsA, splice, isV, List.nil_append, List.cons_append, List.map_cons, List.map_nil, List.length_cons, List.length_nil, List.set_cons_zero, List.set_cons_succ, List.take_succ_cons, List.take_zero, List.take_nil, List.drop_succ_cons, List.drop_zero, List.drop_nil, List.append_nil, List.all_cons, List.all_nil, Bool.and_true, Bool.true_and, Bool.and_false, Bool.false_and, Nat.reduceAdd, Nat.zero_add, Nat.add_zero, Nat.reduceEqDiff, if_true, if_false, reduceIte]))
    | (show AW _ _ _ _ _ _ _ _; first | refine aw_region ?_ | (refine aw_seqk ?_; intro K hK) | refine aw_block ?_ | (apply aw_cond_t; exact rfl; exact rfl) | (apply aw_cond_t; exact rfl; exact (by assumption)) | refine aw_ret ?_ | refine aw_skip ?_)
    | refine thn_n ?_
    | (refine hK _ _ _ ?_; clear hK K)
    | refine thn_r ?_
    | refine inb_r ?_)); all_goals (repeat (clear hK K)))
    all_goals refine fin_r (fin_p (.r2 _ _ _ _ (.tmp _ _ rfl) (.tmp _ _ rfl)) ?_ rfl rfl rfl)
    all_goals rfl
  · rw [hb j (by omega)] at hC
    ((repeat' (first
    | (show SQ _ _ _ _ _ _ _ _; first | apply sq_nil | (apply q_move; exact rfl; exact rfl) | (apply q_assign; exact rfl; exact rfl) | (apply q_add; exact rfl; exact rfl; exact rfl) | (apply q_leq; exact rfl; exact rfl; exact rfl))
    | (show SQ _ _ _ _ _ _ _ _; (first | (apply q_callU; exact rfl; exact rfl; exact rfl; rotate_left; exact hC _; rotate_right; focus ((repeat' (first | exact FzL.nil | exact (by assumption : FzC _) _ | refine FzL.cons ?_ ?_ | exact Fz.of rfl | exact Fz.nil | exact Fz.emp | (apply Fz.fnC; assumption) | (apply Fz.sl2; exact rfl; exact (by first | omega | (simp; done) | (simp; omega)); first | exact rfl | exact dt_full (by first | omega | (simp; done) | (simp; omega)) | assumption) | apply Fz.agg | (apply Fz.ptrL; exact rfl; first | exact rfl | assumption) | apply Fz.fnL)); done))); (try simp only [put, rowsOf, plR, List.all_cons, selE, ovr, setH, del, cellsA, splice, isV, List.nil_append, List.cons_append, List.map_cons, List.map_nil, List.length_cons, List.length_nil, List.set_cons_zero, List.set_cons_succ, List.take_succ_cons, List.take_zero, List.take_nil, List.drop_succ_cons, List.drop_zero, List.drop_nil, List.append_nil, List.all_cons, List.all_nil, Bool.and_true, Bool.true_and, Bool.and_false, Bool.false_and, Nat.reduceAdd, Nat.zero_add, Nat.add_zero, Nat.reduceEqDiff, if_true, if_false, reduceIte]))
    | (show AW _ _ _ _ _ _ _ _; first | refine aw_region ?_ | (refine aw_seqk ?_; intro K hK) | refine aw_block ?_ | (apply aw_cond_f; exact rfl; exact rfl) | (apply aw_cond_t; exact rfl; exact (by assumption)) | refine aw_skip ?_)
    | refine thn_n ?_
    | (refine hK _ _ _ ?_; clear hK K)
    | refine inb_n ?_)); all_goals (repeat (clear hK K)))
    all_goals (refine ⟨j + 1, id, by omega, by omega, ?_⟩; (try dsimp only); rw [← hw]; exact ⟨by (repeat (refine ⟨by first | exact lk_i rfl rfl | exact lk_f rfl (renL_id _) (by assumption), ?_⟩)); exact trivial, by exact trivial, by rfl, by exact pin_0⟩)
section
variable (ls : List (List Int)) (hS : NbS ls)
include hS
set_option maxHeartbeats 4000000 in
theorem asClosure_ro (cs : List Int) (hc : cs.length < ls.length) (c : Int) (k : Nat) : RO Try.prog 57 [.v (.int .i64 c), .dptr [.dsl 1 (nbL ls)], .dptr [.dsl 1 (cs.map inL)]] k (.v (.bool (!earB ls cs c))) [] k := by
  have hE := clashesEarlier_ro ls hS cs c hc
  refine RO.ofv' Try.func57 Try.ntmps57 rfl (goFn_of Try.func57 rfl (by kernel_rfl)) rfl rfl ?_
  ((repeat' (first
    | (show SQ _ _ _ _ _ _ _ _; first | apply sq_nil | (apply q_move; exact rfl; exact rfl) | (apply q_assign; exact rfl; exact rfl) | (apply q_not; exact rfl; exact rfl) | (apply q_ld1d; exact rfl; exact rfl; exact (ty rfl); exact rfl; exact rfl))
    | (show SQ _ _ _ _ _ _ _ _; (first | (apply q_callU; exact rfl; exact rfl; exact rfl; exact FzL.of rfl; exact hE _)); (try simp only [put, rowsOf, plR, List.all_cons, selE, ovr, setH, del, cellsA, splice, isV, List.nil_append, List.cons_append, List.map_cons, List.map_nil, List.length_cons, List.length_nil, List.set_cons_zero, List.set_cons_succ, List.take_succ_cons, List.take_zero, List.take_nil, List.drop_succ_cons, List.drop_zero, List.drop_nil, List.append_nil, List.all_cons, List.all_nil, Bool.and_true, Bool.true_and, Bool.and_false, Bool.false_and, Nat.reduceAdd, Nat.zero_add, Nat.add_zero, Nat.reduceEqDiff, if_true, if_false, reduceIte]))
    | (show AW _ _ _ _ _ _ _ _; first | refine aw_region ?_ | (refine aw_seqk ?_; intro K hK) | refine aw_ret ?_)
    | refine thn_n ?_
    | (refine hK _ _ _ ?_; clear hK K))); all_goals (repeat (clear hK K)))
  all_goals exact fin_r (fin_b rfl rfl)
set_option maxHeartbeats 4000000 in
theorem Assign_bad_ro (many : Int) (h : nbB ls = false) (k : Nat) : RO Try.prog 23 [.dsl 1 (nbL ls), .v (.int .i64 many)] k (.tup [.v (.slice none 0 0), .v (.int .i64 1)]) [] k := by
  have hV := ValidNeighbours_ro ls hS
  have b1 : (!nbB ls) = true := by rw [h]; rfl
  refine RO.ofp Try.func23 Try.ntmps23 rfl (goFn_of Try.func23 rfl (by kernel_rfl)) rfl rfl rfl ?_
  ((repeat' (first
    | (show SQ _ _ _ _ _ _ _ _; first | apply sq_nil | (apply q_assign; exact rfl; exact rfl) | (apply q_not; exact rfl; exact rfl) | (apply q_ld1p; exact rfl; exact rfl; exact (ty rfl); exact rfl; exact rfl; exact (by first | rfl | assumption | ((try simp only [Nat.zero_add]); refine List.getElem?_set_self ?_; (try simp only [List.length_set]); assumption)); exact rfl))
    | (show SQ _ _ _ _ _ _ _ _; (first | (apply q_box; exact rfl; exact rfl; exact rfl) | (apply q_callU; exact rfl; exact rfl; exact rfl; exact FzL.of rfl; exact hV _)); (try simp only [put, rowsOf, plR, List.all_cons, selE, ovr, setH, del, cellsA, splice, isV, List.nil_append, List.cons_append, List.map_cons, List.map_nil, List.length_cons, List.length_nil, List.set_cons_zero, List.set_cons_succ, List.take_succ_cons, List.take_zero, List.take_nil, List.drop_succ_cons, List.drop_zero, List.drop_nil, List.append_nil, List.all_cons, List.all_nil, Bool.and_true, Bool.true_and, Bool.and_false, Bool.false_and, Nat.reduceAdd, Nat.zero_add, Nat.add_zero, Nat.reduceEqDiff, if_true, if_false, reduceIte]))
    | (show AW _ _ _ _ _ _ _ _; first | refine aw_region ?_ | (refine aw_seqk ?_; intro K hK) | refine aw_block ?_ | (apply aw_cond_t; exact rfl; exact (by assumption)) | refine aw_ret ?_)
    | refine thn_n ?_
    | (refine hK _ _ _ ?_; clear hK K)
    | refine thn_r ?_
    | refine inb_r ?_)); all_goals (repeat (clear hK K)))
  all_goals refine fin_r (fin_p (.r2 _ _ _ _ (.tmp _ _ rfl) (.tmp _ _ rfl)) ?_ rfl rfl rfl)
  all_goals rfl
set_option maxHeartbeats 4000000 in
theorem Assign_ok_rc (h : nbB ls = true) (k : Nat) : RC Try.prog 23 [.dsl 1 (nbL ls), .v (.int .i64 1000)] [] k (.tup [.sl k 0 ls.length, .v (.int .i64 0)]) [(k, some ⟨2, 1, true, (asgC ls ls.length).map inL⟩)] (k + 1) := by
  have hV := ValidNeighbours_ro ls hS
  have b1 : (!nbB ls) = false := by rw [h]; rfl
  have b2 : (!inB 1000 1 1000) = false := rfl
  have hN := nbB_in h
  have hl := nbL_len ls
  have hW := within_ro 1000 1 1000
  refine RC.ofc [] 1 [.dsl 1 (nbL ls), .v (.int .i64 1000)] [] (.tup [.sl 0 0 ls.length, .v (.int .i64 0)]) [(0, some ⟨2, 1, true, (asgC ls ls.length).map inL⟩)] Try.func23 Try.ntmps23 rfl (goFn_of Try.func23 rfl (by kernel_rfl)) rfl rfl rfl rfl rfl rfl rfl rfl (by simp_all) rfl ?_
  ((repeat' (first
    | (show SQ _ _ _ _ _ _ _ _; apply sq_frzp (t := 2); exact rfl; exact rfl; exact (by first | rfl | exact all_noOwn_map (fun _ => rfl) | assumption | exact hclo); exact (by first | rfl | assumption); exact rfl; (try simp only [put, rowsOf, plR, List.all_cons, selE, ovr, setH, del, cellsA, splice, isV, List.nil_append, List.cons_append, List.map_cons, List.map_nil, List.length_cons, List.length_nil, List.set_cons_zero, List.set_cons_succ, List.take_succ_cons, List.take_zero, List.take_nil, List.drop_succ_cons, List.drop_zero, List.drop_nil, List.append_nil, List.all_cons, List.all_nil, Bool.and_true, Bool.true_and, Bool.and_false, Bool.false_and, Nat.reduceAdd, Nat.zero_add, Nat.add_zero, Nat.reduceEqDiff, if_true, if_false, reduceIte]))
    | (show SQ _ _ _ _ _ _ _ _; first | apply sq_nil | (apply q_move; exact rfl; exact rfl) | (apply q_assign; exact rfl; exact rfl) | (apply q_not; exact rfl; exact rfl) | (apply q_lend; exact rfl; exact rfl; exact (ty rfl); exact rfl) | (apply q_ld1d; exact rfl; exact rfl; exact (ty rfl); exact rfl; exact rfl))
    | (show SQ _ _ _ _ _ _ _ _; (first | (apply q_box; exact rfl; exact rfl; exact rfl) | (apply q_alloc; exact rfl; exact (ty rfl); exact rfl; exact rfl) | (apply q_callU; exact rfl; exact rfl; exact rfl; exact FzL.of rfl; exact hV _) | (apply q_callU; exact rfl; exact rfl; exact rfl; exact FzL.of rfl; exact hW _)); (try simp only [put, rowsOf, plR, List.all_cons, selE, ovr, setH, del, cellsA, splice, isV, List.nil_append, List.cons_append, List.map_cons, List.map_nil, List.length_cons, List.length_nil, List.set_cons_zero, List.set_cons_succ, List.take_succ_cons, List.take_zero, List.take_nil, List.drop_succ_cons, List.drop_zero, List.drop_nil, List.append_nil, List.all_cons, List.all_nil, Bool.and_true, Bool.true_and, Bool.and_false, Bool.false_and, Nat.reduceAdd, Nat.zero_add, Nat.add_zero, Nat.reduceEqDiff, if_true, if_false, reduceIte]))
    | (show AW _ _ _ _ _ _ _ _; first | refine aw_region ?_ | (refine aw_seqk ?_; intro K hK) | refine aw_block ?_ | (apply aw_cond_f; exact rfl; exact rfl) | (apply aw_cond_f; exact rfl; exact (by assumption)) | refine aw_skip ?_)
    | refine thn_n ?_
    | (refine hK _ _ _ ?_; clear hK K)
    | refine inb_n ?_)); all_goals (repeat (clear hK K)))
  refine aw_nilB 1 0 0 2 1 rfl rfl rfl rfl rfl ?_
  refine aw_loop (ρ := id) (ι := Nat) (fun i => ([(19, .v (.int .i64 i)), (18, .v (.int .i64 ls.length)), (6, .ptr 1 0 0), (2, .dptr [.dsl 1 (nbL ls)]), (1, .v (.int .i64 1000))], [(1, ⟨23, 1, false, [[.sl 2 0 i]]⟩), (2, ⟨2, 1, true, (asgC ls i).map inL⟩)], 3))
    (fun i => i ≤ ls.length) (fun i => ls.length - i) 0 (Nat.zero_le _) ⟨by (repeat (refine ⟨by first | exact lk_i rfl rfl | exact lk_i rfl (by (try dsimp only); first | rfl | omega | (rw [IntWalk.i64_in _ (by omega)]; first | rfl | omega | (push_cast; omega)) | (simp; done) | (simp; omega)) | exact lk_r rfl rfl rfl | exact lk_p rfl rfl, ?_⟩)); exact trivial, by (repeat (refine ⟨by first | exact ⟨rfl, rfl, rfl⟩, ?_⟩)); exact trivial, by rfl, by exact pin_0⟩ ?_
  intro i hi
  by_cases c1 : i < ls.length
  · have d1 : decide ((i : Int) < (ls.length : Int)) = true := by simpa using c1
    have hal := asgC_len ls i
    have hml : ((asgC ls i).map inL).length = i := by rw [List.length_map, hal]
    obtain ⟨g1, g2, g3⟩ := frC_asg ls (i := i) (by omega)
    have hL := least_ro (IntKind.i64.wrap (1000 - 1)) 57 [.dptr [.dsl 1 (nbL ls)], .dptr [.dsl 1 ((asgC ls i).map inL)]] (fun j => !earB ls (asgC ls i) (j : Int)) (frC ls (asgC ls i)) (by rw [IntWalk.i64_in _ (by omega)]; omega) (by rw [IntWalk.i64_in _ (by omega)]; omega) (by simp [g2]) (fun j hj => by simp [g3 j hj]) rfl rfl (fun H => FzL.of rfl) (fun j hj m => asClosure_ro ls hS (asgC ls i) (by omega) j m)
    have e1 : (asgC ls (i + 1)).map inL = (asgC ls i).map inL ++ [[.v (.int .i64 (frC ls (asgC ls i) : Int))]] := by rw [asgC, List.map_append]; rfl
    have hw : IntKind.i64.wrap ((i : Int) + 1) = ((i + 1 : Nat) : Int) := by rw [IntWalk.i64_in _ (by omega)]; omega
    clear g1 g2 g3
    generalize frC ls (asgC ls i) = c at *
    generalize asgC ls i = cs at *
    subst hal
    have hdt : ((cs.map inL).drop 0).take cs.length = cs.map inL := by rw [List.drop_zero, List.take_of_length_le (by omega)]
    ((repeat' (first
    | (show SQ _ _ _ _ _ _ _ _; first | apply sq_nil | (apply q_move; exact rfl; exact rfl) | (apply q_assign; exact rfl; exact rfl) | (apply q_not; exact rfl; exact rfl) | (apply q_ext; exact rfl; exact rfl; exact rfl) | (apply q_add; exact rfl; exact rfl; exact rfl) | (apply q_sub; exact rfl; exact rfl; exact rfl) | (apply q_lss; exact rfl; exact rfl; exact rfl) | (apply q_ld1p; exact rfl; exact rfl; exact (ty rfl); exact rfl; exact rfl; exact (by first | rfl | assumption | ((try simp only [Nat.zero_add]); refine List.getElem?_set_self ?_; (try simp only [List.length_set]); assumption)); exact rfl) | (apply q_mkf; exact rfl; exact rfl))
    | (show SQ _ _ _ _ _ _ _ _; (first | (apply q_store; exact rfl; exact rfl; exact (ty rfl); exact rfl; exact (by first | rfl | assumption | ((try simp only [Nat.zero_add]); refine List.getElem?_set_self ?_; (try simp only [List.length_set]); assumption)); exact rfl; exact rfl; exact rfl) | (apply q_buildn; exact rfl; exact (ty rfl); exact rfl; exact rfl; exact rfl; exact rfl; exact rfl; exact rfl; exact rfl) | (apply q_apo_s; exact rfl; exact rfl; exact rfl; exact (ty rfl); exact rfl; exact rfl; exact (by first | omega | (simp; done) | (simp; omega)); exact (by first | exact List.take_of_length_le (by first | omega | (simp; done) | (simp; omega)) | rfl); exact (ty rfl); exact rfl; exact rfl; exact (by first | omega | (simp; done) | (simp; omega)); exact (by first | exact dt_full (by first | omega | (simp; done) | (simp; omega)) | assumption | rfl); exact rfl; exact (by first | omega | (simp; done) | (simp; omega)); exact (by first | omega | (simp; done) | (simp; omega)); exact (by first | assumption | exact rfl)) | (apply q_callU; exact rfl; exact rfl; exact rfl; rotate_left; exact hL _; rotate_right; focus ((repeat' (first | exact FzL.nil | exact (by assumption : FzC _) _ | refine FzL.cons ?_ ?_ | exact Fz.of rfl | exact Fz.nil | exact Fz.emp | (apply Fz.fnC; assumption) | (apply Fz.sl2; exact rfl; exact (by first | omega | (simp; done) | (simp; omega)); first | exact rfl | exact dt_full (by first | omega | (simp; done) | (simp; omega)) | assumption) | apply Fz.agg | (apply Fz.ptrL; exact rfl; first | exact rfl | assumption) | apply Fz.fnL)); done))); (try simp only [put, rowsOf, plR, List.all_cons, selE, ovr, setH, del, cellsA, splice, isV, List.nil_append, List.cons_append, List.map_cons, List.map_nil, List.length_cons, List.length_nil, List.set_cons_zero, List.set_cons_succ, List.take_succ_cons, List.take_zero, List.take_nil, List.drop_succ_cons, List.drop_zero, List.drop_nil, List.append_nil, List.all_cons, List.all_nil, Bool.and_true, Bool.true_and, Bool.and_false, Bool.false_and, Nat.reduceAdd, Nat.zero_add, Nat.add_zero, Nat.reduceEqDiff, if_true, if_false, reduceIte]))
    | (show AW _ _ _ _ _ _ _ _; first | refine aw_region ?_ | (refine aw_seqk ?_; intro K hK) | refine aw_block ?_ | (apply aw_cond_f; exact rfl; exact rfl) | (apply aw_cond_t; exact rfl; exact (by assumption)) | refine aw_skip ?_)
    | refine thn_n ?_
    | (refine hK _ _ _ ?_; clear hK K)
    | refine inb_n ?_)); all_goals (repeat (clear hK K)))
    all_goals (refine ⟨cs.length + 1, mv 2 4, c1, by omega, ?_⟩; (try dsimp only); rw [e1, ← hw]; exact ⟨by (repeat (refine ⟨by first | exact lk_i rfl rfl | exact lk_r rfl rfl rfl | exact lk_p rfl rfl, ?_⟩)); exact trivial, by (repeat (refine ⟨by first | exact ⟨rfl, rfl, rfl⟩, ?_⟩)); exact trivial, by rfl, by exact pin_0⟩)
  · have d1 : decide ((i : Int) < (ls.length : Int)) = false := by simpa using c1
    obtain rfl : i = ls.length := by omega
    ((repeat' (first
    | (show SQ _ _ _ _ _ _ _ _; first | apply sq_nil | (apply q_assign; exact rfl; exact rfl) | (apply q_lss; exact rfl; exact rfl; exact rfl) | (apply q_ld1p; exact rfl; exact rfl; exact (ty rfl); exact rfl; exact rfl; exact (by first | rfl | assumption | ((try simp only [Nat.zero_add]); refine List.getElem?_set_self ?_; (try simp only [List.length_set]); assumption)); exact rfl))
    | (show AW _ _ _ _ _ _ _ _; first | refine aw_region ?_ | (refine aw_seqk ?_; intro K hK) | (apply aw_cond_f; exact rfl; exact (by assumption)) | refine aw_ret ?_ | refine aw_exit ?_)
    | refine thn_n ?_
    | (refine hK _ _ _ ?_; clear hK K)
    | refine thn_e ?_
    | refine inb_same ?_
    | (clear hK K; refine hK _ _ _ ?_; clear hK K))); all_goals (repeat (clear hK K)))
    all_goals exact finc (fun _ => 2) (.r2 _ _ _ _ (.tmp _ _ rfl) (.tmp _ _ rfl)) rfl (fun _ h => absurd h (Nat.not_lt_zero _)) ⟨rfl, trivial⟩ rfl
end
end Go.Proofs.Yteknfaldpajlpaa.Nb

namespace Go.Proofs.Yteknfaldpajlpaa.Nb
open Go Go.RowKit Go.Proofs.Yteknfaldpajlpaa.Aw Go.Proofs.Yteknfaldpajlpaa.In Go.Proofs.Yteknfaldpajlpaa.Il
set_option linter.unusedSimpArgs false
set_option linter.unusedVariables false
set_option linter.unusedSectionVars false
attribute [local irreducible] AW SQ Step RO RC DE Thn InB
def exR (ls : List (List Int)) (b : Int) (id len : Nat) : List (List AV) := [[.dsl 1 (nbL ls), .v (.int .i64 b), .sl id 0 len]]
section
variable (ls : List (List Int)) (hS : NbS ls) (m : Int) (hm : 0 ≤ m ∧ m ≤ 100)
include hS hm
set_option maxHeartbeats 4000000 in
theorem ext_rc : ∀ (r : Nat) (used : Int) (st : Int × List Int), r ≤ ls.length → ls.length ≤ 24 → 0 ≤ used → used ≤ ((ls.length - r : Nat) : Int) → 0 ≤ st.1 → st.1 ≤ 20000 → ls.length - r ≤ st.2.length → (r = 0 → st.2.length = ls.length) → ∀ (b c : Nat), b ≠ c → ∀ k,
    RC Try.prog 54 [.ptr b 0 0, .v (.int .i64 m), .v (.int .i64 used)] [(b, ⟨73, 3, false, exR ls st.1 c (ls.length - r)⟩), (c, ⟨2, 1, true, st.2.map inL⟩)] k (.v (.bool (ext ls m r used st).1))
      [(b, some ⟨73, 3, false, exR ls (ext ls m r used st).2.1 k (if (ext ls m r used st).1 = true then ls.length else ls.length - r)⟩), (c, none), (k, some ⟨2, 1, true, (ext ls m r used st).2.2.map inL⟩)] (k + 1)
  | 0, used, st, hr, hN, u0, u1, s0, s1, hl, h0, b, c, hbc, k => by
    have hll := nbL_len ls
    have b1 : (((ls.length - 0 : Nat) : Int) == ((nbL ls).length : Int)) = true := by rw [hll]; simp
    show RC Try.prog _ _ _ k (.v (.bool true)) [(b, some ⟨73, 3, false, exR ls st.1 k ls.length⟩), (c, none), (k, some ⟨2, 1, true, st.2.map inL⟩)] (k + 1)
    unfold exR
    refine RC.ofc [b, c] 1 [.ptr 0 0 0, .v (.int .i64 m), .v (.int .i64 used)] [(0, ⟨73, 3, false, [[.dsl 1 (nbL ls), .v (.int .i64 st.1), .sl 1 0 (ls.length - 0)]]⟩), (1, ⟨2, 1, true, st.2.map inL⟩)] (.v (.bool true)) [(0, some ⟨73, 3, false, [[.dsl 1 (nbL ls), .v (.int .i64 st.1), .sl 2 0 ls.length]]⟩), (1, none), (2, some ⟨2, 1, true, st.2.map inL⟩)] Try.func54 Try.ntmps54 rfl (goFn_of Try.func54 rfl (by kernel_rfl)) rfl rfl rfl rfl rfl rfl rfl rfl (by simp_all) rfl ?_
    ((repeat' (first
    | (show SQ _ _ _ _ _ _ _ _; first | apply sq_nil | (apply q_assign; exact rfl; exact rfl))
    | (show DE _ _ _ _ _ _ _ _ _ _ _ _; first | (apply e_move; exact rfl; exact rfl; exact rfl) | (apply e_fieldAddr; exact rfl; exact rfl; exact (ty rfl); exact rfl; exact rfl; exact rfl; exact rfl; exact rfl) | (apply e_nilc; exact rfl; exact rfl; exact rfl; exact rfl) | (apply e_lend; exact rfl; exact rfl; exact (ty rfl); exact rfl; exact rfl) | (apply e_lenl; exact rfl; exact rfl; exact (ty rfl); exact rfl; exact rfl) | (apply e_eql; exact rfl; exact rfl; exact rfl; exact rfl) | (apply e_ld1p; exact rfl; exact rfl; exact (ty rfl); exact rfl; exact rfl; exact (by first | rfl | assumption | ((try simp only [Nat.zero_add]); refine List.getElem?_set_self ?_; (try simp only [List.length_set]); assumption)); exact rfl; exact rfl))
    | (show DE _ _ _ _ _ _ _ _ _ _ _ _; (first | (apply dr_nil; exact trivial)); (try simp only [put, rowsOf, plR, List.all_cons, selE, ovr, setH, del, cellsA, splice, isV, List.nil_append, List.cons_append, List.map_cons, List.map_nil, List.length_cons, List.length_nil, List.set_cons_zero, List.set_cons_succ, List.take_succ_cons, List.take_zero, List.take_nil, List.drop_succ_cons, List.drop_zero, List.drop_nil, List.append_nil, List.all_cons, List.all_nil, Bool.and_true, Bool.true_and, Bool.and_false, Bool.false_and, Nat.reduceAdd, Nat.zero_add, Nat.add_zero, Nat.reduceEqDiff, if_true, if_false, reduceIte]))
    | (show AW _ _ _ _ _ _ _ _; first | refine aw_region ?_ | (refine aw_seqk ?_; intro K hK) | (apply aw_cond_t; exact rfl; exact (by assumption)) | refine aw_ret ?_ | refine aw_drawE (id := 1) [0, 1, 3, 7, 15, 0, 32, 96, 224, 480, 1023] [0, 0, 0, 1, 0, 0, 0, 0, 1, 0, 0] mixed (by kernel_rfl) ?_)
    | refine thn_n ?_
    | (refine hK _ _ _ ?_; clear hK K)
    | refine thn_r ?_)); all_goals (repeat (clear hK K)))
    all_goals exact finc (mv 2 1) (.r1 _ _ (.tmp _ _ rfl)) rfl (fun z hz => by simp at hz; simp [mv]; omega) ⟨rfl, rfl, trivial⟩ rfl
  | r + 1, used, st, hr, hN, u0, u1, s0, s1, hl, h0, b, c, hbc, k => by
    have ih := ext_rc r
    have hll := nbL_len ls
    have hkp := fun q1 q2 q3 q4 q5 => ext_keep (ls := ls) (m := m) r q1 q2 q3 q4 q5
    have b1 : (((ls.length - (r + 1) : Nat) : Int) == ((nbL ls).length : Int)) = false := by rw [hll]; simp only [beq_eq_false_iff_ne, ne_eq]; omega
    have hQ : ext ls m (r + 1) used st = extG (ext ls m r) ls (ls.length - (r + 1)) used (extN m used) 0 st := rfl
    rw [hQ]
    generalize hlen : ls.length - (r + 1) = len at *
    have hlen1 : ls.length - r = len + 1 := by omega
    have hK : extN m used = (min m (used + 1)).toNat := rfl
    have hwu : IntKind.i64.wrap (used + 1) = used + 1 := IntWalk.i64_in _ (by omega)
    generalize extN m used = KK at *
    generalize hQQ : extG (ext ls m r) ls len used KK 0 st = Q
    unfold exR
    refine RC.ofc [b, c] 1 [.ptr 0 0 0, .v (.int .i64 m), .v (.int .i64 used)] [(0, ⟨73, 3, false, [[.dsl 1 (nbL ls), .v (.int .i64 st.1), .sl 1 0 len]]⟩), (1, ⟨2, 1, true, st.2.map inL⟩)] (.v (.bool Q.1)) [(0, some ⟨73, 3, false, [[.dsl 1 (nbL ls), .v (.int .i64 Q.2.1), .sl 2 0 (if Q.1 = true then ls.length else len)]]⟩), (1, none), (2, some ⟨2, 1, true, Q.2.2.map inL⟩)] Try.func54 Try.ntmps54 rfl (goFn_of Try.func54 rfl (by kernel_rfl)) rfl rfl rfl rfl rfl rfl rfl rfl (by simp_all) rfl ?_
    ((repeat' (first
    | (show SQ _ _ _ _ _ _ _ _; first | apply sq_nil | (apply q_assign; exact rfl; exact rfl))
    | (show DE _ _ _ _ _ _ _ _ _ _ _ _; first | (apply e_move; exact rfl; exact rfl; exact rfl) | (apply e_fieldAddr; exact rfl; exact rfl; exact (ty rfl); exact rfl; exact rfl; exact rfl; exact rfl; exact rfl) | (apply e_nilc; exact rfl; exact rfl; exact rfl; exact rfl) | (apply e_lend; exact rfl; exact rfl; exact (ty rfl); exact rfl; exact rfl) | (apply e_lenl; exact rfl; exact rfl; exact (ty rfl); exact rfl; exact rfl) | (apply e_eql; exact rfl; exact rfl; exact rfl; exact rfl) | (apply e_ld1p; exact rfl; exact rfl; exact (ty rfl); exact rfl; exact rfl; exact (by first | rfl | assumption | ((try simp only [Nat.zero_add]); refine List.getElem?_set_self ?_; (try simp only [List.length_set]); assumption)); exact rfl; exact rfl))
    | (show DE _ _ _ _ _ _ _ _ _ _ _ _; (first | (apply dr_nil; exact trivial)); (try simp only [put, rowsOf, plR, List.all_cons, selE, ovr, setH, del, cellsA, splice, isV, List.nil_append, List.cons_append, List.map_cons, List.map_nil, List.length_cons, List.length_nil, List.set_cons_zero, List.set_cons_succ, List.take_succ_cons, List.take_zero, List.take_nil, List.drop_succ_cons, List.drop_zero, List.drop_nil, List.append_nil, List.all_cons, List.all_nil, Bool.and_true, Bool.true_and, Bool.and_false, Bool.false_and, Nat.reduceAdd, Nat.zero_add, Nat.add_zero, Nat.reduceEqDiff, if_true, if_false, reduceIte]))
    | (show AW _ _ _ _ _ _ _ _; first | refine aw_region ?_ | (refine aw_seqk ?_; intro K hK) | refine aw_block ?_ | (apply aw_cond_f; exact rfl; exact (by assumption)) | refine aw_skip ?_ | refine aw_drawE (id := 1) [0, 1, 3, 7, 15, 0, 32, 96, 224, 480, 1023] [0, 0, 0, 1, 0, 0, 0, 0, 1, 0, 0] mixed (by kernel_rfl) ?_)
    | refine thn_n ?_
    | (refine hK _ _ _ ?_; clear hK K))); all_goals (repeat (clear hK K)))
    show AW _ _ 2 _ _ _ _ _
    refine aw_loop (ρ := mv 2 1) (ι := Nat × (Int × List Int)) (fun s => ([(7, .v (.int .i64 (s.1 : Int))), (2, .v (.int .i64 used)), (1, .v (.int .i64 m)), (0, .ptr 0 0 0)],
        [(0, ⟨73, 3, false, [[.dsl 1 (nbL ls), .v (.int .i64 s.2.1), .sl 2 0 len]]⟩), (2, ⟨2, 1, true, s.2.2.map inL⟩)], 3))
      (fun s => s.1 ≤ KK ∧ 0 ≤ s.2.1 ∧ s.2.1 ≤ 20000 ∧ len ≤ s.2.2.length ∧ extG (ext ls m r) ls len used (KK - s.1) s.1 s.2 = Q) (fun s => KK - s.1) (0, st) ⟨Nat.zero_le _, s0, s1, hl, hQQ⟩ ⟨by (repeat (refine ⟨by first | exact lk_i rfl rfl | exact lk_r rfl rfl rfl, ?_⟩)); exact trivial, by (repeat (refine ⟨by first | exact ⟨rfl, rfl, rfl⟩, ?_⟩)); exact trivial, by rfl, by (intro i hi; (try dsimp only); refine ⟨?_, ?_⟩ <;> first | rfl | omega | (simp [mv]; omega))⟩ ?_
    rintro ⟨x, bu, bf⟩ ⟨hx, t0, t1, tl, hg⟩
    dsimp only at hx t0 t1 tl hg
    by_cases c1 : x < KK
    · have d1 : decide ((x : Int) < mnI m (IntKind.i64.wrap (used + 1))) = true := by
        rw [hwu, decide_eq_true_eq, mnI]; split <;> omega
      have hw : IntKind.i64.wrap ((x : Int) + 1) = ((x + 1 : Nat) : Int) := by rw [IntWalk.i64_in _ (by omega)]; omega
      have hw2 : IntKind.i64.wrap ((x : Int) + 1) = (x : Int) + 1 := IntWalk.i64_in _ (by omega)
      have hwb : IntKind.i64.wrap (bu - 1) = bu - 1 := IntWalk.i64_in _ (by omega)
      have htl : (bf.take len).length = len := by rw [List.length_take]; omega
      have hE := clashesEarlier_ro ls hS (bf.take len) (x : Int) (by omega)
      have hml : (bf.map inL).length = bf.length := List.length_map _
      have hdt : ((bf.map inL).drop 0).take len = (bf.take len).map inL := by rw [List.drop_zero, List.map_take]
      obtain ⟨j, hj⟩ : ∃ j, KK - x = j + 1 := ⟨KK - x - 1, by omega⟩
      have hj2 : KK - (x + 1) = j := by omega
      rw [hj, extG] at hg
      cases c2 : earB ls (bf.take len) (x : Int) with
      | true =>
        rw [c2] at hE hg
        rw [if_pos rfl] at hg
        ((repeat' (first
    | (show SQ _ _ _ _ _ _ _ _; first | apply sq_nil | (apply q_move; exact rfl; exact rfl) | (apply q_assign; exact rfl; exact rfl) | (apply q_min; exact rfl; exact rfl; exact rfl) | (apply q_add; exact rfl; exact rfl; exact rfl) | (apply q_lss; exact rfl; exact rfl; exact rfl))
    | (show DE _ _ _ _ _ _ _ _ _ _ _ _; first | (apply e_move; exact rfl; exact rfl; exact rfl) | (apply e_fieldAddr; exact rfl; exact rfl; exact (ty rfl); exact rfl; exact rfl; exact rfl; exact rfl; exact rfl) | (apply e_nilc; exact rfl; exact rfl; exact rfl; exact rfl) | (apply e_ld1p; exact rfl; exact rfl; exact (ty rfl); exact rfl; exact rfl; exact (by first | rfl | assumption | ((try simp only [Nat.zero_add]); refine List.getElem?_set_self ?_; (try simp only [List.length_set]); assumption)); exact rfl; exact rfl))
    | (show DE _ _ _ _ _ _ _ _ _ _ _ _; (first | (apply dr_nil; exact trivial) | (apply e_callU; exact rfl; exact rfl; exact rfl; rotate_left; exact hE _; exact rfl; rotate_right; focus ((repeat' (first | exact FzL.nil | exact (by assumption : FzC _) _ | refine FzL.cons ?_ ?_ | exact Fz.of rfl | exact Fz.nil | exact Fz.emp | (apply Fz.fnC; assumption) | (apply Fz.sl2; exact rfl; exact (by first | omega | (simp; done) | (simp; omega)); first | exact rfl | exact dt_full (by first | omega | (simp; done) | (simp; omega)) | assumption) | apply Fz.agg | (apply Fz.ptrL; exact rfl; first | exact rfl | assumption) | apply Fz.fnL)); done))); (try simp only [put, rowsOf, plR, List.all_cons, selE, ovr, setH, del, cellsA, splice, isV, List.nil_append, List.cons_append, List.map_cons, List.map_nil, List.length_cons, List.length_nil, List.set_cons_zero, List.set_cons_succ, List.take_succ_cons, List.take_zero, List.take_nil, List.drop_succ_cons, List.drop_zero, List.drop_nil, List.append_nil, List.all_cons, List.all_nil, Bool.and_true, Bool.true_and, Bool.and_false, Bool.false_and, Nat.reduceAdd, Nat.zero_add, Nat.add_zero, Nat.reduceEqDiff, if_true, if_false, reduceIte]))
    | (show AW _ _ _ _ _ _ _ _; first | refine aw_region ?_ | (refine aw_seqk ?_; intro K hK) | refine aw_block ?_ | (apply aw_cond_t; exact rfl; exact rfl) | (apply aw_cond_t; exact rfl; exact (by assumption)) | refine aw_exit ?_ | refine aw_skip ?_ | refine aw_drawE (id := 6) [0, 1, 3, 7, 0, 16, 48, 112, 0, 511] [0, 0, 0, 1, 0, 0, 0, 1, 0, 1] mixed (by kernel_rfl) ?_)
    | refine thn_n ?_
    | (refine hK _ _ _ ?_; clear hK K)
    | refine thn_e ?_
    | refine inb_same ?_
    | (clear hK K; refine hK _ _ _ ?_; clear hK K))); all_goals (repeat (clear hK K)))
        all_goals (refine ⟨(x + 1, (bu, bf)), id, ⟨c1, t0, t1, tl, by rw [hj2]; exact hg⟩, by dsimp only; omega, ?_⟩; (try dsimp only); rw [← hw]; exact ⟨by (repeat (refine ⟨by first | exact lk_i rfl rfl | exact lk_r rfl rfl rfl, ?_⟩)); exact trivial, by (repeat (refine ⟨by first | exact ⟨rfl, rfl, rfl⟩, ?_⟩)); exact trivial, by rfl, by (intro i hi; (try dsimp only); refine ⟨?_, ?_⟩ <;> first | rfl | omega | (simp at hi; omega) | (simp; omega))⟩)
      | false =>
        rw [c2] at hE hg
        rw [if_neg (by simp)] at hg
        dsimp only at hg
        by_cases c3 : bu - 1 < 0
        · have d3 : decide (IntKind.i64.wrap (bu - 1) < 0) = true := by rw [hwb]; simpa using c3
          rw [if_pos c3] at hg
          subst hg
          ((repeat' (first
    | (show SQ _ _ _ _ _ _ _ _; first | apply sq_nil | (apply q_move; exact rfl; exact rfl) | (apply q_assign; exact rfl; exact rfl) | (apply q_fieldAddr; exact rfl; exact rfl; exact (ty rfl); exact rfl; exact rfl; exact rfl; exact rfl) | (apply q_nilc; exact rfl; exact rfl; exact rfl) | (apply q_min; exact rfl; exact rfl; exact rfl) | (apply q_add; exact rfl; exact rfl; exact rfl) | (apply q_sub; exact rfl; exact rfl; exact rfl) | (apply q_lss; exact rfl; exact rfl; exact rfl) | (apply q_ld1p; exact rfl; exact rfl; exact (ty rfl); exact rfl; exact rfl; exact (by first | rfl | assumption | ((try simp only [Nat.zero_add]); refine List.getElem?_set_self ?_; (try simp only [List.length_set]); assumption)); exact rfl))
    | (show SQ _ _ _ _ _ _ _ _; (first | (apply q_store; exact rfl; exact rfl; exact (ty rfl); exact rfl; exact (by first | rfl | assumption | ((try simp only [Nat.zero_add]); refine List.getElem?_set_self ?_; (try simp only [List.length_set]); assumption)); exact rfl; exact rfl; exact rfl)); (try simp only [put, rowsOf, plR, List.all_cons, selE, ovr, setH, del, cellsA, splice, isV, List.nil_append, List.cons_append, List.map_cons, List.map_nil, List.length_cons, List.length_nil, List.set_cons_zero, List.set_cons_succ, List.take_succ_cons, List.take_zero, List.take_nil, List.drop_succ_cons, List.drop_zero, List.drop_nil, List.append_nil, List.all_cons, List.all_nil, Bool.and_true, Bool.true_and, Bool.and_false, Bool.false_and, Nat.reduceAdd, Nat.zero_add, Nat.add_zero, Nat.reduceEqDiff, if_true, if_false, reduceIte]))
    | (show DE _ _ _ _ _ _ _ _ _ _ _ _; first | (apply e_move; exact rfl; exact rfl; exact rfl) | (apply e_fieldAddr; exact rfl; exact rfl; exact (ty rfl); exact rfl; exact rfl; exact rfl; exact rfl; exact rfl) | (apply e_nilc; exact rfl; exact rfl; exact rfl; exact rfl) | (apply e_ld1p; exact rfl; exact rfl; exact (ty rfl); exact rfl; exact rfl; exact (by first | rfl | assumption | ((try simp only [Nat.zero_add]); refine List.getElem?_set_self ?_; (try simp only [List.length_set]); assumption)); exact rfl; exact rfl))
    | (show DE _ _ _ _ _ _ _ _ _ _ _ _; (first | (apply dr_nil; exact trivial) | (apply e_callU; exact rfl; exact rfl; exact rfl; rotate_left; exact hE _; exact rfl; rotate_right; focus ((repeat' (first | exact FzL.nil | exact (by assumption : FzC _) _ | refine FzL.cons ?_ ?_ | exact Fz.of rfl | exact Fz.nil | exact Fz.emp | (apply Fz.fnC; assumption) | (apply Fz.sl2; exact rfl; exact (by first | omega | (simp; done) | (simp; omega)); first | exact rfl | exact dt_full (by first | omega | (simp; done) | (simp; omega)) | assumption) | apply Fz.agg | (apply Fz.ptrL; exact rfl; first | exact rfl | assumption) | apply Fz.fnL)); done))); (try simp only [put, rowsOf, plR, List.all_cons, selE, ovr, setH, del, cellsA, splice, isV, List.nil_append, List.cons_append, List.map_cons, List.map_nil, List.length_cons, List.length_nil, List.set_cons_zero, List.set_cons_succ, List.take_succ_cons, List.take_zero, List.take_nil, List.drop_succ_cons, List.drop_zero, List.drop_nil, List.append_nil, List.all_cons, List.all_nil, Bool.and_true, Bool.true_and, Bool.and_false, Bool.false_and, Nat.reduceAdd, Nat.zero_add, Nat.add_zero, Nat.reduceEqDiff, if_true, if_false, reduceIte]))
    | (show AW _ _ _ _ _ _ _ _; first | refine aw_region ?_ | (refine aw_seqk ?_; intro K hK) | refine aw_block ?_ | (apply aw_cond_f; exact rfl; exact rfl) | (apply aw_cond_t; exact rfl; exact (by assumption)) | refine aw_ret ?_ | refine aw_skip ?_ | refine aw_drawE (id := 6) [0, 1, 3, 7, 0, 16, 48, 112, 0, 511] [0, 0, 0, 1, 0, 0, 0, 1, 0, 1] mixed (by kernel_rfl) ?_)
    | refine thn_n ?_
    | (refine hK _ _ _ ?_; clear hK K)
    | refine thn_r ?_
    | refine inb_r ?_)); all_goals (repeat (clear hK K)))
          all_goals exact finc id (.r1 _ _ (.tmp _ _ rfl)) rfl (fun z hz => rfl) ⟨(by rw [hwb]; rfl), rfl, trivial⟩ rfl
        · have d3 : decide (IntKind.i64.wrap (bu - 1) < 0) = false := by rw [hwb]; simpa using c3
          rw [if_neg c3] at hg
          have hmx : mxI used (IntKind.i64.wrap ((x : Int) + 1)) = max used ((x : Int) + 1) := by rw [hw2, mxI]; split <;> omega
          have hb2 : (bf.take len ++ [(x : Int)]).map inL = (bf.map inL).take len ++ [[.v (.int .i64 (x : Int))]] := by rw [List.map_append, List.map_take]; rfl
          have hii := ih (mxI used (IntKind.i64.wrap ((x : Int) + 1))) (IntKind.i64.wrap (bu - 1), bf.take len ++ [(x : Int)]) (by omega) hN (by rw [hmx]; omega) (by rw [hmx, hlen1]; omega) (by rw [hwb]; dsimp only; omega) (by rw [hwb]; dsimp only; omega) (by rw [hlen1]; simp [htl]) (fun h => by simp [htl]; omega) 0 4 (by decide)
          have hkk := hkp (mxI used (IntKind.i64.wrap ((x : Int) + 1))) (IntKind.i64.wrap (bu - 1), bf.take len ++ [(x : Int)]) (by omega) (by rw [hwb]; dsimp only; omega) (by rw [hlen1]; simp [htl]) (fun h => by simp [htl]; omega)
          rw [hlen1] at hii hkk
          dsimp only at hii
          rw [hb2] at hii
          have hqq : ext ls m r (mxI used (IntKind.i64.wrap ((x : Int) + 1))) (IntKind.i64.wrap (bu - 1), bf.take len ++ [(x : Int)]) = ext ls m r (max used ((x : Int) + 1)) (bu - 1, bf.take len ++ [(x : Int)]) := by rw [hmx, hwb]
          rw [← hqq] at hg
          generalize ext ls m r (mxI used (IntKind.i64.wrap ((x : Int) + 1))) (IntKind.i64.wrap (bu - 1), bf.take len ++ [(x : Int)]) = q at *
          obtain ⟨qo, qb, qf⟩ := q
          have kl := hkk.le
          have kb := hkk.bud
          dsimp only at hg hii kl kb
          have hqm : (qf.map inL).length = qf.length := List.length_map _
          unfold exR at hii
          cases qo with
          | true =>
            rw [if_pos rfl] at hg
            rw [if_pos rfl] at hii
            subst hg
            ((repeat' (first
    | (show SQ _ _ _ _ _ _ _ _; first | apply sq_nil | (apply q_move; exact rfl; exact rfl) | (apply q_assign; exact rfl; exact rfl) | (apply q_fieldAddr; exact rfl; exact rfl; exact (ty rfl); exact rfl; exact rfl; exact rfl; exact rfl) | (apply q_nilc; exact rfl; exact rfl; exact rfl) | (apply q_max; exact rfl; exact rfl; exact rfl) | (apply q_min; exact rfl; exact rfl; exact rfl) | (apply q_add; exact rfl; exact rfl; exact rfl) | (apply q_sub; exact rfl; exact rfl; exact rfl) | (apply q_lss; exact rfl; exact rfl; exact rfl) | (apply q_ld1p; exact rfl; exact rfl; exact (ty rfl); exact rfl; exact rfl; exact (by first | rfl | assumption | ((try simp only [Nat.zero_add]); refine List.getElem?_set_self ?_; (try simp only [List.length_set]); assumption)); exact rfl))
    | (show SQ _ _ _ _ _ _ _ _; (first | (apply q_store; exact rfl; exact rfl; exact (ty rfl); exact rfl; exact (by first | rfl | assumption | ((try simp only [Nat.zero_add]); refine List.getElem?_set_self ?_; (try simp only [List.length_set]); assumption)); exact rfl; exact rfl; exact rfl) | (apply q_buildn; exact rfl; exact (ty rfl); exact rfl; exact rfl; exact rfl; exact rfl; exact rfl; exact rfl; exact rfl) | (apply q_apo_s; exact rfl; exact rfl; exact rfl; exact (ty rfl); exact rfl; exact rfl; exact (by first | omega | (simp; done) | (simp; omega)); exact (by first | exact List.take_of_length_le (by first | omega | (simp; done) | (simp; omega)) | rfl); exact (ty rfl); exact rfl; exact rfl; exact (by first | omega | (simp; done) | (simp; omega)); exact (by first | exact dt_full (by first | omega | (simp; done) | (simp; omega)) | assumption | rfl); exact rfl; exact (by first | omega | (simp; done) | (simp; omega)); exact (by first | omega | (simp; done) | (simp; omega)); exact (by first | assumption | exact rfl)) | (apply q_callC; exact rfl; exact rfl; exact rfl; exact hii _; (focus ((repeat (first | exact trivial | refine ⟨by first | exact rfl | assumption, ?_⟩)); done)); skip)); (try simp only [put, rowsOf, plR, List.all_cons, selE, ovr, setH, del, cellsA, splice, isV, List.nil_append, List.cons_append, List.map_cons, List.map_nil, List.length_cons, List.length_nil, List.set_cons_zero, List.set_cons_succ, List.take_succ_cons, List.take_zero, List.take_nil, List.drop_succ_cons, List.drop_zero, List.drop_nil, List.append_nil, List.all_cons, List.all_nil, Bool.and_true, Bool.true_and, Bool.and_false, Bool.false_and, Nat.reduceAdd, Nat.zero_add, Nat.add_zero, Nat.reduceEqDiff, if_true, if_false, reduceIte]))
    | (show DE _ _ _ _ _ _ _ _ _ _ _ _; first | (apply e_move; exact rfl; exact rfl; exact rfl) | (apply e_fieldAddr; exact rfl; exact rfl; exact (ty rfl); exact rfl; exact rfl; exact rfl; exact rfl; exact rfl) | (apply e_nilc; exact rfl; exact rfl; exact rfl; exact rfl) | (apply e_ld1p; exact rfl; exact rfl; exact (ty rfl); exact rfl; exact rfl; exact (by first | rfl | assumption | ((try simp only [Nat.zero_add]); refine List.getElem?_set_self ?_; (try simp only [List.length_set]); assumption)); exact rfl; exact rfl))
    | (show DE _ _ _ _ _ _ _ _ _ _ _ _; (first | (apply dr_nil; exact trivial) | (apply e_callU; exact rfl; exact rfl; exact rfl; rotate_left; exact hE _; exact rfl; rotate_right; focus ((repeat' (first | exact FzL.nil | exact (by assumption : FzC _) _ | refine FzL.cons ?_ ?_ | exact Fz.of rfl | exact Fz.nil | exact Fz.emp | (apply Fz.fnC; assumption) | (apply Fz.sl2; exact rfl; exact (by first | omega | (simp; done) | (simp; omega)); first | exact rfl | exact dt_full (by first | omega | (simp; done) | (simp; omega)) | assumption) | apply Fz.agg | (apply Fz.ptrL; exact rfl; first | exact rfl | assumption) | apply Fz.fnL)); done))); (try simp only [put, rowsOf, plR, List.all_cons, selE, ovr, setH, del, cellsA, splice, isV, List.nil_append, List.cons_append, List.map_cons, List.map_nil, List.length_cons, List.length_nil, List.set_cons_zero, List.set_cons_succ, List.take_succ_cons, List.take_zero, List.take_nil, List.drop_succ_cons, List.drop_zero, List.drop_nil, List.append_nil, List.all_cons, List.all_nil, Bool.and_true, Bool.true_and, Bool.and_false, Bool.false_and, Nat.reduceAdd, Nat.zero_add, Nat.add_zero, Nat.reduceEqDiff, if_true, if_false, reduceIte]))
    | (show AW _ _ _ _ _ _ _ _; first | refine aw_region ?_ | (refine aw_seqk ?_; intro K hK) | refine aw_block ?_ | (apply aw_cond_t; exact rfl; exact rfl) | (apply aw_cond_f; exact rfl; exact rfl) | (apply aw_cond_t; exact rfl; exact (by assumption)) | (apply aw_cond_f; exact rfl; exact (by assumption)) | refine aw_ret ?_ | refine aw_skip ?_ | refine aw_drawE (id := 6) [0, 1, 3, 7, 0, 16, 48, 112, 0, 511] [0, 0, 0, 1, 0, 0, 0, 1, 0, 1] mixed (by kernel_rfl) ?_)
    | refine thn_n ?_
    | (refine hK _ _ _ ?_; clear hK K)
    | refine thn_r ?_
    | refine inb_r ?_)); all_goals (repeat (clear hK K)))
            all_goals exact finc (mv 2 5) (.r1 _ _ (.tmp _ _ rfl)) rfl (fun z hz => by simp at hz; simp [mv]; omega) ⟨rfl, rfl, trivial⟩ rfl
          | false =>
            rw [if_neg (by simp)] at hg
            rw [if_neg (by simp)] at hii
            have hws : IntKind.i64.wrap (((len + 1 : Nat) : Int) - 1) = (len : Int) := by rw [IntWalk.i64_in _ (by omega)]; omega
            by_cases c4 : qb < 0
            · have d4 : decide (qb < 0) = true := by simpa using c4
              rw [if_pos c4] at hg
              subst hg
              ((repeat' (first
    | (show SQ _ _ _ _ _ _ _ _; first | apply sq_nil | (apply q_move; exact rfl; exact rfl) | (apply q_assign; exact rfl; exact rfl) | (apply q_fieldAddr; exact rfl; exact rfl; exact (ty rfl); exact rfl; exact rfl; exact rfl; exact rfl) | (apply q_nilc; exact rfl; exact rfl; exact rfl) | (apply q_max; exact rfl; exact rfl; exact rfl) | (apply q_min; exact rfl; exact rfl; exact rfl) | (apply q_add; exact rfl; exact rfl; exact rfl) | (apply q_sub; exact rfl; exact rfl; exact rfl) | (apply q_lss; exact rfl; exact rfl; exact rfl) | (apply q_ld1p; exact rfl; exact rfl; exact (ty rfl); exact rfl; exact rfl; exact (by first | rfl | assumption | ((try simp only [Nat.zero_add]); refine List.getElem?_set_self ?_; (try simp only [List.length_set]); assumption)); exact rfl))
    | (show SQ _ _ _ _ _ _ _ _; (first | (apply q_store; exact rfl; exact rfl; exact (ty rfl); exact rfl; exact (by first | rfl | assumption | ((try simp only [Nat.zero_add]); refine List.getElem?_set_self ?_; (try simp only [List.length_set]); assumption)); exact rfl; exact rfl; exact rfl) | (apply q_buildn; exact rfl; exact (ty rfl); exact rfl; exact rfl; exact rfl; exact rfl; exact rfl; exact rfl; exact rfl) | (apply q_apo_s; exact rfl; exact rfl; exact rfl; exact (ty rfl); exact rfl; exact rfl; exact (by first | omega | (simp; done) | (simp; omega)); exact (by first | exact List.take_of_length_le (by first | omega | (simp; done) | (simp; omega)) | rfl); exact (ty rfl); exact rfl; exact rfl; exact (by first | omega | (simp; done) | (simp; omega)); exact (by first | exact dt_full (by first | omega | (simp; done) | (simp; omega)) | assumption | rfl); exact rfl; exact (by first | omega | (simp; done) | (simp; omega)); exact (by first | omega | (simp; done) | (simp; omega)); exact (by first | assumption | exact rfl)) | (apply q_callC; exact rfl; exact rfl; exact rfl; exact hii _; (focus ((repeat (first | exact trivial | refine ⟨by first | exact rfl | assumption, ?_⟩)); done)); skip)); (try simp only [put, rowsOf, plR, List.all_cons, selE, ovr, setH, del, cellsA, splice, isV, List.nil_append, List.cons_append, List.map_cons, List.map_nil, List.length_cons, List.length_nil, List.set_cons_zero, List.set_cons_succ, List.take_succ_cons, List.take_zero, List.take_nil, List.drop_succ_cons, List.drop_zero, List.drop_nil, List.append_nil, List.all_cons, List.all_nil, Bool.and_true, Bool.true_and, Bool.and_false, Bool.false_and, Nat.reduceAdd, Nat.zero_add, Nat.add_zero, Nat.reduceEqDiff, if_true, if_false, reduceIte]))
    | (show DE _ _ _ _ _ _ _ _ _ _ _ _; first | (apply e_move; exact rfl; exact rfl; exact rfl) | (apply e_fieldAddr; exact rfl; exact rfl; exact (ty rfl); exact rfl; exact rfl; exact rfl; exact rfl; exact rfl) | (apply e_nilc; exact rfl; exact rfl; exact rfl; exact rfl) | (apply e_lenl; exact rfl; exact rfl; exact (ty rfl); exact rfl; exact rfl) | (apply e_sub; exact rfl; exact rfl; exact rfl; exact rfl) | (apply e_ld1p; exact rfl; exact rfl; exact (ty rfl); exact rfl; exact rfl; exact (by first | rfl | assumption | ((try simp only [Nat.zero_add]); refine List.getElem?_set_self ?_; (try simp only [List.length_set]); assumption)); exact rfl; exact rfl) | (apply e_ssl_h; exact rfl; exact rfl; exact rfl; exact (ty rfl); exact rfl; exact rfl; exact (by first | omega | (simp; done) | (simp; omega)); exact (by first | omega | (simp; done) | (simp; omega)); exact (by first | omega | (simp; done) | (simp; omega)); exact rfl))
    | (show DE _ _ _ _ _ _ _ _ _ _ _ _; (first | (apply dr_nil; exact trivial) | (apply e_store; exact rfl; exact rfl; exact (ty rfl); exact rfl; exact (by first | rfl | assumption | ((try simp only [Nat.zero_add]); refine List.getElem?_set_self ?_; (try simp only [List.length_set]); assumption)); exact rfl; exact rfl; exact rfl; exact rfl) | (apply e_callU; exact rfl; exact rfl; exact rfl; rotate_left; exact hE _; exact rfl; rotate_right; focus ((repeat' (first | exact FzL.nil | exact (by assumption : FzC _) _ | refine FzL.cons ?_ ?_ | exact Fz.of rfl | exact Fz.nil | exact Fz.emp | (apply Fz.fnC; assumption) | (apply Fz.sl2; exact rfl; exact (by first | omega | (simp; done) | (simp; omega)); first | exact rfl | exact dt_full (by first | omega | (simp; done) | (simp; omega)) | assumption) | apply Fz.agg | (apply Fz.ptrL; exact rfl; first | exact rfl | assumption) | apply Fz.fnL)); done))); (try simp only [put, rowsOf, plR, List.all_cons, selE, ovr, setH, del, cellsA, splice, isV, List.nil_append, List.cons_append, List.map_cons, List.map_nil, List.length_cons, List.length_nil, List.set_cons_zero, List.set_cons_succ, List.take_succ_cons, List.take_zero, List.take_nil, List.drop_succ_cons, List.drop_zero, List.drop_nil, List.append_nil, List.all_cons, List.all_nil, Bool.and_true, Bool.true_and, Bool.and_false, Bool.false_and, Nat.reduceAdd, Nat.zero_add, Nat.add_zero, Nat.reduceEqDiff, if_true, if_false, reduceIte]))
    | (show AW _ _ _ _ _ _ _ _; first | refine aw_region ?_ | (refine aw_seqk ?_; intro K hK) | refine aw_block ?_ | (apply aw_cond_f; exact rfl; exact rfl) | (apply aw_cond_t; exact rfl; exact (by assumption)) | (apply aw_cond_f; exact rfl; exact (by assumption)) | refine aw_ret ?_ | refine aw_skip ?_ | refine aw_drawE (id := 6) [0, 1, 3, 7, 0, 16, 48, 112, 0, 511] [0, 0, 0, 1, 0, 0, 0, 1, 0, 1] mixed (by kernel_rfl) ?_ | refine aw_drawE (id := 13) [0, 0, 2, 6, 14, 0, 32, 96, 224, 480, 992, 2046, 4095, 8191, 16383] [0, 0, 0, 0, 1, 0, 0, 0, 1, 0, 0, 1, 0, 0, 2] mixed (by kernel_rfl) ?_)
    | refine thn_n ?_
    | (refine hK _ _ _ ?_; clear hK K)
    | refine thn_r ?_
    | refine inb_r ?_)); all_goals (repeat (clear hK K)))
              all_goals (try simp only [hws, Int.toNat_natCast])
              all_goals exact finc (mv 2 5) (.r1 _ _ (.tmp _ _ rfl)) rfl (fun z hz => by simp at hz; simp [mv]; omega) ⟨rfl, rfl, trivial⟩ rfl
            · have d4 : decide (qb < 0) = false := by simpa using c4
              rw [if_neg c4] at hg
              ((repeat' (first
    | (show SQ _ _ _ _ _ _ _ _; first | apply sq_nil | (apply q_move; exact rfl; exact rfl) | (apply q_assign; exact rfl; exact rfl) | (apply q_fieldAddr; exact rfl; exact rfl; exact (ty rfl); exact rfl; exact rfl; exact rfl; exact rfl) | (apply q_nilc; exact rfl; exact rfl; exact rfl) | (apply q_max; exact rfl; exact rfl; exact rfl) | (apply q_min; exact rfl; exact rfl; exact rfl) | (apply q_add; exact rfl; exact rfl; exact rfl) | (apply q_sub; exact rfl; exact rfl; exact rfl) | (apply q_lss; exact rfl; exact rfl; exact rfl) | (apply q_ld1p; exact rfl; exact rfl; exact (ty rfl); exact rfl; exact rfl; exact (by first | rfl | assumption | ((try simp only [Nat.zero_add]); refine List.getElem?_set_self ?_; (try simp only [List.length_set]); assumption)); exact rfl))
    | (show SQ _ _ _ _ _ _ _ _; (first | (apply q_store; exact rfl; exact rfl; exact (ty rfl); exact rfl; exact (by first | rfl | assumption | ((try simp only [Nat.zero_add]); refine List.getElem?_set_self ?_; (try simp only [List.length_set]); assumption)); exact rfl; exact rfl; exact rfl) | (apply q_buildn; exact rfl; exact (ty rfl); exact rfl; exact rfl; exact rfl; exact rfl; exact rfl; exact rfl; exact rfl) | (apply q_apo_s; exact rfl; exact rfl; exact rfl; exact (ty rfl); exact rfl; exact rfl; exact (by first | omega | (simp; done) | (simp; omega)); exact (by first | exact List.take_of_length_le (by first | omega | (simp; done) | (simp; omega)) | rfl); exact (ty rfl); exact rfl; exact rfl; exact (by first | omega | (simp; done) | (simp; omega)); exact (by first | exact dt_full (by first | omega | (simp; done) | (simp; omega)) | assumption | rfl); exact rfl; exact (by first | omega | (simp; done) | (simp; omega)); exact (by first | omega | (simp; done) | (simp; omega)); exact (by first | assumption | exact rfl)) | (apply q_callC; exact rfl; exact rfl; exact rfl; exact hii _; (focus ((repeat (first | exact trivial | refine ⟨by first | exact rfl | assumption, ?_⟩)); done)); skip)); (try simp only [put, rowsOf, plR, List.all_cons, selE, ovr, setH, del, cellsA, splice, isV, List.nil_append, List.cons_append, List.map_cons, List.map_nil, List.length_cons, List.length_nil, List.set_cons_zero, List.set_cons_succ, List.take_succ_cons, List.take_zero, List.take_nil, List.drop_succ_cons, List.drop_zero, List.drop_nil, List.append_nil, List.all_cons, List.all_nil, Bool.and_true, Bool.true_and, Bool.and_false, Bool.false_and, Nat.reduceAdd, Nat.zero_add, Nat.add_zero, Nat.reduceEqDiff, if_true, if_false, reduceIte]))
    | (show DE _ _ _ _ _ _ _ _ _ _ _ _; first | (apply e_move; exact rfl; exact rfl; exact rfl) | (apply e_fieldAddr; exact rfl; exact rfl; exact (ty rfl); exact rfl; exact rfl; exact rfl; exact rfl; exact rfl) | (apply e_nilc; exact rfl; exact rfl; exact rfl; exact rfl) | (apply e_lenl; exact rfl; exact rfl; exact (ty rfl); exact rfl; exact rfl) | (apply e_sub; exact rfl; exact rfl; exact rfl; exact rfl) | (apply e_ld1p; exact rfl; exact rfl; exact (ty rfl); exact rfl; exact rfl; exact (by first | rfl | assumption | ((try simp only [Nat.zero_add]); refine List.getElem?_set_self ?_; (try simp only [List.length_set]); assumption)); exact rfl; exact rfl) | (apply e_ssl_h; exact rfl; exact rfl; exact rfl; exact (ty rfl); exact rfl; exact rfl; exact (by first | omega | (simp; done) | (simp; omega)); exact (by first | omega | (simp; done) | (simp; omega)); exact (by first | omega | (simp; done) | (simp; omega)); exact rfl))
    | (show DE _ _ _ _ _ _ _ _ _ _ _ _; (first | (apply dr_nil; exact trivial) | (apply e_store; exact rfl; exact rfl; exact (ty rfl); exact rfl; exact (by first | rfl | assumption | ((try simp only [Nat.zero_add]); refine List.getElem?_set_self ?_; (try simp only [List.length_set]); assumption)); exact rfl; exact rfl; exact rfl; exact rfl) | (apply e_callU; exact rfl; exact rfl; exact rfl; rotate_left; exact hE _; exact rfl; rotate_right; focus ((repeat' (first | exact FzL.nil | exact (by assumption : FzC _) _ | refine FzL.cons ?_ ?_ | exact Fz.of rfl | exact Fz.nil | exact Fz.emp | (apply Fz.fnC; assumption) | (apply Fz.sl2; exact rfl; exact (by first | omega | (simp; done) | (simp; omega)); first | exact rfl | exact dt_full (by first | omega | (simp; done) | (simp; omega)) | assumption) | apply Fz.agg | (apply Fz.ptrL; exact rfl; first | exact rfl | assumption) | apply Fz.fnL)); done))); (try simp only [put, rowsOf, plR, List.all_cons, selE, ovr, setH, del, cellsA, splice, isV, List.nil_append, List.cons_append, List.map_cons, List.map_nil, List.length_cons, List.length_nil, List.set_cons_zero, List.set_cons_succ, List.take_succ_cons, List.take_zero, List.take_nil, List.drop_succ_cons, List.drop_zero, List.drop_nil, List.append_nil, List.all_cons, List.all_nil, Bool.and_true, Bool.true_and, Bool.and_false, Bool.false_and, Nat.reduceAdd, Nat.zero_add, Nat.add_zero, Nat.reduceEqDiff, if_true, if_false, reduceIte]))
    | (show AW _ _ _ _ _ _ _ _; first | refine aw_region ?_ | (refine aw_seqk ?_; intro K hK) | refine aw_block ?_ | (apply aw_cond_f; exact rfl; exact rfl) | (apply aw_cond_t; exact rfl; exact (by assumption)) | (apply aw_cond_f; exact rfl; exact (by assumption)) | refine aw_skip ?_ | refine aw_drawE (id := 6) [0, 1, 3, 7, 0, 16, 48, 112, 0, 511] [0, 0, 0, 1, 0, 0, 0, 1, 0, 1] mixed (by kernel_rfl) ?_ | refine aw_drawE (id := 13) [0, 0, 2, 6, 14, 0, 32, 96, 224, 480, 992, 2046, 4095, 8191, 16383] [0, 0, 0, 0, 1, 0, 0, 0, 1, 0, 0, 1, 0, 0, 2] mixed (by kernel_rfl) ?_)
    | refine thn_n ?_
    | (refine hK _ _ _ ?_; clear hK K)
    | refine inb_n ?_)); all_goals (repeat (clear hK K)))
              all_goals (try simp only [hws, Int.toNat_natCast])
              all_goals (refine ⟨(x + 1, (qb, qf)), mv 2 5, ⟨c1, by dsimp only; omega, by dsimp only; omega, by dsimp only; omega, by rw [hj2]; exact hg⟩, by dsimp only; omega, ?_⟩; (try dsimp only); rw [← hw]; exact ⟨by (repeat (refine ⟨by first | exact lk_i rfl rfl | exact lk_r rfl rfl rfl, ?_⟩)); exact trivial, by (repeat (refine ⟨by first | exact ⟨rfl, rfl, rfl⟩, ?_⟩)); exact trivial, by rfl, by (intro i hi; (try dsimp only); refine ⟨?_, ?_⟩ <;> first | rfl | omega | (simp [mv]; omega))⟩)
    · have d1 : decide ((x : Int) < mnI m (IntKind.i64.wrap (used + 1))) = false := by
        rw [hwu, decide_eq_false_iff_not, mnI]; split <;> omega
      have e : KK - x = 0 := by omega
      rw [e, extG] at hg
      subst hg
      ((repeat' (first
    | (show SQ _ _ _ _ _ _ _ _; first | apply sq_nil | (apply q_move; exact rfl; exact rfl) | (apply q_assign; exact rfl; exact rfl) | (apply q_min; exact rfl; exact rfl; exact rfl) | (apply q_add; exact rfl; exact rfl; exact rfl) | (apply q_lss; exact rfl; exact rfl; exact rfl))
    | (show AW _ _ _ _ _ _ _ _; first | refine aw_region ?_ | (refine aw_seqk ?_; intro K hK) | (apply aw_cond_f; exact rfl; exact (by assumption)) | refine aw_ret ?_ | refine aw_exit ?_)
    | refine thn_n ?_
    | (refine hK _ _ _ ?_; clear hK K)
    | refine thn_e ?_
    | refine inb_same ?_
    | (clear hK K; refine hK _ _ _ ?_; clear hK K))); all_goals (repeat (clear hK K)))
      all_goals exact finc id (.r1 _ _ (.tmp _ _ rfl)) rfl (fun z hz => rfl) ⟨rfl, rfl, trivial⟩ rfl
end
end Go.Proofs.Yteknfaldpajlpaa.Nb

namespace Go.Proofs.Yteknfaldpajlpaa.Nb
open Go Go.RowKit Go.Proofs.Yteknfaldpajlpaa.Aw Go.Proofs.Yteknfaldpajlpaa.In Go.Proofs.Yteknfaldpajlpaa.Il
set_option linter.unusedSimpArgs false
set_option linter.unusedVariables false
set_option linter.unusedSectionVars false
attribute [local irreducible] AW SQ Step RO RC DE Thn InB
def fewF (ls : List (List Int)) : Nat → Nat → Int × List Int → Nat × (Bool × (Int × List Int))
  | 0, m, st => (m, ext ls (m : Int) ls.length 0 st)
  | k + 1, m, st => if (ext ls (m : Int) ls.length 0 st).1 then (m, ext ls (m : Int) ls.length 0 st) else if (ext ls (m : Int) ls.length 0 st).2.1 < 0 then (m, ext ls (m : Int) ls.length 0 st)
    else fewF ls k (m + 1) (ext ls (m : Int) ls.length 0 st).2
def us (cs : List Int) : Int := cs.foldl (fun u c => max u (c + 1)) 0
theorem us_app (cs : List Int) (c : Int) : us (cs ++ [c]) = max (us cs) (c + 1) := by simp [us, List.foldl_append]
theorem us_max : ∀ (cs : List Int) (x : Int), x ∈ cs → x + 1 ≤ us cs := by
  have gen : ∀ (cs : List Int) (u : Int), u ≤ cs.foldl (fun u c => max u (c + 1)) u ∧ ∀ x ∈ cs, x + 1 ≤ cs.foldl (fun u c => max u (c + 1)) u := by
    intro cs
    induction cs with
    | nil => intro u; simp
    | cons y cs ih =>
      intro u
      obtain ⟨h1, h2⟩ := ih (max u (y + 1))
      refine ⟨by simp only [List.foldl_cons]; omega, fun x hx => ?_⟩
      simp only [List.foldl_cons]
      rcases List.mem_cons.1 hx with rfl | hx
      · omega
      · exact h2 x hx
  exact fun cs x hx => (gen cs 0).2 x hx
theorem us_in (ls : List (List Int)) : ∀ i, i ≤ 24 → 0 ≤ us (asgC ls i) ∧ us (asgC ls i) ≤ (i : Int)
  | 0, _ => by simp [us, asgC]
  | i + 1, h => by
    have h1 := us_in ls i (by omega)
    obtain ⟨h2, _, _⟩ := frC_asg ls (i := i) (by omega)
    rw [asgC, us_app]
    omega
theorem us_mono (ls : List (List Int)) (i : Nat) : ∀ d, us (asgC ls i) ≤ us (asgC ls (i + d))
  | 0 => Int.le_refl _
  | d + 1 => by
    have := us_mono ls i d
    show us (asgC ls i) ≤ us (asgC ls ((i + d) + 1))
    rw [asgC, us_app]; omega
theorem asg_sol (ls : List (List Int)) {n : Nat} (hn : n ≤ 24) : ∀ (d i : Nat), i + d = n → ∃ w : List Int, w.length = d ∧ Sol ls (us (asgC ls n)) (asgC ls i) (us (asgC ls i)) w
  | 0, i, h => ⟨[], rfl, .nil⟩
  | d + 1, i, h => by
    obtain ⟨w, hw, hS⟩ := asg_sol ls hn d (i + 1) (by omega)
    obtain ⟨g1, g2, g3⟩ := frC_asg ls (i := i) (by omega)
    have hu := us_in ls i (by omega)
    have hc : (frC ls (asgC ls i) : Int) ≤ us (asgC ls i) := by
      obtain ⟨u, hu0⟩ := Int.eq_ofNat_of_zero_le hu.1
      have hf : earB ls (asgC ls i) (u : Int) = false := earB_fresh fun hm => by have := us_max _ _ hm; omega
      have := (frC_spec (ls := ls) (cs := asgC ls i) (u := u) (by omega) hf).1
      omega
    have hmx := us_mono ls (i + 1) d
    rw [show i + 1 + d = n by omega] at hmx
    have e : asgC ls (i + 1) = asgC ls i ++ [(frC ls (asgC ls i) : Int)] := rfl
    have e2 := us_app (asgC ls i) (frC ls (asgC ls i) : Int)
    rw [← e] at e2
    refine ⟨(frC ls (asgC ls i) : Int) :: w, by simp [hw], .cons (by omega) hc g2 ?_⟩
    rw [← e, ← e2]
    exact hS
theorem Sol.mono {ls : List (List Int)} {m m' : Int} (h : m ≤ m') {p w : List Int} {u : Int} (hS : Sol ls m p u w) : Sol ls m' p u w := by
  induction hS with
  | nil => exact .nil
  | cons hm hu he _ ih => exact .cons (by omega) hu he ih
theorem ext_top {ls : List (List Int)} {m : Int} {st : Int × List Int} (hn : ls.length ≤ 24) (hm : us (asgC ls ls.length) ≤ m) (h0 : 0 ≤ st.1) (h1 : ls.length = 0 → st.2.length = 0) : (ext ls m ls.length 0 st).1 = true ∨ (ext ls m ls.length 0 st).2.1 < 0 := by
  obtain ⟨w, hw, hS⟩ := asg_sol ls hn ls.length 0 (by omega)
  exact ext_find ls.length 0 st [] w (Nat.le_refl _) h0 (by omega) (fun h => by rw [h1 h, h]) (by simp) hw (hS.mono hm)
section
variable (ls : List (List Int)) (hS : NbS ls)
include hS
set_option maxHeartbeats 4000000 in
theorem Fewest_bad_ro (bu : Int) (h : nbB ls = false) (k : Nat) : RO Try.prog 22 [.dsl 1 (nbL ls), .v (.int .i64 bu)] k (.tup [.v (.slice none 0 0), .v (.int .i64 0), .v (.int .i64 1)]) [] k := by
  have hV := ValidNeighbours_ro ls hS
  have b1 : (!nbB ls) = true := by rw [h]; rfl
  refine RO.ofp Try.func22 Try.ntmps22 rfl (goFn_of Try.func22 rfl (by kernel_rfl)) rfl rfl rfl ?_
  ((repeat' (first
    | (show SQ _ _ _ _ _ _ _ _; first | apply sq_nil | (apply q_move; exact rfl; exact rfl) | (apply q_assign; exact rfl; exact rfl) | (apply q_not; exact rfl; exact rfl))
    | (show SQ _ _ _ _ _ _ _ _; (first | (apply q_callU; exact rfl; exact rfl; exact rfl; exact FzL.of rfl; exact hV _)); (try simp only [put, rowsOf, plR, List.all_cons, selE, ovr, setH, del, cellsA, splice, isV, List.nil_append, List.cons_append, List.map_cons, List.map_nil, List.length_cons, List.length_nil, List.set_cons_zero, List.set_cons_succ, List.take_succ_cons, List.take_zero, List.take_nil, List.drop_succ_cons, List.drop_zero, List.drop_nil, List.append_nil, List.all_cons, List.all_nil, Bool.and_true, Bool.true_and, Bool.and_false, Bool.false_and, Nat.reduceAdd, Nat.zero_add, Nat.add_zero, Nat.reduceEqDiff, if_true, if_false, reduceIte]))
    | (show AW _ _ _ _ _ _ _ _; first | refine aw_region ?_ | (refine aw_seqk ?_; intro K hK) | refine aw_block ?_ | (apply aw_cond_t; exact rfl; exact (by assumption)) | refine aw_ret ?_)
    | refine thn_n ?_
    | (refine hK _ _ _ ?_; clear hK K)
    | refine thn_r ?_
    | refine inb_r ?_)); all_goals (repeat (clear hK K)))
  all_goals refine fin_r (fin_p (.r3 _ _ _ _ _ _ (.tmp _ _ rfl) (.tmp _ _ rfl) (.tmp _ _ rfl)) ?_ rfl rfl rfl)
  all_goals rfl
set_option maxHeartbeats 4000000 in
theorem budgetValid_ro (bu : Int) (k : Nat) : RO Try.prog 53 [.v (.int .i64 bu)] k (.v (.bool (inB bu 1 20000))) [] k := by
  refine RO.ofv' Try.func53 Try.ntmps53 rfl (goFn_of Try.func53 rfl (by kernel_rfl)) rfl rfl ?_
  ((repeat' (first
    | (show SQ _ _ _ _ _ _ _ _; first | apply sq_nil | (apply q_move; exact rfl; exact rfl) | (apply q_assign; exact rfl; exact rfl))
    | (show SQ _ _ _ _ _ _ _ _; (first | (apply q_callU; exact rfl; exact rfl; exact rfl; exact FzL.of rfl; exact within_ro _ _ _ _)); (try simp only [put, rowsOf, plR, List.all_cons, selE, ovr, setH, del, cellsA, splice, isV, List.nil_append, List.cons_append, List.map_cons, List.map_nil, List.length_cons, List.length_nil, List.set_cons_zero, List.set_cons_succ, List.take_succ_cons, List.take_zero, List.take_nil, List.drop_succ_cons, List.drop_zero, List.drop_nil, List.append_nil, List.all_cons, List.all_nil, Bool.and_true, Bool.true_and, Bool.and_false, Bool.false_and, Nat.reduceAdd, Nat.zero_add, Nat.add_zero, Nat.reduceEqDiff, if_true, if_false, reduceIte]))
    | (show AW _ _ _ _ _ _ _ _; first | refine aw_region ?_ | (refine aw_seqk ?_; intro K hK) | refine aw_ret ?_)
    | refine thn_n ?_
    | (refine hK _ _ _ ?_; clear hK K))); all_goals (repeat (clear hK K)))
  all_goals exact fin_r (fin_b rfl rfl)
set_option maxHeartbeats 4000000 in
theorem Fewest_rng_ro (bu : Int) (h : nbB ls = true) (h2 : inB bu 1 20000 = false) (k : Nat) : RO Try.prog 22 [.dsl 1 (nbL ls), .v (.int .i64 bu)] k (.tup [.v (.slice none 0 0), .v (.int .i64 0), .v (.int .i64 2)]) [] k := by
  have hV := ValidNeighbours_ro ls hS
  have hB := budgetValid_ro ls hS bu
  have b1 : (!nbB ls) = false := by rw [h]; rfl
  have b2 : (!inB bu 1 20000) = true := by rw [h2]; rfl
  refine RO.ofp Try.func22 Try.ntmps22 rfl (goFn_of Try.func22 rfl (by kernel_rfl)) rfl rfl rfl ?_
  ((repeat' (first
    | (show SQ _ _ _ _ _ _ _ _; first | apply sq_nil | (apply q_move; exact rfl; exact rfl) | (apply q_assign; exact rfl; exact rfl) | (apply q_not; exact rfl; exact rfl))
    | (show SQ _ _ _ _ _ _ _ _; (first | (apply q_callU; exact rfl; exact rfl; exact rfl; exact FzL.of rfl; exact hV _) | (apply q_callU; exact rfl; exact rfl; exact rfl; exact FzL.of rfl; exact hB _)); (try simp only [put, rowsOf, plR, List.all_cons, selE, ovr, setH, del, cellsA, splice, isV, List.nil_append, List.cons_append, List.map_cons, List.map_nil, List.length_cons, List.length_nil, List.set_cons_zero, List.set_cons_succ, List.take_succ_cons, List.take_zero, List.take_nil, List.drop_succ_cons, List.drop_zero, List.drop_nil, List.append_nil, List.all_cons, List.all_nil, Bool.and_true, Bool.true_and, Bool.and_false, Bool.false_and, Nat.reduceAdd, Nat.zero_add, Nat.add_zero, Nat.reduceEqDiff, if_true, if_false, reduceIte]))
    | (show AW _ _ _ _ _ _ _ _; first | refine aw_region ?_ | (refine aw_seqk ?_; intro K hK) | refine aw_block ?_ | (apply aw_cond_t; exact rfl; exact (by assumption)) | (apply aw_cond_f; exact rfl; exact (by assumption)) | refine aw_ret ?_)
    | refine thn_n ?_
    | (refine hK _ _ _ ?_; clear hK K)
    | refine thn_r ?_
    | refine inb_r ?_)); all_goals (repeat (clear hK K)))
  all_goals refine fin_r (fin_p (.r3 _ _ _ _ _ _ (.tmp _ _ rfl) (.tmp _ _ rfl) (.tmp _ _ rfl)) ?_ rfl rfl rfl)
  all_goals rfl
theorem Fewest_ok (bu : Int) (h : nbB ls = true) (h2 : inB bu 1 20000 = true) (hv : (fewF ls ls.length 0 (bu, [])).2.1 = true) (k : Nat) : RC Try.prog 22 [.dsl 1 (nbL ls), .v (.int .i64 bu)] [] k (.tup [.sl k 0 ls.length, .v (.int .i64 ((fewF ls ls.length 0 (bu, [])).1 : Int)), .v (.int .i64 0)]) [(k, some ⟨2, 1, true, (fewF ls ls.length 0 (bu, [])).2.2.2.map inL⟩)] (k + 1) := by
  have hV := ValidNeighbours_ro ls hS
  have hB := budgetValid_ro ls hS bu
  have b1 : (!nbB ls) = false := by rw [h]; rfl
  have b2 : (!inB bu 1 20000) = false := by rw [h2]; rfl
  have hN := nbB_in h
  have hbu : 1 ≤ bu ∧ bu ≤ 20000 := by simpa [inB] using h2
  have hus := us_in ls ls.length hN
  generalize hQQ : fewF ls ls.length 0 (bu, []) = Q at *
  refine RC.ofc [] 1 [.dsl 1 (nbL ls), .v (.int .i64 bu)] [] (.tup [.sl 0 0 ls.length, .v (.int .i64 (Q.1 : Int)), .v (.int .i64 0)]) [(0, some ⟨2, 1, true, Q.2.2.2.map inL⟩)] Try.func22 Try.ntmps22 rfl (goFn_of Try.func22 rfl (by kernel_rfl)) rfl rfl rfl rfl rfl rfl rfl rfl (by simp_all) rfl ?_
  ((repeat' (first
    | (show SQ _ _ _ _ _ _ _ _; first | apply sq_nil | (apply q_move; exact rfl; exact rfl) | (apply q_assign; exact rfl; exact rfl) | (apply q_not; exact rfl; exact rfl) | (apply q_build; exact rfl; exact (ty rfl); exact rfl; exact rfl; exact rfl))
    | (show SQ _ _ _ _ _ _ _ _; (first | (apply q_alloc; exact rfl; exact (ty rfl); exact rfl; exact rfl) | (apply q_store; exact rfl; exact rfl; exact (ty rfl); exact rfl; exact (by first | rfl | assumption | ((try simp only [Nat.zero_add]); refine List.getElem?_set_self ?_; (try simp only [List.length_set]); assumption)); exact rfl; exact rfl; exact rfl) | (apply q_callU; exact rfl; exact rfl; exact rfl; exact FzL.of rfl; exact hV _) | (apply q_callU; exact rfl; exact rfl; exact rfl; exact FzL.of rfl; exact hB _)); (try simp only [put, rowsOf, plR, List.all_cons, selE, ovr, setH, del, cellsA, splice, isV, List.nil_append, List.cons_append, List.map_cons, List.map_nil, List.length_cons, List.length_nil, List.set_cons_zero, List.set_cons_succ, List.take_succ_cons, List.take_zero, List.take_nil, List.drop_succ_cons, List.drop_zero, List.drop_nil, List.append_nil, List.all_cons, List.all_nil, Bool.and_true, Bool.true_and, Bool.and_false, Bool.false_and, Nat.reduceAdd, Nat.zero_add, Nat.add_zero, Nat.reduceEqDiff, if_true, if_false, reduceIte]))
    | (show AW _ _ _ _ _ _ _ _; first | refine aw_region ?_ | (refine aw_seqk ?_; intro K hK) | refine aw_block ?_ | (apply aw_cond_f; exact rfl; exact (by assumption)) | refine aw_skip ?_)
    | refine thn_n ?_
    | (refine hK _ _ _ ?_; clear hK K)
    | refine inb_n ?_)); all_goals (repeat (clear hK K)))
  refine aw_nilB 0 0 2 2 1 rfl rfl rfl rfl rfl ?_
  refine aw_loop (ρ := id) (ι := Nat × (Int × List Int)) (fun s => ([(8, .v (.int .i64 (s.1 : Int))), (7, .ptr 0 0 0)],
      [(0, ⟨73, 3, false, [[.dsl 1 (nbL ls), .v (.int .i64 s.2.1), .sl 1 0 0]]⟩), (1, ⟨2, 1, true, s.2.2.map inL⟩)], 2))
    (fun s => s.1 ≤ ls.length ∧ 0 ≤ s.2.1 ∧ s.2.1 ≤ 20000 ∧ (ls.length = 0 → s.2.2.length = 0) ∧ fewF ls (ls.length - s.1) s.1 s.2 = Q) (fun s => ls.length - s.1) (0, (bu, [])) ⟨Nat.zero_le _, by dsimp only; omega, by dsimp only; omega, fun _ => rfl, hQQ⟩ ⟨by (repeat (refine ⟨by first | exact lk_i rfl rfl | exact lk_r rfl rfl rfl, ?_⟩)); exact trivial, by (repeat (refine ⟨by first | exact ⟨rfl, rfl, rfl⟩, ?_⟩)); exact trivial, by rfl, by exact pin_0⟩ ?_
  rintro ⟨m, st⟩ ⟨hm, s0, s1, h0, hg⟩
  dsimp only at hm s0 s1 h0 hg
  have hX := ext_rc ls hS (m : Int) (by omega) ls.length 0 st (Nat.le_refl _) hN (by omega) (by omega) s0 s1 (by omega) (fun e => by rw [h0 e, e]) 0 1 (by decide)
  have hk := ext_keep (ls := ls) (m := (m : Int)) ls.length 0 st (Nat.le_refl _) s0 (by omega) (fun e => by rw [h0 e, e])
  have ht := fun hh => ext_top (ls := ls) (m := (m : Int)) (st := st) hN hh s0 h0
  have hw : IntKind.i64.wrap ((m : Int) + 1) = ((m + 1 : Nat) : Int) := by rw [IntWalk.i64_in _ (by omega)]; omega
  rw [Nat.sub_self] at hX hk
  unfold exR at hX
  have hg1 : (ext ls (m : Int) ls.length 0 st).1 = true ∨ (ext ls (m : Int) ls.length 0 st).2.1 < 0 → (m, ext ls (m : Int) ls.length 0 st) = Q := by
    intro hor
    rw [← hg]
    cases ls.length - m with
    | zero => rfl
    | succ j =>
      rw [fewF]
      split
      · rfl
      · split
        · rfl
        · rename_i e1 e2; rcases hor with e | e
          · exact absurd e e1
          · exact absurd e e2
  have hg2 : ¬ ((ext ls (m : Int) ls.length 0 st).1 = true ∨ (ext ls (m : Int) ls.length 0 st).2.1 < 0) → m < ls.length ∧ fewF ls (ls.length - (m + 1)) (m + 1) (ext ls (m : Int) ls.length 0 st).2 = Q := by
    intro hor
    have hml : m < ls.length := by
      apply Nat.lt_of_le_of_ne hm
      intro e
      exact hor (ht (by omega))
    refine ⟨hml, ?_⟩
    rw [← hg, show ls.length - m = (ls.length - (m + 1)) + 1 by omega, fewF]
    rw [if_neg (fun e => hor (.inl e)), if_neg (fun e => hor (.inr e))]
  clear hg ht
  generalize ext ls (m : Int) ls.length 0 st = q at *
  obtain ⟨qo, qb, qf⟩ := q
  have kb := hk.bud
  have kl := hk.lo
  dsimp only at hX kb hg1 hg2 kl
  cases qo with
  | true =>
    have hg := hg1 (.inl rfl)
    rw [if_pos rfl] at hX
    ((repeat' (first
    | (show SQ _ _ _ _ _ _ _ _; first | apply sq_nil | (apply q_move; exact rfl; exact rfl) | (apply q_assign; exact rfl; exact rfl) | (apply q_fieldAddr; exact rfl; exact rfl; exact (ty rfl); exact rfl; exact rfl; exact rfl; exact rfl) | (apply q_ld1p; exact rfl; exact rfl; exact (ty rfl); exact rfl; exact rfl; exact (by first | rfl | assumption | ((try simp only [Nat.zero_add]); refine List.getElem?_set_self ?_; (try simp only [List.length_set]); assumption)); exact rfl))
    | (show SQ _ _ _ _ _ _ _ _; (first | (apply q_callC; exact rfl; exact rfl; exact rfl; exact hX _; (focus ((repeat (first | exact trivial | refine ⟨by first | exact rfl | assumption, ?_⟩)); done)); skip)); (try simp only [put, rowsOf, plR, List.all_cons, selE, ovr, setH, del, cellsA, splice, isV, List.nil_append, List.cons_append, List.map_cons, List.map_nil, List.length_cons, List.length_nil, List.set_cons_zero, List.set_cons_succ, List.take_succ_cons, List.take_zero, List.take_nil, List.drop_succ_cons, List.drop_zero, List.drop_nil, List.append_nil, List.all_cons, List.all_nil, Bool.and_true, Bool.true_and, Bool.and_false, Bool.false_and, Nat.reduceAdd, Nat.zero_add, Nat.add_zero, Nat.reduceEqDiff, if_true, if_false, reduceIte]))
    | (show AW _ _ _ _ _ _ _ _; first | refine aw_region ?_ | (refine aw_seqk ?_; intro K hK) | refine aw_block ?_ | (apply aw_cond_t; exact rfl; exact rfl) | refine aw_ret ?_)
    | refine thn_n ?_
    | (refine hK _ _ _ ?_; clear hK K)
    | refine thn_r ?_
    | refine inb_r ?_)); all_goals (repeat (clear hK K)))
    all_goals (subst hg; exact finc (mv 0 2) (.r3 _ _ _ _ _ _ (.tmp _ _ rfl) (.tmp _ _ rfl) (.tmp _ _ rfl)) rfl (fun _ h => absurd h (Nat.not_lt_zero _)) ⟨rfl, trivial⟩ rfl)
  | false =>
    rw [if_neg (by simp)] at hX
    by_cases c4 : qb < 0
    · have hg := hg1 (.inr c4)
      have d4 : decide (qb < 0) = true := by simpa using c4
      ((repeat' (first
    | (show SQ _ _ _ _ _ _ _ _; first | apply sq_nil | (apply q_move; exact rfl; exact rfl) | (apply q_assign; exact rfl; exact rfl) | (apply q_fieldAddr; exact rfl; exact rfl; exact (ty rfl); exact rfl; exact rfl; exact rfl; exact rfl) | (apply q_lss; exact rfl; exact rfl; exact rfl) | (apply q_ld1p; exact rfl; exact rfl; exact (ty rfl); exact rfl; exact rfl; exact (by first | rfl | assumption | ((try simp only [Nat.zero_add]); refine List.getElem?_set_self ?_; (try simp only [List.length_set]); assumption)); exact rfl))
    | (show SQ _ _ _ _ _ _ _ _; (first | (apply q_callC; exact rfl; exact rfl; exact rfl; exact hX _; (focus ((repeat (first | exact trivial | refine ⟨by first | exact rfl | assumption, ?_⟩)); done)); skip)); (try simp only [put, rowsOf, plR, List.all_cons, selE, ovr, setH, del, cellsA, splice, isV, List.nil_append, List.cons_append, List.map_cons, List.map_nil, List.length_cons, List.length_nil, List.set_cons_zero, List.set_cons_succ, List.take_succ_cons, List.take_zero, List.take_nil, List.drop_succ_cons, List.drop_zero, List.drop_nil, List.append_nil, List.all_cons, List.all_nil, Bool.and_true, Bool.true_and, Bool.and_false, Bool.false_and, Nat.reduceAdd, Nat.zero_add, Nat.add_zero, Nat.reduceEqDiff, if_true, if_false, reduceIte]))
    | (show AW _ _ _ _ _ _ _ _; first | refine aw_region ?_ | (refine aw_seqk ?_; intro K hK) | refine aw_block ?_ | (apply aw_cond_f; exact rfl; exact rfl) | (apply aw_cond_t; exact rfl; exact (by assumption)) | refine aw_ret ?_ | refine aw_skip ?_)
    | refine thn_n ?_
    | (refine hK _ _ _ ?_; clear hK K)
    | refine thn_r ?_
    | refine inb_r ?_)); all_goals (repeat (clear hK K)))
      all_goals exact absurd (hg ▸ hv) (by simp)
    · obtain ⟨hml, hg⟩ := hg2 (fun h => h.elim (fun e => by cases e) c4)
      have d4 : decide (qb < 0) = false := by simpa using c4
      ((repeat' (first
    | (show SQ _ _ _ _ _ _ _ _; first | apply sq_nil | (apply q_move; exact rfl; exact rfl) | (apply q_assign; exact rfl; exact rfl) | (apply q_fieldAddr; exact rfl; exact rfl; exact (ty rfl); exact rfl; exact rfl; exact rfl; exact rfl) | (apply q_add; exact rfl; exact rfl; exact rfl) | (apply q_lss; exact rfl; exact rfl; exact rfl) | (apply q_ld1p; exact rfl; exact rfl; exact (ty rfl); exact rfl; exact rfl; exact (by first | rfl | assumption | ((try simp only [Nat.zero_add]); refine List.getElem?_set_self ?_; (try simp only [List.length_set]); assumption)); exact rfl))
    | (show SQ _ _ _ _ _ _ _ _; (first | (apply q_callC; exact rfl; exact rfl; exact rfl; exact hX _; (focus ((repeat (first | exact trivial | refine ⟨by first | exact rfl | assumption, ?_⟩)); done)); skip)); (try simp only [put, rowsOf, plR, List.all_cons, selE, ovr, setH, del, cellsA, splice, isV, List.nil_append, List.cons_append, List.map_cons, List.map_nil, List.length_cons, List.length_nil, List.set_cons_zero, List.set_cons_succ, List.take_succ_cons, List.take_zero, List.take_nil, List.drop_succ_cons, List.drop_zero, List.drop_nil, List.append_nil, List.all_cons, List.all_nil, Bool.and_true, Bool.true_and, Bool.and_false, Bool.false_and, Nat.reduceAdd, Nat.zero_add, Nat.add_zero, Nat.reduceEqDiff, if_true, if_false, reduceIte]))
    | (show AW _ _ _ _ _ _ _ _; first | refine aw_region ?_ | (refine aw_seqk ?_; intro K hK) | refine aw_block ?_ | (apply aw_cond_f; exact rfl; exact rfl) | (apply aw_cond_f; exact rfl; exact (by assumption)) | refine aw_skip ?_)
    | refine thn_n ?_
    | (refine hK _ _ _ ?_; clear hK K)
    | refine inb_n ?_)); all_goals (repeat (clear hK K)))
      all_goals (refine ⟨(m + 1, (qb, qf)), mv 1 2, ⟨hml, by dsimp only; omega, by dsimp only; omega, fun e => by omega, hg⟩, by dsimp only; omega, ?_⟩; (try dsimp only); rw [← hw]; exact ⟨by (repeat (refine ⟨by first | exact lk_i rfl rfl | exact lk_r rfl rfl rfl, ?_⟩)); exact trivial, by (repeat (refine ⟨by first | exact ⟨rfl, rfl, rfl⟩, ?_⟩)); exact trivial, by rfl, by exact pin_0⟩)
theorem Fewest_full (bu : Int) (h : nbB ls = true) (h2 : inB bu 1 20000 = true) (hv : (fewF ls ls.length 0 (bu, [])).2.1 = false) (k : Nat) : RO Try.prog 22 [.dsl 1 (nbL ls), .v (.int .i64 bu)] k (.tup [.v (.slice none 0 0), .v (.int .i64 0), .v (.int .i64 5)]) [] k := by
  have hV := ValidNeighbours_ro ls hS
  have hB := budgetValid_ro ls hS bu
  have b1 : (!nbB ls) = false := by rw [h]; rfl
  have b2 : (!inB bu 1 20000) = false := by rw [h2]; rfl
  have hN := nbB_in h
  have hbu : 1 ≤ bu ∧ bu ≤ 20000 := by simpa [inB] using h2
  have hus := us_in ls ls.length hN
  generalize hQQ : fewF ls ls.length 0 (bu, []) = Q at *
  refine RO.ofp Try.func22 Try.ntmps22 rfl (goFn_of Try.func22 rfl (by kernel_rfl)) rfl rfl rfl ?_
  ((repeat' (first
    | (show SQ _ _ _ _ _ _ _ _; first | apply sq_nil | (apply q_move; exact rfl; exact rfl) | (apply q_assign; exact rfl; exact rfl) | (apply q_not; exact rfl; exact rfl) | (apply q_build; exact rfl; exact (ty rfl); exact rfl; exact rfl; exact rfl))
    | (show SQ _ _ _ _ _ _ _ _; (first | (apply q_alloc; exact rfl; exact (ty rfl); exact rfl; exact rfl) | (apply q_store; exact rfl; exact rfl; exact (ty rfl); exact rfl; exact (by first | rfl | assumption | ((try simp only [Nat.zero_add]); refine List.getElem?_set_self ?_; (try simp only [List.length_set]); assumption)); exact rfl; exact rfl; exact rfl) | (apply q_callU; exact rfl; exact rfl; exact rfl; exact FzL.of rfl; exact hV _) | (apply q_callU; exact rfl; exact rfl; exact rfl; exact FzL.of rfl; exact hB _)); (try simp only [put, rowsOf, plR, List.all_cons, selE, ovr, setH, del, cellsA, splice, isV, List.nil_append, List.cons_append, List.map_cons, List.map_nil, List.length_cons, List.length_nil, List.set_cons_zero, List.set_cons_succ, List.take_succ_cons, List.take_zero, List.take_nil, List.drop_succ_cons, List.drop_zero, List.drop_nil, List.append_nil, List.all_cons, List.all_nil, Bool.and_true, Bool.true_and, Bool.and_false, Bool.false_and, Nat.reduceAdd, Nat.zero_add, Nat.add_zero, Nat.reduceEqDiff, if_true, if_false, reduceIte]))
    | (show AW _ _ _ _ _ _ _ _; first | refine aw_region ?_ | (refine aw_seqk ?_; intro K hK) | refine aw_block ?_ | (apply aw_cond_f; exact rfl; exact (by assumption)) | refine aw_skip ?_)
    | refine thn_n ?_
    | (refine hK _ _ _ ?_; clear hK K)
    | refine inb_n ?_)); all_goals (repeat (clear hK K)))
  refine aw_nilB 0 0 2 2 1 rfl rfl rfl rfl rfl ?_
  refine aw_loop (ρ := id) (ι := Nat × (Int × List Int)) (fun s => ([(8, .v (.int .i64 (s.1 : Int))), (7, .ptr 0 0 0)],
      [(0, ⟨73, 3, false, [[.dsl 1 (nbL ls), .v (.int .i64 s.2.1), .sl 1 0 0]]⟩), (1, ⟨2, 1, true, s.2.2.map inL⟩)], 2))
    (fun s => s.1 ≤ ls.length ∧ 0 ≤ s.2.1 ∧ s.2.1 ≤ 20000 ∧ (ls.length = 0 → s.2.2.length = 0) ∧ fewF ls (ls.length - s.1) s.1 s.2 = Q) (fun s => ls.length - s.1) (0, (bu, [])) ⟨Nat.zero_le _, by dsimp only; omega, by dsimp only; omega, fun _ => rfl, hQQ⟩ ⟨by (repeat (refine ⟨by first | exact lk_i rfl rfl | exact lk_r rfl rfl rfl, ?_⟩)); exact trivial, by (repeat (refine ⟨by first | exact ⟨rfl, rfl, rfl⟩, ?_⟩)); exact trivial, by rfl, by exact pin_0⟩ ?_
  rintro ⟨m, st⟩ ⟨hm, s0, s1, h0, hg⟩
  dsimp only at hm s0 s1 h0 hg
  have hX := ext_rc ls hS (m : Int) (by omega) ls.length 0 st (Nat.le_refl _) hN (by omega) (by omega) s0 s1 (by omega) (fun e => by rw [h0 e, e]) 0 1 (by decide)
  have hk := ext_keep (ls := ls) (m := (m : Int)) ls.length 0 st (Nat.le_refl _) s0 (by omega) (fun e => by rw [h0 e, e])
  have ht := fun hh => ext_top (ls := ls) (m := (m : Int)) (st := st) hN hh s0 h0
  have hw : IntKind.i64.wrap ((m : Int) + 1) = ((m + 1 : Nat) : Int) := by rw [IntWalk.i64_in _ (by omega)]; omega
  rw [Nat.sub_self] at hX hk
  unfold exR at hX
  have hg1 : (ext ls (m : Int) ls.length 0 st).1 = true ∨ (ext ls (m : Int) ls.length 0 st).2.1 < 0 → (m, ext ls (m : Int) ls.length 0 st) = Q := by
    intro hor
    rw [← hg]
    cases ls.length - m with
    | zero => rfl
    | succ j =>
      rw [fewF]
      split
      · rfl
      · split
        · rfl
        · rename_i e1 e2; rcases hor with e | e
          · exact absurd e e1
          · exact absurd e e2
  have hg2 : ¬ ((ext ls (m : Int) ls.length 0 st).1 = true ∨ (ext ls (m : Int) ls.length 0 st).2.1 < 0) → m < ls.length ∧ fewF ls (ls.length - (m + 1)) (m + 1) (ext ls (m : Int) ls.length 0 st).2 = Q := by
    intro hor
    have hml : m < ls.length := by
      apply Nat.lt_of_le_of_ne hm
      intro e
      exact hor (ht (by omega))
    refine ⟨hml, ?_⟩
    rw [← hg, show ls.length - m = (ls.length - (m + 1)) + 1 by omega, fewF]
    rw [if_neg (fun e => hor (.inl e)), if_neg (fun e => hor (.inr e))]
  clear hg ht
  generalize ext ls (m : Int) ls.length 0 st = q at *
  obtain ⟨qo, qb, qf⟩ := q
  have kb := hk.bud
  have kl := hk.lo
  dsimp only at hX kb hg1 hg2 kl
  cases qo with
  | true =>
    have hg := hg1 (.inl rfl)
    rw [if_pos rfl] at hX
    ((repeat' (first
    | (show SQ _ _ _ _ _ _ _ _; first | apply sq_nil | (apply q_move; exact rfl; exact rfl) | (apply q_assign; exact rfl; exact rfl) | (apply q_fieldAddr; exact rfl; exact rfl; exact (ty rfl); exact rfl; exact rfl; exact rfl; exact rfl) | (apply q_ld1p; exact rfl; exact rfl; exact (ty rfl); exact rfl; exact rfl; exact (by first | rfl | assumption | ((try simp only [Nat.zero_add]); refine List.getElem?_set_self ?_; (try simp only [List.length_set]); assumption)); exact rfl))
    | (show SQ _ _ _ _ _ _ _ _; (first | (apply q_callC; exact rfl; exact rfl; exact rfl; exact hX _; (focus ((repeat (first | exact trivial | refine ⟨by first | exact rfl | assumption, ?_⟩)); done)); skip)); (try simp only [put, rowsOf, plR, List.all_cons, selE, ovr, setH, del, cellsA, splice, isV, List.nil_append, List.cons_append, List.map_cons, List.map_nil, List.length_cons, List.length_nil, List.set_cons_zero, List.set_cons_succ, List.take_succ_cons, List.take_zero, List.take_nil, List.drop_succ_cons, List.drop_zero, List.drop_nil, List.append_nil, List.all_cons, List.all_nil, Bool.and_true, Bool.true_and, Bool.and_false, Bool.false_and, Nat.reduceAdd, Nat.zero_add, Nat.add_zero, Nat.reduceEqDiff, if_true, if_false, reduceIte]))
    | (show AW _ _ _ _ _ _ _ _; first | refine aw_region ?_ | (refine aw_seqk ?_; intro K hK) | refine aw_block ?_ | (apply aw_cond_t; exact rfl; exact rfl) | refine aw_ret ?_)
    | refine thn_n ?_
    | (refine hK _ _ _ ?_; clear hK K)
    | refine thn_r ?_
    | refine inb_r ?_)); all_goals (repeat (clear hK K)))
    all_goals exact absurd (hg ▸ hv) (by simp)
  | false =>
    rw [if_neg (by simp)] at hX
    by_cases c4 : qb < 0
    · have hg := hg1 (.inr c4)
      have d4 : decide (qb < 0) = true := by simpa using c4
      ((repeat' (first
    | (show SQ _ _ _ _ _ _ _ _; first | apply sq_nil | (apply q_move; exact rfl; exact rfl) | (apply q_assign; exact rfl; exact rfl) | (apply q_fieldAddr; exact rfl; exact rfl; exact (ty rfl); exact rfl; exact rfl; exact rfl; exact rfl) | (apply q_lss; exact rfl; exact rfl; exact rfl) | (apply q_ld1p; exact rfl; exact rfl; exact (ty rfl); exact rfl; exact rfl; exact (by first | rfl | assumption | ((try simp only [Nat.zero_add]); refine List.getElem?_set_self ?_; (try simp only [List.length_set]); assumption)); exact rfl))
    | (show SQ _ _ _ _ _ _ _ _; (first | (apply q_callC; exact rfl; exact rfl; exact rfl; exact hX _; (focus ((repeat (first | exact trivial | refine ⟨by first | exact rfl | assumption, ?_⟩)); done)); skip)); (try simp only [put, rowsOf, plR, List.all_cons, selE, ovr, setH, del, cellsA, splice, isV, List.nil_append, List.cons_append, List.map_cons, List.map_nil, List.length_cons, List.length_nil, List.set_cons_zero, List.set_cons_succ, List.take_succ_cons, List.take_zero, List.take_nil, List.drop_succ_cons, List.drop_zero, List.drop_nil, List.append_nil, List.all_cons, List.all_nil, Bool.and_true, Bool.true_and, Bool.and_false, Bool.false_and, Nat.reduceAdd, Nat.zero_add, Nat.add_zero, Nat.reduceEqDiff, if_true, if_false, reduceIte]))
    | (show AW _ _ _ _ _ _ _ _; first | refine aw_region ?_ | (refine aw_seqk ?_; intro K hK) | refine aw_block ?_ | (apply aw_cond_f; exact rfl; exact rfl) | (apply aw_cond_t; exact rfl; exact (by assumption)) | refine aw_ret ?_ | refine aw_skip ?_)
    | refine thn_n ?_
    | (refine hK _ _ _ ?_; clear hK K)
    | refine thn_r ?_
    | refine inb_r ?_)); all_goals (repeat (clear hK K)))
      all_goals (refine fin_r (fin_p (.r3 _ _ _ _ _ _ (.tmp _ _ rfl) (.tmp _ _ rfl) (.tmp _ _ rfl)) ?_ rfl rfl rfl); rfl)
    · obtain ⟨hml, hg⟩ := hg2 (fun h => h.elim (fun e => by cases e) c4)
      have d4 : decide (qb < 0) = false := by simpa using c4
      ((repeat' (first
    | (show SQ _ _ _ _ _ _ _ _; first | apply sq_nil | (apply q_move; exact rfl; exact rfl) | (apply q_assign; exact rfl; exact rfl) | (apply q_fieldAddr; exact rfl; exact rfl; exact (ty rfl); exact rfl; exact rfl; exact rfl; exact rfl) | (apply q_add; exact rfl; exact rfl; exact rfl) | (apply q_lss; exact rfl; exact rfl; exact rfl) | (apply q_ld1p; exact rfl; exact rfl; exact (ty rfl); exact rfl; exact rfl; exact (by first | rfl | assumption | ((try simp only [Nat.zero_add]); refine List.getElem?_set_self ?_; (try simp only [List.length_set]); assumption)); exact rfl))
    | (show SQ _ _ _ _ _ _ _ _; (first | (apply q_callC; exact rfl; exact rfl; exact rfl; exact hX _; (focus ((repeat (first | exact trivial | refine ⟨by first | exact rfl | assumption, ?_⟩)); done)); skip)); (try simp only [put, rowsOf, plR, List.all_cons, selE, ovr, setH, del, cellsA, splice, isV, List.nil_append, List.cons_append, List.map_cons, List.map_nil, List.length_cons, List.length_nil, List.set_cons_zero, List.set_cons_succ, List.take_succ_cons, List.take_zero, List.take_nil, List.drop_succ_cons, List.drop_zero, List.drop_nil, List.append_nil, List.all_cons, List.all_nil, Bool.and_true, Bool.true_and, Bool.and_false, Bool.false_and, Nat.reduceAdd, Nat.zero_add, Nat.add_zero, Nat.reduceEqDiff, if_true, if_false, reduceIte]))
    | (show AW _ _ _ _ _ _ _ _; first | refine aw_region ?_ | (refine aw_seqk ?_; intro K hK) | refine aw_block ?_ | (apply aw_cond_f; exact rfl; exact rfl) | (apply aw_cond_f; exact rfl; exact (by assumption)) | refine aw_skip ?_)
    | refine thn_n ?_
    | (refine hK _ _ _ ?_; clear hK K)
    | refine inb_n ?_)); all_goals (repeat (clear hK K)))
      all_goals (refine ⟨(m + 1, (qb, qf)), mv 1 2, ⟨hml, by dsimp only; omega, by dsimp only; omega, fun e => by omega, hg⟩, by dsimp only; omega, ?_⟩; (try dsimp only); rw [← hw]; exact ⟨by (repeat (refine ⟨by first | exact lk_i rfl rfl | exact lk_r rfl rfl rfl, ?_⟩)); exact trivial, by (repeat (refine ⟨by first | exact ⟨rfl, rfl, rfl⟩, ?_⟩)); exact trivial, by rfl, by exact pin_0⟩)
end
end Go.Proofs.Yteknfaldpajlpaa.Nb

namespace Go.Proofs.Yteknfaldpajlpaa.Sr
open Go Go.RowKit Go.Proofs.Yteknfaldpajlpaa.Aw
set_option linter.unusedSimpArgs false
set_option linter.unusedVariables false
attribute [local irreducible] AW SQ Step RO RC DE Thn InB
set_option maxHeartbeats 4000000 in
theorem one_rc (b : Nat) (s : Sr) (n : Int) (h : s.ok 900000) (hn : n ≤ 1000000) (j : Nat) : RC Try.prog 75 [.ptr b 0 0, .v (.int .i64 n)] [(b, ⟨109, 3, false, [srR s]⟩)] j (.v (.bool ((pk s n).1 == 0))) [(b, some ⟨109, 3, false, [srR (pk s n).2]⟩)] j := by
  refine RC.ofc [b] 0 [.ptr 0 0 0, .v (.int .i64 n)] [(0, ⟨109, 3, false, [srR s]⟩)] (.v (.bool ((pk s n).1 == 0))) [(0, some ⟨109, 3, false, [srR (pk s n).2]⟩)] Try.func75 Try.ntmps75 rfl (goFn_of Try.func75 rfl (by kernel_rfl)) rfl rfl rfl rfl rfl rfl rfl rfl (by simp_all) rfl ?_
  have hp := pick_rc 0 s n h hn
  ((repeat' (first
    | (show SQ _ _ _ _ _ _ _ _; first | apply sq_nil | (apply q_move; exact rfl; exact rfl) | (apply q_assign; exact rfl; exact rfl) | (apply q_eql; exact rfl; exact rfl; exact rfl))
    | (show SQ _ _ _ _ _ _ _ _; (first | (apply q_callC; exact rfl; exact rfl; exact rfl; exact hp _; (focus ((repeat (first | exact trivial | refine ⟨by first | exact rfl | assumption, ?_⟩)); done)); skip)); (try simp only [put, rowsOf, plR, List.all_cons, selE, ovr, setH, del, cellsA, splice, isV, List.nil_append, List.cons_append, List.map_cons, List.map_nil, List.length_cons, List.length_nil, List.set_cons_zero, List.set_cons_succ, List.take_succ_cons, List.take_zero, List.take_nil, List.drop_succ_cons, List.drop_zero, List.drop_nil, List.append_nil, List.all_cons, List.all_nil, Bool.and_true, Bool.true_and, Bool.and_false, Bool.false_and, Nat.reduceAdd, Nat.zero_add, Nat.add_zero, Nat.reduceEqDiff, if_true, if_false, reduceIte]))
    | (show AW _ _ _ _ _ _ _ _; first | refine aw_region ?_ | (refine aw_seqk ?_; intro K hK) | refine aw_ret ?_)
    | refine thn_n ?_
    | (refine hK _ _ _ ?_; clear hK K))); all_goals (repeat (clear hK K)))
  exact finc (fun i => i) (.r1 _ _ (.tmp _ _ rfl)) rfl (fun _ _ => rfl) ⟨rfl, trivial⟩ rfl
def am (ws : List Int) (s : Sr) : Int × Sr := (ws.getD (pk s ws.length).1.toNat 0, (pk s ws.length).2)
theorem am_ok {s : Sr} {k : Int} (ws : List Int) (h : s.ok k) : (am ws s).2.ok (k + 2) := pk_ok _ h
def nuR (ws : List Int) : List (List AV) := ws.map fun w => [.v (.int .i64 w)]
set_option maxHeartbeats 4000000 in
theorem among_rc (b c : Nat) (s : Sr) (ws : List Int) (hbc : b ≠ c) (h : s.ok 900000) (hw : 1 ≤ ws.length) (hw2 : ws.length ≤ 1000) (k : Nat) :
    RC Try.prog 76 [.ptr b 0 0, .sl c 0 ws.length] [(b, ⟨109, 3, false, [srR s]⟩), (c, ⟨2, 1, true, nuR ws⟩)] k (.v (.int .i64 (am ws s).1)) [(b, some ⟨109, 3, false, [srR (am ws s).2]⟩), (c, some ⟨2, 1, true, nuR ws⟩)] k := by
  have hp := pk_bd s ws.length (by omega)
  obtain ⟨i, hi⟩ : ∃ i : Nat, (pk s ws.length).1 = i := ⟨(pk s ws.length).1.toNat, by omega⟩
  have hil : i < ws.length := by omega
  have hr2 : (nuR ws)[0 + ((i : Int)).toNat]? = some [.v (.int .i64 ws[i])] := by simp [nuR, hil]
  have hv : (am ws s).1 = ws[i] := by simp [am, hi, hil]
  have hs : (am ws s).2 = (pk s ws.length).2 := rfl
  rw [hv, hs]
  refine RC.ofc [b, c] 0 [.ptr 0 0 0, .sl 1 0 ws.length] [(0, ⟨109, 3, false, [srR s]⟩), (1, ⟨2, 1, true, nuR ws⟩)] (.v (.int .i64 ws[i])) [(0, some ⟨109, 3, false, [srR (pk s ws.length).2]⟩), (1, some ⟨2, 1, true, nuR ws⟩)] Try.func76 Try.ntmps76 rfl (goFn_of Try.func76 rfl (by kernel_rfl)) rfl rfl rfl rfl rfl rfl rfl rfl (by simp_all) rfl ?_
  have hpk := pick_rc 0 s (ws.length : Int) h (by omega)
  rw [hi] at hpk
  ((repeat' (first
    | (show SQ _ _ _ _ _ _ _ _; first | apply sq_nil | (apply q_move; exact rfl; exact rfl) | (apply q_assign; exact rfl; exact rfl) | (apply q_lenl; exact rfl; exact rfl; exact (ty rfl); exact rfl) | (apply q_ixl; exact rfl; exact rfl; exact rfl; exact (ty rfl); exact rfl; exact rfl; exact rfl; exact (by first | omega | (simp; done) | (simp; omega)); exact (by first | omega | (simp; done) | (simp; omega))) | (apply q_ld1p; exact rfl; exact rfl; exact (ty rfl); exact rfl; exact rfl; exact (by first | rfl | assumption | ((try simp only [Nat.zero_add]); refine List.getElem?_set_self ?_; (try simp only [List.length_set]); assumption)); exact rfl))
    | (show SQ _ _ _ _ _ _ _ _; (first | (apply q_callC; exact rfl; exact rfl; exact rfl; exact hpk _; (focus ((repeat (first | exact trivial | refine ⟨by first | exact rfl | assumption, ?_⟩)); done)); skip)); (try simp only [put, rowsOf, plR, List.all_cons, selE, ovr, setH, del, cellsA, splice, isV, List.nil_append, List.cons_append, List.map_cons, List.map_nil, List.length_cons, List.length_nil, List.set_cons_zero, List.set_cons_succ, List.take_succ_cons, List.take_zero, List.take_nil, List.drop_succ_cons, List.drop_zero, List.drop_nil, List.append_nil, List.all_cons, List.all_nil, Bool.and_true, Bool.true_and, Bool.and_false, Bool.false_and, Nat.reduceAdd, Nat.zero_add, Nat.add_zero, Nat.reduceEqDiff, if_true, if_false, reduceIte]))
    | (show AW _ _ _ _ _ _ _ _; first | refine aw_region ?_ | (refine aw_seqk ?_; intro K hK) | refine aw_ret ?_)
    | refine thn_n ?_
    | (refine hK _ _ _ ?_; clear hK K))); all_goals (repeat (clear hK K)))
  exact finc (fun i => i) (.r1 _ _ (.tmp _ _ rfl)) rfl (fun _ _ => rfl) ⟨rfl, rfl, trivial⟩ rfl
end Go.Proofs.Yteknfaldpajlpaa.Sr
