/-
  Trees: the walks.
-/
import Derived.Test.YtglfcaioapdiaaaCrA
import Derived.Test.YtglfcaioapdiaaaBkC
namespace Go.Proofs.Ytglfcaioapdiaaa.Bk
open Go Go.RowKit Go.Proofs.Ytglfcaioapdiaaa.Aw
set_option linter.unusedSimpArgs false
set_option linter.unusedVariables false
attribute [local irreducible] AW SQ Step RO RC DE Thn InB

def incAt (xs : List Int) (i : Nat) : Bool := decide (i = 0) || decide (xs.getD (i - 1) 0 < xs.getD i 0)
theorem incAt0 (xs : List Int) : incAt xs 0 = true := rfl
def incB (xs : List Int) : Bool := (List.range xs.length).all (incAt xs)
def risB (xs : List Int) (lo hi : Int) : Bool := (List.range xs.length).all fun i => inB (xs.getD i 0) lo hi && incAt xs i
theorem risB_eq (xs : List Int) (lo hi : Int) : risB xs lo hi = (incB xs && !xs.any fun x => !inB x lo hi) := by
  rw [Bool.eq_iff_iff]
  simp only [risB, incB, Bool.and_eq_true, List.all_eq_true, List.mem_range, Bool.not_eq_true', List.any_eq_false, Bool.not_eq_true, Bool.not_eq_false']
  constructor
  · intro h
    refine ⟨fun i hi => (h i hi).2, fun x hx => ?_⟩
    obtain ⟨j, hj, rfl⟩ := List.getElem_of_mem hx
    have := (h j hj).1
    simpa [List.getD, hj] using this
  · rintro ⟨h, g⟩ i hi
    refine ⟨?_, h i hi⟩
    have := g xs[i] (List.getElem_mem hi)
    simpa [List.getD, hi] using this
set_option maxHeartbeats 4000000 in
theorem increasing_ro (xs : List Int) (hn : xs.length ≤ 1048576) (k : Nat) : RO Try.prog 104 [.dsl 1 (xs.map inL)] k (.v (.bool (incB xs))) [] k := by
  refine RO.ofv' Try.func104 Try.ntmps104 rfl (goFn_of Try.func104 rfl (by kernel_rfl)) rfl rfl ?_
  ((repeat' (first
    | (show SQ _ _ _ _ _ _ _ _; first | apply sq_nil | (apply q_assign; exact rfl; exact rfl))
    | (show AW _ _ _ _ _ _ _ _; first | refine aw_region ?_ | (refine aw_seqk ?_; intro K hK) | refine aw_block ?_)
    | refine thn_n ?_
    | (refine hK _ _ _ ?_; clear hK K))); all_goals (repeat (clear hK K)))
  refine aw_loop (ρ := id) (ι := Nat) (fun i => ([(3, .v (.int .i64 i)), (0, .dsl 1 (xs.map inL))], [], 0))
    (fun i => 1 ≤ i ∧ ∀ j, j < i → j < xs.length → incAt xs j = true) (fun i => xs.length - i) 1 ⟨Nat.le_refl _, fun j hj _ => (show j = 0 by omega) ▸ incAt0 xs⟩ ⟨by (repeat (refine ⟨by first | exact lk_i rfl rfl | exact lk_d rfl rfl, ?_⟩)); exact trivial, by exact trivial, by rfl, by exact pin_0⟩ ?_
  rintro i ⟨hi, hg⟩
  by_cases c2 : i < xs.length
  · have b2 : decide ((i : Int) < ((xs.map inL).length : Int)) = true := by simpa using c2
    have hrow : (xs.map inL)[((i : Int)).toNat]? = some (inL xs[i]) := by simp [c2]
    have hw2 : IntKind.i64.wrap ((i : Int) - 1) = (i : Int) - 1 := IntWalk.i64_in _ (by omega)
    have hrow2 : (xs.map inL)[(IntKind.i64.wrap ((i : Int) - 1)).toNat]? = some (inL xs[i - 1]) := by
      rw [hw2, show ((i : Int) - 1).toNat = i - 1 by omega]; simp [show i - 1 < xs.length by omega]
    rw [inL_eq] at hrow hrow2
    have hD : incAt xs i = decide (xs[i - 1] < xs[i]) := by simp [incAt, List.getD, c2, show i - 1 < xs.length by omega, show i ≠ 0 by omega]
    ((repeat' (first
    | (show SQ _ _ _ _ _ _ _ _; first | apply sq_nil | (apply q_move; exact rfl; exact rfl) | (apply q_assign; exact rfl; exact rfl) | (apply q_lend; exact rfl; exact rfl; exact (ty rfl); exact rfl) | (apply q_add; exact rfl; exact rfl; exact rfl) | (apply q_lss; exact rfl; exact rfl; exact rfl))
    | (show DE _ _ _ _ _ _ _ _ _ _ _ _; first | (apply e_move; exact rfl; exact rfl; exact rfl) | (apply e_sub; exact rfl; exact rfl; exact rfl; exact rfl) | (apply e_leq; exact rfl; exact rfl; exact rfl; exact rfl) | (apply e_ixd; exact rfl; exact rfl; exact rfl; exact (ty rfl); exact rfl; exact (by first | omega | (simp; done) | (simp; omega)); exact (by first | omega | (simp; done) | (simp; omega)); exact (by first | rfl | assumption); exact rfl) | (apply e_ld1d; exact rfl; exact rfl; exact (ty rfl); exact rfl; exact rfl; exact rfl))
    | (show DE _ _ _ _ _ _ _ _ _ _ _ _; (first | (apply dr_nil; exact trivial)); (try simp only [put, rowsOf, plR, List.all_cons, selE, ovr, setH, del, cellsA, splice, isV, List.nil_append, List.cons_append, List.map_cons, List.map_nil, List.length_cons, List.length_nil, List.set_cons_zero, List.set_cons_succ, List.take_succ_cons, List.take_zero, List.take_nil, List.drop_succ_cons, List.drop_zero, List.drop_nil, List.append_nil, List.all_cons, List.all_nil, Bool.and_true, Bool.true_and, Bool.and_false, Bool.false_and, Nat.reduceAdd, Nat.zero_add, Nat.add_zero, Nat.reduceEqDiff, if_true, if_false, reduceIte]))
    | (show AW _ _ _ _ _ _ _ _; first | refine aw_region ?_ | (refine aw_seqk ?_; intro K hK) | refine aw_block ?_ | (apply aw_cond_t; exact rfl; exact (by assumption)) | refine aw_ret ?_ | refine aw_skip ?_ | refine aw_drawE (id := 4) [0, 0, 3, 7, 0, 0, 32, 112, 240, 511] [0, 0, 0, 1, 0, 0, 0, 0, 1, 0] mixed (by kernel_rfl) ?_ | (apply aw_ite; exact rfl; all_goals intro h))
    | refine thn_n ?_
    | (refine hK _ _ _ ?_; clear hK K)
    | refine thn_r ?_
    | refine inb_n ?_
    | refine inb_r ?_)); all_goals (repeat (clear hK K)))
    all_goals first
      | (refine fin_r (fin_b rfl ?_)
         refine (allR_false c2 ?_).symm
         rw [hD]; simp_all; done)
      | (refine ⟨i + 1, id, ⟨by omega, fun j hj hj2 => ?_⟩, by omega, ⟨by (repeat (refine ⟨by first | exact lk_i rfl (by (try dsimp only); first | rfl | omega | (rw [IntWalk.i64_in _ (by omega)]; first | rfl | omega | (push_cast; omega)) | (simp; done) | (simp; omega)) | exact lk_d rfl rfl, ?_⟩)); exact trivial, by exact trivial, by rfl, by exact pin_0⟩⟩
         by_cases hjq : j < i
         · exact hg j hjq hj2
         · obtain rfl : j = i := by omega
           rw [hD]; simp_all)
  · have b2 : decide ((i : Int) < ((xs.map inL).length : Int)) = false := by simpa using c2
    ((repeat' (first
    | (show SQ _ _ _ _ _ _ _ _; first | apply sq_nil | (apply q_move; exact rfl; exact rfl) | (apply q_assign; exact rfl; exact rfl) | (apply q_lend; exact rfl; exact rfl; exact (ty rfl); exact rfl) | (apply q_lss; exact rfl; exact rfl; exact rfl))
    | (show AW _ _ _ _ _ _ _ _; first | refine aw_region ?_ | (refine aw_seqk ?_; intro K hK) | (apply aw_cond_f; exact rfl; exact (by assumption)) | refine aw_ret ?_ | refine aw_exit ?_)
    | refine thn_n ?_
    | (refine hK _ _ _ ?_; clear hK K)
    | refine thn_e ?_
    | refine inb_same ?_
    | (clear hK K; refine hK _ _ _ ?_; clear hK K))); all_goals (repeat (clear hK K)))
    all_goals refine fin_r (fin_b rfl ?_)
    exact (allR_true fun j hj => hg j (by omega) hj).symm
set_option maxHeartbeats 4000000 in
theorem l00Rises_ro (xs : List Int) (lo u : Int) (hn : xs.length ≤ 1048576) (k : Nat) : RO Try.prog 100 [.dsl 1 (xs.map inL), .v (.int .i64 lo), .v (.int .i64 u)] k (.v (.bool (risB xs lo u))) [] k := by
  refine RO.ofv' Try.func100 Try.ntmps100 rfl (goFn_of Try.func100 rfl (by kernel_rfl)) rfl rfl ?_
  ((repeat' (first
    | (show SQ _ _ _ _ _ _ _ _; first | apply sq_nil | (apply q_assign; exact rfl; exact rfl))
    | (show AW _ _ _ _ _ _ _ _; first | refine aw_region ?_ | (refine aw_seqk ?_; intro K hK) | refine aw_block ?_)
    | refine thn_n ?_
    | (refine hK _ _ _ ?_; clear hK K))); all_goals (repeat (clear hK K)))
  refine aw_loop (ρ := id) (ι := Nat) (fun i => ([(7, .v (.int .i64 i)), (2, .v (.int .i64 u)), (1, .v (.int .i64 lo)), (0, .dsl 1 (xs.map inL))], [], 0))
    (fun i => i ≤ xs.length ∧ ∀ j, j < i → (inB (xs.getD j 0) lo u && incAt xs j) = true) (fun i => xs.length - i) 0 ⟨Nat.zero_le _, fun j hj => absurd hj (Nat.not_lt_zero _)⟩ ⟨by (repeat (refine ⟨by first | exact lk_i rfl rfl | exact lk_d rfl rfl, ?_⟩)); exact trivial, by exact trivial, by rfl, by exact pin_0⟩ ?_
  rintro i ⟨hi, hg⟩
  by_cases c2 : i < xs.length
  · have b2 : decide ((i : Int) < ((xs.map inL).length : Int)) = true := by simpa using c2
    have hrow : (xs.map inL)[((i : Int)).toNat]? = some (inL xs[i]) := by simp [c2]
    rw [inL_eq] at hrow
    by_cases c3 : i = 0
    · have b5 : decide ((0 : Int) < (i : Int)) = false := by simp; omega
      have hD : (inB (xs.getD i 0) lo u && incAt xs i) = inB xs[i] lo u := by
        have e : incAt xs i = true := by simp [incAt, c3]
        rw [e, Bool.and_true]; simp [List.getD, c2]
      ((repeat' (first
    | (show SQ _ _ _ _ _ _ _ _; first | apply sq_nil | (apply q_move; exact rfl; exact rfl) | (apply q_assign; exact rfl; exact rfl) | (apply q_lend; exact rfl; exact rfl; exact (ty rfl); exact rfl) | (apply q_add; exact rfl; exact rfl; exact rfl) | (apply q_lss; exact rfl; exact rfl; exact rfl))
    | (show DE _ _ _ _ _ _ _ _ _ _ _ _; first | (apply e_move; exact rfl; exact rfl; exact rfl) | (apply e_pick_t; exact rfl; exact rfl; exact rfl; exact (by first | assumption | exact rfl); exact rfl) | (apply e_pick_f; exact rfl; exact rfl; exact rfl; exact (by first | assumption | exact rfl); exact rfl) | (apply e_not; exact rfl; exact rfl; exact rfl) | (apply e_gtr; exact rfl; exact rfl; exact rfl; exact rfl) | (apply e_ixd; exact rfl; exact rfl; exact rfl; exact (ty rfl); exact rfl; exact (by first | omega | (simp; done) | (simp; omega)); exact (by first | omega | (simp; done) | (simp; omega)); exact (by first | rfl | assumption); exact rfl) | (apply e_ld1d; exact rfl; exact rfl; exact (ty rfl); exact rfl; exact rfl; exact rfl) | (apply e_g; exact rfl; exact rfl; exact rfl; exact (by assumption)) | (apply e_s; exact rfl; exact rfl; exact rfl; exact (by assumption); exact rfl) | (apply e_sU; exact rfl; exact rfl; exact rfl; exact rfl; exact rfl))
    | (show DE _ _ _ _ _ _ _ _ _ _ _ _; (first | (apply dr_nil; exact trivial) | (apply e_callU; exact rfl; exact rfl; exact rfl; exact FzL.of rfl; exact l00In_ro _ _ _ _; exact rfl)); (try simp only [put, rowsOf, plR, List.all_cons, selE, ovr, setH, del, cellsA, splice, isV, List.nil_append, List.cons_append, List.map_cons, List.map_nil, List.length_cons, List.length_nil, List.set_cons_zero, List.set_cons_succ, List.take_succ_cons, List.take_zero, List.take_nil, List.drop_succ_cons, List.drop_zero, List.drop_nil, List.append_nil, List.all_cons, List.all_nil, Bool.and_true, Bool.true_and, Bool.and_false, Bool.false_and, Nat.reduceAdd, Nat.zero_add, Nat.add_zero, Nat.reduceEqDiff, if_true, if_false, reduceIte]))
    | (show DE _ _ _ _ _ _ _ _ _ _ _ _; apply e_gs; exact rfl; exact rfl; exact rfl; exact rfl; all_goals intro h)
    | (show AW _ _ _ _ _ _ _ _; first | refine aw_region ?_ | (refine aw_seqk ?_; intro K hK) | refine aw_block ?_ | (apply aw_cond_t; exact rfl; exact rfl) | (apply aw_cond_f; exact rfl; exact rfl) | (apply aw_cond_t; exact rfl; exact (by assumption)) | refine aw_ret ?_ | refine aw_skip ?_ | refine aw_drawE (id := 4) [0, 0, 3, 7, 0, 0, 63, 127, 255, 511, 1023, 2047, 4095, 4095, 12287, 32767, 65535, 4095, 4095, 397311, 921599, 2097151, 4194303, 8388607] [0, 0, 0, 1, 0, 0, 1, 0, 0, 0, 0, 0, 0, 0, 0, 0, 1, 0, 0, 0, 1, 0, 0, 0] mixed (by kernel_rfl) ?_)
    | refine thn_n ?_
    | (refine hK _ _ _ ?_; clear hK K)
    | refine thn_r ?_
    | refine inb_n ?_
    | refine inb_r ?_)); all_goals (repeat (clear hK K)))
      all_goals first
        | (refine fin_r (fin_b rfl ?_)
           refine (allR_false c2 ?_).symm
           rw [hD]; simp_all; done)
        | (refine ⟨i + 1, id, ⟨c2, fun j hj => ?_⟩, by omega, ⟨by (repeat (refine ⟨by first | exact lk_i rfl rfl | exact lk_i rfl (by (try dsimp only); first | rfl | omega | (rw [IntWalk.i64_in _ (by omega)]; first | rfl | omega | (push_cast; omega)) | (simp; done) | (simp; omega)) | exact lk_d rfl rfl, ?_⟩)); exact trivial, by exact trivial, by rfl, by exact pin_0⟩⟩
           by_cases hjq : j < i
           · exact hg j hjq
           · obtain rfl : j = i := by omega
             rw [hD]; simp_all)
    · have b5 : decide ((0 : Int) < (i : Int)) = true := by simp; omega
      have hw2 : IntKind.i64.wrap ((i : Int) - 1) = (i : Int) - 1 := IntWalk.i64_in _ (by omega)
      have hrow2 : (xs.map inL)[(IntKind.i64.wrap ((i : Int) - 1)).toNat]? = some (inL xs[i - 1]) := by
        rw [hw2, show ((i : Int) - 1).toNat = i - 1 by omega]; simp [show i - 1 < xs.length by omega]
      rw [inL_eq] at hrow2
      have hD : (inB (xs.getD i 0) lo u && incAt xs i) = (inB xs[i] lo u && decide (xs[i - 1] < xs[i])) := by simp [incAt, List.getD, c2, c3, show i - 1 < xs.length by omega]
      ((repeat' (first
    | (show SQ _ _ _ _ _ _ _ _; first | apply sq_nil | (apply q_move; exact rfl; exact rfl) | (apply q_assign; exact rfl; exact rfl) | (apply q_lend; exact rfl; exact rfl; exact (ty rfl); exact rfl) | (apply q_add; exact rfl; exact rfl; exact rfl) | (apply q_lss; exact rfl; exact rfl; exact rfl))
    | (show DE _ _ _ _ _ _ _ _ _ _ _ _; first | (apply e_move; exact rfl; exact rfl; exact rfl) | (apply e_pick_t; exact rfl; exact rfl; exact rfl; exact (by first | assumption | exact rfl); exact rfl) | (apply e_pick_f; exact rfl; exact rfl; exact rfl; exact (by first | assumption | exact rfl); exact rfl) | (apply e_not; exact rfl; exact rfl; exact rfl) | (apply e_sub; exact rfl; exact rfl; exact rfl; exact rfl) | (apply e_gtr; exact rfl; exact rfl; exact rfl; exact rfl) | (apply e_geq; exact rfl; exact rfl; exact rfl; exact rfl) | (apply e_ixd; exact rfl; exact rfl; exact rfl; exact (ty rfl); exact rfl; exact (by first | omega | (simp; done) | (simp; omega)); exact (by first | omega | (simp; done) | (simp; omega)); exact (by first | rfl | assumption); exact rfl) | (apply e_ld1d; exact rfl; exact rfl; exact (ty rfl); exact rfl; exact rfl; exact rfl) | (apply e_g; exact rfl; exact rfl; exact rfl; exact (by assumption)) | (apply e_s; exact rfl; exact rfl; exact rfl; exact (by assumption); exact rfl) | (apply e_sU; exact rfl; exact rfl; exact rfl; exact rfl; exact rfl))
    | (show DE _ _ _ _ _ _ _ _ _ _ _ _; (first | (apply dr_nil; exact trivial) | (apply e_callU; exact rfl; exact rfl; exact rfl; exact FzL.of rfl; exact l00In_ro _ _ _ _; exact rfl)); (try simp only [put, rowsOf, plR, List.all_cons, selE, ovr, setH, del, cellsA, splice, isV, List.nil_append, List.cons_append, List.map_cons, List.map_nil, List.length_cons, List.length_nil, List.set_cons_zero, List.set_cons_succ, List.take_succ_cons, List.take_zero, List.take_nil, List.drop_succ_cons, List.drop_zero, List.drop_nil, List.append_nil, List.all_cons, List.all_nil, Bool.and_true, Bool.true_and, Bool.and_false, Bool.false_and, Nat.reduceAdd, Nat.zero_add, Nat.add_zero, Nat.reduceEqDiff, if_true, if_false, reduceIte]))
    | (show DE _ _ _ _ _ _ _ _ _ _ _ _; apply e_gs; exact rfl; exact rfl; exact rfl; exact rfl; all_goals intro h)
    | (show AW _ _ _ _ _ _ _ _; first | refine aw_region ?_ | (refine aw_seqk ?_; intro K hK) | refine aw_block ?_ | (apply aw_cond_t; exact rfl; exact rfl) | (apply aw_cond_t; exact rfl; exact (by assumption)) | refine aw_ret ?_ | refine aw_skip ?_ | refine aw_drawE (id := 4) [0, 0, 3, 7, 0, 0, 63, 127, 255, 511, 1023, 2047, 4095, 4095, 12287, 32767, 65535, 4095, 4095, 397311, 921599, 2097151, 4194303, 8388607] [0, 0, 0, 1, 0, 0, 1, 0, 0, 0, 0, 0, 0, 0, 0, 0, 1, 0, 0, 0, 1, 0, 0, 0] mixed (by kernel_rfl) ?_ | (apply aw_ite; exact rfl; all_goals intro h))
    | refine thn_n ?_
    | (refine hK _ _ _ ?_; clear hK K)
    | refine thn_r ?_
    | refine inb_n ?_
    | refine inb_r ?_)); all_goals (repeat (clear hK K)))
      all_goals first
        | (refine fin_r (fin_b rfl ?_)
           refine (allR_false c2 ?_).symm
           rw [hD]; simp_all; done)
        | (refine ⟨i + 1, id, ⟨c2, fun j hj => ?_⟩, by omega, ⟨by (repeat (refine ⟨by first | exact lk_i rfl rfl | exact lk_i rfl (by (try dsimp only); first | rfl | omega | (rw [IntWalk.i64_in _ (by omega)]; first | rfl | omega | (push_cast; omega)) | (simp; done) | (simp; omega)) | exact lk_d rfl rfl, ?_⟩)); exact trivial, by exact trivial, by rfl, by exact pin_0⟩⟩
           by_cases hjq : j < i
           · exact hg j hjq
           · obtain rfl : j = i := by omega
             rw [hD]; simp_all)
  · have b2 : decide ((i : Int) < ((xs.map inL).length : Int)) = false := by simpa using c2
    ((repeat' (first
    | (show SQ _ _ _ _ _ _ _ _; first | apply sq_nil | (apply q_move; exact rfl; exact rfl) | (apply q_assign; exact rfl; exact rfl) | (apply q_lend; exact rfl; exact rfl; exact (ty rfl); exact rfl) | (apply q_lss; exact rfl; exact rfl; exact rfl))
    | (show AW _ _ _ _ _ _ _ _; first | refine aw_region ?_ | (refine aw_seqk ?_; intro K hK) | (apply aw_cond_f; exact rfl; exact (by assumption)) | refine aw_ret ?_ | refine aw_exit ?_)
    | refine thn_n ?_
    | (refine hK _ _ _ ?_; clear hK K)
    | refine thn_e ?_
    | refine inb_same ?_
    | (clear hK K; refine hK _ _ _ ?_; clear hK K))); all_goals (repeat (clear hK K)))
    all_goals refine fin_r (fin_b rfl ?_)
    exact (allR_true fun j hj => hg j (by omega)).symm
end Go.Proofs.Ytglfcaioapdiaaa.Bk

-- Trees: both functions.
namespace Go.Proofs.Ytglfcaioapdiaaa.Bk
open Go Go.RowKit Go.Proofs.Ytglfcaioapdiaaa.Aw
set_option linter.unusedSimpArgs false
set_option linter.unusedVariables false
attribute [local irreducible] AW SQ Step RO RC DE Thn InB

def inW (ls : List Ln) (ix : List Int) : Bool := !ix.any fun x => !inB x 0 ((ls.length : Int) - 1)
theorem inW_get {ls : List Ln} {ix : List Int} (h : inW ls ix = true) : ∀ x ∈ ix, 0 ≤ x ∧ x < ls.length := by
  intro x hx
  simp only [inW, Bool.not_eq_true', List.any_eq_false] at h
  have := h x hx
  simp [inB] at this
  omega
def isT (n : Int) (ls : List Ln) (ix : List Int) : Bool := incB ix && inW ls ix && ((ix.length : Int) == n - 1) && (((reachV n ls ix 0).length : Int) == n)
set_option maxHeartbeats 4000000 in
theorem isTree_ro (n : Int) (ls : List Ln) (ix : List Int) (hN : 1 ≤ n ∧ n ≤ 12) (hn : ls.length ≤ 1048576) (hr : ix.length ≤ 1048576) (hL : ∀ l ∈ ls, 0 ≤ l.a ∧ l.a < n ∧ 0 ≤ l.b ∧ l.b < n) (k : Nat) :
    RO Try.prog 64 [.agg (bkL n ls), .dsl 1 (ix.map inL)] k (.v (.bool (isT n ls ix))) [] k := by
  have hw : IntKind.i64.wrap (n - 1) = n - 1 := IntWalk.i64_in _ (by omega)
  have hll : ((ls.map lnL).length : Int) = (ls.length : Int) := by rw [List.length_map]
  have hw2 : IntKind.i64.wrap (((ls.map lnL).length : Int) - 1) = (ls.length : Int) - 1 := by rw [hll]; exact IntWalk.i64_in _ (by omega)
  have hI := increasing_ro ix hr
  have hA := allWithin_ro ix _ 0 (IntKind.i64.wrap (((ls.map lnL).length : Int) - 1)) rfl hr
  have hq : (!ix.any fun x => !inB x 0 (IntKind.i64.wrap (((ls.map lnL).length : Int) - 1))) = inW ls ix := by rw [hw2]; rfl
  rw [hq] at hA
  have hlx : (((ix.map inL).length : Int) == n - 1) = ((ix.length : Int) == n - 1) := by rw [List.length_map]
  unfold isT
  cases c1 : incB ix with
  | false =>
    refine RO.ofv' Try.func64 Try.ntmps64 rfl (goFn_of Try.func64 rfl (by kernel_rfl)) rfl rfl ?_
    unfold bkL
    ((repeat' (first
    | (show SQ _ _ _ _ _ _ _ _; first | apply sq_nil | (apply q_assign; exact rfl; exact rfl))
    | (show SQ _ _ _ _ _ _ _ _; (first | (apply q_box; exact rfl; exact rfl; exact rfl)); (try simp only [put, rowsOf, plR, List.all_cons, selE, ovr, setH, del, cellsA, splice, isV, List.nil_append, List.cons_append, List.map_cons, List.map_nil, List.length_cons, List.length_nil, List.set_cons_zero, List.set_cons_succ, List.take_succ_cons, List.take_zero, List.take_nil, List.drop_succ_cons, List.drop_zero, List.drop_nil, List.append_nil, List.all_cons, List.all_nil, Bool.and_true, Bool.true_and, Bool.and_false, Bool.false_and, Nat.reduceAdd, Nat.zero_add, Nat.add_zero, Nat.reduceEqDiff, if_true, if_false, reduceIte]))
    | (show DE _ _ _ _ _ _ _ _ _ _ _ _; first | (apply e_move; exact rfl; exact rfl; exact rfl) | (apply e_assign; exact rfl; exact rfl; exact rfl) | (apply e_pick_f; exact rfl; exact rfl; exact rfl; exact (by first | assumption | exact rfl); exact rfl) | (apply e_s; exact rfl; exact rfl; exact rfl; exact (by assumption); exact rfl) | (apply e_s; exact rfl; exact rfl; exact rfl; exact rfl; exact rfl))
    | (show DE _ _ _ _ _ _ _ _ _ _ _ _; (first | (apply dr_nil; exact trivial) | (apply e_callU; exact rfl; exact rfl; exact rfl; exact FzL.of rfl; exact hI _; exact rfl)); (try simp only [put, rowsOf, plR, List.all_cons, selE, ovr, setH, del, cellsA, splice, isV, List.nil_append, List.cons_append, List.map_cons, List.map_nil, List.length_cons, List.length_nil, List.set_cons_zero, List.set_cons_succ, List.take_succ_cons, List.take_zero, List.take_nil, List.drop_succ_cons, List.drop_zero, List.drop_nil, List.append_nil, List.all_cons, List.all_nil, Bool.and_true, Bool.true_and, Bool.and_false, Bool.false_and, Nat.reduceAdd, Nat.zero_add, Nat.add_zero, Nat.reduceEqDiff, if_true, if_false, reduceIte]))
    | (show AW _ _ _ _ _ _ _ _; first | refine aw_region ?_ | (refine aw_seqk ?_; intro K hK) | refine aw_ret ?_ | refine aw_drawE (id := 1) [0, 1, 3, 7, 7, 23, 55, 119, 255, 511, 1023, 2047, 4095, 2047, 10239, 26623, 65535, 131071, 262143, 524287, 524287, 2097151, 4194303, 524287, 8912895, 33554431, 67108863, 134217727] [0, 1, 0, 0, 0, 1, 0, 0, 1, 0, 0, 0, 0, 0, 1, 0, 0, 0, 0, 1, 0, 1, 0, 0, 1, 0, 0, 0] mixed (by kernel_rfl) ?_)
    | refine thn_n ?_
    | (refine hK _ _ _ ?_; clear hK K))); all_goals (repeat (clear hK K)))
    all_goals refine fin_r (fin_b rfl ?_)
    all_goals simp_all
  | true =>
    cases c2 : inW ls ix with
    | false =>
      refine RO.ofv' Try.func64 Try.ntmps64 rfl (goFn_of Try.func64 rfl (by kernel_rfl)) rfl rfl ?_
      unfold bkL
      ((repeat' (first
    | (show SQ _ _ _ _ _ _ _ _; first | apply sq_nil | (apply q_assign; exact rfl; exact rfl))
    | (show SQ _ _ _ _ _ _ _ _; (first | (apply q_box; exact rfl; exact rfl; exact rfl)); (try simp only [put, rowsOf, plR, List.all_cons, selE, ovr, setH, del, cellsA, splice, isV, List.nil_append, List.cons_append, List.map_cons, List.map_nil, List.length_cons, List.length_nil, List.set_cons_zero, List.set_cons_succ, List.take_succ_cons, List.take_zero, List.take_nil, List.drop_succ_cons, List.drop_zero, List.drop_nil, List.append_nil, List.all_cons, List.all_nil, Bool.and_true, Bool.true_and, Bool.and_false, Bool.false_and, Nat.reduceAdd, Nat.zero_add, Nat.add_zero, Nat.reduceEqDiff, if_true, if_false, reduceIte]))
    | (show DE _ _ _ _ _ _ _ _ _ _ _ _; first | (apply e_move; exact rfl; exact rfl; exact rfl) | (apply e_assign; exact rfl; exact rfl; exact rfl) | (apply e_pick_t; exact rfl; exact rfl; exact rfl; exact (by first | assumption | exact rfl); exact rfl) | (apply e_pick_f; exact rfl; exact rfl; exact rfl; exact (by first | assumption | exact rfl); exact rfl) | (apply e_fieldAddr; exact rfl; exact rfl; exact (ty rfl); exact rfl; exact rfl; exact rfl; exact rfl; exact rfl) | (apply e_lend; exact rfl; exact rfl; exact (ty rfl); exact rfl; exact rfl) | (apply e_sub; exact rfl; exact rfl; exact rfl; exact rfl) | (apply e_ld1p; exact rfl; exact rfl; exact (ty rfl); exact rfl; exact rfl; exact (by first | rfl | assumption | ((try simp only [Nat.zero_add]); refine List.getElem?_set_self ?_; (try simp only [List.length_set]); assumption)); exact rfl; exact rfl) | (apply e_g; exact rfl; exact rfl; exact rfl; exact (by assumption)) | (apply e_s; exact rfl; exact rfl; exact rfl; exact (by assumption); exact rfl) | (apply e_s; exact rfl; exact rfl; exact rfl; exact rfl; exact rfl))
    | (show DE _ _ _ _ _ _ _ _ _ _ _ _; (first | (apply dr_nil; exact trivial) | (apply e_callU; exact rfl; exact rfl; exact rfl; exact FzL.of rfl; exact hI _; exact rfl) | (apply e_callU; exact rfl; exact rfl; exact rfl; exact FzL.of rfl; exact hA _; exact rfl)); (try simp only [put, rowsOf, plR, List.all_cons, selE, ovr, setH, del, cellsA, splice, isV, List.nil_append, List.cons_append, List.map_cons, List.map_nil, List.length_cons, List.length_nil, List.set_cons_zero, List.set_cons_succ, List.take_succ_cons, List.take_zero, List.take_nil, List.drop_succ_cons, List.drop_zero, List.drop_nil, List.append_nil, List.all_cons, List.all_nil, Bool.and_true, Bool.true_and, Bool.and_false, Bool.false_and, Nat.reduceAdd, Nat.zero_add, Nat.add_zero, Nat.reduceEqDiff, if_true, if_false, reduceIte]))
    | (show AW _ _ _ _ _ _ _ _; first | refine aw_region ?_ | (refine aw_seqk ?_; intro K hK) | refine aw_ret ?_ | refine aw_drawE (id := 1) [0, 1, 3, 7, 7, 23, 55, 119, 255, 511, 1023, 2047, 4095, 2047, 10239, 26623, 65535, 131071, 262143, 524287, 524287, 2097151, 4194303, 524287, 8912895, 33554431, 67108863, 134217727] [0, 1, 0, 0, 0, 1, 0, 0, 1, 0, 0, 0, 0, 0, 1, 0, 0, 0, 0, 1, 0, 1, 0, 0, 1, 0, 0, 0] mixed (by kernel_rfl) ?_)
    | refine thn_n ?_
    | (refine hK _ _ _ ?_; clear hK K))); all_goals (repeat (clear hK K)))
      all_goals refine fin_r (fin_b rfl ?_)
      all_goals simp_all
    | true =>
      have hRe := reached_ro n ls ix 0 hN hn hr hL (inW_get c2) (by omega)
      refine RO.ofv' Try.func64 Try.ntmps64 rfl (goFn_of Try.func64 rfl (by kernel_rfl)) rfl rfl ?_
      unfold bkL at hRe ⊢
      ((repeat' (first
    | (show SQ _ _ _ _ _ _ _ _; first | apply sq_nil | (apply q_assign; exact rfl; exact rfl))
    | (show SQ _ _ _ _ _ _ _ _; (first | (apply q_box; exact rfl; exact rfl; exact rfl)); (try simp only [put, rowsOf, plR, List.all_cons, selE, ovr, setH, del, cellsA, splice, isV, List.nil_append, List.cons_append, List.map_cons, List.map_nil, List.length_cons, List.length_nil, List.set_cons_zero, List.set_cons_succ, List.take_succ_cons, List.take_zero, List.take_nil, List.drop_succ_cons, List.drop_zero, List.drop_nil, List.append_nil, List.all_cons, List.all_nil, Bool.and_true, Bool.true_and, Bool.and_false, Bool.false_and, Nat.reduceAdd, Nat.zero_add, Nat.add_zero, Nat.reduceEqDiff, if_true, if_false, reduceIte]))
    | (show DE _ _ _ _ _ _ _ _ _ _ _ _; first | (apply e_move; exact rfl; exact rfl; exact rfl) | (apply e_assign; exact rfl; exact rfl; exact rfl) | (apply e_pick_t; exact rfl; exact rfl; exact rfl; exact (by first | assumption | exact rfl); exact rfl) | (apply e_pick_f; exact rfl; exact rfl; exact rfl; exact (by first | assumption | exact rfl); exact rfl) | (apply e_fieldAddr; exact rfl; exact rfl; exact (ty rfl); exact rfl; exact rfl; exact rfl; exact rfl; exact rfl) | (apply e_lend; exact rfl; exact rfl; exact (ty rfl); exact rfl; exact rfl) | (apply e_lenl; exact rfl; exact rfl; exact (ty rfl); exact rfl; exact rfl) | (apply e_sub; exact rfl; exact rfl; exact rfl; exact rfl) | (apply e_eql; exact rfl; exact rfl; exact rfl; exact rfl) | (apply e_ld1p; exact rfl; exact rfl; exact (ty rfl); exact rfl; exact rfl; exact (by first | rfl | assumption | ((try simp only [Nat.zero_add]); refine List.getElem?_set_self ?_; (try simp only [List.length_set]); assumption)); exact rfl; exact rfl) | (apply e_g; exact rfl; exact rfl; exact rfl; exact (by assumption)) | (apply e_s; exact rfl; exact rfl; exact rfl; exact (by assumption); exact rfl))
    | (show DE _ _ _ _ _ _ _ _ _ _ _ _; (first | (apply dr_nil; exact trivial) | (apply e_ldap; exact rfl; exact rfl; exact (ty rfl); exact rfl; exact rfl; exact (by first | rfl | assumption | ((try simp only [Nat.zero_add]); refine List.getElem?_set_self ?_; (try simp only [List.length_set]); assumption)); exact rfl; exact rfl) | (apply e_callU; exact rfl; exact rfl; exact rfl; exact FzL.of rfl; exact hI _; exact rfl) | (apply e_callU; exact rfl; exact rfl; exact rfl; exact FzL.of rfl; exact hA _; exact rfl) | (apply e_callU; exact rfl; exact rfl; exact rfl; exact FzL.of rfl; exact hRe _; exact rfl)); (try simp only [put, rowsOf, plR, List.all_cons, selE, ovr, setH, del, cellsA, splice, isV, List.nil_append, List.cons_append, List.map_cons, List.map_nil, List.length_cons, List.length_nil, List.set_cons_zero, List.set_cons_succ, List.take_succ_cons, List.take_zero, List.take_nil, List.drop_succ_cons, List.drop_zero, List.drop_nil, List.append_nil, List.all_cons, List.all_nil, Bool.and_true, Bool.true_and, Bool.and_false, Bool.false_and, Nat.reduceAdd, Nat.zero_add, Nat.add_zero, Nat.reduceEqDiff, if_true, if_false, reduceIte]))
    | (show DE _ _ _ _ _ _ _ _ _ _ _ _; apply e_gs; exact rfl; exact rfl; exact rfl; exact rfl; all_goals intro h)
    | (show AW _ _ _ _ _ _ _ _; first | refine aw_region ?_ | (refine aw_seqk ?_; intro K hK) | refine aw_ret ?_ | refine aw_drawE (id := 1) [0, 1, 3, 7, 7, 23, 55, 119, 255, 511, 1023, 2047, 4095, 2047, 10239, 26623, 65535, 131071, 262143, 524287, 524287, 2097151, 4194303, 524287, 8912895, 33554431, 67108863, 134217727] [0, 1, 0, 0, 0, 1, 0, 0, 1, 0, 0, 0, 0, 0, 1, 0, 0, 0, 0, 1, 0, 1, 0, 0, 1, 0, 0, 0] mixed (by kernel_rfl) ?_)
    | refine thn_n ?_
    | (refine hK _ _ _ ?_; clear hK K))); all_goals (repeat (clear hK K)))
      all_goals refine fin_r (fin_b rfl ?_)
      all_goals simp_all
def mayT (m : Nat) (ix : List Int) : Nat → List Bool
  | 0 => List.replicate m false
  | i + 1 => (mayT m ix i).set (ix.getD i 0).toNat true
theorem mayT_len (m : Nat) (ix : List Int) : ∀ i, (mayT m ix i).length = m
  | 0 => by simp [mayT]
  | i + 1 => by simp [mayT, mayT_len m ix i]
theorem mayT_get {m : Nat} {ix : List Int} {j : Nat} (hj : j < m) : ∀ i, i ≤ ix.length → ((mayT m ix i).getD j false = true ↔ ∃ t ∈ ix.take i, t.toNat = j)
  | 0, _ => by simp [mayT, List.getD, hj]
  | i + 1, hi => by
    have ih := mayT_get hj i (by omega) (ix := ix)
    have hl := mayT_len m ix i
    rw [List.take_succ_eq_append_getElem (by omega)]
    have hD : ix.getD i 0 = ix[i] := by simp [List.getD, show i < ix.length by omega]
    rw [mayT, hD]
    simp only [List.getD, List.getElem?_set, List.mem_append, List.mem_singleton]
    by_cases e : (ix[i]).toNat = j
    · simp only [e, if_true]
      have : j < (mayT m ix i).length := by omega
      simp only [this, if_true, Option.getD_some, true_iff]
      exact ⟨ix[i], .inr rfl, e⟩
    · simp only [e, if_false]
      rw [List.getD] at ih
      rw [ih]
      constructor
      · rintro ⟨t, ht, h⟩; exact ⟨t, .inl ht, h⟩
      · rintro ⟨t, ht | rfl, h⟩
        · exact ⟨t, ht, h⟩
        · exact absurd h e
def sameP (p : List Int) : Bool := (List.range p.length).all fun k => p.getD k 0 == p.getD 0 0
def trP (n : Int) (ls : List Ln) (ix : List Int) : List Int := parts n ls (mayT ls.length ix ix.length) ls.length
def trS (n : Int) (ls : List Ln) (ix : List Int) : Bool := ((ix.length : Int) == n - 1) && risB ix 0 ((ls.length : Int) - 1) && sameP (trP n ls ix)
set_option maxHeartbeats 4000000 in
theorem l25Tree_ro (n : Int) (ls : List Ln) (ix : List Int) (hN : 1 ≤ n ∧ n ≤ 12) (hn : ls.length ≤ 1048576) (hr : ix.length ≤ 1048576) (hL : ∀ l ∈ ls, 0 ≤ l.a ∧ l.a < n ∧ 0 ≤ l.b ∧ l.b < n) (k : Nat) :
    RO Try.prog 62 [.dptr (bkL n ls), .dsl 1 (ix.map inL)] k (.v (.bool (trS n ls ix))) [] k := by
  have hw : IntKind.i64.wrap (n - 1) = n - 1 := IntWalk.i64_in _ (by omega)
  have hll : ((ls.map lnL).length : Int) = (ls.length : Int) := by rw [List.length_map]
  have hw2 : IntKind.i64.wrap (((ls.map lnL).length : Int) - 1) = (ls.length : Int) - 1 := by rw [hll]; exact IntWalk.i64_in _ (by omega)
  have hR := l00Rises_ro ix 0 (IntKind.i64.wrap (((ls.map lnL).length : Int) - 1)) hr
  have hq : risB ix 0 (IntKind.i64.wrap (((ls.map lnL).length : Int) - 1)) = risB ix 0 ((ls.length : Int) - 1) := by rw [hw2]
  rw [hq] at hR
  unfold trS
  cases c1 : ((ix.length : Int) == n - 1) with
  | false =>
    have b1 : (((ix.map inL).length : Int) != IntKind.i64.wrap (n - 1)) = true := by rw [List.length_map, hw]; simpa using c1
    refine RO.ofv' Try.func62 Try.ntmps62 rfl (goFn_of Try.func62 rfl (by kernel_rfl)) rfl rfl ?_
    unfold bkL
    ((repeat' (first
    | (show SQ _ _ _ _ _ _ _ _; first | apply sq_nil | (apply q_move; exact rfl; exact rfl) | (apply q_assign; exact rfl; exact rfl) | (apply q_pick_t; exact rfl; exact rfl; exact rfl; exact (by first | assumption | exact rfl)) | (apply q_fieldAddr; exact rfl; exact rfl; exact (ty rfl); exact rfl; exact rfl; exact rfl; exact rfl) | (apply q_nilc; exact rfl; exact rfl; exact rfl) | (apply q_lend; exact rfl; exact rfl; exact (ty rfl); exact rfl) | (apply q_sub; exact rfl; exact rfl; exact rfl) | (apply q_neq; exact rfl; exact rfl; exact rfl) | (apply q_ld1d; exact rfl; exact rfl; exact (ty rfl); exact rfl; exact rfl) | (apply q_s; exact rfl; exact rfl; exact rfl; exact (by assumption); exact rfl))
    | (show AW _ _ _ _ _ _ _ _; first | refine aw_region ?_ | (refine aw_seqk ?_; intro K hK) | (apply aw_cond_t; exact rfl; exact rfl) | refine aw_ret ?_)
    | refine thn_n ?_
    | (refine hK _ _ _ ?_; clear hK K)
    | refine thn_r ?_)); all_goals (repeat (clear hK K)))
    all_goals exact fin_r (fin_b rfl rfl)
  | true =>
    have b1 : (((ix.map inL).length : Int) != IntKind.i64.wrap (n - 1)) = false := by rw [List.length_map, hw]; simpa using c1
    cases c2 : risB ix 0 ((ls.length : Int) - 1) with
    | false =>
      have b2 : (!risB ix 0 ((ls.length : Int) - 1)) = true := by rw [c2]; rfl
      refine RO.ofv' Try.func62 Try.ntmps62 rfl (goFn_of Try.func62 rfl (by kernel_rfl)) rfl rfl ?_
      unfold bkL
      ((repeat' (first
    | (show SQ _ _ _ _ _ _ _ _; first | apply sq_nil | (apply q_move; exact rfl; exact rfl) | (apply q_assign; exact rfl; exact rfl) | (apply q_pick_f; exact rfl; exact rfl; exact rfl; exact (by first | assumption | exact rfl)) | (apply q_fieldAddr; exact rfl; exact rfl; exact (ty rfl); exact rfl; exact rfl; exact rfl; exact rfl) | (apply q_nilc; exact rfl; exact rfl; exact rfl) | (apply q_not; exact rfl; exact rfl) | (apply q_lend; exact rfl; exact rfl; exact (ty rfl); exact rfl) | (apply q_sub; exact rfl; exact rfl; exact rfl) | (apply q_neq; exact rfl; exact rfl; exact rfl) | (apply q_ld1d; exact rfl; exact rfl; exact (ty rfl); exact rfl; exact rfl) | (apply q_g; exact rfl; exact rfl; exact rfl; exact (by assumption)))
    | (show SQ _ _ _ _ _ _ _ _; (first | (apply q_callU; exact rfl; exact rfl; exact rfl; exact FzL.of rfl; exact hR _)); (try simp only [put, rowsOf, plR, List.all_cons, selE, ovr, setH, del, cellsA, splice, isV, List.nil_append, List.cons_append, List.map_cons, List.map_nil, List.length_cons, List.length_nil, List.set_cons_zero, List.set_cons_succ, List.take_succ_cons, List.take_zero, List.take_nil, List.drop_succ_cons, List.drop_zero, List.drop_nil, List.append_nil, List.all_cons, List.all_nil, Bool.and_true, Bool.true_and, Bool.and_false, Bool.false_and, Nat.reduceAdd, Nat.zero_add, Nat.add_zero, Nat.reduceEqDiff, if_true, if_false, reduceIte]))
    | (show AW _ _ _ _ _ _ _ _; first | refine aw_region ?_ | (refine aw_seqk ?_; intro K hK) | (apply aw_cond_t; exact rfl; exact (by assumption)) | refine aw_ret ?_)
    | refine thn_n ?_
    | (refine hK _ _ _ ?_; clear hK K)
    | refine thn_r ?_)); all_goals (repeat (clear hK K)))
      all_goals exact fin_r (fin_b rfl rfl)
    | true =>
      have b2 : (!risB ix 0 ((ls.length : Int) - 1)) = false := by rw [c2]; rfl
      have hix : ∀ x ∈ ix, 0 ≤ x ∧ x < ls.length := by
        rw [risB_eq, Bool.and_eq_true] at c2
        exact inW_get c2.2
      have hP := l25Parts_ro n ls (mayT ls.length ix ix.length) hN hn (mayT_len _ _ _) hL
      have hpl : (trP n ls ix).length = n.toNat := parts_len _ _ _ _
      have hPe : parts n ls (mayT ls.length ix ix.length) ls.length = trP n ls ix := rfl
      rw [hPe] at hP
      refine RO.ofv' Try.func62 Try.ntmps62 rfl (goFn_of Try.func62 rfl (by kernel_rfl)) rfl rfl ?_
      unfold bkL at hP ⊢
      ((repeat' (first
    | (show SQ _ _ _ _ _ _ _ _; first | apply sq_nil | (apply q_move; exact rfl; exact rfl) | (apply q_assign; exact rfl; exact rfl) | (apply q_pick_f; exact rfl; exact rfl; exact rfl; exact (by first | assumption | exact rfl)) | (apply q_fieldAddr; exact rfl; exact rfl; exact (ty rfl); exact rfl; exact rfl; exact rfl; exact rfl) | (apply q_nilc; exact rfl; exact rfl; exact rfl) | (apply q_not; exact rfl; exact rfl) | (apply q_lend; exact rfl; exact rfl; exact (ty rfl); exact rfl) | (apply q_sub; exact rfl; exact rfl; exact rfl) | (apply q_neq; exact rfl; exact rfl; exact rfl) | (apply q_ld1d; exact rfl; exact rfl; exact (ty rfl); exact rfl; exact rfl) | (apply q_g; exact rfl; exact rfl; exact rfl; exact (by assumption)))
    | (show SQ _ _ _ _ _ _ _ _; (first | (apply q_mks; exact rfl; exact rfl; exact rfl; exact (ty rfl); exact rfl; exact (by first | omega | (simp; done) | (simp; omega)); exact (by first | omega | (simp; done) | (simp; omega)); exact (by first | omega | (simp; done) | (simp; omega)); exact (by first | omega | (simp; done) | (simp; omega)); exact rfl; exact rfl) | (apply q_callU; exact rfl; exact rfl; exact rfl; exact FzL.of rfl; exact hR _)); (try simp only [put, rowsOf, plR, List.all_cons, selE, ovr, setH, del, cellsA, splice, isV, List.nil_append, List.cons_append, List.map_cons, List.map_nil, List.length_cons, List.length_nil, List.set_cons_zero, List.set_cons_succ, List.take_succ_cons, List.take_zero, List.take_nil, List.drop_succ_cons, List.drop_zero, List.drop_nil, List.append_nil, List.all_cons, List.all_nil, Bool.and_true, Bool.true_and, Bool.and_false, Bool.false_and, Nat.reduceAdd, Nat.zero_add, Nat.add_zero, Nat.reduceEqDiff, if_true, if_false, reduceIte]))
    | (show AW _ _ _ _ _ _ _ _; first | refine aw_region ?_ | (refine aw_seqk ?_; intro K hK) | refine aw_block ?_ | (apply aw_cond_f; exact rfl; exact (by assumption)) | refine aw_skip ?_)
    | refine thn_n ?_
    | (refine hK _ _ _ ?_; clear hK K))); all_goals (repeat (clear hK K)))
      refine aw_loop (ρ := id) (ι := Nat) (fun i => ([(6, .v (.int .i64 i)), (5, .sl 0 0 ls.length), (1, .dsl 1 (ix.map inL)), (0, .dptr [.v (.int .i64 n), .dsl 4 (ls.map lnL)])], [(0, ⟨4, 1, true, (mayT ls.length ix i).map boL⟩)], 1))
        (fun i => i ≤ ix.length) (fun i => ix.length - i) 0 (Nat.zero_le _) ⟨by (repeat (refine ⟨by first | exact lk_i rfl rfl | exact lk_d rfl rfl | exact lk_s rfl rfl (by (try dsimp only); first | rfl | omega | (rw [IntWalk.i64_in _ (by omega)]; first | rfl | omega | (push_cast; omega)) | (simp; done) | (simp; omega)) rfl | exact lk_p rfl rfl, ?_⟩)); exact trivial, by (repeat (refine ⟨by first | exact lkb rfl rfl rfl (by (try dsimp only); first | rfl | (simp only [mayT, List.length_map, List.map_replicate]; rfl) | (simp only [mayT, List.length_map, List.map_replicate, Int.toNat_natCast]; rfl)) rfl, ?_⟩)); exact trivial, by rfl, by exact pin_0⟩ ?_
      intro i hi
      by_cases c3 : i < ix.length
      · have b3 : decide ((i : Int) < ((ix.map inL).length : Int)) = true := by simpa using c3
        have hrow : (ix.map inL)[((i : Int)).toNat]? = some (inL ix[i]) := by simp [c3]
        rw [inL_eq] at hrow
        obtain ⟨x0, x1⟩ := hix ix[i] (List.getElem_mem c3)
        have hml := mayT_len ls.length ix i
        have x2 : ix[i].toNat < (mayT ls.length ix i).length := by omega
        have hr2 : ((mayT ls.length ix i).map boL)[0 + (ix[i]).toNat]? = some (boL (mayT ls.length ix i)[ix[i].toNat]) := by simp [x2]
        rw [boL_eq] at hr2
        have hD : ix.getD i 0 = ix[i] := by simp [List.getD, c3]
        have hw3 : IntKind.i64.wrap ((i : Int) + 1) = ((i + 1 : Nat) : Int) := by rw [IntWalk.i64_in _ (by omega)]; omega
        ((repeat' (first
    | (show SQ _ _ _ _ _ _ _ _; first | apply sq_nil | (apply q_move; exact rfl; exact rfl) | (apply q_assign; exact rfl; exact rfl) | (apply q_lend; exact rfl; exact rfl; exact (ty rfl); exact rfl) | (apply q_add; exact rfl; exact rfl; exact rfl) | (apply q_lss; exact rfl; exact rfl; exact rfl) | (apply q_ixd; exact rfl; exact rfl; exact rfl; exact (ty rfl); exact rfl; exact (by first | omega | (simp; done) | (simp; omega)); exact (by first | omega | (simp; done) | (simp; omega)); exact (by first | rfl | assumption)) | (apply q_ixl; exact rfl; exact rfl; exact rfl; exact (ty rfl); exact rfl; exact rfl; exact rfl; exact (by first | omega | (simp; done) | (simp; omega)); exact (by first | omega | (simp; done) | (simp; omega))) | (apply q_ld1d; exact rfl; exact rfl; exact (ty rfl); exact rfl; exact rfl))
    | (show SQ _ _ _ _ _ _ _ _; (first | (apply q_store; exact rfl; exact rfl; exact (ty rfl); exact rfl; exact (by first | rfl | assumption | ((try simp only [Nat.zero_add]); refine List.getElem?_set_self ?_; (try simp only [List.length_set]); assumption)); exact rfl; exact rfl; exact rfl)); (try simp only [put, rowsOf, plR, List.all_cons, selE, ovr, setH, del, cellsA, splice, isV, List.nil_append, List.cons_append, List.map_cons, List.map_nil, List.length_cons, List.length_nil, List.set_cons_zero, List.set_cons_succ, List.take_succ_cons, List.take_zero, List.take_nil, List.drop_succ_cons, List.drop_zero, List.drop_nil, List.append_nil, List.all_cons, List.all_nil, Bool.and_true, Bool.true_and, Bool.and_false, Bool.false_and, Nat.reduceAdd, Nat.zero_add, Nat.add_zero, Nat.reduceEqDiff, if_true, if_false, reduceIte]))
    | (show AW _ _ _ _ _ _ _ _; first | refine aw_region ?_ | (refine aw_seqk ?_; intro K hK) | refine aw_block ?_ | (apply aw_cond_t; exact rfl; exact (by assumption)) | refine aw_skip ?_)
    | refine thn_n ?_
    | (refine hK _ _ _ ?_; clear hK K)
    | refine inb_n ?_)); all_goals (repeat (clear hK K)))
        all_goals (refine ⟨i + 1, id, c3, by omega, ?_⟩; (try dsimp only); rw [mayT, hD, List.map_set, ← hw3]; exact ⟨by (repeat (refine ⟨by first | exact lk_i rfl rfl | exact lk_d rfl rfl | exact lk_s rfl rfl rfl rfl | exact lk_p rfl rfl, ?_⟩)); exact trivial, by (repeat (refine ⟨by first | exact ⟨rfl, rfl, rfl⟩, ?_⟩)); exact trivial, by rfl, by exact pin_0⟩)
      · have b3 : decide ((i : Int) < ((ix.map inL).length : Int)) = false := by simpa using c3
        obtain rfl : i = ix.length := by omega
        have hml : ((mayT ls.length ix ix.length).map boL).length = ls.length := by rw [List.length_map, mayT_len]
        ((repeat' (first
    | (show SQ _ _ _ _ _ _ _ _; first | apply sq_nil | (apply q_move; exact rfl; exact rfl) | (apply q_assign; exact rfl; exact rfl) | (apply q_lend; exact rfl; exact rfl; exact (ty rfl); exact rfl) | (apply q_lss; exact rfl; exact rfl; exact rfl))
    | (show SQ _ _ _ _ _ _ _ _; (first | (apply q_callU; exact rfl; exact rfl; exact rfl; rotate_left; exact hP _; rotate_right; focus ((repeat' (first | exact FzL.nil | exact (by assumption : FzC _) _ | refine FzL.cons ?_ ?_ | exact Fz.of rfl | exact Fz.nil | exact Fz.emp | (apply Fz.fnC; assumption) | (apply Fz.sl2; exact rfl; exact (by first | omega | (simp; done) | (simp; omega)); first | exact rfl | exact dt_full (by first | omega | (simp; done) | (simp; omega)) | assumption) | apply Fz.agg | (apply Fz.ptrL; exact rfl; first | exact rfl | assumption) | apply Fz.fnL)); done))); (try simp only [put, rowsOf, plR, List.all_cons, selE, ovr, setH, del, cellsA, splice, isV, List.nil_append, List.cons_append, List.map_cons, List.map_nil, List.length_cons, List.length_nil, List.set_cons_zero, List.set_cons_succ, List.take_succ_cons, List.take_zero, List.take_nil, List.drop_succ_cons, List.drop_zero, List.drop_nil, List.append_nil, List.all_cons, List.all_nil, Bool.and_true, Bool.true_and, Bool.and_false, Bool.false_and, Nat.reduceAdd, Nat.zero_add, Nat.add_zero, Nat.reduceEqDiff, if_true, if_false, reduceIte]))
    | (show AW _ _ _ _ _ _ _ _; first | refine aw_region ?_ | (refine aw_seqk ?_; intro K hK) | refine aw_block ?_ | (apply aw_cond_f; exact rfl; exact (by assumption)) | refine aw_exit ?_)
    | refine thn_n ?_
    | (refine hK _ _ _ ?_; clear hK K)
    | refine thn_e ?_
    | refine inb_same ?_
    | (clear hK K; refine hK _ _ _ ?_; clear hK K))); all_goals (repeat (clear hK K)))
        generalize hp0 : trP n ls ix = p at hP hpl ⊢
        refine aw_loop (ρ := id) (ι := Nat) (fun q => ([(8, .v (.int .i64 q)), (7, .sl 1 0 n.toNat)], [(1, ⟨2, 1, true, p.map inL⟩)], 2))
          (fun q => q ≤ n.toNat ∧ ∀ j, j < q → (p.getD j 0 == p.getD 0 0) = true) (fun q => n.toNat - q) 0 ⟨Nat.zero_le _, fun j hj => absurd hj (Nat.not_lt_zero _)⟩ ⟨by (repeat (refine ⟨by first | exact lk_i rfl rfl | exact lk_s rfl rfl rfl rfl, ?_⟩)); exact trivial, by (repeat (refine ⟨by first | exact ⟨rfl, rfl, rfl⟩, ?_⟩)); exact trivial, by rfl, by exact pin_0⟩ ?_
        rintro q ⟨hq, hg⟩
        have hpm : (p.map inL).length = n.toNat := by rw [List.length_map, hpl]
        by_cases c4 : q < n.toNat
        · have b4 : decide ((q : Int) < (n.toNat : Int)) = true := by simp only [decide_eq_true_eq]; omega
          have h0 : (p.map inL)[0 + ((0 : Int)).toNat]? = some (inL (p.getD 0 0)) := by simp [List.getD, show 0 < p.length by omega]
          have hr2 : (p.map inL)[0 + ((q : Int)).toNat]? = some (inL (p.getD q 0)) := by simp [List.getD, show q < p.length by omega]
          rw [inL_eq] at h0 hr2
          ((repeat' (first
    | (show SQ _ _ _ _ _ _ _ _; first | apply sq_nil | (apply q_move; exact rfl; exact rfl) | (apply q_assign; exact rfl; exact rfl) | (apply q_lenl; exact rfl; exact rfl; exact (ty rfl); exact rfl) | (apply q_add; exact rfl; exact rfl; exact rfl) | (apply q_lss; exact rfl; exact rfl; exact rfl))
    | (show DE _ _ _ _ _ _ _ _ _ _ _ _; first | (apply e_move; exact rfl; exact rfl; exact rfl) | (apply e_neq; exact rfl; exact rfl; exact rfl; exact rfl) | (apply e_ixl; exact rfl; exact rfl; exact rfl; exact (ty rfl); exact rfl; exact rfl; exact rfl; exact (by first | omega | (simp; done) | (simp; omega)); exact (by first | omega | (simp; done) | (simp; omega)); exact rfl) | (apply e_ld1p; exact rfl; exact rfl; exact (ty rfl); exact rfl; exact rfl; exact (by first | rfl | assumption | ((try simp only [Nat.zero_add]); refine List.getElem?_set_self ?_; (try simp only [List.length_set]); assumption)); exact rfl; exact rfl))
    | (show DE _ _ _ _ _ _ _ _ _ _ _ _; (first | (apply dr_nil; exact trivial)); (try simp only [put, rowsOf, plR, List.all_cons, selE, ovr, setH, del, cellsA, splice, isV, List.nil_append, List.cons_append, List.map_cons, List.map_nil, List.length_cons, List.length_nil, List.set_cons_zero, List.set_cons_succ, List.take_succ_cons, List.take_zero, List.take_nil, List.drop_succ_cons, List.drop_zero, List.drop_nil, List.append_nil, List.all_cons, List.all_nil, Bool.and_true, Bool.true_and, Bool.and_false, Bool.false_and, Nat.reduceAdd, Nat.zero_add, Nat.add_zero, Nat.reduceEqDiff, if_true, if_false, reduceIte]))
    | (show AW _ _ _ _ _ _ _ _; first | refine aw_region ?_ | (refine aw_seqk ?_; intro K hK) | refine aw_block ?_ | (apply aw_cond_t; exact rfl; exact (by assumption)) | refine aw_ret ?_ | refine aw_skip ?_ | refine aw_drawE (id := 12) [0, 0, 3, 7, 0, 16, 48, 127] [0, 0, 1, 1, 0, 1, 1, 0] mixed (by kernel_rfl) ?_ | (apply aw_ite; exact rfl; all_goals intro h))
    | refine thn_n ?_
    | (refine hK _ _ _ ?_; clear hK K)
    | refine thn_r ?_
    | refine inb_n ?_
    | refine inb_r ?_)); all_goals (repeat (clear hK K)))
          · refine fin_r (fin_b rfl ?_)
            have hf : (p.getD q 0 == p.getD 0 0) = false := by
              have : (p.getD q 0 != p.getD 0 0) = true := ‹_›
              simpa only [bne, Bool.not_eq_true'] using this
            have : sameP p = false := allR_false (by omega) hf
            first | (rw [this]; rfl) | (rw [hp0, this]; rfl)
          · have hf : (p.getD q 0 == p.getD 0 0) = true := by
              have : (p.getD q 0 != p.getD 0 0) = false := ‹_›
              simpa only [bne, Bool.not_eq_false'] using this
            refine ⟨q + 1, id, ⟨c4, fun j hj => ?_⟩, by omega, ?_⟩
            · by_cases hjq : j < q
              · exact hg j hjq
              · obtain rfl : j = q := by omega
                exact hf
            · (try dsimp only); rw [show ((q + 1 : Nat) : Int) = IntKind.i64.wrap ((q : Int) + 1) by rw [IntWalk.i64_in _ (by omega)]; omega]; exact ⟨by (repeat (refine ⟨by first | exact lk_i rfl rfl | exact lk_s rfl rfl rfl rfl, ?_⟩)); exact trivial, by (repeat (refine ⟨by first | exact ⟨rfl, rfl, rfl⟩, ?_⟩)); exact trivial, by rfl, by exact pin_0⟩
        · have b4 : decide ((q : Int) < (n.toNat : Int)) = false := by simp only [decide_eq_false_iff_not]; omega
          ((repeat' (first
    | (show SQ _ _ _ _ _ _ _ _; first | apply sq_nil | (apply q_move; exact rfl; exact rfl) | (apply q_assign; exact rfl; exact rfl) | (apply q_lenl; exact rfl; exact rfl; exact (ty rfl); exact rfl) | (apply q_lss; exact rfl; exact rfl; exact rfl))
    | (show AW _ _ _ _ _ _ _ _; first | refine aw_region ?_ | (refine aw_seqk ?_; intro K hK) | (apply aw_cond_f; exact rfl; exact (by assumption)) | refine aw_ret ?_ | refine aw_exit ?_)
    | refine thn_n ?_
    | (refine hK _ _ _ ?_; clear hK K)
    | refine thn_e ?_
    | refine inb_same ?_
    | (clear hK K; refine hK _ _ _ ?_; clear hK K))); all_goals (repeat (clear hK K)))
          all_goals refine fin_r (fin_b rfl ?_)
          have hT : sameP p = true := allR_true fun j hj => hg j (by omega)
          first | (rw [hT]; rfl) | (rw [hp0, hT]; rfl)
end Go.Proofs.Ytglfcaioapdiaaa.Bk

-- Trees: the law.
namespace Go.Proofs.Ytglfcaioapdiaaa.Bk
open Go Go.RowKit Go.Proofs.Ytglfcaioapdiaaa.Aw
set_option linter.unusedSimpArgs false
set_option linter.unusedVariables false
attribute [local irreducible] AW SQ Step RO RC DE Thn InB

theorem nodup_le : ∀ (l R : List Int), l.Nodup → (∀ x ∈ l, x ∈ R) → l.length ≤ R.length
  | [], _, _, _ => Nat.zero_le _
  | x :: l, R, hd, h => by
    have h2 := List.nodup_cons.1 hd
    have hx := h x List.mem_cons_self
    have ih := nodup_le l (R.erase x) h2.2 fun y hy => (List.mem_erase_of_ne (fun e : y = x => h2.1 (e ▸ hy))).2 (h y (List.mem_cons_of_mem _ hy))
    have := List.length_erase_of_mem hx
    have hp : 0 < R.length := List.length_pos_of_mem hx
    simp only [List.length_cons]
    omega
theorem same_iff {n : Int} {ls : List Ln} {ix : List Int} (hN : 1 ≤ n ∧ n ≤ 12) (hL : ∀ l ∈ ls, 0 ≤ l.a ∧ l.a < n ∧ 0 ≤ l.b ∧ l.b < n) (hix : ∀ x ∈ ix, 0 ≤ x ∧ x < ls.length) :
    sameP (trP n ls ix) = (((reachV n ls ix 0).length : Int) == n) := by
  obtain ⟨hG, hR⟩ := reachV_spec (frm := 0) hL hix (by omega)
  have hpl : (trP n ls ix).length = n.toNat := parts_len _ _ _ _
  have hle := hG.le (by omega)
  have hm : ∀ x, 0 ≤ x → x < n → ((trP n ls ix).getD x.toNat 0 = (trP n ls ix).getD 0 0 ↔ x ∈ reachV n ls ix 0) := fun x h0 h1 => by
    have hc := parts_conn (may := mayT ls.length ix ix.length) hL ls.length (Nat.le_refl _) x 0 h0 h1 (by omega) (by omega)
    have hs : ∀ l, l ∈ act ls (mayT ls.length ix ix.length) ls.length ↔ l ∈ ix.map (lnAt ls) := fun l => by
      simp only [act, List.mem_map, List.mem_filter, List.mem_range]
      constructor
      · rintro ⟨j, ⟨hj, hm⟩, rfl⟩
        obtain ⟨t, ht, rfl⟩ := (mayT_get hj ix.length (Nat.le_refl _)).1 hm
        rw [List.take_length] at ht
        exact ⟨t, ht, rfl⟩
      · rintro ⟨t, ht, rfl⟩
        have := hix t ht
        have hj : t.toNat < ls.length := by omega
        exact ⟨t.toNat, ⟨hj, (mayT_get hj ix.length (Nat.le_refl _)).2 ⟨t, by rw [List.take_length]; exact ht, rfl⟩⟩, rfl⟩
    have : Cn (act ls (mayT ls.length ix ix.length) ls.length) x 0 ↔ Cn (ix.map (lnAt ls)) 0 x :=
      ⟨fun h => (h.mono fun l hl => (hs l).1 hl).symm, fun h => (h.mono fun l hl => (hs l).2 hl).symm⟩
    rw [this, ← hR x] at hc
    exact hc
  rw [Bool.eq_iff_iff]
  simp only [sameP, List.all_eq_true, List.mem_range, beq_iff_eq]
  constructor
  · intro h
    have h1 := nodup_le (part0 n.toNat) (reachV n ls ix 0) (List.Pairwise.map _ (fun a b (hab : a ≠ b) => by omega) List.nodup_range) fun x hx => by
        obtain ⟨j, hj, rfl⟩ := List.mem_map.1 hx
        have hj := List.mem_range.1 hj
        refine (hm (j : Int) (by omega) (by omega)).1 ?_
        have := h j (by omega)
        simpa using this
    rw [part0_len] at h1
    omega
  · intro h j hj
    have h1 : ((j : Int)).toNat = j := by simp
    have := hm (j : Int) (by omega) (by omega)
    rw [h1] at this
    refine this.2 (Classical.byContradiction fun hc => ?_)
    have := pigeon n.toNat ((j : Int) :: reachV n ls ix 0) (List.nodup_cons.2 ⟨hc, hG.1⟩) fun x hx => by
      rcases List.mem_cons.1 hx with rfl | hx
      · omega
      · have := hG.2 x hx; omega
    simp only [List.length_cons] at this
    omega
theorem tree_eq {n : Int} {ls : List Ln} {ix : List Int} (hN : 1 ≤ n ∧ n ≤ 12) (hL : ∀ l ∈ ls, 0 ≤ l.a ∧ l.a < n ∧ 0 ≤ l.b ∧ l.b < n) : trS n ls ix = isT n ls ix := by
  unfold trS isT
  rw [risB_eq]
  cases h : inW ls ix with
  | false => simp only [inW] at h; rw [h]; simp
  | true =>
    have h2 := same_iff hN hL (inW_get h)
    simp only [inW] at h
    rw [h, h2]
    cases incB ix <;> cases ((ix.length : Int) == n - 1) <;> rfl
def itV (n : Int) (ls : List Ln) (ix : List Int) : Bool := bkB n ls && isT n ls ix
set_option maxHeartbeats 4000000 in
theorem implIsTree_ro (n : Int) (ls : List Ln) (ix : List Int) (hn : ls.length ≤ 1048576) (hr : ix.length ≤ 1048576) (k : Nat) : RO Try.prog 41 [.agg (bkL n ls), .dsl 1 (ix.map inL)] k (.v (.bool (itV n ls ix))) [] k := by
  have hok := ValidBackhaul_ro n ls hn
  unfold itV
  cases c1 : bkB n ls with
  | false =>
    refine RO.ofv' Try.func41 Try.ntmps41 rfl (goFn_of Try.func41 rfl (by kernel_rfl)) rfl rfl ?_
    unfold bkL at hok ⊢
    ((repeat' (first
    | (show SQ _ _ _ _ _ _ _ _; first | apply sq_nil | (apply q_move; exact rfl; exact rfl) | (apply q_assign; exact rfl; exact rfl) | (apply q_pick_f; exact rfl; exact rfl; exact rfl; exact (by first | assumption | exact rfl)) | (apply q_s; exact rfl; exact rfl; exact rfl; exact (by assumption); exact rfl))
    | (show SQ _ _ _ _ _ _ _ _; (first | (apply q_ldap; exact rfl; exact rfl; exact (ty rfl); exact rfl; exact rfl; exact (by first | rfl | assumption | ((try simp only [Nat.zero_add]); refine List.getElem?_set_self ?_; (try simp only [List.length_set]); assumption)); exact rfl) | (apply q_box; exact rfl; exact rfl; exact rfl) | (apply q_callU; exact rfl; exact rfl; exact rfl; exact FzL.of rfl; exact hok _)); (try simp only [put, rowsOf, plR, List.all_cons, selE, ovr, setH, del, cellsA, splice, isV, List.nil_append, List.cons_append, List.map_cons, List.map_nil, List.length_cons, List.length_nil, List.set_cons_zero, List.set_cons_succ, List.take_succ_cons, List.take_zero, List.take_nil, List.drop_succ_cons, List.drop_zero, List.drop_nil, List.append_nil, List.all_cons, List.all_nil, Bool.and_true, Bool.true_and, Bool.and_false, Bool.false_and, Nat.reduceAdd, Nat.zero_add, Nat.add_zero, Nat.reduceEqDiff, if_true, if_false, reduceIte]))
    | (show AW _ _ _ _ _ _ _ _; first | refine aw_region ?_ | (refine aw_seqk ?_; intro K hK) | refine aw_ret ?_)
    | refine thn_n ?_
    | (refine hK _ _ _ ?_; clear hK K))); all_goals (repeat (clear hK K)))
    all_goals refine fin_r (fin_b rfl ?_)
    all_goals simp_all
  | true =>
    obtain ⟨hN, hL⟩ := bkB_in c1
    have hT := isTree_ro n ls ix hN hn hr hL
    refine RO.ofv' Try.func41 Try.ntmps41 rfl (goFn_of Try.func41 rfl (by kernel_rfl)) rfl rfl ?_
    unfold bkL at hok hT ⊢
    ((repeat' (first
    | (show SQ _ _ _ _ _ _ _ _; first | apply sq_nil | (apply q_move; exact rfl; exact rfl) | (apply q_assign; exact rfl; exact rfl) | (apply q_pick_t; exact rfl; exact rfl; exact rfl; exact (by first | assumption | exact rfl)) | (apply q_g; exact rfl; exact rfl; exact rfl; exact (by assumption)))
    | (show SQ _ _ _ _ _ _ _ _; (first | (apply q_ldap; exact rfl; exact rfl; exact (ty rfl); exact rfl; exact rfl; exact (by first | rfl | assumption | ((try simp only [Nat.zero_add]); refine List.getElem?_set_self ?_; (try simp only [List.length_set]); assumption)); exact rfl) | (apply q_box; exact rfl; exact rfl; exact rfl) | (apply q_callU; exact rfl; exact rfl; exact rfl; exact FzL.of rfl; exact hok _) | (apply q_callU; exact rfl; exact rfl; exact rfl; exact FzL.of rfl; exact hT _)); (try simp only [put, rowsOf, plR, List.all_cons, selE, ovr, setH, del, cellsA, splice, isV, List.nil_append, List.cons_append, List.map_cons, List.map_nil, List.length_cons, List.length_nil, List.set_cons_zero, List.set_cons_succ, List.take_succ_cons, List.take_zero, List.take_nil, List.drop_succ_cons, List.drop_zero, List.drop_nil, List.append_nil, List.all_cons, List.all_nil, Bool.and_true, Bool.true_and, Bool.and_false, Bool.false_and, Nat.reduceAdd, Nat.zero_add, Nat.add_zero, Nat.reduceEqDiff, if_true, if_false, reduceIte]))
    | (show AW _ _ _ _ _ _ _ _; first | refine aw_region ?_ | (refine aw_seqk ?_; intro K hK) | refine aw_ret ?_)
    | refine thn_n ?_
    | (refine hK _ _ _ ?_; clear hK K))); all_goals (repeat (clear hK K)))
    all_goals refine fin_r (fin_b rfl ?_)
    all_goals simp_all
end Go.Proofs.Ytglfcaioapdiaaa.Bk
