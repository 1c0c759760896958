/-
  What the law FnStatistics rests on, part 3.
-/
import Derived.Test.YtljpgbgokjiamaaZFnStatistics2
namespace Go.Proofs.Ytljpgbgokjiamaa.Il
open Go Go.RowKit Go.Proofs.Ytljpgbgokjiamaa.Aw Go.Proofs.Ytljpgbgokjiamaa.In
set_option linter.unusedSimpArgs false
set_option linter.unusedVariables false
attribute [local irreducible] AW SQ Step RO RC DE Thn InB
def inL (x : Int) : List AV := [.v (.int .i64 x)]
theorem inL_eq (x : Int) : inL x = [.v (.int .i64 x)] := rfl
def szB (n : Nat) (z : Int) : Int := if z - n < 0 then -1 else z - n
def ixG {α : Type} (p : α → Bool) : List α → Int
  | [] => -1
  | x :: xs => if p x then 0 else if ixG p xs < 0 then -1 else ixG p xs + 1
theorem ixG_any {α : Type} (p : α → Bool) : ∀ xs, decide (0 ≤ ixG p xs) = xs.any p
  | [] => rfl
  | x :: xs => by
    have ih := ixG_any p xs
    simp only [ixG, List.any_cons]
    by_cases h : p x
    · simp [h]
    · simp only [h, Bool.false_or, Bool.false_eq_true, if_false]
      rw [← ih]
      split
      · rename_i h2; simp; omega
      · rename_i h2; simp; omega
theorem ixG_at {α : Type} (p : α → Bool) : ∀ (pre : List α) (x : α) (r : List α), (∀ y ∈ pre, p y = false) → p x = true → ixG p (pre ++ x :: r) = pre.length
  | [], x, r, _, h => by simp [ixG, h]
  | y :: pre, x, r, h, hx => by
    have ih := ixG_at p pre x r (fun z hz => h z (List.mem_cons_of_mem _ hz)) hx
    simp only [List.cons_append, ixG, h y List.mem_cons_self, Bool.false_eq_true, if_false, ih]
    rw [if_neg (by omega)]
    simp
theorem ixG_none {α : Type} (p : α → Bool) : ∀ (xs : List α), (∀ y ∈ xs, p y = false) → ixG p xs = -1
  | [], _ => rfl
  | y :: xs, h => by simp [ixG, h y List.mem_cons_self, ixG_none p xs fun z hz => h z (List.mem_cons_of_mem _ hz)]
theorem ixG_hit {α : Type} {p : α → Bool} {xs : List α} {i : Nat} (hi : i < xs.length) (h : ∀ y ∈ xs.take i, p y = false) (hx : p xs[i] = true) : ixG p xs = i := by
  have := ixG_at p (xs.take i) xs[i] (xs.drop (i + 1)) h hx
  rw [← List.drop_eq_getElem_cons hi, List.take_append_drop] at this
  rw [this]; simp; omega
theorem takeS {α : Type} {p : α → Bool} {xs : List α} {i : Nat} (hi : i < xs.length) (h : ∀ y ∈ xs.take i, p y = false) (hx : p xs[i] = false) : ∀ y ∈ xs.take (i + 1), p y = false := by
  intro y hy
  rw [List.take_succ_eq_append_getElem hi] at hy
  rcases List.mem_append.1 hy with h1 | h1
  · exact h y h1
  · simp at h1; subst h1; exact hx
set_option maxHeartbeats 4000000 in
theorem IndexFuncInt_ro (xs : List Int) (rows : List (List AV)) (f : FuncId) (caps : List AV) (p : Int → Bool) (hcap : idsOkL 0 caps = true) (hz : FzC caps) (hrows : rows = xs.map inL) (hf : ∀ x ∈ xs, ∀ m, RO Try.prog f ((.v (.int .i64 x)) :: caps) m (.v (.bool (p x))) [] m) (hn : xs.length ≤ 1048576) (k : Nat) :
    RO Try.prog 58 [.dsl 1 rows, .fn f caps] k (.v (.int .i64 (ixG p xs))) [] k := by
  subst hrows
  refine RO.ofv' Try.func58 Try.ntmps58 rfl (goFn_of Try.func58 rfl (by kernel_rfl)) rfl rfl ?_
  ((repeat' (first
    | (show SQ _ _ _ _ _ _ _ _; first | apply sq_nil | (apply q_move; exact rfl; exact rfl) | (apply q_assign; exact rfl; exact rfl) | (apply q_lend; exact rfl; exact rfl; exact (ty rfl); exact rfl))
    | (show AW _ _ _ _ _ _ _ _; first | refine aw_region ?_ | (refine aw_seqk ?_; intro K hK) | refine aw_block ?_)
    | refine thn_n ?_
    | (refine hK _ _ _ ?_; clear hK K))); all_goals (repeat (clear hK K)))
  refine aw_loop (ρ := id) (ι := Nat) (fun i => ([(8, .v (.int .i64 i)), (7, .v (.int .i64 xs.length)), (1, .fn f caps), (0, .dsl 1 (xs.map inL))], [], 0))
    (fun i => i ≤ xs.length ∧ ∀ y ∈ xs.take i, p y = false) (fun i => xs.length - i) 0 ⟨Nat.zero_le _, by simp⟩ ⟨⟨lk_i rfl rfl, lk_i rfl (by simp), lk_f rfl (renL_id caps) hcap, lk_d rfl rfl, trivial⟩, trivial, rfl, pin_0⟩ ?_
  rintro i ⟨hi, hp⟩
  by_cases c2 : i < xs.length
  · have b2 : decide ((i : Int) < (xs.length : Int)) = true := by simpa using c2
    have hrow : (xs.map inL)[((i : Int)).toNat]? = some (inL xs[i]) := by simp [c2]
    try rw [inL_eq] at hrow
    have hc := hf xs[i] (List.getElem_mem c2)
    by_cases c3 : p xs[i] = true
    · ((repeat' (first
    | (show SQ _ _ _ _ _ _ _ _; first | apply sq_nil | (apply q_move; exact rfl; exact rfl) | (apply q_assign; exact rfl; exact rfl) | (apply q_lss; exact rfl; exact rfl; exact rfl) | (apply q_ixd; exact rfl; exact rfl; exact rfl; exact (ty rfl); exact rfl; exact (by first | omega | (simp; done) | (simp; omega)); exact (by first | omega | (simp; done) | (simp; omega)); exact (by first | rfl | assumption)) | (apply q_ld1d; exact rfl; exact rfl; exact (ty rfl); exact rfl; exact rfl))
    | (show SQ _ _ _ _ _ _ _ _; (first | (apply q_callU; exact rfl; exact rfl; exact rfl; rotate_left; exact hc _; rotate_right; focus ((repeat' (first | exact FzL.nil | exact (by assumption : FzC _) _ | refine FzL.cons ?_ ?_ | exact Fz.of rfl | exact Fz.nil | exact Fz.emp | (apply Fz.fnC; assumption) | (apply Fz.sl2; exact rfl; exact (by first | omega | (simp; done) | (simp; omega)); first | exact rfl | exact dt_full (by first | omega | (simp; done) | (simp; omega)) | assumption) | apply Fz.agg | (apply Fz.ptrL; exact rfl; first | exact rfl | assumption) | apply Fz.fnL)); done))); (try simp only [put, rowsOf, plR, List.all_cons, selE, ovr, setH, del, cellsA, splice, isV, List.nil_append, List.cons_append, List.map_cons, List.map_nil, List.length_cons, List.length_nil, List.set_cons_zero, List.set_cons_succ, List.take_succ_cons, List.take_zero, List.take_nil, List.drop_succ_cons, List.drop_zero, List.drop_nil, List.append_nil, List.all_cons, List.all_nil, Bool.and_true, Bool.true_and, Bool.and_false, Bool.false_and, Nat.reduceAdd, Nat.zero_add, Nat.add_zero, Nat.reduceEqDiff, if_true, if_false, reduceIte]))
    | (show AW _ _ _ _ _ _ _ _; first | refine aw_region ?_ | (refine aw_seqk ?_; intro K hK) | refine aw_block ?_ | (apply aw_cond_t; exact rfl; exact (by assumption)) | refine aw_ret ?_ | refine aw_skip ?_)
    | refine thn_n ?_
    | (refine hK _ _ _ ?_; clear hK K)
    | refine thn_r ?_
    | refine inb_r ?_)); all_goals (repeat (clear hK K)))
      all_goals refine fin_r (fin_i rfl ?_)
      exact (ixG_hit c2 hp c3).symm
    · have c3 : p xs[i] = false := by simpa using c3
      ((repeat' (first
    | (show SQ _ _ _ _ _ _ _ _; first | apply sq_nil | (apply q_move; exact rfl; exact rfl) | (apply q_assign; exact rfl; exact rfl) | (apply q_add; exact rfl; exact rfl; exact rfl) | (apply q_lss; exact rfl; exact rfl; exact rfl) | (apply q_ixd; exact rfl; exact rfl; exact rfl; exact (ty rfl); exact rfl; exact (by first | omega | (simp; done) | (simp; omega)); exact (by first | omega | (simp; done) | (simp; omega)); exact (by first | rfl | assumption)) | (apply q_ld1d; exact rfl; exact rfl; exact (ty rfl); exact rfl; exact rfl))
    | (show SQ _ _ _ _ _ _ _ _; (first | (apply q_callU; exact rfl; exact rfl; exact rfl; rotate_left; exact hc _; rotate_right; focus ((repeat' (first | exact FzL.nil | exact (by assumption : FzC _) _ | refine FzL.cons ?_ ?_ | exact Fz.of rfl | exact Fz.nil | exact Fz.emp | (apply Fz.fnC; assumption) | (apply Fz.sl2; exact rfl; exact (by first | omega | (simp; done) | (simp; omega)); first | exact rfl | exact dt_full (by first | omega | (simp; done) | (simp; omega)) | assumption) | apply Fz.agg | (apply Fz.ptrL; exact rfl; first | exact rfl | assumption) | apply Fz.fnL)); done))); (try simp only [put, rowsOf, plR, List.all_cons, selE, ovr, setH, del, cellsA, splice, isV, List.nil_append, List.cons_append, List.map_cons, List.map_nil, List.length_cons, List.length_nil, List.set_cons_zero, List.set_cons_succ, List.take_succ_cons, List.take_zero, List.take_nil, List.drop_succ_cons, List.drop_zero, List.drop_nil, List.append_nil, List.all_cons, List.all_nil, Bool.and_true, Bool.true_and, Bool.and_false, Bool.false_and, Nat.reduceAdd, Nat.zero_add, Nat.add_zero, Nat.reduceEqDiff, if_true, if_false, reduceIte]))
    | (show AW _ _ _ _ _ _ _ _; first | refine aw_region ?_ | (refine aw_seqk ?_; intro K hK) | refine aw_block ?_ | (apply aw_cond_t; exact rfl; exact (by assumption)) | (apply aw_cond_f; exact rfl; exact (by assumption)) | refine aw_skip ?_)
    | refine thn_n ?_
    | (refine hK _ _ _ ?_; clear hK K)
    | refine inb_n ?_)); all_goals (repeat (clear hK K)))
      refine ⟨i + 1, id, ⟨c2, takeS c2 hp c3⟩, by omega, ⟨lk_i rfl (by rw [IntWalk.i64_in _ (by omega)]; rfl), lk_i rfl rfl, lk_f rfl (renL_id caps) hcap, lk_d rfl rfl, trivial⟩, trivial, rfl, pin_0⟩
  · have b2 : decide ((i : Int) < (xs.length : Int)) = false := by simpa using c2
    ((repeat' (first
    | (show SQ _ _ _ _ _ _ _ _; first | apply sq_nil | (apply q_assign; exact rfl; exact rfl) | (apply q_lss; exact rfl; exact rfl; exact rfl))
    | (show AW _ _ _ _ _ _ _ _; first | refine aw_region ?_ | (refine aw_seqk ?_; intro K hK) | (apply aw_cond_f; exact rfl; exact (by assumption)) | refine aw_ret ?_ | refine aw_exit ?_)
    | refine thn_n ?_
    | (refine hK _ _ _ ?_; clear hK K)
    | refine thn_e ?_
    | refine inb_same ?_
    | (clear hK K; refine hK _ _ _ ?_; clear hK K))); all_goals (repeat (clear hK K)))
    all_goals refine fin_r (fin_i rfl ?_)
    rw [List.take_of_length_le (by omega)] at hp
    exact (ixG_none p xs hp).symm
set_option maxHeartbeats 4000000 in
theorem ContainsFuncInt_ro (xs : List Int) (rows : List (List AV)) (f : FuncId) (caps : List AV) (p : Int → Bool) (hcap : idsOkL 0 caps = true) (hz : FzC caps) (hrows : rows = xs.map inL) (hf : ∀ x ∈ xs, ∀ m, RO Try.prog f (.v (.int .i64 x) :: caps) m (.v (.bool (p x))) [] m) (hn : xs.length ≤ 1048576) (k : Nat) :
    RO Try.prog 51 [.dsl 1 rows, .fn f caps] k (.v (.bool (xs.any p))) [] k := by
  refine RO.ofv' Try.func51 Try.ntmps51 rfl (goFn_of Try.func51 rfl (by kernel_rfl)) rfl rfl ?_
  ((repeat' (first
    | (show SQ _ _ _ _ _ _ _ _; first | apply sq_nil | (apply q_move; exact rfl; exact rfl) | (apply q_assign; exact rfl; exact rfl) | (apply q_geq; exact rfl; exact rfl; exact rfl))
    | (show SQ _ _ _ _ _ _ _ _; (first | (apply q_callU; exact rfl; exact rfl; exact rfl; rotate_left; exact IndexFuncInt_ro xs rows f caps p hcap hz hrows hf hn _; rotate_right; focus ((repeat' (first | exact FzL.nil | exact (by assumption : FzC _) _ | refine FzL.cons ?_ ?_ | exact Fz.of rfl | exact Fz.nil | exact Fz.emp | (apply Fz.fnC; assumption) | (apply Fz.sl2; exact rfl; exact (by first | omega | (simp; done) | (simp; omega)); first | exact rfl | exact dt_full (by first | omega | (simp; done) | (simp; omega)) | assumption) | apply Fz.agg | (apply Fz.ptrL; exact rfl; first | exact rfl | assumption) | apply Fz.fnL)); done))); (try simp only [put, rowsOf, plR, List.all_cons, selE, ovr, setH, del, cellsA, splice, isV, List.nil_append, List.cons_append, List.map_cons, List.map_nil, List.length_cons, List.length_nil, List.set_cons_zero, List.set_cons_succ, List.take_succ_cons, List.take_zero, List.take_nil, List.drop_succ_cons, List.drop_zero, List.drop_nil, List.append_nil, List.all_cons, List.all_nil, Bool.and_true, Bool.true_and, Bool.and_false, Bool.false_and, Nat.reduceAdd, Nat.zero_add, Nat.add_zero, Nat.reduceEqDiff, if_true, if_false, reduceIte]))
    | (show AW _ _ _ _ _ _ _ _; first | refine aw_region ?_ | (refine aw_seqk ?_; intro K hK) | refine aw_ret ?_)
    | refine thn_n ?_
    | (refine hK _ _ _ ?_; clear hK K))); all_goals (repeat (clear hK K)))
  all_goals refine fin_r (fin_b rfl ?_)
  exact ixG_any p xs
set_option maxHeartbeats 4000000 in
theorem awClosure_ro (x lo hi : Int) (k : Nat) : RO Try.prog 52 [.v (.int .i64 x), .dptr [.v (.int .i64 lo)], .dptr [.v (.int .i64 hi)]] k (.v (.bool (!inB x lo hi))) [] k := by
  refine RO.ofv' Try.func52 Try.ntmps52 rfl (goFn_of Try.func52 rfl (by kernel_rfl)) rfl rfl ?_
  ((repeat' (first
    | (show SQ _ _ _ _ _ _ _ _; first | apply sq_nil | (apply q_move; exact rfl; exact rfl) | (apply q_assign; exact rfl; exact rfl) | (apply q_not; exact rfl; exact rfl) | (apply q_ld1d; exact rfl; exact rfl; exact (ty rfl); exact rfl; exact rfl))
    | (show SQ _ _ _ _ _ _ _ _; (first | (apply q_callU; exact rfl; exact rfl; exact rfl; exact FzL.of rfl; exact within_ro _ _ _ _)); (try simp only [put, rowsOf, plR, List.all_cons, selE, ovr, setH, del, cellsA, splice, isV, List.nil_append, List.cons_append, List.map_cons, List.map_nil, List.length_cons, List.length_nil, List.set_cons_zero, List.set_cons_succ, List.take_succ_cons, List.take_zero, List.take_nil, List.drop_succ_cons, List.drop_zero, List.drop_nil, List.append_nil, List.all_cons, List.all_nil, Bool.and_true, Bool.true_and, Bool.and_false, Bool.false_and, Nat.reduceAdd, Nat.zero_add, Nat.add_zero, Nat.reduceEqDiff, if_true, if_false, reduceIte]))
    | (show AW _ _ _ _ _ _ _ _; first | refine aw_region ?_ | (refine aw_seqk ?_; intro K hK) | refine aw_ret ?_)
    | refine thn_n ?_
    | (refine hK _ _ _ ?_; clear hK K))); all_goals (repeat (clear hK K)))
  all_goals exact fin_r (fin_b rfl rfl)
set_option maxHeartbeats 4000000 in
theorem allWithin_ro (xs : List Int) (rows : List (List AV)) (lo hi : Int) (hrows : rows = xs.map inL) (hn : xs.length ≤ 1048576) (k : Nat) : RO Try.prog 30 [.dsl 1 rows, .v (.int .i64 lo), .v (.int .i64 hi)] k (.v (.bool (!xs.any fun x => !inB x lo hi))) [] k := by
  have hC := ContainsFuncInt_ro xs rows 52 [.dptr [.v (.int .i64 lo)], .dptr [.v (.int .i64 hi)]] (fun x => !inB x lo hi) rfl (fun H => FzL.of rfl) hrows (fun x _ m => awClosure_ro x lo hi m) hn
  refine RO.ofv' Try.func30 Try.ntmps30 rfl (goFn_of Try.func30 rfl (by kernel_rfl)) rfl rfl ?_
  ((repeat' (first
    | (show SQ _ _ _ _ _ _ _ _; first | apply sq_nil | (apply q_move; exact rfl; exact rfl) | (apply q_assign; exact rfl; exact rfl) | (apply q_not; exact rfl; exact rfl) | (apply q_mkf; exact rfl; exact rfl))
    | (show SQ _ _ _ _ _ _ _ _; (first | (apply q_box; exact rfl; exact rfl; exact rfl) | (apply q_callU; exact rfl; exact rfl; exact rfl; exact FzL.of rfl; exact hC _)); (try simp only [put, rowsOf, plR, List.all_cons, selE, ovr, setH, del, cellsA, splice, isV, List.nil_append, List.cons_append, List.map_cons, List.map_nil, List.length_cons, List.length_nil, List.set_cons_zero, List.set_cons_succ, List.take_succ_cons, List.take_zero, List.take_nil, List.drop_succ_cons, List.drop_zero, List.drop_nil, List.append_nil, List.all_cons, List.all_nil, Bool.and_true, Bool.true_and, Bool.and_false, Bool.false_and, Nat.reduceAdd, Nat.zero_add, Nat.add_zero, Nat.reduceEqDiff, if_true, if_false, reduceIte]))
    | (show AW _ _ _ _ _ _ _ _; first | refine aw_region ?_ | (refine aw_seqk ?_; intro K hK) | refine aw_ret ?_)
    | refine thn_n ?_
    | (refine hK _ _ _ ?_; clear hK K))); all_goals (repeat (clear hK K)))
  all_goals exact fin_r (fin_b rfl rfl)
end Go.Proofs.Ytljpgbgokjiamaa.Il

namespace Go.Proofs.Ytljpgbgokjiamaa.Il
open Go Go.RowKit Go.Proofs.Ytljpgbgokjiamaa.Aw Go.Proofs.Ytljpgbgokjiamaa.In
set_option linter.unusedSimpArgs false
set_option linter.unusedVariables false
attribute [local irreducible] AW SQ Step RO RC DE Thn InB
theorem allR_false {n : Nat} {f : Nat → Bool} {i : Nat} (hi : i < n) (h : f i = false) : (List.range n).all f = false := by
  cases ha : (List.range n).all f with
  | false => rfl
  | true => have := List.all_eq_true.1 ha i (List.mem_range.2 hi); rw [h] at this; cases this
theorem allR_true {n : Nat} {f : Nat → Bool} (h : ∀ i, i < n → f i = true) : (List.range n).all f = true :=
  List.all_eq_true.2 fun i hi => h i (List.mem_range.1 hi)
def incAt (xs : List Int) (i : Nat) : Bool := decide (i = 0) || decide (xs.getD (i - 1) 0 < xs.getD i 0)
theorem incAt0 (xs : List Int) : incAt xs 0 = true := rfl
def incB (xs : List Int) : Bool := (List.range xs.length).all (incAt xs)
set_option maxHeartbeats 4000000 in
theorem increasing_ro (xs : List Int) (hn : xs.length ≤ 1048576) (k : Nat) : RO Try.prog 40 [.dsl 1 (xs.map inL)] k (.v (.bool (incB xs))) [] k := by
  refine RO.ofv' Try.func40 Try.ntmps40 rfl (goFn_of Try.func40 rfl (by kernel_rfl)) rfl rfl ?_
  ((repeat' (first
    | (show SQ _ _ _ _ _ _ _ _; first | apply sq_nil | (apply q_assign; exact rfl; exact rfl))
    | (show AW _ _ _ _ _ _ _ _; first | refine aw_region ?_ | (refine aw_seqk ?_; intro K hK) | refine aw_block ?_)
    | refine thn_n ?_
    | (refine hK _ _ _ ?_; clear hK K))); all_goals (repeat (clear hK K)))
  refine aw_loop (ρ := id) (ι := Nat) (fun i => ([(3, .v (.int .i64 i)), (0, .dsl 1 (xs.map inL))], [], 0))
    (fun i => 1 ≤ i ∧ ∀ j, j < i → j < xs.length → incAt xs j = true) (fun i => xs.length - i) 1 ⟨Nat.le_refl _, fun j hj _ => (show j = 0 by omega) ▸ incAt0 xs⟩ ⟨by (repeat (refine ⟨by first | exact lk_i rfl rfl | exact lk_d rfl rfl, ?_⟩)); exact trivial, by exact trivial, by rfl, by exact pin_0⟩ ?_
  rintro i ⟨hi, hg⟩
  by_cases c2 : i < xs.length
  · have b2 : decide ((i : Int) < ((xs.map inL).length : Int)) = true := by simpa using c2
    have hrow : (xs.map inL)[((i : Int)).toNat]? = some (inL xs[i]) := by simp [c2]
    have hw2 : IntKind.i64.wrap ((i : Int) - 1) = (i : Int) - 1 := IntWalk.i64_in _ (by omega)
    have hrow2 : (xs.map inL)[(IntKind.i64.wrap ((i : Int) - 1)).toNat]? = some (inL xs[i - 1]) := by
      rw [hw2, show ((i : Int) - 1).toNat = i - 1 by omega]; simp [show i - 1 < xs.length by omega]
    rw [inL_eq] at hrow hrow2
    have hD : incAt xs i = decide (xs[i - 1] < xs[i]) := by simp [incAt, List.getD, c2, show i - 1 < xs.length by omega, show i ≠ 0 by omega]
    ((repeat' (first
    | (show SQ _ _ _ _ _ _ _ _; first | apply sq_nil | (apply q_move; exact rfl; exact rfl) | (apply q_assign; exact rfl; exact rfl) | (apply q_lend; exact rfl; exact rfl; exact (ty rfl); exact rfl) | (apply q_add; exact rfl; exact rfl; exact rfl) | (apply q_lss; exact rfl; exact rfl; exact rfl))
    | (show DE _ _ _ _ _ _ _ _ _ _ _ _; first | (apply e_move; exact rfl; exact rfl; exact rfl) | (apply e_sub; exact rfl; exact rfl; exact rfl; exact rfl) | (apply e_leq; exact rfl; exact rfl; exact rfl; exact rfl) | (apply e_ixd; exact rfl; exact rfl; exact rfl; exact (ty rfl); exact rfl; exact (by first | omega | (simp; done) | (simp; omega)); exact (by first | omega | (simp; done) | (simp; omega)); exact (by first | rfl | assumption); exact rfl) | (apply e_ld1d; exact rfl; exact rfl; exact (ty rfl); exact rfl; exact rfl; exact rfl))
    | (show DE _ _ _ _ _ _ _ _ _ _ _ _; (first | (apply dr_nil; exact trivial)); (try simp only [put, rowsOf, plR, List.all_cons, selE, ovr, setH, del, cellsA, splice, isV, List.nil_append, List.cons_append, List.map_cons, List.map_nil, List.length_cons, List.length_nil, List.set_cons_zero, List.set_cons_succ, List.take_succ_cons, List.take_zero, List.take_nil, List.drop_succ_cons, List.drop_zero, List.drop_nil, List.append_nil, List.all_cons, List.all_nil, Bool.and_true, Bool.true_and, Bool.and_false, Bool.false_and, Nat.reduceAdd, Nat.zero_add, Nat.add_zero, Nat.reduceEqDiff, if_true, if_false, reduceIte]))
    | (show AW _ _ _ _ _ _ _ _; first | refine aw_region ?_ | (refine aw_seqk ?_; intro K hK) | refine aw_block ?_ | (apply aw_cond_t; exact rfl; exact (by assumption)) | refine aw_ret ?_ | refine aw_skip ?_ | refine aw_drawE (id := 4) [0, 0, 3, 7, 0, 0, 32, 112, 240, 511] [0, 0, 0, 1, 0, 0, 0, 0, 1, 0] mixed (by kernel_rfl) ?_ | (apply aw_ite; exact rfl; all_goals intro h))
    | refine thn_n ?_
    | (refine hK _ _ _ ?_; clear hK K)
    | refine thn_r ?_
    | refine inb_n ?_
    | refine inb_r ?_)); all_goals (repeat (clear hK K)))
    all_goals first
      | (refine fin_r (fin_b rfl ?_)
         refine (allR_false c2 ?_).symm
         rw [hD]; simp_all; done)
      | (refine ⟨i + 1, id, ⟨by omega, fun j hj hj2 => ?_⟩, by omega, ⟨by (repeat (refine ⟨by first | exact lk_i rfl (by (try dsimp only); first | rfl | omega | (rw [IntWalk.i64_in _ (by omega)]; first | rfl | omega | (push_cast; omega)) | (simp; done) | (simp; omega)) | exact lk_d rfl rfl, ?_⟩)); exact trivial, by exact trivial, by rfl, by exact pin_0⟩⟩
         by_cases hjq : j < i
         · exact hg j hjq hj2
         · obtain rfl : j = i := by omega
           rw [hD]; simp_all)
  · have b2 : decide ((i : Int) < ((xs.map inL).length : Int)) = false := by simpa using c2
    ((repeat' (first
    | (show SQ _ _ _ _ _ _ _ _; first | apply sq_nil | (apply q_move; exact rfl; exact rfl) | (apply q_assign; exact rfl; exact rfl) | (apply q_lend; exact rfl; exact rfl; exact (ty rfl); exact rfl) | (apply q_lss; exact rfl; exact rfl; exact rfl))
    | (show AW _ _ _ _ _ _ _ _; first | refine aw_region ?_ | (refine aw_seqk ?_; intro K hK) | (apply aw_cond_f; exact rfl; exact (by assumption)) | refine aw_ret ?_ | refine aw_exit ?_)
    | refine thn_n ?_
    | (refine hK _ _ _ ?_; clear hK K)
    | refine thn_e ?_
    | refine inb_same ?_
    | (clear hK K; refine hK _ _ _ ?_; clear hK K))); all_goals (repeat (clear hK K)))
    all_goals refine fin_r (fin_b rfl ?_)
    exact (allR_true fun j hj => hg j (by omega) hj).symm
set_option maxHeartbeats 4000000 in
theorem slIndex_ro (xs : List Int) (rows : List (List AV)) (n : Int) (hrows : rows = xs.map inL) (hn : xs.length ≤ 1048576) (k : Nat) : RO Try.prog 56 [.dsl 1 rows, .v (.int .i64 n)] k (.v (.int .i64 (ixG (fun y => y == n) xs))) [] k := by
  subst hrows
  refine RO.ofv' Try.func56 Try.ntmps56 rfl (goFn_of Try.func56 rfl (by kernel_rfl)) rfl rfl ?_
  ((repeat' (first
    | (show SQ _ _ _ _ _ _ _ _; first | apply sq_nil | (apply q_move; exact rfl; exact rfl) | (apply q_assign; exact rfl; exact rfl) | (apply q_lend; exact rfl; exact rfl; exact (ty rfl); exact rfl))
    | (show AW _ _ _ _ _ _ _ _; first | refine aw_region ?_ | (refine aw_seqk ?_; intro K hK) | refine aw_block ?_)
    | refine thn_n ?_
    | (refine hK _ _ _ ?_; clear hK K))); all_goals (repeat (clear hK K)))
  refine aw_loop (ρ := id) (ι := Nat) (fun i => ([(8, .v (.int .i64 i)), (7, .v (.int .i64 xs.length)), (1, .v (.int .i64 n)), (0, .dsl 1 (xs.map inL))], [], 0))
    (fun i => i ≤ xs.length ∧ ∀ y ∈ xs.take i, (y == n) = false) (fun i => xs.length - i) 0 ⟨Nat.zero_le _, by simp⟩ ⟨⟨lk_i rfl rfl, lk_i rfl (by simp), lk_i rfl rfl, lk_d rfl rfl, trivial⟩, trivial, rfl, pin_0⟩ ?_
  rintro i ⟨hi, hg⟩
  by_cases c2 : i < xs.length
  · have b2 : decide ((i : Int) < (xs.length : Int)) = true := by simpa using c2
    have hrow : (xs.map inL)[((i : Int)).toNat]? = some (inL xs[i]) := by simp [c2]
    rw [inL_eq] at hrow
    have hcm : (n == xs[i]) = (xs[i] == n) := by rw [Bool.eq_iff_iff]; simp only [beq_iff_eq]; exact eq_comm
    ((repeat' (first
    | (show SQ _ _ _ _ _ _ _ _; first | apply sq_nil | (apply q_move; exact rfl; exact rfl) | (apply q_assign; exact rfl; exact rfl) | (apply q_add; exact rfl; exact rfl; exact rfl) | (apply q_eql; exact rfl; exact rfl; exact rfl) | (apply q_lss; exact rfl; exact rfl; exact rfl) | (apply q_ixd; exact rfl; exact rfl; exact rfl; exact (ty rfl); exact rfl; exact (by first | omega | (simp; done) | (simp; omega)); exact (by first | omega | (simp; done) | (simp; omega)); exact (by first | rfl | assumption)) | (apply q_ld1d; exact rfl; exact rfl; exact (ty rfl); exact rfl; exact rfl))
    | (show AW _ _ _ _ _ _ _ _; first | refine aw_region ?_ | (refine aw_seqk ?_; intro K hK) | refine aw_block ?_ | (apply aw_cond_t; exact rfl; exact (by assumption)) | refine aw_ret ?_ | refine aw_skip ?_ | (apply aw_ite; exact rfl; all_goals intro h))
    | refine thn_n ?_
    | (refine hK _ _ _ ?_; clear hK K)
    | refine thn_r ?_
    | refine inb_n ?_
    | refine inb_r ?_)); all_goals (repeat (clear hK K)))
    all_goals first
      | (refine fin_r (fin_i rfl ?_)
         refine (ixG_hit c2 hg ?_).symm
         rw [← hcm]; assumption)
      | (refine ⟨i + 1, id, ⟨c2, takeS c2 hg ?_⟩, by omega, ⟨by (repeat (refine ⟨by first | exact lk_i rfl rfl | exact lk_i rfl (by (try dsimp only); first | rfl | omega | (rw [IntWalk.i64_in _ (by omega)]; first | rfl | omega | (push_cast; omega)) | (simp; done) | (simp; omega)) | exact lk_d rfl rfl, ?_⟩)); exact trivial, by exact trivial, by rfl, by exact pin_0⟩⟩
         rw [← hcm]; assumption)
  · have b2 : decide ((i : Int) < (xs.length : Int)) = false := by simpa using c2
    ((repeat' (first
    | (show SQ _ _ _ _ _ _ _ _; first | apply sq_nil | (apply q_assign; exact rfl; exact rfl) | (apply q_lss; exact rfl; exact rfl; exact rfl))
    | (show AW _ _ _ _ _ _ _ _; first | refine aw_region ?_ | (refine aw_seqk ?_; intro K hK) | (apply aw_cond_f; exact rfl; exact (by assumption)) | refine aw_ret ?_ | refine aw_exit ?_)
    | refine thn_n ?_
    | (refine hK _ _ _ ?_; clear hK K)
    | refine thn_e ?_
    | refine inb_same ?_
    | (clear hK K; refine hK _ _ _ ?_; clear hK K))); all_goals (repeat (clear hK K)))
    all_goals refine fin_r (fin_i rfl ?_)
    rw [List.take_of_length_le (by omega)] at hg
    exact (ixG_none _ xs hg).symm
set_option maxHeartbeats 4000000 in
theorem slContains_ro (xs : List Int) (rows : List (List AV)) (n : Int) (hrows : rows = xs.map inL) (hn : xs.length ≤ 1048576) (k : Nat) : RO Try.prog 41 [.dsl 1 rows, .v (.int .i64 n)] k (.v (.bool (xs.any fun y => y == n))) [] k := by
  refine RO.ofv' Try.func41 Try.ntmps41 rfl (goFn_of Try.func41 rfl (by kernel_rfl)) rfl rfl ?_
  ((repeat' (first
    | (show SQ _ _ _ _ _ _ _ _; first | apply sq_nil | (apply q_move; exact rfl; exact rfl) | (apply q_assign; exact rfl; exact rfl) | (apply q_geq; exact rfl; exact rfl; exact rfl))
    | (show SQ _ _ _ _ _ _ _ _; (first | (apply q_callU; exact rfl; exact rfl; exact rfl; exact FzL.of rfl; exact slIndex_ro xs rows n hrows hn _)); (try simp only [put, rowsOf, plR, List.all_cons, selE, ovr, setH, del, cellsA, splice, isV, List.nil_append, List.cons_append, List.map_cons, List.map_nil, List.length_cons, List.length_nil, List.set_cons_zero, List.set_cons_succ, List.take_succ_cons, List.take_zero, List.take_nil, List.drop_succ_cons, List.drop_zero, List.drop_nil, List.append_nil, List.all_cons, List.all_nil, Bool.and_true, Bool.true_and, Bool.and_false, Bool.false_and, Nat.reduceAdd, Nat.zero_add, Nat.add_zero, Nat.reduceEqDiff, if_true, if_false, reduceIte]))
    | (show AW _ _ _ _ _ _ _ _; first | refine aw_region ?_ | (refine aw_seqk ?_; intro K hK) | refine aw_ret ?_)
    | refine thn_n ?_
    | (refine hK _ _ _ ?_; clear hK K))); all_goals (repeat (clear hK K)))
  all_goals refine fin_r (fin_b rfl ?_)
  exact ixG_any _ xs
end Go.Proofs.Ytljpgbgokjiamaa.Il

namespace Go.Proofs.Ytljpgbgokjiamaa.Aw
open Go Go.RowKit
set_option linter.unusedVariables false
set_option linter.unusedSimpArgs false
section
variable {P : Program} {H : Hp} {N n g : Nat} {T : Tp} {all : Array Oper} {l : List Oper} {G : Tp → Hp → Nat → Prop}
end
section
variable {P : Program} {N n n' : Nat} {all : Array Oper} {l : List Oper} {G : Tp → Hp → Nat → Prop} {T : Tp} {H : Hp} {bs ks : List Nat} {i : Nat} {eff : List (Nat × List (Nat × Option Blk))} {ty : TypeId} {pos : String} {after : Array Edge} {d : Nat}
theorem e_rdi {x y : Operand} {t e : TypeId} {ti : TI} {es eb id row len : Nat} {ez : List Value} {b : Blk} {k : IntKind} {q : Int} (hd : Nat.blt d N = true) (hx : evalA T x = some (.sl id row len)) (hy : evalA T y = some (.v (.int k q))) (hty : tiOf P t = some ti) (hk0 : ti.k = .slice e es eb ez) (hl : look H id = some b) (hb : b.size = es) (h0 : 0 ≤ q) (h1 : q < len)
    (hk : ks.getD i 0 = 0) (hR : (rdP (ks.drop all.size)).contains (i, id) = true) (h : DE P N all bs ks H G (i + 1) eff l ((d, .ptr id (row + q.toNat) 0) :: T) n) : DE P N all bs ks H G i eff (⟨some d, .indexAddr t x y, ty, pos, after, none⟩ :: l) T n :=
  dr_r rfl hd hk hR hl (fun H n hl => s_index_sl rfl hty hk0 (evalR hx (fun t ht => by subst ht; simp [Oper.looksAt, Op.operands, Call.operands])) hl hb (evalR hy (fun t ht => by subst ht; simp [Oper.looksAt, Op.operands, Call.operands])) h0 h1) h
end
theorem WkC.same (cv : AV) : WkC cv cv := .inl rfl
theorem WkC.nil (s : Nat) : WkC (.v (.slice none 0 0)) (.dsl s []) := .inr ⟨s, rfl, rfl⟩
mutual
theorem ren_noOwn (ρ : Nat → Nat) (n : Nat) : ∀ v : AV, noOwn v = true → renA ρ v = v ∧ idsOk n v = true
  | .ptr _ _ _, h => by simp [noOwn] at h
  | .sl _ _ _, h => by simp [noOwn] at h
  | .sx _ _ _ _, h => by simp [noOwn] at h
  | .v _, _ => by simp [renA, idsOk]
  | .dsl _ _, _ => by simp [renA, idsOk]
  | .dptr _, _ => by simp [renA, idsOk]
  | .om _ _, h => by simp [noOwn] at h
  | .emp, _ => by simp [renA, idsOk]
  | .agg cs, h => by simp only [noOwn] at h; have := renL_noOwn ρ n cs h; simp [renA, idsOk, this.1, this.2]
  | .tup cs, h => by simp only [noOwn] at h; have := renL_noOwn ρ n cs h; simp [renA, idsOk, this.1, this.2]
  | .fn _ cs, h => by simp only [noOwn] at h; have := renL_noOwn ρ n cs h; simp [renA, idsOk, this.1, this.2]
theorem renL_noOwn (ρ : Nat → Nat) (n : Nat) : ∀ l : List AV, noOwnL l = true → renL ρ l = l ∧ idsOkL n l = true
  | [], _ => by simp [renL, idsOkL]
  | x :: l, h => by
    simp only [noOwnL, Bool.and_eq_true] at h
    have h1 := ren_noOwn ρ n x h.1
    have h2 := renL_noOwn ρ n l h.2
    simp [renL, idsOkL, h1.1, h1.2, h2.1, h2.2]
end
end Go.Proofs.Ytljpgbgokjiamaa.Aw

namespace Go.Proofs.Ytljpgbgokjiamaa.St
open Go Go.RowKit Go.Proofs.Ytljpgbgokjiamaa.Aw Go.Proofs.Ytljpgbgokjiamaa.In Go.Proofs.Ytljpgbgokjiamaa.Il
set_option linter.unusedSimpArgs false
set_option linter.unusedVariables false
attribute [local irreducible] AW SQ Step RO RC DE Thn InB
structure Ras where
  st : Int
  wd : Int
  ht : Int
  sv : List Int
  lv : List Int
def rasL (r : Ras) : List AV := [.v (.int .i64 r.st), .v (.int .i64 r.wd), .v (.int .i64 r.ht), .dsl 1 (r.sv.map inL), .dsl 1 (r.lv.map inL)]
def Ras.sm (r : Ras) : Prop := r.sv.length ≤ 1048576 ∧ r.lv.length ≤ 1048576
def szB (s w h : Int) : Bool := inB s 1 10000 && (inB w 2 24 && (inB h 2 24 && decide (IntKind.i64.wrap (mxI (IntKind.i64.wrap (w - 1)) (IntKind.i64.wrap (h - 1)) * s) ≤ 200000)))
set_option maxHeartbeats 4000000 in
theorem sizeOk_ro (s w h : Int) (k : Nat) : RO Try.prog 47 [.v (.int .i64 s), .v (.int .i64 w), .v (.int .i64 h)] k (.v (.bool (szB s w h))) [] k := by
  unfold szB
  refine RO.ofv' Try.func47 Try.ntmps47 rfl (goFn_of Try.func47 rfl (by kernel_rfl)) rfl rfl ?_
  ((repeat' (first
    | (show SQ _ _ _ _ _ _ _ _; first | apply sq_nil | (apply q_move; exact rfl; exact rfl) | (apply q_assign; exact rfl; exact rfl) | (apply q_pick_t; exact rfl; exact rfl; exact rfl; exact (by first | assumption | exact rfl)) | (apply q_pick_f; exact rfl; exact rfl; exact rfl; exact (by first | assumption | exact rfl)) | (apply q_max; exact rfl; exact rfl; exact rfl) | (apply q_sub; exact rfl; exact rfl; exact rfl) | (apply q_mul; exact rfl; exact rfl; exact rfl) | (apply q_leq; exact rfl; exact rfl; exact rfl) | (apply q_g; exact rfl; exact rfl; exact rfl; exact (by assumption)) | (apply q_s; exact rfl; exact rfl; exact rfl; exact (by assumption); exact rfl) | (apply q_s; exact rfl; exact rfl; exact rfl; exact rfl; exact rfl))
    | (show SQ _ _ _ _ _ _ _ _; (first | (apply q_callU; exact rfl; exact rfl; exact rfl; exact FzL.of rfl; exact within_ro _ _ _ _)); (try simp only [put, rowsOf, plR, List.all_cons, selE, ovr, setH, del, cellsA, splice, isV, List.nil_append, List.cons_append, List.map_cons, List.map_nil, List.length_cons, List.length_nil, List.set_cons_zero, List.set_cons_succ, List.take_succ_cons, List.take_zero, List.take_nil, List.drop_succ_cons, List.drop_zero, List.drop_nil, List.append_nil, List.all_cons, List.all_nil, Bool.and_true, Bool.true_and, Bool.and_false, Bool.false_and, Nat.reduceAdd, Nat.zero_add, Nat.add_zero, Nat.reduceEqDiff, if_true, if_false, reduceIte]))
    | (show SQ _ _ _ _ _ _ _ _; apply q_gs; exact rfl; exact rfl; exact rfl; exact rfl; all_goals intro h)
    | (show AW _ _ _ _ _ _ _ _; first | refine aw_region ?_ | (refine aw_seqk ?_; intro K hK) | refine aw_ret ?_)
    | refine thn_n ?_
    | (refine hK _ _ _ ?_; clear hK K))); all_goals (repeat (clear hK K)))
  all_goals refine fin_r (fin_b rfl ?_)
  all_goals simp_all
def celB (r : Ras) (i : Nat) : Bool := !(decide (r.sv.getD i 0 < 0) && (r.lv.getD i 0 != -300000))
def preR (r : Ras) : Bool := szB r.st r.wd r.ht && (!(((r.sv.map inL).length : Int) != IntKind.i64.wrap (r.wd * r.ht)) && (!(((r.lv.map inL).length : Int) != ((r.sv.map inL).length : Int)) &&
  ((!r.sv.any fun x => !inB x (-1) 23) && (!r.lv.any fun x => !inB x (-300000) 300000))))
def okR (r : Ras) : Bool := preR r && (List.range r.sv.length).all (celB r)
theorem inL_get {xs : List Int} {i : Nat} (h : i < xs.length) : (xs.map inL)[((i : Int)).toNat]? = some [.v (.int .i64 xs[i])] := by simp [inL, h]
theorem pre_iff {r : Ras} (h : preR r = true) : szB r.st r.wd r.ht = true ∧ (((r.sv.map inL).length : Int) != IntKind.i64.wrap (r.wd * r.ht)) = false ∧ (((r.lv.map inL).length : Int) != ((r.sv.map inL).length : Int)) = false ∧
    (r.sv.any fun x => !inB x (-1) 23) = false ∧ (r.lv.any fun x => !inB x (-300000) 300000) = false := by
  unfold preR at h
  simp only [Bool.and_eq_true, Bool.not_eq_true'] at h
  exact ⟨h.1, h.2.1, h.2.2.1, h.2.2.2.1, h.2.2.2.2⟩
set_option maxHeartbeats 4000000 in
theorem ValidRaster_ro (r : Ras) (hs : r.sm) (k : Nat) : RO Try.prog 26 [.agg (rasL r)] k (.v (.bool (okR r))) [] k := by
  have hZ := sizeOk_ro r.st r.wd r.ht
  have hA := allWithin_ro r.sv (r.sv.map inL) (-1) 23 rfl hs.1
  have hB := allWithin_ro r.lv (r.lv.map inL) (-300000) 300000 rfl hs.2
  have l1 : (r.sv.map inL).length = r.sv.length := List.length_map _
  have l2 : (r.lv.map inL).length = r.lv.length := List.length_map _
  have hsm := hs.1
  by_cases hp : preR r = true
  · obtain ⟨p1, p2, p3, p4, p5⟩ := pre_iff hp
    rw [p1] at hZ
    rw [p4] at hA
    rw [p5] at hB
    have b1 : (!true) = false := rfl
    have b2 : (!(!false)) = false := rfl
    have hlen : r.lv.length = r.sv.length := by
      have := p3
      simp only [l1, l2, bne_eq_false_iff_eq] at this
      omega
    unfold okR
    rw [hp, Bool.true_and]
    generalize hrow0 : rasL r = row0
    have hrow : row0 = [.v (.int .i64 r.st), .v (.int .i64 r.wd), .v (.int .i64 r.ht), .dsl 1 (r.sv.map inL), .dsl 1 (r.lv.map inL)] := hrow0.symm
    subst hrow
    refine RO.ofv' Try.func26 Try.ntmps26 rfl (goFn_of Try.func26 rfl (by kernel_rfl)) rfl rfl ?_
    ((repeat' (first
    | (show SQ _ _ _ _ _ _ _ _; first | apply sq_nil | (apply q_move; exact rfl; exact rfl) | (apply q_assign; exact rfl; exact rfl) | (apply q_pick_f; exact rfl; exact rfl; exact rfl; exact (by first | assumption | exact rfl)) | (apply q_fieldAddr; exact rfl; exact rfl; exact (ty rfl); exact rfl; exact rfl; exact rfl; exact rfl) | (apply q_not; exact rfl; exact rfl) | (apply q_lend; exact rfl; exact rfl; exact (ty rfl); exact rfl) | (apply q_mul; exact rfl; exact rfl; exact rfl) | (apply q_neq; exact rfl; exact rfl; exact rfl) | (apply q_ld1p; exact rfl; exact rfl; exact (ty rfl); exact rfl; exact rfl; exact (by first | rfl | assumption | ((try simp only [Nat.zero_add]); refine List.getElem?_set_self ?_; (try simp only [List.length_set]); assumption)); exact rfl) | (apply q_g; exact rfl; exact rfl; exact rfl; exact (by assumption)))
    | (show SQ _ _ _ _ _ _ _ _; (first | (apply q_box; exact rfl; exact rfl; exact rfl) | (apply q_callU; exact rfl; exact rfl; exact rfl; exact FzL.of rfl; exact hZ _) | (apply q_callU; exact rfl; exact rfl; exact rfl; exact FzL.of rfl; exact hA _) | (apply q_callU; exact rfl; exact rfl; exact rfl; exact FzL.of rfl; exact hB _)); (try simp only [put, rowsOf, plR, List.all_cons, selE, ovr, setH, del, cellsA, splice, isV, List.nil_append, List.cons_append, List.map_cons, List.map_nil, List.length_cons, List.length_nil, List.set_cons_zero, List.set_cons_succ, List.take_succ_cons, List.take_zero, List.take_nil, List.drop_succ_cons, List.drop_zero, List.drop_nil, List.append_nil, List.all_cons, List.all_nil, Bool.and_true, Bool.true_and, Bool.and_false, Bool.false_and, Nat.reduceAdd, Nat.zero_add, Nat.add_zero, Nat.reduceEqDiff, if_true, if_false, reduceIte]))
    | (show AW _ _ _ _ _ _ _ _; first | refine aw_region ?_ | (refine aw_seqk ?_; intro K hK) | refine aw_block ?_ | (apply aw_cond_f; exact rfl; exact rfl) | refine aw_skip ?_)
    | refine thn_n ?_
    | (refine hK _ _ _ ?_; clear hK K))); all_goals (repeat (clear hK K)))
    refine aw_loop (ρ := id) (ι := Nat) (fun i => ([(48, .v (.int .i64 i)), (47, .v (.int .i64 r.sv.length)), (46, .dsl 1 (r.sv.map inL)), (1, .ptr 0 0 0)], [(0, ⟨26, 5, false, [[.v (.int .i64 r.st), .v (.int .i64 r.wd), .v (.int .i64 r.ht), .dsl 1 (r.sv.map inL), .dsl 1 (r.lv.map inL)]]⟩)], 1))
      (fun i => i ≤ r.sv.length ∧ ∀ j, j < i → celB r j = true) (fun i => r.sv.length - i) 0 ⟨Nat.zero_le _, fun j hj => absurd hj (Nat.not_lt_zero _)⟩ ⟨by (repeat (refine ⟨by first | exact lk_i rfl rfl | exact lk_i rfl (by (try dsimp only); first | rfl | omega | (rw [IntWalk.i64_in _ (by omega)]; first | rfl | omega | (push_cast; omega)) | (simp; done) | (simp; omega)) | exact lk_d rfl rfl | exact lk_r rfl rfl rfl, ?_⟩)); exact trivial, by (repeat (refine ⟨by first | exact ⟨rfl, rfl, rfl⟩, ?_⟩)); exact trivial, by rfl, by exact pin_0⟩ ?_
    rintro i ⟨hi, hg⟩
    by_cases c1 : i < r.sv.length
    · have b1 : decide ((i : Int) < (r.sv.length : Int)) = true := by simpa using c1
      have hr1 := inL_get c1
      have c2 : i < r.lv.length := by omega
      have hr2 := inL_get c2
      have hw : IntKind.i64.wrap ((i : Int) + 1) = ((i + 1 : Nat) : Int) := by rw [IntWalk.i64_in _ (by omega)]; omega
      have hG : celB r i = !(decide (r.sv[i] < 0) && (r.lv[i] != -300000)) := by
        unfold celB
        rw [List.getD_eq_getElem?_getD, List.getD_eq_getElem?_getD, List.getElem?_eq_getElem c1, List.getElem?_eq_getElem c2]; rfl
      have next : celB r i = true → ∀ j, j < i + 1 → celB r j = true := fun he j hj => by
        by_cases hjq : j < i
        · exact hg j hjq
        · obtain rfl : j = i := by omega
          exact he
      by_cases d1 : r.sv[i] < 0
      · have e1 : decide (r.sv[i] < 0) = true := by simpa using d1
        cases e2 : (r.lv[i] != -300000) with
        | true =>
          ((repeat' (first
    | (show SQ _ _ _ _ _ _ _ _; first | apply sq_nil | (apply q_move; exact rfl; exact rfl) | (apply q_assign; exact rfl; exact rfl) | (apply q_pick_t; exact rfl; exact rfl; exact rfl; exact (by first | assumption | exact rfl)) | (apply q_fieldAddr; exact rfl; exact rfl; exact (ty rfl); exact rfl; exact rfl; exact rfl; exact rfl) | (apply q_neq; exact rfl; exact rfl; exact rfl) | (apply q_lss; exact rfl; exact rfl; exact rfl) | (apply q_ixd; exact rfl; exact rfl; exact rfl; exact (ty rfl); exact rfl; exact (by first | omega | (simp; done) | (simp; omega)); exact (by first | omega | (simp; done) | (simp; omega)); exact (by first | rfl | assumption)) | (apply q_ld1d; exact rfl; exact rfl; exact (ty rfl); exact rfl; exact rfl) | (apply q_ld1p; exact rfl; exact rfl; exact (ty rfl); exact rfl; exact rfl; exact (by first | rfl | assumption | ((try simp only [Nat.zero_add]); refine List.getElem?_set_self ?_; (try simp only [List.length_set]); assumption)); exact rfl) | (apply q_g; exact rfl; exact rfl; exact rfl; exact (by assumption)))
    | (show AW _ _ _ _ _ _ _ _; first | refine aw_region ?_ | (refine aw_seqk ?_; intro K hK) | refine aw_block ?_ | (apply aw_cond_t; exact rfl; exact (by assumption)) | refine aw_ret ?_ | refine aw_skip ?_)
    | refine thn_n ?_
    | (refine hK _ _ _ ?_; clear hK K)
    | refine thn_r ?_
    | refine inb_r ?_)); all_goals (repeat (clear hK K)))
          all_goals (refine fin_r (fin_b rfl ?_); exact (allR_false (f := celB r) c1 (by rw [hG, e1, e2]; rfl)).symm)
        | false =>
          ((repeat' (first
    | (show SQ _ _ _ _ _ _ _ _; first | apply sq_nil | (apply q_move; exact rfl; exact rfl) | (apply q_assign; exact rfl; exact rfl) | (apply q_pick_t; exact rfl; exact rfl; exact rfl; exact (by first | assumption | exact rfl)) | (apply q_fieldAddr; exact rfl; exact rfl; exact (ty rfl); exact rfl; exact rfl; exact rfl; exact rfl) | (apply q_add; exact rfl; exact rfl; exact rfl) | (apply q_neq; exact rfl; exact rfl; exact rfl) | (apply q_lss; exact rfl; exact rfl; exact rfl) | (apply q_ixd; exact rfl; exact rfl; exact rfl; exact (ty rfl); exact rfl; exact (by first | omega | (simp; done) | (simp; omega)); exact (by first | omega | (simp; done) | (simp; omega)); exact (by first | rfl | assumption)) | (apply q_ld1d; exact rfl; exact rfl; exact (ty rfl); exact rfl; exact rfl) | (apply q_ld1p; exact rfl; exact rfl; exact (ty rfl); exact rfl; exact rfl; exact (by first | rfl | assumption | ((try simp only [Nat.zero_add]); refine List.getElem?_set_self ?_; (try simp only [List.length_set]); assumption)); exact rfl) | (apply q_g; exact rfl; exact rfl; exact rfl; exact (by assumption)))
    | (show AW _ _ _ _ _ _ _ _; first | refine aw_region ?_ | (refine aw_seqk ?_; intro K hK) | refine aw_block ?_ | (apply aw_cond_t; exact rfl; exact (by assumption)) | (apply aw_cond_f; exact rfl; exact (by assumption)) | refine aw_skip ?_)
    | refine thn_n ?_
    | (refine hK _ _ _ ?_; clear hK K)
    | refine inb_n ?_)); all_goals (repeat (clear hK K)))
          refine ⟨i + 1, id, ⟨c1, next (by rw [hG, e1, e2]; rfl)⟩, by omega, ?_⟩
          (try dsimp only); rw [← hw]; exact ⟨by (repeat (refine ⟨by first | exact lk_i rfl rfl | exact lk_d rfl rfl | exact lk_r rfl rfl rfl, ?_⟩)); exact trivial, by (repeat (refine ⟨by first | exact ⟨rfl, rfl, rfl⟩, ?_⟩)); exact trivial, by rfl, by exact pin_0⟩
      · have e1 : decide (r.sv[i] < 0) = false := by simpa using d1
        ((repeat' (first
    | (show SQ _ _ _ _ _ _ _ _; first | apply sq_nil | (apply q_move; exact rfl; exact rfl) | (apply q_assign; exact rfl; exact rfl) | (apply q_pick_f; exact rfl; exact rfl; exact rfl; exact (by first | assumption | exact rfl)) | (apply q_add; exact rfl; exact rfl; exact rfl) | (apply q_lss; exact rfl; exact rfl; exact rfl) | (apply q_ixd; exact rfl; exact rfl; exact rfl; exact (ty rfl); exact rfl; exact (by first | omega | (simp; done) | (simp; omega)); exact (by first | omega | (simp; done) | (simp; omega)); exact (by first | rfl | assumption)) | (apply q_ld1d; exact rfl; exact rfl; exact (ty rfl); exact rfl; exact rfl) | (apply q_s; exact rfl; exact rfl; exact rfl; exact (by assumption); exact rfl))
    | (show AW _ _ _ _ _ _ _ _; first | refine aw_region ?_ | (refine aw_seqk ?_; intro K hK) | refine aw_block ?_ | (apply aw_cond_f; exact rfl; exact rfl) | (apply aw_cond_t; exact rfl; exact (by assumption)) | refine aw_skip ?_)
    | refine thn_n ?_
    | (refine hK _ _ _ ?_; clear hK K)
    | refine inb_n ?_)); all_goals (repeat (clear hK K)))
        refine ⟨i + 1, id, ⟨c1, next (by rw [hG, e1]; rfl)⟩, by omega, ?_⟩
        (try dsimp only); rw [← hw]; exact ⟨by (repeat (refine ⟨by first | exact lk_i rfl rfl | exact lk_d rfl rfl | exact lk_r rfl rfl rfl, ?_⟩)); exact trivial, by (repeat (refine ⟨by first | exact ⟨rfl, rfl, rfl⟩, ?_⟩)); exact trivial, by rfl, by exact pin_0⟩
    · have b1 : decide ((i : Int) < (r.sv.length : Int)) = false := by simpa using c1
      ((repeat' (first
    | (show SQ _ _ _ _ _ _ _ _; first | apply sq_nil | (apply q_assign; exact rfl; exact rfl) | (apply q_lss; exact rfl; exact rfl; exact rfl))
    | (show AW _ _ _ _ _ _ _ _; first | refine aw_region ?_ | (refine aw_seqk ?_; intro K hK) | (apply aw_cond_f; exact rfl; exact (by assumption)) | refine aw_ret ?_ | refine aw_exit ?_)
    | refine thn_n ?_
    | (refine hK _ _ _ ?_; clear hK K)
    | refine thn_e ?_
    | refine inb_same ?_
    | (clear hK K; refine hK _ _ _ ?_; clear hK K))); all_goals (repeat (clear hK K)))
      all_goals refine fin_r (fin_b rfl ?_)
      exact (allR_true (f := celB r) fun j hj => hg j (by omega)).symm
  · have hp' : preR r = false := by simpa using hp
    unfold okR
    rw [hp', Bool.false_and]
    unfold preR at hp'
    unfold rasL
    generalize szB r.st r.wd r.ht = z1 at *
    generalize (r.sv.any fun x => !inB x (-1) 23) = z2 at *
    generalize (r.lv.any fun x => !inB x (-300000) 300000) = z3 at *
    refine RO.ofv' Try.func26 Try.ntmps26 rfl (goFn_of Try.func26 rfl (by kernel_rfl)) rfl rfl ?_
    ((repeat' (first
    | (show SQ _ _ _ _ _ _ _ _; first | apply sq_nil | (apply q_move; exact rfl; exact rfl) | (apply q_assign; exact rfl; exact rfl) | (apply q_pick_t; exact rfl; exact rfl; exact rfl; exact (by first | assumption | exact rfl)) | (apply q_pick_f; exact rfl; exact rfl; exact rfl; exact (by first | assumption | exact rfl)) | (apply q_fieldAddr; exact rfl; exact rfl; exact (ty rfl); exact rfl; exact rfl; exact rfl; exact rfl) | (apply q_not; exact rfl; exact rfl) | (apply q_lend; exact rfl; exact rfl; exact (ty rfl); exact rfl) | (apply q_mul; exact rfl; exact rfl; exact rfl) | (apply q_neq; exact rfl; exact rfl; exact rfl) | (apply q_ld1p; exact rfl; exact rfl; exact (ty rfl); exact rfl; exact rfl; exact (by first | rfl | assumption | ((try simp only [Nat.zero_add]); refine List.getElem?_set_self ?_; (try simp only [List.length_set]); assumption)); exact rfl) | (apply q_g; exact rfl; exact rfl; exact rfl; exact (by assumption)) | (apply q_s; exact rfl; exact rfl; exact rfl; exact (by assumption); exact rfl) | (apply q_s; exact rfl; exact rfl; exact rfl; exact rfl; exact rfl))
    | (show SQ _ _ _ _ _ _ _ _; (first | (apply q_box; exact rfl; exact rfl; exact rfl) | (apply q_callU; exact rfl; exact rfl; exact rfl; exact FzL.of rfl; exact hZ _) | (apply q_callU; exact rfl; exact rfl; exact rfl; exact FzL.of rfl; exact hA _) | (apply q_callU; exact rfl; exact rfl; exact rfl; exact FzL.of rfl; exact hB _)); (try simp only [put, rowsOf, plR, List.all_cons, selE, ovr, setH, del, cellsA, splice, isV, List.nil_append, List.cons_append, List.map_cons, List.map_nil, List.length_cons, List.length_nil, List.set_cons_zero, List.set_cons_succ, List.take_succ_cons, List.take_zero, List.take_nil, List.drop_succ_cons, List.drop_zero, List.drop_nil, List.append_nil, List.all_cons, List.all_nil, Bool.and_true, Bool.true_and, Bool.and_false, Bool.false_and, Nat.reduceAdd, Nat.zero_add, Nat.add_zero, Nat.reduceEqDiff, if_true, if_false, reduceIte]))
    | (show SQ _ _ _ _ _ _ _ _; apply q_gs; exact rfl; exact rfl; exact rfl; exact rfl; all_goals intro h)
    | (show AW _ _ _ _ _ _ _ _; first | refine aw_region ?_ | (refine aw_seqk ?_; intro K hK) | refine aw_block ?_ | (apply aw_cond_t; exact rfl; exact rfl) | refine aw_ret ?_ | refine aw_skip ?_ | (apply aw_ite; exact rfl; all_goals intro h))
    | refine thn_n ?_
    | (refine hK _ _ _ ?_; clear hK K)
    | refine thn_r ?_)); all_goals (repeat (clear hK K)))
    all_goals first
      | (refine fin_r (fin_b rfl ?_); simp_all; done)
      | (exfalso; simp_all; done)
end Go.Proofs.Ytljpgbgokjiamaa.St

namespace Go.Proofs.Ytljpgbgokjiamaa.St
open Go Go.RowKit Go.Proofs.Ytljpgbgokjiamaa.Aw Go.Proofs.Ytljpgbgokjiamaa.In Go.Proofs.Ytljpgbgokjiamaa.Il
set_option linter.unusedSimpArgs false
set_option linter.unusedVariables false
attribute [local irreducible] AW SQ Step RO RC DE Thn InB
set_option maxHeartbeats 4000000 in
theorem sl00In_ro (x lo hi : Int) (k : Nat) : RO Try.prog 49 [.v (.int .i64 x), .v (.int .i64 lo), .v (.int .i64 hi)] k (.v (.bool (inB x lo hi))) [] k := by
  unfold inB
  refine RO.ofv' Try.func49 Try.ntmps49 rfl (goFn_of Try.func49 rfl (by kernel_rfl)) rfl rfl ?_
  ((repeat' (first
    | (show SQ _ _ _ _ _ _ _ _; first | apply sq_nil | (apply q_move; exact rfl; exact rfl) | (apply q_assign; exact rfl; exact rfl) | (apply q_pick_t; exact rfl; exact rfl; exact rfl; exact (by first | assumption | exact rfl)) | (apply q_pick_f; exact rfl; exact rfl; exact rfl; exact (by first | assumption | exact rfl)) | (apply q_leq; exact rfl; exact rfl; exact rfl) | (apply q_geq; exact rfl; exact rfl; exact rfl) | (apply q_g; exact rfl; exact rfl; exact rfl; exact (by assumption)) | (apply q_s; exact rfl; exact rfl; exact rfl; exact (by assumption); exact rfl))
    | (show SQ _ _ _ _ _ _ _ _; apply q_gs; exact rfl; exact rfl; exact rfl; exact rfl; all_goals intro h)
    | (show AW _ _ _ _ _ _ _ _; first | refine aw_region ?_ | (refine aw_seqk ?_; intro K hK) | refine aw_ret ?_)
    | refine thn_n ?_
    | (refine hK _ _ _ ?_; clear hK K))); all_goals (repeat (clear hK K)))
  all_goals refine fin_r (fin_b rfl ?_)
  all_goals (try simp_all)
  all_goals (intro _; omega)
set_option maxHeartbeats 4000000 in
theorem sl02Level_ro (x : Int) (k : Nat) : RO Try.prog 50 [.v (.int .i64 x)] k (.v (.bool (inB x (-300000) 300000))) [] k := by
  refine RO.ofv' Try.func50 Try.ntmps50 rfl (goFn_of Try.func50 rfl (by kernel_rfl)) rfl rfl ?_
  ((repeat' (first
    | (show SQ _ _ _ _ _ _ _ _; first | apply sq_nil | (apply q_move; exact rfl; exact rfl) | (apply q_assign; exact rfl; exact rfl))
    | (show SQ _ _ _ _ _ _ _ _; (first | (apply q_callU; exact rfl; exact rfl; exact rfl; exact FzL.of rfl; exact sl00In_ro _ _ _ _)); (try simp only [put, rowsOf, plR, List.all_cons, selE, ovr, setH, del, cellsA, splice, isV, List.nil_append, List.cons_append, List.map_cons, List.map_nil, List.length_cons, List.length_nil, List.set_cons_zero, List.set_cons_succ, List.take_succ_cons, List.take_zero, List.take_nil, List.drop_succ_cons, List.drop_zero, List.drop_nil, List.append_nil, List.all_cons, List.all_nil, Bool.and_true, Bool.true_and, Bool.and_false, Bool.false_and, Nat.reduceAdd, Nat.zero_add, Nat.add_zero, Nat.reduceEqDiff, if_true, if_false, reduceIte]))
    | (show AW _ _ _ _ _ _ _ _; first | refine aw_region ?_ | (refine aw_seqk ?_; intro K hK) | refine aw_ret ?_)
    | refine thn_n ?_
    | (refine hK _ _ _ ?_; clear hK K))); all_goals (repeat (clear hK K)))
  all_goals exact fin_r (fin_b rfl rfl)
def szS (s w h : Int) : Bool := inB s 1 10000 && (inB w 2 24 && (inB h 2 24 && (decide (IntKind.i64.wrap (IntKind.i64.wrap (w - 1) * s) ≤ 200000) && decide (IntKind.i64.wrap (IntKind.i64.wrap (h - 1) * s) ≤ 200000))))
set_option maxHeartbeats 4000000 in
theorem l04Size_ro (s w h : Int) (k : Nat) : RO Try.prog 48 [.v (.int .i64 s), .v (.int .i64 w), .v (.int .i64 h)] k (.v (.bool (szS s w h))) [] k := by
  unfold szS
  refine RO.ofv' Try.func48 Try.ntmps48 rfl (goFn_of Try.func48 rfl (by kernel_rfl)) rfl rfl ?_
  ((repeat' (first
    | (show SQ _ _ _ _ _ _ _ _; first | apply sq_nil | (apply q_move; exact rfl; exact rfl) | (apply q_assign; exact rfl; exact rfl) | (apply q_pick_t; exact rfl; exact rfl; exact rfl; exact (by first | assumption | exact rfl)) | (apply q_pick_f; exact rfl; exact rfl; exact rfl; exact (by first | assumption | exact rfl)) | (apply q_sub; exact rfl; exact rfl; exact rfl) | (apply q_mul; exact rfl; exact rfl; exact rfl) | (apply q_leq; exact rfl; exact rfl; exact rfl) | (apply q_g; exact rfl; exact rfl; exact rfl; exact (by assumption)) | (apply q_s; exact rfl; exact rfl; exact rfl; exact (by assumption); exact rfl) | (apply q_s; exact rfl; exact rfl; exact rfl; exact rfl; exact rfl))
    | (show SQ _ _ _ _ _ _ _ _; (first | (apply q_callU; exact rfl; exact rfl; exact rfl; exact FzL.of rfl; exact sl00In_ro _ _ _ _)); (try simp only [put, rowsOf, plR, List.all_cons, selE, ovr, setH, del, cellsA, splice, isV, List.nil_append, List.cons_append, List.map_cons, List.map_nil, List.length_cons, List.length_nil, List.set_cons_zero, List.set_cons_succ, List.take_succ_cons, List.take_zero, List.take_nil, List.drop_succ_cons, List.drop_zero, List.drop_nil, List.append_nil, List.all_cons, List.all_nil, Bool.and_true, Bool.true_and, Bool.and_false, Bool.false_and, Nat.reduceAdd, Nat.zero_add, Nat.add_zero, Nat.reduceEqDiff, if_true, if_false, reduceIte]))
    | (show SQ _ _ _ _ _ _ _ _; apply q_gs; exact rfl; exact rfl; exact rfl; exact rfl; all_goals intro h)
    | (show AW _ _ _ _ _ _ _ _; first | refine aw_region ?_ | (refine aw_seqk ?_; intro K hK) | refine aw_ret ?_)
    | refine thn_n ?_
    | (refine hK _ _ _ ?_; clear hK K))); all_goals (repeat (clear hK K)))
  all_goals refine fin_r (fin_b rfl ?_)
  all_goals (try simp_all)
  all_goals (intro _; omega)
theorem szS_eq (s w h : Int) : szS s w h = szB s w h := by
  unfold szS szB
  cases h1 : inB s 1 10000 with
  | false => rfl
  | true =>
  cases h2 : inB w 2 24 with
  | false => rfl
  | true =>
  cases h3 : inB h 2 24 with
  | false => rfl
  | true =>
  simp only [Bool.true_and]
  unfold inB at h1 h2 h3
  simp only [Bool.and_eq_true, decide_eq_true_eq] at h1 h2 h3
  rw [IntWalk.i64_in (w - 1) (by omega), IntWalk.i64_in (h - 1) (by omega)]
  have b1 : 0 ≤ (w - 1) * s := Int.mul_nonneg (by omega) (by omega)
  have b2 : (w - 1) * s ≤ 23 * 10000 := Int.mul_le_mul (by omega) h1.2 (by omega) (by omega)
  have b3 : 0 ≤ (h - 1) * s := Int.mul_nonneg (by omega) (by omega)
  have b4 : (h - 1) * s ≤ 23 * 10000 := Int.mul_le_mul (by omega) h1.2 (by omega) (by omega)
  rw [IntWalk.i64_in ((w - 1) * s) (by omega), IntWalk.i64_in ((h - 1) * s) (by omega)]
  unfold mxI
  split
  · rename_i hlt
    have : (w - 1) * s ≤ (h - 1) * s := Int.mul_le_mul_of_nonneg_right (by omega) (by omega)
    rw [IntWalk.i64_in ((h - 1) * s) (by omega)]
    rw [Bool.eq_iff_iff]; simp only [Bool.and_eq_true, decide_eq_true_eq]; omega
  · rename_i hlt
    have : (h - 1) * s ≤ (w - 1) * s := Int.mul_le_mul_of_nonneg_right (by omega) (by omega)
    rw [IntWalk.i64_in ((w - 1) * s) (by omega)]
    rw [Bool.eq_iff_iff]; simp only [Bool.and_eq_true, decide_eq_true_eq]; omega
def celS (r : Ras) (i : Nat) : Bool := inB (r.sv.getD i 0) (-1) 23 && (inB (r.lv.getD i 0) (-300000) 300000 && celB r i)
def preS (r : Ras) : Bool := szB r.st r.wd r.ht && (!(((r.sv.map inL).length : Int) != IntKind.i64.wrap (r.wd * r.ht)) && !(((r.lv.map inL).length : Int) != ((r.sv.map inL).length : Int)))
def okS (r : Ras) : Bool := preS r && (List.range r.sv.length).all (celS r)
theorem any_not {xs : List Int} {p : Int → Bool} : (!xs.any fun x => !p x) = (List.range xs.length).all fun i => p (xs.getD i 0) := by
  rw [Bool.eq_iff_iff]
  simp only [Bool.not_eq_true', List.any_eq_false, List.all_eq_true, List.mem_range, Bool.not_eq_true]
  constructor
  · intro h i hi
    have := h xs[i] (List.getElem_mem hi)
    rw [List.getD_eq_getElem?_getD, List.getElem?_eq_getElem hi]
    simpa using this
  · intro h x hx
    obtain ⟨i, hi, rfl⟩ := List.getElem_of_mem hx
    have := h i hi
    rw [List.getD_eq_getElem?_getD, List.getElem?_eq_getElem hi] at this
    simpa using this
theorem okS_eq (r : Ras) : okS r = okR r := by
  unfold okS okR preS preR
  cases szB r.st r.wd r.ht with
  | false => rfl
  | true =>
  cases (((r.sv.map inL).length : Int) != IntKind.i64.wrap (r.wd * r.ht)) with
  | true => rfl
  | false =>
  cases h3 : (((r.lv.map inL).length : Int) != ((r.sv.map inL).length : Int)) with
  | true => rfl
  | false =>
  have hlen : r.lv.length = r.sv.length := by
    simp only [List.length_map, bne_eq_false_iff_eq] at h3
    omega
  simp only [Bool.not_false, Bool.true_and]
  rw [any_not, any_not (xs := r.lv), hlen]
  rw [Bool.eq_iff_iff]
  simp only [Bool.and_eq_true, List.all_eq_true, List.mem_range, celS]
  exact ⟨fun h => ⟨⟨fun i hi => (h i hi).1, fun i hi => (h i hi).2.1⟩, fun i hi => (h i hi).2.2⟩, fun h i hi => ⟨h.1.1 i hi, h.1.2 i hi, h.2 i hi⟩⟩
set_option maxHeartbeats 4000000 in
theorem l20Ok_ro (r : Ras) (hs : r.sm) (k : Nat) : RO Try.prog 28 [.dptr (rasL r)] k (.v (.bool (okR r))) [] k := by
  have hZ := l04Size_ro r.st r.wd r.ht
  rw [szS_eq] at hZ
  rw [← okS_eq]
  have l1 : (r.sv.map inL).length = r.sv.length := List.length_map _
  have l2 : (r.lv.map inL).length = r.lv.length := List.length_map _
  have hsm := hs.1
  by_cases hp : preS r = true
  · unfold okS
    rw [hp, Bool.true_and]
    unfold preS at hp
    simp only [Bool.and_eq_true, Bool.not_eq_true'] at hp
    obtain ⟨p1, p2, p3⟩ := hp
    rw [p1] at hZ
    have b1 : (!true) = false := rfl
    have hlen : r.lv.length = r.sv.length := by
      have := p3
      simp only [l1, l2, bne_eq_false_iff_eq] at this
      omega
    generalize hrow0 : rasL r = row0
    have hrow : row0 = [.v (.int .i64 r.st), .v (.int .i64 r.wd), .v (.int .i64 r.ht), .dsl 1 (r.sv.map inL), .dsl 1 (r.lv.map inL)] := hrow0.symm
    subst hrow
    refine RO.ofv' Try.func28 Try.ntmps28 rfl (goFn_of Try.func28 rfl (by kernel_rfl)) rfl rfl ?_
    ((repeat' (first
    | (show SQ _ _ _ _ _ _ _ _; first | apply sq_nil | (apply q_assign; exact rfl; exact rfl))
    | (show DE _ _ _ _ _ _ _ _ _ _ _ _; first | (apply e_move; exact rfl; exact rfl; exact rfl) | (apply e_pick_f; exact rfl; exact rfl; exact rfl; exact (by first | assumption | exact rfl); exact rfl) | (apply e_fieldAddr; exact rfl; exact rfl; exact (ty rfl); exact rfl; exact rfl; exact rfl; exact rfl; exact rfl) | (apply e_nilc; exact rfl; exact rfl; exact rfl; exact rfl) | (apply e_not; exact rfl; exact rfl; exact rfl) | (apply e_lend; exact rfl; exact rfl; exact (ty rfl); exact rfl; exact rfl) | (apply e_mul; exact rfl; exact rfl; exact rfl; exact rfl) | (apply e_neq; exact rfl; exact rfl; exact rfl; exact rfl) | (apply e_ld1d; exact rfl; exact rfl; exact (ty rfl); exact rfl; exact rfl; exact rfl) | (apply e_g; exact rfl; exact rfl; exact rfl; exact (by assumption)))
    | (show DE _ _ _ _ _ _ _ _ _ _ _ _; (first | (apply dr_nil; exact trivial) | (apply e_callU; exact rfl; exact rfl; exact rfl; exact FzL.of rfl; exact hZ _; exact rfl)); (try simp only [put, rowsOf, plR, List.all_cons, selE, ovr, setH, del, cellsA, splice, isV, List.nil_append, List.cons_append, List.map_cons, List.map_nil, List.length_cons, List.length_nil, List.set_cons_zero, List.set_cons_succ, List.take_succ_cons, List.take_zero, List.take_nil, List.drop_succ_cons, List.drop_zero, List.drop_nil, List.append_nil, List.all_cons, List.all_nil, Bool.and_true, Bool.true_and, Bool.and_false, Bool.false_and, Nat.reduceAdd, Nat.zero_add, Nat.add_zero, Nat.reduceEqDiff, if_true, if_false, reduceIte]))
    | (show AW _ _ _ _ _ _ _ _; first | refine aw_region ?_ | (refine aw_seqk ?_; intro K hK) | refine aw_block ?_ | (apply aw_cond_f; exact rfl; exact (by assumption)) | refine aw_skip ?_ | refine aw_drawE (id := 1) [0, 1, 3, 7, 0, 16, 48, 112, 0, 256, 768, 1792, 4095, 8191, 16383, 32767, 65535, 131071, 262143, 524287, 32767, 1081343, 3178495, 7372799, 32767, 16809983, 50364415, 117473279, 267419647, 536870911, 1073741823, 2147483647, 4294967295, 8589934591, 17179869183, 34359738367, 68719476735, 4294967295, 141733920767, 416611827711, 966367641599, 2065879269375, 4398046511103, 8796093022207] [0, 0, 0, 1, 0, 0, 0, 1, 0, 0, 0, 1, 1, 0, 0, 0, 0, 0, 1, 0, 0, 0, 0, 1, 0, 0, 0, 1, 0, 0, 0, 0, 0, 0, 0, 1, 0, 0, 0, 0, 1, 0, 0, 0] mixed (by kernel_rfl) ?_)
    | refine thn_n ?_
    | (refine hK _ _ _ ?_; clear hK K))); all_goals (repeat (clear hK K)))
    refine aw_loop (ρ := id) (ι := Nat) (fun i => ([(3, .v (.int .i64 i)), (0, .dptr [.v (.int .i64 r.st), .v (.int .i64 r.wd), .v (.int .i64 r.ht), .dsl 1 (r.sv.map inL), .dsl 1 (r.lv.map inL)])], [], 0))
      (fun i => i ≤ r.sv.length ∧ ∀ j, j < i → celS r j = true) (fun i => r.sv.length - i) 0 ⟨Nat.zero_le _, fun j hj => absurd hj (Nat.not_lt_zero _)⟩ ⟨by (repeat (refine ⟨by first | exact lk_i rfl rfl | exact lk_p rfl rfl, ?_⟩)); exact trivial, by exact trivial, by rfl, by exact pin_0⟩ ?_
    rintro i ⟨hi, hg⟩
    by_cases c1 : i < r.sv.length
    · have b1 : decide ((i : Int) < ((r.sv.map inL).length : Int)) = true := by rw [l1]; simpa using c1
      have hr1 := inL_get c1
      have c2 : i < r.lv.length := by omega
      have hr2 := inL_get c2
      have hw : IntKind.i64.wrap ((i : Int) + 1) = ((i + 1 : Nat) : Int) := by rw [IntWalk.i64_in _ (by omega)]; omega
      have hG : celS r i = (inB r.sv[i] (-1) 23 && (inB r.lv[i] (-300000) 300000 && !(decide (r.sv[i] < 0) && (r.lv[i] != -300000)))) := by
        unfold celS celB
        rw [List.getD_eq_getElem?_getD, List.getD_eq_getElem?_getD, List.getElem?_eq_getElem c1, List.getElem?_eq_getElem c2]; rfl
      have next : celS r i = true → ∀ j, j < i + 1 → celS r j = true := fun he j hj => by
        by_cases hjq : j < i
        · exact hg j hjq
        · obtain rfl : j = i := by omega
          exact he
      have h1 := sl00In_ro r.sv[i] (-1) 23
      have h2 := sl02Level_ro r.lv[i]
      cases hc : celS r i with
      | true =>
        have hc' := hc
        rw [hG] at hc'
        simp only [Bool.and_eq_true, Bool.not_eq_true'] at hc'
        obtain ⟨q1, q2, q3⟩ := hc'
        rw [q1] at h1
        rw [q2] at h2
        by_cases d1 : r.sv[i] < 0
        · have e1 : decide (r.sv[i] < 0) = true := by simpa using d1
          rw [e1, Bool.true_and] at q3
          ((repeat' (first
    | (show SQ _ _ _ _ _ _ _ _; first | apply sq_nil | (apply q_move; exact rfl; exact rfl) | (apply q_assign; exact rfl; exact rfl) | (apply q_pick_t; exact rfl; exact rfl; exact rfl; exact (by first | assumption | exact rfl)) | (apply q_pick_f; exact rfl; exact rfl; exact rfl; exact (by first | assumption | exact rfl)) | (apply q_fieldAddr; exact rfl; exact rfl; exact (ty rfl); exact rfl; exact rfl; exact rfl; exact rfl) | (apply q_nilc; exact rfl; exact rfl; exact rfl) | (apply q_not; exact rfl; exact rfl) | (apply q_lend; exact rfl; exact rfl; exact (ty rfl); exact rfl) | (apply q_add; exact rfl; exact rfl; exact rfl) | (apply q_neq; exact rfl; exact rfl; exact rfl) | (apply q_lss; exact rfl; exact rfl; exact rfl) | (apply q_ixd; exact rfl; exact rfl; exact rfl; exact (ty rfl); exact rfl; exact (by first | omega | (simp; done) | (simp; omega)); exact (by first | omega | (simp; done) | (simp; omega)); exact (by first | rfl | assumption)) | (apply q_ld1d; exact rfl; exact rfl; exact (ty rfl); exact rfl; exact rfl) | (apply q_g; exact rfl; exact rfl; exact rfl; exact (by assumption)))
    | (show SQ _ _ _ _ _ _ _ _; (first | (apply q_callU; exact rfl; exact rfl; exact rfl; exact FzL.of rfl; exact h1 _) | (apply q_callU; exact rfl; exact rfl; exact rfl; exact FzL.of rfl; exact h2 _)); (try simp only [put, rowsOf, plR, List.all_cons, selE, ovr, setH, del, cellsA, splice, isV, List.nil_append, List.cons_append, List.map_cons, List.map_nil, List.length_cons, List.length_nil, List.set_cons_zero, List.set_cons_succ, List.take_succ_cons, List.take_zero, List.take_nil, List.drop_succ_cons, List.drop_zero, List.drop_nil, List.append_nil, List.all_cons, List.all_nil, Bool.and_true, Bool.true_and, Bool.and_false, Bool.false_and, Nat.reduceAdd, Nat.zero_add, Nat.add_zero, Nat.reduceEqDiff, if_true, if_false, reduceIte]))
    | (show AW _ _ _ _ _ _ _ _; first | refine aw_region ?_ | (refine aw_seqk ?_; intro K hK) | refine aw_block ?_ | (apply aw_cond_t; exact rfl; exact (by assumption)) | (apply aw_cond_f; exact rfl; exact (by assumption)) | refine aw_skip ?_)
    | refine thn_n ?_
    | (refine hK _ _ _ ?_; clear hK K)
    | refine inb_n ?_)); all_goals (repeat (clear hK K)))
          refine ⟨i + 1, id, ⟨c1, next hc⟩, by omega, ?_⟩
          (try dsimp only); rw [← hw]; exact ⟨by (repeat (refine ⟨by first | exact lk_i rfl rfl | exact lk_p rfl rfl, ?_⟩)); exact trivial, by exact trivial, by rfl, by exact pin_0⟩
        · have e1 : decide (r.sv[i] < 0) = false := by simpa using d1
          ((repeat' (first
    | (show SQ _ _ _ _ _ _ _ _; first | apply sq_nil | (apply q_move; exact rfl; exact rfl) | (apply q_assign; exact rfl; exact rfl) | (apply q_pick_f; exact rfl; exact rfl; exact rfl; exact (by first | assumption | exact rfl)) | (apply q_fieldAddr; exact rfl; exact rfl; exact (ty rfl); exact rfl; exact rfl; exact rfl; exact rfl) | (apply q_nilc; exact rfl; exact rfl; exact rfl) | (apply q_not; exact rfl; exact rfl) | (apply q_lend; exact rfl; exact rfl; exact (ty rfl); exact rfl) | (apply q_add; exact rfl; exact rfl; exact rfl) | (apply q_lss; exact rfl; exact rfl; exact rfl) | (apply q_ixd; exact rfl; exact rfl; exact rfl; exact (ty rfl); exact rfl; exact (by first | omega | (simp; done) | (simp; omega)); exact (by first | omega | (simp; done) | (simp; omega)); exact (by first | rfl | assumption)) | (apply q_ld1d; exact rfl; exact rfl; exact (ty rfl); exact rfl; exact rfl) | (apply q_g; exact rfl; exact rfl; exact rfl; exact (by assumption)) | (apply q_s; exact rfl; exact rfl; exact rfl; exact (by assumption); exact rfl))
    | (show SQ _ _ _ _ _ _ _ _; (first | (apply q_callU; exact rfl; exact rfl; exact rfl; exact FzL.of rfl; exact h1 _) | (apply q_callU; exact rfl; exact rfl; exact rfl; exact FzL.of rfl; exact h2 _)); (try simp only [put, rowsOf, plR, List.all_cons, selE, ovr, setH, del, cellsA, splice, isV, List.nil_append, List.cons_append, List.map_cons, List.map_nil, List.length_cons, List.length_nil, List.set_cons_zero, List.set_cons_succ, List.take_succ_cons, List.take_zero, List.take_nil, List.drop_succ_cons, List.drop_zero, List.drop_nil, List.append_nil, List.all_cons, List.all_nil, Bool.and_true, Bool.true_and, Bool.and_false, Bool.false_and, Nat.reduceAdd, Nat.zero_add, Nat.add_zero, Nat.reduceEqDiff, if_true, if_false, reduceIte]))
    | (show AW _ _ _ _ _ _ _ _; first | refine aw_region ?_ | (refine aw_seqk ?_; intro K hK) | refine aw_block ?_ | (apply aw_cond_f; exact rfl; exact rfl) | (apply aw_cond_t; exact rfl; exact (by assumption)) | refine aw_skip ?_)
    | refine thn_n ?_
    | (refine hK _ _ _ ?_; clear hK K)
    | refine inb_n ?_)); all_goals (repeat (clear hK K)))
          refine ⟨i + 1, id, ⟨c1, next hc⟩, by omega, ?_⟩
          (try dsimp only); rw [← hw]; exact ⟨by (repeat (refine ⟨by first | exact lk_i rfl rfl | exact lk_p rfl rfl, ?_⟩)); exact trivial, by exact trivial, by rfl, by exact pin_0⟩
      | false =>
        have hend := allR_false (f := celS r) c1 hc
        rw [hend]
        rw [hG] at hc
        generalize inB r.sv[i] (-1) 23 = u1 at *
        generalize inB r.lv[i] (-300000) 300000 = u2 at *
        ((repeat' (first
    | (show SQ _ _ _ _ _ _ _ _; first | apply sq_nil | (apply q_move; exact rfl; exact rfl) | (apply q_assign; exact rfl; exact rfl) | (apply q_pick_t; exact rfl; exact rfl; exact rfl; exact (by first | assumption | exact rfl)) | (apply q_pick_f; exact rfl; exact rfl; exact rfl; exact (by first | assumption | exact rfl)) | (apply q_fieldAddr; exact rfl; exact rfl; exact (ty rfl); exact rfl; exact rfl; exact rfl; exact rfl) | (apply q_nilc; exact rfl; exact rfl; exact rfl) | (apply q_not; exact rfl; exact rfl) | (apply q_lend; exact rfl; exact rfl; exact (ty rfl); exact rfl) | (apply q_add; exact rfl; exact rfl; exact rfl) | (apply q_neq; exact rfl; exact rfl; exact rfl) | (apply q_lss; exact rfl; exact rfl; exact rfl) | (apply q_ixd; exact rfl; exact rfl; exact rfl; exact (ty rfl); exact rfl; exact (by first | omega | (simp; done) | (simp; omega)); exact (by first | omega | (simp; done) | (simp; omega)); exact (by first | rfl | assumption)) | (apply q_ld1d; exact rfl; exact rfl; exact (ty rfl); exact rfl; exact rfl) | (apply q_g; exact rfl; exact rfl; exact rfl; exact (by assumption)) | (apply q_s; exact rfl; exact rfl; exact rfl; exact (by assumption); exact rfl) | (apply q_s; exact rfl; exact rfl; exact rfl; exact rfl; exact rfl) | (apply q_sU; exact rfl; exact rfl; exact rfl; exact rfl))
    | (show SQ _ _ _ _ _ _ _ _; (first | (apply q_callU; exact rfl; exact rfl; exact rfl; exact FzL.of rfl; exact h1 _) | (apply q_callU; exact rfl; exact rfl; exact rfl; exact FzL.of rfl; exact h2 _)); (try simp only [put, rowsOf, plR, List.all_cons, selE, ovr, setH, del, cellsA, splice, isV, List.nil_append, List.cons_append, List.map_cons, List.map_nil, List.length_cons, List.length_nil, List.set_cons_zero, List.set_cons_succ, List.take_succ_cons, List.take_zero, List.take_nil, List.drop_succ_cons, List.drop_zero, List.drop_nil, List.append_nil, List.all_cons, List.all_nil, Bool.and_true, Bool.true_and, Bool.and_false, Bool.false_and, Nat.reduceAdd, Nat.zero_add, Nat.add_zero, Nat.reduceEqDiff, if_true, if_false, reduceIte]))
    | (show SQ _ _ _ _ _ _ _ _; apply q_gs; exact rfl; exact rfl; exact rfl; exact rfl; all_goals intro h)
    | (show AW _ _ _ _ _ _ _ _; first | refine aw_region ?_ | (refine aw_seqk ?_; intro K hK) | refine aw_block ?_ | (apply aw_cond_t; exact rfl; exact rfl) | (apply aw_cond_f; exact rfl; exact rfl) | (apply aw_cond_t; exact rfl; exact (by assumption)) | refine aw_ret ?_ | refine aw_skip ?_ | (apply aw_ite; exact rfl; all_goals intro h))
    | refine thn_n ?_
    | (refine hK _ _ _ ?_; clear hK K)
    | refine thn_r ?_
    | refine inb_n ?_
    | refine inb_r ?_)); all_goals (repeat (clear hK K)))
        all_goals first
          | (refine fin_r (fin_b rfl rfl); done)
          | (exfalso; simp_all; done)
    · have b1 : decide ((i : Int) < ((r.sv.map inL).length : Int)) = false := by rw [l1]; simpa using c1
      ((repeat' (first
    | (show SQ _ _ _ _ _ _ _ _; first | apply sq_nil | (apply q_move; exact rfl; exact rfl) | (apply q_assign; exact rfl; exact rfl) | (apply q_fieldAddr; exact rfl; exact rfl; exact (ty rfl); exact rfl; exact rfl; exact rfl; exact rfl) | (apply q_nilc; exact rfl; exact rfl; exact rfl) | (apply q_lend; exact rfl; exact rfl; exact (ty rfl); exact rfl) | (apply q_lss; exact rfl; exact rfl; exact rfl) | (apply q_ld1d; exact rfl; exact rfl; exact (ty rfl); exact rfl; exact rfl))
    | (show AW _ _ _ _ _ _ _ _; first | refine aw_region ?_ | (refine aw_seqk ?_; intro K hK) | (apply aw_cond_f; exact rfl; exact (by assumption)) | refine aw_ret ?_ | refine aw_exit ?_)
    | refine thn_n ?_
    | (refine hK _ _ _ ?_; clear hK K)
    | refine thn_e ?_
    | refine inb_same ?_
    | (clear hK K; refine hK _ _ _ ?_; clear hK K))); all_goals (repeat (clear hK K)))
      all_goals refine fin_r (fin_b rfl ?_)
      exact (allR_true (f := celS r) fun j hj => hg j (by omega)).symm
  · have hp' : preS r = false := by simpa using hp
    unfold okS
    rw [hp', Bool.false_and]
    unfold preS at hp'
    unfold rasL
    generalize szB r.st r.wd r.ht = z1 at *
    refine RO.ofv' Try.func28 Try.ntmps28 rfl (goFn_of Try.func28 rfl (by kernel_rfl)) rfl rfl ?_
    ((repeat' (first
    | (show SQ _ _ _ _ _ _ _ _; first | apply sq_nil | (apply q_assign; exact rfl; exact rfl))
    | (show DE _ _ _ _ _ _ _ _ _ _ _ _; first | (apply e_move; exact rfl; exact rfl; exact rfl) | (apply e_pick_t; exact rfl; exact rfl; exact rfl; exact (by first | assumption | exact rfl); exact rfl) | (apply e_pick_f; exact rfl; exact rfl; exact rfl; exact (by first | assumption | exact rfl); exact rfl) | (apply e_fieldAddr; exact rfl; exact rfl; exact (ty rfl); exact rfl; exact rfl; exact rfl; exact rfl; exact rfl) | (apply e_nilc; exact rfl; exact rfl; exact rfl; exact rfl) | (apply e_not; exact rfl; exact rfl; exact rfl) | (apply e_lend; exact rfl; exact rfl; exact (ty rfl); exact rfl; exact rfl) | (apply e_mul; exact rfl; exact rfl; exact rfl; exact rfl) | (apply e_neq; exact rfl; exact rfl; exact rfl; exact rfl) | (apply e_ld1d; exact rfl; exact rfl; exact (ty rfl); exact rfl; exact rfl; exact rfl) | (apply e_g; exact rfl; exact rfl; exact rfl; exact (by assumption)) | (apply e_s; exact rfl; exact rfl; exact rfl; exact (by assumption); exact rfl) | (apply e_s; exact rfl; exact rfl; exact rfl; exact rfl; exact rfl))
    | (show DE _ _ _ _ _ _ _ _ _ _ _ _; (first | (apply dr_nil; exact trivial) | (apply e_callU; exact rfl; exact rfl; exact rfl; exact FzL.of rfl; exact hZ _; exact rfl)); (try simp only [put, rowsOf, plR, List.all_cons, selE, ovr, setH, del, cellsA, splice, isV, List.nil_append, List.cons_append, List.map_cons, List.map_nil, List.length_cons, List.length_nil, List.set_cons_zero, List.set_cons_succ, List.take_succ_cons, List.take_zero, List.take_nil, List.drop_succ_cons, List.drop_zero, List.drop_nil, List.append_nil, List.all_cons, List.all_nil, Bool.and_true, Bool.true_and, Bool.and_false, Bool.false_and, Nat.reduceAdd, Nat.zero_add, Nat.add_zero, Nat.reduceEqDiff, if_true, if_false, reduceIte]))
    | (show DE _ _ _ _ _ _ _ _ _ _ _ _; apply e_gs; exact rfl; exact rfl; exact rfl; exact rfl; all_goals intro h)
    | (show AW _ _ _ _ _ _ _ _; first | refine aw_region ?_ | (refine aw_seqk ?_; intro K hK) | refine aw_block ?_ | (apply aw_cond_t; exact rfl; exact rfl) | refine aw_ret ?_ | refine aw_skip ?_ | refine aw_drawE (id := 1) [0, 1, 3, 7, 0, 16, 48, 112, 0, 256, 768, 1792, 4095, 8191, 16383, 32767, 65535, 131071, 262143, 524287, 32767, 1081343, 3178495, 7372799, 32767, 16809983, 50364415, 117473279, 267419647, 536870911, 1073741823, 2147483647, 4294967295, 8589934591, 17179869183, 34359738367, 68719476735, 4294967295, 141733920767, 416611827711, 966367641599, 2065879269375, 4398046511103, 8796093022207] [0, 0, 0, 1, 0, 0, 0, 1, 0, 0, 0, 1, 1, 0, 0, 0, 0, 0, 1, 0, 0, 0, 0, 1, 0, 0, 0, 1, 0, 0, 0, 0, 0, 0, 0, 1, 0, 0, 0, 0, 1, 0, 0, 0] mixed (by kernel_rfl) ?_ | (apply aw_ite; exact rfl; all_goals intro h))
    | refine thn_n ?_
    | (refine hK _ _ _ ?_; clear hK K)
    | refine thn_r ?_)); all_goals (repeat (clear hK K)))
    all_goals first
      | (refine fin_r (fin_b rfl ?_); simp_all; done)
      | (exfalso; simp_all; done)
set_option maxHeartbeats 4000000 in
theorem specValidRaster_ro (r : Ras) (hs : r.sm) (k : Nat) : RO Try.prog 7 [.agg (rasL r)] k (.v (.bool (okR r))) [] k := by
  have h := l20Ok_ro r hs
  unfold rasL at *
  refine RO.ofv' Try.func7 Try.ntmps7 rfl (goFn_of Try.func7 rfl (by kernel_rfl)) rfl rfl ?_
  ((repeat' (first
    | (show SQ _ _ _ _ _ _ _ _; first | apply sq_nil | (apply q_assign; exact rfl; exact rfl))
    | (show SQ _ _ _ _ _ _ _ _; (first | (apply q_box; exact rfl; exact rfl; exact rfl) | (apply q_callU; exact rfl; exact rfl; exact rfl; exact FzL.of rfl; exact h _)); (try simp only [put, rowsOf, plR, List.all_cons, selE, ovr, setH, del, cellsA, splice, isV, List.nil_append, List.cons_append, List.map_cons, List.map_nil, List.length_cons, List.length_nil, List.set_cons_zero, List.set_cons_succ, List.take_succ_cons, List.take_zero, List.take_nil, List.drop_succ_cons, List.drop_zero, List.drop_nil, List.append_nil, List.all_cons, List.all_nil, Bool.and_true, Bool.true_and, Bool.and_false, Bool.false_and, Nat.reduceAdd, Nat.zero_add, Nat.add_zero, Nat.reduceEqDiff, if_true, if_false, reduceIte]))
    | (show AW _ _ _ _ _ _ _ _; first | refine aw_region ?_ | (refine aw_seqk ?_; intro K hK) | refine aw_ret ?_)
    | refine thn_n ?_
    | (refine hK _ _ _ ?_; clear hK K))); all_goals (repeat (clear hK K)))
  all_goals exact fin_r (fin_b rfl rfl)
end Go.Proofs.Ytljpgbgokjiamaa.St

namespace Go.Proofs.Ytljpgbgokjiamaa.St
open Go Go.RowKit Go.Proofs.Ytljpgbgokjiamaa.Aw Go.Proofs.Ytljpgbgokjiamaa.In Go.Proofs.Ytljpgbgokjiamaa.Il
set_option linter.unusedSimpArgs false
set_option linter.unusedVariables false
attribute [local irreducible] AW SQ Step RO RC DE Thn InB
def covF (sv : List Int) (i : Nat) : List Int := ((List.range i).filter fun j => decide (0 ≤ sv.getD j 0)).map fun j : Nat => (j : Int)
def covL (r : Ras) : List Int := covF r.sv r.sv.length
theorem covF_succ (sv : List Int) (i : Nat) : covF sv (i + 1) = if 0 ≤ sv.getD i 0 then covF sv i ++ [(i : Int)] else covF sv i := by
  unfold covF
  rw [List.range_succ, List.filter_append, List.map_append]
  by_cases h : 0 ≤ sv.getD i 0
  · have e : decide (0 ≤ sv.getD i 0) = true := decide_eq_true h
    rw [if_pos h, List.filter_cons, if_pos e]; rfl
  · have e : ¬ decide (0 ≤ sv.getD i 0) = true := by rw [decide_eq_true_iff]; exact h
    rw [if_neg h, List.filter_cons, if_neg e]; simp
theorem covF_len (sv : List Int) (i : Nat) : (covF sv i).length ≤ i := by
  unfold covF
  rw [List.length_map]
  have := List.length_filter_le (fun j => decide (0 ≤ sv.getD j 0)) (List.range i)
  simpa using this
theorem getD_at {xs : List Int} {i : Nat} (h : i < xs.length) : xs.getD i 0 = xs[i] := by
  rw [List.getD_eq_getElem?_getD, List.getElem?_eq_getElem h]; rfl
set_option maxHeartbeats 4000000 in
theorem covered_ro (r : Ras) (hs : r.sm) (k : Nat) : RO Try.prog 29 [.agg (rasL r)] k (.sl k 0 (covL r).length) [(k, ⟨3, 1, true, (covL r).map inL⟩)] (k + 1) := by
  have l1 : (r.sv.map inL).length = r.sv.length := List.length_map _
  have hsm := hs.1
  generalize hrow0 : rasL r = row0
  have hrow : row0 = [.v (.int .i64 r.st), .v (.int .i64 r.wd), .v (.int .i64 r.ht), .dsl 1 (r.sv.map inL), .dsl 1 (r.lv.map inL)] := hrow0.symm
  subst hrow
  refine RO.ofm (.sl 0 0 (covL r).length) ([(0, ⟨3, 1, true, (covL r).map inL⟩)]) 1 Try.func29 Try.ntmps29 rfl (goFn_of Try.func29 rfl (by kernel_rfl)) rfl rfl (by simp [renA, renL]) (by simp [shH, renB]) rfl ?_
  ((repeat' (first
    | (show SQ _ _ _ _ _ _ _ _; first | apply sq_nil | (apply q_move; exact rfl; exact rfl) | (apply q_assign; exact rfl; exact rfl) | (apply q_fieldAddr; exact rfl; exact rfl; exact (ty rfl); exact rfl; exact rfl; exact rfl; exact rfl) | (apply q_lend; exact rfl; exact rfl; exact (ty rfl); exact rfl) | (apply q_ld1p; exact rfl; exact rfl; exact (ty rfl); exact rfl; exact rfl; exact (by first | rfl | assumption | ((try simp only [Nat.zero_add]); refine List.getElem?_set_self ?_; (try simp only [List.length_set]); assumption)); exact rfl))
    | (show SQ _ _ _ _ _ _ _ _; (first | (apply q_box; exact rfl; exact rfl; exact rfl)); (try simp only [put, rowsOf, plR, List.all_cons, selE, ovr, setH, del, cellsA, splice, isV, List.nil_append, List.cons_append, List.map_cons, List.map_nil, List.length_cons, List.length_nil, List.set_cons_zero, List.set_cons_succ, List.take_succ_cons, List.take_zero, List.take_nil, List.drop_succ_cons, List.drop_zero, List.drop_nil, List.append_nil, List.all_cons, List.all_nil, Bool.and_true, Bool.true_and, Bool.and_false, Bool.false_and, Nat.reduceAdd, Nat.zero_add, Nat.add_zero, Nat.reduceEqDiff, if_true, if_false, reduceIte]))
    | (show AW _ _ _ _ _ _ _ _; first | refine aw_region ?_ | (refine aw_seqk ?_; intro K hK) | refine aw_block ?_)
    | refine thn_n ?_
    | (refine hK _ _ _ ?_; clear hK K))); all_goals (repeat (clear hK K)))
  refine aw_nil (t := 3) 3 1 rfl ?_
  refine aw_loop (ρ := id) (ι := Nat) (fun i => ([(9, .v (.int .i64 i)), (8, .v (.int .i64 r.sv.length)), (7, .dsl 1 (r.sv.map inL)), (3, .sl 1 0 (covF r.sv i).length)], [(1, ⟨3, 1, true, (covF r.sv i).map inL⟩)], 2))
    (fun i => i ≤ r.sv.length) (fun i => r.sv.length - i) 0 (Nat.zero_le _) ⟨by (repeat (refine ⟨by first | exact lk_i rfl rfl | exact lk_i rfl (by (try dsimp only); first | rfl | omega | (rw [IntWalk.i64_in _ (by omega)]; first | rfl | omega | (push_cast; omega)) | (simp; done) | (simp; omega)) | exact lk_d rfl rfl | exact lk_s rfl rfl rfl rfl, ?_⟩)); exact trivial, by (repeat (refine ⟨by first | exact ⟨rfl, rfl, rfl⟩, ?_⟩)); exact trivial, by rfl, by exact pin_0⟩ ?_
  intro i hi
  by_cases c1 : i < r.sv.length
  · have b1 : decide ((i : Int) < (r.sv.length : Int)) = true := by simpa using c1
    have hr1 := inL_get c1
    have hw : IntKind.i64.wrap ((i : Int) + 1) = ((i + 1 : Nat) : Int) := by rw [IntWalk.i64_in _ (by omega)]; omega
    have hml : ((covF r.sv i).map inL).length = (covF r.sv i).length := List.length_map _
    have hlen := covF_len r.sv i
    have hS := covF_succ r.sv i
    rw [getD_at c1] at hS
    by_cases d1 : 0 ≤ r.sv[i]
    · have e1 : decide (0 ≤ r.sv[i]) = true := by simpa using d1
      rw [if_pos d1] at hS
      ((repeat' (first
    | (show SQ _ _ _ _ _ _ _ _; first | apply sq_nil | (apply q_move; exact rfl; exact rfl) | (apply q_assign; exact rfl; exact rfl) | (apply q_add; exact rfl; exact rfl; exact rfl) | (apply q_lss; exact rfl; exact rfl; exact rfl) | (apply q_geq; exact rfl; exact rfl; exact rfl) | (apply q_ixd; exact rfl; exact rfl; exact rfl; exact (ty rfl); exact rfl; exact (by first | omega | (simp; done) | (simp; omega)); exact (by first | omega | (simp; done) | (simp; omega)); exact (by first | rfl | assumption)) | (apply q_ld1d; exact rfl; exact rfl; exact (ty rfl); exact rfl; exact rfl))
    | (show SQ _ _ _ _ _ _ _ _; (first | (apply q_buildn; exact rfl; exact (ty rfl); exact rfl; exact rfl; exact rfl; exact rfl; exact rfl; exact rfl; exact rfl) | (apply q_apo_s; exact rfl; exact rfl; exact rfl; exact (ty rfl); exact rfl; exact rfl; exact (by first | omega | (simp; done) | (simp; omega)); exact (by first | exact List.take_of_length_le (by first | omega | (simp; done) | (simp; omega)) | rfl); exact (ty rfl); exact rfl; exact rfl; exact (by first | omega | (simp; done) | (simp; omega)); exact (by first | exact dt_full (by first | omega | (simp; done) | (simp; omega)) | assumption | rfl); exact rfl; exact (by first | omega | (simp; done) | (simp; omega)); exact (by first | omega | (simp; done) | (simp; omega)); exact (by first | assumption | exact rfl))); (try simp only [put, rowsOf, plR, List.all_cons, selE, ovr, setH, del, cellsA, splice, isV, List.nil_append, List.cons_append, List.map_cons, List.map_nil, List.length_cons, List.length_nil, List.set_cons_zero, List.set_cons_succ, List.take_succ_cons, List.take_zero, List.take_nil, List.drop_succ_cons, List.drop_zero, List.drop_nil, List.append_nil, List.all_cons, List.all_nil, Bool.and_true, Bool.true_and, Bool.and_false, Bool.false_and, Nat.reduceAdd, Nat.zero_add, Nat.add_zero, Nat.reduceEqDiff, if_true, if_false, reduceIte]))
    | (show AW _ _ _ _ _ _ _ _; first | refine aw_region ?_ | (refine aw_seqk ?_; intro K hK) | refine aw_block ?_ | (apply aw_cond_t; exact rfl; exact (by assumption)) | refine aw_skip ?_)
    | refine thn_n ?_
    | (refine hK _ _ _ ?_; clear hK K)
    | refine inb_n ?_)); all_goals (repeat (clear hK K)))
      refine ⟨i + 1, fun j => [0, 3].getD j 0, c1, by omega, ?_⟩
      (try dsimp only); rw [hS, ← hw]
      exact ⟨by (repeat (refine ⟨by first | exact lk_i rfl rfl | exact lk_d rfl rfl | exact lk_s rfl rfl (by (try dsimp only); first | rfl | omega | (rw [IntWalk.i64_in _ (by omega)]; first | rfl | omega | (push_cast; omega)) | (simp; done) | (simp; omega)) rfl, ?_⟩)); exact trivial, by (repeat (refine ⟨by first | exact lkb rfl rfl rfl (by simp [inL]) rfl, ?_⟩)); exact trivial, by rfl, by exact pin_0⟩
    · have e1 : decide (0 ≤ r.sv[i]) = false := by simpa using d1
      rw [if_neg d1] at hS
      ((repeat' (first
    | (show SQ _ _ _ _ _ _ _ _; first | apply sq_nil | (apply q_move; exact rfl; exact rfl) | (apply q_assign; exact rfl; exact rfl) | (apply q_add; exact rfl; exact rfl; exact rfl) | (apply q_lss; exact rfl; exact rfl; exact rfl) | (apply q_geq; exact rfl; exact rfl; exact rfl) | (apply q_ixd; exact rfl; exact rfl; exact rfl; exact (ty rfl); exact rfl; exact (by first | omega | (simp; done) | (simp; omega)); exact (by first | omega | (simp; done) | (simp; omega)); exact (by first | rfl | assumption)) | (apply q_ld1d; exact rfl; exact rfl; exact (ty rfl); exact rfl; exact rfl))
    | (show AW _ _ _ _ _ _ _ _; first | refine aw_region ?_ | (refine aw_seqk ?_; intro K hK) | refine aw_block ?_ | (apply aw_cond_t; exact rfl; exact (by assumption)) | (apply aw_cond_f; exact rfl; exact (by assumption)) | refine aw_skip ?_)
    | refine thn_n ?_
    | (refine hK _ _ _ ?_; clear hK K)
    | refine inb_n ?_)); all_goals (repeat (clear hK K)))
      refine ⟨i + 1, id, c1, by omega, ?_⟩
      (try dsimp only); rw [hS, ← hw]
      exact ⟨by (repeat (refine ⟨by first | exact lk_i rfl rfl | exact lk_d rfl rfl | exact lk_s rfl rfl rfl rfl, ?_⟩)); exact trivial, by (repeat (refine ⟨by first | exact ⟨rfl, rfl, rfl⟩, ?_⟩)); exact trivial, by rfl, by exact pin_0⟩
  · have b1 : decide ((i : Int) < (r.sv.length : Int)) = false := by simpa using c1
    obtain rfl : i = r.sv.length := by omega
    ((repeat' (first
    | (show SQ _ _ _ _ _ _ _ _; first | apply sq_nil | (apply q_move; exact rfl; exact rfl) | (apply q_assign; exact rfl; exact rfl) | (apply q_lss; exact rfl; exact rfl; exact rfl))
    | (show AW _ _ _ _ _ _ _ _; first | refine aw_region ?_ | (refine aw_seqk ?_; intro K hK) | (apply aw_cond_f; exact rfl; exact (by assumption)) | refine aw_ret ?_ | refine aw_exit ?_)
    | refine thn_n ?_
    | (refine hK _ _ _ ?_; clear hK K)
    | refine thn_e ?_
    | refine inb_same ?_
    | (clear hK K; refine hK _ _ _ ?_; clear hK K))); all_goals (repeat (clear hK K)))
    exact fin_r (fin_m rfl rfl _ _ rfl rfl)
theorem cov_get {r : Ras} {i : Nat} (h : i < (covL r).length) : ∃ j, j < r.sv.length ∧ (covL r)[i] = (j : Int) ∧ 0 ≤ r.sv.getD j 0 := by
  have hm := List.getElem_mem h
  unfold covL covF at hm
  obtain ⟨j, hj, e⟩ := List.mem_map.1 hm
  obtain ⟨h1, h2⟩ := List.mem_filter.1 hj
  exact ⟨j, List.mem_range.1 h1, e.symm, by simpa using h2⟩
set_option maxHeartbeats 4000000 in
theorem CoveredCells_ro (r : Ras) (hs : r.sm) (k : Nat) : RO Try.prog 8 [.agg (rasL r)] k (.v (.int .i64 (if okR r = true then ((covL r).length : Int) else 0))) [] k := by
  have hV := ValidRaster_ro r hs
  have hC := covered_ro r hs
  unfold rasL at *
  cases hk : okR r with
  | true =>
    rw [hk] at hV
    refine RO.ofv' Try.func8 Try.ntmps8 rfl (goFn_of Try.func8 rfl (by kernel_rfl)) rfl rfl ?_
    ((repeat' (first
    | (show SQ _ _ _ _ _ _ _ _; first | apply sq_nil | (apply q_assign; exact rfl; exact rfl) | (apply q_not; exact rfl; exact rfl) | (apply q_lenl; exact rfl; exact rfl; exact (ty rfl); exact rfl))
    | (show SQ _ _ _ _ _ _ _ _; (first | (apply q_ldap; exact rfl; exact rfl; exact (ty rfl); exact rfl; exact rfl; exact (by first | rfl | assumption | ((try simp only [Nat.zero_add]); refine List.getElem?_set_self ?_; (try simp only [List.length_set]); assumption)); exact rfl) | (apply q_box; exact rfl; exact rfl; exact rfl) | (apply q_callU; exact rfl; exact rfl; exact rfl; exact FzL.of rfl; exact hV _) | (apply q_callU; exact rfl; exact rfl; exact rfl; exact FzL.of rfl; exact hC _)); (try simp only [put, rowsOf, plR, List.all_cons, selE, ovr, setH, del, cellsA, splice, isV, List.nil_append, List.cons_append, List.map_cons, List.map_nil, List.length_cons, List.length_nil, List.set_cons_zero, List.set_cons_succ, List.take_succ_cons, List.take_zero, List.take_nil, List.drop_succ_cons, List.drop_zero, List.drop_nil, List.append_nil, List.all_cons, List.all_nil, Bool.and_true, Bool.true_and, Bool.and_false, Bool.false_and, Nat.reduceAdd, Nat.zero_add, Nat.add_zero, Nat.reduceEqDiff, if_true, if_false, reduceIte]))
    | (show AW _ _ _ _ _ _ _ _; first | refine aw_region ?_ | (refine aw_seqk ?_; intro K hK) | (apply aw_cond_f; exact rfl; exact rfl) | refine aw_ret ?_ | refine aw_skip ?_)
    | refine thn_n ?_
    | (refine hK _ _ _ ?_; clear hK K))); all_goals (repeat (clear hK K)))
    all_goals exact fin_r (fin_i rfl rfl)
  | false =>
    rw [hk] at hV
    refine RO.ofv' Try.func8 Try.ntmps8 rfl (goFn_of Try.func8 rfl (by kernel_rfl)) rfl rfl ?_
    ((repeat' (first
    | (show SQ _ _ _ _ _ _ _ _; first | apply sq_nil | (apply q_assign; exact rfl; exact rfl) | (apply q_not; exact rfl; exact rfl))
    | (show SQ _ _ _ _ _ _ _ _; (first | (apply q_ldap; exact rfl; exact rfl; exact (ty rfl); exact rfl; exact rfl; exact (by first | rfl | assumption | ((try simp only [Nat.zero_add]); refine List.getElem?_set_self ?_; (try simp only [List.length_set]); assumption)); exact rfl) | (apply q_box; exact rfl; exact rfl; exact rfl) | (apply q_callU; exact rfl; exact rfl; exact rfl; exact FzL.of rfl; exact hV _)); (try simp only [put, rowsOf, plR, List.all_cons, selE, ovr, setH, del, cellsA, splice, isV, List.nil_append, List.cons_append, List.map_cons, List.map_nil, List.length_cons, List.length_nil, List.set_cons_zero, List.set_cons_succ, List.take_succ_cons, List.take_zero, List.take_nil, List.drop_succ_cons, List.drop_zero, List.drop_nil, List.append_nil, List.all_cons, List.all_nil, Bool.and_true, Bool.true_and, Bool.and_false, Bool.false_and, Nat.reduceAdd, Nat.zero_add, Nat.add_zero, Nat.reduceEqDiff, if_true, if_false, reduceIte]))
    | (show AW _ _ _ _ _ _ _ _; first | refine aw_region ?_ | (refine aw_seqk ?_; intro K hK) | (apply aw_cond_t; exact rfl; exact rfl) | refine aw_ret ?_)
    | refine thn_n ?_
    | (refine hK _ _ _ ?_; clear hK K)
    | refine thn_r ?_)); all_goals (repeat (clear hK K)))
    all_goals exact fin_r (fin_i rfl rfl)
set_option maxHeartbeats 4000000 in
theorem AreaCovered_ro (r : Ras) (hs : r.sm) (k : Nat) : RO Try.prog 9 [.agg (rasL r)] k (.v (.int .i64 (IntKind.i64.wrap (IntKind.i64.wrap ((if okR r = true then ((covL r).length : Int) else 0) * r.st) * r.st)))) [] k := by
  have hC := CoveredCells_ro r hs
  generalize (if okR r = true then ((covL r).length : Int) else 0) = c at *
  unfold rasL at *
  refine RO.ofv' Try.func9 Try.ntmps9 rfl (goFn_of Try.func9 rfl (by kernel_rfl)) rfl rfl ?_
  ((repeat' (first
    | (show SQ _ _ _ _ _ _ _ _; first | apply sq_nil | (apply q_assign; exact rfl; exact rfl))
    | (show SQ _ _ _ _ _ _ _ _; (first | (apply q_box; exact rfl; exact rfl; exact rfl)); (try simp only [put, rowsOf, plR, List.all_cons, selE, ovr, setH, del, cellsA, splice, isV, List.nil_append, List.cons_append, List.map_cons, List.map_nil, List.length_cons, List.length_nil, List.set_cons_zero, List.set_cons_succ, List.take_succ_cons, List.take_zero, List.take_nil, List.drop_succ_cons, List.drop_zero, List.drop_nil, List.append_nil, List.all_cons, List.all_nil, Bool.and_true, Bool.true_and, Bool.and_false, Bool.false_and, Nat.reduceAdd, Nat.zero_add, Nat.add_zero, Nat.reduceEqDiff, if_true, if_false, reduceIte]))
    | (show DE _ _ _ _ _ _ _ _ _ _ _ _; first | (apply e_assign; exact rfl; exact rfl; exact rfl) | (apply e_fieldAddr; exact rfl; exact rfl; exact (ty rfl); exact rfl; exact rfl; exact rfl; exact rfl; exact rfl) | (apply e_mul; exact rfl; exact rfl; exact rfl; exact rfl) | (apply e_ld1p; exact rfl; exact rfl; exact (ty rfl); exact rfl; exact rfl; exact (by first | rfl | assumption | ((try simp only [Nat.zero_add]); refine List.getElem?_set_self ?_; (try simp only [List.length_set]); assumption)); exact rfl; exact rfl))
    | (show DE _ _ _ _ _ _ _ _ _ _ _ _; (first | (apply dr_nil; exact trivial) | (apply e_ldap; exact rfl; exact rfl; exact (ty rfl); exact rfl; exact rfl; exact (by first | rfl | assumption | ((try simp only [Nat.zero_add]); refine List.getElem?_set_self ?_; (try simp only [List.length_set]); assumption)); exact rfl; exact rfl) | (apply e_callU; exact rfl; exact rfl; exact rfl; exact FzL.of rfl; exact hC _; exact rfl)); (try simp only [put, rowsOf, plR, List.all_cons, selE, ovr, setH, del, cellsA, splice, isV, List.nil_append, List.cons_append, List.map_cons, List.map_nil, List.length_cons, List.length_nil, List.set_cons_zero, List.set_cons_succ, List.take_succ_cons, List.take_zero, List.take_nil, List.drop_succ_cons, List.drop_zero, List.drop_nil, List.append_nil, List.all_cons, List.all_nil, Bool.and_true, Bool.true_and, Bool.and_false, Bool.false_and, Nat.reduceAdd, Nat.zero_add, Nat.add_zero, Nat.reduceEqDiff, if_true, if_false, reduceIte]))
    | (show AW _ _ _ _ _ _ _ _; first | refine aw_region ?_ | (refine aw_seqk ?_; intro K hK) | refine aw_ret ?_ | refine aw_drawE (id := 1) [0, 1, 0, 4, 15, 0, 32, 127, 255] [1, 1, 0, 1, 0, 0, 1, 0, 0] mixed (by kernel_rfl) ?_)
    | refine thn_n ?_
    | (refine hK _ _ _ ?_; clear hK K))); all_goals (repeat (clear hK K)))
  all_goals exact fin_r (fin_i rfl rfl)
set_option maxHeartbeats 4000000 in
theorem CoveredPeople_ro (r : Ras) (hs : r.sm) (hok : okR r = true) (k : Nat) : RO Try.prog 10 [.agg (rasL r), .dsl 1 ((List.replicate r.sv.length (1 : Int)).map inL)] k (.tup [.v (.int .i64 (covL r).length), .v (.int .i64 0)]) [] k := by
  have hV := ValidRaster_ro r hs
  rw [hok] at hV
  have hC := covered_ro r hs
  have hsm := hs.1
  have hA := allWithin_ro (List.replicate r.sv.length (1 : Int)) ((List.replicate r.sv.length (1 : Int)).map inL) 0 1000000 rfl (by rw [List.length_replicate]; exact hsm)
  rw [show ((List.replicate r.sv.length (1 : Int)).any fun x => !inB x 0 1000000) = false by
    rw [List.any_eq_false]; intro x hx; obtain rfl := List.eq_of_mem_replicate hx; decide] at hA
  have l1 : (r.sv.map inL).length = r.sv.length := List.length_map _
  have l2 : ((List.replicate r.sv.length (1 : Int)).map inL).length = r.sv.length := by rw [List.length_map, List.length_replicate]
  have l3 : ((covL r).map inL).length = (covL r).length := List.length_map _
  have hb := covF_len r.sv r.sv.length
  change (covL r).length ≤ r.sv.length at hb
  have e1 : (((((List.replicate r.sv.length (1 : Int)).map inL).length : Nat) : Int) != (((r.sv.map inL).length : Nat) : Int)) = false := by rw [l1, l2]; simp
  have ones : ∀ j, j < r.sv.length → ((List.replicate r.sv.length (1 : Int)).map inL)[((j : Int)).toNat]? = some [.v (.int .i64 1)] := fun j hj => by simp [inL, hj]
  generalize ((List.replicate r.sv.length (1 : Int)).map inL) = os at *
  have hget := @cov_get r
  generalize hrow0 : rasL r = row0 at *
  have hrow : row0 = [.v (.int .i64 r.st), .v (.int .i64 r.wd), .v (.int .i64 r.ht), .dsl 1 (r.sv.map inL), .dsl 1 (r.lv.map inL)] := hrow0.symm
  subst hrow
  generalize covL r = cs at *
  refine RO.ofp Try.func10 Try.ntmps10 rfl (goFn_of Try.func10 rfl (by kernel_rfl)) rfl rfl rfl ?_
  ((repeat' (first
    | (show SQ _ _ _ _ _ _ _ _; first | apply sq_nil | (apply q_move; exact rfl; exact rfl) | (apply q_assign; exact rfl; exact rfl) | (apply q_pick_f; exact rfl; exact rfl; exact rfl; exact (by first | assumption | exact rfl)) | (apply q_fieldAddr; exact rfl; exact rfl; exact (ty rfl); exact rfl; exact rfl; exact rfl; exact rfl) | (apply q_not; exact rfl; exact rfl) | (apply q_lend; exact rfl; exact rfl; exact (ty rfl); exact rfl) | (apply q_lenl; exact rfl; exact rfl; exact (ty rfl); exact rfl) | (apply q_neq; exact rfl; exact rfl; exact rfl) | (apply q_ld1p; exact rfl; exact rfl; exact (ty rfl); exact rfl; exact rfl; exact (by first | rfl | assumption | ((try simp only [Nat.zero_add]); refine List.getElem?_set_self ?_; (try simp only [List.length_set]); assumption)); exact rfl) | (apply q_g; exact rfl; exact rfl; exact rfl; exact (by assumption)))
    | (show SQ _ _ _ _ _ _ _ _; (first | (apply q_ldap; exact rfl; exact rfl; exact (ty rfl); exact rfl; exact rfl; exact (by first | rfl | assumption | ((try simp only [Nat.zero_add]); refine List.getElem?_set_self ?_; (try simp only [List.length_set]); assumption)); exact rfl) | (apply q_box; exact rfl; exact rfl; exact rfl) | (apply q_callU; exact rfl; exact rfl; exact rfl; exact FzL.of rfl; exact hV _) | (apply q_callU; exact rfl; exact rfl; exact rfl; exact FzL.of rfl; exact hC _) | (apply q_callU; exact rfl; exact rfl; exact rfl; exact FzL.of rfl; exact hA _)); (try simp only [put, rowsOf, plR, List.all_cons, selE, ovr, setH, del, cellsA, splice, isV, List.nil_append, List.cons_append, List.map_cons, List.map_nil, List.length_cons, List.length_nil, List.set_cons_zero, List.set_cons_succ, List.take_succ_cons, List.take_zero, List.take_nil, List.drop_succ_cons, List.drop_zero, List.drop_nil, List.append_nil, List.all_cons, List.all_nil, Bool.and_true, Bool.true_and, Bool.and_false, Bool.false_and, Nat.reduceAdd, Nat.zero_add, Nat.add_zero, Nat.reduceEqDiff, if_true, if_false, reduceIte]))
    | (show AW _ _ _ _ _ _ _ _; first | refine aw_region ?_ | (refine aw_seqk ?_; intro K hK) | refine aw_block ?_ | (apply aw_cond_f; exact rfl; exact rfl) | refine aw_skip ?_)
    | refine thn_n ?_
    | (refine hK _ _ _ ?_; clear hK K)
    | refine inb_n ?_)); all_goals (repeat (clear hK K)))
  refine aw_loop (ρ := id) (ι := Nat) (fun i => ([(28, .v (.int .i64 i)), (27, .v (.int .i64 cs.length)), (26, .sl 1 0 cs.length), (6, .v (.int .i64 i)), (1, .dsl 1 os)], [(1, ⟨3, 1, true, cs.map inL⟩)], 2))
    (fun i => i ≤ cs.length) (fun i => cs.length - i) 0 (Nat.zero_le _) ⟨by (repeat (refine ⟨by first | exact lk_i rfl rfl | exact lk_d rfl rfl | exact lk_s rfl rfl rfl rfl, ?_⟩)); exact trivial, by (repeat (refine ⟨by first | exact ⟨rfl, rfl, rfl⟩, ?_⟩)); exact trivial, by rfl, by exact pin_0⟩ ?_
  intro i hi
  by_cases c1 : i < cs.length
  · have b1 : decide ((i : Int) < (cs.length : Int)) = true := by simpa using c1
    have hr1 := inL_get c1
    have hw : IntKind.i64.wrap ((i : Int) + 1) = ((i + 1 : Nat) : Int) := by rw [IntWalk.i64_in _ (by omega)]; omega
    obtain ⟨j, hj, ej, _⟩ := hget c1
    rw [ej] at hr1
    have hr1 : (cs.map inL)[0 + ((i : Int)).toNat]? = some [.v (.int .i64 (j : Int))] := by rw [Nat.zero_add]; exact hr1
    have ho := ones j hj
    ((repeat' (first
    | (show SQ _ _ _ _ _ _ _ _; first | apply sq_nil | (apply q_move; exact rfl; exact rfl) | (apply q_assign; exact rfl; exact rfl) | (apply q_add; exact rfl; exact rfl; exact rfl) | (apply q_lss; exact rfl; exact rfl; exact rfl) | (apply q_ixd; exact rfl; exact rfl; exact rfl; exact (ty rfl); exact rfl; exact (by first | omega | (simp; done) | (simp; omega)); exact (by first | omega | (simp; done) | (simp; omega)); exact (by first | rfl | assumption)) | (apply q_ixl; exact rfl; exact rfl; exact rfl; exact (ty rfl); exact rfl; exact rfl; exact rfl; exact (by first | omega | (simp; done) | (simp; omega)); exact (by first | omega | (simp; done) | (simp; omega))) | (apply q_ld1d; exact rfl; exact rfl; exact (ty rfl); exact rfl; exact rfl) | (apply q_ld1p; exact rfl; exact rfl; exact (ty rfl); exact rfl; exact rfl; exact (by first | rfl | assumption | ((try simp only [Nat.zero_add]); refine List.getElem?_set_self ?_; (try simp only [List.length_set]); assumption)); exact rfl))
    | (show AW _ _ _ _ _ _ _ _; first | refine aw_region ?_ | (refine aw_seqk ?_; intro K hK) | refine aw_block ?_ | (apply aw_cond_t; exact rfl; exact (by assumption)) | refine aw_skip ?_)
    | refine thn_n ?_
    | (refine hK _ _ _ ?_; clear hK K)
    | refine inb_n ?_)); all_goals (repeat (clear hK K)))
    refine ⟨i + 1, id, c1, by omega, ?_⟩
    (try dsimp only); rw [← hw]
    exact ⟨by (repeat (refine ⟨by first | exact lk_i rfl rfl | exact lk_d rfl rfl | exact lk_s rfl rfl rfl rfl, ?_⟩)); exact trivial, by (repeat (refine ⟨by first | exact ⟨rfl, rfl, rfl⟩, ?_⟩)); exact trivial, by rfl, by exact pin_0⟩
  · have b1 : decide ((i : Int) < (cs.length : Int)) = false := by simpa using c1
    obtain rfl : i = cs.length := by omega
    ((repeat' (first
    | (show SQ _ _ _ _ _ _ _ _; first | apply sq_nil | (apply q_move; exact rfl; exact rfl) | (apply q_assign; exact rfl; exact rfl) | (apply q_lss; exact rfl; exact rfl; exact rfl))
    | (show AW _ _ _ _ _ _ _ _; first | refine aw_region ?_ | (refine aw_seqk ?_; intro K hK) | (apply aw_cond_f; exact rfl; exact (by assumption)) | refine aw_ret ?_ | refine aw_exit ?_)
    | refine thn_n ?_
    | (refine hK _ _ _ ?_; clear hK K)
    | refine thn_e ?_
    | refine inb_same ?_
    | (clear hK K; refine hK _ _ _ ?_; clear hK K))); all_goals (repeat (clear hK K)))
    all_goals (refine fin_r (fin_p (.r2 _ _ _ _ (.tmp _ _ rfl) (.tmp _ _ rfl)) ?_ rfl rfl rfl); rfl)
end Go.Proofs.Ytljpgbgokjiamaa.St

namespace Go.Proofs.Ytljpgbgokjiamaa.St
open Go Go.RowKit Go.Proofs.Ytljpgbgokjiamaa.Aw Go.Proofs.Ytljpgbgokjiamaa.In Go.Proofs.Ytljpgbgokjiamaa.Il
set_option linter.unusedSimpArgs false
set_option linter.unusedVariables false
attribute [local irreducible] AW SQ Step RO RC DE Thn InB
def wkP (r : Ras) (l : Int) (j : Nat) : Bool := decide (r.sv.getD j 0 < 0) || decide (r.lv.getD j 0 < l)
def wkF (r : Ras) (l : Int) (i : Nat) : List Int := ((List.range i).filter (wkP r l)).map fun j : Nat => (j : Int)
theorem wkF_succ (r : Ras) (l : Int) (i : Nat) : wkF r l (i + 1) = if wkP r l i = true then wkF r l i ++ [(i : Int)] else wkF r l i := by
  unfold wkF
  rw [List.range_succ, List.filter_append, List.map_append]
  by_cases h : wkP r l i = true
  · rw [if_pos h, List.filter_cons, if_pos h]; rfl
  · rw [if_neg h, List.filter_cons, if_neg h]; simp
theorem wkF_len (r : Ras) (l : Int) (i : Nat) : (wkF r l i).length ≤ i := by
  unfold wkF
  rw [List.length_map]
  have := List.length_filter_le (wkP r l) (List.range i)
  simpa using this
theorem ok_len {r : Ras} (h : okR r = true) : r.lv.length = r.sv.length := by
  unfold okR at h
  simp only [Bool.and_eq_true] at h
  have := (pre_iff h.1).2.2.1
  simp only [List.length_map, bne_eq_false_iff_eq] at this
  omega
set_option maxHeartbeats 4000000 in
theorem ValidLevel_ro (x : Int) (k : Nat) : RO Try.prog 31 [.v (.int .i64 x)] k (.v (.bool (inB x (-300000) 300000))) [] k := by
  refine RO.ofv' Try.func31 Try.ntmps31 rfl (goFn_of Try.func31 rfl (by kernel_rfl)) rfl rfl ?_
  ((repeat' (first
    | (show SQ _ _ _ _ _ _ _ _; first | apply sq_nil | (apply q_move; exact rfl; exact rfl) | (apply q_assign; exact rfl; exact rfl))
    | (show SQ _ _ _ _ _ _ _ _; (first | (apply q_callU; exact rfl; exact rfl; exact rfl; exact FzL.of rfl; exact within_ro _ _ _ _)); (try simp only [put, rowsOf, plR, List.all_cons, selE, ovr, setH, del, cellsA, splice, isV, List.nil_append, List.cons_append, List.map_cons, List.map_nil, List.length_cons, List.length_nil, List.set_cons_zero, List.set_cons_succ, List.take_succ_cons, List.take_zero, List.take_nil, List.drop_succ_cons, List.drop_zero, List.drop_nil, List.append_nil, List.all_cons, List.all_nil, Bool.and_true, Bool.true_and, Bool.and_false, Bool.false_and, Nat.reduceAdd, Nat.zero_add, Nat.add_zero, Nat.reduceEqDiff, if_true, if_false, reduceIte]))
    | (show AW _ _ _ _ _ _ _ _; first | refine aw_region ?_ | (refine aw_seqk ?_; intro K hK) | refine aw_ret ?_)
    | refine thn_n ?_
    | (refine hK _ _ _ ?_; clear hK K))); all_goals (repeat (clear hK K)))
  all_goals exact fin_r (fin_b rfl rfl)
set_option maxHeartbeats 4000000 in
theorem WeakCells_ro (r : Ras) (hs : r.sm) (hok : okR r = true) (l : Int) (hl : inB l (-300000) 300000 = true) (k : Nat) :
    RO Try.prog 11 [.agg (rasL r), .v (.int .i64 l)] k (.tup [.sl k 0 (wkF r l r.sv.length).length, .v (.int .i64 0)]) [(k, ⟨2, 1, true, (wkF r l r.sv.length).map inL⟩)] (k + 1) := by
  have hV := ValidRaster_ro r hs
  rw [hok] at hV
  have hL := ValidLevel_ro l
  rw [hl] at hL
  have hlen := ok_len hok
  have l1 : (r.lv.map inL).length = r.sv.length := by rw [List.length_map, hlen]
  have hsm := hs.1
  generalize hrow0 : rasL r = row0 at *
  have hrow : row0 = [.v (.int .i64 r.st), .v (.int .i64 r.wd), .v (.int .i64 r.ht), .dsl 1 (r.sv.map inL), .dsl 1 (r.lv.map inL)] := hrow0.symm
  subst hrow
  refine RO.ofm (.tup [.sl 0 0 (wkF r l r.sv.length).length, .v (.int .i64 0)]) ([(0, ⟨2, 1, true, (wkF r l r.sv.length).map inL⟩)]) 1 Try.func11 Try.ntmps11 rfl (goFn_of Try.func11 rfl (by kernel_rfl)) rfl rfl (by simp [renA, renL]) (by simp [shH, renB]) rfl ?_
  ((repeat' (first
    | (show SQ _ _ _ _ _ _ _ _; first | apply sq_nil | (apply q_move; exact rfl; exact rfl) | (apply q_assign; exact rfl; exact rfl) | (apply q_fieldAddr; exact rfl; exact rfl; exact (ty rfl); exact rfl; exact rfl; exact rfl; exact rfl) | (apply q_not; exact rfl; exact rfl) | (apply q_lend; exact rfl; exact rfl; exact (ty rfl); exact rfl) | (apply q_ld1p; exact rfl; exact rfl; exact (ty rfl); exact rfl; exact rfl; exact (by first | rfl | assumption | ((try simp only [Nat.zero_add]); refine List.getElem?_set_self ?_; (try simp only [List.length_set]); assumption)); exact rfl))
    | (show SQ _ _ _ _ _ _ _ _; (first | (apply q_ldap; exact rfl; exact rfl; exact (ty rfl); exact rfl; exact rfl; exact (by first | rfl | assumption | ((try simp only [Nat.zero_add]); refine List.getElem?_set_self ?_; (try simp only [List.length_set]); assumption)); exact rfl) | (apply q_box; exact rfl; exact rfl; exact rfl) | (apply q_callU; exact rfl; exact rfl; exact rfl; exact FzL.of rfl; exact hV _) | (apply q_callU; exact rfl; exact rfl; exact rfl; exact FzL.of rfl; exact hL _)); (try simp only [put, rowsOf, plR, List.all_cons, selE, ovr, setH, del, cellsA, splice, isV, List.nil_append, List.cons_append, List.map_cons, List.map_nil, List.length_cons, List.length_nil, List.set_cons_zero, List.set_cons_succ, List.take_succ_cons, List.take_zero, List.take_nil, List.drop_succ_cons, List.drop_zero, List.drop_nil, List.append_nil, List.all_cons, List.all_nil, Bool.and_true, Bool.true_and, Bool.and_false, Bool.false_and, Nat.reduceAdd, Nat.zero_add, Nat.add_zero, Nat.reduceEqDiff, if_true, if_false, reduceIte]))
    | (show AW _ _ _ _ _ _ _ _; first | refine aw_region ?_ | (refine aw_seqk ?_; intro K hK) | refine aw_block ?_ | (apply aw_cond_f; exact rfl; exact rfl) | refine aw_skip ?_)
    | refine thn_n ?_
    | (refine hK _ _ _ ?_; clear hK K)
    | refine inb_n ?_)); all_goals (repeat (clear hK K)))
  refine aw_nil (t := 6) 2 1 rfl ?_
  refine aw_loop (ρ := id) (ι := Nat) (fun i => ([(20, .v (.int .i64 i)), (19, .v (.int .i64 r.sv.length)), (18, .dsl 1 (r.lv.map inL)), (6, .sl 1 0 (wkF r l i).length), (2, .ptr 0 0 0), (1, .v (.int .i64 l))],
      [(0, ⟨26, 5, false, [[.v (.int .i64 r.st), .v (.int .i64 r.wd), .v (.int .i64 r.ht), .dsl 1 (r.sv.map inL), .dsl 1 (r.lv.map inL)]]⟩), (1, ⟨2, 1, true, (wkF r l i).map inL⟩)], 2))
    (fun i => i ≤ r.sv.length) (fun i => r.sv.length - i) 0 (Nat.zero_le _) ⟨by (repeat (refine ⟨by first | exact lk_i rfl rfl | exact lk_i rfl (by (try dsimp only); first | rfl | omega | (rw [IntWalk.i64_in _ (by omega)]; first | rfl | omega | (push_cast; omega)) | (simp; done) | (simp; omega)) | exact lk_d rfl rfl | exact lk_r rfl rfl rfl | exact lk_s rfl rfl rfl rfl, ?_⟩)); exact trivial, by (repeat (refine ⟨by first | exact ⟨rfl, rfl, rfl⟩, ?_⟩)); exact trivial, by rfl, by exact pin_0⟩ ?_
  intro i hi
  by_cases c1 : i < r.sv.length
  · have b1 : decide ((i : Int) < (r.sv.length : Int)) = true := by simpa using c1
    have c2 : i < r.lv.length := by omega
    have hr1 := inL_get c1
    have hr2 := inL_get c2
    have hw : IntKind.i64.wrap ((i : Int) + 1) = ((i + 1 : Nat) : Int) := by rw [IntWalk.i64_in _ (by omega)]; omega
    have hml : ((wkF r l i).map inL).length = (wkF r l i).length := List.length_map _
    have hlen := wkF_len r l i
    have hS := wkF_succ r l i
    rw [show wkP r l i = (decide (r.sv[i] < 0) || decide (r.lv[i] < l)) by unfold wkP; rw [getD_at c1, getD_at c2]] at hS
    cases e1 : decide (r.sv[i] < 0) with
    | true =>
      rw [e1, Bool.true_or, if_pos rfl] at hS
      ((repeat' (first
    | (show SQ _ _ _ _ _ _ _ _; first | apply sq_nil | (apply q_move; exact rfl; exact rfl) | (apply q_assign; exact rfl; exact rfl) | (apply q_pick_t; exact rfl; exact rfl; exact rfl; exact (by first | assumption | exact rfl)) | (apply q_fieldAddr; exact rfl; exact rfl; exact (ty rfl); exact rfl; exact rfl; exact rfl; exact rfl) | (apply q_add; exact rfl; exact rfl; exact rfl) | (apply q_lss; exact rfl; exact rfl; exact rfl) | (apply q_ixd; exact rfl; exact rfl; exact rfl; exact (ty rfl); exact rfl; exact (by first | omega | (simp; done) | (simp; omega)); exact (by first | omega | (simp; done) | (simp; omega)); exact (by first | rfl | assumption)) | (apply q_ld1d; exact rfl; exact rfl; exact (ty rfl); exact rfl; exact rfl) | (apply q_ld1p; exact rfl; exact rfl; exact (ty rfl); exact rfl; exact rfl; exact (by first | rfl | assumption | ((try simp only [Nat.zero_add]); refine List.getElem?_set_self ?_; (try simp only [List.length_set]); assumption)); exact rfl) | (apply q_s; exact rfl; exact rfl; exact rfl; exact (by assumption); exact rfl))
    | (show SQ _ _ _ _ _ _ _ _; (first | (apply q_buildn; exact rfl; exact (ty rfl); exact rfl; exact rfl; exact rfl; exact rfl; exact rfl; exact rfl; exact rfl) | (apply q_apo_s; exact rfl; exact rfl; exact rfl; exact (ty rfl); exact rfl; exact rfl; exact (by first | omega | (simp; done) | (simp; omega)); exact (by first | exact List.take_of_length_le (by first | omega | (simp; done) | (simp; omega)) | rfl); exact (ty rfl); exact rfl; exact rfl; exact (by first | omega | (simp; done) | (simp; omega)); exact (by first | exact dt_full (by first | omega | (simp; done) | (simp; omega)) | assumption | rfl); exact rfl; exact (by first | omega | (simp; done) | (simp; omega)); exact (by first | omega | (simp; done) | (simp; omega)); exact (by first | assumption | exact rfl))); (try simp only [put, rowsOf, plR, List.all_cons, selE, ovr, setH, del, cellsA, splice, isV, List.nil_append, List.cons_append, List.map_cons, List.map_nil, List.length_cons, List.length_nil, List.set_cons_zero, List.set_cons_succ, List.take_succ_cons, List.take_zero, List.take_nil, List.drop_succ_cons, List.drop_zero, List.drop_nil, List.append_nil, List.all_cons, List.all_nil, Bool.and_true, Bool.true_and, Bool.and_false, Bool.false_and, Nat.reduceAdd, Nat.zero_add, Nat.add_zero, Nat.reduceEqDiff, if_true, if_false, reduceIte]))
    | (show AW _ _ _ _ _ _ _ _; first | refine aw_region ?_ | (refine aw_seqk ?_; intro K hK) | refine aw_block ?_ | (apply aw_cond_t; exact rfl; exact rfl) | (apply aw_cond_t; exact rfl; exact (by assumption)) | refine aw_skip ?_)
    | refine thn_n ?_
    | (refine hK _ _ _ ?_; clear hK K)
    | refine inb_n ?_)); all_goals (repeat (clear hK K)))
      refine ⟨i + 1, fun j => [0, 3].getD j 0, c1, by omega, ?_⟩
      (try dsimp only); rw [hS, ← hw]
      exact ⟨by (repeat (refine ⟨by first | exact lk_i rfl rfl | exact lk_d rfl rfl | exact lk_r rfl rfl rfl | exact lk_s rfl rfl (by (try dsimp only); first | rfl | omega | (rw [IntWalk.i64_in _ (by omega)]; first | rfl | omega | (push_cast; omega)) | (simp; done) | (simp; omega)) rfl, ?_⟩)); exact trivial, by (repeat (refine ⟨by first | exact ⟨rfl, rfl, rfl⟩ | exact lkb rfl rfl rfl (by simp [inL]) rfl, ?_⟩)); exact trivial, by rfl, by exact pin_0⟩
    | false =>
      cases e2 : decide (r.lv[i] < l) with
      | true =>
        rw [e1, e2, Bool.false_or, if_pos rfl] at hS
        ((repeat' (first
    | (show SQ _ _ _ _ _ _ _ _; first | apply sq_nil | (apply q_move; exact rfl; exact rfl) | (apply q_assign; exact rfl; exact rfl) | (apply q_pick_f; exact rfl; exact rfl; exact rfl; exact (by first | assumption | exact rfl)) | (apply q_fieldAddr; exact rfl; exact rfl; exact (ty rfl); exact rfl; exact rfl; exact rfl; exact rfl) | (apply q_add; exact rfl; exact rfl; exact rfl) | (apply q_lss; exact rfl; exact rfl; exact rfl) | (apply q_ixd; exact rfl; exact rfl; exact rfl; exact (ty rfl); exact rfl; exact (by first | omega | (simp; done) | (simp; omega)); exact (by first | omega | (simp; done) | (simp; omega)); exact (by first | rfl | assumption)) | (apply q_ld1d; exact rfl; exact rfl; exact (ty rfl); exact rfl; exact rfl) | (apply q_ld1p; exact rfl; exact rfl; exact (ty rfl); exact rfl; exact rfl; exact (by first | rfl | assumption | ((try simp only [Nat.zero_add]); refine List.getElem?_set_self ?_; (try simp only [List.length_set]); assumption)); exact rfl) | (apply q_g; exact rfl; exact rfl; exact rfl; exact (by assumption)))
    | (show SQ _ _ _ _ _ _ _ _; (first | (apply q_buildn; exact rfl; exact (ty rfl); exact rfl; exact rfl; exact rfl; exact rfl; exact rfl; exact rfl; exact rfl) | (apply q_apo_s; exact rfl; exact rfl; exact rfl; exact (ty rfl); exact rfl; exact rfl; exact (by first | omega | (simp; done) | (simp; omega)); exact (by first | exact List.take_of_length_le (by first | omega | (simp; done) | (simp; omega)) | rfl); exact (ty rfl); exact rfl; exact rfl; exact (by first | omega | (simp; done) | (simp; omega)); exact (by first | exact dt_full (by first | omega | (simp; done) | (simp; omega)) | assumption | rfl); exact rfl; exact (by first | omega | (simp; done) | (simp; omega)); exact (by first | omega | (simp; done) | (simp; omega)); exact (by first | assumption | exact rfl))); (try simp only [put, rowsOf, plR, List.all_cons, selE, ovr, setH, del, cellsA, splice, isV, List.nil_append, List.cons_append, List.map_cons, List.map_nil, List.length_cons, List.length_nil, List.set_cons_zero, List.set_cons_succ, List.take_succ_cons, List.take_zero, List.take_nil, List.drop_succ_cons, List.drop_zero, List.drop_nil, List.append_nil, List.all_cons, List.all_nil, Bool.and_true, Bool.true_and, Bool.and_false, Bool.false_and, Nat.reduceAdd, Nat.zero_add, Nat.add_zero, Nat.reduceEqDiff, if_true, if_false, reduceIte]))
    | (show AW _ _ _ _ _ _ _ _; first | refine aw_region ?_ | (refine aw_seqk ?_; intro K hK) | refine aw_block ?_ | (apply aw_cond_t; exact rfl; exact (by assumption)) | refine aw_skip ?_)
    | refine thn_n ?_
    | (refine hK _ _ _ ?_; clear hK K)
    | refine inb_n ?_)); all_goals (repeat (clear hK K)))
        refine ⟨i + 1, fun j => [0, 3].getD j 0, c1, by omega, ?_⟩
        (try dsimp only); rw [hS, ← hw]
        exact ⟨by (repeat (refine ⟨by first | exact lk_i rfl rfl | exact lk_d rfl rfl | exact lk_r rfl rfl rfl | exact lk_s rfl rfl (by (try dsimp only); first | rfl | omega | (rw [IntWalk.i64_in _ (by omega)]; first | rfl | omega | (push_cast; omega)) | (simp; done) | (simp; omega)) rfl, ?_⟩)); exact trivial, by (repeat (refine ⟨by first | exact ⟨rfl, rfl, rfl⟩ | exact lkb rfl rfl rfl (by simp [inL]) rfl, ?_⟩)); exact trivial, by rfl, by exact pin_0⟩
      | false =>
        rw [e1, e2, Bool.false_or, if_neg (by decide)] at hS
        ((repeat' (first
    | (show SQ _ _ _ _ _ _ _ _; first | apply sq_nil | (apply q_move; exact rfl; exact rfl) | (apply q_assign; exact rfl; exact rfl) | (apply q_pick_f; exact rfl; exact rfl; exact rfl; exact (by first | assumption | exact rfl)) | (apply q_fieldAddr; exact rfl; exact rfl; exact (ty rfl); exact rfl; exact rfl; exact rfl; exact rfl) | (apply q_add; exact rfl; exact rfl; exact rfl) | (apply q_lss; exact rfl; exact rfl; exact rfl) | (apply q_ixd; exact rfl; exact rfl; exact rfl; exact (ty rfl); exact rfl; exact (by first | omega | (simp; done) | (simp; omega)); exact (by first | omega | (simp; done) | (simp; omega)); exact (by first | rfl | assumption)) | (apply q_ld1d; exact rfl; exact rfl; exact (ty rfl); exact rfl; exact rfl) | (apply q_ld1p; exact rfl; exact rfl; exact (ty rfl); exact rfl; exact rfl; exact (by first | rfl | assumption | ((try simp only [Nat.zero_add]); refine List.getElem?_set_self ?_; (try simp only [List.length_set]); assumption)); exact rfl) | (apply q_g; exact rfl; exact rfl; exact rfl; exact (by assumption)))
    | (show AW _ _ _ _ _ _ _ _; first | refine aw_region ?_ | (refine aw_seqk ?_; intro K hK) | refine aw_block ?_ | (apply aw_cond_t; exact rfl; exact (by assumption)) | (apply aw_cond_f; exact rfl; exact (by assumption)) | refine aw_skip ?_)
    | refine thn_n ?_
    | (refine hK _ _ _ ?_; clear hK K)
    | refine inb_n ?_)); all_goals (repeat (clear hK K)))
        refine ⟨i + 1, id, c1, by omega, ?_⟩
        (try dsimp only); rw [hS, ← hw]
        exact ⟨by (repeat (refine ⟨by first | exact lk_i rfl rfl | exact lk_d rfl rfl | exact lk_r rfl rfl rfl | exact lk_s rfl rfl rfl rfl, ?_⟩)); exact trivial, by (repeat (refine ⟨by first | exact ⟨rfl, rfl, rfl⟩, ?_⟩)); exact trivial, by rfl, by exact pin_0⟩
  · have b1 : decide ((i : Int) < (r.sv.length : Int)) = false := by simpa using c1
    obtain rfl : i = r.sv.length := by omega
    ((repeat' (first
    | (show SQ _ _ _ _ _ _ _ _; first | apply sq_nil | (apply q_move; exact rfl; exact rfl) | (apply q_assign; exact rfl; exact rfl) | (apply q_lss; exact rfl; exact rfl; exact rfl))
    | (show AW _ _ _ _ _ _ _ _; first | refine aw_region ?_ | (refine aw_seqk ?_; intro K hK) | (apply aw_cond_f; exact rfl; exact (by assumption)) | refine aw_ret ?_ | refine aw_exit ?_)
    | refine thn_n ?_
    | (refine hK _ _ _ ?_; clear hK K)
    | refine thn_e ?_
    | refine inb_same ?_
    | (clear hK K; refine hK _ _ _ ?_; clear hK K))); all_goals (repeat (clear hK K)))
    exact fin_r (fin_m2 rfl rfl rfl _ _ rfl rfl rfl)
end Go.Proofs.Ytljpgbgokjiamaa.St

namespace Go.Proofs.Ytljpgbgokjiamaa.St
open Go Go.RowKit Go.Proofs.Ytljpgbgokjiamaa.Aw Go.Proofs.Ytljpgbgokjiamaa.In Go.Proofs.Ytljpgbgokjiamaa.Il
set_option linter.unusedSimpArgs false
set_option linter.unusedVariables false
attribute [local irreducible] AW SQ Step RO RC DE Thn InB
def cI (p : Nat → Bool) : Nat → Int
  | 0 => 0
  | i + 1 => if p i = true then IntKind.i64.wrap (cI p i + 1) else cI p i
def oneB (r : Ras) (j : Nat) : Bool := decide (0 ≤ r.sv.getD j 0)
def gaP (a b : Ras) (j : Nat) : Bool := !oneB a j && oneB b j
def loP (a b : Ras) (j : Nat) : Bool := oneB a j && !oneB b j
def moP (a b : Ras) (j : Nat) : Bool := oneB a j && oneB b j && (a.sv.getD j 0 != b.sv.getD j 0)
def beP (a b : Ras) (j : Nat) : Bool := oneB a j && oneB b j && decide (a.lv.getD j 0 < b.lv.getD j 0)
def woP (a b : Ras) (j : Nat) : Bool := oneB a j && oneB b j && !decide (a.lv.getD j 0 < b.lv.getD j 0) && decide (b.lv.getD j 0 < a.lv.getD j 0)
def cmpL (a b : Ras) (i : Nat) : List AV := [.v (.int .i64 (cI (gaP a b) i)), .v (.int .i64 (cI (loP a b) i)), .v (.int .i64 (cI (moP a b) i)), .v (.int .i64 (cI (beP a b) i)), .v (.int .i64 (cI (woP a b) i))]
def smB (a b : Ras) : Bool := (a.st == b.st) && ((a.wd == b.wd) && (a.ht == b.ht))
set_option maxHeartbeats 4000000 in
theorem sameSize_ro (a b : Ras) (k : Nat) : RO Try.prog 27 [.agg (rasL a), .agg (rasL b)] k (.v (.bool (smB a b))) [] k := by
  unfold rasL smB
  refine RO.ofv' Try.func27 Try.ntmps27 rfl (goFn_of Try.func27 rfl (by kernel_rfl)) rfl rfl ?_
  ((repeat' (first
    | (show SQ _ _ _ _ _ _ _ _; first | apply sq_nil | (apply q_move; exact rfl; exact rfl) | (apply q_assign; exact rfl; exact rfl) | (apply q_pick_t; exact rfl; exact rfl; exact rfl; exact (by first | assumption | exact rfl)) | (apply q_pick_f; exact rfl; exact rfl; exact rfl; exact (by first | assumption | exact rfl)) | (apply q_fieldAddr; exact rfl; exact rfl; exact (ty rfl); exact rfl; exact rfl; exact rfl; exact rfl) | (apply q_eql; exact rfl; exact rfl; exact rfl) | (apply q_ld1p; exact rfl; exact rfl; exact (ty rfl); exact rfl; exact rfl; exact (by first | rfl | assumption | ((try simp only [Nat.zero_add]); refine List.getElem?_set_self ?_; (try simp only [List.length_set]); assumption)); exact rfl) | (apply q_g; exact rfl; exact rfl; exact rfl; exact (by assumption)) | (apply q_s; exact rfl; exact rfl; exact rfl; exact (by assumption); exact rfl) | (apply q_s; exact rfl; exact rfl; exact rfl; exact rfl; exact rfl))
    | (show SQ _ _ _ _ _ _ _ _; (first | (apply q_box; exact rfl; exact rfl; exact rfl)); (try simp only [put, rowsOf, plR, List.all_cons, selE, ovr, setH, del, cellsA, splice, isV, List.nil_append, List.cons_append, List.map_cons, List.map_nil, List.length_cons, List.length_nil, List.set_cons_zero, List.set_cons_succ, List.take_succ_cons, List.take_zero, List.take_nil, List.drop_succ_cons, List.drop_zero, List.drop_nil, List.append_nil, List.all_cons, List.all_nil, Bool.and_true, Bool.true_and, Bool.and_false, Bool.false_and, Nat.reduceAdd, Nat.zero_add, Nat.add_zero, Nat.reduceEqDiff, if_true, if_false, reduceIte]))
    | (show SQ _ _ _ _ _ _ _ _; apply q_gs; exact rfl; exact rfl; exact rfl; exact rfl; all_goals intro h)
    | (show AW _ _ _ _ _ _ _ _; first | refine aw_region ?_ | (refine aw_seqk ?_; intro K hK) | refine aw_ret ?_)
    | refine thn_n ?_
    | (refine hK _ _ _ ?_; clear hK K))); all_goals (repeat (clear hK K)))
  all_goals refine fin_r (fin_b rfl ?_)
  all_goals simp_all
theorem sm_len {a b : Ras} (ha : okR a = true) (hb : okR b = true) (h : smB a b = true) : a.sv.length = b.sv.length := by
  unfold okR at ha hb
  simp only [Bool.and_eq_true] at ha hb
  have e1 := (pre_iff ha.1).2.1
  have e2 := (pre_iff hb.1).2.1
  unfold smB at h
  simp only [Bool.and_eq_true, beq_iff_eq] at h
  simp only [List.length_map, bne_eq_false_iff_eq] at e1 e2
  rw [h.2.1, h.2.2] at e1
  omega
def z5 : List AV := [.v (.int .i64 0), .v (.int .i64 0), .v (.int .i64 0), .v (.int .i64 0), .v (.int .i64 0)]
def cmpV (a b : Ras) : List AV := if (okR a && okR b && smB a b) = true then cmpL a b a.sv.length else z5
def cmpC (a b : Ras) : Int := if (okR a && okR b) = true then (if smB a b = true then 0 else 6) else 1
set_option maxHeartbeats 4000000 in
theorem CompareRasters_ok_ro (a b : Ras) (ha : a.sm) (hb : b.sm) (h1 : okR a = true) (h2 : okR b = true) (h3 : smB a b = true) (k : Nat) :
    RO Try.prog 6 [.agg (rasL a), .agg (rasL b)] k (.tup [.agg (cmpL a b a.sv.length), .v (.int .i64 0)]) [] k := by
  have hV1 := ValidRaster_ro a ha
  have hV2 := ValidRaster_ro b hb
  have hS := sameSize_ro a b
  rw [h1] at hV1
  rw [h2] at hV2
  rw [h3] at hS
  have n1 := sm_len h1 h2 h3
  have n2 := ok_len h1
  have n3 := ok_len h2
  have hsm := ha.1
  have l1 : (a.sv.map inL).length = a.sv.length := List.length_map _
  generalize hrow0 : rasL a = row0 at *
  have hrow : row0 = [.v (.int .i64 a.st), .v (.int .i64 a.wd), .v (.int .i64 a.ht), .dsl 1 (a.sv.map inL), .dsl 1 (a.lv.map inL)] := hrow0.symm
  subst hrow
  generalize hrow1 : rasL b = row1 at *
  have hrow : row1 = [.v (.int .i64 b.st), .v (.int .i64 b.wd), .v (.int .i64 b.ht), .dsl 1 (b.sv.map inL), .dsl 1 (b.lv.map inL)] := hrow1.symm
  subst hrow
  refine RO.ofp Try.func6 Try.ntmps6 rfl (goFn_of Try.func6 rfl (by kernel_rfl)) rfl rfl rfl ?_
  ((repeat' (first
    | (show SQ _ _ _ _ _ _ _ _; first | apply sq_nil | (apply q_move; exact rfl; exact rfl) | (apply q_assign; exact rfl; exact rfl) | (apply q_pick_f; exact rfl; exact rfl; exact rfl; exact (by first | assumption | exact rfl)) | (apply q_fieldAddr; exact rfl; exact rfl; exact (ty rfl); exact rfl; exact rfl; exact rfl; exact rfl) | (apply q_not; exact rfl; exact rfl) | (apply q_lend; exact rfl; exact rfl; exact (ty rfl); exact rfl) | (apply q_ld1p; exact rfl; exact rfl; exact (ty rfl); exact rfl; exact rfl; exact (by first | rfl | assumption | ((try simp only [Nat.zero_add]); refine List.getElem?_set_self ?_; (try simp only [List.length_set]); assumption)); exact rfl) | (apply q_g; exact rfl; exact rfl; exact rfl; exact rfl))
    | (show SQ _ _ _ _ _ _ _ _; (first | (apply q_ldap; exact rfl; exact rfl; exact (ty rfl); exact rfl; exact rfl; exact (by first | rfl | assumption | ((try simp only [Nat.zero_add]); refine List.getElem?_set_self ?_; (try simp only [List.length_set]); assumption)); exact rfl) | (apply q_box; exact rfl; exact rfl; exact rfl) | (apply q_alloc; exact rfl; exact (ty rfl); exact rfl; exact rfl) | (apply q_callU; exact rfl; exact rfl; exact rfl; exact FzL.of rfl; exact hV1 _) | (apply q_callU; exact rfl; exact rfl; exact rfl; exact FzL.of rfl; exact hV2 _) | (apply q_callU; exact rfl; exact rfl; exact rfl; exact FzL.of rfl; exact hS _)); (try simp only [put, rowsOf, plR, List.all_cons, selE, ovr, setH, del, cellsA, splice, isV, List.nil_append, List.cons_append, List.map_cons, List.map_nil, List.length_cons, List.length_nil, List.set_cons_zero, List.set_cons_succ, List.take_succ_cons, List.take_zero, List.take_nil, List.drop_succ_cons, List.drop_zero, List.drop_nil, List.append_nil, List.all_cons, List.all_nil, Bool.and_true, Bool.true_and, Bool.and_false, Bool.false_and, Nat.reduceAdd, Nat.zero_add, Nat.add_zero, Nat.reduceEqDiff, if_true, if_false, reduceIte]))
    | (show AW _ _ _ _ _ _ _ _; first | refine aw_region ?_ | (refine aw_seqk ?_; intro K hK) | refine aw_block ?_ | (apply aw_cond_f; exact rfl; exact rfl) | refine aw_skip ?_)
    | refine thn_n ?_
    | (refine hK _ _ _ ?_; clear hK K)
    | refine inb_n ?_)); all_goals (repeat (clear hK K)))
  refine aw_loop (ρ := id) (ι := Nat) (fun i => ([(29, .v (.int .i64 i)), (28, .v (.int .i64 a.sv.length)), (6, .ptr 3 0 0), (4, .ptr 2 0 0), (3, .ptr 1 0 0), (2, .ptr 0 0 0)],
      [(0, ⟨26, 5, false, [[.v (.int .i64 a.st), .v (.int .i64 a.wd), .v (.int .i64 a.ht), .dsl 1 (a.sv.map inL), .dsl 1 (a.lv.map inL)]]⟩), (1, ⟨26, 5, false, [[.v (.int .i64 b.st), .v (.int .i64 b.wd), .v (.int .i64 b.ht), .dsl 1 (b.sv.map inL), .dsl 1 (b.lv.map inL)]]⟩),
       (2, ⟨30, 5, false, [[.v (.int .i64 0), .v (.int .i64 0), .v (.int .i64 0), .v (.int .i64 0), .v (.int .i64 0)]]⟩),
       (3, ⟨30, 5, false, [[.v (.int .i64 (cI (gaP a b) i)), .v (.int .i64 (cI (loP a b) i)), .v (.int .i64 (cI (moP a b) i)), .v (.int .i64 (cI (beP a b) i)), .v (.int .i64 (cI (woP a b) i))]]⟩)], 4))
    (fun i => i ≤ a.sv.length) (fun i => a.sv.length - i) 0 (Nat.zero_le _) ⟨by (repeat (refine ⟨by first | exact lk_i rfl rfl | exact lk_i rfl (by (try dsimp only); first | rfl | omega | (rw [IntWalk.i64_in _ (by omega)]; first | rfl | omega | (push_cast; omega)) | (simp; done) | (simp; omega)) | exact lk_r rfl rfl rfl, ?_⟩)); exact trivial, by (repeat (refine ⟨by first | exact ⟨rfl, rfl, rfl⟩, ?_⟩)); exact trivial, by rfl, by exact pin_0⟩ ?_
  intro i hi
  by_cases c1 : i < a.sv.length
  · have b1 : decide ((i : Int) < (a.sv.length : Int)) = true := by simpa using c1
    have c2 : i < a.lv.length := by omega
    have c3 : i < b.sv.length := by omega
    have c4 : i < b.lv.length := by omega
    have hr1 := inL_get c1
    have hr2 := inL_get c2
    have hr3 := inL_get c3
    have hr4 := inL_get c4
    have hw : IntKind.i64.wrap ((i : Int) + 1) = ((i + 1 : Nat) : Int) := by rw [IntWalk.i64_in _ (by omega)]; omega
    have s1 : cI (gaP a b) (i + 1) = if gaP a b i = true then IntKind.i64.wrap (cI (gaP a b) i + 1) else cI (gaP a b) i := rfl
    have s2 : cI (loP a b) (i + 1) = if loP a b i = true then IntKind.i64.wrap (cI (loP a b) i + 1) else cI (loP a b) i := rfl
    have s3 : cI (moP a b) (i + 1) = if moP a b i = true then IntKind.i64.wrap (cI (moP a b) i + 1) else cI (moP a b) i := rfl
    have s4 : cI (beP a b) (i + 1) = if beP a b i = true then IntKind.i64.wrap (cI (beP a b) i + 1) else cI (beP a b) i := rfl
    have s5 : cI (woP a b) (i + 1) = if woP a b i = true then IntKind.i64.wrap (cI (woP a b) i + 1) else cI (woP a b) i := rfl
    rw [show gaP a b i = (!decide (0 ≤ a.sv[i]) && decide (0 ≤ b.sv[i])) by unfold gaP oneB; rw [getD_at c1, getD_at c3]] at s1
    rw [show loP a b i = (decide (0 ≤ a.sv[i]) && !decide (0 ≤ b.sv[i])) by unfold loP oneB; rw [getD_at c1, getD_at c3]] at s2
    rw [show moP a b i = (decide (0 ≤ a.sv[i]) && decide (0 ≤ b.sv[i]) && (a.sv[i] != b.sv[i])) by unfold moP oneB; rw [getD_at c1, getD_at c3]] at s3
    rw [show beP a b i = (decide (0 ≤ a.sv[i]) && decide (0 ≤ b.sv[i]) && decide (a.lv[i] < b.lv[i])) by unfold beP oneB; rw [getD_at c1, getD_at c2, getD_at c3, getD_at c4]] at s4
    rw [show woP a b i = (decide (0 ≤ a.sv[i]) && decide (0 ≤ b.sv[i]) && !decide (a.lv[i] < b.lv[i]) && decide (b.lv[i] < a.lv[i])) by unfold woP oneB; rw [getD_at c1, getD_at c2, getD_at c3, getD_at c4]] at s5
    cases a1 : decide (0 ≤ a.sv[i]) with
    | false =>
      have na1 : (!decide (0 ≤ a.sv[i])) = true := by rw [a1]; rfl
      cases a2 : decide (0 ≤ b.sv[i]) with
      | false =>
        have na2 : (!decide (0 ≤ b.sv[i])) = true := by rw [a2]; rfl
        simp only [a1, a2, Bool.not_true, Bool.not_false, Bool.and_true, Bool.true_and, Bool.and_false, Bool.false_and, if_true, if_false, Bool.false_eq_true] at s1 s2 s3 s4 s5
        ((repeat' (first
    | (show SQ _ _ _ _ _ _ _ _; first | apply sq_nil | (apply q_move; exact rfl; exact rfl) | (apply q_assign; exact rfl; exact rfl) | (apply q_pick_t; exact rfl; exact rfl; exact rfl; exact (by first | assumption | exact rfl)) | (apply q_pick_f; exact rfl; exact rfl; exact rfl; exact (by first | assumption | exact rfl)) | (apply q_not; exact rfl; exact rfl) | (apply q_add; exact rfl; exact rfl; exact rfl) | (apply q_lss; exact rfl; exact rfl; exact rfl) | (apply q_g; exact rfl; exact rfl; exact rfl; exact (by assumption)) | (apply q_s; exact rfl; exact rfl; exact rfl; exact (by assumption); exact rfl))
    | (show DE _ _ _ _ _ _ _ _ _ _ _ _; first | (apply e_move; exact rfl; exact rfl; exact rfl) | (apply e_assign; exact rfl; exact rfl; exact rfl) | (apply e_pick_f; exact rfl; exact rfl; exact rfl; exact (by first | assumption | exact rfl); exact rfl) | (apply e_fieldAddr; exact rfl; exact rfl; exact (ty rfl); exact rfl; exact rfl; exact rfl; exact rfl; exact rfl) | (apply e_geq; exact rfl; exact rfl; exact rfl; exact rfl) | (apply e_ixd; exact rfl; exact rfl; exact rfl; exact (ty rfl); exact rfl; exact (by first | omega | (simp; done) | (simp; omega)); exact (by first | omega | (simp; done) | (simp; omega)); exact (by first | rfl | assumption); exact rfl) | (apply e_ld1d; exact rfl; exact rfl; exact (ty rfl); exact rfl; exact rfl; exact rfl) | (apply e_ld1p; exact rfl; exact rfl; exact (ty rfl); exact rfl; exact rfl; exact (by first | rfl | assumption | ((try simp only [Nat.zero_add]); refine List.getElem?_set_self ?_; (try simp only [List.length_set]); assumption)); exact rfl; exact rfl) | (apply e_s; exact rfl; exact rfl; exact rfl; exact (by assumption); exact rfl) | (apply e_s; exact rfl; exact rfl; exact rfl; exact rfl; exact rfl))
    | (show DE _ _ _ _ _ _ _ _ _ _ _ _; (first | (apply dr_nil; exact trivial)); (try simp only [put, rowsOf, plR, List.all_cons, selE, ovr, setH, del, cellsA, splice, isV, List.nil_append, List.cons_append, List.map_cons, List.map_nil, List.length_cons, List.length_nil, List.set_cons_zero, List.set_cons_succ, List.take_succ_cons, List.take_zero, List.take_nil, List.drop_succ_cons, List.drop_zero, List.drop_nil, List.append_nil, List.all_cons, List.all_nil, Bool.and_true, Bool.true_and, Bool.and_false, Bool.false_and, Nat.reduceAdd, Nat.zero_add, Nat.add_zero, Nat.reduceEqDiff, if_true, if_false, reduceIte]))
    | (show AW _ _ _ _ _ _ _ _; first | refine aw_region ?_ | (refine aw_seqk ?_; intro K hK) | refine aw_block ?_ | (apply aw_cond_f; exact rfl; exact rfl) | (apply aw_cond_t; exact rfl; exact (by assumption)) | (apply aw_cond_f; exact rfl; exact (by assumption)) | refine aw_skip ?_ | refine aw_drawE (id := 9) [0, 1, 0, 7, 15, 31, 0, 64, 0, 448, 960, 1984, 63, 8191] [0, 1, 0, 0, 1, 0, 0, 1, 0, 0, 1, 0, 0, 0] mixed (by kernel_rfl) ?_ | refine aw_drawE (id := 14) [0, 1, 3, 7, 3, 31, 63, 3, 131, 3, 899, 1923, 4095, 8191, 16383] [0, 0, 0, 1, 0, 0, 1, 0, 1, 0, 0, 1, 0, 0, 0] mixed (by kernel_rfl) ?_ | refine aw_drawE (id := 16) [0, 1, 3, 7, 15, 31, 63, 31, 255, 511, 31, 1055, 31, 7199, 15391, 32767, 65535, 131071] [0, 0, 0, 0, 0, 0, 1, 0, 0, 1, 0, 1, 0, 0, 1, 0, 0, 0] mixed (by kernel_rfl) ?_ | refine aw_drawE (id := 18) [0, 1, 3, 7, 15, 31, 63, 31, 255, 511, 31, 1055, 31, 7199, 15391, 32767, 65535, 131071] [0, 0, 0, 0, 0, 0, 1, 0, 0, 1, 0, 1, 0, 0, 1, 0, 0, 0] mixed (by kernel_rfl) ?_)
    | refine thn_n ?_
    | (refine hK _ _ _ ?_; clear hK K)
    | refine inb_n ?_)); all_goals (repeat (clear hK K)))
        refine ⟨i + 1, id, c1, by omega, ?_⟩
        (try dsimp only); rw [s1, s2, s3, s4, s5, ← hw]
        exact ⟨by (repeat (refine ⟨by first | exact lk_i rfl rfl | exact lk_r rfl rfl rfl, ?_⟩)); exact trivial, by (repeat (refine ⟨by first | exact ⟨rfl, rfl, rfl⟩, ?_⟩)); exact trivial, by rfl, by exact pin_0⟩
      | true =>
        have na2 : (!decide (0 ≤ b.sv[i])) = false := by rw [a2]; rfl
        simp only [a1, a2, Bool.not_true, Bool.not_false, Bool.and_true, Bool.true_and, Bool.and_false, Bool.false_and, if_true, if_false, Bool.false_eq_true] at s1 s2 s3 s4 s5
        ((repeat' (first
    | (show SQ _ _ _ _ _ _ _ _; first | apply sq_nil | (apply q_move; exact rfl; exact rfl) | (apply q_assign; exact rfl; exact rfl) | (apply q_pick_t; exact rfl; exact rfl; exact rfl; exact (by first | assumption | exact rfl)) | (apply q_fieldAddr; exact rfl; exact rfl; exact (ty rfl); exact rfl; exact rfl; exact rfl; exact rfl) | (apply q_not; exact rfl; exact rfl) | (apply q_add; exact rfl; exact rfl; exact rfl) | (apply q_lss; exact rfl; exact rfl; exact rfl) | (apply q_ld1p; exact rfl; exact rfl; exact (ty rfl); exact rfl; exact rfl; exact (by first | rfl | assumption | ((try simp only [Nat.zero_add]); refine List.getElem?_set_self ?_; (try simp only [List.length_set]); assumption)); exact rfl) | (apply q_g; exact rfl; exact rfl; exact rfl; exact (by assumption)))
    | (show SQ _ _ _ _ _ _ _ _; (first | (apply q_store; exact rfl; exact rfl; exact (ty rfl); exact rfl; exact (by first | rfl | assumption | ((try simp only [Nat.zero_add]); refine List.getElem?_set_self ?_; (try simp only [List.length_set]); assumption)); exact rfl; exact rfl; exact rfl)); (try simp only [put, rowsOf, plR, List.all_cons, selE, ovr, setH, del, cellsA, splice, isV, List.nil_append, List.cons_append, List.map_cons, List.map_nil, List.length_cons, List.length_nil, List.set_cons_zero, List.set_cons_succ, List.take_succ_cons, List.take_zero, List.take_nil, List.drop_succ_cons, List.drop_zero, List.drop_nil, List.append_nil, List.all_cons, List.all_nil, Bool.and_true, Bool.true_and, Bool.and_false, Bool.false_and, Nat.reduceAdd, Nat.zero_add, Nat.add_zero, Nat.reduceEqDiff, if_true, if_false, reduceIte]))
    | (show DE _ _ _ _ _ _ _ _ _ _ _ _; first | (apply e_move; exact rfl; exact rfl; exact rfl) | (apply e_assign; exact rfl; exact rfl; exact rfl) | (apply e_pick_f; exact rfl; exact rfl; exact rfl; exact (by first | assumption | exact rfl); exact rfl) | (apply e_fieldAddr; exact rfl; exact rfl; exact (ty rfl); exact rfl; exact rfl; exact rfl; exact rfl; exact rfl) | (apply e_geq; exact rfl; exact rfl; exact rfl; exact rfl) | (apply e_ixd; exact rfl; exact rfl; exact rfl; exact (ty rfl); exact rfl; exact (by first | omega | (simp; done) | (simp; omega)); exact (by first | omega | (simp; done) | (simp; omega)); exact (by first | rfl | assumption); exact rfl) | (apply e_ld1d; exact rfl; exact rfl; exact (ty rfl); exact rfl; exact rfl; exact rfl) | (apply e_ld1p; exact rfl; exact rfl; exact (ty rfl); exact rfl; exact rfl; exact (by first | rfl | assumption | ((try simp only [Nat.zero_add]); refine List.getElem?_set_self ?_; (try simp only [List.length_set]); assumption)); exact rfl; exact rfl) | (apply e_s; exact rfl; exact rfl; exact rfl; exact (by assumption); exact rfl) | (apply e_s; exact rfl; exact rfl; exact rfl; exact rfl; exact rfl))
    | (show DE _ _ _ _ _ _ _ _ _ _ _ _; (first | (apply dr_nil; exact trivial)); (try simp only [put, rowsOf, plR, List.all_cons, selE, ovr, setH, del, cellsA, splice, isV, List.nil_append, List.cons_append, List.map_cons, List.map_nil, List.length_cons, List.length_nil, List.set_cons_zero, List.set_cons_succ, List.take_succ_cons, List.take_zero, List.take_nil, List.drop_succ_cons, List.drop_zero, List.drop_nil, List.append_nil, List.all_cons, List.all_nil, Bool.and_true, Bool.true_and, Bool.and_false, Bool.false_and, Nat.reduceAdd, Nat.zero_add, Nat.add_zero, Nat.reduceEqDiff, if_true, if_false, reduceIte]))
    | (show AW _ _ _ _ _ _ _ _; first | refine aw_region ?_ | (refine aw_seqk ?_; intro K hK) | refine aw_block ?_ | (apply aw_cond_f; exact rfl; exact rfl) | (apply aw_cond_t; exact rfl; exact (by assumption)) | refine aw_skip ?_ | refine aw_drawE (id := 9) [0, 1, 0, 7, 15, 31, 0, 64, 0, 448, 960, 1984, 63, 8191] [0, 1, 0, 0, 1, 0, 0, 1, 0, 0, 1, 0, 0, 0] mixed (by kernel_rfl) ?_ | refine aw_drawE (id := 16) [0, 1, 3, 7, 15, 31, 63, 31, 255, 511, 31, 1055, 31, 7199, 15391, 32767, 65535, 131071] [0, 0, 0, 0, 0, 0, 1, 0, 0, 1, 0, 1, 0, 0, 1, 0, 0, 0] mixed (by kernel_rfl) ?_ | refine aw_drawE (id := 18) [0, 1, 3, 7, 15, 31, 63, 31, 255, 511, 31, 1055, 31, 7199, 15391, 32767, 65535, 131071] [0, 0, 0, 0, 0, 0, 1, 0, 0, 1, 0, 1, 0, 0, 1, 0, 0, 0] mixed (by kernel_rfl) ?_)
    | refine thn_n ?_
    | (refine hK _ _ _ ?_; clear hK K)
    | refine inb_n ?_)); all_goals (repeat (clear hK K)))
        refine ⟨i + 1, id, c1, by omega, ?_⟩
        (try dsimp only); rw [s1, s2, s3, s4, s5, ← hw]
        exact ⟨by (repeat (refine ⟨by first | exact lk_i rfl rfl | exact lk_r rfl rfl rfl, ?_⟩)); exact trivial, by (repeat (refine ⟨by first | exact ⟨rfl, rfl, rfl⟩, ?_⟩)); exact trivial, by rfl, by exact pin_0⟩
    | true =>
      have na1 : (!decide (0 ≤ a.sv[i])) = false := by rw [a1]; rfl
      cases a2 : decide (0 ≤ b.sv[i]) with
      | false =>
        have na2 : (!decide (0 ≤ b.sv[i])) = true := by rw [a2]; rfl
        simp only [a1, a2, Bool.not_true, Bool.not_false, Bool.and_true, Bool.true_and, Bool.and_false, Bool.false_and, if_true, if_false, Bool.false_eq_true] at s1 s2 s3 s4 s5
        ((repeat' (first
    | (show SQ _ _ _ _ _ _ _ _; first | apply sq_nil | (apply q_move; exact rfl; exact rfl) | (apply q_assign; exact rfl; exact rfl) | (apply q_pick_t; exact rfl; exact rfl; exact rfl; exact (by first | assumption | exact rfl)) | (apply q_pick_f; exact rfl; exact rfl; exact rfl; exact (by first | assumption | exact rfl)) | (apply q_fieldAddr; exact rfl; exact rfl; exact (ty rfl); exact rfl; exact rfl; exact rfl; exact rfl) | (apply q_not; exact rfl; exact rfl) | (apply q_add; exact rfl; exact rfl; exact rfl) | (apply q_lss; exact rfl; exact rfl; exact rfl) | (apply q_ld1p; exact rfl; exact rfl; exact (ty rfl); exact rfl; exact rfl; exact (by first | rfl | assumption | ((try simp only [Nat.zero_add]); refine List.getElem?_set_self ?_; (try simp only [List.length_set]); assumption)); exact rfl) | (apply q_g; exact rfl; exact rfl; exact rfl; exact (by assumption)) | (apply q_s; exact rfl; exact rfl; exact rfl; exact (by assumption); exact rfl))
    | (show SQ _ _ _ _ _ _ _ _; (first | (apply q_store; exact rfl; exact rfl; exact (ty rfl); exact rfl; exact (by first | rfl | assumption | ((try simp only [Nat.zero_add]); refine List.getElem?_set_self ?_; (try simp only [List.length_set]); assumption)); exact rfl; exact rfl; exact rfl)); (try simp only [put, rowsOf, plR, List.all_cons, selE, ovr, setH, del, cellsA, splice, isV, List.nil_append, List.cons_append, List.map_cons, List.map_nil, List.length_cons, List.length_nil, List.set_cons_zero, List.set_cons_succ, List.take_succ_cons, List.take_zero, List.take_nil, List.drop_succ_cons, List.drop_zero, List.drop_nil, List.append_nil, List.all_cons, List.all_nil, Bool.and_true, Bool.true_and, Bool.and_false, Bool.false_and, Nat.reduceAdd, Nat.zero_add, Nat.add_zero, Nat.reduceEqDiff, if_true, if_false, reduceIte]))
    | (show DE _ _ _ _ _ _ _ _ _ _ _ _; first | (apply e_move; exact rfl; exact rfl; exact rfl) | (apply e_assign; exact rfl; exact rfl; exact rfl) | (apply e_pick_t; exact rfl; exact rfl; exact rfl; exact (by first | assumption | exact rfl); exact rfl) | (apply e_pick_f; exact rfl; exact rfl; exact rfl; exact (by first | assumption | exact rfl); exact rfl) | (apply e_fieldAddr; exact rfl; exact rfl; exact (ty rfl); exact rfl; exact rfl; exact rfl; exact rfl; exact rfl) | (apply e_geq; exact rfl; exact rfl; exact rfl; exact rfl) | (apply e_ixd; exact rfl; exact rfl; exact rfl; exact (ty rfl); exact rfl; exact (by first | omega | (simp; done) | (simp; omega)); exact (by first | omega | (simp; done) | (simp; omega)); exact (by first | rfl | assumption); exact rfl) | (apply e_ld1d; exact rfl; exact rfl; exact (ty rfl); exact rfl; exact rfl; exact rfl) | (apply e_ld1p; exact rfl; exact rfl; exact (ty rfl); exact rfl; exact rfl; exact (by first | rfl | assumption | ((try simp only [Nat.zero_add]); refine List.getElem?_set_self ?_; (try simp only [List.length_set]); assumption)); exact rfl; exact rfl) | (apply e_g; exact rfl; exact rfl; exact rfl; exact (by assumption)) | (apply e_s; exact rfl; exact rfl; exact rfl; exact (by assumption); exact rfl))
    | (show DE _ _ _ _ _ _ _ _ _ _ _ _; (first | (apply dr_nil; exact trivial)); (try simp only [put, rowsOf, plR, List.all_cons, selE, ovr, setH, del, cellsA, splice, isV, List.nil_append, List.cons_append, List.map_cons, List.map_nil, List.length_cons, List.length_nil, List.set_cons_zero, List.set_cons_succ, List.take_succ_cons, List.take_zero, List.take_nil, List.drop_succ_cons, List.drop_zero, List.drop_nil, List.append_nil, List.all_cons, List.all_nil, Bool.and_true, Bool.true_and, Bool.and_false, Bool.false_and, Nat.reduceAdd, Nat.zero_add, Nat.add_zero, Nat.reduceEqDiff, if_true, if_false, reduceIte]))
    | (show AW _ _ _ _ _ _ _ _; first | refine aw_region ?_ | (refine aw_seqk ?_; intro K hK) | refine aw_block ?_ | (apply aw_cond_f; exact rfl; exact rfl) | (apply aw_cond_t; exact rfl; exact (by assumption)) | refine aw_skip ?_ | refine aw_drawE (id := 9) [0, 1, 0, 7, 15, 31, 0, 64, 0, 448, 960, 1984, 63, 8191] [0, 1, 0, 0, 1, 0, 0, 1, 0, 0, 1, 0, 0, 0] mixed (by kernel_rfl) ?_ | refine aw_drawE (id := 16) [0, 1, 3, 7, 15, 31, 63, 31, 255, 511, 31, 1055, 31, 7199, 15391, 32767, 65535, 131071] [0, 0, 0, 0, 0, 0, 1, 0, 0, 1, 0, 1, 0, 0, 1, 0, 0, 0] mixed (by kernel_rfl) ?_ | refine aw_drawE (id := 18) [0, 1, 3, 7, 15, 31, 63, 31, 255, 511, 31, 1055, 31, 7199, 15391, 32767, 65535, 131071] [0, 0, 0, 0, 0, 0, 1, 0, 0, 1, 0, 1, 0, 0, 1, 0, 0, 0] mixed (by kernel_rfl) ?_)
    | refine thn_n ?_
    | (refine hK _ _ _ ?_; clear hK K)
    | refine inb_n ?_)); all_goals (repeat (clear hK K)))
        refine ⟨i + 1, id, c1, by omega, ?_⟩
        (try dsimp only); rw [s1, s2, s3, s4, s5, ← hw]
        exact ⟨by (repeat (refine ⟨by first | exact lk_i rfl rfl | exact lk_r rfl rfl rfl, ?_⟩)); exact trivial, by (repeat (refine ⟨by first | exact ⟨rfl, rfl, rfl⟩, ?_⟩)); exact trivial, by rfl, by exact pin_0⟩
      | true =>
        have na2 : (!decide (0 ≤ b.sv[i])) = false := by rw [a2]; rfl
        cases a3 : (a.sv[i] != b.sv[i]) with
        | false =>
          cases a4 : decide (a.lv[i] < b.lv[i]) with
          | false =>
            cases a5 : decide (b.lv[i] < a.lv[i]) with
            | false =>
              simp only [a1, a2, a3, a4, a5, Bool.not_true, Bool.not_false, Bool.and_true, Bool.true_and, Bool.and_false, Bool.false_and, if_true, if_false, Bool.false_eq_true] at s1 s2 s3 s4 s5
              ((repeat' (first
    | (show SQ _ _ _ _ _ _ _ _; first | apply sq_nil | (apply q_move; exact rfl; exact rfl) | (apply q_assign; exact rfl; exact rfl) | (apply q_pick_t; exact rfl; exact rfl; exact rfl; exact (by first | assumption | exact rfl)) | (apply q_pick_f; exact rfl; exact rfl; exact rfl; exact (by first | assumption | exact rfl)) | (apply q_not; exact rfl; exact rfl) | (apply q_add; exact rfl; exact rfl; exact rfl) | (apply q_lss; exact rfl; exact rfl; exact rfl) | (apply q_g; exact rfl; exact rfl; exact rfl; exact (by assumption)) | (apply q_s; exact rfl; exact rfl; exact rfl; exact (by assumption); exact rfl))
    | (show DE _ _ _ _ _ _ _ _ _ _ _ _; first | (apply e_move; exact rfl; exact rfl; exact rfl) | (apply e_assign; exact rfl; exact rfl; exact rfl) | (apply e_pick_t; exact rfl; exact rfl; exact rfl; exact (by first | assumption | exact rfl); exact rfl) | (apply e_fieldAddr; exact rfl; exact rfl; exact (ty rfl); exact rfl; exact rfl; exact rfl; exact rfl; exact rfl) | (apply e_neq; exact rfl; exact rfl; exact rfl; exact rfl) | (apply e_lss; exact rfl; exact rfl; exact rfl; exact rfl) | (apply e_gtr; exact rfl; exact rfl; exact rfl; exact rfl) | (apply e_geq; exact rfl; exact rfl; exact rfl; exact rfl) | (apply e_ixd; exact rfl; exact rfl; exact rfl; exact (ty rfl); exact rfl; exact (by first | omega | (simp; done) | (simp; omega)); exact (by first | omega | (simp; done) | (simp; omega)); exact (by first | rfl | assumption); exact rfl) | (apply e_ld1d; exact rfl; exact rfl; exact (ty rfl); exact rfl; exact rfl; exact rfl) | (apply e_ld1p; exact rfl; exact rfl; exact (ty rfl); exact rfl; exact rfl; exact (by first | rfl | assumption | ((try simp only [Nat.zero_add]); refine List.getElem?_set_self ?_; (try simp only [List.length_set]); assumption)); exact rfl; exact rfl) | (apply e_g; exact rfl; exact rfl; exact rfl; exact (by assumption)))
    | (show DE _ _ _ _ _ _ _ _ _ _ _ _; (first | (apply dr_nil; exact trivial)); (try simp only [put, rowsOf, plR, List.all_cons, selE, ovr, setH, del, cellsA, splice, isV, List.nil_append, List.cons_append, List.map_cons, List.map_nil, List.length_cons, List.length_nil, List.set_cons_zero, List.set_cons_succ, List.take_succ_cons, List.take_zero, List.take_nil, List.drop_succ_cons, List.drop_zero, List.drop_nil, List.append_nil, List.all_cons, List.all_nil, Bool.and_true, Bool.true_and, Bool.and_false, Bool.false_and, Nat.reduceAdd, Nat.zero_add, Nat.add_zero, Nat.reduceEqDiff, if_true, if_false, reduceIte]))
    | (show AW _ _ _ _ _ _ _ _; first | refine aw_region ?_ | (refine aw_seqk ?_; intro K hK) | refine aw_block ?_ | (apply aw_cond_f; exact rfl; exact rfl) | (apply aw_cond_t; exact rfl; exact (by assumption)) | (apply aw_cond_f; exact rfl; exact (by assumption)) | refine aw_skip ?_ | refine aw_drawE (id := 9) [0, 1, 0, 7, 15, 31, 0, 64, 0, 448, 960, 1984, 63, 8191] [0, 1, 0, 0, 1, 0, 0, 1, 0, 0, 1, 0, 0, 0] mixed (by kernel_rfl) ?_ | refine aw_drawE (id := 14) [0, 1, 3, 7, 3, 31, 63, 3, 131, 3, 899, 1923, 4095, 8191, 16383] [0, 0, 0, 1, 0, 0, 1, 0, 1, 0, 0, 1, 0, 0, 0] mixed (by kernel_rfl) ?_ | refine aw_drawE (id := 16) [0, 1, 3, 7, 15, 31, 63, 31, 255, 511, 31, 1055, 31, 7199, 15391, 32767, 65535, 131071] [0, 0, 0, 0, 0, 0, 1, 0, 0, 1, 0, 1, 0, 0, 1, 0, 0, 0] mixed (by kernel_rfl) ?_ | refine aw_drawE (id := 18) [0, 1, 3, 7, 15, 31, 63, 31, 255, 511, 31, 1055, 31, 7199, 15391, 32767, 65535, 131071] [0, 0, 0, 0, 0, 0, 1, 0, 0, 1, 0, 1, 0, 0, 1, 0, 0, 0] mixed (by kernel_rfl) ?_)
    | refine thn_n ?_
    | (refine hK _ _ _ ?_; clear hK K)
    | refine inb_n ?_)); all_goals (repeat (clear hK K)))
              refine ⟨i + 1, id, c1, by omega, ?_⟩
              (try dsimp only); rw [s1, s2, s3, s4, s5, ← hw]
              exact ⟨by (repeat (refine ⟨by first | exact lk_i rfl rfl | exact lk_r rfl rfl rfl, ?_⟩)); exact trivial, by (repeat (refine ⟨by first | exact ⟨rfl, rfl, rfl⟩, ?_⟩)); exact trivial, by rfl, by exact pin_0⟩
            | true =>
              simp only [a1, a2, a3, a4, a5, Bool.not_true, Bool.not_false, Bool.and_true, Bool.true_and, Bool.and_false, Bool.false_and, if_true, if_false, Bool.false_eq_true] at s1 s2 s3 s4 s5
              ((repeat' (first
    | (show SQ _ _ _ _ _ _ _ _; first | apply sq_nil | (apply q_move; exact rfl; exact rfl) | (apply q_assign; exact rfl; exact rfl) | (apply q_pick_t; exact rfl; exact rfl; exact rfl; exact (by first | assumption | exact rfl)) | (apply q_pick_f; exact rfl; exact rfl; exact rfl; exact (by first | assumption | exact rfl)) | (apply q_fieldAddr; exact rfl; exact rfl; exact (ty rfl); exact rfl; exact rfl; exact rfl; exact rfl) | (apply q_not; exact rfl; exact rfl) | (apply q_add; exact rfl; exact rfl; exact rfl) | (apply q_lss; exact rfl; exact rfl; exact rfl) | (apply q_ld1p; exact rfl; exact rfl; exact (ty rfl); exact rfl; exact rfl; exact (by first | rfl | assumption | ((try simp only [Nat.zero_add]); refine List.getElem?_set_self ?_; (try simp only [List.length_set]); assumption)); exact rfl) | (apply q_g; exact rfl; exact rfl; exact rfl; exact (by assumption)) | (apply q_s; exact rfl; exact rfl; exact rfl; exact (by assumption); exact rfl))
    | (show SQ _ _ _ _ _ _ _ _; (first | (apply q_store; exact rfl; exact rfl; exact (ty rfl); exact rfl; exact (by first | rfl | assumption | ((try simp only [Nat.zero_add]); refine List.getElem?_set_self ?_; (try simp only [List.length_set]); assumption)); exact rfl; exact rfl; exact rfl)); (try simp only [put, rowsOf, plR, List.all_cons, selE, ovr, setH, del, cellsA, splice, isV, List.nil_append, List.cons_append, List.map_cons, List.map_nil, List.length_cons, List.length_nil, List.set_cons_zero, List.set_cons_succ, List.take_succ_cons, List.take_zero, List.take_nil, List.drop_succ_cons, List.drop_zero, List.drop_nil, List.append_nil, List.all_cons, List.all_nil, Bool.and_true, Bool.true_and, Bool.and_false, Bool.false_and, Nat.reduceAdd, Nat.zero_add, Nat.add_zero, Nat.reduceEqDiff, if_true, if_false, reduceIte]))
    | (show DE _ _ _ _ _ _ _ _ _ _ _ _; first | (apply e_move; exact rfl; exact rfl; exact rfl) | (apply e_assign; exact rfl; exact rfl; exact rfl) | (apply e_pick_t; exact rfl; exact rfl; exact rfl; exact (by first | assumption | exact rfl); exact rfl) | (apply e_fieldAddr; exact rfl; exact rfl; exact (ty rfl); exact rfl; exact rfl; exact rfl; exact rfl; exact rfl) | (apply e_neq; exact rfl; exact rfl; exact rfl; exact rfl) | (apply e_lss; exact rfl; exact rfl; exact rfl; exact rfl) | (apply e_gtr; exact rfl; exact rfl; exact rfl; exact rfl) | (apply e_geq; exact rfl; exact rfl; exact rfl; exact rfl) | (apply e_ixd; exact rfl; exact rfl; exact rfl; exact (ty rfl); exact rfl; exact (by first | omega | (simp; done) | (simp; omega)); exact (by first | omega | (simp; done) | (simp; omega)); exact (by first | rfl | assumption); exact rfl) | (apply e_ld1d; exact rfl; exact rfl; exact (ty rfl); exact rfl; exact rfl; exact rfl) | (apply e_ld1p; exact rfl; exact rfl; exact (ty rfl); exact rfl; exact rfl; exact (by first | rfl | assumption | ((try simp only [Nat.zero_add]); refine List.getElem?_set_self ?_; (try simp only [List.length_set]); assumption)); exact rfl; exact rfl) | (apply e_g; exact rfl; exact rfl; exact rfl; exact (by assumption)))
    | (show DE _ _ _ _ _ _ _ _ _ _ _ _; (first | (apply dr_nil; exact trivial)); (try simp only [put, rowsOf, plR, List.all_cons, selE, ovr, setH, del, cellsA, splice, isV, List.nil_append, List.cons_append, List.map_cons, List.map_nil, List.length_cons, List.length_nil, List.set_cons_zero, List.set_cons_succ, List.take_succ_cons, List.take_zero, List.take_nil, List.drop_succ_cons, List.drop_zero, List.drop_nil, List.append_nil, List.all_cons, List.all_nil, Bool.and_true, Bool.true_and, Bool.and_false, Bool.false_and, Nat.reduceAdd, Nat.zero_add, Nat.add_zero, Nat.reduceEqDiff, if_true, if_false, reduceIte]))
    | (show AW _ _ _ _ _ _ _ _; first | refine aw_region ?_ | (refine aw_seqk ?_; intro K hK) | refine aw_block ?_ | (apply aw_cond_f; exact rfl; exact rfl) | (apply aw_cond_t; exact rfl; exact (by assumption)) | (apply aw_cond_f; exact rfl; exact (by assumption)) | refine aw_skip ?_ | refine aw_drawE (id := 9) [0, 1, 0, 7, 15, 31, 0, 64, 0, 448, 960, 1984, 63, 8191] [0, 1, 0, 0, 1, 0, 0, 1, 0, 0, 1, 0, 0, 0] mixed (by kernel_rfl) ?_ | refine aw_drawE (id := 14) [0, 1, 3, 7, 3, 31, 63, 3, 131, 3, 899, 1923, 4095, 8191, 16383] [0, 0, 0, 1, 0, 0, 1, 0, 1, 0, 0, 1, 0, 0, 0] mixed (by kernel_rfl) ?_ | refine aw_drawE (id := 16) [0, 1, 3, 7, 15, 31, 63, 31, 255, 511, 31, 1055, 31, 7199, 15391, 32767, 65535, 131071] [0, 0, 0, 0, 0, 0, 1, 0, 0, 1, 0, 1, 0, 0, 1, 0, 0, 0] mixed (by kernel_rfl) ?_ | refine aw_drawE (id := 18) [0, 1, 3, 7, 15, 31, 63, 31, 255, 511, 31, 1055, 31, 7199, 15391, 32767, 65535, 131071] [0, 0, 0, 0, 0, 0, 1, 0, 0, 1, 0, 1, 0, 0, 1, 0, 0, 0] mixed (by kernel_rfl) ?_)
    | refine thn_n ?_
    | (refine hK _ _ _ ?_; clear hK K)
    | refine inb_n ?_)); all_goals (repeat (clear hK K)))
              refine ⟨i + 1, id, c1, by omega, ?_⟩
              (try dsimp only); rw [s1, s2, s3, s4, s5, ← hw]
              exact ⟨by (repeat (refine ⟨by first | exact lk_i rfl rfl | exact lk_r rfl rfl rfl, ?_⟩)); exact trivial, by (repeat (refine ⟨by first | exact ⟨rfl, rfl, rfl⟩, ?_⟩)); exact trivial, by rfl, by exact pin_0⟩
          | true =>
            simp only [a1, a2, a3, a4, Bool.not_true, Bool.not_false, Bool.and_true, Bool.true_and, Bool.and_false, Bool.false_and, if_true, if_false, Bool.false_eq_true] at s1 s2 s3 s4 s5
            ((repeat' (first
    | (show SQ _ _ _ _ _ _ _ _; first | apply sq_nil | (apply q_move; exact rfl; exact rfl) | (apply q_assign; exact rfl; exact rfl) | (apply q_pick_t; exact rfl; exact rfl; exact rfl; exact (by first | assumption | exact rfl)) | (apply q_pick_f; exact rfl; exact rfl; exact rfl; exact (by first | assumption | exact rfl)) | (apply q_fieldAddr; exact rfl; exact rfl; exact (ty rfl); exact rfl; exact rfl; exact rfl; exact rfl) | (apply q_not; exact rfl; exact rfl) | (apply q_add; exact rfl; exact rfl; exact rfl) | (apply q_lss; exact rfl; exact rfl; exact rfl) | (apply q_ld1p; exact rfl; exact rfl; exact (ty rfl); exact rfl; exact rfl; exact (by first | rfl | assumption | ((try simp only [Nat.zero_add]); refine List.getElem?_set_self ?_; (try simp only [List.length_set]); assumption)); exact rfl) | (apply q_g; exact rfl; exact rfl; exact rfl; exact (by assumption)) | (apply q_s; exact rfl; exact rfl; exact rfl; exact (by assumption); exact rfl))
    | (show SQ _ _ _ _ _ _ _ _; (first | (apply q_store; exact rfl; exact rfl; exact (ty rfl); exact rfl; exact (by first | rfl | assumption | ((try simp only [Nat.zero_add]); refine List.getElem?_set_self ?_; (try simp only [List.length_set]); assumption)); exact rfl; exact rfl; exact rfl)); (try simp only [put, rowsOf, plR, List.all_cons, selE, ovr, setH, del, cellsA, splice, isV, List.nil_append, List.cons_append, List.map_cons, List.map_nil, List.length_cons, List.length_nil, List.set_cons_zero, List.set_cons_succ, List.take_succ_cons, List.take_zero, List.take_nil, List.drop_succ_cons, List.drop_zero, List.drop_nil, List.append_nil, List.all_cons, List.all_nil, Bool.and_true, Bool.true_and, Bool.and_false, Bool.false_and, Nat.reduceAdd, Nat.zero_add, Nat.add_zero, Nat.reduceEqDiff, if_true, if_false, reduceIte]))
    | (show DE _ _ _ _ _ _ _ _ _ _ _ _; first | (apply e_move; exact rfl; exact rfl; exact rfl) | (apply e_assign; exact rfl; exact rfl; exact rfl) | (apply e_pick_t; exact rfl; exact rfl; exact rfl; exact (by first | assumption | exact rfl); exact rfl) | (apply e_fieldAddr; exact rfl; exact rfl; exact (ty rfl); exact rfl; exact rfl; exact rfl; exact rfl; exact rfl) | (apply e_neq; exact rfl; exact rfl; exact rfl; exact rfl) | (apply e_gtr; exact rfl; exact rfl; exact rfl; exact rfl) | (apply e_geq; exact rfl; exact rfl; exact rfl; exact rfl) | (apply e_ixd; exact rfl; exact rfl; exact rfl; exact (ty rfl); exact rfl; exact (by first | omega | (simp; done) | (simp; omega)); exact (by first | omega | (simp; done) | (simp; omega)); exact (by first | rfl | assumption); exact rfl) | (apply e_ld1d; exact rfl; exact rfl; exact (ty rfl); exact rfl; exact rfl; exact rfl) | (apply e_ld1p; exact rfl; exact rfl; exact (ty rfl); exact rfl; exact rfl; exact (by first | rfl | assumption | ((try simp only [Nat.zero_add]); refine List.getElem?_set_self ?_; (try simp only [List.length_set]); assumption)); exact rfl; exact rfl) | (apply e_g; exact rfl; exact rfl; exact rfl; exact (by assumption)))
    | (show DE _ _ _ _ _ _ _ _ _ _ _ _; (first | (apply dr_nil; exact trivial)); (try simp only [put, rowsOf, plR, List.all_cons, selE, ovr, setH, del, cellsA, splice, isV, List.nil_append, List.cons_append, List.map_cons, List.map_nil, List.length_cons, List.length_nil, List.set_cons_zero, List.set_cons_succ, List.take_succ_cons, List.take_zero, List.take_nil, List.drop_succ_cons, List.drop_zero, List.drop_nil, List.append_nil, List.all_cons, List.all_nil, Bool.and_true, Bool.true_and, Bool.and_false, Bool.false_and, Nat.reduceAdd, Nat.zero_add, Nat.add_zero, Nat.reduceEqDiff, if_true, if_false, reduceIte]))
    | (show AW _ _ _ _ _ _ _ _; first | refine aw_region ?_ | (refine aw_seqk ?_; intro K hK) | refine aw_block ?_ | (apply aw_cond_f; exact rfl; exact rfl) | (apply aw_cond_t; exact rfl; exact (by assumption)) | (apply aw_cond_f; exact rfl; exact (by assumption)) | refine aw_skip ?_ | refine aw_drawE (id := 9) [0, 1, 0, 7, 15, 31, 0, 64, 0, 448, 960, 1984, 63, 8191] [0, 1, 0, 0, 1, 0, 0, 1, 0, 0, 1, 0, 0, 0] mixed (by kernel_rfl) ?_ | refine aw_drawE (id := 14) [0, 1, 3, 7, 3, 31, 63, 3, 131, 3, 899, 1923, 4095, 8191, 16383] [0, 0, 0, 1, 0, 0, 1, 0, 1, 0, 0, 1, 0, 0, 0] mixed (by kernel_rfl) ?_ | refine aw_drawE (id := 16) [0, 1, 3, 7, 15, 31, 63, 31, 255, 511, 31, 1055, 31, 7199, 15391, 32767, 65535, 131071] [0, 0, 0, 0, 0, 0, 1, 0, 0, 1, 0, 1, 0, 0, 1, 0, 0, 0] mixed (by kernel_rfl) ?_)
    | refine thn_n ?_
    | (refine hK _ _ _ ?_; clear hK K)
    | refine inb_n ?_)); all_goals (repeat (clear hK K)))
            refine ⟨i + 1, id, c1, by omega, ?_⟩
            (try dsimp only); rw [s1, s2, s3, s4, s5, ← hw]
            exact ⟨by (repeat (refine ⟨by first | exact lk_i rfl rfl | exact lk_r rfl rfl rfl, ?_⟩)); exact trivial, by (repeat (refine ⟨by first | exact ⟨rfl, rfl, rfl⟩, ?_⟩)); exact trivial, by rfl, by exact pin_0⟩
        | true =>
          cases a4 : decide (a.lv[i] < b.lv[i]) with
          | false =>
            cases a5 : decide (b.lv[i] < a.lv[i]) with
            | false =>
              simp only [a1, a2, a3, a4, a5, Bool.not_true, Bool.not_false, Bool.and_true, Bool.true_and, Bool.and_false, Bool.false_and, if_true, if_false, Bool.false_eq_true] at s1 s2 s3 s4 s5
              ((repeat' (first
    | (show SQ _ _ _ _ _ _ _ _; first | apply sq_nil | (apply q_move; exact rfl; exact rfl) | (apply q_assign; exact rfl; exact rfl) | (apply q_pick_t; exact rfl; exact rfl; exact rfl; exact (by first | assumption | exact rfl)) | (apply q_pick_f; exact rfl; exact rfl; exact rfl; exact (by first | assumption | exact rfl)) | (apply q_fieldAddr; exact rfl; exact rfl; exact (ty rfl); exact rfl; exact rfl; exact rfl; exact rfl) | (apply q_not; exact rfl; exact rfl) | (apply q_add; exact rfl; exact rfl; exact rfl) | (apply q_lss; exact rfl; exact rfl; exact rfl) | (apply q_ld1p; exact rfl; exact rfl; exact (ty rfl); exact rfl; exact rfl; exact (by first | rfl | assumption | ((try simp only [Nat.zero_add]); refine List.getElem?_set_self ?_; (try simp only [List.length_set]); assumption)); exact rfl) | (apply q_g; exact rfl; exact rfl; exact rfl; exact (by assumption)) | (apply q_s; exact rfl; exact rfl; exact rfl; exact (by assumption); exact rfl))
    | (show SQ _ _ _ _ _ _ _ _; (first | (apply q_store; exact rfl; exact rfl; exact (ty rfl); exact rfl; exact (by first | rfl | assumption | ((try simp only [Nat.zero_add]); refine List.getElem?_set_self ?_; (try simp only [List.length_set]); assumption)); exact rfl; exact rfl; exact rfl)); (try simp only [put, rowsOf, plR, List.all_cons, selE, ovr, setH, del, cellsA, splice, isV, List.nil_append, List.cons_append, List.map_cons, List.map_nil, List.length_cons, List.length_nil, List.set_cons_zero, List.set_cons_succ, List.take_succ_cons, List.take_zero, List.take_nil, List.drop_succ_cons, List.drop_zero, List.drop_nil, List.append_nil, List.all_cons, List.all_nil, Bool.and_true, Bool.true_and, Bool.and_false, Bool.false_and, Nat.reduceAdd, Nat.zero_add, Nat.add_zero, Nat.reduceEqDiff, if_true, if_false, reduceIte]))
    | (show DE _ _ _ _ _ _ _ _ _ _ _ _; first | (apply e_move; exact rfl; exact rfl; exact rfl) | (apply e_assign; exact rfl; exact rfl; exact rfl) | (apply e_pick_t; exact rfl; exact rfl; exact rfl; exact (by first | assumption | exact rfl); exact rfl) | (apply e_fieldAddr; exact rfl; exact rfl; exact (ty rfl); exact rfl; exact rfl; exact rfl; exact rfl; exact rfl) | (apply e_neq; exact rfl; exact rfl; exact rfl; exact rfl) | (apply e_lss; exact rfl; exact rfl; exact rfl; exact rfl) | (apply e_gtr; exact rfl; exact rfl; exact rfl; exact rfl) | (apply e_geq; exact rfl; exact rfl; exact rfl; exact rfl) | (apply e_ixd; exact rfl; exact rfl; exact rfl; exact (ty rfl); exact rfl; exact (by first | omega | (simp; done) | (simp; omega)); exact (by first | omega | (simp; done) | (simp; omega)); exact (by first | rfl | assumption); exact rfl) | (apply e_ld1d; exact rfl; exact rfl; exact (ty rfl); exact rfl; exact rfl; exact rfl) | (apply e_ld1p; exact rfl; exact rfl; exact (ty rfl); exact rfl; exact rfl; exact (by first | rfl | assumption | ((try simp only [Nat.zero_add]); refine List.getElem?_set_self ?_; (try simp only [List.length_set]); assumption)); exact rfl; exact rfl) | (apply e_g; exact rfl; exact rfl; exact rfl; exact (by assumption)))
    | (show DE _ _ _ _ _ _ _ _ _ _ _ _; (first | (apply dr_nil; exact trivial)); (try simp only [put, rowsOf, plR, List.all_cons, selE, ovr, setH, del, cellsA, splice, isV, List.nil_append, List.cons_append, List.map_cons, List.map_nil, List.length_cons, List.length_nil, List.set_cons_zero, List.set_cons_succ, List.take_succ_cons, List.take_zero, List.take_nil, List.drop_succ_cons, List.drop_zero, List.drop_nil, List.append_nil, List.all_cons, List.all_nil, Bool.and_true, Bool.true_and, Bool.and_false, Bool.false_and, Nat.reduceAdd, Nat.zero_add, Nat.add_zero, Nat.reduceEqDiff, if_true, if_false, reduceIte]))
    | (show AW _ _ _ _ _ _ _ _; first | refine aw_region ?_ | (refine aw_seqk ?_; intro K hK) | refine aw_block ?_ | (apply aw_cond_f; exact rfl; exact rfl) | (apply aw_cond_t; exact rfl; exact (by assumption)) | (apply aw_cond_f; exact rfl; exact (by assumption)) | refine aw_skip ?_ | refine aw_drawE (id := 9) [0, 1, 0, 7, 15, 31, 0, 64, 0, 448, 960, 1984, 63, 8191] [0, 1, 0, 0, 1, 0, 0, 1, 0, 0, 1, 0, 0, 0] mixed (by kernel_rfl) ?_ | refine aw_drawE (id := 14) [0, 1, 3, 7, 3, 31, 63, 3, 131, 3, 899, 1923, 4095, 8191, 16383] [0, 0, 0, 1, 0, 0, 1, 0, 1, 0, 0, 1, 0, 0, 0] mixed (by kernel_rfl) ?_ | refine aw_drawE (id := 16) [0, 1, 3, 7, 15, 31, 63, 31, 255, 511, 31, 1055, 31, 7199, 15391, 32767, 65535, 131071] [0, 0, 0, 0, 0, 0, 1, 0, 0, 1, 0, 1, 0, 0, 1, 0, 0, 0] mixed (by kernel_rfl) ?_ | refine aw_drawE (id := 18) [0, 1, 3, 7, 15, 31, 63, 31, 255, 511, 31, 1055, 31, 7199, 15391, 32767, 65535, 131071] [0, 0, 0, 0, 0, 0, 1, 0, 0, 1, 0, 1, 0, 0, 1, 0, 0, 0] mixed (by kernel_rfl) ?_)
    | refine thn_n ?_
    | (refine hK _ _ _ ?_; clear hK K)
    | refine inb_n ?_)); all_goals (repeat (clear hK K)))
              refine ⟨i + 1, id, c1, by omega, ?_⟩
              (try dsimp only); rw [s1, s2, s3, s4, s5, ← hw]
              exact ⟨by (repeat (refine ⟨by first | exact lk_i rfl rfl | exact lk_r rfl rfl rfl, ?_⟩)); exact trivial, by (repeat (refine ⟨by first | exact ⟨rfl, rfl, rfl⟩, ?_⟩)); exact trivial, by rfl, by exact pin_0⟩
            | true =>
              simp only [a1, a2, a3, a4, a5, Bool.not_true, Bool.not_false, Bool.and_true, Bool.true_and, Bool.and_false, Bool.false_and, if_true, if_false, Bool.false_eq_true] at s1 s2 s3 s4 s5
              ((repeat' (first
    | (show SQ _ _ _ _ _ _ _ _; first | apply sq_nil | (apply q_move; exact rfl; exact rfl) | (apply q_assign; exact rfl; exact rfl) | (apply q_pick_t; exact rfl; exact rfl; exact rfl; exact (by first | assumption | exact rfl)) | (apply q_pick_f; exact rfl; exact rfl; exact rfl; exact (by first | assumption | exact rfl)) | (apply q_fieldAddr; exact rfl; exact rfl; exact (ty rfl); exact rfl; exact rfl; exact rfl; exact rfl) | (apply q_not; exact rfl; exact rfl) | (apply q_add; exact rfl; exact rfl; exact rfl) | (apply q_lss; exact rfl; exact rfl; exact rfl) | (apply q_ld1p; exact rfl; exact rfl; exact (ty rfl); exact rfl; exact rfl; exact (by first | rfl | assumption | ((try simp only [Nat.zero_add]); refine List.getElem?_set_self ?_; (try simp only [List.length_set]); assumption)); exact rfl) | (apply q_g; exact rfl; exact rfl; exact rfl; exact (by assumption)) | (apply q_s; exact rfl; exact rfl; exact rfl; exact (by assumption); exact rfl))
    | (show SQ _ _ _ _ _ _ _ _; (first | (apply q_store; exact rfl; exact rfl; exact (ty rfl); exact rfl; exact (by first | rfl | assumption | ((try simp only [Nat.zero_add]); refine List.getElem?_set_self ?_; (try simp only [List.length_set]); assumption)); exact rfl; exact rfl; exact rfl)); (try simp only [put, rowsOf, plR, List.all_cons, selE, ovr, setH, del, cellsA, splice, isV, List.nil_append, List.cons_append, List.map_cons, List.map_nil, List.length_cons, List.length_nil, List.set_cons_zero, List.set_cons_succ, List.take_succ_cons, List.take_zero, List.take_nil, List.drop_succ_cons, List.drop_zero, List.drop_nil, List.append_nil, List.all_cons, List.all_nil, Bool.and_true, Bool.true_and, Bool.and_false, Bool.false_and, Nat.reduceAdd, Nat.zero_add, Nat.add_zero, Nat.reduceEqDiff, if_true, if_false, reduceIte]))
    | (show DE _ _ _ _ _ _ _ _ _ _ _ _; first | (apply e_move; exact rfl; exact rfl; exact rfl) | (apply e_assign; exact rfl; exact rfl; exact rfl) | (apply e_pick_t; exact rfl; exact rfl; exact rfl; exact (by first | assumption | exact rfl); exact rfl) | (apply e_fieldAddr; exact rfl; exact rfl; exact (ty rfl); exact rfl; exact rfl; exact rfl; exact rfl; exact rfl) | (apply e_neq; exact rfl; exact rfl; exact rfl; exact rfl) | (apply e_lss; exact rfl; exact rfl; exact rfl; exact rfl) | (apply e_gtr; exact rfl; exact rfl; exact rfl; exact rfl) | (apply e_geq; exact rfl; exact rfl; exact rfl; exact rfl) | (apply e_ixd; exact rfl; exact rfl; exact rfl; exact (ty rfl); exact rfl; exact (by first | omega | (simp; done) | (simp; omega)); exact (by first | omega | (simp; done) | (simp; omega)); exact (by first | rfl | assumption); exact rfl) | (apply e_ld1d; exact rfl; exact rfl; exact (ty rfl); exact rfl; exact rfl; exact rfl) | (apply e_ld1p; exact rfl; exact rfl; exact (ty rfl); exact rfl; exact rfl; exact (by first | rfl | assumption | ((try simp only [Nat.zero_add]); refine List.getElem?_set_self ?_; (try simp only [List.length_set]); assumption)); exact rfl; exact rfl) | (apply e_g; exact rfl; exact rfl; exact rfl; exact (by assumption)))
    | (show DE _ _ _ _ _ _ _ _ _ _ _ _; (first | (apply dr_nil; exact trivial)); (try simp only [put, rowsOf, plR, List.all_cons, selE, ovr, setH, del, cellsA, splice, isV, List.nil_append, List.cons_append, List.map_cons, List.map_nil, List.length_cons, List.length_nil, List.set_cons_zero, List.set_cons_succ, List.take_succ_cons, List.take_zero, List.take_nil, List.drop_succ_cons, List.drop_zero, List.drop_nil, List.append_nil, List.all_cons, List.all_nil, Bool.and_true, Bool.true_and, Bool.and_false, Bool.false_and, Nat.reduceAdd, Nat.zero_add, Nat.add_zero, Nat.reduceEqDiff, if_true, if_false, reduceIte]))
    | (show AW _ _ _ _ _ _ _ _; first | refine aw_region ?_ | (refine aw_seqk ?_; intro K hK) | refine aw_block ?_ | (apply aw_cond_f; exact rfl; exact rfl) | (apply aw_cond_t; exact rfl; exact (by assumption)) | (apply aw_cond_f; exact rfl; exact (by assumption)) | refine aw_skip ?_ | refine aw_drawE (id := 9) [0, 1, 0, 7, 15, 31, 0, 64, 0, 448, 960, 1984, 63, 8191] [0, 1, 0, 0, 1, 0, 0, 1, 0, 0, 1, 0, 0, 0] mixed (by kernel_rfl) ?_ | refine aw_drawE (id := 14) [0, 1, 3, 7, 3, 31, 63, 3, 131, 3, 899, 1923, 4095, 8191, 16383] [0, 0, 0, 1, 0, 0, 1, 0, 1, 0, 0, 1, 0, 0, 0] mixed (by kernel_rfl) ?_ | refine aw_drawE (id := 16) [0, 1, 3, 7, 15, 31, 63, 31, 255, 511, 31, 1055, 31, 7199, 15391, 32767, 65535, 131071] [0, 0, 0, 0, 0, 0, 1, 0, 0, 1, 0, 1, 0, 0, 1, 0, 0, 0] mixed (by kernel_rfl) ?_ | refine aw_drawE (id := 18) [0, 1, 3, 7, 15, 31, 63, 31, 255, 511, 31, 1055, 31, 7199, 15391, 32767, 65535, 131071] [0, 0, 0, 0, 0, 0, 1, 0, 0, 1, 0, 1, 0, 0, 1, 0, 0, 0] mixed (by kernel_rfl) ?_)
    | refine thn_n ?_
    | (refine hK _ _ _ ?_; clear hK K)
    | refine inb_n ?_)); all_goals (repeat (clear hK K)))
              refine ⟨i + 1, id, c1, by omega, ?_⟩
              (try dsimp only); rw [s1, s2, s3, s4, s5, ← hw]
              exact ⟨by (repeat (refine ⟨by first | exact lk_i rfl rfl | exact lk_r rfl rfl rfl, ?_⟩)); exact trivial, by (repeat (refine ⟨by first | exact ⟨rfl, rfl, rfl⟩, ?_⟩)); exact trivial, by rfl, by exact pin_0⟩
          | true =>
            simp only [a1, a2, a3, a4, Bool.not_true, Bool.not_false, Bool.and_true, Bool.true_and, Bool.and_false, Bool.false_and, if_true, if_false, Bool.false_eq_true] at s1 s2 s3 s4 s5
            ((repeat' (first
    | (show SQ _ _ _ _ _ _ _ _; first | apply sq_nil | (apply q_move; exact rfl; exact rfl) | (apply q_assign; exact rfl; exact rfl) | (apply q_pick_t; exact rfl; exact rfl; exact rfl; exact (by first | assumption | exact rfl)) | (apply q_pick_f; exact rfl; exact rfl; exact rfl; exact (by first | assumption | exact rfl)) | (apply q_fieldAddr; exact rfl; exact rfl; exact (ty rfl); exact rfl; exact rfl; exact rfl; exact rfl) | (apply q_not; exact rfl; exact rfl) | (apply q_add; exact rfl; exact rfl; exact rfl) | (apply q_lss; exact rfl; exact rfl; exact rfl) | (apply q_ld1p; exact rfl; exact rfl; exact (ty rfl); exact rfl; exact rfl; exact (by first | rfl | assumption | ((try simp only [Nat.zero_add]); refine List.getElem?_set_self ?_; (try simp only [List.length_set]); assumption)); exact rfl) | (apply q_g; exact rfl; exact rfl; exact rfl; exact (by assumption)) | (apply q_s; exact rfl; exact rfl; exact rfl; exact (by assumption); exact rfl))
    | (show SQ _ _ _ _ _ _ _ _; (first | (apply q_store; exact rfl; exact rfl; exact (ty rfl); exact rfl; exact (by first | rfl | assumption | ((try simp only [Nat.zero_add]); refine List.getElem?_set_self ?_; (try simp only [List.length_set]); assumption)); exact rfl; exact rfl; exact rfl)); (try simp only [put, rowsOf, plR, List.all_cons, selE, ovr, setH, del, cellsA, splice, isV, List.nil_append, List.cons_append, List.map_cons, List.map_nil, List.length_cons, List.length_nil, List.set_cons_zero, List.set_cons_succ, List.take_succ_cons, List.take_zero, List.take_nil, List.drop_succ_cons, List.drop_zero, List.drop_nil, List.append_nil, List.all_cons, List.all_nil, Bool.and_true, Bool.true_and, Bool.and_false, Bool.false_and, Nat.reduceAdd, Nat.zero_add, Nat.add_zero, Nat.reduceEqDiff, if_true, if_false, reduceIte]))
    | (show DE _ _ _ _ _ _ _ _ _ _ _ _; first | (apply e_move; exact rfl; exact rfl; exact rfl) | (apply e_assign; exact rfl; exact rfl; exact rfl) | (apply e_pick_t; exact rfl; exact rfl; exact rfl; exact (by first | assumption | exact rfl); exact rfl) | (apply e_fieldAddr; exact rfl; exact rfl; exact (ty rfl); exact rfl; exact rfl; exact rfl; exact rfl; exact rfl) | (apply e_neq; exact rfl; exact rfl; exact rfl; exact rfl) | (apply e_gtr; exact rfl; exact rfl; exact rfl; exact rfl) | (apply e_geq; exact rfl; exact rfl; exact rfl; exact rfl) | (apply e_ixd; exact rfl; exact rfl; exact rfl; exact (ty rfl); exact rfl; exact (by first | omega | (simp; done) | (simp; omega)); exact (by first | omega | (simp; done) | (simp; omega)); exact (by first | rfl | assumption); exact rfl) | (apply e_ld1d; exact rfl; exact rfl; exact (ty rfl); exact rfl; exact rfl; exact rfl) | (apply e_ld1p; exact rfl; exact rfl; exact (ty rfl); exact rfl; exact rfl; exact (by first | rfl | assumption | ((try simp only [Nat.zero_add]); refine List.getElem?_set_self ?_; (try simp only [List.length_set]); assumption)); exact rfl; exact rfl) | (apply e_g; exact rfl; exact rfl; exact rfl; exact (by assumption)))
    | (show DE _ _ _ _ _ _ _ _ _ _ _ _; (first | (apply dr_nil; exact trivial)); (try simp only [put, rowsOf, plR, List.all_cons, selE, ovr, setH, del, cellsA, splice, isV, List.nil_append, List.cons_append, List.map_cons, List.map_nil, List.length_cons, List.length_nil, List.set_cons_zero, List.set_cons_succ, List.take_succ_cons, List.take_zero, List.take_nil, List.drop_succ_cons, List.drop_zero, List.drop_nil, List.append_nil, List.all_cons, List.all_nil, Bool.and_true, Bool.true_and, Bool.and_false, Bool.false_and, Nat.reduceAdd, Nat.zero_add, Nat.add_zero, Nat.reduceEqDiff, if_true, if_false, reduceIte]))
    | (show AW _ _ _ _ _ _ _ _; first | refine aw_region ?_ | (refine aw_seqk ?_; intro K hK) | refine aw_block ?_ | (apply aw_cond_f; exact rfl; exact rfl) | (apply aw_cond_t; exact rfl; exact (by assumption)) | (apply aw_cond_f; exact rfl; exact (by assumption)) | refine aw_skip ?_ | refine aw_drawE (id := 9) [0, 1, 0, 7, 15, 31, 0, 64, 0, 448, 960, 1984, 63, 8191] [0, 1, 0, 0, 1, 0, 0, 1, 0, 0, 1, 0, 0, 0] mixed (by kernel_rfl) ?_ | refine aw_drawE (id := 14) [0, 1, 3, 7, 3, 31, 63, 3, 131, 3, 899, 1923, 4095, 8191, 16383] [0, 0, 0, 1, 0, 0, 1, 0, 1, 0, 0, 1, 0, 0, 0] mixed (by kernel_rfl) ?_ | refine aw_drawE (id := 16) [0, 1, 3, 7, 15, 31, 63, 31, 255, 511, 31, 1055, 31, 7199, 15391, 32767, 65535, 131071] [0, 0, 0, 0, 0, 0, 1, 0, 0, 1, 0, 1, 0, 0, 1, 0, 0, 0] mixed (by kernel_rfl) ?_)
    | refine thn_n ?_
    | (refine hK _ _ _ ?_; clear hK K)
    | refine inb_n ?_)); all_goals (repeat (clear hK K)))
            refine ⟨i + 1, id, c1, by omega, ?_⟩
            (try dsimp only); rw [s1, s2, s3, s4, s5, ← hw]
            exact ⟨by (repeat (refine ⟨by first | exact lk_i rfl rfl | exact lk_r rfl rfl rfl, ?_⟩)); exact trivial, by (repeat (refine ⟨by first | exact ⟨rfl, rfl, rfl⟩, ?_⟩)); exact trivial, by rfl, by exact pin_0⟩
  · have b1 : decide ((i : Int) < (a.sv.length : Int)) = false := by simpa using c1
    obtain rfl : i = a.sv.length := by omega
    ((repeat' (first
    | (show SQ _ _ _ _ _ _ _ _; first | apply sq_nil | (apply q_assign; exact rfl; exact rfl) | (apply q_lss; exact rfl; exact rfl; exact rfl))
    | (show SQ _ _ _ _ _ _ _ _; (first | (apply q_ldap; exact rfl; exact rfl; exact (ty rfl); exact rfl; exact rfl; exact (by first | rfl | assumption | ((try simp only [Nat.zero_add]); refine List.getElem?_set_self ?_; (try simp only [List.length_set]); assumption)); exact rfl) | (apply q_store; exact rfl; exact rfl; exact (ty rfl); exact rfl; exact (by first | rfl | assumption | ((try simp only [Nat.zero_add]); refine List.getElem?_set_self ?_; (try simp only [List.length_set]); assumption)); exact rfl; exact rfl; exact rfl)); (try simp only [put, rowsOf, plR, List.all_cons, selE, ovr, setH, del, cellsA, splice, isV, List.nil_append, List.cons_append, List.map_cons, List.map_nil, List.length_cons, List.length_nil, List.set_cons_zero, List.set_cons_succ, List.take_succ_cons, List.take_zero, List.take_nil, List.drop_succ_cons, List.drop_zero, List.drop_nil, List.append_nil, List.all_cons, List.all_nil, Bool.and_true, Bool.true_and, Bool.and_false, Bool.false_and, Nat.reduceAdd, Nat.zero_add, Nat.add_zero, Nat.reduceEqDiff, if_true, if_false, reduceIte]))
    | (show AW _ _ _ _ _ _ _ _; first | refine aw_region ?_ | (refine aw_seqk ?_; intro K hK) | (apply aw_cond_f; exact rfl; exact (by assumption)) | refine aw_ret ?_ | refine aw_exit ?_)
    | refine thn_n ?_
    | (refine hK _ _ _ ?_; clear hK K)
    | refine thn_e ?_
    | refine inb_same ?_
    | (clear hK K; refine hK _ _ _ ?_; clear hK K))); all_goals (repeat (clear hK K)))
    all_goals (refine fin_r (fin_p (.r2 _ _ _ _ (.agg _ _ _ _ _ rfl (.inr ⟨_, _, _, _, _, rfl, rfl, rfl, rfl⟩) (ty rfl) rfl (Nat.le_of_ble_eq_true rfl)) (.tmp _ _ rfl)) ?_ rfl rfl rfl); rfl)
end Go.Proofs.Ytljpgbgokjiamaa.St

namespace Go.Proofs.Ytljpgbgokjiamaa.St
open Go Go.RowKit Go.Proofs.Ytljpgbgokjiamaa.Aw Go.Proofs.Ytljpgbgokjiamaa.In Go.Proofs.Ytljpgbgokjiamaa.Il
set_option linter.unusedSimpArgs false
set_option linter.unusedVariables false
attribute [local irreducible] AW SQ Step RO RC DE Thn InB
set_option maxHeartbeats 4000000 in
theorem CompareRasters_ro (a b : Ras) (ha : a.sm) (hb : b.sm) (k : Nat) : RO Try.prog 6 [.agg (rasL a), .agg (rasL b)] k (.tup [.agg (cmpV a b), .v (.int .i64 (cmpC a b))]) [] k := by
  unfold cmpV cmpC
  cases h1 : okR a with
  | false =>
    have hV1 := ValidRaster_ro a ha
    rw [h1] at hV1
    unfold rasL at *
    refine RO.ofp Try.func6 Try.ntmps6 rfl (goFn_of Try.func6 rfl (by kernel_rfl)) rfl rfl rfl ?_
    ((repeat' (first
    | (show SQ _ _ _ _ _ _ _ _; first | apply sq_nil | (apply q_move; exact rfl; exact rfl) | (apply q_assign; exact rfl; exact rfl) | (apply q_pick_t; exact rfl; exact rfl; exact rfl; exact (by first | assumption | exact rfl)) | (apply q_not; exact rfl; exact rfl) | (apply q_build; exact rfl; exact (ty rfl); exact rfl; exact rfl; exact rfl) | (apply q_s; exact rfl; exact rfl; exact rfl; exact rfl; exact rfl))
    | (show SQ _ _ _ _ _ _ _ _; (first | (apply q_ldap; exact rfl; exact rfl; exact (ty rfl); exact rfl; exact rfl; exact (by first | rfl | assumption | ((try simp only [Nat.zero_add]); refine List.getElem?_set_self ?_; (try simp only [List.length_set]); assumption)); exact rfl) | (apply q_box; exact rfl; exact rfl; exact rfl) | (apply q_alloc; exact rfl; exact (ty rfl); exact rfl; exact rfl) | (apply q_store; exact rfl; exact rfl; exact (ty rfl); exact rfl; exact (by first | rfl | assumption | ((try simp only [Nat.zero_add]); refine List.getElem?_set_self ?_; (try simp only [List.length_set]); assumption)); exact rfl; exact rfl; exact rfl) | (apply q_callU; exact rfl; exact rfl; exact rfl; exact FzL.of rfl; exact hV1 _)); (try simp only [put, rowsOf, plR, List.all_cons, selE, ovr, setH, del, cellsA, splice, isV, List.nil_append, List.cons_append, List.map_cons, List.map_nil, List.length_cons, List.length_nil, List.set_cons_zero, List.set_cons_succ, List.take_succ_cons, List.take_zero, List.take_nil, List.drop_succ_cons, List.drop_zero, List.drop_nil, List.append_nil, List.all_cons, List.all_nil, Bool.and_true, Bool.true_and, Bool.and_false, Bool.false_and, Nat.reduceAdd, Nat.zero_add, Nat.add_zero, Nat.reduceEqDiff, if_true, if_false, reduceIte]))
    | (show AW _ _ _ _ _ _ _ _; first | refine aw_region ?_ | (refine aw_seqk ?_; intro K hK) | refine aw_block ?_ | (apply aw_cond_t; exact rfl; exact rfl) | refine aw_ret ?_)
    | refine thn_n ?_
    | (refine hK _ _ _ ?_; clear hK K)
    | refine thn_r ?_
    | refine inb_r ?_)); all_goals (repeat (clear hK K)))
    all_goals (refine fin_r (fin_p (.r2 _ _ _ _ (.agg _ _ _ _ _ rfl (.inr ⟨_, _, _, _, _, rfl, rfl, rfl, rfl⟩) (ty rfl) rfl (Nat.le_of_ble_eq_true rfl)) (.tmp _ _ rfl)) ?_ rfl rfl rfl); rfl)
  | true =>
  cases h2 : okR b with
  | false =>
    have hV1 := ValidRaster_ro a ha
    have hV2 := ValidRaster_ro b hb
    rw [h1] at hV1
    rw [h2] at hV2
    unfold rasL at *
    refine RO.ofp Try.func6 Try.ntmps6 rfl (goFn_of Try.func6 rfl (by kernel_rfl)) rfl rfl rfl ?_
    ((repeat' (first
    | (show SQ _ _ _ _ _ _ _ _; first | apply sq_nil | (apply q_move; exact rfl; exact rfl) | (apply q_assign; exact rfl; exact rfl) | (apply q_pick_f; exact rfl; exact rfl; exact rfl; exact (by first | assumption | exact rfl)) | (apply q_not; exact rfl; exact rfl) | (apply q_build; exact rfl; exact (ty rfl); exact rfl; exact rfl; exact rfl) | (apply q_g; exact rfl; exact rfl; exact rfl; exact rfl))
    | (show SQ _ _ _ _ _ _ _ _; (first | (apply q_ldap; exact rfl; exact rfl; exact (ty rfl); exact rfl; exact rfl; exact (by first | rfl | assumption | ((try simp only [Nat.zero_add]); refine List.getElem?_set_self ?_; (try simp only [List.length_set]); assumption)); exact rfl) | (apply q_box; exact rfl; exact rfl; exact rfl) | (apply q_alloc; exact rfl; exact (ty rfl); exact rfl; exact rfl) | (apply q_store; exact rfl; exact rfl; exact (ty rfl); exact rfl; exact (by first | rfl | assumption | ((try simp only [Nat.zero_add]); refine List.getElem?_set_self ?_; (try simp only [List.length_set]); assumption)); exact rfl; exact rfl; exact rfl) | (apply q_callU; exact rfl; exact rfl; exact rfl; exact FzL.of rfl; exact hV1 _) | (apply q_callU; exact rfl; exact rfl; exact rfl; exact FzL.of rfl; exact hV2 _)); (try simp only [put, rowsOf, plR, List.all_cons, selE, ovr, setH, del, cellsA, splice, isV, List.nil_append, List.cons_append, List.map_cons, List.map_nil, List.length_cons, List.length_nil, List.set_cons_zero, List.set_cons_succ, List.take_succ_cons, List.take_zero, List.take_nil, List.drop_succ_cons, List.drop_zero, List.drop_nil, List.append_nil, List.all_cons, List.all_nil, Bool.and_true, Bool.true_and, Bool.and_false, Bool.false_and, Nat.reduceAdd, Nat.zero_add, Nat.add_zero, Nat.reduceEqDiff, if_true, if_false, reduceIte]))
    | (show AW _ _ _ _ _ _ _ _; first | refine aw_region ?_ | (refine aw_seqk ?_; intro K hK) | refine aw_block ?_ | (apply aw_cond_t; exact rfl; exact rfl) | refine aw_ret ?_)
    | refine thn_n ?_
    | (refine hK _ _ _ ?_; clear hK K)
    | refine thn_r ?_
    | refine inb_r ?_)); all_goals (repeat (clear hK K)))
    all_goals (refine fin_r (fin_p (.r2 _ _ _ _ (.agg _ _ _ _ _ rfl (.inr ⟨_, _, _, _, _, rfl, rfl, rfl, rfl⟩) (ty rfl) rfl (Nat.le_of_ble_eq_true rfl)) (.tmp _ _ rfl)) ?_ rfl rfl rfl); rfl)
  | true =>
  cases h3 : smB a b with
  | false =>
    have hV1 := ValidRaster_ro a ha
    have hV2 := ValidRaster_ro b hb
    have hS := sameSize_ro a b
    rw [h1] at hV1
    rw [h2] at hV2
    rw [h3] at hS
    unfold rasL at *
    refine RO.ofp Try.func6 Try.ntmps6 rfl (goFn_of Try.func6 rfl (by kernel_rfl)) rfl rfl rfl ?_
    ((repeat' (first
    | (show SQ _ _ _ _ _ _ _ _; first | apply sq_nil | (apply q_move; exact rfl; exact rfl) | (apply q_assign; exact rfl; exact rfl) | (apply q_pick_f; exact rfl; exact rfl; exact rfl; exact (by first | assumption | exact rfl)) | (apply q_not; exact rfl; exact rfl) | (apply q_build; exact rfl; exact (ty rfl); exact rfl; exact rfl; exact rfl) | (apply q_g; exact rfl; exact rfl; exact rfl; exact rfl))
    | (show SQ _ _ _ _ _ _ _ _; (first | (apply q_ldap; exact rfl; exact rfl; exact (ty rfl); exact rfl; exact rfl; exact (by first | rfl | assumption | ((try simp only [Nat.zero_add]); refine List.getElem?_set_self ?_; (try simp only [List.length_set]); assumption)); exact rfl) | (apply q_box; exact rfl; exact rfl; exact rfl) | (apply q_alloc; exact rfl; exact (ty rfl); exact rfl; exact rfl) | (apply q_store; exact rfl; exact rfl; exact (ty rfl); exact rfl; exact (by first | rfl | assumption | ((try simp only [Nat.zero_add]); refine List.getElem?_set_self ?_; (try simp only [List.length_set]); assumption)); exact rfl; exact rfl; exact rfl) | (apply q_callU; exact rfl; exact rfl; exact rfl; exact FzL.of rfl; exact hV1 _) | (apply q_callU; exact rfl; exact rfl; exact rfl; exact FzL.of rfl; exact hV2 _) | (apply q_callU; exact rfl; exact rfl; exact rfl; exact FzL.of rfl; exact hS _)); (try simp only [put, rowsOf, plR, List.all_cons, selE, ovr, setH, del, cellsA, splice, isV, List.nil_append, List.cons_append, List.map_cons, List.map_nil, List.length_cons, List.length_nil, List.set_cons_zero, List.set_cons_succ, List.take_succ_cons, List.take_zero, List.take_nil, List.drop_succ_cons, List.drop_zero, List.drop_nil, List.append_nil, List.all_cons, List.all_nil, Bool.and_true, Bool.true_and, Bool.and_false, Bool.false_and, Nat.reduceAdd, Nat.zero_add, Nat.add_zero, Nat.reduceEqDiff, if_true, if_false, reduceIte]))
    | (show AW _ _ _ _ _ _ _ _; first | refine aw_region ?_ | (refine aw_seqk ?_; intro K hK) | refine aw_block ?_ | (apply aw_cond_t; exact rfl; exact rfl) | (apply aw_cond_f; exact rfl; exact rfl) | refine aw_ret ?_)
    | refine thn_n ?_
    | (refine hK _ _ _ ?_; clear hK K)
    | refine thn_r ?_
    | refine inb_r ?_)); all_goals (repeat (clear hK K)))
    all_goals (refine fin_r (fin_p (.r2 _ _ _ _ (.agg _ _ _ _ _ rfl (.inr ⟨_, _, _, _, _, rfl, rfl, rfl, rfl⟩) (ty rfl) rfl (Nat.le_of_ble_eq_true rfl)) (.tmp _ _ rfl)) ?_ rfl rfl rfl); rfl)
  | true => exact CompareRasters_ok_ro a b ha hb h1 h2 h3 k
theorem cI_ext {p q : Nat → Bool} : ∀ n, (∀ j, j < n → p j = q j) → cI p n = cI q n
  | 0, _ => rfl
  | n + 1, h => by
    unfold cI
    rw [h n (Nat.lt_succ_self n), cI_ext n fun j hj => h j (by omega)]
def cmpQ (a b : Ras) : Int × Int × Int × Int × Int := if (okR a && okR b && smB a b) = true then (cI (gaP a b) a.sv.length, cI (loP a b) a.sv.length, cI (moP a b) a.sv.length, cI (beP a b) a.sv.length, cI (woP a b) a.sv.length) else (0, 0, 0, 0, 0)
theorem cmpV_q (a b : Ras) : cmpV a b = [.v (.int .i64 (cmpQ a b).1), .v (.int .i64 (cmpQ a b).2.1), .v (.int .i64 (cmpQ a b).2.2.1), .v (.int .i64 (cmpQ a b).2.2.2.1), .v (.int .i64 (cmpQ a b).2.2.2.2)] := by
  unfold cmpV cmpQ
  split <;> rfl
theorem smB_comm (a b : Ras) : smB a b = smB b a := by
  unfold smB
  rw [Bool.eq_iff_iff]
  simp only [Bool.and_eq_true, beq_iff_eq]
  constructor <;> intro h <;> omega
theorem cmpC_comm (a b : Ras) : cmpC a b = cmpC b a := by
  unfold cmpC; rw [smB_comm a b, Bool.and_comm (okR a)]
theorem cmpQ_comm (a b : Ras) : (cmpQ a b).1 = (cmpQ b a).2.1 ∧ (cmpQ a b).2.1 = (cmpQ b a).1 ∧ (cmpQ a b).2.2.1 = (cmpQ b a).2.2.1 ∧ (cmpQ a b).2.2.2.1 = (cmpQ b a).2.2.2.2 ∧ (cmpQ a b).2.2.2.2 = (cmpQ b a).2.2.2.1 := by
  have bw : ∀ (a b : Ras) j, beP a b j = woP b a j := fun a b j => by
    unfold beP woP
    rw [Bool.and_comm (oneB a j)]
    rw [Bool.eq_iff_iff]
    simp only [Bool.and_eq_true, decide_eq_true_eq, Bool.not_eq_true', decide_eq_false_iff_not]
    constructor
    · rintro ⟨h1, h2⟩; exact ⟨⟨h1, by omega⟩, h2⟩
    · rintro ⟨⟨h1, _⟩, h2⟩; exact ⟨h1, h2⟩
  unfold cmpQ
  rw [smB_comm b a, Bool.and_comm (okR b)]
  by_cases h : (okR a && okR b && smB a b) = true
  · rw [if_pos h, if_pos h]
    simp only [Bool.and_eq_true] at h
    rw [← sm_len h.1.1 h.1.2 h.2]
    refine ⟨cI_ext _ fun j _ => ?_, cI_ext _ fun j _ => ?_, cI_ext _ fun j _ => ?_, cI_ext _ fun j _ => bw a b j, cI_ext _ fun j _ => (bw b a j).symm⟩
    · unfold gaP loP; rw [Bool.and_comm]
    · unfold gaP loP; rw [Bool.and_comm]
    · unfold moP
      rw [Bool.and_comm (oneB a j)]
      congr 1
      rw [Bool.eq_iff_iff]; simp only [bne_iff_ne]; exact ⟨fun h => h.symm, fun h => h.symm⟩
  · rw [if_neg h, if_neg h]
    exact ⟨rfl, rfl, rfl, rfl, rfl⟩
end Go.Proofs.Ytljpgbgokjiamaa.St

namespace Go.Proofs.Ytljpgbgokjiamaa.St
open Go Go.RowKit Go.Proofs.Ytljpgbgokjiamaa.Aw Go.Proofs.Ytljpgbgokjiamaa.In Go.Proofs.Ytljpgbgokjiamaa.Il
set_option linter.unusedSimpArgs false
set_option linter.unusedVariables false
attribute [local irreducible] AW SQ Step RO RC DE Thn InB
def mF (xs : List Int) : Nat → Int
  | 0 => xs.getD 0 0
  | i + 1 => mxI (mF xs i) (xs.getD i 0)
theorem mxI_self (a : Int) : mxI a a = a := by unfold mxI; split <;> rfl
theorem mF_one (xs : List Int) : mF xs 1 = xs.getD 0 0 := by unfold mF mF; exact mxI_self _
theorem mF_le {xs : List Int} : ∀ {i j : Nat}, j < i → xs.getD j 0 ≤ mF xs i
  | 0, j, h => by omega
  | i + 1, j, h => by
    unfold mF mxI
    by_cases e : j = i
    · subst e; split <;> omega
    · have := mF_le (xs := xs) (i := i) (j := j) (by omega)
      split <;> omega
theorem mF_mem {xs : List Int} (p : Int → Prop) (h : ∀ j, j < xs.length → p (xs.getD j 0)) (h0 : 1 ≤ xs.length) : ∀ i, i ≤ xs.length → p (mF xs i)
  | 0, _ => h 0 h0
  | i + 1, hi => by
    unfold mF mxI
    split
    · exact h i (by omega)
    · exact mF_mem p h h0 i (by omega)
set_option maxHeartbeats 4000000 in
theorem Max_ro (xs : List Int) (h0 : 1 ≤ xs.length) (hn : xs.length ≤ 1048576) (k : Nat) : RO Try.prog 53 [.dsl 1 (xs.map inL)] k (.v (.int .i64 (mF xs xs.length))) [] k := by
  have l1 : (xs.map inL).length = xs.length := List.length_map _
  have b0 : decide ((((xs.map inL).length : Nat) : Int) < 1) = false := by rw [l1]; simp; omega
  have c0 : 0 < xs.length := h0
  have hr0 := inL_get c0
  have hr0 : (xs.map inL)[(0 : Int).toNat]? = some [.v (.int .i64 xs[0])] := hr0
  have e1 : mF xs 1 = xs[0] := by rw [mF_one, getD_at c0]
  refine RO.ofv' Try.func53 Try.ntmps53 rfl (goFn_of Try.func53 rfl (by kernel_rfl)) rfl rfl ?_
  ((repeat' (first
    | (show SQ _ _ _ _ _ _ _ _; first | apply sq_nil | (apply q_move; exact rfl; exact rfl) | (apply q_assign; exact rfl; exact rfl) | (apply q_lend; exact rfl; exact rfl; exact (ty rfl); exact rfl) | (apply q_lss; exact rfl; exact rfl; exact rfl) | (apply q_ixd; exact rfl; exact rfl; exact rfl; exact (ty rfl); exact rfl; exact (by first | omega | (simp; done) | (simp; omega)); exact (by first | omega | (simp; done) | (simp; omega)); exact (by first | rfl | assumption)) | (apply q_ld1d; exact rfl; exact rfl; exact (ty rfl); exact rfl; exact rfl))
    | (show AW _ _ _ _ _ _ _ _; first | refine aw_region ?_ | (refine aw_seqk ?_; intro K hK) | refine aw_block ?_ | (apply aw_cond_f; exact rfl; exact (by assumption)) | refine aw_skip ?_)
    | refine thn_n ?_
    | (refine hK _ _ _ ?_; clear hK K))); all_goals (repeat (clear hK K)))
  refine aw_loop (ρ := id) (ι := Nat) (fun i => ([(4, .v (.int .i64 i)), (3, .v (.int .i64 (mF xs i))), (0, .dsl 1 (xs.map inL))], [], 0))
    (fun i => 1 ≤ i ∧ i ≤ xs.length) (fun i => xs.length - i) 1 ⟨Nat.le_refl _, h0⟩ (by rw [e1]; exact ⟨by (repeat (refine ⟨by first | exact lk_i rfl rfl | exact lk_d rfl rfl, ?_⟩)); exact trivial, by exact trivial, by rfl, by exact pin_0⟩) ?_
  rintro i ⟨hi0, hi⟩
  by_cases c1 : i < xs.length
  · have b1 : decide ((i : Int) < ((xs.map inL).length : Int)) = true := by rw [l1]; simpa using c1
    have hr1 := inL_get c1
    have hw : IntKind.i64.wrap ((i : Int) + 1) = ((i + 1 : Nat) : Int) := by rw [IntWalk.i64_in _ (by omega)]; omega
    have hS : mF xs (i + 1) = mxI (mF xs i) xs[i] := by rw [mF, getD_at c1]
    ((repeat' (first
    | (show SQ _ _ _ _ _ _ _ _; first | apply sq_nil | (apply q_move; exact rfl; exact rfl) | (apply q_assign; exact rfl; exact rfl) | (apply q_lend; exact rfl; exact rfl; exact (ty rfl); exact rfl) | (apply q_max; exact rfl; exact rfl; exact rfl) | (apply q_add; exact rfl; exact rfl; exact rfl) | (apply q_lss; exact rfl; exact rfl; exact rfl) | (apply q_ixd; exact rfl; exact rfl; exact rfl; exact (ty rfl); exact rfl; exact (by first | omega | (simp; done) | (simp; omega)); exact (by first | omega | (simp; done) | (simp; omega)); exact (by first | rfl | assumption)) | (apply q_ld1d; exact rfl; exact rfl; exact (ty rfl); exact rfl; exact rfl))
    | (show AW _ _ _ _ _ _ _ _; first | refine aw_region ?_ | (refine aw_seqk ?_; intro K hK) | refine aw_block ?_ | (apply aw_cond_t; exact rfl; exact (by assumption)) | refine aw_skip ?_)
    | refine thn_n ?_
    | (refine hK _ _ _ ?_; clear hK K)
    | refine inb_n ?_)); all_goals (repeat (clear hK K)))
    refine ⟨i + 1, id, ⟨by omega, c1⟩, by omega, ?_⟩
    (try dsimp only); rw [hS, ← hw]
    exact ⟨by (repeat (refine ⟨by first | exact lk_i rfl rfl | exact lk_d rfl rfl, ?_⟩)); exact trivial, by exact trivial, by rfl, by exact pin_0⟩
  · have b1 : decide ((i : Int) < ((xs.map inL).length : Int)) = false := by rw [l1]; simpa using c1
    obtain rfl : i = xs.length := by omega
    ((repeat' (first
    | (show SQ _ _ _ _ _ _ _ _; first | apply sq_nil | (apply q_move; exact rfl; exact rfl) | (apply q_assign; exact rfl; exact rfl) | (apply q_lend; exact rfl; exact rfl; exact (ty rfl); exact rfl) | (apply q_lss; exact rfl; exact rfl; exact rfl))
    | (show AW _ _ _ _ _ _ _ _; first | refine aw_region ?_ | (refine aw_seqk ?_; intro K hK) | (apply aw_cond_f; exact rfl; exact (by assumption)) | refine aw_ret ?_ | refine aw_exit ?_)
    | refine thn_n ?_
    | (refine hK _ _ _ ?_; clear hK K)
    | refine thn_e ?_
    | refine inb_same ?_
    | (clear hK K; refine hK _ _ _ ?_; clear hK K))); all_goals (repeat (clear hK K)))
    all_goals exact fin_r (fin_i rfl rfl)
def svN (r : Ras) : Int := mF r.sv r.sv.length + 1
theorem ok_nums {r : Ras} (h : okR r = true) : (1 ≤ r.st ∧ r.st ≤ 10000) ∧ (2 ≤ r.wd ∧ r.wd ≤ 24) ∧ (2 ≤ r.ht ∧ r.ht ≤ 24) ∧ (r.sv.length : Int) = r.wd * r.ht ∧ r.sv.length ≤ 576 ∧ 4 ≤ r.sv.length ∧ r.lv.length = r.sv.length ∧
    (∀ j, j < r.sv.length → -1 ≤ r.sv.getD j 0 ∧ r.sv.getD j 0 ≤ 23) ∧ (∀ j, j < r.sv.length → -300000 ≤ r.lv.getD j 0 ∧ r.lv.getD j 0 ≤ 300000) := by
  have hlen := ok_len h
  unfold okR at h
  simp only [Bool.and_eq_true] at h
  obtain ⟨p1, p2, p3, p4, p5⟩ := pre_iff h.1
  unfold szB inB at p1
  simp only [Bool.and_eq_true, decide_eq_true_eq] at p1
  obtain ⟨q1, q2, q3, _⟩ := p1
  have m1 : 2 * 2 ≤ r.wd * r.ht := Int.mul_le_mul (by omega) (by omega) (by omega) (by omega)
  have m2 : r.wd * r.ht ≤ 24 * 24 := Int.mul_le_mul (by omega) (by omega) (by omega) (by omega)
  simp only [List.length_map, bne_eq_false_iff_eq] at p2
  rw [IntWalk.i64_in (r.wd * r.ht) (by omega)] at p2
  have any : ∀ {xs : List Int} {lo hi : Int}, (xs.any fun x => !inB x lo hi) = false → ∀ j, j < xs.length → lo ≤ xs.getD j 0 ∧ xs.getD j 0 ≤ hi := fun {xs lo hi} ha j hj => by
    have := List.any_eq_false.1 ha xs[j] (List.getElem_mem hj)
    unfold inB at this
    rw [getD_at hj]
    simp only [Bool.not_eq_true, Bool.not_eq_false', Bool.and_eq_true, decide_eq_true_eq] at this
    omega
  refine ⟨q1, q2, q3, p2, by omega, by omega, hlen, any p4, fun j hj => any p5 j (by omega)⟩
theorem svN_bd {r : Ras} (h : okR r = true) : 0 ≤ svN r ∧ svN r ≤ 24 ∧ ∀ j, j < r.sv.length → r.sv.getD j 0 < svN r := by
  obtain ⟨_, _, _, _, h1, h2, _, h3, _⟩ := ok_nums h
  have := mF_mem (fun x => -1 ≤ x ∧ x ≤ 23) h3 (by omega) r.sv.length (Nat.le_refl _)
  unfold svN
  refine ⟨by omega, by omega, fun j hj => ?_⟩
  have := mF_le (xs := r.sv) hj
  omega
set_option maxHeartbeats 4000000 in
theorem servers_ro (r : Ras) (hok : okR r = true) (k : Nat) : RO Try.prog 33 [.agg (rasL r)] k (.v (.int .i64 (svN r))) [] k := by
  obtain ⟨_, _, _, _, h1, h2, _, h3, _⟩ := ok_nums hok
  have hM := Max_ro r.sv (by omega) (by omega)
  have hb := svN_bd hok
  have hw : IntKind.i64.wrap (mF r.sv r.sv.length + 1) = svN r := by unfold svN at *; exact IntWalk.i64_in _ (by omega)
  rw [← hw]
  unfold rasL
  refine RO.ofv' Try.func33 Try.ntmps33 rfl (goFn_of Try.func33 rfl (by kernel_rfl)) rfl rfl ?_
  ((repeat' (first
    | (show SQ _ _ _ _ _ _ _ _; first | apply sq_nil | (apply q_assign; exact rfl; exact rfl) | (apply q_fieldAddr; exact rfl; exact rfl; exact (ty rfl); exact rfl; exact rfl; exact rfl; exact rfl) | (apply q_add; exact rfl; exact rfl; exact rfl) | (apply q_ld1p; exact rfl; exact rfl; exact (ty rfl); exact rfl; exact rfl; exact (by first | rfl | assumption | ((try simp only [Nat.zero_add]); refine List.getElem?_set_self ?_; (try simp only [List.length_set]); assumption)); exact rfl))
    | (show SQ _ _ _ _ _ _ _ _; (first | (apply q_box; exact rfl; exact rfl; exact rfl) | (apply q_callU; exact rfl; exact rfl; exact rfl; exact FzL.of rfl; exact hM _)); (try simp only [put, rowsOf, plR, List.all_cons, selE, ovr, setH, del, cellsA, splice, isV, List.nil_append, List.cons_append, List.map_cons, List.map_nil, List.length_cons, List.length_nil, List.set_cons_zero, List.set_cons_succ, List.take_succ_cons, List.take_zero, List.take_nil, List.drop_succ_cons, List.drop_zero, List.drop_nil, List.append_nil, List.all_cons, List.all_nil, Bool.and_true, Bool.true_and, Bool.and_false, Bool.false_and, Nat.reduceAdd, Nat.zero_add, Nat.add_zero, Nat.reduceEqDiff, if_true, if_false, reduceIte]))
    | (show AW _ _ _ _ _ _ _ _; first | refine aw_region ?_ | (refine aw_seqk ?_; intro K hK) | refine aw_ret ?_)
    | refine thn_n ?_
    | (refine hK _ _ _ ?_; clear hK K))); all_goals (repeat (clear hK K)))
  all_goals exact fin_r (fin_i rfl rfl)
end Go.Proofs.Ytljpgbgokjiamaa.St

namespace Go.Proofs.Ytljpgbgokjiamaa.St
open Go Go.RowKit Go.Proofs.Ytljpgbgokjiamaa.Aw Go.Proofs.Ytljpgbgokjiamaa.In Go.Proofs.Ytljpgbgokjiamaa.Il
set_option linter.unusedSimpArgs false
set_option linter.unusedVariables false
attribute [local irreducible] AW SQ Step RO RC DE Thn InB
def incL (xs : List Int) (j : Nat) : List Int := xs.set j (xs.getD j 0 + 1)
def bkF (S : Nat) (g : Nat → Option Nat) : Nat → List Int
  | 0 => List.replicate S 0
  | i + 1 => match g i with
    | some j => incL (bkF S g i) j
    | none => bkF S g i
theorem bkF_len (S : Nat) (g : Nat → Option Nat) : ∀ i, (bkF S g i).length = S
  | 0 => by simp [bkF]
  | i + 1 => by
    unfold bkF
    split
    · unfold incL; rw [List.length_set]; exact bkF_len S g i
    · exact bkF_len S g i
theorem bkF_bd (S : Nat) (g : Nat → Option Nat) : ∀ i, ∀ x ∈ bkF S g i, 0 ≤ x ∧ x ≤ i
  | 0, x, h => by
    unfold bkF at h
    obtain rfl := List.eq_of_mem_replicate h
    omega
  | i + 1, x, h => by
    unfold bkF at h
    split at h
    · rename_i j hj
      unfold incL at h
      rcases List.mem_or_eq_of_mem_set h with h | rfl
      · have := bkF_bd S g i x h; omega
      · by_cases hl : j < (bkF S g i).length
        · have := bkF_bd S g i _ (List.getElem_mem hl)
          rw [getD_at hl]; omega
        · rw [List.getD_eq_getElem?_getD, List.getElem?_eq_none (by omega)]; simp; omega
    · have := bkF_bd S g i x h; omega
theorem sum_inc : ∀ (xs : List Int) (j : Nat), j < xs.length → (incL xs j).sum = xs.sum + 1
  | [], j, h => by simp at h
  | x :: xs, 0, h => by simp [incL]; omega
  | x :: xs, j + 1, h => by
    have := sum_inc xs j (by simpa using h)
    unfold incL at this ⊢
    simp only [List.set_cons_succ, List.sum_cons, List.getD_cons_succ]
    omega
def hitN (g : Nat → Option Nat) : Nat → Int
  | 0 => 0
  | i + 1 => if (g i).isSome then hitN g i + 1 else hitN g i
theorem bkF_sum {S : Nat} {g : Nat → Option Nat} : ∀ {i}, (∀ k, k < i → ∀ j, g k = some j → j < S) → (bkF S g i).sum = hitN g i
  | 0, _ => by simp [bkF, hitN]
  | i + 1, h => by
    have ih := bkF_sum (S := S) (g := g) (i := i) fun k hk => h k (by omega)
    unfold bkF hitN
    cases hg : g i with
    | none => simpa using ih
    | some j =>
      simp only [Option.isSome_some, if_true]
      rw [sum_inc _ _ (by rw [bkF_len]; exact h i (by omega) j hg), ih]
theorem hitN_le (g : Nat → Option Nat) : ∀ i, 0 ≤ hitN g i ∧ hitN g i ≤ i
  | 0 => by simp [hitN]
  | i + 1 => by have := hitN_le g i; unfold hitN; split <;> omega
theorem hitN_all {g : Nat → Option Nat} : ∀ {i}, (∀ k, k < i → (g k).isSome = true) → hitN g i = i
  | 0, _ => rfl
  | i + 1, h => by
    have := hitN_all (g := g) (i := i) fun k hk => h k (by omega)
    unfold hitN; rw [if_pos (h i (by omega)), this]; omega
set_option maxHeartbeats 4000000 in
theorem b10Sum_ro (xs : List Int) (hn : xs.length ≤ 1000) (hb : ∀ x ∈ xs, 0 ≤ x ∧ x ≤ 1000) (k : Nat) : RO Try.prog 14 [.dsl 1 (xs.map inL)] k (.v (.int .i64 xs.sum)) [] k := by
  have l1 : (xs.map inL).length = xs.length := List.length_map _
  have hT : ∀ i, i ≤ xs.length → 0 ≤ (xs.take i).sum ∧ (xs.take i).sum ≤ 1000 * i := by
    intro i
    induction i with
    | zero => intro _; simp
    | succ i ih =>
      intro hi
      have := ih (by omega)
      have h2 := hb xs[i] (List.getElem_mem (by omega))
      rw [List.take_succ_eq_append_getElem (by omega), List.sum_append]
      simp only [List.sum_cons, List.sum_nil]
      omega
  refine RO.ofv' Try.func14 Try.ntmps14 rfl (goFn_of Try.func14 rfl (by kernel_rfl)) rfl rfl ?_
  ((repeat' (first
    | (show SQ _ _ _ _ _ _ _ _; first | apply sq_nil | (apply q_assign; exact rfl; exact rfl))
    | (show AW _ _ _ _ _ _ _ _; first | refine aw_region ?_ | (refine aw_seqk ?_; intro K hK) | refine aw_block ?_)
    | refine thn_n ?_
    | (refine hK _ _ _ ?_; clear hK K))); all_goals (repeat (clear hK K)))
  refine aw_loop (ρ := id) (ι := Nat) (fun i => ([(4, .v (.int .i64 i)), (3, .v (.int .i64 (xs.take i).sum)), (0, .dsl 1 (xs.map inL))], [], 0))
    (fun i => i ≤ xs.length) (fun i => xs.length - i) 0 (Nat.zero_le _) ⟨by (repeat (refine ⟨by first | exact lk_i rfl rfl | exact lk_d rfl rfl, ?_⟩)); exact trivial, by exact trivial, by rfl, by exact pin_0⟩ ?_
  intro i hi
  by_cases c1 : i < xs.length
  · have b1 : decide ((i : Int) < ((xs.map inL).length : Int)) = true := by rw [l1]; simpa using c1
    have hr1 := inL_get c1
    have hw : IntKind.i64.wrap ((i : Int) + 1) = ((i + 1 : Nat) : Int) := by rw [IntWalk.i64_in _ (by omega)]; omega
    have hS : (xs.take (i + 1)).sum = IntKind.i64.wrap ((xs.take i).sum + xs[i]) := by
      have h1 := hT i (by omega)
      have h2 := hb xs[i] (List.getElem_mem c1)
      rw [IntWalk.i64_in _ (by omega), List.take_succ_eq_append_getElem c1, List.sum_append]
      simp
    ((repeat' (first
    | (show SQ _ _ _ _ _ _ _ _; first | apply sq_nil | (apply q_move; exact rfl; exact rfl) | (apply q_assign; exact rfl; exact rfl) | (apply q_lend; exact rfl; exact rfl; exact (ty rfl); exact rfl) | (apply q_add; exact rfl; exact rfl; exact rfl) | (apply q_lss; exact rfl; exact rfl; exact rfl) | (apply q_ixd; exact rfl; exact rfl; exact rfl; exact (ty rfl); exact rfl; exact (by first | omega | (simp; done) | (simp; omega)); exact (by first | omega | (simp; done) | (simp; omega)); exact (by first | rfl | assumption)) | (apply q_ld1d; exact rfl; exact rfl; exact (ty rfl); exact rfl; exact rfl))
    | (show AW _ _ _ _ _ _ _ _; first | refine aw_region ?_ | (refine aw_seqk ?_; intro K hK) | refine aw_block ?_ | (apply aw_cond_t; exact rfl; exact (by assumption)) | refine aw_skip ?_)
    | refine thn_n ?_
    | (refine hK _ _ _ ?_; clear hK K)
    | refine inb_n ?_)); all_goals (repeat (clear hK K)))
    refine ⟨i + 1, id, c1, by omega, ?_⟩
    (try dsimp only); rw [hS, ← hw]
    exact ⟨by (repeat (refine ⟨by first | exact lk_i rfl rfl | exact lk_d rfl rfl, ?_⟩)); exact trivial, by exact trivial, by rfl, by exact pin_0⟩
  · have b1 : decide ((i : Int) < ((xs.map inL).length : Int)) = false := by rw [l1]; simpa using c1
    ((repeat' (first
    | (show SQ _ _ _ _ _ _ _ _; first | apply sq_nil | (apply q_move; exact rfl; exact rfl) | (apply q_assign; exact rfl; exact rfl) | (apply q_lend; exact rfl; exact rfl; exact (ty rfl); exact rfl) | (apply q_lss; exact rfl; exact rfl; exact rfl))
    | (show AW _ _ _ _ _ _ _ _; first | refine aw_region ?_ | (refine aw_seqk ?_; intro K hK) | (apply aw_cond_f; exact rfl; exact (by assumption)) | refine aw_ret ?_ | refine aw_exit ?_)
    | refine thn_n ?_
    | (refine hK _ _ _ ?_; clear hK K)
    | refine thn_e ?_
    | refine inb_same ?_
    | (clear hK K; refine hK _ _ _ ?_; clear hK K))); all_goals (repeat (clear hK K)))
    all_goals refine fin_r (fin_i rfl ?_)
    rw [List.take_of_length_le (by omega)]
end Go.Proofs.Ytljpgbgokjiamaa.St

namespace Go.Proofs.Ytljpgbgokjiamaa.St
open Go Go.RowKit Go.Proofs.Ytljpgbgokjiamaa.Aw Go.Proofs.Ytljpgbgokjiamaa.In Go.Proofs.Ytljpgbgokjiamaa.Il
set_option linter.unusedSimpArgs false
set_option linter.unusedVariables false
attribute [local irreducible] AW SQ Step RO RC DE Thn InB
def svG (r : Ras) (i : Nat) : Option Nat := some (r.sv.getD ((covL r).getD i 0).toNat 0).toNat
theorem bk_get {S : Nat} {g : Nat → Option Nat} {i j : Nat} (h : j < S) : ((bkF S g i).map inL)[j]? = some [.v (.int .i64 ((bkF S g i).getD j 0))] := by
  have hl := bkF_len S g i
  rw [List.getElem?_map, List.getElem?_eq_getElem (by omega), getD_at (by omega)]; rfl
theorem bk_set {S : Nat} {g : Nat → Option Nat} {i j : Nat} {x : Int} (hg : g i = some j) (hx : x = (bkF S g i).getD j 0 + 1) : ((bkF S g i).map inL).set j [.v (.int .i64 x)] = (bkF S g (i + 1)).map inL := by
  rw [bkF, hg]
  simp only
  unfold incL
  rw [List.map_set, hx]; rfl
theorem bk_val {S : Nat} {g : Nat → Option Nat} {i j : Nat} (h : j < S) : 0 ≤ (bkF S g i).getD j 0 ∧ (bkF S g i).getD j 0 ≤ i := by
  have hl := bkF_len S g i
  rw [getD_at (by omega)]
  exact bkF_bd S g i _ (List.getElem_mem _)
set_option maxHeartbeats 4000000 in
theorem ServerCells_ro (r : Ras) (hs : r.sm) (hok : okR r = true) (k : Nat) :
    RO Try.prog 15 [.agg (rasL r)] k (.sl k 0 (svN r).toNat) [(k, ⟨2, 1, true, (bkF (svN r).toNat (svG r) (covL r).length).map inL⟩)] (k + 1) := by
  have hV := ValidRaster_ro r hs
  rw [hok] at hV
  have hC := covered_ro r hs
  have hS := servers_ro r hok
  obtain ⟨b1, b2, b3⟩ := svN_bd hok
  obtain ⟨_, _, _, _, n1, n2, n3, n4, n5⟩ := ok_nums hok
  have hcl := covF_len r.sv r.sv.length
  change (covL r).length ≤ r.sv.length at hcl
  obtain ⟨N, hN⟩ : ∃ N : Nat, svN r = N := ⟨(svN r).toNat, by omega⟩
  rw [hN] at hS b1 b2 b3 ⊢
  rw [Int.toNat_natCast]
  have hget := @cov_get r
  have hsvG : ∀ i, (h : i < (covL r).length) → svG r i = some (r.sv.getD ((covL r)[i]).toNat 0).toNat := fun i h => by unfold svG; rw [getD_at h]
  generalize svG r = g at *
  generalize hrow0 : rasL r = row0 at *
  have hrow : row0 = [.v (.int .i64 r.st), .v (.int .i64 r.wd), .v (.int .i64 r.ht), .dsl 1 (r.sv.map inL), .dsl 1 (r.lv.map inL)] := hrow0.symm
  subst hrow
  generalize covL r = cs at *
  refine RO.ofm (.sl 0 0 N) ([(0, ⟨2, 1, true, (bkF N g cs.length).map inL⟩)]) 1 Try.func15 Try.ntmps15 rfl (goFn_of Try.func15 rfl (by kernel_rfl)) rfl rfl (by simp [renA, renL]) (by simp [shH, renB]) rfl ?_
  ((repeat' (first
    | (show SQ _ _ _ _ _ _ _ _; first | apply sq_nil | (apply q_move; exact rfl; exact rfl) | (apply q_assign; exact rfl; exact rfl) | (apply q_not; exact rfl; exact rfl) | (apply q_lenl; exact rfl; exact rfl; exact (ty rfl); exact rfl))
    | (show SQ _ _ _ _ _ _ _ _; (first | (apply q_ldap; exact rfl; exact rfl; exact (ty rfl); exact rfl; exact rfl; exact (by first | rfl | assumption | ((try simp only [Nat.zero_add]); refine List.getElem?_set_self ?_; (try simp only [List.length_set]); assumption)); exact rfl) | (apply q_box; exact rfl; exact rfl; exact rfl) | (apply q_mks; exact rfl; exact rfl; exact rfl; exact (ty rfl); exact rfl; exact (by first | omega | (simp; done) | (simp; omega)); exact (by first | omega | (simp; done) | (simp; omega)); exact (by first | omega | (simp; done) | (simp; omega)); exact (by first | omega | (simp; done) | (simp; omega)); exact rfl; exact rfl) | (apply q_callU; exact rfl; exact rfl; exact rfl; exact FzL.of rfl; exact hV _) | (apply q_callU; exact rfl; exact rfl; exact rfl; exact FzL.of rfl; exact hC _) | (apply q_callU; exact rfl; exact rfl; exact rfl; exact FzL.of rfl; exact hS _)); (try simp only [put, rowsOf, plR, List.all_cons, selE, ovr, setH, del, cellsA, splice, isV, List.nil_append, List.cons_append, List.map_cons, List.map_nil, List.length_cons, List.length_nil, List.set_cons_zero, List.set_cons_succ, List.take_succ_cons, List.take_zero, List.take_nil, List.drop_succ_cons, List.drop_zero, List.drop_nil, List.append_nil, List.all_cons, List.all_nil, Bool.and_true, Bool.true_and, Bool.and_false, Bool.false_and, Nat.reduceAdd, Nat.zero_add, Nat.add_zero, Nat.reduceEqDiff, if_true, if_false, reduceIte]))
    | (show AW _ _ _ _ _ _ _ _; first | refine aw_region ?_ | (refine aw_seqk ?_; intro K hK) | refine aw_block ?_ | (apply aw_cond_f; exact rfl; exact rfl) | refine aw_skip ?_)
    | refine thn_n ?_
    | (refine hK _ _ _ ?_; clear hK K))); all_goals (repeat (clear hK K)))
  refine aw_loop (ρ := id) (ι := Nat) (fun i => ([(15, .v (.int .i64 i)), (14, .v (.int .i64 cs.length)), (13, .sl 2 0 cs.length), (3, .sl 1 0 N), (1, .ptr 0 0 0)],
      [(0, ⟨26, 5, false, [[.v (.int .i64 r.st), .v (.int .i64 r.wd), .v (.int .i64 r.ht), .dsl 1 (r.sv.map inL), .dsl 1 (r.lv.map inL)]]⟩), (1, ⟨2, 1, true, (bkF N g i).map inL⟩), (2, ⟨3, 1, true, cs.map inL⟩)], 3))
    (fun i => i ≤ cs.length) (fun i => cs.length - i) 0 (Nat.zero_le _) ⟨by (repeat (refine ⟨by first | exact lk_i rfl rfl | exact lk_r rfl rfl rfl | exact lk_s rfl rfl rfl rfl, ?_⟩)); exact trivial, by (repeat (refine ⟨by first | exact ⟨rfl, rfl, rfl⟩ | exact lkb rfl rfl rfl (by (try dsimp only); first | rfl | (simp only [bkF, List.map_replicate, Int.toNat_natCast]; rfl)) rfl, ?_⟩)); exact trivial, by rfl, by exact pin_0⟩ ?_
  intro i hi
  by_cases c1 : i < cs.length
  · have b4 : decide ((i : Int) < (cs.length : Int)) = true := by simpa using c1
    have hr1 := inL_get c1
    have hw : IntKind.i64.wrap ((i : Int) + 1) = ((i + 1 : Nat) : Int) := by rw [IntWalk.i64_in _ (by omega)]; omega
    obtain ⟨j, hj, ej, hp⟩ := hget c1
    have hg := hsvG i c1
    rw [ej] at hr1 hg
    have hr1 : (cs.map inL)[0 + ((i : Int)).toNat]? = some [.v (.int .i64 (j : Int))] := by rw [Nat.zero_add]; exact hr1
    have hr2 := inL_get hj
    have hp2 := b3 j hj
    rw [Int.toNat_natCast] at hg
    rw [getD_at hj] at hp hp2 hg
    have hlt : (r.sv[j]).toNat < N := by omega
    have hr3 : ((bkF N g i).map inL)[0 + (r.sv[j]).toNat]? = some [.v (.int .i64 ((bkF N g i).getD (r.sv[j]).toNat 0))] := by rw [Nat.zero_add]; exact bk_get hlt
    have hv := bk_val (g := g) (i := i) hlt
    have hx : IntKind.i64.wrap ((bkF N g i).getD (r.sv[j]).toNat 0 + 1) = (bkF N g i).getD (r.sv[j]).toNat 0 + 1 := IntWalk.i64_in _ (by omega)
    have hset := bk_set (S := N) hg hx
    ((repeat' (first
    | (show SQ _ _ _ _ _ _ _ _; first | apply sq_nil | (apply q_move; exact rfl; exact rfl) | (apply q_assign; exact rfl; exact rfl) | (apply q_fieldAddr; exact rfl; exact rfl; exact (ty rfl); exact rfl; exact rfl; exact rfl; exact rfl) | (apply q_add; exact rfl; exact rfl; exact rfl) | (apply q_lss; exact rfl; exact rfl; exact rfl) | (apply q_ixd; exact rfl; exact rfl; exact rfl; exact (ty rfl); exact rfl; exact (by first | omega | (simp; done) | (simp; omega)); exact (by first | omega | (simp; done) | (simp; omega)); exact (by first | rfl | assumption)) | (apply q_ixl; exact rfl; exact rfl; exact rfl; exact (ty rfl); exact rfl; exact rfl; exact rfl; exact (by first | omega | (simp; done) | (simp; omega)); exact (by first | omega | (simp; done) | (simp; omega))) | (apply q_ld1d; exact rfl; exact rfl; exact (ty rfl); exact rfl; exact rfl) | (apply q_ld1p; exact rfl; exact rfl; exact (ty rfl); exact rfl; exact rfl; exact (by first | rfl | assumption | ((try simp only [Nat.zero_add]); refine List.getElem?_set_self ?_; (try simp only [List.length_set]); assumption)); exact rfl))
    | (show SQ _ _ _ _ _ _ _ _; (first | (apply q_store; exact rfl; exact rfl; exact (ty rfl); exact rfl; exact (by first | rfl | assumption | ((try simp only [Nat.zero_add]); refine List.getElem?_set_self ?_; (try simp only [List.length_set]); assumption)); exact rfl; exact rfl; exact rfl)); (try simp only [put, rowsOf, plR, List.all_cons, selE, ovr, setH, del, cellsA, splice, isV, List.nil_append, List.cons_append, List.map_cons, List.map_nil, List.length_cons, List.length_nil, List.set_cons_zero, List.set_cons_succ, List.take_succ_cons, List.take_zero, List.take_nil, List.drop_succ_cons, List.drop_zero, List.drop_nil, List.append_nil, List.all_cons, List.all_nil, Bool.and_true, Bool.true_and, Bool.and_false, Bool.false_and, Nat.reduceAdd, Nat.zero_add, Nat.add_zero, Nat.reduceEqDiff, if_true, if_false, reduceIte]))
    | (show AW _ _ _ _ _ _ _ _; first | refine aw_region ?_ | (refine aw_seqk ?_; intro K hK) | refine aw_block ?_ | (apply aw_cond_t; exact rfl; exact (by assumption)) | refine aw_skip ?_)
    | refine thn_n ?_
    | (refine hK _ _ _ ?_; clear hK K)
    | refine inb_n ?_)); all_goals (repeat (clear hK K)))
    refine ⟨i + 1, id, c1, by omega, ?_⟩
    (try dsimp only); rw [← hset, ← hw]
    exact ⟨by (repeat (refine ⟨by first | exact lk_i rfl rfl | exact lk_r rfl rfl rfl | exact lk_s rfl rfl rfl rfl, ?_⟩)); exact trivial, by (repeat (refine ⟨by first | exact ⟨rfl, rfl, rfl⟩, ?_⟩)); exact trivial, by rfl, by exact pin_0⟩
  · have b1 : decide ((i : Int) < (cs.length : Int)) = false := by simpa using c1
    obtain rfl : i = cs.length := by omega
    ((repeat' (first
    | (show SQ _ _ _ _ _ _ _ _; first | apply sq_nil | (apply q_move; exact rfl; exact rfl) | (apply q_assign; exact rfl; exact rfl) | (apply q_lss; exact rfl; exact rfl; exact rfl))
    | (show AW _ _ _ _ _ _ _ _; first | refine aw_region ?_ | (refine aw_seqk ?_; intro K hK) | (apply aw_cond_f; exact rfl; exact (by assumption)) | refine aw_ret ?_ | refine aw_exit ?_)
    | refine thn_n ?_
    | (refine hK _ _ _ ?_; clear hK K)
    | refine thn_e ?_
    | refine inb_same ?_
    | (clear hK K; refine hK _ _ _ ?_; clear hK K))); all_goals (repeat (clear hK K)))
    exact fin_r (fin_m rfl rfl _ _ rfl rfl)
def hsG (r : Ras) (i : Nat) : Option Nat := if inB (r.lv.getD ((covL r).getD i 0).toNat 0) (-300000) 299999 = true then some ((r.lv.getD ((covL r).getD i 0).toNat 0 + 300000) / 10000).toNat else none
set_option maxHeartbeats 4000000 in
theorem HistogramOf_ro (r : Ras) (hs : r.sm) (hok : okR r = true) (k : Nat) :
    RO Try.prog 12 [.agg (rasL r), .v (.int .i64 (-300000)), .v (.int .i64 10000), .v (.int .i64 60)] k (.tup [.sl k 0 60, .v (.int .i64 0)]) [(k, ⟨2, 1, true, (bkF 60 (hsG r) (covL r).length).map inL⟩)] (k + 1) := by
  have hV := ValidRaster_ro r hs
  rw [hok] at hV
  have hC := covered_ro r hs
  have hL := ValidLevel_ro (-300000)
  rw [show inB (-300000) (-300000) 300000 = true from rfl] at hL
  have hW1 := within_ro 10000 1 300000
  rw [show inB 10000 1 300000 = true from rfl] at hW1
  have hW2 := within_ro 60 1 64
  rw [show inB 60 1 64 = true from rfl] at hW2
  obtain ⟨_, _, _, _, n1, n2, n3, n4, n5⟩ := ok_nums hok
  have hcl := covF_len r.sv r.sv.length
  change (covL r).length ≤ r.sv.length at hcl
  have hget := @cov_get r
  have hsvG : ∀ i, (h : i < (covL r).length) → hsG r i = if inB (r.lv.getD ((covL r)[i]).toNat 0) (-300000) 299999 = true then some ((r.lv.getD ((covL r)[i]).toNat 0 + 300000) / 10000).toNat else none := fun i h => by unfold hsG; rw [getD_at h]
  generalize hsG r = g at *
  generalize hrow0 : rasL r = row0 at *
  have hrow : row0 = [.v (.int .i64 r.st), .v (.int .i64 r.wd), .v (.int .i64 r.ht), .dsl 1 (r.sv.map inL), .dsl 1 (r.lv.map inL)] := hrow0.symm
  subst hrow
  generalize covL r = cs at *
  refine RO.ofm (.tup [.sl 0 0 60, .v (.int .i64 0)]) ([(0, ⟨2, 1, true, (bkF 60 g cs.length).map inL⟩)]) 1 Try.func12 Try.ntmps12 rfl (goFn_of Try.func12 rfl (by kernel_rfl)) rfl rfl (by simp [renA, renL]) (by simp [shH, renB]) rfl ?_
  ((repeat' (first
    | (show SQ _ _ _ _ _ _ _ _; first | apply sq_nil | (apply q_move; exact rfl; exact rfl) | (apply q_assign; exact rfl; exact rfl) | (apply q_pick_f; exact rfl; exact rfl; exact rfl; exact (by first | assumption | exact rfl)) | (apply q_not; exact rfl; exact rfl) | (apply q_lenl; exact rfl; exact rfl; exact (ty rfl); exact rfl) | (apply q_g; exact rfl; exact rfl; exact rfl; exact rfl))
    | (show SQ _ _ _ _ _ _ _ _; (first | (apply q_ldap; exact rfl; exact rfl; exact (ty rfl); exact rfl; exact rfl; exact (by first | rfl | assumption | ((try simp only [Nat.zero_add]); refine List.getElem?_set_self ?_; (try simp only [List.length_set]); assumption)); exact rfl) | (apply q_box; exact rfl; exact rfl; exact rfl) | (apply q_mks; exact rfl; exact rfl; exact rfl; exact (ty rfl); exact rfl; exact (by first | omega | (simp; done) | (simp; omega)); exact (by first | omega | (simp; done) | (simp; omega)); exact (by first | omega | (simp; done) | (simp; omega)); exact (by first | omega | (simp; done) | (simp; omega)); exact rfl; exact rfl) | (apply q_callU; exact rfl; exact rfl; exact rfl; exact FzL.of rfl; exact hV _) | (apply q_callU; exact rfl; exact rfl; exact rfl; exact FzL.of rfl; exact hC _) | (apply q_callU; exact rfl; exact rfl; exact rfl; exact FzL.of rfl; exact hL _) | (apply q_callU; exact rfl; exact rfl; exact rfl; exact FzL.of rfl; exact hW1 _) | (apply q_callU; exact rfl; exact rfl; exact rfl; exact FzL.of rfl; exact hW2 _)); (try simp only [put, rowsOf, plR, List.all_cons, selE, ovr, setH, del, cellsA, splice, isV, List.nil_append, List.cons_append, List.map_cons, List.map_nil, List.length_cons, List.length_nil, List.set_cons_zero, List.set_cons_succ, List.take_succ_cons, List.take_zero, List.take_nil, List.drop_succ_cons, List.drop_zero, List.drop_nil, List.append_nil, List.all_cons, List.all_nil, Bool.and_true, Bool.true_and, Bool.and_false, Bool.false_and, Nat.reduceAdd, Nat.zero_add, Nat.add_zero, Nat.reduceEqDiff, if_true, if_false, reduceIte]))
    | (show AW _ _ _ _ _ _ _ _; first | refine aw_region ?_ | (refine aw_seqk ?_; intro K hK) | refine aw_block ?_ | (apply aw_cond_f; exact rfl; exact rfl) | refine aw_skip ?_)
    | refine thn_n ?_
    | (refine hK _ _ _ ?_; clear hK K)
    | refine inb_n ?_)); all_goals (repeat (clear hK K)))
  refine aw_loop (ρ := id) (ι := Nat) (fun i => ([(37, .v (.int .i64 i)), (36, .v (.int .i64 cs.length)), (35, .sl 2 0 cs.length), (10, .sl 1 0 60), (4, .ptr 0 0 0), (3, .v (.int .i64 60)), (2, .v (.int .i64 10000)), (1, .v (.int .i64 (-300000)))],
      [(0, ⟨26, 5, false, [[.v (.int .i64 r.st), .v (.int .i64 r.wd), .v (.int .i64 r.ht), .dsl 1 (r.sv.map inL), .dsl 1 (r.lv.map inL)]]⟩), (1, ⟨2, 1, true, (bkF 60 g i).map inL⟩), (2, ⟨3, 1, true, cs.map inL⟩)], 3))
    (fun i => i ≤ cs.length) (fun i => cs.length - i) 0 (Nat.zero_le _) ⟨by (repeat (refine ⟨by first | exact lk_i rfl rfl | exact lk_r rfl rfl rfl | exact lk_s rfl rfl rfl rfl, ?_⟩)); exact trivial, by (repeat (refine ⟨by first | exact ⟨rfl, rfl, rfl⟩, ?_⟩)); exact trivial, by rfl, by exact pin_0⟩ ?_
  intro i hi
  by_cases c1 : i < cs.length
  · have b4 : decide ((i : Int) < (cs.length : Int)) = true := by simpa using c1
    have hr1 := inL_get c1
    have hw : IntKind.i64.wrap ((i : Int) + 1) = ((i + 1 : Nat) : Int) := by rw [IntWalk.i64_in _ (by omega)]; omega
    obtain ⟨j, hj, ej, hp⟩ := hget c1
    have hg := hsvG i c1
    rw [ej] at hr1 hg
    have hr1 : (cs.map inL)[0 + ((i : Int)).toNat]? = some [.v (.int .i64 (j : Int))] := by rw [Nat.zero_add]; exact hr1
    have hj2 : j < r.lv.length := by omega
    have hr2 := inL_get hj2
    rw [Int.toNat_natCast, getD_at hj2] at hg
    have hlv := n5 j hj
    rw [getD_at hj2] at hlv
    have hW := within_ro r.lv[j] (-300000) (IntKind.i64.wrap (IntKind.i64.wrap (-300000 + IntKind.i64.wrap (60 * 10000)) - 1))
    rw [show (IntKind.i64.wrap (IntKind.i64.wrap (-300000 + IntKind.i64.wrap (60 * 10000)) - 1)) = 299999 from rfl] at hW
    cases hq : inB r.lv[j] (-300000) 299999 with
    | true =>
      rw [hq] at hW
      rw [hq, if_pos rfl] at hg
      unfold inB at hq
      simp only [Bool.and_eq_true, decide_eq_true_eq] at hq
      have hidx : IntKind.i64.wrap ((IntKind.i64.wrap (r.lv[j] - -300000)).tdiv 10000) = (r.lv[j] + 300000) / 10000 := by
        rw [show r.lv[j] - -300000 = r.lv[j] + 300000 by omega, IntWalk.i64_in (r.lv[j] + 300000) (by omega), Int.tdiv_eq_ediv_of_nonneg (by omega)]
        exact IntWalk.i64_in _ (by omega)
      have hlt : ((r.lv[j] + 300000) / 10000).toNat < 60 := by omega
      rw [← hidx] at hg hlt
      have hx0 : 0 ≤ IntKind.i64.wrap ((IntKind.i64.wrap (r.lv[j] - -300000)).tdiv 10000) := by rw [hidx]; omega
      have hx1 : IntKind.i64.wrap ((IntKind.i64.wrap (r.lv[j] - -300000)).tdiv 10000) < 60 := by rw [hidx]; omega
      have hr3 : ((bkF 60 g i).map inL)[0 + (IntKind.i64.wrap ((IntKind.i64.wrap (r.lv[j] - -300000)).tdiv 10000)).toNat]? = some [.v (.int .i64 ((bkF 60 g i).getD (IntKind.i64.wrap ((IntKind.i64.wrap (r.lv[j] - -300000)).tdiv 10000)).toNat 0))] := by rw [Nat.zero_add]; exact bk_get hlt
      have hv := bk_val (g := g) (i := i) hlt
      have hx : IntKind.i64.wrap ((bkF 60 g i).getD (IntKind.i64.wrap ((IntKind.i64.wrap (r.lv[j] - -300000)).tdiv 10000)).toNat 0 + 1) = (bkF 60 g i).getD (IntKind.i64.wrap ((IntKind.i64.wrap (r.lv[j] - -300000)).tdiv 10000)).toNat 0 + 1 := IntWalk.i64_in _ (by omega)
      have hset := bk_set (S := 60) hg hx
      ((repeat' (first
    | (show SQ _ _ _ _ _ _ _ _; first | apply sq_nil | (apply q_move; exact rfl; exact rfl) | (apply q_assign; exact rfl; exact rfl) | (apply q_fieldAddr; exact rfl; exact rfl; exact (ty rfl); exact rfl; exact rfl; exact rfl; exact rfl) | (apply q_add; exact rfl; exact rfl; exact rfl) | (apply q_sub; exact rfl; exact rfl; exact rfl) | (apply q_mul; exact rfl; exact rfl; exact rfl) | (apply q_quo; exact rfl; exact rfl; exact rfl; exact (by first | decide | omega)) | (apply q_lss; exact rfl; exact rfl; exact rfl) | (apply q_ixd; exact rfl; exact rfl; exact rfl; exact (ty rfl); exact rfl; exact (by first | omega | (simp; done) | (simp; omega)); exact (by first | omega | (simp; done) | (simp; omega)); exact (by first | rfl | assumption)) | (apply q_ixl; exact rfl; exact rfl; exact rfl; exact (ty rfl); exact rfl; exact rfl; exact rfl; exact (by first | omega | (simp; done) | (simp; omega)); exact (by first | omega | (simp; done) | (simp; omega))) | (apply q_ld1d; exact rfl; exact rfl; exact (ty rfl); exact rfl; exact rfl) | (apply q_ld1p; exact rfl; exact rfl; exact (ty rfl); exact rfl; exact rfl; exact (by first | rfl | assumption | ((try simp only [Nat.zero_add]); refine List.getElem?_set_self ?_; (try simp only [List.length_set]); assumption)); exact rfl))
    | (show SQ _ _ _ _ _ _ _ _; (first | (apply q_store; exact rfl; exact rfl; exact (ty rfl); exact rfl; exact (by first | rfl | assumption | ((try simp only [Nat.zero_add]); refine List.getElem?_set_self ?_; (try simp only [List.length_set]); assumption)); exact rfl; exact rfl; exact rfl) | (apply q_callU; exact rfl; exact rfl; exact rfl; exact FzL.of rfl; exact hW _)); (try simp only [put, rowsOf, plR, List.all_cons, selE, ovr, setH, del, cellsA, splice, isV, List.nil_append, List.cons_append, List.map_cons, List.map_nil, List.length_cons, List.length_nil, List.set_cons_zero, List.set_cons_succ, List.take_succ_cons, List.take_zero, List.take_nil, List.drop_succ_cons, List.drop_zero, List.drop_nil, List.append_nil, List.all_cons, List.all_nil, Bool.and_true, Bool.true_and, Bool.and_false, Bool.false_and, Nat.reduceAdd, Nat.zero_add, Nat.add_zero, Nat.reduceEqDiff, if_true, if_false, reduceIte]))
    | (show AW _ _ _ _ _ _ _ _; first | refine aw_region ?_ | (refine aw_seqk ?_; intro K hK) | refine aw_block ?_ | (apply aw_cond_t; exact rfl; exact rfl) | (apply aw_cond_t; exact rfl; exact (by assumption)) | refine aw_skip ?_)
    | refine thn_n ?_
    | (refine hK _ _ _ ?_; clear hK K)
    | refine inb_n ?_)); all_goals (repeat (clear hK K)))
      refine ⟨i + 1, id, c1, by omega, ?_⟩
      (try dsimp only); rw [← hset, ← hw]
      exact ⟨by (repeat (refine ⟨by first | exact lk_i rfl rfl | exact lk_r rfl rfl rfl | exact lk_s rfl rfl rfl rfl, ?_⟩)); exact trivial, by (repeat (refine ⟨by first | exact ⟨rfl, rfl, rfl⟩, ?_⟩)); exact trivial, by rfl, by exact pin_0⟩
    | false =>
      rw [hq] at hW
      rw [hq, if_neg (by decide)] at hg
      have hset : bkF 60 g (i + 1) = bkF 60 g i := by rw [bkF, hg]
      ((repeat' (first
    | (show SQ _ _ _ _ _ _ _ _; first | apply sq_nil | (apply q_move; exact rfl; exact rfl) | (apply q_assign; exact rfl; exact rfl) | (apply q_fieldAddr; exact rfl; exact rfl; exact (ty rfl); exact rfl; exact rfl; exact rfl; exact rfl) | (apply q_add; exact rfl; exact rfl; exact rfl) | (apply q_sub; exact rfl; exact rfl; exact rfl) | (apply q_mul; exact rfl; exact rfl; exact rfl) | (apply q_lss; exact rfl; exact rfl; exact rfl) | (apply q_ixd; exact rfl; exact rfl; exact rfl; exact (ty rfl); exact rfl; exact (by first | omega | (simp; done) | (simp; omega)); exact (by first | omega | (simp; done) | (simp; omega)); exact (by first | rfl | assumption)) | (apply q_ixl; exact rfl; exact rfl; exact rfl; exact (ty rfl); exact rfl; exact rfl; exact rfl; exact (by first | omega | (simp; done) | (simp; omega)); exact (by first | omega | (simp; done) | (simp; omega))) | (apply q_ld1d; exact rfl; exact rfl; exact (ty rfl); exact rfl; exact rfl) | (apply q_ld1p; exact rfl; exact rfl; exact (ty rfl); exact rfl; exact rfl; exact (by first | rfl | assumption | ((try simp only [Nat.zero_add]); refine List.getElem?_set_self ?_; (try simp only [List.length_set]); assumption)); exact rfl))
    | (show SQ _ _ _ _ _ _ _ _; (first | (apply q_callU; exact rfl; exact rfl; exact rfl; exact FzL.of rfl; exact hW _)); (try simp only [put, rowsOf, plR, List.all_cons, selE, ovr, setH, del, cellsA, splice, isV, List.nil_append, List.cons_append, List.map_cons, List.map_nil, List.length_cons, List.length_nil, List.set_cons_zero, List.set_cons_succ, List.take_succ_cons, List.take_zero, List.take_nil, List.drop_succ_cons, List.drop_zero, List.drop_nil, List.append_nil, List.all_cons, List.all_nil, Bool.and_true, Bool.true_and, Bool.and_false, Bool.false_and, Nat.reduceAdd, Nat.zero_add, Nat.add_zero, Nat.reduceEqDiff, if_true, if_false, reduceIte]))
    | (show AW _ _ _ _ _ _ _ _; first | refine aw_region ?_ | (refine aw_seqk ?_; intro K hK) | refine aw_block ?_ | (apply aw_cond_f; exact rfl; exact rfl) | (apply aw_cond_t; exact rfl; exact (by assumption)) | refine aw_skip ?_)
    | refine thn_n ?_
    | (refine hK _ _ _ ?_; clear hK K)
    | refine inb_n ?_)); all_goals (repeat (clear hK K)))
      refine ⟨i + 1, id, c1, by omega, ?_⟩
      (try dsimp only); rw [hset, ← hw]
      exact ⟨by (repeat (refine ⟨by first | exact lk_i rfl rfl | exact lk_r rfl rfl rfl | exact lk_s rfl rfl rfl rfl, ?_⟩)); exact trivial, by (repeat (refine ⟨by first | exact ⟨rfl, rfl, rfl⟩, ?_⟩)); exact trivial, by rfl, by exact pin_0⟩
  · have b1 : decide ((i : Int) < (cs.length : Int)) = false := by simpa using c1
    obtain rfl : i = cs.length := by omega
    ((repeat' (first
    | (show SQ _ _ _ _ _ _ _ _; first | apply sq_nil | (apply q_move; exact rfl; exact rfl) | (apply q_assign; exact rfl; exact rfl) | (apply q_lss; exact rfl; exact rfl; exact rfl))
    | (show AW _ _ _ _ _ _ _ _; first | refine aw_region ?_ | (refine aw_seqk ?_; intro K hK) | (apply aw_cond_f; exact rfl; exact (by assumption)) | refine aw_ret ?_ | refine aw_exit ?_)
    | refine thn_n ?_
    | (refine hK _ _ _ ?_; clear hK K)
    | refine thn_e ?_
    | refine inb_same ?_
    | (clear hK K; refine hK _ _ _ ?_; clear hK K))); all_goals (repeat (clear hK K)))
    exact fin_r (fin_m2 rfl rfl rfl _ _ rfl rfl rfl)
end Go.Proofs.Ytljpgbgokjiamaa.St
