/-
  Holdings: validity.
-/
import Derived.Test.YtiificaolakgdaaLhC
namespace Go.Proofs.Ytiificaolakgdaa.Li
open Go Go.RowKit Go.Proofs.Ytiificaolakgdaa.Aw Go.Proofs.Ytiificaolakgdaa.Ar
set_option linter.unusedSimpArgs false
set_option linter.unusedVariables false
attribute [local irreducible] AW SQ Step RO RC DE Thn InB

theorem allR_false {n : Nat} {f : Nat → Bool} {i : Nat} (hi : i < n) (h : f i = false) : (List.range n).all f = false := by
  cases ha : (List.range n).all f with
  | false => rfl
  | true => have := List.all_eq_true.1 ha i (List.mem_range.2 hi); rw [h] at this; cases this
theorem allR_true {n : Nat} {f : Nat → Bool} (h : ∀ i, i < n → f i = true) : (List.range n).all f = true :=
  List.all_eq_true.2 fun i hi => h i (List.mem_range.1 hi)

/-- the index of the first with a property, or -1 -/
def ixOf (p : Lic → Bool) : List Lic → Int
  | [] => -1
  | x :: xs => if p x then 0 else if ixOf p xs < 0 then -1 else ixOf p xs + 1
theorem ixOf_any (p : Lic → Bool) : ∀ xs, decide (0 ≤ ixOf p xs) = xs.any p
  | [] => rfl
  | x :: xs => by
    have ih := ixOf_any p xs
    simp only [ixOf, List.any_cons]
    by_cases h : p x
    · simp [h]
    · simp only [h, Bool.false_or, Bool.false_eq_true, if_false]
      rw [← ih]
      split
      · rename_i h2; simp; omega
      · rename_i h2; simp; omega
theorem ixOf_at (p : Lic → Bool) : ∀ (pre : List Lic) (x : Lic) (r : List Lic), (∀ y ∈ pre, p y = false) → p x = true → ixOf p (pre ++ x :: r) = pre.length
  | [], x, r, _, h => by simp [ixOf, h]
  | y :: pre, x, r, h, hx => by
    have ih := ixOf_at p pre x r (fun z hz => h z (List.mem_cons_of_mem _ hz)) hx
    simp only [List.cons_append, ixOf, h y List.mem_cons_self, Bool.false_eq_true, if_false, ih]
    rw [if_neg (by omega)]
    simp
theorem ixOf_none (p : Lic → Bool) : ∀ (xs : List Lic), (∀ y ∈ xs, p y = false) → ixOf p xs = -1
  | [], _ => rfl
  | y :: xs, h => by simp [ixOf, h y List.mem_cons_self, ixOf_none p xs fun z hz => h z (List.mem_cons_of_mem _ hz)]
theorem take_succ_all {p : Lic → Bool} {xs : List Lic} {i : Nat} (hi : i < xs.length) (h : ∀ y ∈ xs.take i, p y = false) (hx : p xs[i] = false) : ∀ y ∈ xs.take (i + 1), p y = false := by
  intro y hy
  rw [List.take_succ_eq_append_getElem hi] at hy
  rcases List.mem_append.1 hy with h1 | h1
  · exact h y h1
  · simp at h1; subst h1; exact hx

set_option maxHeartbeats 4000000 in
theorem IndexFunc_ro (xs : List Lic) (rows : List (List AV)) (f : FuncId) (caps : List AV) (p : Lic → Bool) (hcap : idsOkL 0 caps = true) (hz : FzC caps) (hrows : rows = xs.map licL) (hf : ∀ x ∈ xs, ∀ m, RO Try.prog f (.agg (licL x) :: caps) m (.v (.bool (p x))) [] m) (hn : xs.length ≤ 1048576) (k : Nat) :
    RO Try.prog 65 [.dsl 11 rows, .fn f caps] k (.v (.int .i64 (ixOf p xs))) [] k := by
  subst hrows
  refine RO.ofv' Try.func65 Try.ntmps65 rfl (goFn_of Try.func65 rfl (by kernel_rfl)) rfl rfl ?_
  ((repeat' (first
    | (show SQ _ _ _ _ _ _ _ _; first | apply sq_nil | (apply q_move; exact rfl; exact rfl) | (apply q_assign; exact rfl; exact rfl) | (apply q_lend; exact rfl; exact rfl; exact (ty rfl); exact rfl))
    | (show AW _ _ _ _ _ _ _ _; first | refine aw_region ?_ | (refine aw_seqk ?_; intro K hK) | refine aw_block ?_)
    | refine thn_n ?_
    | (refine hK _ _ _ ?_; clear hK K))); all_goals (repeat (clear hK K)))
  refine aw_loop (ρ := id) (ι := Nat) (fun i => ([(8, .v (.int .i64 i)), (7, .v (.int .i64 xs.length)), (1, .fn f caps), (0, .dsl 11 (xs.map licL))], [], 0))
    (fun i => i ≤ xs.length ∧ ∀ y ∈ xs.take i, p y = false) (fun i => xs.length - i) 0 ⟨Nat.zero_le _, by simp⟩ ⟨⟨lk_i rfl rfl, lk_i rfl (by simp), lk_f rfl (renL_id caps) hcap, lk_d rfl rfl, trivial⟩, trivial, rfl, pin_0⟩ ?_
  rintro i ⟨hi, hp⟩
  by_cases c2 : i < xs.length
  · have b2 : decide ((i : Int) < (xs.length : Int)) = true := by simpa using c2
    have hrow : (xs.map licL)[((i : Int)).toNat]? = some (licL xs[i]) := by simp [c2]
    have hc := hf xs[i] (List.getElem_mem c2)
    by_cases c3 : p xs[i] = true
    · ((repeat' (first
    | (show SQ _ _ _ _ _ _ _ _; first | apply sq_nil | (apply q_move; exact rfl; exact rfl) | (apply q_assign; exact rfl; exact rfl) | (apply q_lss; exact rfl; exact rfl; exact rfl) | (apply q_ixd; exact rfl; exact rfl; exact rfl; exact (ty rfl); exact rfl; exact (by first | omega | (simp; done) | (simp; omega)); exact (by first | omega | (simp; done) | (simp; omega)); exact (by first | rfl | assumption)))
    | (show SQ _ _ _ _ _ _ _ _; (first | (apply q_ldad; exact rfl; exact rfl; exact (ty rfl); exact rfl; exact rfl) | (apply q_callU; exact rfl; exact rfl; exact rfl; rotate_left; exact hc _; rotate_right; focus ((repeat' (first | exact FzL.nil | exact (by assumption : FzC _) _ | refine FzL.cons ?_ ?_ | exact Fz.of rfl | exact Fz.nil | exact Fz.emp | (apply Fz.fnC; assumption) | (apply Fz.sl2; exact rfl; exact (by first | omega | (simp; done) | (simp; omega)); first | exact rfl | exact dt_full (by first | omega | (simp; done) | (simp; omega)) | assumption) | apply Fz.agg | (apply Fz.ptrL; exact rfl; first | exact rfl | assumption) | apply Fz.fnL)); done))); (try simp only [put, rowsOf, plR, List.all_cons, selE, ovr, setH, del, cellsA, splice, isV, List.nil_append, List.cons_append, List.map_cons, List.map_nil, List.length_cons, List.length_nil, List.set_cons_zero, List.set_cons_succ, List.take_succ_cons, List.take_zero, List.take_nil, List.drop_succ_cons, List.drop_zero, List.drop_nil, List.append_nil, List.all_cons, List.all_nil, Bool.and_true, Bool.true_and, Bool.and_false, Bool.false_and, Nat.reduceAdd, Nat.zero_add, Nat.add_zero, Nat.reduceEqDiff, if_true, if_false, reduceIte]))
    | (show AW _ _ _ _ _ _ _ _; first | refine aw_region ?_ | (refine aw_seqk ?_; intro K hK) | refine aw_block ?_ | (apply aw_cond_t; exact rfl; exact (by assumption)) | refine aw_ret ?_ | refine aw_skip ?_)
    | refine thn_n ?_
    | (refine hK _ _ _ ?_; clear hK K)
    | refine thn_r ?_
    | refine inb_r ?_)); all_goals (repeat (clear hK K)))
      all_goals refine fin_r (fin_i rfl ?_)
      have := ixOf_at p (xs.take i) xs[i] (xs.drop (i + 1)) hp c3
      rw [← List.drop_eq_getElem_cons c2, List.take_append_drop] at this
      rw [this]; simp; omega
    · have c3 : p xs[i] = false := by simpa using c3
      ((repeat' (first
    | (show SQ _ _ _ _ _ _ _ _; first | apply sq_nil | (apply q_move; exact rfl; exact rfl) | (apply q_assign; exact rfl; exact rfl) | (apply q_add; exact rfl; exact rfl; exact rfl) | (apply q_lss; exact rfl; exact rfl; exact rfl) | (apply q_ixd; exact rfl; exact rfl; exact rfl; exact (ty rfl); exact rfl; exact (by first | omega | (simp; done) | (simp; omega)); exact (by first | omega | (simp; done) | (simp; omega)); exact (by first | rfl | assumption)))
    | (show SQ _ _ _ _ _ _ _ _; (first | (apply q_ldad; exact rfl; exact rfl; exact (ty rfl); exact rfl; exact rfl) | (apply q_callU; exact rfl; exact rfl; exact rfl; rotate_left; exact hc _; rotate_right; focus ((repeat' (first | exact FzL.nil | exact (by assumption : FzC _) _ | refine FzL.cons ?_ ?_ | exact Fz.of rfl | exact Fz.nil | exact Fz.emp | (apply Fz.fnC; assumption) | (apply Fz.sl2; exact rfl; exact (by first | omega | (simp; done) | (simp; omega)); first | exact rfl | exact dt_full (by first | omega | (simp; done) | (simp; omega)) | assumption) | apply Fz.agg | (apply Fz.ptrL; exact rfl; first | exact rfl | assumption) | apply Fz.fnL)); done))); (try simp only [put, rowsOf, plR, List.all_cons, selE, ovr, setH, del, cellsA, splice, isV, List.nil_append, List.cons_append, List.map_cons, List.map_nil, List.length_cons, List.length_nil, List.set_cons_zero, List.set_cons_succ, List.take_succ_cons, List.take_zero, List.take_nil, List.drop_succ_cons, List.drop_zero, List.drop_nil, List.append_nil, List.all_cons, List.all_nil, Bool.and_true, Bool.true_and, Bool.and_false, Bool.false_and, Nat.reduceAdd, Nat.zero_add, Nat.add_zero, Nat.reduceEqDiff, if_true, if_false, reduceIte]))
    | (show AW _ _ _ _ _ _ _ _; first | refine aw_region ?_ | (refine aw_seqk ?_; intro K hK) | refine aw_block ?_ | (apply aw_cond_t; exact rfl; exact (by assumption)) | (apply aw_cond_f; exact rfl; exact (by assumption)) | refine aw_skip ?_)
    | refine thn_n ?_
    | (refine hK _ _ _ ?_; clear hK K)
    | refine inb_n ?_)); all_goals (repeat (clear hK K)))
      refine ⟨i + 1, id, ⟨c2, take_succ_all c2 hp c3⟩, by omega, ⟨lk_i rfl (by rw [IntWalk.i64_in _ (by omega)]; rfl), lk_i rfl rfl, lk_f rfl (renL_id caps) hcap, lk_d rfl rfl, trivial⟩, trivial, rfl, pin_0⟩
  · have b2 : decide ((i : Int) < (xs.length : Int)) = false := by simpa using c2
    ((repeat' (first
    | (show SQ _ _ _ _ _ _ _ _; first | apply sq_nil | (apply q_assign; exact rfl; exact rfl) | (apply q_lss; exact rfl; exact rfl; exact rfl))
    | (show AW _ _ _ _ _ _ _ _; first | refine aw_region ?_ | (refine aw_seqk ?_; intro K hK) | (apply aw_cond_f; exact rfl; exact (by assumption)) | refine aw_ret ?_ | refine aw_exit ?_)
    | refine thn_n ?_
    | (refine hK _ _ _ ?_; clear hK K)
    | refine thn_e ?_
    | refine inb_same ?_
    | (clear hK K; refine hK _ _ _ ?_; clear hK K))); all_goals (repeat (clear hK K)))
    all_goals refine fin_r (fin_i rfl ?_)
    rw [List.take_of_length_le (by omega)] at hp
    exact (ixOf_none p xs hp).symm
set_option maxHeartbeats 4000000 in
theorem ContainsFunc_ro (xs : List Lic) (rows : List (List AV)) (f : FuncId) (caps : List AV) (p : Lic → Bool) (hcap : idsOkL 0 caps = true) (hz : FzC caps) (hrows : rows = xs.map licL) (hf : ∀ x ∈ xs, ∀ m, RO Try.prog f (.agg (licL x) :: caps) m (.v (.bool (p x))) [] m) (hn : xs.length ≤ 1048576) (k : Nat) :
    RO Try.prog 59 [.dsl 11 rows, .fn f caps] k (.v (.bool (xs.any p))) [] k := by
  refine RO.ofv' Try.func59 Try.ntmps59 rfl (goFn_of Try.func59 rfl (by kernel_rfl)) rfl rfl ?_
  ((repeat' (first
    | (show SQ _ _ _ _ _ _ _ _; first | apply sq_nil | (apply q_move; exact rfl; exact rfl) | (apply q_assign; exact rfl; exact rfl) | (apply q_geq; exact rfl; exact rfl; exact rfl))
    | (show SQ _ _ _ _ _ _ _ _; (first | (apply q_callU; exact rfl; exact rfl; exact rfl; rotate_left; exact IndexFunc_ro xs rows f caps p hcap hz hrows hf hn _; rotate_right; focus ((repeat' (first | exact FzL.nil | exact (by assumption : FzC _) _ | refine FzL.cons ?_ ?_ | exact Fz.of rfl | exact Fz.nil | exact Fz.emp | (apply Fz.fnC; assumption) | (apply Fz.sl2; exact rfl; exact (by first | omega | (simp; done) | (simp; omega)); first | exact rfl | exact dt_full (by first | omega | (simp; done) | (simp; omega)) | assumption) | apply Fz.agg | (apply Fz.ptrL; exact rfl; first | exact rfl | assumption) | apply Fz.fnL)); done))); (try simp only [put, rowsOf, plR, List.all_cons, selE, ovr, setH, del, cellsA, splice, isV, List.nil_append, List.cons_append, List.map_cons, List.map_nil, List.length_cons, List.length_nil, List.set_cons_zero, List.set_cons_succ, List.take_succ_cons, List.take_zero, List.take_nil, List.drop_succ_cons, List.drop_zero, List.drop_nil, List.append_nil, List.all_cons, List.all_nil, Bool.and_true, Bool.true_and, Bool.and_false, Bool.false_and, Nat.reduceAdd, Nat.zero_add, Nat.add_zero, Nat.reduceEqDiff, if_true, if_false, reduceIte]))
    | (show AW _ _ _ _ _ _ _ _; first | refine aw_region ?_ | (refine aw_seqk ?_; intro K hK) | refine aw_ret ?_)
    | refine thn_n ?_
    | (refine hK _ _ _ ?_; clear hK K))); all_goals (repeat (clear hK K)))
  all_goals refine fin_r (fin_b rfl ?_)
  exact ixOf_any p xs
set_option maxHeartbeats 4000000 in
theorem vhClosure_ro (x y : Lic) (hx : x.sm) (hy : y.sm) (k : Nat) : RO Try.prog 71 [.agg (licL y), .dptr (licL x)] k (.v (.bool (clashB x y))) [] k := by
  refine RO.ofv' Try.func71 Try.ntmps71 rfl (goFn_of Try.func71 rfl (by kernel_rfl)) rfl rfl ?_
  unfold licL
  ((repeat' (first
    | (show SQ _ _ _ _ _ _ _ _; first | apply sq_nil | (apply q_assign; exact rfl; exact rfl))
    | (show SQ _ _ _ _ _ _ _ _; (first | (apply q_ldad; exact rfl; exact rfl; exact (ty rfl); exact rfl; exact rfl) | (apply q_ldap; exact rfl; exact rfl; exact (ty rfl); exact rfl; exact rfl; exact (by first | rfl | assumption | ((try simp only [Nat.zero_add]); refine List.getElem?_set_self ?_; (try simp only [List.length_set]); assumption)); exact rfl) | (apply q_box; exact rfl; exact rfl; exact rfl) | (apply q_callU; exact rfl; exact rfl; exact rfl; exact FzL.of rfl; exact ClashOf_ro x y hx hy _)); (try simp only [put, rowsOf, plR, List.all_cons, selE, ovr, setH, del, cellsA, splice, isV, List.nil_append, List.cons_append, List.map_cons, List.map_nil, List.length_cons, List.length_nil, List.set_cons_zero, List.set_cons_succ, List.take_succ_cons, List.take_zero, List.take_nil, List.drop_succ_cons, List.drop_zero, List.drop_nil, List.append_nil, List.all_cons, List.all_nil, Bool.and_true, Bool.true_and, Bool.and_false, Bool.false_and, Nat.reduceAdd, Nat.zero_add, Nat.add_zero, Nat.reduceEqDiff, if_true, if_false, reduceIte]))
    | (show AW _ _ _ _ _ _ _ _; first | refine aw_region ?_ | (refine aw_seqk ?_; intro K hK) | refine aw_ret ?_)
    | refine thn_n ?_
    | (refine hK _ _ _ ?_; clear hK K))); all_goals (repeat (clear hK K)))
  all_goals exact fin_r (fin_b rfl rfl)

def goodAt (xs : List Lic) (i : Nat) : Bool := licB (xs.getD i lz) && (decide (i = 0) || ltS (xs.getD (i - 1) lz).id (xs.getD i lz).id) && !(xs.take i).any (fun k => clB (xs.getD i lz) k)
def holdB (xs : List Lic) : Bool := decide (xs.length ≤ 24) && (List.range xs.length).all (goodAt xs)

theorem holdB_false {xs : List Lic} {i : Nat} (hi : i < xs.length) (h : goodAt xs i = false) : holdB xs = false := by
  rw [holdB, allR_false hi h, Bool.and_false]
set_option maxHeartbeats 4000000 in
theorem l26List_ro (xs : List Lic) (hs : ∀ l ∈ xs, l.sm) (hn : xs.length ≤ 1048576) (k : Nat) : RO Try.prog 38 [.dsl 11 (xs.map licL)] k (.v (.bool (holdB xs))) [] k := by
  refine RO.ofv' Try.func38 Try.ntmps38 rfl (goFn_of Try.func38 rfl (by kernel_rfl)) rfl rfl ?_
  ((repeat' (first
    | (show SQ _ _ _ _ _ _ _ _; first | apply sq_nil | (apply q_assign; exact rfl; exact rfl))
    | (show AW _ _ _ _ _ _ _ _; first | refine aw_region ?_ | (refine aw_seqk ?_; intro K hK) | refine aw_block ?_)
    | refine thn_n ?_
    | (refine hK _ _ _ ?_; clear hK K))); all_goals (repeat (clear hK K)))
  refine aw_loop (ρ := id) (ι := Nat) (fun i => ([(3, .v (.int .i64 i)), (0, .dsl 11 (xs.map licL))], [], 0))
    (fun i => i ≤ xs.length ∧ ∀ j, j < i → goodAt xs j = true) (fun i => xs.length - i) 0 ⟨Nat.zero_le _, fun _ h => absurd h (Nat.not_lt_zero _)⟩ ⟨⟨lk_i rfl rfl, lk_d rfl rfl, trivial⟩, trivial, rfl, pin_0⟩ ?_
  rintro i ⟨hi, hg⟩
  by_cases c2 : i < xs.length
  · have b2 : decide ((i : Int) < ((xs.map licL).length : Int)) = true := by simpa using c2
    have hrow : (xs.map licL)[((i : Int)).toNat]? = some (licL xs[i]) := by simp [c2]
    have hm : (xs[i]).sm := hs _ (List.getElem_mem c2)
    have hD : xs.getD i lz = xs[i] := by simp [List.getD, c2]
    have hpos : decide ((0 : Int) < (i : Int)) = decide (0 < i) := by simp
    have h26 := l26Ok_ro xs[i] hm
    by_cases c0 : i = 0
    · have b5 : decide ((0 : Int) < (i : Int)) = false := by simp; omega
      ((repeat' (first
    | (show SQ _ _ _ _ _ _ _ _; first | apply sq_nil | (apply q_move; exact rfl; exact rfl) | (apply q_assign; exact rfl; exact rfl) | (apply q_lend; exact rfl; exact rfl; exact (ty rfl); exact rfl) | (apply q_lss; exact rfl; exact rfl; exact rfl))
    | (show DE _ _ _ _ _ _ _ _ _ _ _ _; first | (apply e_move; exact rfl; exact rfl; exact rfl) | (apply e_pick_t; exact rfl; exact rfl; exact rfl; exact (by first | assumption | exact rfl); exact rfl) | (apply e_pick_f; exact rfl; exact rfl; exact rfl; exact (by first | assumption | exact rfl); exact rfl) | (apply e_not; exact rfl; exact rfl; exact rfl) | (apply e_gtr; exact rfl; exact rfl; exact rfl; exact rfl) | (apply e_ixd; exact rfl; exact rfl; exact rfl; exact (ty rfl); exact rfl; exact (by first | omega | (simp; done) | (simp; omega)); exact (by first | omega | (simp; done) | (simp; omega)); exact (by first | rfl | assumption); exact rfl) | (apply e_g; exact rfl; exact rfl; exact rfl; exact (by assumption)) | (apply e_s; exact rfl; exact rfl; exact rfl; exact (by assumption); exact rfl) | (apply e_sU; exact rfl; exact rfl; exact rfl; exact rfl; exact rfl))
    | (show DE _ _ _ _ _ _ _ _ _ _ _ _; (first | (apply dr_nil; exact rfl) | (apply e_callU; exact rfl; exact rfl; exact rfl; exact FzL.of rfl; exact h26 _; exact rfl)); (try simp only [put, rowsOf, plR, List.all_cons, selE, ovr, setH, del, cellsA, splice, isV, List.nil_append, List.cons_append, List.map_cons, List.map_nil, List.length_cons, List.length_nil, List.set_cons_zero, List.set_cons_succ, List.take_succ_cons, List.take_zero, List.take_nil, List.drop_succ_cons, List.drop_zero, List.drop_nil, List.append_nil, List.all_cons, List.all_nil, Bool.and_true, Bool.true_and, Bool.and_false, Bool.false_and, Nat.reduceAdd, Nat.zero_add, Nat.add_zero, Nat.reduceEqDiff, if_true, if_false, reduceIte]))
    | (show DE _ _ _ _ _ _ _ _ _ _ _ _; apply e_gs; exact rfl; exact rfl; exact rfl; exact rfl; all_goals intro h)
    | (show AW _ _ _ _ _ _ _ _; first | refine aw_region ?_ | (refine aw_seqk ?_; intro K hK) | refine aw_block ?_ | (apply aw_cond_t; exact rfl; exact rfl) | (apply aw_cond_f; exact rfl; exact rfl) | (apply aw_cond_t; exact rfl; exact (by assumption)) | refine aw_ret ?_ | refine aw_skip ?_ | refine aw_drawE (id := 4) [0, 0, 3, 7, 15, 31, 63, 127, 255, 511, 511, 1535, 4095, 8191, 16383, 511, 511, 98815, 229887, 492031, 1048575, 2097151, 4194303] [0, 0, 0, 1, 0, 0, 0, 0, 0, 0, 0, 0, 0, 0, 1, 0, 0, 0, 0, 1, 0, 0, 0] mixed (by kernel_rfl) ?_)
    | refine thn_n ?_
    | (refine hK _ _ _ ?_; clear hK K)
    | refine thn_r ?_
    | refine inb_r ?_)); all_goals (repeat (clear hK K)))
      · -- the licences before it
        refine aw_loop (ρ := id) (ι := Nat) (fun q => ([(4, .v (.int .i64 q)), (3, .v (.int .i64 i)), (0, .dsl 11 (xs.map licL))], [], 0))
          (fun q => q ≤ i ∧ ∀ y ∈ xs.take q, clB xs[i] y = false) (fun q => i - q) 0 ⟨Nat.zero_le _, by simp⟩ ⟨⟨lk_i rfl rfl, lk_i rfl rfl, lk_d rfl rfl, trivial⟩, trivial, rfl, pin_0⟩ ?_
        rintro q ⟨hq, hcl⟩
        by_cases c4 : q < i
        · have b4 : decide ((q : Int) < (i : Int)) = true := by simpa using c4
          have c5 : q < xs.length := by omega
          have hrowq : (xs.map licL)[((q : Int)).toNat]? = some (licL xs[q]) := by simp [c5]
          by_cases c6 : clB xs[i] xs[q] = true
          · ((repeat' (first
    | (show SQ _ _ _ _ _ _ _ _; first | apply sq_nil | (apply q_move; exact rfl; exact rfl) | (apply q_assign; exact rfl; exact rfl) | (apply q_lss; exact rfl; exact rfl; exact rfl))
    | (show DE _ _ _ _ _ _ _ _ _ _ _ _; first | (apply e_move; exact rfl; exact rfl; exact rfl) | (apply e_ixd; exact rfl; exact rfl; exact rfl; exact (ty rfl); exact rfl; exact (by first | omega | (simp; done) | (simp; omega)); exact (by first | omega | (simp; done) | (simp; omega)); exact (by first | rfl | assumption); exact rfl))
    | (show DE _ _ _ _ _ _ _ _ _ _ _ _; (first | (apply dr_nil; exact rfl) | (apply e_callU; exact rfl; exact rfl; exact rfl; exact FzL.of rfl; exact l26Clash_ro xs[i] xs[q] _; exact rfl)); (try simp only [put, rowsOf, plR, List.all_cons, selE, ovr, setH, del, cellsA, splice, isV, List.nil_append, List.cons_append, List.map_cons, List.map_nil, List.length_cons, List.length_nil, List.set_cons_zero, List.set_cons_succ, List.take_succ_cons, List.take_zero, List.take_nil, List.drop_succ_cons, List.drop_zero, List.drop_nil, List.append_nil, List.all_cons, List.all_nil, Bool.and_true, Bool.true_and, Bool.and_false, Bool.false_and, Nat.reduceAdd, Nat.zero_add, Nat.add_zero, Nat.reduceEqDiff, if_true, if_false, reduceIte]))
    | (show AW _ _ _ _ _ _ _ _; first | refine aw_region ?_ | (refine aw_seqk ?_; intro K hK) | refine aw_block ?_ | (apply aw_cond_t; exact rfl; exact (by assumption)) | refine aw_ret ?_ | refine aw_skip ?_ | refine aw_drawE (id := 9) [0, 0, 3, 0, 0, 24, 63] [0, 0, 0, 0, 0, 0, 1] mixed (by kernel_rfl) ?_)
    | refine thn_n ?_
    | (refine hK _ _ _ ?_; clear hK K)
    | refine thn_r ?_
    | refine inb_r ?_)); all_goals (repeat (clear hK K)))
            all_goals refine fin_r (fin_b rfl ?_)
            refine (holdB_false c2 ?_).symm
            rw [goodAt, hD, List.any_eq_true.2 ⟨xs[q], List.mem_take_iff_getElem.2 ⟨q, by omega, rfl⟩, c6⟩]
            simp
          · have c6 : clB xs[i] xs[q] = false := by simpa using c6
            ((repeat' (first
    | (show SQ _ _ _ _ _ _ _ _; first | apply sq_nil | (apply q_move; exact rfl; exact rfl) | (apply q_assign; exact rfl; exact rfl) | (apply q_add; exact rfl; exact rfl; exact rfl) | (apply q_lss; exact rfl; exact rfl; exact rfl))
    | (show DE _ _ _ _ _ _ _ _ _ _ _ _; first | (apply e_move; exact rfl; exact rfl; exact rfl) | (apply e_ixd; exact rfl; exact rfl; exact rfl; exact (ty rfl); exact rfl; exact (by first | omega | (simp; done) | (simp; omega)); exact (by first | omega | (simp; done) | (simp; omega)); exact (by first | rfl | assumption); exact rfl))
    | (show DE _ _ _ _ _ _ _ _ _ _ _ _; (first | (apply dr_nil; exact rfl) | (apply e_callU; exact rfl; exact rfl; exact rfl; exact FzL.of rfl; exact l26Clash_ro xs[i] xs[q] _; exact rfl)); (try simp only [put, rowsOf, plR, List.all_cons, selE, ovr, setH, del, cellsA, splice, isV, List.nil_append, List.cons_append, List.map_cons, List.map_nil, List.length_cons, List.length_nil, List.set_cons_zero, List.set_cons_succ, List.take_succ_cons, List.take_zero, List.take_nil, List.drop_succ_cons, List.drop_zero, List.drop_nil, List.append_nil, List.all_cons, List.all_nil, Bool.and_true, Bool.true_and, Bool.and_false, Bool.false_and, Nat.reduceAdd, Nat.zero_add, Nat.add_zero, Nat.reduceEqDiff, if_true, if_false, reduceIte]))
    | (show AW _ _ _ _ _ _ _ _; first | refine aw_region ?_ | (refine aw_seqk ?_; intro K hK) | refine aw_block ?_ | (apply aw_cond_t; exact rfl; exact (by assumption)) | (apply aw_cond_f; exact rfl; exact (by assumption)) | refine aw_skip ?_ | refine aw_drawE (id := 9) [0, 0, 3, 0, 0, 24, 63] [0, 0, 0, 0, 0, 0, 1] mixed (by kernel_rfl) ?_)
    | refine thn_n ?_
    | (refine hK _ _ _ ?_; clear hK K)
    | refine inb_n ?_)); all_goals (repeat (clear hK K)))
            refine ⟨q + 1, id, ⟨c4, take_succ_all c5 hcl c6⟩, by omega, ⟨lk_i rfl (by rw [IntWalk.i64_in _ (by omega)]; rfl), lk_i rfl rfl, lk_d rfl rfl, trivial⟩, trivial, rfl, pin_0⟩
        · have b4 : decide ((q : Int) < (i : Int)) = false := by simpa using c4
          have : q = i := by omega
          subst this
          ((repeat' (first
    | (show SQ _ _ _ _ _ _ _ _; first | apply sq_nil | (apply q_move; exact rfl; exact rfl) | (apply q_assign; exact rfl; exact rfl) | (apply q_add; exact rfl; exact rfl; exact rfl) | (apply q_lss; exact rfl; exact rfl; exact rfl))
    | (show AW _ _ _ _ _ _ _ _; first | refine aw_region ?_ | (refine aw_seqk ?_; intro K hK) | (apply aw_cond_f; exact rfl; exact (by assumption)) | refine aw_exit ?_)
    | refine thn_n ?_
    | (refine hK _ _ _ ?_; clear hK K)
    | refine thn_e ?_
    | refine inb_same ?_
    | refine inb_n ?_
    | (clear hK K; refine hK _ _ _ ?_; clear hK K))); all_goals (repeat (clear hK K)))
          refine ⟨q + 1, id, ⟨c2, fun j hj => ?_⟩, by omega, ⟨lk_i rfl (by rw [IntWalk.i64_in _ (by omega)]; rfl), lk_d rfl rfl, trivial⟩, trivial, rfl, pin_0⟩
          by_cases hjq : j < q
          · exact hg j hjq
          · have : j = q := by omega
            subst this
            rw [goodAt, hD, List.any_eq_false.2 (fun y hy => by rw [hcl y hy]; simp)]
            simp_all
      · refine fin_r (fin_b rfl ?_)
        refine (holdB_false c2 ?_).symm
        simp_all [goodAt]
    · have hw : IntKind.i64.wrap ((i : Int) - 1) = (i : Int) - 1 := IntWalk.i64_in _ (by omega)
      have hrow2 : (xs.map licL)[(IntKind.i64.wrap ((i : Int) - 1)).toNat]? = some (licL xs[i - 1]) := by
        rw [hw, show ((i : Int) - 1).toNat = i - 1 by omega]; simp [show i - 1 < xs.length by omega]
      have hP : xs.getD (i - 1) lz = xs[i - 1] := by simp [List.getD, show i - 1 < xs.length by omega]
      have b5 : decide ((0 : Int) < (i : Int)) = true := by simp; omega
      ((repeat' (first
    | (show SQ _ _ _ _ _ _ _ _; first | apply sq_nil | (apply q_move; exact rfl; exact rfl) | (apply q_assign; exact rfl; exact rfl) | (apply q_lend; exact rfl; exact rfl; exact (ty rfl); exact rfl) | (apply q_lss; exact rfl; exact rfl; exact rfl))
    | (show DE _ _ _ _ _ _ _ _ _ _ _ _; first | (apply e_move; exact rfl; exact rfl; exact rfl) | (apply e_pick_t; exact rfl; exact rfl; exact rfl; exact (by first | assumption | exact rfl); exact rfl) | (apply e_pick_f; exact rfl; exact rfl; exact rfl; exact (by first | assumption | exact rfl); exact rfl) | (apply e_fieldAddr; exact rfl; exact rfl; exact (ty rfl); exact rfl; exact rfl; exact rfl; exact rfl; exact rfl) | (apply e_not; exact rfl; exact rfl; exact rfl) | (apply e_sub; exact rfl; exact rfl; exact rfl; exact rfl) | (apply e_gtr; exact rfl; exact rfl; exact rfl; exact rfl) | (apply e_sgeq; exact rfl; exact rfl; exact rfl; exact rfl) | (apply e_ixd; exact rfl; exact rfl; exact rfl; exact (ty rfl); exact rfl; exact (by first | omega | (simp; done) | (simp; omega)); exact (by first | omega | (simp; done) | (simp; omega)); exact (by first | rfl | assumption); exact rfl) | (apply e_ld1d; exact rfl; exact rfl; exact (ty rfl); exact rfl; exact rfl; exact rfl) | (apply e_g; exact rfl; exact rfl; exact rfl; exact (by assumption)) | (apply e_s; exact rfl; exact rfl; exact rfl; exact (by assumption); exact rfl) | (apply e_sU; exact rfl; exact rfl; exact rfl; exact rfl; exact rfl))
    | (show DE _ _ _ _ _ _ _ _ _ _ _ _; (first | (apply dr_nil; exact rfl) | (apply e_callU; exact rfl; exact rfl; exact rfl; exact FzL.of rfl; exact h26 _; exact rfl)); (try simp only [put, rowsOf, plR, List.all_cons, selE, ovr, setH, del, cellsA, splice, isV, List.nil_append, List.cons_append, List.map_cons, List.map_nil, List.length_cons, List.length_nil, List.set_cons_zero, List.set_cons_succ, List.take_succ_cons, List.take_zero, List.take_nil, List.drop_succ_cons, List.drop_zero, List.drop_nil, List.append_nil, List.all_cons, List.all_nil, Bool.and_true, Bool.true_and, Bool.and_false, Bool.false_and, Nat.reduceAdd, Nat.zero_add, Nat.add_zero, Nat.reduceEqDiff, if_true, if_false, reduceIte]))
    | (show DE _ _ _ _ _ _ _ _ _ _ _ _; apply e_gs; exact rfl; exact rfl; exact rfl; exact rfl; all_goals intro h)
    | (show AW _ _ _ _ _ _ _ _; first | refine aw_region ?_ | (refine aw_seqk ?_; intro K hK) | refine aw_block ?_ | (apply aw_cond_t; exact rfl; exact rfl) | (apply aw_cond_t; exact rfl; exact (by assumption)) | refine aw_ret ?_ | refine aw_skip ?_ | refine aw_drawE (id := 4) [0, 0, 3, 7, 15, 31, 63, 127, 255, 511, 511, 1535, 4095, 8191, 16383, 511, 511, 98815, 229887, 492031, 1048575, 2097151, 4194303] [0, 0, 0, 1, 0, 0, 0, 0, 0, 0, 0, 0, 0, 0, 1, 0, 0, 0, 0, 1, 0, 0, 0] mixed (by kernel_rfl) ?_ | (apply aw_ite; exact rfl; all_goals intro h))
    | refine thn_n ?_
    | (refine hK _ _ _ ?_; clear hK K)
    | refine thn_r ?_
    | refine inb_r ?_)); all_goals (repeat (clear hK K)))
      · refine fin_r (fin_b rfl ?_)
        refine (holdB_false c2 ?_).symm
        simp_all [goodAt]
      · -- the licences before it
        refine aw_loop (ρ := id) (ι := Nat) (fun q => ([(4, .v (.int .i64 q)), (3, .v (.int .i64 i)), (0, .dsl 11 (xs.map licL))], [], 0))
          (fun q => q ≤ i ∧ ∀ y ∈ xs.take q, clB xs[i] y = false) (fun q => i - q) 0 ⟨Nat.zero_le _, by simp⟩ ⟨⟨lk_i rfl rfl, lk_i rfl rfl, lk_d rfl rfl, trivial⟩, trivial, rfl, pin_0⟩ ?_
        rintro q ⟨hq, hcl⟩
        by_cases c4 : q < i
        · have b4 : decide ((q : Int) < (i : Int)) = true := by simpa using c4
          have c5 : q < xs.length := by omega
          have hrowq : (xs.map licL)[((q : Int)).toNat]? = some (licL xs[q]) := by simp [c5]
          by_cases c6 : clB xs[i] xs[q] = true
          · ((repeat' (first
    | (show SQ _ _ _ _ _ _ _ _; first | apply sq_nil | (apply q_move; exact rfl; exact rfl) | (apply q_assign; exact rfl; exact rfl) | (apply q_lss; exact rfl; exact rfl; exact rfl))
    | (show DE _ _ _ _ _ _ _ _ _ _ _ _; first | (apply e_move; exact rfl; exact rfl; exact rfl) | (apply e_ixd; exact rfl; exact rfl; exact rfl; exact (ty rfl); exact rfl; exact (by first | omega | (simp; done) | (simp; omega)); exact (by first | omega | (simp; done) | (simp; omega)); exact (by first | rfl | assumption); exact rfl))
    | (show DE _ _ _ _ _ _ _ _ _ _ _ _; (first | (apply dr_nil; exact rfl) | (apply e_callU; exact rfl; exact rfl; exact rfl; exact FzL.of rfl; exact l26Clash_ro xs[i] xs[q] _; exact rfl)); (try simp only [put, rowsOf, plR, List.all_cons, selE, ovr, setH, del, cellsA, splice, isV, List.nil_append, List.cons_append, List.map_cons, List.map_nil, List.length_cons, List.length_nil, List.set_cons_zero, List.set_cons_succ, List.take_succ_cons, List.take_zero, List.take_nil, List.drop_succ_cons, List.drop_zero, List.drop_nil, List.append_nil, List.all_cons, List.all_nil, Bool.and_true, Bool.true_and, Bool.and_false, Bool.false_and, Nat.reduceAdd, Nat.zero_add, Nat.add_zero, Nat.reduceEqDiff, if_true, if_false, reduceIte]))
    | (show AW _ _ _ _ _ _ _ _; first | refine aw_region ?_ | (refine aw_seqk ?_; intro K hK) | refine aw_block ?_ | (apply aw_cond_t; exact rfl; exact (by assumption)) | refine aw_ret ?_ | refine aw_skip ?_ | refine aw_drawE (id := 9) [0, 0, 3, 0, 0, 24, 63] [0, 0, 0, 0, 0, 0, 1] mixed (by kernel_rfl) ?_)
    | refine thn_n ?_
    | (refine hK _ _ _ ?_; clear hK K)
    | refine thn_r ?_
    | refine inb_r ?_)); all_goals (repeat (clear hK K)))
            all_goals refine fin_r (fin_b rfl ?_)
            refine (holdB_false c2 ?_).symm
            rw [goodAt, hD, List.any_eq_true.2 ⟨xs[q], List.mem_take_iff_getElem.2 ⟨q, by omega, rfl⟩, c6⟩]
            simp
          · have c6 : clB xs[i] xs[q] = false := by simpa using c6
            ((repeat' (first
    | (show SQ _ _ _ _ _ _ _ _; first | apply sq_nil | (apply q_move; exact rfl; exact rfl) | (apply q_assign; exact rfl; exact rfl) | (apply q_add; exact rfl; exact rfl; exact rfl) | (apply q_lss; exact rfl; exact rfl; exact rfl))
    | (show DE _ _ _ _ _ _ _ _ _ _ _ _; first | (apply e_move; exact rfl; exact rfl; exact rfl) | (apply e_ixd; exact rfl; exact rfl; exact rfl; exact (ty rfl); exact rfl; exact (by first | omega | (simp; done) | (simp; omega)); exact (by first | omega | (simp; done) | (simp; omega)); exact (by first | rfl | assumption); exact rfl))
    | (show DE _ _ _ _ _ _ _ _ _ _ _ _; (first | (apply dr_nil; exact rfl) | (apply e_callU; exact rfl; exact rfl; exact rfl; exact FzL.of rfl; exact l26Clash_ro xs[i] xs[q] _; exact rfl)); (try simp only [put, rowsOf, plR, List.all_cons, selE, ovr, setH, del, cellsA, splice, isV, List.nil_append, List.cons_append, List.map_cons, List.map_nil, List.length_cons, List.length_nil, List.set_cons_zero, List.set_cons_succ, List.take_succ_cons, List.take_zero, List.take_nil, List.drop_succ_cons, List.drop_zero, List.drop_nil, List.append_nil, List.all_cons, List.all_nil, Bool.and_true, Bool.true_and, Bool.and_false, Bool.false_and, Nat.reduceAdd, Nat.zero_add, Nat.add_zero, Nat.reduceEqDiff, if_true, if_false, reduceIte]))
    | (show AW _ _ _ _ _ _ _ _; first | refine aw_region ?_ | (refine aw_seqk ?_; intro K hK) | refine aw_block ?_ | (apply aw_cond_t; exact rfl; exact (by assumption)) | (apply aw_cond_f; exact rfl; exact (by assumption)) | refine aw_skip ?_ | refine aw_drawE (id := 9) [0, 0, 3, 0, 0, 24, 63] [0, 0, 0, 0, 0, 0, 1] mixed (by kernel_rfl) ?_)
    | refine thn_n ?_
    | (refine hK _ _ _ ?_; clear hK K)
    | refine inb_n ?_)); all_goals (repeat (clear hK K)))
            refine ⟨q + 1, id, ⟨c4, take_succ_all c5 hcl c6⟩, by omega, ⟨lk_i rfl (by rw [IntWalk.i64_in _ (by omega)]; rfl), lk_i rfl rfl, lk_d rfl rfl, trivial⟩, trivial, rfl, pin_0⟩
        · have b4 : decide ((q : Int) < (i : Int)) = false := by simpa using c4
          have : q = i := by omega
          subst this
          ((repeat' (first
    | (show SQ _ _ _ _ _ _ _ _; first | apply sq_nil | (apply q_move; exact rfl; exact rfl) | (apply q_assign; exact rfl; exact rfl) | (apply q_add; exact rfl; exact rfl; exact rfl) | (apply q_lss; exact rfl; exact rfl; exact rfl))
    | (show AW _ _ _ _ _ _ _ _; first | refine aw_region ?_ | (refine aw_seqk ?_; intro K hK) | (apply aw_cond_f; exact rfl; exact (by assumption)) | refine aw_exit ?_)
    | refine thn_n ?_
    | (refine hK _ _ _ ?_; clear hK K)
    | refine thn_e ?_
    | refine inb_same ?_
    | refine inb_n ?_
    | (clear hK K; refine hK _ _ _ ?_; clear hK K))); all_goals (repeat (clear hK K)))
          refine ⟨q + 1, id, ⟨c2, fun j hj => ?_⟩, by omega, ⟨lk_i rfl (by rw [IntWalk.i64_in _ (by omega)]; rfl), lk_d rfl rfl, trivial⟩, trivial, rfl, pin_0⟩
          by_cases hjq : j < q
          · exact hg j hjq
          · have : j = q := by omega
            subst this
            rw [goodAt, hD, List.any_eq_false.2 (fun y hy => by rw [hcl y hy]; simp)]
            simp_all
      · refine fin_r (fin_b rfl ?_)
        refine (holdB_false c2 ?_).symm
        simp_all [goodAt]
  · have b2 : decide ((i : Int) < ((xs.map licL).length : Int)) = false := by simpa using c2
    ((repeat' (first
    | (show SQ _ _ _ _ _ _ _ _; first | apply sq_nil | (apply q_move; exact rfl; exact rfl) | (apply q_assign; exact rfl; exact rfl) | (apply q_lend; exact rfl; exact rfl; exact (ty rfl); exact rfl) | (apply q_lss; exact rfl; exact rfl; exact rfl) | (apply q_leq; exact rfl; exact rfl; exact rfl))
    | (show AW _ _ _ _ _ _ _ _; first | refine aw_region ?_ | (refine aw_seqk ?_; intro K hK) | (apply aw_cond_f; exact rfl; exact (by assumption)) | refine aw_ret ?_ | refine aw_exit ?_)
    | refine thn_n ?_
    | (refine hK _ _ _ ?_; clear hK K)
    | refine thn_e ?_
    | refine inb_same ?_
    | (clear hK K; refine hK _ _ _ ?_; clear hK K))); all_goals (repeat (clear hK K)))
    all_goals refine fin_r (fin_b rfl ?_)
    have : i = xs.length := by omega
    subst this
    rw [holdB, allR_true hg, Bool.and_true, List.length_map, decide_eq_decide]
    omega
end Go.Proofs.Ytiificaolakgdaa.Li
