/-
  A licence divided at a frequency, the program's.
-/
import Derived.Test.YtiificaolakgdaaLnK
import Derived.Test.YtiificaolakgdaaLnF
namespace Go.Proofs.Ytiificaolakgdaa.Li
open Go Go.RowKit Go.Proofs.Ytiificaolakgdaa.Aw Go.Proofs.Ytiificaolakgdaa.Ar
set_option linter.unusedSimpArgs false
set_option linter.unusedVariables false
attribute [local irreducible] AW SQ Step RO RC DE Thn InB

def bA (l : Lic) (q : Int) : Lic := { l with hi := q }
def bB (l : Lic) (q : Int) (t : ByteArray) : Lic := { l with id := t, lo := q }
theorem SplitBand_impl (xs : List Lic) (s t : ByteArray) (q : Int) (m : Nat) (hs : ∀ l ∈ xs, l.sm) (hn : xs.length ≤ 1048576) (ht : t.size ≤ 9223372036854775807) (c0 : twoC xs s t = 0) (hm : ixOf (idP s) xs = (m : Int)) (hml : m < xs.length) :
    (q ≤ xs[m].lo ∨ xs[m].hi ≤ q → ErrR 15 [.dsl 11 (xs.map licL), .v (.string s), .v (.int .i64 q), .v (.string t)] 2) ∧
    (¬ q ≤ xs[m].lo → ¬ xs[m].hi ≤ q → ∃ a, AtP (xs.set m (bA xs[m] q)) (bB xs[m] q t) a ∧ OkR 15 [.dsl 11 (xs.map licL), .v (.string s), .v (.int .i64 q), .v (.string t)] (insL (xs.set m (bA xs[m] q)) a (bB xs[m] q t))) := by
  have hl : (xs.map licL).length = xs.length := List.length_map _
  have hCode := splitCode_ro xs s t hs hn ht
  rw [c0] at hCode
  have b0 : ((0 : Int) != 0) = false := rfl
  obtain ⟨c1, c2, c3, c4, c5⟩ := twoC_ok c0
  have hP := (holdP_iff xs).1 c1
  have hE : (xs.eraseIdx m).length = xs.length - 1 := by rw [List.length_eraseIdx, if_pos hml]
  have hIF := licenceAt_ro xs s hn
  rw [hm] at hIF
  have hok := hP.ok m hml
  have bd : 1 ≤ xs[m].lo ∧ xs[m].lo ≤ 100000000 ∧ 1 ≤ xs[m].hi ∧ xs[m].hi ≤ 100000000 ∧ 0 ≤ xs[m].fr ∧ xs[m].fr ≤ xs[m].un ∧ xs[m].un ≤ 99999 := by
    unfold licB inB at hok
    simp only [Bool.and_eq_true, decide_eq_true_eq] at hok
    omega
  have hrow : (xs.map licL)[((m : Int)).toNat]? = some (licL xs[m]) := by simp [hml]
  have hr2 : (xs.map licL)[0 + ((m : Int)).toNat]? = some (licL xs[m]) := by simp [hml]
  rw [licL_eq xs[m]] at hrow hr2
  have hlen : ((m : Int)).toNat < (xs.map licL).length := by simpa using hml
  have hin : inB q (IntKind.i64.wrap (xs[m].lo + 1)) (IntKind.i64.wrap (xs[m].hi - 1)) = (!(decide (q ≤ xs[m].lo) || decide (xs[m].hi ≤ q))) := by
    unfold inB
    rw [IntWalk.i64_in _ (by omega), IntWalk.i64_in _ (by omega)]
    rw [Bool.eq_iff_iff]
    simp
    omega
  refine ⟨fun e k => ?_, fun e1 e2 => ?_⟩
  · have b2 : (!inB q (IntKind.i64.wrap (xs[m].lo + 1)) (IntKind.i64.wrap (xs[m].hi - 1))) = true := by
      rw [hin]
      rcases e with e | e
      · rw [show decide (q ≤ xs[m].lo) = true by simpa using e]; rfl
      · rw [show decide (xs[m].hi ≤ q) = true by simpa using e, Bool.or_true]; rfl
    refine RO.ofp Try.func15 Try.ntmps15 rfl (goFn_of Try.func15 rfl (by kernel_rfl)) rfl rfl rfl ?_
    ((repeat' (first
    | (show SQ _ _ _ _ _ _ _ _; first | apply sq_nil | (apply q_move; exact rfl; exact rfl) | (apply q_assign; exact rfl; exact rfl) | (apply q_neq; exact rfl; exact rfl; exact rfl))
    | (show SQ _ _ _ _ _ _ _ _; (first | (apply q_callU; exact rfl; exact rfl; exact rfl; exact FzL.of rfl; exact hCode _) | (apply q_callU; exact rfl; exact rfl; exact rfl; exact FzL.of rfl; exact hIF _)); (try simp only [put, rowsOf, plR, List.all_cons, selE, ovr, setH, del, cellsA, splice, isV, List.nil_append, List.cons_append, List.map_cons, List.map_nil, List.length_cons, List.length_nil, List.set_cons_zero, List.set_cons_succ, List.take_succ_cons, List.take_zero, List.take_nil, List.drop_succ_cons, List.drop_zero, List.drop_nil, List.append_nil, List.all_cons, List.all_nil, Bool.and_true, Bool.true_and, Bool.and_false, Bool.false_and, Nat.reduceAdd, Nat.zero_add, Nat.add_zero, Nat.reduceEqDiff, if_true, if_false, reduceIte]))
    | (show DE _ _ _ _ _ _ _ _ _ _ _ _; first | (apply e_move; exact rfl; exact rfl; exact rfl) | (apply e_fieldAddr; exact rfl; exact rfl; exact (ty rfl); exact rfl; exact rfl; exact rfl; exact rfl; exact rfl) | (apply e_not; exact rfl; exact rfl; exact rfl) | (apply e_add; exact rfl; exact rfl; exact rfl; exact rfl) | (apply e_sub; exact rfl; exact rfl; exact rfl; exact rfl) | (apply e_ixd; exact rfl; exact rfl; exact rfl; exact (ty rfl); exact rfl; exact (by first | omega | (simp; done) | (simp; omega)); exact (by first | omega | (simp; done) | (simp; omega)); exact (by first | rfl | assumption); exact rfl) | (apply e_ld1d; exact rfl; exact rfl; exact (ty rfl); exact rfl; exact rfl; exact rfl))
    | (show DE _ _ _ _ _ _ _ _ _ _ _ _; (first | (apply dr_nil; exact rfl) | (apply e_callU; exact rfl; exact rfl; exact rfl; exact FzL.of rfl; exact within_ro _ _ _ _; exact rfl)); (try simp only [put, rowsOf, plR, List.all_cons, selE, ovr, setH, del, cellsA, splice, isV, List.nil_append, List.cons_append, List.map_cons, List.map_nil, List.length_cons, List.length_nil, List.set_cons_zero, List.set_cons_succ, List.take_succ_cons, List.take_zero, List.take_nil, List.drop_succ_cons, List.drop_zero, List.drop_nil, List.append_nil, List.all_cons, List.all_nil, Bool.and_true, Bool.true_and, Bool.and_false, Bool.false_and, Nat.reduceAdd, Nat.zero_add, Nat.add_zero, Nat.reduceEqDiff, if_true, if_false, reduceIte]))
    | (show AW _ _ _ _ _ _ _ _; first | refine aw_region ?_ | (refine aw_seqk ?_; intro K hK) | (apply aw_cond_f; exact rfl; exact rfl) | (apply aw_cond_t; exact rfl; exact (by assumption)) | refine aw_ret ?_ | refine aw_skip ?_ | refine aw_drawE (id := 5) [0, 0, 0, 6, 14, 30, 62, 0, 0, 384, 896, 1920, 3968, 8191, 16383] [0, 0, 0, 0, 0, 1, 0, 0, 0, 0, 0, 1, 0, 1, 0] mixed (by kernel_rfl) ?_)
    | refine thn_n ?_
    | (refine hK _ _ _ ?_; clear hK K)
    | refine thn_r ?_)); all_goals (repeat (clear hK K)))
    all_goals (refine fin_r (fin_p (.r2 _ _ _ _ (.tmp _ _ rfl) (.tmp _ _ rfl)) ?_ rfl rfl rfl); rfl)
  · have b1 : decide (q ≤ xs[m].lo) = false := by simpa using e1
    have b3 : decide (xs[m].hi ≤ q) = false := by simpa using e2
    have b2 : (!inB q (IntKind.i64.wrap (xs[m].lo + 1)) (IntKind.i64.wrap (xs[m].hi - 1))) = false := by rw [hin, b1, b3]; rfl
    obtain ⟨a, ha⟩ := at_ex hP (bB xs[m] q t) (fun j hj => ixOf_lt' (idP t) xs c4 j hj)
    have ha' := at_set (y := bA xs[m] q) ha hml rfl
    have hsl : (xs.set m (bA xs[m] q)).length = xs.length := by simp
    have hil := insL_len ha'.le (bB xs[m] q t)
    have hWL := withLicence_ro (xs.set m (bA xs[m] q)) (bB xs[m] q t) a ha' (by simpa using hn)
    have hA2 : licL (bA xs[m] q) = [.v (.string xs[m].id), .v (.string xs[m].ho), .v (.int .i64 xs[m].lo), .v (.int .i64 q), .v (.int .i64 xs[m].x), .v (.int .i64 xs[m].y), .v (.int .i64 xs[m].e), .v (.int .i64 xs[m].n), .v (.int .i64 xs[m].fr), .v (.int .i64 xs[m].un), .v (.int .i64 xs[m].po)] := rfl
    have hB2 : licL (bB xs[m] q t) = [.v (.string t), .v (.string xs[m].ho), .v (.int .i64 q), .v (.int .i64 xs[m].hi), .v (.int .i64 xs[m].x), .v (.int .i64 xs[m].y), .v (.int .i64 xs[m].e), .v (.int .i64 xs[m].n), .v (.int .i64 xs[m].fr), .v (.int .i64 xs[m].un), .v (.int .i64 xs[m].po)] := rfl
    have hset : (xs.set m (bA xs[m] q)).map licL = (xs.map licL).set ((m : Int)).toNat [.v (.string xs[m].id), .v (.string xs[m].ho), .v (.int .i64 xs[m].lo), .v (.int .i64 q), .v (.int .i64 xs[m].x), .v (.int .i64 xs[m].y), .v (.int .i64 xs[m].e), .v (.int .i64 xs[m].n), .v (.int .i64 xs[m].fr), .v (.int .i64 xs[m].un), .v (.int .i64 xs[m].po)] := by
      rw [List.map_set]; rfl
    rw [hB2] at hWL
    rw [hset] at hWL
    refine ⟨a, ha', fun k => ?_⟩
    refine RO.ofm (.tup [.sl 0 0 (insL (xs.set m (bA xs[m] q)) a (bB xs[m] q t)).length, .v (.int .i64 0)]) ([(0, ⟨29, 11, true, (insL (xs.set m (bA xs[m] q)) a (bB xs[m] q t)).map licL⟩)]) 1 Try.func15 Try.ntmps15 rfl (goFn_of Try.func15 rfl (by kernel_rfl)) rfl rfl (by simp [renA, renL]) (by simp [shH, renB]) rfl ?_
    ((repeat' (first
    | (show SQ _ _ _ _ _ _ _ _; first | apply sq_nil | (apply q_move; exact rfl; exact rfl) | (apply q_assign; exact rfl; exact rfl) | (apply q_fieldAddr; exact rfl; exact rfl; exact (ty rfl); exact rfl; exact rfl; exact rfl; exact rfl) | (apply q_neq; exact rfl; exact rfl; exact rfl) | (apply q_ixl; exact rfl; exact rfl; exact rfl; exact (ty rfl); exact rfl; exact rfl; exact rfl; exact (by first | omega | (simp; done) | (simp; omega)); exact (by first | omega | (simp; done) | (simp; omega))))
    | (show SQ _ _ _ _ _ _ _ _; (first | (apply q_ldap; exact rfl; exact rfl; exact (ty rfl); exact rfl; exact rfl; exact (by first | rfl | assumption | ((try simp only [Nat.zero_add]); refine List.getElem?_set_self ?_; (try simp only [List.length_set]); assumption)); exact rfl) | (apply q_alloc; exact rfl; exact (ty rfl); exact rfl; exact rfl) | (apply q_store; exact rfl; exact rfl; exact (ty rfl); exact rfl; exact (by first | rfl | assumption | ((try simp only [Nat.zero_add]); refine List.getElem?_set_self ?_; (try simp only [List.length_set]); assumption)); exact rfl; exact rfl; exact rfl) | (apply q_callU; exact rfl; exact rfl; exact rfl; exact FzL.of rfl; exact hCode _) | (apply q_callU; exact rfl; exact rfl; exact rfl; exact FzL.of rfl; exact hIF _) | (apply q_callU; exact rfl; exact rfl; exact rfl; exact FzL.of rfl; exact Clone_ro xs (by omega) hn _) | (apply q_callU; exact rfl; exact rfl; exact rfl; rotate_left; exact hWL _; rotate_right; focus ((repeat' (first | exact FzL.nil | exact (by assumption : FzC _) _ | refine FzL.cons ?_ ?_ | exact Fz.of rfl | exact Fz.nil | exact Fz.emp | (apply Fz.fnC; assumption) | (apply Fz.sl2; exact rfl; exact (by first | omega | (simp; done) | (simp; omega)); first | exact rfl | exact dt_full (by first | omega | (simp; done) | (simp; omega)) | assumption) | apply Fz.agg | (apply Fz.ptrL; exact rfl; first | exact rfl | assumption) | apply Fz.fnL)); done))); (try simp only [put, rowsOf, plR, List.all_cons, selE, ovr, setH, del, cellsA, splice, isV, List.nil_append, List.cons_append, List.map_cons, List.map_nil, List.length_cons, List.length_nil, List.set_cons_zero, List.set_cons_succ, List.take_succ_cons, List.take_zero, List.take_nil, List.drop_succ_cons, List.drop_zero, List.drop_nil, List.append_nil, List.all_cons, List.all_nil, Bool.and_true, Bool.true_and, Bool.and_false, Bool.false_and, Nat.reduceAdd, Nat.zero_add, Nat.add_zero, Nat.reduceEqDiff, if_true, if_false, reduceIte]))
    | (show DE _ _ _ _ _ _ _ _ _ _ _ _; first | (apply e_move; exact rfl; exact rfl; exact rfl) | (apply e_fieldAddr; exact rfl; exact rfl; exact (ty rfl); exact rfl; exact rfl; exact rfl; exact rfl; exact rfl) | (apply e_not; exact rfl; exact rfl; exact rfl) | (apply e_add; exact rfl; exact rfl; exact rfl; exact rfl) | (apply e_sub; exact rfl; exact rfl; exact rfl; exact rfl) | (apply e_ixd; exact rfl; exact rfl; exact rfl; exact (ty rfl); exact rfl; exact (by first | omega | (simp; done) | (simp; omega)); exact (by first | omega | (simp; done) | (simp; omega)); exact (by first | rfl | assumption); exact rfl) | (apply e_ld1d; exact rfl; exact rfl; exact (ty rfl); exact rfl; exact rfl; exact rfl))
    | (show DE _ _ _ _ _ _ _ _ _ _ _ _; (first | (apply dr_nil; exact rfl) | (apply e_callU; exact rfl; exact rfl; exact rfl; exact FzL.of rfl; exact within_ro _ _ _ _; exact rfl)); (try simp only [put, rowsOf, plR, List.all_cons, selE, ovr, setH, del, cellsA, splice, isV, List.nil_append, List.cons_append, List.map_cons, List.map_nil, List.length_cons, List.length_nil, List.set_cons_zero, List.set_cons_succ, List.take_succ_cons, List.take_zero, List.take_nil, List.drop_succ_cons, List.drop_zero, List.drop_nil, List.append_nil, List.all_cons, List.all_nil, Bool.and_true, Bool.true_and, Bool.and_false, Bool.false_and, Nat.reduceAdd, Nat.zero_add, Nat.add_zero, Nat.reduceEqDiff, if_true, if_false, reduceIte]))
    | (show AW _ _ _ _ _ _ _ _; first | refine aw_region ?_ | (refine aw_seqk ?_; intro K hK) | (apply aw_cond_f; exact rfl; exact rfl) | (apply aw_cond_f; exact rfl; exact (by assumption)) | refine aw_ret ?_ | refine aw_skip ?_ | refine aw_drawE (id := 5) [0, 0, 0, 6, 14, 30, 62, 0, 0, 384, 896, 1920, 3968, 8191, 16383] [0, 0, 0, 0, 0, 1, 0, 0, 0, 0, 0, 1, 0, 1, 0] mixed (by kernel_rfl) ?_)
    | refine thn_n ?_
    | (refine hK _ _ _ ?_; clear hK K))); all_goals (repeat (clear hK K)))
    exact fin_r (fin_m2 rfl rfl rfl _ _ (by rw [hil]) rfl rfl)
end Go.Proofs.Ytiificaolakgdaa.Li

-- A licence divided at a day, the program's.
namespace Go.Proofs.Ytiificaolakgdaa.Li
open Go Go.RowKit Go.Proofs.Ytiificaolakgdaa.Aw Go.Proofs.Ytiificaolakgdaa.Ar
set_option linter.unusedSimpArgs false
set_option linter.unusedVariables false
attribute [local irreducible] AW SQ Step RO RC DE Thn InB

def dA (l : Lic) (q : Int) : Lic := { l with un := IntKind.i64.wrap (q - 1) }
def dB (l : Lic) (q : Int) (t : ByteArray) : Lic := { l with id := t, fr := q }
theorem SplitDays_impl (xs : List Lic) (s t : ByteArray) (q : Int) (m : Nat) (hs : ∀ l ∈ xs, l.sm) (hn : xs.length ≤ 1048576) (ht : t.size ≤ 9223372036854775807) (c0 : twoC xs s t = 0) (hm : ixOf (idP s) xs = (m : Int)) (hml : m < xs.length) :
    (q ≤ xs[m].fr ∨ xs[m].un < q → ErrR 17 [.dsl 11 (xs.map licL), .v (.string s), .v (.int .i64 q), .v (.string t)] 2) ∧
    (¬ q ≤ xs[m].fr → ¬ xs[m].un < q → ∃ a, AtP (xs.set m (dA xs[m] q)) (dB xs[m] q t) a ∧ OkR 17 [.dsl 11 (xs.map licL), .v (.string s), .v (.int .i64 q), .v (.string t)] (insL (xs.set m (dA xs[m] q)) a (dB xs[m] q t))) := by
  have hl : (xs.map licL).length = xs.length := List.length_map _
  have hCode := splitCode_ro xs s t hs hn ht
  rw [c0] at hCode
  have b0 : ((0 : Int) != 0) = false := rfl
  obtain ⟨c1, c2, c3, c4, c5⟩ := twoC_ok c0
  have hP := (holdP_iff xs).1 c1
  have hE : (xs.eraseIdx m).length = xs.length - 1 := by rw [List.length_eraseIdx, if_pos hml]
  have hIF := licenceAt_ro xs s hn
  rw [hm] at hIF
  have hok := hP.ok m hml
  have bd : 1 ≤ xs[m].lo ∧ xs[m].lo ≤ 100000000 ∧ 1 ≤ xs[m].hi ∧ xs[m].hi ≤ 100000000 ∧ 0 ≤ xs[m].fr ∧ xs[m].fr ≤ xs[m].un ∧ xs[m].un ≤ 99999 := by
    unfold licB inB at hok
    simp only [Bool.and_eq_true, decide_eq_true_eq] at hok
    omega
  have hrow : (xs.map licL)[((m : Int)).toNat]? = some (licL xs[m]) := by simp [hml]
  have hr2 : (xs.map licL)[0 + ((m : Int)).toNat]? = some (licL xs[m]) := by simp [hml]
  rw [licL_eq xs[m]] at hrow hr2
  have hlen : ((m : Int)).toNat < (xs.map licL).length := by simpa using hml
  have hin : inB q (IntKind.i64.wrap (xs[m].fr + 1)) (xs[m].un) = (!(decide (q ≤ xs[m].fr) || decide (xs[m].un < q))) := by
    unfold inB
    rw [IntWalk.i64_in _ (by omega)]
    rw [Bool.eq_iff_iff]
    simp
    omega
  refine ⟨fun e k => ?_, fun e1 e2 => ?_⟩
  · have b2 : (!inB q (IntKind.i64.wrap (xs[m].fr + 1)) (xs[m].un)) = true := by
      rw [hin]
      rcases e with e | e
      · rw [show decide (q ≤ xs[m].fr) = true by simpa using e]; rfl
      · rw [show decide (xs[m].un < q) = true by simpa using e, Bool.or_true]; rfl
    refine RO.ofp Try.func17 Try.ntmps17 rfl (goFn_of Try.func17 rfl (by kernel_rfl)) rfl rfl rfl ?_
    ((repeat' (first
    | (show SQ _ _ _ _ _ _ _ _; first | apply sq_nil | (apply q_move; exact rfl; exact rfl) | (apply q_assign; exact rfl; exact rfl) | (apply q_neq; exact rfl; exact rfl; exact rfl))
    | (show SQ _ _ _ _ _ _ _ _; (first | (apply q_callU; exact rfl; exact rfl; exact rfl; exact FzL.of rfl; exact hCode _) | (apply q_callU; exact rfl; exact rfl; exact rfl; exact FzL.of rfl; exact hIF _)); (try simp only [put, rowsOf, plR, List.all_cons, selE, ovr, setH, del, cellsA, splice, isV, List.nil_append, List.cons_append, List.map_cons, List.map_nil, List.length_cons, List.length_nil, List.set_cons_zero, List.set_cons_succ, List.take_succ_cons, List.take_zero, List.take_nil, List.drop_succ_cons, List.drop_zero, List.drop_nil, List.append_nil, List.all_cons, List.all_nil, Bool.and_true, Bool.true_and, Bool.and_false, Bool.false_and, Nat.reduceAdd, Nat.zero_add, Nat.add_zero, Nat.reduceEqDiff, if_true, if_false, reduceIte]))
    | (show DE _ _ _ _ _ _ _ _ _ _ _ _; first | (apply e_move; exact rfl; exact rfl; exact rfl) | (apply e_fieldAddr; exact rfl; exact rfl; exact (ty rfl); exact rfl; exact rfl; exact rfl; exact rfl; exact rfl) | (apply e_not; exact rfl; exact rfl; exact rfl) | (apply e_add; exact rfl; exact rfl; exact rfl; exact rfl) | (apply e_ixd; exact rfl; exact rfl; exact rfl; exact (ty rfl); exact rfl; exact (by first | omega | (simp; done) | (simp; omega)); exact (by first | omega | (simp; done) | (simp; omega)); exact (by first | rfl | assumption); exact rfl) | (apply e_ld1d; exact rfl; exact rfl; exact (ty rfl); exact rfl; exact rfl; exact rfl))
    | (show DE _ _ _ _ _ _ _ _ _ _ _ _; (first | (apply dr_nil; exact rfl) | (apply e_callU; exact rfl; exact rfl; exact rfl; exact FzL.of rfl; exact within_ro _ _ _ _; exact rfl)); (try simp only [put, rowsOf, plR, List.all_cons, selE, ovr, setH, del, cellsA, splice, isV, List.nil_append, List.cons_append, List.map_cons, List.map_nil, List.length_cons, List.length_nil, List.set_cons_zero, List.set_cons_succ, List.take_succ_cons, List.take_zero, List.take_nil, List.drop_succ_cons, List.drop_zero, List.drop_nil, List.append_nil, List.all_cons, List.all_nil, Bool.and_true, Bool.true_and, Bool.and_false, Bool.false_and, Nat.reduceAdd, Nat.zero_add, Nat.add_zero, Nat.reduceEqDiff, if_true, if_false, reduceIte]))
    | (show AW _ _ _ _ _ _ _ _; first | refine aw_region ?_ | (refine aw_seqk ?_; intro K hK) | (apply aw_cond_f; exact rfl; exact rfl) | (apply aw_cond_t; exact rfl; exact (by assumption)) | refine aw_ret ?_ | refine aw_skip ?_ | refine aw_drawE (id := 5) [0, 0, 0, 6, 14, 30, 62, 0, 0, 384, 896, 1920, 4095, 8191] [0, 0, 0, 0, 0, 1, 0, 0, 0, 0, 0, 1, 1, 0] mixed (by kernel_rfl) ?_)
    | refine thn_n ?_
    | (refine hK _ _ _ ?_; clear hK K)
    | refine thn_r ?_)); all_goals (repeat (clear hK K)))
    all_goals (refine fin_r (fin_p (.r2 _ _ _ _ (.tmp _ _ rfl) (.tmp _ _ rfl)) ?_ rfl rfl rfl); rfl)
  · have b1 : decide (q ≤ xs[m].fr) = false := by simpa using e1
    have b3 : decide (xs[m].un < q) = false := by simpa using e2
    have b2 : (!inB q (IntKind.i64.wrap (xs[m].fr + 1)) (xs[m].un)) = false := by rw [hin, b1, b3]; rfl
    obtain ⟨a, ha⟩ := at_ex hP (dB xs[m] q t) (fun j hj => ixOf_lt' (idP t) xs c4 j hj)
    have ha' := at_set (y := dA xs[m] q) ha hml rfl
    have hsl : (xs.set m (dA xs[m] q)).length = xs.length := by simp
    have hil := insL_len ha'.le (dB xs[m] q t)
    have hWL := withLicence_ro (xs.set m (dA xs[m] q)) (dB xs[m] q t) a ha' (by simpa using hn)
    have hA2 : licL (dA xs[m] q) = [.v (.string xs[m].id), .v (.string xs[m].ho), .v (.int .i64 xs[m].lo), .v (.int .i64 xs[m].hi), .v (.int .i64 xs[m].x), .v (.int .i64 xs[m].y), .v (.int .i64 xs[m].e), .v (.int .i64 xs[m].n), .v (.int .i64 xs[m].fr), .v (.int .i64 (IntKind.i64.wrap (q - 1))), .v (.int .i64 xs[m].po)] := rfl
    have hB2 : licL (dB xs[m] q t) = [.v (.string t), .v (.string xs[m].ho), .v (.int .i64 xs[m].lo), .v (.int .i64 xs[m].hi), .v (.int .i64 xs[m].x), .v (.int .i64 xs[m].y), .v (.int .i64 xs[m].e), .v (.int .i64 xs[m].n), .v (.int .i64 q), .v (.int .i64 xs[m].un), .v (.int .i64 xs[m].po)] := rfl
    have hset : (xs.set m (dA xs[m] q)).map licL = (xs.map licL).set ((m : Int)).toNat [.v (.string xs[m].id), .v (.string xs[m].ho), .v (.int .i64 xs[m].lo), .v (.int .i64 xs[m].hi), .v (.int .i64 xs[m].x), .v (.int .i64 xs[m].y), .v (.int .i64 xs[m].e), .v (.int .i64 xs[m].n), .v (.int .i64 xs[m].fr), .v (.int .i64 (IntKind.i64.wrap (q - 1))), .v (.int .i64 xs[m].po)] := by
      rw [List.map_set]; rfl
    rw [hB2] at hWL
    rw [hset] at hWL
    refine ⟨a, ha', fun k => ?_⟩
    refine RO.ofm (.tup [.sl 0 0 (insL (xs.set m (dA xs[m] q)) a (dB xs[m] q t)).length, .v (.int .i64 0)]) ([(0, ⟨29, 11, true, (insL (xs.set m (dA xs[m] q)) a (dB xs[m] q t)).map licL⟩)]) 1 Try.func17 Try.ntmps17 rfl (goFn_of Try.func17 rfl (by kernel_rfl)) rfl rfl (by simp [renA, renL]) (by simp [shH, renB]) rfl ?_
    ((repeat' (first
    | (show SQ _ _ _ _ _ _ _ _; first | apply sq_nil | (apply q_move; exact rfl; exact rfl) | (apply q_assign; exact rfl; exact rfl) | (apply q_fieldAddr; exact rfl; exact rfl; exact (ty rfl); exact rfl; exact rfl; exact rfl; exact rfl) | (apply q_sub; exact rfl; exact rfl; exact rfl) | (apply q_neq; exact rfl; exact rfl; exact rfl) | (apply q_ixl; exact rfl; exact rfl; exact rfl; exact (ty rfl); exact rfl; exact rfl; exact rfl; exact (by first | omega | (simp; done) | (simp; omega)); exact (by first | omega | (simp; done) | (simp; omega))))
    | (show SQ _ _ _ _ _ _ _ _; (first | (apply q_ldap; exact rfl; exact rfl; exact (ty rfl); exact rfl; exact rfl; exact (by first | rfl | assumption | ((try simp only [Nat.zero_add]); refine List.getElem?_set_self ?_; (try simp only [List.length_set]); assumption)); exact rfl) | (apply q_alloc; exact rfl; exact (ty rfl); exact rfl; exact rfl) | (apply q_store; exact rfl; exact rfl; exact (ty rfl); exact rfl; exact (by first | rfl | assumption | ((try simp only [Nat.zero_add]); refine List.getElem?_set_self ?_; (try simp only [List.length_set]); assumption)); exact rfl; exact rfl; exact rfl) | (apply q_callU; exact rfl; exact rfl; exact rfl; exact FzL.of rfl; exact hCode _) | (apply q_callU; exact rfl; exact rfl; exact rfl; exact FzL.of rfl; exact hIF _) | (apply q_callU; exact rfl; exact rfl; exact rfl; exact FzL.of rfl; exact Clone_ro xs (by omega) hn _) | (apply q_callU; exact rfl; exact rfl; exact rfl; rotate_left; exact hWL _; rotate_right; focus ((repeat' (first | exact FzL.nil | exact (by assumption : FzC _) _ | refine FzL.cons ?_ ?_ | exact Fz.of rfl | exact Fz.nil | exact Fz.emp | (apply Fz.fnC; assumption) | (apply Fz.sl2; exact rfl; exact (by first | omega | (simp; done) | (simp; omega)); first | exact rfl | exact dt_full (by first | omega | (simp; done) | (simp; omega)) | assumption) | apply Fz.agg | (apply Fz.ptrL; exact rfl; first | exact rfl | assumption) | apply Fz.fnL)); done))); (try simp only [put, rowsOf, plR, List.all_cons, selE, ovr, setH, del, cellsA, splice, isV, List.nil_append, List.cons_append, List.map_cons, List.map_nil, List.length_cons, List.length_nil, List.set_cons_zero, List.set_cons_succ, List.take_succ_cons, List.take_zero, List.take_nil, List.drop_succ_cons, List.drop_zero, List.drop_nil, List.append_nil, List.all_cons, List.all_nil, Bool.and_true, Bool.true_and, Bool.and_false, Bool.false_and, Nat.reduceAdd, Nat.zero_add, Nat.add_zero, Nat.reduceEqDiff, if_true, if_false, reduceIte]))
    | (show DE _ _ _ _ _ _ _ _ _ _ _ _; first | (apply e_move; exact rfl; exact rfl; exact rfl) | (apply e_fieldAddr; exact rfl; exact rfl; exact (ty rfl); exact rfl; exact rfl; exact rfl; exact rfl; exact rfl) | (apply e_not; exact rfl; exact rfl; exact rfl) | (apply e_add; exact rfl; exact rfl; exact rfl; exact rfl) | (apply e_ixd; exact rfl; exact rfl; exact rfl; exact (ty rfl); exact rfl; exact (by first | omega | (simp; done) | (simp; omega)); exact (by first | omega | (simp; done) | (simp; omega)); exact (by first | rfl | assumption); exact rfl) | (apply e_ld1d; exact rfl; exact rfl; exact (ty rfl); exact rfl; exact rfl; exact rfl))
    | (show DE _ _ _ _ _ _ _ _ _ _ _ _; (first | (apply dr_nil; exact rfl) | (apply e_callU; exact rfl; exact rfl; exact rfl; exact FzL.of rfl; exact within_ro _ _ _ _; exact rfl)); (try simp only [put, rowsOf, plR, List.all_cons, selE, ovr, setH, del, cellsA, splice, isV, List.nil_append, List.cons_append, List.map_cons, List.map_nil, List.length_cons, List.length_nil, List.set_cons_zero, List.set_cons_succ, List.take_succ_cons, List.take_zero, List.take_nil, List.drop_succ_cons, List.drop_zero, List.drop_nil, List.append_nil, List.all_cons, List.all_nil, Bool.and_true, Bool.true_and, Bool.and_false, Bool.false_and, Nat.reduceAdd, Nat.zero_add, Nat.add_zero, Nat.reduceEqDiff, if_true, if_false, reduceIte]))
    | (show AW _ _ _ _ _ _ _ _; first | refine aw_region ?_ | (refine aw_seqk ?_; intro K hK) | (apply aw_cond_f; exact rfl; exact rfl) | (apply aw_cond_f; exact rfl; exact (by assumption)) | refine aw_ret ?_ | refine aw_skip ?_ | refine aw_drawE (id := 5) [0, 0, 0, 6, 14, 30, 62, 0, 0, 384, 896, 1920, 4095, 8191] [0, 0, 0, 0, 0, 1, 0, 0, 0, 0, 0, 1, 1, 0] mixed (by kernel_rfl) ?_)
    | refine thn_n ?_
    | (refine hK _ _ _ ?_; clear hK K))); all_goals (repeat (clear hK K)))
    exact fin_r (fin_m2 rfl rfl rfl _ _ (by rw [hil]) rfl rfl)
end Go.Proofs.Ytiificaolakgdaa.Li

-- A licence's last day turned: the program's.
namespace Go.Proofs.Ytiificaolakgdaa.Li
open Go Go.RowKit Go.Proofs.Ytiificaolakgdaa.Aw Go.Proofs.Ytiificaolakgdaa.Ar
set_option linter.unusedSimpArgs false
set_option linter.unusedVariables false
attribute [local irreducible] AW SQ Step RO RC DE Thn InB

def toUn (l : Lic) (u : Int) : Lic := { l with un := u }
theorem set_sm {xs : List Lic} (hs : ∀ l ∈ xs, l.sm) (m : Nat) (x : Lic) (hx : x.sm) : ∀ l ∈ xs.set m x, l.sm := fun l hl => by
  rcases List.mem_or_eq_of_mem_set hl with h | h
  · exact hs l h
  · rw [h]; exact hx
theorem any_erase {xs : List Lic} (h : HoldP xs) {m : Nat} (hm : m < xs.length) (x : Lic) (hid : x.id = xs[m].id) (hx : licB x = true) : holdB (xs.set m x) = !(xs.eraseIdx m).any (fun y => clB y x) := by
  rw [Bool.eq_iff_iff, holdP_iff, hold_set h hm x hid hx, Bool.not_eq_true', List.any_eq_false]
  constructor
  · intro hc y hy
    obtain ⟨j, hj, hne, rfl⟩ := List.mem_eraseIdx_iff_getElem.1 hy
    rw [hc j hj hne]; simp
  · intro hc j hj hne
    have := hc xs[j] (List.mem_eraseIdx_iff_getElem.2 ⟨j, hj, hne, rfl⟩)
    simpa using this
theorem implExtend (xs : List Lic) (s : ByteArray) (u : Int) (m : Nat) (hs : ∀ l ∈ xs, l.sm) (hn : xs.length ≤ 1048576) (c1 : holdB xs = true) (hm : ixOf (idP s) xs = (m : Int)) (hml : m < xs.length) (c4 : licB (toUn xs[m] u) = true) :
    (holdB (xs.set m (toUn xs[m] u)) = false → ErrR 18 [.dsl 11 (xs.map licL), .v (.string s), .v (.int .i64 u)] 6) ∧
    (holdB (xs.set m (toUn xs[m] u)) = true → OkR 18 [.dsl 11 (xs.map licL), .v (.string s), .v (.int .i64 u)] (xs.set m (toUn xs[m] u))) := by
  have hl : (xs.map licL).length = xs.length := List.length_map _
  have b1 : (!holdB xs) = false := by rw [c1]; rfl
  have b3 : decide ((m : Int) < 0) = false := by simp
  have b4 : (!licB (toUn xs[m] u)) = false := by rw [c4]; rfl
  have hIF := licenceAt_ro xs s hn
  rw [hm] at hIF
  have hr2 : (xs.map licL)[0 + ((m : Int)).toNat]? = some (licL xs[m]) := by simp [hml]
  rw [licL_eq xs[m]] at hr2
  have hlen : ((m : Int)).toNat < (xs.map licL).length := by simpa using hml
  have hsm : (toUn xs[m] u).sm := hs xs[m] (List.getElem_mem hml)
  have hV := ValidLicence_ro (toUn xs[m] u) hsm
  have hH := ValidHoldings_ro (xs.set m (toUn xs[m] u)) (set_sm hs m _ hsm) (by simpa using hn)
  have hset : (xs.set m (toUn xs[m] u)).map licL = (xs.map licL).set ((m : Int)).toNat [.v (.string xs[m].id), .v (.string xs[m].ho), .v (.int .i64 xs[m].lo), .v (.int .i64 xs[m].hi), .v (.int .i64 xs[m].x), .v (.int .i64 xs[m].y), .v (.int .i64 xs[m].e), .v (.int .i64 xs[m].n), .v (.int .i64 xs[m].fr), .v (.int .i64 u), .v (.int .i64 xs[m].po)] := by
    rw [List.map_set]; rfl
  rw [hset] at hH
  constructor
  · intro c5 k
    have b5 : (!holdB (xs.set m (toUn xs[m] u))) = true := by rw [c5]; rfl
    refine RO.ofp Try.func18 Try.ntmps18 rfl (goFn_of Try.func18 rfl (by kernel_rfl)) rfl rfl rfl ?_
    ((repeat' (first
    | (show SQ _ _ _ _ _ _ _ _; first | apply sq_nil | (apply q_move; exact rfl; exact rfl) | (apply q_assign; exact rfl; exact rfl) | (apply q_fieldAddr; exact rfl; exact rfl; exact (ty rfl); exact rfl; exact rfl; exact rfl; exact rfl) | (apply q_not; exact rfl; exact rfl) | (apply q_lss; exact rfl; exact rfl; exact rfl) | (apply q_ixl; exact rfl; exact rfl; exact rfl; exact (ty rfl); exact rfl; exact rfl; exact rfl; exact (by first | omega | (simp; done) | (simp; omega)); exact (by first | omega | (simp; done) | (simp; omega))))
    | (show SQ _ _ _ _ _ _ _ _; (first | (apply q_ldap; exact rfl; exact rfl; exact (ty rfl); exact rfl; exact rfl; exact (by first | rfl | assumption | ((try simp only [Nat.zero_add]); refine List.getElem?_set_self ?_; (try simp only [List.length_set]); assumption)); exact rfl) | (apply q_store; exact rfl; exact rfl; exact (ty rfl); exact rfl; exact (by first | rfl | assumption | ((try simp only [Nat.zero_add]); refine List.getElem?_set_self ?_; (try simp only [List.length_set]); assumption)); exact rfl; exact rfl; exact rfl) | (apply q_callU; exact rfl; exact rfl; exact rfl; exact FzL.of rfl; exact ValidHoldings_ro xs hs hn _) | (apply q_callU; exact rfl; exact rfl; exact rfl; exact FzL.of rfl; exact hIF _) | (apply q_callU; exact rfl; exact rfl; exact rfl; exact FzL.of rfl; exact Clone_ro xs (by omega) hn _) | (apply q_callU; exact rfl; exact rfl; exact rfl; exact FzL.of rfl; exact hV _) | (apply q_callU; exact rfl; exact rfl; exact rfl; rotate_left; exact hH _; rotate_right; focus ((repeat' (first | exact FzL.nil | exact (by assumption : FzC _) _ | refine FzL.cons ?_ ?_ | exact Fz.of rfl | exact Fz.nil | exact Fz.emp | (apply Fz.fnC; assumption) | (apply Fz.sl2; exact rfl; exact (by first | omega | (simp; done) | (simp; omega)); first | exact rfl | exact dt_full (by first | omega | (simp; done) | (simp; omega)) | assumption) | apply Fz.agg | (apply Fz.ptrL; exact rfl; first | exact rfl | assumption) | apply Fz.fnL)); done))); (try simp only [put, rowsOf, plR, List.all_cons, selE, ovr, setH, del, cellsA, splice, isV, List.nil_append, List.cons_append, List.map_cons, List.map_nil, List.length_cons, List.length_nil, List.set_cons_zero, List.set_cons_succ, List.take_succ_cons, List.take_zero, List.take_nil, List.drop_succ_cons, List.drop_zero, List.drop_nil, List.append_nil, List.all_cons, List.all_nil, Bool.and_true, Bool.true_and, Bool.and_false, Bool.false_and, Nat.reduceAdd, Nat.zero_add, Nat.add_zero, Nat.reduceEqDiff, if_true, if_false, reduceIte]))
    | (show AW _ _ _ _ _ _ _ _; first | refine aw_region ?_ | (refine aw_seqk ?_; intro K hK) | refine aw_block ?_ | (apply aw_cond_f; exact rfl; exact rfl) | (apply aw_cond_t; exact rfl; exact (by assumption)) | (apply aw_cond_f; exact rfl; exact (by assumption)) | refine aw_ret ?_ | refine aw_skip ?_)
    | refine thn_n ?_
    | (refine hK _ _ _ ?_; clear hK K)
    | refine thn_r ?_
    | refine inb_n ?_
    | refine inb_r ?_)); all_goals (repeat (clear hK K)))
    all_goals (refine fin_r (fin_p (.r2 _ _ _ _ (.tmp _ _ rfl) (.tmp _ _ rfl)) ?_ rfl rfl rfl); rfl)
  · intro c5 k
    have b5 : (!holdB (xs.set m (toUn xs[m] u))) = false := by rw [c5]; rfl
    refine RO.ofm (.tup [.sl 0 0 (xs.set m (toUn xs[m] u)).length, .v (.int .i64 0)]) ([(0, ⟨29, 11, true, (xs.set m (toUn xs[m] u)).map licL⟩)]) 1 Try.func18 Try.ntmps18 rfl (goFn_of Try.func18 rfl (by kernel_rfl)) rfl rfl (by simp [renA, renL]) (by simp [shH, renB]) rfl ?_
    ((repeat' (first
    | (show SQ _ _ _ _ _ _ _ _; first | apply sq_nil | (apply q_move; exact rfl; exact rfl) | (apply q_assign; exact rfl; exact rfl) | (apply q_fieldAddr; exact rfl; exact rfl; exact (ty rfl); exact rfl; exact rfl; exact rfl; exact rfl) | (apply q_not; exact rfl; exact rfl) | (apply q_lss; exact rfl; exact rfl; exact rfl) | (apply q_ixl; exact rfl; exact rfl; exact rfl; exact (ty rfl); exact rfl; exact rfl; exact rfl; exact (by first | omega | (simp; done) | (simp; omega)); exact (by first | omega | (simp; done) | (simp; omega))))
    | (show SQ _ _ _ _ _ _ _ _; (first | (apply q_ldap; exact rfl; exact rfl; exact (ty rfl); exact rfl; exact rfl; exact (by first | rfl | assumption | ((try simp only [Nat.zero_add]); refine List.getElem?_set_self ?_; (try simp only [List.length_set]); assumption)); exact rfl) | (apply q_store; exact rfl; exact rfl; exact (ty rfl); exact rfl; exact (by first | rfl | assumption | ((try simp only [Nat.zero_add]); refine List.getElem?_set_self ?_; (try simp only [List.length_set]); assumption)); exact rfl; exact rfl; exact rfl) | (apply q_callU; exact rfl; exact rfl; exact rfl; exact FzL.of rfl; exact ValidHoldings_ro xs hs hn _) | (apply q_callU; exact rfl; exact rfl; exact rfl; exact FzL.of rfl; exact hIF _) | (apply q_callU; exact rfl; exact rfl; exact rfl; exact FzL.of rfl; exact Clone_ro xs (by omega) hn _) | (apply q_callU; exact rfl; exact rfl; exact rfl; exact FzL.of rfl; exact hV _) | (apply q_callU; exact rfl; exact rfl; exact rfl; rotate_left; exact hH _; rotate_right; focus ((repeat' (first | exact FzL.nil | exact (by assumption : FzC _) _ | refine FzL.cons ?_ ?_ | exact Fz.of rfl | exact Fz.nil | exact Fz.emp | (apply Fz.fnC; assumption) | (apply Fz.sl2; exact rfl; exact (by first | omega | (simp; done) | (simp; omega)); first | exact rfl | exact dt_full (by first | omega | (simp; done) | (simp; omega)) | assumption) | apply Fz.agg | (apply Fz.ptrL; exact rfl; first | exact rfl | assumption) | apply Fz.fnL)); done))); (try simp only [put, rowsOf, plR, List.all_cons, selE, ovr, setH, del, cellsA, splice, isV, List.nil_append, List.cons_append, List.map_cons, List.map_nil, List.length_cons, List.length_nil, List.set_cons_zero, List.set_cons_succ, List.take_succ_cons, List.take_zero, List.take_nil, List.drop_succ_cons, List.drop_zero, List.drop_nil, List.append_nil, List.all_cons, List.all_nil, Bool.and_true, Bool.true_and, Bool.and_false, Bool.false_and, Nat.reduceAdd, Nat.zero_add, Nat.add_zero, Nat.reduceEqDiff, if_true, if_false, reduceIte]))
    | (show AW _ _ _ _ _ _ _ _; first | refine aw_region ?_ | (refine aw_seqk ?_; intro K hK) | refine aw_block ?_ | (apply aw_cond_f; exact rfl; exact rfl) | (apply aw_cond_f; exact rfl; exact (by assumption)) | refine aw_ret ?_ | refine aw_skip ?_)
    | refine thn_n ?_
    | (refine hK _ _ _ ?_; clear hK K)
    | refine inb_n ?_)); all_goals (repeat (clear hK K)))
    exact fin_r (fin_m2 rfl rfl rfl _ _ (by simp) (by rw [hset]) rfl)
end Go.Proofs.Ytiificaolakgdaa.Li
