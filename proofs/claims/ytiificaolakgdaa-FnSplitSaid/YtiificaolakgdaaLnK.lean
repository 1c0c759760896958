/-
  A licence divided: its two parts, the codes.
-/
import Derived.Test.YtiificaolakgdaaLnF
import Derived.Test.YtiificaolakgdaaShapeL
namespace Go.Proofs.Ytiificaolakgdaa.Li
open Go Go.RowKit Go.Proofs.Ytiificaolakgdaa.Aw Go.Proofs.Ytiificaolakgdaa.Ar
set_option linter.unusedSimpArgs false
set_option linter.unusedVariables false
attribute [local irreducible] AW SQ Step RO RC DE Thn InB

theorem ixOf_lt' (p : Lic → Bool) (xs : List Lic) (h : ixOf p xs < 0) : ∀ j (hj : j < xs.length), p xs[j] = false := fun j hj => by
  cases hc : p xs[j] with
  | false => rfl
  | true =>
    have := ixOf_any p xs
    have h2 : xs.any p = true := List.any_eq_true.2 ⟨_, List.getElem_mem hj, hc⟩
    rw [h2, decide_eq_true_eq] at this
    omega
/-- the code of a licence to divide -/
def twoC (xs : List Lic) (s t : ByteArray) : Int := if holdB xs && Nm.nameB t then (if ixOf (idP s) xs < 0 then 3 else if 0 ≤ ixOf (idP t) xs then 4 else if xs.length = 24 then 5 else 0) else 1
theorem twoC_ok {xs : List Lic} {s t : ByteArray} (h : twoC xs s t = 0) : holdB xs = true ∧ Nm.nameB t = true ∧ 0 ≤ ixOf (idP s) xs ∧ ixOf (idP t) xs < 0 ∧ xs.length ≠ 24 := by
  unfold twoC at h
  split at h
  · rename_i h1
    simp only [Bool.and_eq_true] at h1
    split at h
    · cases h
    · split at h
      · cases h
      · split at h
        · cases h
        · exact ⟨h1.1, h1.2, by omega, by omega, by assumption⟩
  · cases h
set_option maxHeartbeats 4000000 in
theorem splitCode_ro (xs : List Lic) (s t : ByteArray) (hs : ∀ l ∈ xs, l.sm) (hn : xs.length ≤ 1048576) (ht : t.size ≤ 9223372036854775807) (k : Nat) : RO Try.prog 41 [.dsl 11 (xs.map licL), .v (.string s), .v (.string t)] k (.v (.int .i64 (twoC xs s t))) [] k := by
  refine RO.ofv' Try.func41 Try.ntmps41 rfl (goFn_of Try.func41 rfl (by kernel_rfl)) rfl rfl ?_
  ((repeat' (first
    | (show SQ _ _ _ _ _ _ _ _; first | apply sq_nil | (apply q_move; exact rfl; exact rfl) | (apply q_assign; exact rfl; exact rfl) | (apply q_pick_t; exact rfl; exact rfl; exact rfl; exact (by first | assumption | exact rfl)) | (apply q_pick_f; exact rfl; exact rfl; exact rfl; exact (by first | assumption | exact rfl)) | (apply q_not; exact rfl; exact rfl) | (apply q_lend; exact rfl; exact rfl; exact (ty rfl); exact rfl) | (apply q_eql; exact rfl; exact rfl; exact rfl) | (apply q_lss; exact rfl; exact rfl; exact rfl) | (apply q_geq; exact rfl; exact rfl; exact rfl) | (apply q_g; exact rfl; exact rfl; exact rfl; exact (by assumption)) | (apply q_s; exact rfl; exact rfl; exact rfl; exact (by assumption); exact rfl))
    | (show SQ _ _ _ _ _ _ _ _; (first | (apply q_callU; exact rfl; exact rfl; exact rfl; exact FzL.of rfl; exact ValidHoldings_ro xs hs hn _) | (apply q_callU; exact rfl; exact rfl; exact rfl; exact FzL.of rfl; exact IsName_ro t ht _) | (apply q_callU; exact rfl; exact rfl; exact rfl; exact FzL.of rfl; exact licenceAt_ro xs _ hn _)); (try simp only [put, rowsOf, plR, List.all_cons, selE, ovr, setH, del, cellsA, splice, isV, List.nil_append, List.cons_append, List.map_cons, List.map_nil, List.length_cons, List.length_nil, List.set_cons_zero, List.set_cons_succ, List.take_succ_cons, List.take_zero, List.take_nil, List.drop_succ_cons, List.drop_zero, List.drop_nil, List.append_nil, List.all_cons, List.all_nil, Bool.and_true, Bool.true_and, Bool.and_false, Bool.false_and, Nat.reduceAdd, Nat.zero_add, Nat.add_zero, Nat.reduceEqDiff, if_true, if_false, reduceIte]))
    | (show SQ _ _ _ _ _ _ _ _; apply q_gs; exact rfl; exact rfl; exact rfl; exact rfl; all_goals intro h)
    | (show AW _ _ _ _ _ _ _ _; first | refine aw_region ?_ | (refine aw_seqk ?_; intro K hK) | refine aw_block ?_ | (apply aw_cond_t; exact rfl; exact rfl) | refine aw_ret ?_ | refine aw_skip ?_ | (apply aw_ite; exact rfl; all_goals intro h))
    | refine thn_n ?_
    | (refine hK _ _ _ ?_; clear hK K)
    | refine thn_r ?_
    | refine inb_n ?_
    | refine inb_r ?_)); all_goals (repeat (clear hK K)))
  all_goals refine fin_r (fin_i rfl ?_)
  all_goals simp_all [twoC]
  all_goals (intros; omega)
set_option maxHeartbeats 4000000 in
theorem l26Two_ro (xs : List Lic) (s t : ByteArray) (hs : ∀ l ∈ xs, l.sm) (hn : xs.length ≤ 1048576) (ht : t.size ≤ 9223372036854775807) (k : Nat) : RO Try.prog 62 [.dsl 11 (xs.map licL), .v (.string s), .v (.string t)] k (.tup [.v (.int .i64 (if twoC xs s t = 0 then ixOf (idP s) xs else 0)), .v (.int .i64 (twoC xs s t))]) [] k := by
  refine RO.ofp Try.func62 Try.ntmps62 rfl (goFn_of Try.func62 rfl (by kernel_rfl)) rfl rfl rfl ?_
  ((repeat' (first
    | (show SQ _ _ _ _ _ _ _ _; first | apply sq_nil | (apply q_move; exact rfl; exact rfl) | (apply q_assign; exact rfl; exact rfl) | (apply q_pick_t; exact rfl; exact rfl; exact rfl; exact (by first | assumption | exact rfl)) | (apply q_pick_f; exact rfl; exact rfl; exact rfl; exact (by first | assumption | exact rfl)) | (apply q_not; exact rfl; exact rfl) | (apply q_lend; exact rfl; exact rfl; exact (ty rfl); exact rfl) | (apply q_eql; exact rfl; exact rfl; exact rfl) | (apply q_lss; exact rfl; exact rfl; exact rfl) | (apply q_geq; exact rfl; exact rfl; exact rfl) | (apply q_g; exact rfl; exact rfl; exact rfl; exact (by assumption)) | (apply q_s; exact rfl; exact rfl; exact rfl; exact (by assumption); exact rfl))
    | (show SQ _ _ _ _ _ _ _ _; (first | (apply q_callU; exact rfl; exact rfl; exact rfl; exact FzL.of rfl; exact l26List_ro xs hs hn _) | (apply q_callU; exact rfl; exact rfl; exact rfl; exact FzL.of rfl; exact l01Name_ro t ht _) | (apply q_callU; exact rfl; exact rfl; exact rfl; exact FzL.of rfl; exact l26Find_ro xs _ hn _)); (try simp only [put, rowsOf, plR, List.all_cons, selE, ovr, setH, del, cellsA, splice, isV, List.nil_append, List.cons_append, List.map_cons, List.map_nil, List.length_cons, List.length_nil, List.set_cons_zero, List.set_cons_succ, List.take_succ_cons, List.take_zero, List.take_nil, List.drop_succ_cons, List.drop_zero, List.drop_nil, List.append_nil, List.all_cons, List.all_nil, Bool.and_true, Bool.true_and, Bool.and_false, Bool.false_and, Nat.reduceAdd, Nat.zero_add, Nat.add_zero, Nat.reduceEqDiff, if_true, if_false, reduceIte]))
    | (show SQ _ _ _ _ _ _ _ _; apply q_gs; exact rfl; exact rfl; exact rfl; exact rfl; all_goals intro h)
    | (show AW _ _ _ _ _ _ _ _; first | refine aw_region ?_ | (refine aw_seqk ?_; intro K hK) | (apply aw_cond_t; exact rfl; exact rfl) | refine aw_ret ?_ | refine aw_skip ?_ | (apply aw_ite; exact rfl; all_goals intro h))
    | refine thn_n ?_
    | (refine hK _ _ _ ?_; clear hK K)
    | refine thn_r ?_)); all_goals (repeat (clear hK K)))
  all_goals refine fin_r (fin_p (.r2 _ _ _ _ (.tmp _ _ rfl) (.tmp _ _ rfl)) ?_ rfl rfl rfl)
  all_goals simp_all [twoC]
  all_goals (intros; omega)
end Go.Proofs.Ytiificaolakgdaa.Li
