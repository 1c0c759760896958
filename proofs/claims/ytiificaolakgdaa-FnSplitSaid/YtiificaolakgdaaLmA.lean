/-
  Lists of licences: copies, and a copy without one.
-/
import Derived.Test.YtiificaolakgdaaLiV
import Derived.Test.YtiificaolakgdaaAwX
namespace Go.Proofs.Ytiificaolakgdaa.Li
open Go Go.RowKit Go.Proofs.Ytiificaolakgdaa.Aw Go.Proofs.Ytiificaolakgdaa.Ar
set_option linter.unusedSimpArgs false
set_option linter.unusedVariables false
attribute [local irreducible] AW SQ Step RO RC DE Thn InB

theorem licPl (xs : List Lic) : plR (xs.map licL) = true := plR_map licL (fun _ => rfl) xs
set_option maxHeartbeats 4000000 in
theorem Clone_ro (xs : List Lic) (h : 0 < xs.length) (hn : xs.length ≤ 1048576) (k : Nat) : RO Try.prog 44 [.dsl 11 (xs.map licL)] k (.sl k 0 xs.length) [(k, ⟨29, 11, true, xs.map licL⟩)] (k + 1) := by
  have h0 : 0 < (xs.map licL).length := by simpa using h
  have hl : (xs.map licL).length = xs.length := List.length_map _
  have hp := licPl xs
  refine RO.ofm (.sl 0 0 xs.length) ([(0, ⟨29, 11, true, xs.map licL⟩)]) 1 Try.func44 Try.ntmps44 rfl (goFn_of Try.func44 rfl (by kernel_rfl)) rfl rfl (by simp [renA, renL]) (by simp [shH, renB]) rfl ?_
  ((repeat' (first
    | (show SQ _ _ _ _ _ _ _ _; first | apply sq_nil | (apply q_move; exact rfl; exact rfl) | (apply q_assign; exact rfl; exact rfl) | (apply q_nil_ed; exact rfl; exact rfl; exact rfl; exact (ty rfl); exact rfl; exact (by first | omega | (simp; done) | (simp; omega))))
    | (show SQ _ _ _ _ _ _ _ _; (first | (apply q_build0; exact rfl; exact (ty rfl); exact rfl) | (apply q_apo_d; exact rfl; exact rfl; exact rfl; exact (ty rfl); exact rfl; exact rfl; exact (by first | omega | (simp; done) | (simp; omega)); exact (by first | exact List.take_of_length_le (by first | omega | (simp; done) | (simp; omega)) | rfl); exact (ty rfl); exact rfl; exact rfl; exact (by first | omega | (simp; done) | (simp; omega)); exact (by first | omega | (simp; done) | (simp; omega)); exact (by first | assumption | exact rfl))); (try simp only [put, rowsOf, plR, List.all_cons, selE, ovr, setH, del, cellsA, splice, isV, List.nil_append, List.cons_append, List.map_cons, List.map_nil, List.length_cons, List.length_nil, List.set_cons_zero, List.set_cons_succ, List.take_succ_cons, List.take_zero, List.take_nil, List.drop_succ_cons, List.drop_zero, List.drop_nil, List.append_nil, List.all_cons, List.all_nil, Bool.and_true, Bool.true_and, Bool.and_false, Bool.false_and, Nat.reduceAdd, Nat.zero_add, Nat.add_zero, Nat.reduceEqDiff, if_true, if_false, reduceIte]))
    | (show AW _ _ _ _ _ _ _ _; first | refine aw_region ?_ | (refine aw_seqk ?_; intro K hK) | (apply aw_cond_f; exact rfl; exact rfl) | refine aw_ret ?_ | refine aw_skip ?_)
    | refine thn_n ?_
    | (refine hK _ _ _ ?_; clear hK K))); all_goals (repeat (clear hK K)))
  exact fin_r (fin_m rfl rfl _ _ (by simp) (by simp))
theorem take_key {α : Type} (A B R Z W : List α) (m : Nat) (h : A.length + B.length = m) : List.take m (List.take m (A ++ B ++ R) ++ Z ++ W) = A ++ B := by
  have h1 : List.take m (A ++ B ++ R) = A ++ B := by
    rw [List.take_append_of_le_length (by simp; omega)]; exact List.take_of_length_le (by simp; omega)
  rw [h1, List.append_assoc, List.take_append_of_le_length (by simp; omega)]; exact List.take_of_length_le (by simp; omega)
set_option maxHeartbeats 4000000 in
theorem Delete_rc (b : Nat) (xs : List Lic) (i j : Nat) (hj : j = i + 1) (hi : i < xs.length) (hn : xs.length ≤ 1048576) (k : Nat) :
    RC Try.prog 50 [.sl b 0 xs.length, .v (.int .i64 (i : Int)), .v (.int .i64 (j : Int))] [(b, ⟨29, 11, true, xs.map licL⟩)] k (.sl b 0 (xs.eraseIdx i).length) [(b, some ⟨29, 11, true, (xs.eraseIdx i).map licL⟩)] k := by
  have hl : (xs.map licL).length = xs.length := List.length_map _
  have b1 : ((i : Int) == (j : Int)) = false := by simp; omega
  refine RC.ofc [b] 0 [.sl 0 0 xs.length, .v (.int .i64 (i : Int)), .v (.int .i64 (j : Int))] [(0, ⟨29, 11, true, xs.map licL⟩)] (.sl 0 0 (xs.eraseIdx i).length) [(0, some ⟨29, 11, true, (xs.eraseIdx i).map licL⟩)] Try.func50 Try.ntmps50 rfl (goFn_of Try.func50 rfl (by kernel_rfl)) rfl rfl rfl rfl rfl rfl rfl rfl (by simp_all) rfl ?_
  refine aw_sx (t := 0) rfl rfl (by omega) ?_
  intro C hC hC2
  rw [hl] at hC
  have hd : List.take (xs.length - ((j : Int)).toNat) (List.drop (0 + ((j : Int)).toNat) (xs.map licL)) = (xs.drop j).map licL := by
    rw [Nat.zero_add, Int.toNat_natCast, ← List.map_drop]; exact List.take_of_length_le (by simp)
  have hp2 := licPl (xs.drop j)
  ((repeat' (first
    | (show SQ _ _ _ _ _ _ _ _; first | apply sq_nil | (apply q_move; exact rfl; exact rfl) | (apply q_assign; exact rfl; exact rfl) | (apply q_eql; exact rfl; exact rfl; exact rfl) | (apply q_lenx; exact rfl; exact rfl; exact (ty rfl); exact rfl) | (apply q_sxs_lh; exact rfl; exact rfl; exact rfl; exact rfl; exact (ty rfl); exact rfl; exact rfl; exact (by first | omega | (simp; done) | (simp; omega)); exact (by first | omega | (simp; done) | (simp; omega)); exact (by first | omega | (simp; done) | (simp; omega)); exact (by first | omega | (simp; done) | (simp; omega))))
    | (show SQ _ _ _ _ _ _ _ _; (first | (apply q_clrx; exact rfl; exact rfl; exact (ty rfl); exact rfl; exact rfl; exact (by first | omega | (simp; done) | (simp; omega)); exact rfl; exact rfl)); (try simp only [put, rowsOf, plR, List.all_cons, selE, ovr, setH, del, cellsA, splice, isV, List.nil_append, List.cons_append, List.map_cons, List.map_nil, List.length_cons, List.length_nil, List.set_cons_zero, List.set_cons_succ, List.take_succ_cons, List.take_zero, List.take_nil, List.drop_succ_cons, List.drop_zero, List.drop_nil, List.append_nil, List.all_cons, List.all_nil, Bool.and_true, Bool.true_and, Bool.and_false, Bool.false_and, Nat.reduceAdd, Nat.zero_add, Nat.add_zero, Nat.reduceEqDiff, if_true, if_false, reduceIte]))
    | (show DE _ _ _ _ _ _ _ _ _ _ _ _; first | (apply e_move; exact rfl; exact rfl; exact rfl) | (apply e_assign; exact rfl; exact rfl; exact rfl) | (apply e_sxs_h; exact rfl; exact rfl; exact rfl; exact (ty rfl); exact rfl; exact rfl; exact (by first | omega | (simp; done) | (simp; omega)); exact (by first | omega | (simp; done) | (simp; omega)); exact rfl) | (apply e_sxl_l; exact rfl; exact rfl; exact rfl; exact (ty rfl); exact rfl; exact rfl; exact (by first | omega | (simp; done) | (simp; omega)); exact (by first | omega | (simp; done) | (simp; omega)); exact (by first | omega | (simp; done) | (simp; omega)); exact rfl))
    | (show DE _ _ _ _ _ _ _ _ _ _ _ _; (first | (apply dr_nil; exact rfl) | (apply e_apx_s; exact rfl; exact rfl; exact rfl; exact (ty rfl); exact rfl; exact rfl; exact (by first | omega | (simp; done) | (simp; omega)); exact (ty rfl); exact rfl; exact rfl; exact (by first | omega | (simp; done) | (simp; omega)); exact (by first | exact dt_full (by first | omega | (simp; done) | (simp; omega)) | assumption | rfl); exact (by first | omega | (simp; done) | (simp; omega)); exact (by first | assumption | exact rfl); exact rfl)); (try simp only [put, rowsOf, plR, List.all_cons, selE, ovr, setH, del, cellsA, splice, isV, List.nil_append, List.cons_append, List.map_cons, List.map_nil, List.length_cons, List.length_nil, List.set_cons_zero, List.set_cons_succ, List.take_succ_cons, List.take_zero, List.take_nil, List.drop_succ_cons, List.drop_zero, List.drop_nil, List.append_nil, List.all_cons, List.all_nil, Bool.and_true, Bool.true_and, Bool.and_false, Bool.false_and, Nat.reduceAdd, Nat.zero_add, Nat.add_zero, Nat.reduceEqDiff, if_true, if_false, reduceIte]))
    | (show AW _ _ _ _ _ _ _ _; first | refine aw_region ?_ | (refine aw_seqk ?_; intro K hK) | (apply aw_cond_f; exact rfl; exact (by assumption)) | refine aw_skip ?_ | refine aw_drawE (id := 5) [0, 0, 3, 0, 0, 24, 63, 127] [0, 0, 1, 0, 0, 1, 2, 0] mixed (by kernel_rfl) ?_)
    | refine thn_n ?_
    | (refine hK _ _ _ ?_; clear hK K)
    | (show SQ _ _ _ _ _ _ _ _; apply q_sl3; exact rfl; exact rfl; exact rfl; exact rfl; exact rfl; exact rfl; exact (ty rfl); exact rfl; omega; omega; omega; omega; omega))); all_goals (repeat (clear hK K)))
  refine aw_wk (t := 6) rfl ?_
  refine aw_cut (id := 0) (k := xs.length - 1) rfl ?_
  ((repeat' (first
    | (show AW _ _ _ _ _ _ _ _; first | refine aw_ret ?_))); all_goals (repeat (clear hK K)))
  have hL : i + (List.drop j (xs.map licL)).length = xs.length - 1 := by simp; omega
  have hE : (xs.eraseIdx i).length = xs.length - 1 := by rw [List.length_eraseIdx, if_pos hi]
  refine finc (fun i => i) (.r1 _ _ (.tmp _ _ rfl)) (by simp only [renA, Int.toNat_natCast, hL, hE]) (fun i hi => rfl) ⟨?_, trivial⟩ rfl
  show some (Blk.mk _ _ _ _) = some (Blk.mk _ _ _ _)
  simp only [Int.toNat_natCast, hL]
  rw [Option.some.injEq, Blk.mk.injEq]
  refine ⟨rfl, rfl, ?_, ?_⟩
  · have := licPl (xs.drop j)
    rw [plR, List.map_drop] at this
    exact this
  · rw [take_key _ _ _ _ _ _ (by simp; omega), ← List.map_take, ← List.map_drop, ← List.map_append, hj, ← List.eraseIdx_eq_take_drop_succ]
end Go.Proofs.Ytiificaolakgdaa.Li
