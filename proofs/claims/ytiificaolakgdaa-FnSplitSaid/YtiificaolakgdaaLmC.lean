/-
  Licences found by their ids; a list without one.
-/
import Derived.Test.YtiificaolakgdaaLmA
namespace Go.Proofs.Ytiificaolakgdaa.Li
open Go Go.RowKit Go.Proofs.Ytiificaolakgdaa.Aw Go.Proofs.Ytiificaolakgdaa.Ar
set_option linter.unusedSimpArgs false
set_option linter.unusedVariables false
attribute [local irreducible] AW SQ Step RO RC DE Thn InB

def idP (s : ByteArray) (l : Lic) : Bool := eqS l.id s
theorem ixOf_spec (p : Lic → Bool) : ∀ (xs : List Lic), 0 ≤ ixOf p xs → ∃ m : Nat, ixOf p xs = (m : Int) ∧ m < xs.length ∧ p (xs.getD m lz) = true ∧ ∀ j, j < m → p (xs.getD j lz) = false
  | [], h => by simp [ixOf] at h
  | x :: xs, h => by
    by_cases hp : p x = true
    · exact ⟨0, by simp [ixOf, hp], by simp, by simpa using hp, fun j hj => absurd hj (Nat.not_lt_zero _)⟩
    · have hp' : p x = false := by simpa using hp
      simp only [ixOf, hp', Bool.false_eq_true, if_false] at h ⊢
      split at h
      · omega
      · rename_i h2
        obtain ⟨m, e, hm, hpm, hj⟩ := ixOf_spec p xs (by omega)
        refine ⟨m + 1, by rw [if_neg h2, e]; rfl, by simp; omega, by simpa using hpm, fun j hjm => ?_⟩
        cases j with
        | zero => simpa using hp'
        | succ j => simpa using hj j (by omega)
set_option maxHeartbeats 4000000 in
theorem licenceAtC_ro (l : Lic) (s : ByteArray) (k : Nat) : RO Try.prog 66 [.agg (licL l), .dptr [.v (.string s)]] k (.v (.bool (idP s l))) [] k := by
  refine RO.ofv' Try.func66 Try.ntmps66 rfl (goFn_of Try.func66 rfl (by kernel_rfl)) rfl rfl ?_
  unfold licL
  ((repeat' (first
    | (show SQ _ _ _ _ _ _ _ _; first | apply sq_nil | (apply q_assign; exact rfl; exact rfl) | (apply q_fieldAddr; exact rfl; exact rfl; exact (ty rfl); exact rfl; exact rfl; exact rfl; exact rfl) | (apply q_seql; exact rfl; exact rfl; exact rfl) | (apply q_ld1d; exact rfl; exact rfl; exact (ty rfl); exact rfl; exact rfl) | (apply q_ld1p; exact rfl; exact rfl; exact (ty rfl); exact rfl; exact rfl; exact (by first | rfl | assumption | ((try simp only [Nat.zero_add]); refine List.getElem?_set_self ?_; (try simp only [List.length_set]); assumption)); exact rfl))
    | (show SQ _ _ _ _ _ _ _ _; (first | (apply q_box; exact rfl; exact rfl; exact rfl)); (try simp only [put, rowsOf, plR, List.all_cons, selE, ovr, setH, del, cellsA, splice, isV, List.nil_append, List.cons_append, List.map_cons, List.map_nil, List.length_cons, List.length_nil, List.set_cons_zero, List.set_cons_succ, List.take_succ_cons, List.take_zero, List.take_nil, List.drop_succ_cons, List.drop_zero, List.drop_nil, List.append_nil, List.all_cons, List.all_nil, Bool.and_true, Bool.true_and, Bool.and_false, Bool.false_and, Nat.reduceAdd, Nat.zero_add, Nat.add_zero, Nat.reduceEqDiff, if_true, if_false, reduceIte]))
    | (show AW _ _ _ _ _ _ _ _; first | refine aw_region ?_ | (refine aw_seqk ?_; intro K hK) | refine aw_ret ?_)
    | refine thn_n ?_
    | (refine hK _ _ _ ?_; clear hK K))); all_goals (repeat (clear hK K)))
  all_goals exact fin_r (fin_b rfl rfl)
set_option maxHeartbeats 4000000 in
theorem licenceAt_ro (xs : List Lic) (s : ByteArray) (hn : xs.length ≤ 1048576) (k : Nat) : RO Try.prog 42 [.dsl 11 (xs.map licL), .v (.string s)] k (.v (.int .i64 (ixOf (idP s) xs))) [] k := by
  have hI := IndexFunc_ro xs (xs.map licL) 66 [.dptr [.v (.string s)]] (idP s) rfl (fun H => FzL.of rfl) rfl (fun x hx m => licenceAtC_ro x s m) hn
  refine RO.ofv' Try.func42 Try.ntmps42 rfl (goFn_of Try.func42 rfl (by kernel_rfl)) rfl rfl ?_
  ((repeat' (first
    | (show SQ _ _ _ _ _ _ _ _; first | apply sq_nil | (apply q_move; exact rfl; exact rfl) | (apply q_assign; exact rfl; exact rfl) | (apply q_mkf; exact rfl; exact rfl))
    | (show SQ _ _ _ _ _ _ _ _; (first | (apply q_box; exact rfl; exact rfl; exact rfl) | (apply q_callU; exact rfl; exact rfl; exact rfl; exact FzL.of rfl; exact hI _)); (try simp only [put, rowsOf, plR, List.all_cons, selE, ovr, setH, del, cellsA, splice, isV, List.nil_append, List.cons_append, List.map_cons, List.map_nil, List.length_cons, List.length_nil, List.set_cons_zero, List.set_cons_succ, List.take_succ_cons, List.take_zero, List.take_nil, List.drop_succ_cons, List.drop_zero, List.drop_nil, List.append_nil, List.all_cons, List.all_nil, Bool.and_true, Bool.true_and, Bool.and_false, Bool.false_and, Nat.reduceAdd, Nat.zero_add, Nat.add_zero, Nat.reduceEqDiff, if_true, if_false, reduceIte]))
    | (show AW _ _ _ _ _ _ _ _; first | refine aw_region ?_ | (refine aw_seqk ?_; intro K hK) | refine aw_ret ?_)
    | refine thn_n ?_
    | (refine hK _ _ _ ?_; clear hK K))); all_goals (repeat (clear hK K)))
  all_goals exact fin_r (fin_i rfl rfl)
set_option maxHeartbeats 4000000 in
theorem l26Find_ro (xs : List Lic) (s : ByteArray) (hn : xs.length ≤ 1048576) (k : Nat) : RO Try.prog 48 [.dsl 11 (xs.map licL), .v (.string s)] k (.v (.int .i64 (ixOf (idP s) xs))) [] k := by
  refine RO.ofv' Try.func48 Try.ntmps48 rfl (goFn_of Try.func48 rfl (by kernel_rfl)) rfl rfl ?_
  ((repeat' (first
    | (show SQ _ _ _ _ _ _ _ _; first | apply sq_nil | (apply q_assign; exact rfl; exact rfl))
    | (show AW _ _ _ _ _ _ _ _; first | refine aw_region ?_ | (refine aw_seqk ?_; intro K hK) | refine aw_block ?_)
    | refine thn_n ?_
    | (refine hK _ _ _ ?_; clear hK K))); all_goals (repeat (clear hK K)))
  refine aw_loop (ρ := id) (ι := Nat) (fun i => ([(5, .v (.int .i64 i)), (1, .v (.string s)), (0, .dsl 11 (xs.map licL))], [], 0))
    (fun i => i ≤ xs.length ∧ ∀ y ∈ xs.take i, idP s y = false) (fun i => xs.length - i) 0 ⟨Nat.zero_le _, by simp⟩ ⟨by (repeat (refine ⟨by first | exact lk_i rfl rfl | exact lk_d rfl rfl | exact lk_v rfl rfl, ?_⟩)); exact trivial, by exact trivial, by rfl, by exact pin_0⟩ ?_
  rintro i ⟨hi, hp⟩
  by_cases c2 : i < xs.length
  · have b2 : decide ((i : Int) < ((xs.map licL).length : Int)) = true := by simpa using c2
    have hrow : (xs.map licL)[((i : Int)).toNat]? = some (licL xs[i]) := by simp [c2]
    rw [show licL xs[i] = _ from rfl] at hrow
    by_cases c3 : idP s xs[i] = true
    · have b3 : eqS xs[i].id s = true := c3
      ((repeat' (first
    | (show SQ _ _ _ _ _ _ _ _; first | apply sq_nil | (apply q_move; exact rfl; exact rfl) | (apply q_assign; exact rfl; exact rfl) | (apply q_fieldAddr; exact rfl; exact rfl; exact (ty rfl); exact rfl; exact rfl; exact rfl; exact rfl) | (apply q_lend; exact rfl; exact rfl; exact (ty rfl); exact rfl) | (apply q_lss; exact rfl; exact rfl; exact rfl) | (apply q_seql; exact rfl; exact rfl; exact rfl) | (apply q_ixd; exact rfl; exact rfl; exact rfl; exact (ty rfl); exact rfl; exact (by first | omega | (simp; done) | (simp; omega)); exact (by first | omega | (simp; done) | (simp; omega)); exact (by first | rfl | assumption)) | (apply q_ld1d; exact rfl; exact rfl; exact (ty rfl); exact rfl; exact rfl))
    | (show AW _ _ _ _ _ _ _ _; first | refine aw_region ?_ | (refine aw_seqk ?_; intro K hK) | refine aw_block ?_ | (apply aw_cond_t; exact rfl; exact (by assumption)) | refine aw_ret ?_ | refine aw_skip ?_)
    | refine thn_n ?_
    | (refine hK _ _ _ ?_; clear hK K)
    | refine thn_r ?_
    | refine inb_r ?_)); all_goals (repeat (clear hK K)))
      all_goals refine fin_r (fin_i rfl ?_)
      have := ixOf_at (idP s) (xs.take i) xs[i] (xs.drop (i + 1)) hp c3
      rw [← List.drop_eq_getElem_cons c2, List.take_append_drop] at this
      rw [this]; simp; omega
    · have c3 : idP s xs[i] = false := by simpa using c3
      have b3 : eqS xs[i].id s = false := c3
      ((repeat' (first
    | (show SQ _ _ _ _ _ _ _ _; first | apply sq_nil | (apply q_move; exact rfl; exact rfl) | (apply q_assign; exact rfl; exact rfl) | (apply q_fieldAddr; exact rfl; exact rfl; exact (ty rfl); exact rfl; exact rfl; exact rfl; exact rfl) | (apply q_lend; exact rfl; exact rfl; exact (ty rfl); exact rfl) | (apply q_add; exact rfl; exact rfl; exact rfl) | (apply q_lss; exact rfl; exact rfl; exact rfl) | (apply q_seql; exact rfl; exact rfl; exact rfl) | (apply q_ixd; exact rfl; exact rfl; exact rfl; exact (ty rfl); exact rfl; exact (by first | omega | (simp; done) | (simp; omega)); exact (by first | omega | (simp; done) | (simp; omega)); exact (by first | rfl | assumption)) | (apply q_ld1d; exact rfl; exact rfl; exact (ty rfl); exact rfl; exact rfl))
    | (show AW _ _ _ _ _ _ _ _; first | refine aw_region ?_ | (refine aw_seqk ?_; intro K hK) | refine aw_block ?_ | (apply aw_cond_t; exact rfl; exact (by assumption)) | (apply aw_cond_f; exact rfl; exact (by assumption)) | refine aw_skip ?_)
    | refine thn_n ?_
    | (refine hK _ _ _ ?_; clear hK K)
    | refine inb_n ?_)); all_goals (repeat (clear hK K)))
      exact ⟨i + 1, id, ⟨c2, take_succ_all c2 hp c3⟩, by omega, ⟨by (repeat (refine ⟨by first | exact lk_i rfl (by (try dsimp only); first | rfl | omega | (rw [IntWalk.i64_in _ (by omega)]; first | rfl | omega | (push_cast; omega)) | (simp; done) | (simp; omega)) | exact lk_d rfl rfl | exact lk_v rfl rfl, ?_⟩)); exact trivial, by exact trivial, by rfl, by exact pin_0⟩⟩
  · have b2 : decide ((i : Int) < ((xs.map licL).length : Int)) = false := by simpa using c2
    ((repeat' (first
    | (show SQ _ _ _ _ _ _ _ _; first | apply sq_nil | (apply q_move; exact rfl; exact rfl) | (apply q_assign; exact rfl; exact rfl) | (apply q_lend; exact rfl; exact rfl; exact (ty rfl); exact rfl) | (apply q_lss; exact rfl; exact rfl; exact rfl))
    | (show AW _ _ _ _ _ _ _ _; first | refine aw_region ?_ | (refine aw_seqk ?_; intro K hK) | (apply aw_cond_f; exact rfl; exact (by assumption)) | refine aw_ret ?_ | refine aw_exit ?_)
    | refine thn_n ?_
    | (refine hK _ _ _ ?_; clear hK K)
    | refine thn_e ?_
    | refine inb_same ?_
    | (clear hK K; refine hK _ _ _ ?_; clear hK K))); all_goals (repeat (clear hK K)))
    all_goals refine fin_r (fin_i rfl ?_)
    rw [List.take_of_length_le (by omega)] at hp
    exact (ixOf_none (idP s) xs hp).symm
set_option maxHeartbeats 4000000 in
theorem l26Without_ro (xs : List Lic) (i : Nat) (hi : i < xs.length) (hn : xs.length ≤ 1048576) (k : Nat) : RO Try.prog 49 [.dsl 11 (xs.map licL), .v (.int .i64 (i : Int))] k (.sl k 0 (xs.eraseIdx i).length) [(k, ⟨29, 11, true, (xs.eraseIdx i).map licL⟩)] (k + 1) := by
  have hl : (xs.map licL).length = xs.length := List.length_map _
  have hw : IntKind.i64.wrap ((i : Int) + 1) = ((i + 1 : Nat) : Int) := by rw [IntWalk.i64_in _ (by omega)]; simp
  have p1 : plR (List.take ((i : Int)).toNat (xs.map licL)) = true := by rw [← List.map_take]; exact licPl _
  have p2 : plR (List.drop (IntKind.i64.wrap ((i : Int) + 1)).toNat (xs.map licL)) = true := by rw [← List.map_drop]; exact licPl _
  have hE : (xs.eraseIdx i).length = xs.length - 1 := by rw [List.length_eraseIdx, if_pos hi]
  refine RO.ofm (.sl 0 0 (xs.eraseIdx i).length) ([(0, ⟨29, 11, true, (xs.eraseIdx i).map licL⟩)]) 1 Try.func49 Try.ntmps49 rfl (goFn_of Try.func49 rfl (by kernel_rfl)) rfl rfl (by simp [renA, renL]) (by simp [shH, renB]) rfl ?_
  ((repeat' (first
    | (show SQ _ _ _ _ _ _ _ _; first | apply sq_nil | (apply q_move; exact rfl; exact rfl) | (apply q_assign; exact rfl; exact rfl) | (apply q_add; exact rfl; exact rfl; exact rfl) | (apply q_sdl_h; exact rfl; exact rfl; exact rfl; exact (ty rfl); exact rfl; exact (by first | omega | (simp; done) | (simp; omega)); exact (by first | omega | (simp; done) | (simp; omega))) | (apply q_sdl_l; exact rfl; exact rfl; exact rfl; exact (ty rfl); exact rfl; exact (by first | omega | (simp; done) | (simp; omega)); exact (by first | omega | (simp; done) | (simp; omega))))
    | (show SQ _ _ _ _ _ _ _ _; (first | (apply q_build0; exact rfl; exact (ty rfl); exact rfl) | (apply q_apo_d; exact rfl; exact rfl; exact rfl; exact (ty rfl); exact rfl; exact rfl; exact (by first | omega | (simp; done) | (simp; omega)); exact (by first | exact List.take_of_length_le (by first | omega | (simp; done) | (simp; omega)) | rfl); exact (ty rfl); exact rfl; exact rfl; exact (by first | omega | (simp; done) | (simp; omega)); exact (by first | omega | (simp; done) | (simp; omega)); exact (by first | assumption | exact rfl))); (try simp only [put, rowsOf, plR, List.all_cons, selE, ovr, setH, del, cellsA, splice, isV, List.nil_append, List.cons_append, List.map_cons, List.map_nil, List.length_cons, List.length_nil, List.set_cons_zero, List.set_cons_succ, List.take_succ_cons, List.take_zero, List.take_nil, List.drop_succ_cons, List.drop_zero, List.drop_nil, List.append_nil, List.all_cons, List.all_nil, Bool.and_true, Bool.true_and, Bool.and_false, Bool.false_and, Nat.reduceAdd, Nat.zero_add, Nat.add_zero, Nat.reduceEqDiff, if_true, if_false, reduceIte]))
    | (show AW _ _ _ _ _ _ _ _; first | refine aw_region ?_ | (refine aw_seqk ?_; intro K hK) | refine aw_ret ?_)
    | refine thn_n ?_
    | (refine hK _ _ _ ?_; clear hK K))); all_goals (repeat (clear hK K)))
  refine fin_r (fin_m rfl rfl _ _ ?_ ?_)
  · rw [hw]; simp; omega
  · rw [hw]; simp only [Int.toNat_natCast]; rw [← List.map_take, ← List.map_drop, ← List.map_append, ← List.eraseIdx_eq_take_drop_succ]
set_option maxHeartbeats 4000000 in
theorem DeleteW_rc (b : Nat) (xs : List Lic) (i : Nat) (hi : i < xs.length) (hn : xs.length ≤ 1048576) (k : Nat) :
    RC Try.prog 50 [.sl b 0 xs.length, .v (.int .i64 (i : Int)), .v (.int .i64 (IntKind.i64.wrap ((i : Int) + 1)))] [(b, ⟨29, 11, true, xs.map licL⟩)] k (.sl b 0 (xs.eraseIdx i).length) [(b, some ⟨29, 11, true, (xs.eraseIdx i).map licL⟩)] k := by
  have hw : IntKind.i64.wrap ((i : Int) + 1) = ((i + 1 : Nat) : Int) := by rw [IntWalk.i64_in _ (by omega)]; simp
  rw [hw]
  exact Delete_rc b xs i (i + 1) rfl hi hn k
set_option maxHeartbeats 4000000 in
theorem specRevoke_bad_ro (xs : List Lic) (s : ByteArray) (hs : ∀ l ∈ xs, l.sm) (hn : xs.length ≤ 1048576) (h : holdB xs = false) (k : Nat) : RO Try.prog 21 [.dsl 11 (xs.map licL), .v (.string s)] k (.tup [.v (.slice none 0 0), .v (.int .i64 1)]) [] k := by
  have b1 : (!holdB xs) = true := by rw [h]; rfl
  refine RO.ofp Try.func21 Try.ntmps21 rfl (goFn_of Try.func21 rfl (by kernel_rfl)) rfl rfl rfl ?_
  ((repeat' (first
    | (show SQ _ _ _ _ _ _ _ _; first | apply sq_nil | (apply q_move; exact rfl; exact rfl) | (apply q_assign; exact rfl; exact rfl) | (apply q_not; exact rfl; exact rfl))
    | (show SQ _ _ _ _ _ _ _ _; (first | (apply q_callU; exact rfl; exact rfl; exact rfl; exact FzL.of rfl; exact l26List_ro xs hs hn _)); (try simp only [put, rowsOf, plR, List.all_cons, selE, ovr, setH, del, cellsA, splice, isV, List.nil_append, List.cons_append, List.map_cons, List.map_nil, List.length_cons, List.length_nil, List.set_cons_zero, List.set_cons_succ, List.take_succ_cons, List.take_zero, List.take_nil, List.drop_succ_cons, List.drop_zero, List.drop_nil, List.append_nil, List.all_cons, List.all_nil, Bool.and_true, Bool.true_and, Bool.and_false, Bool.false_and, Nat.reduceAdd, Nat.zero_add, Nat.add_zero, Nat.reduceEqDiff, if_true, if_false, reduceIte]))
    | (show AW _ _ _ _ _ _ _ _; first | refine aw_region ?_ | (refine aw_seqk ?_; intro K hK) | (apply aw_cond_t; exact rfl; exact (by assumption)) | refine aw_ret ?_)
    | refine thn_n ?_
    | (refine hK _ _ _ ?_; clear hK K)
    | refine thn_r ?_)); all_goals (repeat (clear hK K)))
  all_goals (refine fin_r (fin_p (.r2 _ _ _ _ (.tmp _ _ rfl) (.tmp _ _ rfl)) ?_ rfl rfl rfl); rfl)
set_option maxHeartbeats 4000000 in
theorem specRevoke_no_ro (xs : List Lic) (s : ByteArray) (hs : ∀ l ∈ xs, l.sm) (hn : xs.length ≤ 1048576) (h : holdB xs = true) (h2 : ixOf (idP s) xs < 0) (k : Nat) : RO Try.prog 21 [.dsl 11 (xs.map licL), .v (.string s)] k (.tup [.v (.slice none 0 0), .v (.int .i64 3)]) [] k := by
  have b1 : (!holdB xs) = false := by rw [h]; rfl
  have b2 : decide (ixOf (idP s) xs < 0) = true := by simpa using h2
  refine RO.ofp Try.func21 Try.ntmps21 rfl (goFn_of Try.func21 rfl (by kernel_rfl)) rfl rfl rfl ?_
  ((repeat' (first
    | (show SQ _ _ _ _ _ _ _ _; first | apply sq_nil | (apply q_move; exact rfl; exact rfl) | (apply q_assign; exact rfl; exact rfl) | (apply q_not; exact rfl; exact rfl) | (apply q_lss; exact rfl; exact rfl; exact rfl))
    | (show SQ _ _ _ _ _ _ _ _; (first | (apply q_callU; exact rfl; exact rfl; exact rfl; exact FzL.of rfl; exact l26List_ro xs hs hn _) | (apply q_callU; exact rfl; exact rfl; exact rfl; exact FzL.of rfl; exact l26Find_ro xs s hn _)); (try simp only [put, rowsOf, plR, List.all_cons, selE, ovr, setH, del, cellsA, splice, isV, List.nil_append, List.cons_append, List.map_cons, List.map_nil, List.length_cons, List.length_nil, List.set_cons_zero, List.set_cons_succ, List.take_succ_cons, List.take_zero, List.take_nil, List.drop_succ_cons, List.drop_zero, List.drop_nil, List.append_nil, List.all_cons, List.all_nil, Bool.and_true, Bool.true_and, Bool.and_false, Bool.false_and, Nat.reduceAdd, Nat.zero_add, Nat.add_zero, Nat.reduceEqDiff, if_true, if_false, reduceIte]))
    | (show AW _ _ _ _ _ _ _ _; first | refine aw_region ?_ | (refine aw_seqk ?_; intro K hK) | (apply aw_cond_t; exact rfl; exact (by assumption)) | (apply aw_cond_f; exact rfl; exact (by assumption)) | refine aw_ret ?_ | refine aw_skip ?_)
    | refine thn_n ?_
    | (refine hK _ _ _ ?_; clear hK K)
    | refine thn_r ?_)); all_goals (repeat (clear hK K)))
  all_goals (refine fin_r (fin_p (.r2 _ _ _ _ (.tmp _ _ rfl) (.tmp _ _ rfl)) ?_ rfl rfl rfl); rfl)
set_option maxHeartbeats 4000000 in
theorem implRevoke_bad_ro (xs : List Lic) (s : ByteArray) (hs : ∀ l ∈ xs, l.sm) (hn : xs.length ≤ 1048576) (h : holdB xs = false) (k : Nat) : RO Try.prog 23 [.dsl 11 (xs.map licL), .v (.string s)] k (.tup [.v (.slice none 0 0), .v (.int .i64 1)]) [] k := by
  have b1 : (!holdB xs) = true := by rw [h]; rfl
  refine RO.ofp Try.func23 Try.ntmps23 rfl (goFn_of Try.func23 rfl (by kernel_rfl)) rfl rfl rfl ?_
  ((repeat' (first
    | (show SQ _ _ _ _ _ _ _ _; first | apply sq_nil | (apply q_move; exact rfl; exact rfl) | (apply q_assign; exact rfl; exact rfl) | (apply q_not; exact rfl; exact rfl))
    | (show SQ _ _ _ _ _ _ _ _; (first | (apply q_callU; exact rfl; exact rfl; exact rfl; exact FzL.of rfl; exact ValidHoldings_ro xs hs hn _) | (apply q_callU; exact rfl; exact rfl; exact rfl; exact FzL.of rfl; exact licenceAt_ro xs s hn _)); (try simp only [put, rowsOf, plR, List.all_cons, selE, ovr, setH, del, cellsA, splice, isV, List.nil_append, List.cons_append, List.map_cons, List.map_nil, List.length_cons, List.length_nil, List.set_cons_zero, List.set_cons_succ, List.take_succ_cons, List.take_zero, List.take_nil, List.drop_succ_cons, List.drop_zero, List.drop_nil, List.append_nil, List.all_cons, List.all_nil, Bool.and_true, Bool.true_and, Bool.and_false, Bool.false_and, Nat.reduceAdd, Nat.zero_add, Nat.add_zero, Nat.reduceEqDiff, if_true, if_false, reduceIte]))
    | (show AW _ _ _ _ _ _ _ _; first | refine aw_region ?_ | (refine aw_seqk ?_; intro K hK) | refine aw_block ?_ | (apply aw_cond_t; exact rfl; exact (by assumption)) | refine aw_ret ?_)
    | refine thn_n ?_
    | (refine hK _ _ _ ?_; clear hK K)
    | refine thn_r ?_
    | refine inb_r ?_)); all_goals (repeat (clear hK K)))
  all_goals (refine fin_r (fin_p (.r2 _ _ _ _ (.tmp _ _ rfl) (.tmp _ _ rfl)) ?_ rfl rfl rfl); rfl)
set_option maxHeartbeats 4000000 in
theorem implRevoke_no_ro (xs : List Lic) (s : ByteArray) (hs : ∀ l ∈ xs, l.sm) (hn : xs.length ≤ 1048576) (h : holdB xs = true) (h2 : ixOf (idP s) xs < 0) (k : Nat) : RO Try.prog 23 [.dsl 11 (xs.map licL), .v (.string s)] k (.tup [.v (.slice none 0 0), .v (.int .i64 3)]) [] k := by
  have b1 : (!holdB xs) = false := by rw [h]; rfl
  have b2 : decide (ixOf (idP s) xs < 0) = true := by simpa using h2
  refine RO.ofp Try.func23 Try.ntmps23 rfl (goFn_of Try.func23 rfl (by kernel_rfl)) rfl rfl rfl ?_
  ((repeat' (first
    | (show SQ _ _ _ _ _ _ _ _; first | apply sq_nil | (apply q_move; exact rfl; exact rfl) | (apply q_assign; exact rfl; exact rfl) | (apply q_not; exact rfl; exact rfl) | (apply q_lss; exact rfl; exact rfl; exact rfl))
    | (show SQ _ _ _ _ _ _ _ _; (first | (apply q_callU; exact rfl; exact rfl; exact rfl; exact FzL.of rfl; exact ValidHoldings_ro xs hs hn _) | (apply q_callU; exact rfl; exact rfl; exact rfl; exact FzL.of rfl; exact licenceAt_ro xs s hn _)); (try simp only [put, rowsOf, plR, List.all_cons, selE, ovr, setH, del, cellsA, splice, isV, List.nil_append, List.cons_append, List.map_cons, List.map_nil, List.length_cons, List.length_nil, List.set_cons_zero, List.set_cons_succ, List.take_succ_cons, List.take_zero, List.take_nil, List.drop_succ_cons, List.drop_zero, List.drop_nil, List.append_nil, List.all_cons, List.all_nil, Bool.and_true, Bool.true_and, Bool.and_false, Bool.false_and, Nat.reduceAdd, Nat.zero_add, Nat.add_zero, Nat.reduceEqDiff, if_true, if_false, reduceIte]))
    | (show AW _ _ _ _ _ _ _ _; first | refine aw_region ?_ | (refine aw_seqk ?_; intro K hK) | refine aw_block ?_ | (apply aw_cond_t; exact rfl; exact (by assumption)) | (apply aw_cond_f; exact rfl; exact (by assumption)) | refine aw_ret ?_)
    | refine thn_n ?_
    | (refine hK _ _ _ ?_; clear hK K)
    | refine thn_r ?_
    | refine inb_r ?_)); all_goals (repeat (clear hK K)))
  all_goals (refine fin_r (fin_p (.r2 _ _ _ _ (.tmp _ _ rfl) (.tmp _ _ rfl)) ?_ rfl rfl rfl); rfl)
set_option maxHeartbeats 4000000 in
theorem specRevoke_ok_ro (xs : List Lic) (s : ByteArray) (m : Nat) (hs : ∀ l ∈ xs, l.sm) (hn : xs.length ≤ 1048576) (h : holdB xs = true) (h2 : ixOf (idP s) xs = (m : Int)) (hm : m < xs.length) (k : Nat) :
    RO Try.prog 21 [.dsl 11 (xs.map licL), .v (.string s)] k (.tup [.sl k 0 (xs.eraseIdx m).length, .v (.int .i64 0)]) [(k, ⟨29, 11, true, (xs.eraseIdx m).map licL⟩)] (k + 1) := by
  have b1 : (!holdB xs) = false := by rw [h]; rfl
  have b2 : decide ((m : Int) < 0) = false := by simp
  have hF := l26Find_ro xs s hn
  rw [h2] at hF
  refine RO.ofm (.tup [.sl 0 0 (xs.eraseIdx m).length, .v (.int .i64 0)]) ([(0, ⟨29, 11, true, (xs.eraseIdx m).map licL⟩)]) 1 Try.func21 Try.ntmps21 rfl (goFn_of Try.func21 rfl (by kernel_rfl)) rfl rfl (by simp [renA, renL]) (by simp [shH, renB]) rfl ?_
  ((repeat' (first
    | (show SQ _ _ _ _ _ _ _ _; first | apply sq_nil | (apply q_move; exact rfl; exact rfl) | (apply q_assign; exact rfl; exact rfl) | (apply q_not; exact rfl; exact rfl) | (apply q_lss; exact rfl; exact rfl; exact rfl))
    | (show SQ _ _ _ _ _ _ _ _; (first | (apply q_callU; exact rfl; exact rfl; exact rfl; exact FzL.of rfl; exact l26List_ro xs hs hn _) | (apply q_callU; exact rfl; exact rfl; exact rfl; exact FzL.of rfl; exact hF _) | (apply q_callU; exact rfl; exact rfl; exact rfl; exact FzL.of rfl; exact l26Without_ro xs m hm hn _)); (try simp only [put, rowsOf, plR, List.all_cons, selE, ovr, setH, del, cellsA, splice, isV, List.nil_append, List.cons_append, List.map_cons, List.map_nil, List.length_cons, List.length_nil, List.set_cons_zero, List.set_cons_succ, List.take_succ_cons, List.take_zero, List.take_nil, List.drop_succ_cons, List.drop_zero, List.drop_nil, List.append_nil, List.all_cons, List.all_nil, Bool.and_true, Bool.true_and, Bool.and_false, Bool.false_and, Nat.reduceAdd, Nat.zero_add, Nat.add_zero, Nat.reduceEqDiff, if_true, if_false, reduceIte]))
    | (show AW _ _ _ _ _ _ _ _; first | refine aw_region ?_ | (refine aw_seqk ?_; intro K hK) | (apply aw_cond_f; exact rfl; exact rfl) | (apply aw_cond_f; exact rfl; exact (by assumption)) | refine aw_ret ?_ | refine aw_skip ?_)
    | refine thn_n ?_
    | (refine hK _ _ _ ?_; clear hK K))); all_goals (repeat (clear hK K)))
  exact fin_r (fin_m2 rfl rfl rfl _ _ rfl rfl rfl)
set_option maxHeartbeats 4000000 in
theorem implRevoke_ok_ro (xs : List Lic) (s : ByteArray) (m : Nat) (hs : ∀ l ∈ xs, l.sm) (hn : xs.length ≤ 1048576) (h : holdB xs = true) (h2 : ixOf (idP s) xs = (m : Int)) (hm : m < xs.length) (k : Nat) :
    RO Try.prog 23 [.dsl 11 (xs.map licL), .v (.string s)] k (.tup [.sl k 0 (xs.eraseIdx m).length, .v (.int .i64 0)]) [(k, ⟨29, 11, true, (xs.eraseIdx m).map licL⟩)] (k + 1) := by
  have b1 : (!holdB xs) = false := by rw [h]; rfl
  have b2 : decide ((m : Int) < 0) = false := by simp
  have hF := licenceAt_ro xs s hn
  rw [h2] at hF
  refine RO.ofm (.tup [.sl 0 0 (xs.eraseIdx m).length, .v (.int .i64 0)]) ([(0, ⟨29, 11, true, (xs.eraseIdx m).map licL⟩)]) 1 Try.func23 Try.ntmps23 rfl (goFn_of Try.func23 rfl (by kernel_rfl)) rfl rfl (by simp [renA, renL]) (by simp [shH, renB]) rfl ?_
  ((repeat' (first
    | (show SQ _ _ _ _ _ _ _ _; first | apply sq_nil | (apply q_move; exact rfl; exact rfl) | (apply q_assign; exact rfl; exact rfl) | (apply q_not; exact rfl; exact rfl) | (apply q_add; exact rfl; exact rfl; exact rfl) | (apply q_lss; exact rfl; exact rfl; exact rfl))
    | (show SQ _ _ _ _ _ _ _ _; (first | (apply q_callU; exact rfl; exact rfl; exact rfl; exact FzL.of rfl; exact ValidHoldings_ro xs hs hn _) | (apply q_callU; exact rfl; exact rfl; exact rfl; exact FzL.of rfl; exact hF _) | (apply q_callU; exact rfl; exact rfl; exact rfl; exact FzL.of rfl; exact Clone_ro xs (by omega) hn _) | (apply q_callC; exact rfl; exact rfl; exact rfl; exact DeleteW_rc _ xs m hm hn _; (focus ((repeat (first | exact trivial | refine ⟨by first | exact rfl | assumption, ?_⟩)); done)); skip)); (try simp only [put, rowsOf, plR, List.all_cons, selE, ovr, setH, del, cellsA, splice, isV, List.nil_append, List.cons_append, List.map_cons, List.map_nil, List.length_cons, List.length_nil, List.set_cons_zero, List.set_cons_succ, List.take_succ_cons, List.take_zero, List.take_nil, List.drop_succ_cons, List.drop_zero, List.drop_nil, List.append_nil, List.all_cons, List.all_nil, Bool.and_true, Bool.true_and, Bool.and_false, Bool.false_and, Nat.reduceAdd, Nat.zero_add, Nat.add_zero, Nat.reduceEqDiff, if_true, if_false, reduceIte]))
    | (show AW _ _ _ _ _ _ _ _; first | refine aw_region ?_ | (refine aw_seqk ?_; intro K hK) | refine aw_block ?_ | (apply aw_cond_f; exact rfl; exact rfl) | (apply aw_cond_f; exact rfl; exact (by assumption)) | refine aw_ret ?_ | refine aw_skip ?_)
    | refine thn_n ?_
    | (refine hK _ _ _ ?_; clear hK K)
    | refine inb_n ?_)); all_goals (repeat (clear hK K)))
  exact fin_r (fin_m2 rfl rfl rfl _ _ rfl rfl rfl)
end Go.Proofs.Ytiificaolakgdaa.Li
