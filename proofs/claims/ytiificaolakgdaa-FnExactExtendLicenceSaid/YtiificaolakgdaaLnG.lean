/-
  A licence's last day turned.
-/
import Derived.Test.YtiificaolakgdaaLnF
namespace Go.Proofs.Ytiificaolakgdaa.Li
open Go Go.RowKit Go.Proofs.Ytiificaolakgdaa.Aw Go.Proofs.Ytiificaolakgdaa.Ar
set_option linter.unusedSimpArgs false
set_option linter.unusedVariables false
attribute [local irreducible] AW SQ Step RO RC DE Thn InB

def toUn (l : Lic) (u : Int) : Lic := { l with un := u }
theorem set_sm {xs : List Lic} (hs : ∀ l ∈ xs, l.sm) (m : Nat) (x : Lic) (hx : x.sm) : ∀ l ∈ xs.set m x, l.sm := fun l hl => by
  rcases List.mem_or_eq_of_mem_set hl with h | h
  · exact hs l h
  · rw [h]; exact hx
/-- the reference looks at the others one after the other -/
theorem specExtend_loop (xs : List Lic) (s : ByteArray) (u : Int) (m : Nat) (hs : ∀ l ∈ xs, l.sm) (hn : xs.length ≤ 1048576) (c1 : holdB xs = true) (hm : ixOf (idP s) xs = (m : Int)) (hml : m < xs.length) (c4 : licB (toUn xs[m] u) = true) :
    (((xs.eraseIdx m).any (fun y => clB y (toUn xs[m] u)) = true) → ErrR 29 [.dsl 11 (xs.map licL), .v (.string s), .v (.int .i64 u)] 6) ∧
    (((xs.eraseIdx m).any (fun y => clB y (toUn xs[m] u)) = false) → OkR 29 [.dsl 11 (xs.map licL), .v (.string s), .v (.int .i64 u)] (xs.set m (toUn xs[m] u))) := by
  have hl : (xs.map licL).length = xs.length := List.length_map _
  have b1 : (!holdB xs) = false := by rw [c1]; rfl
  have b3 : decide ((m : Int) < 0) = false := by simp
  have b4 : (!licB (toUn xs[m] u)) = false := by rw [c4]; rfl
  have hP := (holdP_iff xs).1 c1
  have hE : (xs.eraseIdx m).length = xs.length - 1 := by rw [List.length_eraseIdx, if_pos hml]
  have hSF := l26Find_ro xs s hn
  rw [hm] at hSF
  have hrow : (xs.map licL)[((m : Int)).toNat]? = some (licL xs[m]) := by simp [hml]
  rw [licL_eq xs[m]] at hrow
  have hsm : (toUn xs[m] u).sm := hs xs[m] (List.getElem_mem hml)
  have hPut := l26Put_ro (xs.eraseIdx m) (toUn xs[m] u) m (at_erase hP hml (toUn xs[m] u) rfl) (by omega)
  rw [ins_erase hml] at hPut
  have hW := l26Without_ro xs m hml hn
  have hOk := l26Ok_ro (toUn xs[m] u) hsm
  generalize hx : toUn xs[m] u = x at *
  generalize hr : xs.eraseIdx m = rs at *
  have hx2 : licL x = [.v (.string xs[m].id), .v (.string xs[m].ho), .v (.int .i64 xs[m].lo), .v (.int .i64 xs[m].hi), .v (.int .i64 xs[m].x), .v (.int .i64 xs[m].y), .v (.int .i64 xs[m].e), .v (.int .i64 xs[m].n), .v (.int .i64 xs[m].fr), .v (.int .i64 u), .v (.int .i64 xs[m].po)] := by rw [← hx]; rfl
  have hC : ∀ (y : Lic) k, RO Try.prog 57 [.dptr (licL y), .dptr (licL x)] k (.v (.bool (clB y x))) [] k := fun y k => l26Clash_ro y x k
  rw [hx2] at hOk hPut hC
  constructor
  · intro c5 k
    refine RO.ofp Try.func29 Try.ntmps29 rfl (goFn_of Try.func29 rfl (by kernel_rfl)) rfl rfl rfl ?_
    ((repeat' (first
    | (show SQ _ _ _ _ _ _ _ _; first | apply sq_nil | (apply q_move; exact rfl; exact rfl) | (apply q_assign; exact rfl; exact rfl) | (apply q_fieldAddr; exact rfl; exact rfl; exact (ty rfl); exact rfl; exact rfl; exact rfl; exact rfl) | (apply q_not; exact rfl; exact rfl) | (apply q_lss; exact rfl; exact rfl; exact rfl) | (apply q_ixd; exact rfl; exact rfl; exact rfl; exact (ty rfl); exact rfl; exact (by first | omega | (simp; done) | (simp; omega)); exact (by first | omega | (simp; done) | (simp; omega)); exact (by first | rfl | assumption)))
    | (show SQ _ _ _ _ _ _ _ _; (first | (apply q_ldad; exact rfl; exact rfl; exact (ty rfl); exact rfl; exact rfl) | (apply q_alloc; exact rfl; exact (ty rfl); exact rfl; exact rfl) | (apply q_store; exact rfl; exact rfl; exact (ty rfl); exact rfl; exact (by first | rfl | assumption | ((try simp only [Nat.zero_add]); refine List.getElem?_set_self ?_; (try simp only [List.length_set]); assumption)); exact rfl; exact rfl; exact rfl) | (apply q_callU; exact rfl; exact rfl; exact rfl; exact FzL.of rfl; exact l26List_ro xs hs hn _) | (apply q_callU; exact rfl; exact rfl; exact rfl; exact FzL.of rfl; exact hSF _) | (apply q_callU; exact rfl; exact rfl; exact rfl; exact FzL.of rfl; exact hOk _) | (apply q_callU; exact rfl; exact rfl; exact rfl; exact FzL.of rfl; exact hW _)); (try simp only [put, rowsOf, plR, List.all_cons, selE, ovr, setH, del, cellsA, splice, isV, List.nil_append, List.cons_append, List.map_cons, List.map_nil, List.length_cons, List.length_nil, List.set_cons_zero, List.set_cons_succ, List.take_succ_cons, List.take_zero, List.take_nil, List.drop_succ_cons, List.drop_zero, List.drop_nil, List.append_nil, List.all_cons, List.all_nil, Bool.and_true, Bool.true_and, Bool.and_false, Bool.false_and, Nat.reduceAdd, Nat.zero_add, Nat.add_zero, Nat.reduceEqDiff, if_true, if_false, reduceIte]))
    | (show AW _ _ _ _ _ _ _ _; first | refine aw_region ?_ | (refine aw_seqk ?_; intro K hK) | refine aw_block ?_ | (apply aw_cond_f; exact rfl; exact rfl) | (apply aw_cond_f; exact rfl; exact (by assumption)) | refine aw_skip ?_)
    | refine thn_n ?_
    | (refine hK _ _ _ ?_; clear hK K))); all_goals (repeat (clear hK K)))
    refine aw_loop (ρ := id) (ι := Nat) (fun i => ([(11, .v (.int .i64 i)), (10, .sl 1 0 rs.length), (9, .ptr 0 0 0)], [(0, ⟨29, 11, false, [[.v (.string xs[m].id), .v (.string xs[m].ho), .v (.int .i64 xs[m].lo), .v (.int .i64 xs[m].hi), .v (.int .i64 xs[m].x), .v (.int .i64 xs[m].y), .v (.int .i64 xs[m].e), .v (.int .i64 xs[m].n), .v (.int .i64 xs[m].fr), .v (.int .i64 u), .v (.int .i64 xs[m].po)]]⟩), (1, ⟨29, 11, true, rs.map licL⟩)], 2))
      (fun i => i ≤ rs.length ∧ ∀ y ∈ rs.take i, clB y x = false) (fun i => rs.length - i) 0 ⟨Nat.zero_le _, by simp⟩ ⟨by (repeat (refine ⟨by first | exact lk_i rfl rfl | exact lk_r rfl rfl rfl | exact lk_s rfl rfl rfl rfl, ?_⟩)); exact trivial, by (repeat (refine ⟨by first | exact ⟨rfl, rfl, rfl⟩, ?_⟩)); exact trivial, by rfl, by exact pin_0⟩ ?_
    rintro i ⟨hi, hp⟩
    by_cases c2 : i < rs.length
    · have b2 : decide ((i : Int) < (rs.length : Int)) = true := by simpa using c2
      have hrow : (rs.map licL)[0 + ((i : Int)).toNat]? = some (licL rs[i]) := by simp [c2]
      have hrow' : (rs.map licL)[((i : Int)).toNat]? = some (licL rs[i]) := by simp [c2]
      by_cases c3 : clB rs[i] x = true
      · ((repeat' (first
    | (show SQ _ _ _ _ _ _ _ _; first | apply sq_nil | (apply q_move; exact rfl; exact rfl) | (apply q_assign; exact rfl; exact rfl) | (apply q_lenl; exact rfl; exact rfl; exact (ty rfl); exact rfl) | (apply q_lss; exact rfl; exact rfl; exact rfl) | (apply q_ixl; exact rfl; exact rfl; exact rfl; exact (ty rfl); exact rfl; exact rfl; exact rfl; exact (by first | omega | (simp; done) | (simp; omega)); exact (by first | omega | (simp; done) | (simp; omega))))
    | (show SQ _ _ _ _ _ _ _ _; (first | (apply q_callU; exact rfl; exact rfl; exact rfl; rotate_left; exact hC rs[i] _; rotate_right; focus ((repeat' (first | exact FzL.nil | exact (by assumption : FzC _) _ | refine FzL.cons ?_ ?_ | exact Fz.of rfl | exact Fz.nil | exact Fz.emp | (apply Fz.fnC; assumption) | (apply Fz.sl2; exact rfl; exact (by first | omega | (simp; done) | (simp; omega)); first | exact rfl | exact dt_full (by first | omega | (simp; done) | (simp; omega)) | assumption) | apply Fz.agg | (apply Fz.ptrL; exact rfl; first | exact rfl | assumption) | apply Fz.fnL)); done))); (try simp only [put, rowsOf, plR, List.all_cons, selE, ovr, setH, del, cellsA, splice, isV, List.nil_append, List.cons_append, List.map_cons, List.map_nil, List.length_cons, List.length_nil, List.set_cons_zero, List.set_cons_succ, List.take_succ_cons, List.take_zero, List.take_nil, List.drop_succ_cons, List.drop_zero, List.drop_nil, List.append_nil, List.all_cons, List.all_nil, Bool.and_true, Bool.true_and, Bool.and_false, Bool.false_and, Nat.reduceAdd, Nat.zero_add, Nat.add_zero, Nat.reduceEqDiff, if_true, if_false, reduceIte]))
    | (show AW _ _ _ _ _ _ _ _; first | refine aw_region ?_ | (refine aw_seqk ?_; intro K hK) | refine aw_block ?_ | (apply aw_cond_t; exact rfl; exact (by assumption)) | refine aw_ret ?_ | refine aw_skip ?_)
    | refine thn_n ?_
    | (refine hK _ _ _ ?_; clear hK K)
    | refine thn_r ?_
    | refine inb_r ?_)); all_goals (repeat (clear hK K)))
        all_goals (refine fin_r (fin_p (.r2 _ _ _ _ (.tmp _ _ rfl) (.tmp _ _ rfl)) ?_ rfl rfl rfl); rfl)
      · have c3 : clB rs[i] x = false := by simpa using c3
        ((repeat' (first
    | (show SQ _ _ _ _ _ _ _ _; first | apply sq_nil | (apply q_move; exact rfl; exact rfl) | (apply q_assign; exact rfl; exact rfl) | (apply q_lenl; exact rfl; exact rfl; exact (ty rfl); exact rfl) | (apply q_add; exact rfl; exact rfl; exact rfl) | (apply q_lss; exact rfl; exact rfl; exact rfl) | (apply q_ixl; exact rfl; exact rfl; exact rfl; exact (ty rfl); exact rfl; exact rfl; exact rfl; exact (by first | omega | (simp; done) | (simp; omega)); exact (by first | omega | (simp; done) | (simp; omega))))
    | (show SQ _ _ _ _ _ _ _ _; (first | (apply q_callU; exact rfl; exact rfl; exact rfl; rotate_left; exact hC rs[i] _; rotate_right; focus ((repeat' (first | exact FzL.nil | exact (by assumption : FzC _) _ | refine FzL.cons ?_ ?_ | exact Fz.of rfl | exact Fz.nil | exact Fz.emp | (apply Fz.fnC; assumption) | (apply Fz.sl2; exact rfl; exact (by first | omega | (simp; done) | (simp; omega)); first | exact rfl | exact dt_full (by first | omega | (simp; done) | (simp; omega)) | assumption) | apply Fz.agg | (apply Fz.ptrL; exact rfl; first | exact rfl | assumption) | apply Fz.fnL)); done))); (try simp only [put, rowsOf, plR, List.all_cons, selE, ovr, setH, del, cellsA, splice, isV, List.nil_append, List.cons_append, List.map_cons, List.map_nil, List.length_cons, List.length_nil, List.set_cons_zero, List.set_cons_succ, List.take_succ_cons, List.take_zero, List.take_nil, List.drop_succ_cons, List.drop_zero, List.drop_nil, List.append_nil, List.all_cons, List.all_nil, Bool.and_true, Bool.true_and, Bool.and_false, Bool.false_and, Nat.reduceAdd, Nat.zero_add, Nat.add_zero, Nat.reduceEqDiff, if_true, if_false, reduceIte]))
    | (show AW _ _ _ _ _ _ _ _; first | refine aw_region ?_ | (refine aw_seqk ?_; intro K hK) | refine aw_block ?_ | (apply aw_cond_t; exact rfl; exact (by assumption)) | (apply aw_cond_f; exact rfl; exact (by assumption)) | refine aw_skip ?_)
    | refine thn_n ?_
    | (refine hK _ _ _ ?_; clear hK K)
    | refine inb_n ?_)); all_goals (repeat (clear hK K)))
        exact ⟨i + 1, id, ⟨c2, take_succ_all c2 hp c3⟩, by omega, ⟨by (repeat (refine ⟨by first | exact lk_i rfl (by (try dsimp only); first | rfl | omega | (rw [IntWalk.i64_in _ (by omega)]; first | rfl | omega | (push_cast; omega)) | (simp; done) | (simp; omega)) | exact lk_r rfl rfl rfl | exact lk_s rfl rfl rfl rfl, ?_⟩)); exact trivial, by (repeat (refine ⟨by first | exact ⟨rfl, rfl, rfl⟩, ?_⟩)); exact trivial, by rfl, by exact pin_0⟩⟩
    · rw [List.take_of_length_le (by omega)] at hp
      obtain ⟨y, hy, hc⟩ := List.any_eq_true.1 c5
      rw [hp y hy] at hc
      cases hc
  · intro c5 k
    refine RO.ofm (.tup [.sl 0 0 (xs.set m x).length, .v (.int .i64 0)]) ([(0, ⟨29, 11, true, (xs.set m x).map licL⟩)]) 1 Try.func29 Try.ntmps29 rfl (goFn_of Try.func29 rfl (by kernel_rfl)) rfl rfl (by simp [renA, renL]) (by simp [shH, renB]) rfl ?_
    ((repeat' (first
    | (show SQ _ _ _ _ _ _ _ _; first | apply sq_nil | (apply q_move; exact rfl; exact rfl) | (apply q_assign; exact rfl; exact rfl) | (apply q_fieldAddr; exact rfl; exact rfl; exact (ty rfl); exact rfl; exact rfl; exact rfl; exact rfl) | (apply q_not; exact rfl; exact rfl) | (apply q_lss; exact rfl; exact rfl; exact rfl) | (apply q_ixd; exact rfl; exact rfl; exact rfl; exact (ty rfl); exact rfl; exact (by first | omega | (simp; done) | (simp; omega)); exact (by first | omega | (simp; done) | (simp; omega)); exact (by first | rfl | assumption)))
    | (show SQ _ _ _ _ _ _ _ _; (first | (apply q_ldad; exact rfl; exact rfl; exact (ty rfl); exact rfl; exact rfl) | (apply q_alloc; exact rfl; exact (ty rfl); exact rfl; exact rfl) | (apply q_store; exact rfl; exact rfl; exact (ty rfl); exact rfl; exact (by first | rfl | assumption | ((try simp only [Nat.zero_add]); refine List.getElem?_set_self ?_; (try simp only [List.length_set]); assumption)); exact rfl; exact rfl; exact rfl) | (apply q_callU; exact rfl; exact rfl; exact rfl; exact FzL.of rfl; exact l26List_ro xs hs hn _) | (apply q_callU; exact rfl; exact rfl; exact rfl; exact FzL.of rfl; exact hSF _) | (apply q_callU; exact rfl; exact rfl; exact rfl; exact FzL.of rfl; exact hOk _) | (apply q_callU; exact rfl; exact rfl; exact rfl; exact FzL.of rfl; exact hW _)); (try simp only [put, rowsOf, plR, List.all_cons, selE, ovr, setH, del, cellsA, splice, isV, List.nil_append, List.cons_append, List.map_cons, List.map_nil, List.length_cons, List.length_nil, List.set_cons_zero, List.set_cons_succ, List.take_succ_cons, List.take_zero, List.take_nil, List.drop_succ_cons, List.drop_zero, List.drop_nil, List.append_nil, List.all_cons, List.all_nil, Bool.and_true, Bool.true_and, Bool.and_false, Bool.false_and, Nat.reduceAdd, Nat.zero_add, Nat.add_zero, Nat.reduceEqDiff, if_true, if_false, reduceIte]))
    | (show AW _ _ _ _ _ _ _ _; first | refine aw_region ?_ | (refine aw_seqk ?_; intro K hK) | refine aw_block ?_ | (apply aw_cond_f; exact rfl; exact rfl) | (apply aw_cond_f; exact rfl; exact (by assumption)) | refine aw_skip ?_)
    | refine thn_n ?_
    | (refine hK _ _ _ ?_; clear hK K))); all_goals (repeat (clear hK K)))
    refine aw_loop (ρ := id) (ι := Nat) (fun i => ([(11, .v (.int .i64 i)), (10, .sl 1 0 rs.length), (9, .ptr 0 0 0)], [(0, ⟨29, 11, false, [[.v (.string xs[m].id), .v (.string xs[m].ho), .v (.int .i64 xs[m].lo), .v (.int .i64 xs[m].hi), .v (.int .i64 xs[m].x), .v (.int .i64 xs[m].y), .v (.int .i64 xs[m].e), .v (.int .i64 xs[m].n), .v (.int .i64 xs[m].fr), .v (.int .i64 u), .v (.int .i64 xs[m].po)]]⟩), (1, ⟨29, 11, true, rs.map licL⟩)], 2))
      (fun i => i ≤ rs.length) (fun i => rs.length - i) 0 (Nat.zero_le _) ⟨by (repeat (refine ⟨by first | exact lk_i rfl rfl | exact lk_r rfl rfl rfl | exact lk_s rfl rfl rfl rfl, ?_⟩)); exact trivial, by (repeat (refine ⟨by first | exact ⟨rfl, rfl, rfl⟩, ?_⟩)); exact trivial, by rfl, by exact pin_0⟩ ?_
    intro i hi
    by_cases c2 : i < rs.length
    · have b2 : decide ((i : Int) < (rs.length : Int)) = true := by simpa using c2
      have hrow : (rs.map licL)[0 + ((i : Int)).toNat]? = some (licL rs[i]) := by simp [c2]
      have hrow' : (rs.map licL)[((i : Int)).toNat]? = some (licL rs[i]) := by simp [c2]
      have c3 : clB rs[i] x = false := by have := List.any_eq_false.1 c5 rs[i] (List.getElem_mem c2); simpa using this
      ((repeat' (first
    | (show SQ _ _ _ _ _ _ _ _; first | apply sq_nil | (apply q_move; exact rfl; exact rfl) | (apply q_assign; exact rfl; exact rfl) | (apply q_lenl; exact rfl; exact rfl; exact (ty rfl); exact rfl) | (apply q_add; exact rfl; exact rfl; exact rfl) | (apply q_lss; exact rfl; exact rfl; exact rfl) | (apply q_ixl; exact rfl; exact rfl; exact rfl; exact (ty rfl); exact rfl; exact rfl; exact rfl; exact (by first | omega | (simp; done) | (simp; omega)); exact (by first | omega | (simp; done) | (simp; omega))))
    | (show SQ _ _ _ _ _ _ _ _; (first | (apply q_callU; exact rfl; exact rfl; exact rfl; rotate_left; exact hC rs[i] _; rotate_right; focus ((repeat' (first | exact FzL.nil | exact (by assumption : FzC _) _ | refine FzL.cons ?_ ?_ | exact Fz.of rfl | exact Fz.nil | exact Fz.emp | (apply Fz.fnC; assumption) | (apply Fz.sl2; exact rfl; exact (by first | omega | (simp; done) | (simp; omega)); first | exact rfl | exact dt_full (by first | omega | (simp; done) | (simp; omega)) | assumption) | apply Fz.agg | (apply Fz.ptrL; exact rfl; first | exact rfl | assumption) | apply Fz.fnL)); done))); (try simp only [put, rowsOf, plR, List.all_cons, selE, ovr, setH, del, cellsA, splice, isV, List.nil_append, List.cons_append, List.map_cons, List.map_nil, List.length_cons, List.length_nil, List.set_cons_zero, List.set_cons_succ, List.take_succ_cons, List.take_zero, List.take_nil, List.drop_succ_cons, List.drop_zero, List.drop_nil, List.append_nil, List.all_cons, List.all_nil, Bool.and_true, Bool.true_and, Bool.and_false, Bool.false_and, Nat.reduceAdd, Nat.zero_add, Nat.add_zero, Nat.reduceEqDiff, if_true, if_false, reduceIte]))
    | (show AW _ _ _ _ _ _ _ _; first | refine aw_region ?_ | (refine aw_seqk ?_; intro K hK) | refine aw_block ?_ | (apply aw_cond_t; exact rfl; exact (by assumption)) | (apply aw_cond_f; exact rfl; exact (by assumption)) | refine aw_skip ?_)
    | refine thn_n ?_
    | (refine hK _ _ _ ?_; clear hK K)
    | refine inb_n ?_)); all_goals (repeat (clear hK K)))
      exact ⟨i + 1, id, c2, by omega, ⟨by (repeat (refine ⟨by first | exact lk_i rfl (by (try dsimp only); first | rfl | omega | (rw [IntWalk.i64_in _ (by omega)]; first | rfl | omega | (push_cast; omega)) | (simp; done) | (simp; omega)) | exact lk_r rfl rfl rfl | exact lk_s rfl rfl rfl rfl, ?_⟩)); exact trivial, by (repeat (refine ⟨by first | exact ⟨rfl, rfl, rfl⟩, ?_⟩)); exact trivial, by rfl, by exact pin_0⟩⟩
    · have b2 : decide ((i : Int) < (rs.length : Int)) = false := by simpa using c2
      ((repeat' (first
    | (show SQ _ _ _ _ _ _ _ _; first | apply sq_nil | (apply q_move; exact rfl; exact rfl) | (apply q_assign; exact rfl; exact rfl) | (apply q_lenl; exact rfl; exact rfl; exact (ty rfl); exact rfl) | (apply q_lss; exact rfl; exact rfl; exact rfl))
    | (show SQ _ _ _ _ _ _ _ _; (first | (apply q_ldap; exact rfl; exact rfl; exact (ty rfl); exact rfl; exact rfl; exact (by first | rfl | assumption | ((try simp only [Nat.zero_add]); refine List.getElem?_set_self ?_; (try simp only [List.length_set]); assumption)); exact rfl) | (apply q_callU; exact rfl; exact rfl; exact rfl; rotate_left; exact hPut _; rotate_right; focus ((repeat' (first | exact FzL.nil | exact (by assumption : FzC _) _ | refine FzL.cons ?_ ?_ | exact Fz.of rfl | exact Fz.nil | exact Fz.emp | (apply Fz.fnC; assumption) | (apply Fz.sl2; exact rfl; exact (by first | omega | (simp; done) | (simp; omega)); first | exact rfl | exact dt_full (by first | omega | (simp; done) | (simp; omega)) | assumption) | apply Fz.agg | (apply Fz.ptrL; exact rfl; first | exact rfl | assumption) | apply Fz.fnL)); done))); (try simp only [put, rowsOf, plR, List.all_cons, selE, ovr, setH, del, cellsA, splice, isV, List.nil_append, List.cons_append, List.map_cons, List.map_nil, List.length_cons, List.length_nil, List.set_cons_zero, List.set_cons_succ, List.take_succ_cons, List.take_zero, List.take_nil, List.drop_succ_cons, List.drop_zero, List.drop_nil, List.append_nil, List.all_cons, List.all_nil, Bool.and_true, Bool.true_and, Bool.and_false, Bool.false_and, Nat.reduceAdd, Nat.zero_add, Nat.add_zero, Nat.reduceEqDiff, if_true, if_false, reduceIte]))
    | (show AW _ _ _ _ _ _ _ _; first | refine aw_region ?_ | (refine aw_seqk ?_; intro K hK) | (apply aw_cond_f; exact rfl; exact (by assumption)) | refine aw_ret ?_ | refine aw_exit ?_)
    | refine thn_n ?_
    | (refine hK _ _ _ ?_; clear hK K)
    | refine thn_e ?_
    | refine inb_same ?_
    | (clear hK K; refine hK _ _ _ ?_; clear hK K))); all_goals (repeat (clear hK K)))
      exact fin_r (fin_m2 rfl rfl rfl _ _ (by simp; omega) rfl rfl)
end Go.Proofs.Ytiificaolakgdaa.Li
