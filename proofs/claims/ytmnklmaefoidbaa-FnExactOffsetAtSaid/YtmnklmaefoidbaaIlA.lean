/-
  Lists of numbers, for seats whose texts start with InA (from OvA, LkA, LkB).
-/
import Derived.Test.YtmnklmaefoidbaaInA
import Derived.Test.YtmnklmaefoidbaaAwL
import Derived.Test.YtmnklmaefoidbaaAwTy
import Derived.IntWalk
namespace Go.Proofs.Ytmnklmaefoidbaa.Il
open Go Go.RowKit Go.Proofs.Ytmnklmaefoidbaa.Aw Go.Proofs.Ytmnklmaefoidbaa.In
set_option linter.unusedSimpArgs false
set_option linter.unusedVariables false
attribute [local irreducible] AW SQ Step RO RC DE Thn InB

def inL (x : Int) : List AV := [.v (.int .i64 x)]
theorem inL_eq (x : Int) : inL x = [.v (.int .i64 x)] := rfl
def ramp {α : Type} (f : Nat → α) (xs : List α) (i : Nat) : List α := (List.range i).map f ++ xs.drop i
theorem ramp_get {α : Type} {f : Nat → α} {xs : List α} {i : Nat} (h : i < xs.length) : (ramp f xs i)[i]? = some xs[i] := by
  unfold ramp; rw [List.getElem?_append_right (by simp)]; simp [h]
theorem ramp_set {α : Type} {f : Nat → α} {xs : List α} {i : Nat} (h : i < xs.length) : (ramp f xs i).set i (f i) = ramp f xs (i + 1) := by
  unfold ramp
  rw [List.drop_eq_getElem_cons h, List.set_append_right _ _ (by simp), List.range_succ]
  simp only [List.length_map, List.length_range, Nat.sub_self, List.set_cons_zero, List.map_append, List.map_cons, List.map_nil, List.append_assoc, List.singleton_append]
theorem ramp_zero {α : Type} {f : Nat → α} {xs : List α} : ramp f xs 0 = xs := by simp [ramp]
theorem ramp_full {α : Type} {f : Nat → α} {xs : List α} : ramp f xs xs.length = (List.range xs.length).map f := by simp [ramp]
def inRows (xs : List Int) (i : Nat) : List (List AV) := (partR xs 0 i).map inL
theorem inRows_get {xs : List Int} {i : Nat} (h : i < xs.length) : (inRows xs i)[i]? = some (inL 0) := by
  unfold inRows; rw [List.getElem?_map, partR_get h]; rfl
theorem inRows_set {xs : List Int} {i : Nat} (h : i < xs.length) : (inRows xs i).set i (inL xs[i]) = inRows xs (i + 1) := by
  unfold inRows; rw [← List.map_set, partR_set h]
set_option maxHeartbeats 4000000 in
theorem toInt64S_ro (xs : List Int) (hn : xs.length ≤ 1048576) (k : Nat) : RO Try.prog 39 [.dsl 1 (xs.map inL)] k (.sl k 0 xs.length) [(k, ⟨2, 1, true, xs.map inL⟩)] (k + 1) := by
  refine RO.ofm (.sl 0 0 xs.length) ([(0, ⟨2, 1, true, xs.map inL⟩)]) 1 Try.func39 Try.ntmps39 rfl (goFn_of Try.func39 rfl (by kernel_rfl)) rfl rfl (by simp [renA, renL]) (by simp [shH, renB]) rfl ?_
  ((repeat' (first
    | (show SQ _ _ _ _ _ _ _ _; first | apply sq_nil | (apply q_move; exact rfl; exact rfl) | (apply q_assign; exact rfl; exact rfl) | (apply q_lens; exact rfl; exact rfl; exact (ty rfl); exact rfl) | (apply q_lend; exact rfl; exact rfl; exact (ty rfl); exact rfl) | (apply q_lenl; exact rfl; exact rfl; exact (ty rfl); exact rfl) | (apply q_lenn; exact rfl; exact rfl; exact (ty rfl); exact rfl) | (apply q_add; exact rfl; exact rfl; exact rfl) | (apply q_lss; exact rfl; exact rfl; exact rfl) | (apply q_slss; exact rfl; exact rfl; exact rfl) | (apply q_cat; exact rfl; exact rfl; exact rfl; exact (by first | omega | (simp <;> omega))) | (apply q_ixd; exact rfl; exact rfl; exact rfl; exact (ty rfl); exact rfl; exact (by first | omega | (simp <;> omega)); exact (by first | omega | (simp <;> omega)); exact (by first | rfl | assumption)) | (apply q_ixa; exact rfl; exact rfl; exact rfl; exact (ty rfl); exact rfl; exact (by first | omega | (simp <;> omega)); exact (by first | omega | (simp <;> omega)); exact rfl) | (apply q_ixl; exact rfl; exact rfl; exact rfl; exact (ty rfl); exact rfl; exact rfl; exact rfl; exact (by first | omega | (simp <;> omega)); exact (by first | omega | (simp <;> omega))) | (apply q_ld1d; exact rfl; exact rfl; exact (ty rfl); exact rfl; exact rfl) | (apply q_ld1p; exact rfl; exact rfl; exact (ty rfl); exact rfl; exact rfl; exact (by first | rfl | assumption); exact rfl))
    | (show SQ _ _ _ _ _ _ _ _; (first | (apply q_ldad; exact rfl; exact rfl; exact (ty rfl); exact rfl; exact rfl) | (apply q_ldap; exact rfl; exact rfl; exact (ty rfl); exact rfl; exact rfl; exact (by first | rfl | assumption); exact rfl) | (apply q_store; exact rfl; exact rfl; exact (ty rfl); exact rfl; exact (by first | rfl | assumption | ((try simp only [Nat.zero_add]); refine List.getElem?_set_self ?_; (try simp only [List.length_set]); assumption)); exact rfl; exact rfl; exact rfl) | (apply q_mks; exact rfl; exact rfl; exact rfl; exact (ty rfl); exact rfl; exact (by first | omega | (simp <;> omega)); exact (by first | omega | (simp <;> omega)); exact (by first | omega | (simp <;> omega)); exact (by first | omega | (simp <;> omega)); exact rfl; exact rfl)); (try simp only [put, rowsOf, plR, List.all_cons, selE, ovr, setH, del, cellsA, splice, isV, List.nil_append, List.cons_append, List.map_cons, List.map_nil, List.length_cons, List.length_nil, List.set_cons_zero, List.set_cons_succ, List.take_succ_cons, List.take_zero, List.take_nil, List.drop_succ_cons, List.drop_zero, List.drop_nil, List.append_nil, List.all_cons, List.all_nil, Bool.and_true, Bool.true_and, Bool.and_false, Bool.false_and, Nat.reduceAdd, Nat.zero_add, Nat.add_zero, Nat.reduceEqDiff, if_true, if_false, reduceIte]))
    | (show AW _ _ _ _ _ _ _ _; first | refine aw_region ?_ | (refine aw_seqk ?_; intro K hK) | refine aw_block ?_ | (apply aw_cond_t; exact rfl; exact rfl) | (apply aw_cond_f; exact rfl; exact rfl) | (apply aw_cond_t; exact rfl; exact (by assumption)) | (apply aw_cond_f; exact rfl; exact (by assumption)) | refine aw_ret ?_ | refine aw_exit ?_ | refine aw_skip ?_ | (apply aw_ite; exact rfl; all_goals intro h))
    | refine thn_n ?_
    | (refine hK _ _ _ ?_; clear hK K)
    | refine thn_e ?_
    | refine thn_r ?_
    | refine inb_same ?_
    | refine inb_ne rfl ?_
    | refine inb_n ?_
    | refine inb_r ?_
    | (clear hK K; refine hK _ _ _ ?_; clear hK K)
    | (clear hK K; clear hK K; refine hK _ _ _ ?_; clear hK K)
    | (clear hK K; clear hK K; clear hK K; refine hK _ _ _ ?_; clear hK K))); all_goals (repeat (clear hK K)))
  refine aw_loop (ρ := id) (ι := Nat) (fun i => ([(4, .v (.int .i64 i)), (3, .sl 0 0 xs.length), (0, .dsl 1 (xs.map inL))], [(0, ⟨2, 1, true, inRows xs i⟩)], 1))
    (fun i => i ≤ xs.length) (fun i => xs.length - i) 0 (Nat.zero_le _) ⟨by (repeat (refine ⟨by first | exact lk_i rfl rfl | exact lk_i rfl (by (try dsimp only); first | rfl | omega | (rw [IntWalk.i64_in _ (by omega)]; first | rfl | omega | (push_cast; omega)) | (simp; done) | (simp; omega)) | exact lk_d rfl rfl | exact lk_v rfl rfl | exact lk_r rfl rfl rfl | exact lk_s rfl rfl rfl rfl | exact lk_s rfl rfl (by (try dsimp only); first | rfl | omega | (rw [IntWalk.i64_in _ (by omega)]; first | rfl | omega | (push_cast; omega)) | (simp; done) | (simp; omega)) rfl | exact lk_p rfl rfl | exact lk_e rfl | exact lk_f rfl | exact lk_f rfl (renL_id _) (by assumption) | exact lk_v rfl (by (try dsimp only); first | rfl | assumption | (simp; done)) | exact lk_d rfl (by (try dsimp only); first | rfl | assumption | (simp; done)), ?_⟩)); exact trivial, by (repeat (refine ⟨by first | exact ⟨rfl, rfl, rfl⟩ | exact lkb rfl rfl rfl rfl rfl | exact lkb rfl rfl rfl (by (try dsimp only); first | rfl | (simp only [inRows, partR_zero, List.length_map, List.map_replicate]; rfl) | (simp only [inRows, partR_zero, List.length_map, List.map_replicate, Int.toNat_natCast]; rfl)) rfl | exact lkn rfl rfl (by rfl) (by rfl) rfl, ?_⟩)); exact trivial, by rfl, by first | exact pin_0 | (intro i hi; (try dsimp only); refine ⟨?_, ?_⟩ <;> first | rfl | omega | (simp; omega))⟩ ?_
  intro i hi
  by_cases c2 : i < xs.length
  · have b2 : decide ((i : Int) < ((xs.map inL).length : Int)) = true := by simpa using c2
    have hrow : (xs.map inL)[((i : Int)).toNat]? = some (inL xs[i]) := by simp [c2]
    rw [inL_eq] at hrow
    have hr2 : (inRows xs i)[0 + ((i : Int)).toNat]? = some (inL 0) := by simpa using inRows_get c2
    rw [inL_eq] at hr2
    ((repeat' (first
    | (show SQ _ _ _ _ _ _ _ _; first | apply sq_nil | (apply q_move; exact rfl; exact rfl) | (apply q_assign; exact rfl; exact rfl) | (apply q_lens; exact rfl; exact rfl; exact (ty rfl); exact rfl) | (apply q_lend; exact rfl; exact rfl; exact (ty rfl); exact rfl) | (apply q_lenl; exact rfl; exact rfl; exact (ty rfl); exact rfl) | (apply q_lenn; exact rfl; exact rfl; exact (ty rfl); exact rfl) | (apply q_add; exact rfl; exact rfl; exact rfl) | (apply q_lss; exact rfl; exact rfl; exact rfl) | (apply q_slss; exact rfl; exact rfl; exact rfl) | (apply q_cat; exact rfl; exact rfl; exact rfl; exact (by first | omega | (simp <;> omega))) | (apply q_ixd; exact rfl; exact rfl; exact rfl; exact (ty rfl); exact rfl; exact (by first | omega | (simp <;> omega)); exact (by first | omega | (simp <;> omega)); exact (by first | rfl | assumption)) | (apply q_ixa; exact rfl; exact rfl; exact rfl; exact (ty rfl); exact rfl; exact (by first | omega | (simp <;> omega)); exact (by first | omega | (simp <;> omega)); exact rfl) | (apply q_ixl; exact rfl; exact rfl; exact rfl; exact (ty rfl); exact rfl; exact rfl; exact rfl; exact (by first | omega | (simp <;> omega)); exact (by first | omega | (simp <;> omega))) | (apply q_ld1d; exact rfl; exact rfl; exact (ty rfl); exact rfl; exact rfl) | (apply q_ld1p; exact rfl; exact rfl; exact (ty rfl); exact rfl; exact rfl; exact (by first | rfl | assumption); exact rfl))
    | (show SQ _ _ _ _ _ _ _ _; (first | (apply q_ldad; exact rfl; exact rfl; exact (ty rfl); exact rfl; exact rfl) | (apply q_ldap; exact rfl; exact rfl; exact (ty rfl); exact rfl; exact rfl; exact (by first | rfl | assumption); exact rfl) | (apply q_store; exact rfl; exact rfl; exact (ty rfl); exact rfl; exact (by first | rfl | assumption | ((try simp only [Nat.zero_add]); refine List.getElem?_set_self ?_; (try simp only [List.length_set]); assumption)); exact rfl; exact rfl; exact rfl) | (apply q_mks; exact rfl; exact rfl; exact rfl; exact (ty rfl); exact rfl; exact (by first | omega | (simp <;> omega)); exact (by first | omega | (simp <;> omega)); exact (by first | omega | (simp <;> omega)); exact (by first | omega | (simp <;> omega)); exact rfl; exact rfl)); (try simp only [put, rowsOf, plR, List.all_cons, selE, ovr, setH, del, cellsA, splice, isV, List.nil_append, List.cons_append, List.map_cons, List.map_nil, List.length_cons, List.length_nil, List.set_cons_zero, List.set_cons_succ, List.take_succ_cons, List.take_zero, List.take_nil, List.drop_succ_cons, List.drop_zero, List.drop_nil, List.append_nil, List.all_cons, List.all_nil, Bool.and_true, Bool.true_and, Bool.and_false, Bool.false_and, Nat.reduceAdd, Nat.zero_add, Nat.add_zero, Nat.reduceEqDiff, if_true, if_false, reduceIte]))
    | (show AW _ _ _ _ _ _ _ _; first | refine aw_region ?_ | (refine aw_seqk ?_; intro K hK) | refine aw_block ?_ | (apply aw_cond_t; exact rfl; exact rfl) | (apply aw_cond_f; exact rfl; exact rfl) | (apply aw_cond_t; exact rfl; exact (by assumption)) | (apply aw_cond_f; exact rfl; exact (by assumption)) | refine aw_ret ?_ | refine aw_exit ?_ | refine aw_skip ?_ | (apply aw_ite; exact rfl; all_goals intro h))
    | refine thn_n ?_
    | (refine hK _ _ _ ?_; clear hK K)
    | refine thn_e ?_
    | refine thn_r ?_
    | refine inb_same ?_
    | refine inb_ne rfl ?_
    | refine inb_n ?_
    | refine inb_r ?_
    | (clear hK K; refine hK _ _ _ ?_; clear hK K)
    | (clear hK K; clear hK K; refine hK _ _ _ ?_; clear hK K)
    | (clear hK K; clear hK K; clear hK K; refine hK _ _ _ ?_; clear hK K))); all_goals (repeat (clear hK K)))
    exact ⟨i + 1, id, c2, by omega, ⟨by (repeat (refine ⟨by first | exact lk_i rfl rfl | exact lk_i rfl (by (try dsimp only); first | rfl | omega | (rw [IntWalk.i64_in _ (by omega)]; first | rfl | omega | (push_cast; omega)) | (simp; done) | (simp; omega)) | exact lk_d rfl rfl | exact lk_v rfl rfl | exact lk_r rfl rfl rfl | exact lk_s rfl rfl rfl rfl | exact lk_s rfl rfl (by (try dsimp only); first | rfl | omega | (rw [IntWalk.i64_in _ (by omega)]; first | rfl | omega | (push_cast; omega)) | (simp; done) | (simp; omega)) rfl | exact lk_p rfl rfl | exact lk_e rfl | exact lk_f rfl | exact lk_f rfl (renL_id _) (by assumption) | exact lk_v rfl (by (try dsimp only); first | rfl | assumption | (simp; done)) | exact lk_d rfl (by (try dsimp only); first | rfl | assumption | (simp; done)), ?_⟩)); exact trivial, by (repeat (refine ⟨by first | exact ⟨rfl, rfl, rfl⟩ | exact lkb rfl rfl rfl rfl rfl | exact lkb rfl rfl rfl (by rw [← inRows_set c2]; simp; rfl) rfl | exact lkn rfl rfl (by rfl) (by rfl) rfl, ?_⟩)); exact trivial, by rfl, by first | exact pin_0 | (intro i hi; (try dsimp only); refine ⟨?_, ?_⟩ <;> first | rfl | omega | (simp; omega))⟩⟩
  · have b2 : decide ((i : Int) < ((xs.map inL).length : Int)) = false := by simpa using c2
    ((repeat' (first
    | (show SQ _ _ _ _ _ _ _ _; first | apply sq_nil | (apply q_move; exact rfl; exact rfl) | (apply q_assign; exact rfl; exact rfl) | (apply q_lens; exact rfl; exact rfl; exact (ty rfl); exact rfl) | (apply q_lend; exact rfl; exact rfl; exact (ty rfl); exact rfl) | (apply q_lenl; exact rfl; exact rfl; exact (ty rfl); exact rfl) | (apply q_lenn; exact rfl; exact rfl; exact (ty rfl); exact rfl) | (apply q_add; exact rfl; exact rfl; exact rfl) | (apply q_lss; exact rfl; exact rfl; exact rfl) | (apply q_slss; exact rfl; exact rfl; exact rfl) | (apply q_cat; exact rfl; exact rfl; exact rfl; exact (by first | omega | (simp <;> omega))) | (apply q_ixd; exact rfl; exact rfl; exact rfl; exact (ty rfl); exact rfl; exact (by first | omega | (simp <;> omega)); exact (by first | omega | (simp <;> omega)); exact (by first | rfl | assumption)) | (apply q_ixa; exact rfl; exact rfl; exact rfl; exact (ty rfl); exact rfl; exact (by first | omega | (simp <;> omega)); exact (by first | omega | (simp <;> omega)); exact rfl) | (apply q_ixl; exact rfl; exact rfl; exact rfl; exact (ty rfl); exact rfl; exact rfl; exact rfl; exact (by first | omega | (simp <;> omega)); exact (by first | omega | (simp <;> omega))) | (apply q_ld1d; exact rfl; exact rfl; exact (ty rfl); exact rfl; exact rfl) | (apply q_ld1p; exact rfl; exact rfl; exact (ty rfl); exact rfl; exact rfl; exact (by first | rfl | assumption); exact rfl))
    | (show SQ _ _ _ _ _ _ _ _; (first | (apply q_ldad; exact rfl; exact rfl; exact (ty rfl); exact rfl; exact rfl) | (apply q_ldap; exact rfl; exact rfl; exact (ty rfl); exact rfl; exact rfl; exact (by first | rfl | assumption); exact rfl) | (apply q_store; exact rfl; exact rfl; exact (ty rfl); exact rfl; exact (by first | rfl | assumption | ((try simp only [Nat.zero_add]); refine List.getElem?_set_self ?_; (try simp only [List.length_set]); assumption)); exact rfl; exact rfl; exact rfl) | (apply q_mks; exact rfl; exact rfl; exact rfl; exact (ty rfl); exact rfl; exact (by first | omega | (simp <;> omega)); exact (by first | omega | (simp <;> omega)); exact (by first | omega | (simp <;> omega)); exact (by first | omega | (simp <;> omega)); exact rfl; exact rfl)); (try simp only [put, rowsOf, plR, List.all_cons, selE, ovr, setH, del, cellsA, splice, isV, List.nil_append, List.cons_append, List.map_cons, List.map_nil, List.length_cons, List.length_nil, List.set_cons_zero, List.set_cons_succ, List.take_succ_cons, List.take_zero, List.take_nil, List.drop_succ_cons, List.drop_zero, List.drop_nil, List.append_nil, List.all_cons, List.all_nil, Bool.and_true, Bool.true_and, Bool.and_false, Bool.false_and, Nat.reduceAdd, Nat.zero_add, Nat.add_zero, Nat.reduceEqDiff, if_true, if_false, reduceIte]))
    | (show AW _ _ _ _ _ _ _ _; first | refine aw_region ?_ | (refine aw_seqk ?_; intro K hK) | refine aw_block ?_ | (apply aw_cond_t; exact rfl; exact rfl) | (apply aw_cond_f; exact rfl; exact rfl) | (apply aw_cond_t; exact rfl; exact (by assumption)) | (apply aw_cond_f; exact rfl; exact (by assumption)) | refine aw_ret ?_ | refine aw_exit ?_ | refine aw_skip ?_ | (apply aw_ite; exact rfl; all_goals intro h))
    | refine thn_n ?_
    | (refine hK _ _ _ ?_; clear hK K)
    | refine thn_e ?_
    | refine thn_r ?_
    | refine inb_same ?_
    | refine inb_ne rfl ?_
    | refine inb_n ?_
    | refine inb_r ?_
    | (clear hK K; refine hK _ _ _ ?_; clear hK K)
    | (clear hK K; clear hK K; refine hK _ _ _ ?_; clear hK K)
    | (clear hK K; clear hK K; clear hK K; refine hK _ _ _ ?_; clear hK K))); all_goals (repeat (clear hK K)))
    exact fin_r (fin_m rfl rfl _ _ rfl (by simp only [inRows]; rw [partR_full (by omega)]))
set_option maxHeartbeats 4000000 in
theorem eqInt64S_ro (xs : List Int) (hn : xs.length ≤ 1048576) (k : Nat) : RO Try.prog 42 [.dsl 1 (xs.map inL), .dsl 1 (xs.map inL)] k (.v (.bool true)) [] k := by
  have b1 : (((xs.map inL).length : Int) != ((xs.map inL).length : Int)) = false := by simp
  refine RO.ofv' Try.func42 Try.ntmps42 rfl (goFn_of Try.func42 rfl (by kernel_rfl)) rfl rfl ?_
  ((repeat' (first
    | (show SQ _ _ _ _ _ _ _ _; first | apply sq_nil | (apply q_move; exact rfl; exact rfl) | (apply q_assign; exact rfl; exact rfl) | (apply q_lens; exact rfl; exact rfl; exact (ty rfl); exact rfl) | (apply q_lend; exact rfl; exact rfl; exact (ty rfl); exact rfl) | (apply q_lenl; exact rfl; exact rfl; exact (ty rfl); exact rfl) | (apply q_lenn; exact rfl; exact rfl; exact (ty rfl); exact rfl) | (apply q_add; exact rfl; exact rfl; exact rfl) | (apply q_neq; exact rfl; exact rfl; exact rfl) | (apply q_lss; exact rfl; exact rfl; exact rfl) | (apply q_sneq; exact rfl; exact rfl; exact rfl) | (apply q_slss; exact rfl; exact rfl; exact rfl) | (apply q_cat; exact rfl; exact rfl; exact rfl; exact (by first | omega | (simp <;> omega))) | (apply q_bneq; exact rfl; exact rfl; exact rfl; exact (ty rfl); exact rfl) | (apply q_ixd; exact rfl; exact rfl; exact rfl; exact (ty rfl); exact rfl; exact (by first | omega | (simp <;> omega)); exact (by first | omega | (simp <;> omega)); exact (by first | rfl | assumption)) | (apply q_ixa; exact rfl; exact rfl; exact rfl; exact (ty rfl); exact rfl; exact (by first | omega | (simp <;> omega)); exact (by first | omega | (simp <;> omega)); exact rfl) | (apply q_ixl; exact rfl; exact rfl; exact rfl; exact (ty rfl); exact rfl; exact rfl; exact rfl; exact (by first | omega | (simp <;> omega)); exact (by first | omega | (simp <;> omega))) | (apply q_ld1d; exact rfl; exact rfl; exact (ty rfl); exact rfl; exact rfl) | (apply q_ld1p; exact rfl; exact rfl; exact (ty rfl); exact rfl; exact rfl; exact (by first | rfl | assumption); exact rfl) | (apply q_nea; exact rfl; exact rfl; exact rfl; kernel_rfl; assumption; exact rfl; exact rfl) | (apply q_nil_nv; exact rfl; exact rfl; exact rfl; exact (ty rfl); exact rfl) | (apply q_nil_nl; exact rfl; exact rfl; exact rfl; exact (ty rfl); exact rfl; exact (by first | omega | (simp <;> omega))))
    | (show SQ _ _ _ _ _ _ _ _; (first | (apply q_ldad; exact rfl; exact rfl; exact (ty rfl); exact rfl; exact rfl) | (apply q_ldap; exact rfl; exact rfl; exact (ty rfl); exact rfl; exact rfl; exact (by first | rfl | assumption); exact rfl)); (try simp only [put, rowsOf, plR, List.all_cons, selE, ovr, setH, del, cellsA, splice, isV, List.nil_append, List.cons_append, List.map_cons, List.map_nil, List.length_cons, List.length_nil, List.set_cons_zero, List.set_cons_succ, List.take_succ_cons, List.take_zero, List.take_nil, List.drop_succ_cons, List.drop_zero, List.drop_nil, List.append_nil, List.all_cons, List.all_nil, Bool.and_true, Bool.true_and, Bool.and_false, Bool.false_and, Nat.reduceAdd, Nat.zero_add, Nat.add_zero, Nat.reduceEqDiff, if_true, if_false, reduceIte]))
    | (show DE _ _ _ _ _ _ _ _ _ _ _ _; first | (apply e_move; exact rfl; exact rfl; exact rfl) | (apply e_assign; exact rfl; exact rfl; exact rfl) | (apply e_lens; exact rfl; exact rfl; exact (ty rfl); exact rfl; exact rfl) | (apply e_lend; exact rfl; exact rfl; exact (ty rfl); exact rfl; exact rfl) | (apply e_lenl; exact rfl; exact rfl; exact (ty rfl); exact rfl; exact rfl) | (apply e_lenn; exact rfl; exact rfl; exact (ty rfl); exact rfl; exact rfl) | (apply e_add; exact rfl; exact rfl; exact rfl; exact rfl) | (apply e_neq; exact rfl; exact rfl; exact rfl; exact rfl) | (apply e_lss; exact rfl; exact rfl; exact rfl; exact rfl) | (apply e_sneq; exact rfl; exact rfl; exact rfl; exact rfl) | (apply e_slss; exact rfl; exact rfl; exact rfl; exact rfl) | (apply e_cat; exact rfl; exact rfl; exact rfl; exact (by first | omega | (simp <;> omega)); exact rfl) | (apply e_bneq; exact rfl; exact rfl; exact rfl; exact (ty rfl); exact rfl; exact rfl) | (apply e_ixd; exact rfl; exact rfl; exact rfl; exact (ty rfl); exact rfl; exact (by first | omega | (simp <;> omega)); exact (by first | omega | (simp <;> omega)); exact (by first | rfl | assumption); exact rfl) | (apply e_ixa; exact rfl; exact rfl; exact rfl; exact (ty rfl); exact rfl; exact (by first | omega | (simp <;> omega)); exact (by first | omega | (simp <;> omega)); exact rfl; exact rfl) | (apply e_ixl; exact rfl; exact rfl; exact rfl; exact (ty rfl); exact rfl; exact rfl; exact rfl; exact (by first | omega | (simp <;> omega)); exact (by first | omega | (simp <;> omega)); exact rfl) | (apply e_ld1d; exact rfl; exact rfl; exact (ty rfl); exact rfl; exact rfl; exact rfl) | (apply e_ld1p; exact rfl; exact rfl; exact (ty rfl); exact rfl; exact rfl; exact (by first | rfl | assumption); exact rfl; exact rfl) | (apply e_nea; exact rfl; exact rfl; exact rfl; kernel_rfl; assumption; exact rfl; exact rfl; exact rfl) | (apply e_nil_nv; exact rfl; exact rfl; exact rfl; exact (ty rfl); exact rfl; exact rfl) | (apply e_nil_nl; exact rfl; exact rfl; exact rfl; exact (ty rfl); exact rfl; exact (by first | omega | (simp <;> omega)); exact rfl))
    | (show DE _ _ _ _ _ _ _ _ _ _ _ _; (first | apply dr_nil | (apply e_ldad; exact rfl; exact rfl; exact (ty rfl); exact rfl; exact rfl; exact rfl) | (apply e_ldap; exact rfl; exact rfl; exact (ty rfl); exact rfl; exact rfl; exact (by first | rfl | assumption); exact rfl; exact rfl)); (try simp only [put, rowsOf, plR, List.all_cons, selE, ovr, setH, del, cellsA, splice, isV, List.nil_append, List.cons_append, List.map_cons, List.map_nil, List.length_cons, List.length_nil, List.set_cons_zero, List.set_cons_succ, List.take_succ_cons, List.take_zero, List.take_nil, List.drop_succ_cons, List.drop_zero, List.drop_nil, List.append_nil, List.all_cons, List.all_nil, Bool.and_true, Bool.true_and, Bool.and_false, Bool.false_and, Nat.reduceAdd, Nat.zero_add, Nat.add_zero, Nat.reduceEqDiff, if_true, if_false, reduceIte]))
    | (show AW _ _ _ _ _ _ _ _; first | refine aw_region ?_ | (refine aw_seqk ?_; intro K hK) | refine aw_block ?_ | (apply aw_cond_t; exact rfl; exact rfl) | (apply aw_cond_f; exact rfl; exact rfl) | (apply aw_cond_t; exact rfl; exact (by assumption)) | (apply aw_cond_f; exact rfl; exact (by assumption)) | refine aw_ret ?_ | refine aw_exit ?_ | refine aw_skip ?_ | refine aw_drawE (id := 6) [0, 0, 3, 7, 0, 0, 48, 112, 255] [0, 0, 0, 1, 0, 0, 0, 1, 0] mixed (by kernel_rfl) ?_ | (apply aw_ite; exact rfl; all_goals intro h))
    | refine thn_n ?_
    | (refine hK _ _ _ ?_; clear hK K)
    | refine thn_e ?_
    | refine thn_r ?_
    | refine inb_same ?_
    | refine inb_ne rfl ?_
    | refine inb_n ?_
    | refine inb_r ?_
    | (clear hK K; refine hK _ _ _ ?_; clear hK K)
    | (clear hK K; clear hK K; refine hK _ _ _ ?_; clear hK K)
    | (clear hK K; clear hK K; clear hK K; refine hK _ _ _ ?_; clear hK K))); all_goals (repeat (clear hK K)))
  refine aw_loop (ρ := id) (ι := Nat) (fun i => ([(5, .v (.int .i64 i)), (1, .dsl 1 (xs.map inL)), (0, .dsl 1 (xs.map inL))], [], 0))
    (fun i => i ≤ xs.length) (fun i => xs.length - i) 0 (Nat.zero_le _) ⟨by (repeat (refine ⟨by first | exact lk_i rfl rfl | exact lk_i rfl (by (try dsimp only); first | rfl | omega | (rw [IntWalk.i64_in _ (by omega)]; first | rfl | omega | (push_cast; omega)) | (simp; done) | (simp; omega)) | exact lk_d rfl rfl | exact lk_v rfl rfl | exact lk_r rfl rfl rfl | exact lk_s rfl rfl rfl rfl | exact lk_s rfl rfl (by (try dsimp only); first | rfl | omega | (rw [IntWalk.i64_in _ (by omega)]; first | rfl | omega | (push_cast; omega)) | (simp; done) | (simp; omega)) rfl | exact lk_p rfl rfl | exact lk_e rfl | exact lk_f rfl | exact lk_f rfl (renL_id _) (by assumption) | exact lk_v rfl (by (try dsimp only); first | rfl | assumption | (simp; done)) | exact lk_d rfl (by (try dsimp only); first | rfl | assumption | (simp; done)), ?_⟩)); exact trivial, by (repeat (refine ⟨by first | exact ⟨rfl, rfl, rfl⟩ | exact lkb rfl rfl rfl rfl rfl | exact lkb rfl rfl rfl (by (try dsimp only); first | rfl | assumption | (simp; done)) rfl | exact lkn rfl rfl (by rfl) (by rfl) rfl, ?_⟩)); exact trivial, by rfl, by first | exact pin_0 | (intro i hi; (try dsimp only); refine ⟨?_, ?_⟩ <;> first | rfl | omega | (simp; omega))⟩ ?_
  intro i hi
  by_cases c2 : i < xs.length
  · have b2 : decide ((i : Int) < ((xs.map inL).length : Int)) = true := by simpa using c2
    have hrow : (xs.map inL)[((i : Int)).toNat]? = some (inL xs[i]) := by simp [c2]
    rw [inL_eq] at hrow
    have b3 : (xs[i] != xs[i]) = false := by simp
    ((repeat' (first
    | (show SQ _ _ _ _ _ _ _ _; first | apply sq_nil | (apply q_move; exact rfl; exact rfl) | (apply q_assign; exact rfl; exact rfl) | (apply q_lens; exact rfl; exact rfl; exact (ty rfl); exact rfl) | (apply q_lend; exact rfl; exact rfl; exact (ty rfl); exact rfl) | (apply q_lenl; exact rfl; exact rfl; exact (ty rfl); exact rfl) | (apply q_lenn; exact rfl; exact rfl; exact (ty rfl); exact rfl) | (apply q_add; exact rfl; exact rfl; exact rfl) | (apply q_neq; exact rfl; exact rfl; exact rfl) | (apply q_lss; exact rfl; exact rfl; exact rfl) | (apply q_sneq; exact rfl; exact rfl; exact rfl) | (apply q_slss; exact rfl; exact rfl; exact rfl) | (apply q_cat; exact rfl; exact rfl; exact rfl; exact (by first | omega | (simp <;> omega))) | (apply q_bneq; exact rfl; exact rfl; exact rfl; exact (ty rfl); exact rfl) | (apply q_ixd; exact rfl; exact rfl; exact rfl; exact (ty rfl); exact rfl; exact (by first | omega | (simp <;> omega)); exact (by first | omega | (simp <;> omega)); exact (by first | rfl | assumption)) | (apply q_ixa; exact rfl; exact rfl; exact rfl; exact (ty rfl); exact rfl; exact (by first | omega | (simp <;> omega)); exact (by first | omega | (simp <;> omega)); exact rfl) | (apply q_ixl; exact rfl; exact rfl; exact rfl; exact (ty rfl); exact rfl; exact rfl; exact rfl; exact (by first | omega | (simp <;> omega)); exact (by first | omega | (simp <;> omega))) | (apply q_ld1d; exact rfl; exact rfl; exact (ty rfl); exact rfl; exact rfl) | (apply q_ld1p; exact rfl; exact rfl; exact (ty rfl); exact rfl; exact rfl; exact (by first | rfl | assumption); exact rfl) | (apply q_nea; exact rfl; exact rfl; exact rfl; kernel_rfl; assumption; exact rfl; exact rfl) | (apply q_nil_nv; exact rfl; exact rfl; exact rfl; exact (ty rfl); exact rfl) | (apply q_nil_nl; exact rfl; exact rfl; exact rfl; exact (ty rfl); exact rfl; exact (by first | omega | (simp <;> omega))))
    | (show SQ _ _ _ _ _ _ _ _; (first | (apply q_ldad; exact rfl; exact rfl; exact (ty rfl); exact rfl; exact rfl) | (apply q_ldap; exact rfl; exact rfl; exact (ty rfl); exact rfl; exact rfl; exact (by first | rfl | assumption); exact rfl)); (try simp only [put, rowsOf, plR, List.all_cons, selE, ovr, setH, del, cellsA, splice, isV, List.nil_append, List.cons_append, List.map_cons, List.map_nil, List.length_cons, List.length_nil, List.set_cons_zero, List.set_cons_succ, List.take_succ_cons, List.take_zero, List.take_nil, List.drop_succ_cons, List.drop_zero, List.drop_nil, List.append_nil, List.all_cons, List.all_nil, Bool.and_true, Bool.true_and, Bool.and_false, Bool.false_and, Nat.reduceAdd, Nat.zero_add, Nat.add_zero, Nat.reduceEqDiff, if_true, if_false, reduceIte]))
    | (show DE _ _ _ _ _ _ _ _ _ _ _ _; first | (apply e_move; exact rfl; exact rfl; exact rfl) | (apply e_assign; exact rfl; exact rfl; exact rfl) | (apply e_lens; exact rfl; exact rfl; exact (ty rfl); exact rfl; exact rfl) | (apply e_lend; exact rfl; exact rfl; exact (ty rfl); exact rfl; exact rfl) | (apply e_lenl; exact rfl; exact rfl; exact (ty rfl); exact rfl; exact rfl) | (apply e_lenn; exact rfl; exact rfl; exact (ty rfl); exact rfl; exact rfl) | (apply e_add; exact rfl; exact rfl; exact rfl; exact rfl) | (apply e_neq; exact rfl; exact rfl; exact rfl; exact rfl) | (apply e_lss; exact rfl; exact rfl; exact rfl; exact rfl) | (apply e_sneq; exact rfl; exact rfl; exact rfl; exact rfl) | (apply e_slss; exact rfl; exact rfl; exact rfl; exact rfl) | (apply e_cat; exact rfl; exact rfl; exact rfl; exact (by first | omega | (simp <;> omega)); exact rfl) | (apply e_bneq; exact rfl; exact rfl; exact rfl; exact (ty rfl); exact rfl; exact rfl) | (apply e_ixd; exact rfl; exact rfl; exact rfl; exact (ty rfl); exact rfl; exact (by first | omega | (simp <;> omega)); exact (by first | omega | (simp <;> omega)); exact (by first | rfl | assumption); exact rfl) | (apply e_ixa; exact rfl; exact rfl; exact rfl; exact (ty rfl); exact rfl; exact (by first | omega | (simp <;> omega)); exact (by first | omega | (simp <;> omega)); exact rfl; exact rfl) | (apply e_ixl; exact rfl; exact rfl; exact rfl; exact (ty rfl); exact rfl; exact rfl; exact rfl; exact (by first | omega | (simp <;> omega)); exact (by first | omega | (simp <;> omega)); exact rfl) | (apply e_ld1d; exact rfl; exact rfl; exact (ty rfl); exact rfl; exact rfl; exact rfl) | (apply e_ld1p; exact rfl; exact rfl; exact (ty rfl); exact rfl; exact rfl; exact (by first | rfl | assumption); exact rfl; exact rfl) | (apply e_nea; exact rfl; exact rfl; exact rfl; kernel_rfl; assumption; exact rfl; exact rfl; exact rfl) | (apply e_nil_nv; exact rfl; exact rfl; exact rfl; exact (ty rfl); exact rfl; exact rfl) | (apply e_nil_nl; exact rfl; exact rfl; exact rfl; exact (ty rfl); exact rfl; exact (by first | omega | (simp <;> omega)); exact rfl))
    | (show DE _ _ _ _ _ _ _ _ _ _ _ _; (first | apply dr_nil | (apply e_ldad; exact rfl; exact rfl; exact (ty rfl); exact rfl; exact rfl; exact rfl) | (apply e_ldap; exact rfl; exact rfl; exact (ty rfl); exact rfl; exact rfl; exact (by first | rfl | assumption); exact rfl; exact rfl)); (try simp only [put, rowsOf, plR, List.all_cons, selE, ovr, setH, del, cellsA, splice, isV, List.nil_append, List.cons_append, List.map_cons, List.map_nil, List.length_cons, List.length_nil, List.set_cons_zero, List.set_cons_succ, List.take_succ_cons, List.take_zero, List.take_nil, List.drop_succ_cons, List.drop_zero, List.drop_nil, List.append_nil, List.all_cons, List.all_nil, Bool.and_true, Bool.true_and, Bool.and_false, Bool.false_and, Nat.reduceAdd, Nat.zero_add, Nat.add_zero, Nat.reduceEqDiff, if_true, if_false, reduceIte]))
    | (show AW _ _ _ _ _ _ _ _; first | refine aw_region ?_ | (refine aw_seqk ?_; intro K hK) | refine aw_block ?_ | (apply aw_cond_t; exact rfl; exact rfl) | (apply aw_cond_f; exact rfl; exact rfl) | (apply aw_cond_t; exact rfl; exact (by assumption)) | (apply aw_cond_f; exact rfl; exact (by assumption)) | refine aw_ret ?_ | refine aw_exit ?_ | refine aw_skip ?_ | refine aw_drawE (id := 6) [0, 0, 3, 7, 0, 0, 48, 112, 255] [0, 0, 0, 1, 0, 0, 0, 1, 0] mixed (by kernel_rfl) ?_ | (apply aw_ite; exact rfl; all_goals intro h))
    | refine thn_n ?_
    | (refine hK _ _ _ ?_; clear hK K)
    | refine thn_e ?_
    | refine thn_r ?_
    | refine inb_same ?_
    | refine inb_ne rfl ?_
    | refine inb_n ?_
    | refine inb_r ?_
    | (clear hK K; refine hK _ _ _ ?_; clear hK K)
    | (clear hK K; clear hK K; refine hK _ _ _ ?_; clear hK K)
    | (clear hK K; clear hK K; clear hK K; refine hK _ _ _ ?_; clear hK K))); all_goals (repeat (clear hK K)))
    exact ⟨i + 1, id, c2, by omega, ⟨by (repeat (refine ⟨by first | exact lk_i rfl rfl | exact lk_i rfl (by (try dsimp only); first | rfl | omega | (rw [IntWalk.i64_in _ (by omega)]; first | rfl | omega | (push_cast; omega)) | (simp; done) | (simp; omega)) | exact lk_d rfl rfl | exact lk_v rfl rfl | exact lk_r rfl rfl rfl | exact lk_s rfl rfl rfl rfl | exact lk_s rfl rfl (by (try dsimp only); first | rfl | omega | (rw [IntWalk.i64_in _ (by omega)]; first | rfl | omega | (push_cast; omega)) | (simp; done) | (simp; omega)) rfl | exact lk_p rfl rfl | exact lk_e rfl | exact lk_f rfl | exact lk_f rfl (renL_id _) (by assumption) | exact lk_v rfl (by (try dsimp only); first | rfl | assumption | (simp; done)) | exact lk_d rfl (by (try dsimp only); first | rfl | assumption | (simp; done)), ?_⟩)); exact trivial, by (repeat (refine ⟨by first | exact ⟨rfl, rfl, rfl⟩ | exact lkb rfl rfl rfl rfl rfl | exact lkb rfl rfl rfl (by (try dsimp only); first | rfl | assumption | (simp; done)) rfl | exact lkn rfl rfl (by rfl) (by rfl) rfl, ?_⟩)); exact trivial, by rfl, by first | exact pin_0 | (intro i hi; (try dsimp only); refine ⟨?_, ?_⟩ <;> first | rfl | omega | (simp; omega))⟩⟩
  · have b2 : decide ((i : Int) < ((xs.map inL).length : Int)) = false := by simpa using c2
    ((repeat' (first
    | (show SQ _ _ _ _ _ _ _ _; first | apply sq_nil | (apply q_move; exact rfl; exact rfl) | (apply q_assign; exact rfl; exact rfl) | (apply q_lens; exact rfl; exact rfl; exact (ty rfl); exact rfl) | (apply q_lend; exact rfl; exact rfl; exact (ty rfl); exact rfl) | (apply q_lenl; exact rfl; exact rfl; exact (ty rfl); exact rfl) | (apply q_lenn; exact rfl; exact rfl; exact (ty rfl); exact rfl) | (apply q_add; exact rfl; exact rfl; exact rfl) | (apply q_neq; exact rfl; exact rfl; exact rfl) | (apply q_lss; exact rfl; exact rfl; exact rfl) | (apply q_sneq; exact rfl; exact rfl; exact rfl) | (apply q_slss; exact rfl; exact rfl; exact rfl) | (apply q_cat; exact rfl; exact rfl; exact rfl; exact (by first | omega | (simp <;> omega))) | (apply q_bneq; exact rfl; exact rfl; exact rfl; exact (ty rfl); exact rfl) | (apply q_ixd; exact rfl; exact rfl; exact rfl; exact (ty rfl); exact rfl; exact (by first | omega | (simp <;> omega)); exact (by first | omega | (simp <;> omega)); exact (by first | rfl | assumption)) | (apply q_ixa; exact rfl; exact rfl; exact rfl; exact (ty rfl); exact rfl; exact (by first | omega | (simp <;> omega)); exact (by first | omega | (simp <;> omega)); exact rfl) | (apply q_ixl; exact rfl; exact rfl; exact rfl; exact (ty rfl); exact rfl; exact rfl; exact rfl; exact (by first | omega | (simp <;> omega)); exact (by first | omega | (simp <;> omega))) | (apply q_ld1d; exact rfl; exact rfl; exact (ty rfl); exact rfl; exact rfl) | (apply q_ld1p; exact rfl; exact rfl; exact (ty rfl); exact rfl; exact rfl; exact (by first | rfl | assumption); exact rfl) | (apply q_nea; exact rfl; exact rfl; exact rfl; kernel_rfl; assumption; exact rfl; exact rfl) | (apply q_nil_nv; exact rfl; exact rfl; exact rfl; exact (ty rfl); exact rfl) | (apply q_nil_nl; exact rfl; exact rfl; exact rfl; exact (ty rfl); exact rfl; exact (by first | omega | (simp <;> omega))))
    | (show SQ _ _ _ _ _ _ _ _; (first | (apply q_ldad; exact rfl; exact rfl; exact (ty rfl); exact rfl; exact rfl) | (apply q_ldap; exact rfl; exact rfl; exact (ty rfl); exact rfl; exact rfl; exact (by first | rfl | assumption); exact rfl)); (try simp only [put, rowsOf, plR, List.all_cons, selE, ovr, setH, del, cellsA, splice, isV, List.nil_append, List.cons_append, List.map_cons, List.map_nil, List.length_cons, List.length_nil, List.set_cons_zero, List.set_cons_succ, List.take_succ_cons, List.take_zero, List.take_nil, List.drop_succ_cons, List.drop_zero, List.drop_nil, List.append_nil, List.all_cons, List.all_nil, Bool.and_true, Bool.true_and, Bool.and_false, Bool.false_and, Nat.reduceAdd, Nat.zero_add, Nat.add_zero, Nat.reduceEqDiff, if_true, if_false, reduceIte]))
    | (show DE _ _ _ _ _ _ _ _ _ _ _ _; first | (apply e_move; exact rfl; exact rfl; exact rfl) | (apply e_assign; exact rfl; exact rfl; exact rfl) | (apply e_lens; exact rfl; exact rfl; exact (ty rfl); exact rfl; exact rfl) | (apply e_lend; exact rfl; exact rfl; exact (ty rfl); exact rfl; exact rfl) | (apply e_lenl; exact rfl; exact rfl; exact (ty rfl); exact rfl; exact rfl) | (apply e_lenn; exact rfl; exact rfl; exact (ty rfl); exact rfl; exact rfl) | (apply e_add; exact rfl; exact rfl; exact rfl; exact rfl) | (apply e_neq; exact rfl; exact rfl; exact rfl; exact rfl) | (apply e_lss; exact rfl; exact rfl; exact rfl; exact rfl) | (apply e_sneq; exact rfl; exact rfl; exact rfl; exact rfl) | (apply e_slss; exact rfl; exact rfl; exact rfl; exact rfl) | (apply e_cat; exact rfl; exact rfl; exact rfl; exact (by first | omega | (simp <;> omega)); exact rfl) | (apply e_bneq; exact rfl; exact rfl; exact rfl; exact (ty rfl); exact rfl; exact rfl) | (apply e_ixd; exact rfl; exact rfl; exact rfl; exact (ty rfl); exact rfl; exact (by first | omega | (simp <;> omega)); exact (by first | omega | (simp <;> omega)); exact (by first | rfl | assumption); exact rfl) | (apply e_ixa; exact rfl; exact rfl; exact rfl; exact (ty rfl); exact rfl; exact (by first | omega | (simp <;> omega)); exact (by first | omega | (simp <;> omega)); exact rfl; exact rfl) | (apply e_ixl; exact rfl; exact rfl; exact rfl; exact (ty rfl); exact rfl; exact rfl; exact rfl; exact (by first | omega | (simp <;> omega)); exact (by first | omega | (simp <;> omega)); exact rfl) | (apply e_ld1d; exact rfl; exact rfl; exact (ty rfl); exact rfl; exact rfl; exact rfl) | (apply e_ld1p; exact rfl; exact rfl; exact (ty rfl); exact rfl; exact rfl; exact (by first | rfl | assumption); exact rfl; exact rfl) | (apply e_nea; exact rfl; exact rfl; exact rfl; kernel_rfl; assumption; exact rfl; exact rfl; exact rfl) | (apply e_nil_nv; exact rfl; exact rfl; exact rfl; exact (ty rfl); exact rfl; exact rfl) | (apply e_nil_nl; exact rfl; exact rfl; exact rfl; exact (ty rfl); exact rfl; exact (by first | omega | (simp <;> omega)); exact rfl))
    | (show DE _ _ _ _ _ _ _ _ _ _ _ _; (first | apply dr_nil | (apply e_ldad; exact rfl; exact rfl; exact (ty rfl); exact rfl; exact rfl; exact rfl) | (apply e_ldap; exact rfl; exact rfl; exact (ty rfl); exact rfl; exact rfl; exact (by first | rfl | assumption); exact rfl; exact rfl)); (try simp only [put, rowsOf, plR, List.all_cons, selE, ovr, setH, del, cellsA, splice, isV, List.nil_append, List.cons_append, List.map_cons, List.map_nil, List.length_cons, List.length_nil, List.set_cons_zero, List.set_cons_succ, List.take_succ_cons, List.take_zero, List.take_nil, List.drop_succ_cons, List.drop_zero, List.drop_nil, List.append_nil, List.all_cons, List.all_nil, Bool.and_true, Bool.true_and, Bool.and_false, Bool.false_and, Nat.reduceAdd, Nat.zero_add, Nat.add_zero, Nat.reduceEqDiff, if_true, if_false, reduceIte]))
    | (show AW _ _ _ _ _ _ _ _; first | refine aw_region ?_ | (refine aw_seqk ?_; intro K hK) | refine aw_block ?_ | (apply aw_cond_t; exact rfl; exact rfl) | (apply aw_cond_f; exact rfl; exact rfl) | (apply aw_cond_t; exact rfl; exact (by assumption)) | (apply aw_cond_f; exact rfl; exact (by assumption)) | refine aw_ret ?_ | refine aw_exit ?_ | refine aw_skip ?_ | refine aw_drawE (id := 6) [0, 0, 3, 7, 0, 0, 48, 112, 255] [0, 0, 0, 1, 0, 0, 0, 1, 0] mixed (by kernel_rfl) ?_ | (apply aw_ite; exact rfl; all_goals intro h))
    | refine thn_n ?_
    | (refine hK _ _ _ ?_; clear hK K)
    | refine thn_e ?_
    | refine thn_r ?_
    | refine inb_same ?_
    | refine inb_ne rfl ?_
    | refine inb_n ?_
    | refine inb_r ?_
    | (clear hK K; refine hK _ _ _ ?_; clear hK K)
    | (clear hK K; clear hK K; refine hK _ _ _ ?_; clear hK K)
    | (clear hK K; clear hK K; clear hK K; refine hK _ _ _ ?_; clear hK K))); all_goals (repeat (clear hK K)))
    exact fin_r (fin_b rfl rfl)
def szB (n : Nat) (z : Int) : Int := if z - n < 0 then -1 else z - n
theorem szB_in {n : Nat} {z : Int} (h1 : z ≤ 1048576) (h0 : 0 ≤ z) (hc : ¬ szB n z < 0) : n ≤ 1048576 ∧ 0 ≤ szB n z ∧ szB n z ≤ 1048576 ∧ szB n z ≤ z := by
  unfold szB at hc ⊢
  split at hc
  · omega
  · rename_i h
    rw [if_neg h]
    omega
set_option maxHeartbeats 4000000 in
theorem szInt64S_ro (ls : List Int) (z : Int) (hn : ls.length ≤ 9223372036854775807) (h0 : 0 ≤ z) (h1 : z ≤ 1048576) (k : Nat) : RO Try.prog 36 [.dsl 1 (ls.map inL), .v (.int .i64 z)] k (.v (.int .i64 (szB ls.length z))) [] k := by
  have e1 : IntKind.i64.wrap (z - ((ls.map inL).length : Int)) = z - (ls.length : Int) := by rw [List.length_map]; exact IntWalk.i64_in _ (by omega)
  refine RO.ofv' Try.func36 Try.ntmps36 rfl (goFn_of Try.func36 rfl (by kernel_rfl)) rfl rfl ?_
  ((repeat' (first
    | (show SQ _ _ _ _ _ _ _ _; first | apply sq_nil | (apply q_move; exact rfl; exact rfl) | (apply q_assign; exact rfl; exact rfl) | (apply q_lens; exact rfl; exact rfl; exact (ty rfl); exact rfl) | (apply q_lend; exact rfl; exact rfl; exact (ty rfl); exact rfl) | (apply q_lenl; exact rfl; exact rfl; exact (ty rfl); exact rfl) | (apply q_lenn; exact rfl; exact rfl; exact (ty rfl); exact rfl) | (apply q_sub; exact rfl; exact rfl; exact rfl) | (apply q_lss; exact rfl; exact rfl; exact rfl) | (apply q_slss; exact rfl; exact rfl; exact rfl))
    | (show AW _ _ _ _ _ _ _ _; first | refine aw_region ?_ | (refine aw_seqk ?_; intro K hK) | refine aw_block ?_ | (apply aw_cond_t; exact rfl; exact rfl) | (apply aw_cond_f; exact rfl; exact rfl) | (apply aw_cond_t; exact rfl; exact (by assumption)) | (apply aw_cond_f; exact rfl; exact (by assumption)) | refine aw_ret ?_ | refine aw_exit ?_ | refine aw_skip ?_ | (apply aw_ite; exact rfl; all_goals intro h))
    | refine thn_n ?_
    | (refine hK _ _ _ ?_; clear hK K)
    | refine thn_e ?_
    | refine thn_r ?_
    | refine inb_same ?_
    | refine inb_ne rfl ?_
    | refine inb_n ?_
    | refine inb_r ?_
    | (clear hK K; refine hK _ _ _ ?_; clear hK K)
    | (clear hK K; clear hK K; refine hK _ _ _ ?_; clear hK K)
    | (clear hK K; clear hK K; clear hK K; refine hK _ _ _ ?_; clear hK K))); all_goals (repeat (clear hK K)))
  all_goals refine fin_r (fin_i rfl ?_)
  all_goals simp_all [szB]
  all_goals omega
/-- the index of the first with a property, or -1 -/
def ixG {α : Type} (p : α → Bool) : List α → Int
  | [] => -1
  | x :: xs => if p x then 0 else if ixG p xs < 0 then -1 else ixG p xs + 1
theorem ixG_any {α : Type} (p : α → Bool) : ∀ xs, decide (0 ≤ ixG p xs) = xs.any p
  | [] => rfl
  | x :: xs => by
    have ih := ixG_any p xs
    simp only [ixG, List.any_cons]
    by_cases h : p x
    · simp [h]
    · simp only [h, Bool.false_or, Bool.false_eq_true, if_false]
      rw [← ih]
      split
      · rename_i h2; simp; omega
      · rename_i h2; simp; omega
theorem ixG_at {α : Type} (p : α → Bool) : ∀ (pre : List α) (x : α) (r : List α), (∀ y ∈ pre, p y = false) → p x = true → ixG p (pre ++ x :: r) = pre.length
  | [], x, r, _, h => by simp [ixG, h]
  | y :: pre, x, r, h, hx => by
    have ih := ixG_at p pre x r (fun z hz => h z (List.mem_cons_of_mem _ hz)) hx
    simp only [List.cons_append, ixG, h y List.mem_cons_self, Bool.false_eq_true, if_false, ih]
    rw [if_neg (by omega)]
    simp
theorem ixG_none {α : Type} (p : α → Bool) : ∀ (xs : List α), (∀ y ∈ xs, p y = false) → ixG p xs = -1
  | [], _ => rfl
  | y :: xs, h => by simp [ixG, h y List.mem_cons_self, ixG_none p xs fun z hz => h z (List.mem_cons_of_mem _ hz)]
theorem ixG_hit {α : Type} {p : α → Bool} {xs : List α} {i : Nat} (hi : i < xs.length) (h : ∀ y ∈ xs.take i, p y = false) (hx : p xs[i] = true) : ixG p xs = i := by
  have := ixG_at p (xs.take i) xs[i] (xs.drop (i + 1)) h hx
  rw [← List.drop_eq_getElem_cons hi, List.take_append_drop] at this
  rw [this]; simp; omega
theorem ixG_rng {α : Type} (p : α → Bool) : ∀ (xs : List α), -1 ≤ ixG p xs ∧ ixG p xs < xs.length
  | [] => by simp [ixG]
  | x :: xs => by
    have := ixG_rng p xs
    simp only [ixG, List.length_cons]
    split
    · omega
    · split <;> omega
theorem takeS {α : Type} {p : α → Bool} {xs : List α} {i : Nat} (hi : i < xs.length) (h : ∀ y ∈ xs.take i, p y = false) (hx : p xs[i] = false) : ∀ y ∈ xs.take (i + 1), p y = false := by
  intro y hy
  rw [List.take_succ_eq_append_getElem hi] at hy
  rcases List.mem_append.1 hy with h1 | h1
  · exact h y h1
  · simp at h1; subst h1; exact hx

set_option maxHeartbeats 4000000 in
theorem IndexFuncInt_ro (xs : List Int) (rows : List (List AV)) (f : FuncId) (caps : List AV) (p : Int → Bool) (hcap : idsOkL 0 caps = true) (hz : FzC caps) (hrows : rows = xs.map inL) (hf : ∀ x ∈ xs, ∀ m, RO Try.prog f ((.v (.int .i64 x)) :: caps) m (.v (.bool (p x))) [] m) (hn : xs.length ≤ 1048576) (k : Nat) :
    RO Try.prog 72 [.dsl 1 rows, .fn f caps] k (.v (.int .i64 (ixG p xs))) [] k := by
  subst hrows
  refine RO.ofv' Try.func72 Try.ntmps72 rfl (goFn_of Try.func72 rfl (by kernel_rfl)) rfl rfl ?_
  ((repeat' (first
    | (show SQ _ _ _ _ _ _ _ _; first | apply sq_nil | (apply q_move; exact rfl; exact rfl) | (apply q_assign; exact rfl; exact rfl) | (apply q_lens; exact rfl; exact rfl; exact (ty rfl); exact rfl) | (apply q_lend; exact rfl; exact rfl; exact (ty rfl); exact rfl) | (apply q_lenl; exact rfl; exact rfl; exact (ty rfl); exact rfl) | (apply q_lenn; exact rfl; exact rfl; exact (ty rfl); exact rfl) | (apply q_add; exact rfl; exact rfl; exact rfl) | (apply q_lss; exact rfl; exact rfl; exact rfl) | (apply q_slss; exact rfl; exact rfl; exact rfl) | (apply q_cat; exact rfl; exact rfl; exact rfl; exact (by first | omega | (simp <;> omega))) | (apply q_ixd; exact rfl; exact rfl; exact rfl; exact (ty rfl); exact rfl; exact (by first | omega | (simp <;> omega)); exact (by first | omega | (simp <;> omega)); exact (by first | rfl | assumption)) | (apply q_ixa; exact rfl; exact rfl; exact rfl; exact (ty rfl); exact rfl; exact (by first | omega | (simp <;> omega)); exact (by first | omega | (simp <;> omega)); exact rfl) | (apply q_ixl; exact rfl; exact rfl; exact rfl; exact (ty rfl); exact rfl; exact rfl; exact rfl; exact (by first | omega | (simp <;> omega)); exact (by first | omega | (simp <;> omega))) | (apply q_ld1d; exact rfl; exact rfl; exact (ty rfl); exact rfl; exact rfl) | (apply q_ld1p; exact rfl; exact rfl; exact (ty rfl); exact rfl; exact rfl; exact (by first | rfl | assumption); exact rfl))
    | (show SQ _ _ _ _ _ _ _ _; (first | (apply q_ldad; exact rfl; exact rfl; exact (ty rfl); exact rfl; exact rfl) | (apply q_ldap; exact rfl; exact rfl; exact (ty rfl); exact rfl; exact rfl; exact (by first | rfl | assumption); exact rfl)); (try simp only [put, rowsOf, plR, List.all_cons, selE, ovr, setH, del, cellsA, splice, isV, List.nil_append, List.cons_append, List.map_cons, List.map_nil, List.length_cons, List.length_nil, List.set_cons_zero, List.set_cons_succ, List.take_succ_cons, List.take_zero, List.take_nil, List.drop_succ_cons, List.drop_zero, List.drop_nil, List.append_nil, List.all_cons, List.all_nil, Bool.and_true, Bool.true_and, Bool.and_false, Bool.false_and, Nat.reduceAdd, Nat.zero_add, Nat.add_zero, Nat.reduceEqDiff, if_true, if_false, reduceIte]))
    | (show AW _ _ _ _ _ _ _ _; first | refine aw_region ?_ | (refine aw_seqk ?_; intro K hK) | refine aw_block ?_ | (apply aw_cond_t; exact rfl; exact rfl) | (apply aw_cond_f; exact rfl; exact rfl) | (apply aw_cond_t; exact rfl; exact (by assumption)) | (apply aw_cond_f; exact rfl; exact (by assumption)) | refine aw_ret ?_ | refine aw_exit ?_ | refine aw_skip ?_ | (apply aw_ite; exact rfl; all_goals intro h))
    | refine thn_n ?_
    | (refine hK _ _ _ ?_; clear hK K)
    | refine thn_e ?_
    | refine thn_r ?_
    | refine inb_same ?_
    | refine inb_ne rfl ?_
    | refine inb_n ?_
    | refine inb_r ?_
    | (clear hK K; refine hK _ _ _ ?_; clear hK K)
    | (clear hK K; clear hK K; refine hK _ _ _ ?_; clear hK K)
    | (clear hK K; clear hK K; clear hK K; refine hK _ _ _ ?_; clear hK K))); all_goals (repeat (clear hK K)))
  refine aw_loop (ρ := id) (ι := Nat) (fun i => ([(8, .v (.int .i64 i)), (7, .v (.int .i64 xs.length)), (1, .fn f caps), (0, .dsl 1 (xs.map inL))], [], 0))
    (fun i => i ≤ xs.length ∧ ∀ y ∈ xs.take i, p y = false) (fun i => xs.length - i) 0 ⟨Nat.zero_le _, by simp⟩ ⟨⟨lk_i rfl rfl, lk_i rfl (by simp), lk_f rfl (renL_id caps) hcap, lk_d rfl rfl, trivial⟩, trivial, rfl, pin_0⟩ ?_
  rintro i ⟨hi, hp⟩
  by_cases c2 : i < xs.length
  · have b2 : decide ((i : Int) < (xs.length : Int)) = true := by simpa using c2
    have hrow : (xs.map inL)[((i : Int)).toNat]? = some (inL xs[i]) := by simp [c2]
    try rw [inL_eq] at hrow
    have hc := hf xs[i] (List.getElem_mem c2)
    by_cases c3 : p xs[i] = true
    · ((repeat' (first
    | (show SQ _ _ _ _ _ _ _ _; first | apply sq_nil | (apply q_move; exact rfl; exact rfl) | (apply q_assign; exact rfl; exact rfl) | (apply q_lens; exact rfl; exact rfl; exact (ty rfl); exact rfl) | (apply q_lend; exact rfl; exact rfl; exact (ty rfl); exact rfl) | (apply q_lenl; exact rfl; exact rfl; exact (ty rfl); exact rfl) | (apply q_lenn; exact rfl; exact rfl; exact (ty rfl); exact rfl) | (apply q_add; exact rfl; exact rfl; exact rfl) | (apply q_lss; exact rfl; exact rfl; exact rfl) | (apply q_slss; exact rfl; exact rfl; exact rfl) | (apply q_cat; exact rfl; exact rfl; exact rfl; exact (by first | omega | (simp <;> omega))) | (apply q_ixd; exact rfl; exact rfl; exact rfl; exact (ty rfl); exact rfl; exact (by first | omega | (simp <;> omega)); exact (by first | omega | (simp <;> omega)); exact (by first | rfl | assumption)) | (apply q_ixa; exact rfl; exact rfl; exact rfl; exact (ty rfl); exact rfl; exact (by first | omega | (simp <;> omega)); exact (by first | omega | (simp <;> omega)); exact rfl) | (apply q_ixl; exact rfl; exact rfl; exact rfl; exact (ty rfl); exact rfl; exact rfl; exact rfl; exact (by first | omega | (simp <;> omega)); exact (by first | omega | (simp <;> omega))) | (apply q_ld1d; exact rfl; exact rfl; exact (ty rfl); exact rfl; exact rfl) | (apply q_ld1p; exact rfl; exact rfl; exact (ty rfl); exact rfl; exact rfl; exact (by first | rfl | assumption); exact rfl))
    | (show SQ _ _ _ _ _ _ _ _; (first | (apply q_ldad; exact rfl; exact rfl; exact (ty rfl); exact rfl; exact rfl) | (apply q_ldap; exact rfl; exact rfl; exact (ty rfl); exact rfl; exact rfl; exact (by first | rfl | assumption); exact rfl) | (apply q_callU; exact rfl; exact rfl; exact rfl; exact FzL.of rfl; exact hc _) | (apply q_callU; exact rfl; exact rfl; exact rfl; rotate_left; exact hc _; rotate_right; focus ((repeat' (first | exact FzL.nil | exact (by assumption : FzC _) _ | refine FzL.cons ?_ ?_ | exact Fz.of rfl | exact Fz.nil | exact Fz.emp | (apply Fz.fnC; assumption) | (apply Fz.sl2; exact rfl; exact (by first | omega | (simp <;> omega)); first | exact rfl | exact dt_full (by first | omega | (simp <;> omega)) | assumption) | apply Fz.agg | (apply Fz.ptrL; exact rfl; exact rfl) | apply Fz.fnL)); done))); (try simp only [put, rowsOf, plR, List.all_cons, selE, ovr, setH, del, cellsA, splice, isV, List.nil_append, List.cons_append, List.map_cons, List.map_nil, List.length_cons, List.length_nil, List.set_cons_zero, List.set_cons_succ, List.take_succ_cons, List.take_zero, List.take_nil, List.drop_succ_cons, List.drop_zero, List.drop_nil, List.append_nil, List.all_cons, List.all_nil, Bool.and_true, Bool.true_and, Bool.and_false, Bool.false_and, Nat.reduceAdd, Nat.zero_add, Nat.add_zero, Nat.reduceEqDiff, if_true, if_false, reduceIte]))
    | (show AW _ _ _ _ _ _ _ _; first | refine aw_region ?_ | (refine aw_seqk ?_; intro K hK) | refine aw_block ?_ | (apply aw_cond_t; exact rfl; exact rfl) | (apply aw_cond_f; exact rfl; exact rfl) | (apply aw_cond_t; exact rfl; exact (by assumption)) | (apply aw_cond_f; exact rfl; exact (by assumption)) | refine aw_ret ?_ | refine aw_exit ?_ | refine aw_skip ?_ | (apply aw_ite; exact rfl; all_goals intro h))
    | refine thn_n ?_
    | (refine hK _ _ _ ?_; clear hK K)
    | refine thn_e ?_
    | refine thn_r ?_
    | refine inb_same ?_
    | refine inb_ne rfl ?_
    | refine inb_n ?_
    | refine inb_r ?_
    | (clear hK K; refine hK _ _ _ ?_; clear hK K)
    | (clear hK K; clear hK K; refine hK _ _ _ ?_; clear hK K)
    | (clear hK K; clear hK K; clear hK K; refine hK _ _ _ ?_; clear hK K))); all_goals (repeat (clear hK K)))
      all_goals refine fin_r (fin_i rfl ?_)
      exact (ixG_hit c2 hp c3).symm
    · have c3 : p xs[i] = false := by simpa using c3
      ((repeat' (first
    | (show SQ _ _ _ _ _ _ _ _; first | apply sq_nil | (apply q_move; exact rfl; exact rfl) | (apply q_assign; exact rfl; exact rfl) | (apply q_lens; exact rfl; exact rfl; exact (ty rfl); exact rfl) | (apply q_lend; exact rfl; exact rfl; exact (ty rfl); exact rfl) | (apply q_lenl; exact rfl; exact rfl; exact (ty rfl); exact rfl) | (apply q_lenn; exact rfl; exact rfl; exact (ty rfl); exact rfl) | (apply q_add; exact rfl; exact rfl; exact rfl) | (apply q_lss; exact rfl; exact rfl; exact rfl) | (apply q_slss; exact rfl; exact rfl; exact rfl) | (apply q_cat; exact rfl; exact rfl; exact rfl; exact (by first | omega | (simp <;> omega))) | (apply q_ixd; exact rfl; exact rfl; exact rfl; exact (ty rfl); exact rfl; exact (by first | omega | (simp <;> omega)); exact (by first | omega | (simp <;> omega)); exact (by first | rfl | assumption)) | (apply q_ixa; exact rfl; exact rfl; exact rfl; exact (ty rfl); exact rfl; exact (by first | omega | (simp <;> omega)); exact (by first | omega | (simp <;> omega)); exact rfl) | (apply q_ixl; exact rfl; exact rfl; exact rfl; exact (ty rfl); exact rfl; exact rfl; exact rfl; exact (by first | omega | (simp <;> omega)); exact (by first | omega | (simp <;> omega))) | (apply q_ld1d; exact rfl; exact rfl; exact (ty rfl); exact rfl; exact rfl) | (apply q_ld1p; exact rfl; exact rfl; exact (ty rfl); exact rfl; exact rfl; exact (by first | rfl | assumption); exact rfl))
    | (show SQ _ _ _ _ _ _ _ _; (first | (apply q_ldad; exact rfl; exact rfl; exact (ty rfl); exact rfl; exact rfl) | (apply q_ldap; exact rfl; exact rfl; exact (ty rfl); exact rfl; exact rfl; exact (by first | rfl | assumption); exact rfl) | (apply q_callU; exact rfl; exact rfl; exact rfl; exact FzL.of rfl; exact hc _) | (apply q_callU; exact rfl; exact rfl; exact rfl; rotate_left; exact hc _; rotate_right; focus ((repeat' (first | exact FzL.nil | exact (by assumption : FzC _) _ | refine FzL.cons ?_ ?_ | exact Fz.of rfl | exact Fz.nil | exact Fz.emp | (apply Fz.fnC; assumption) | (apply Fz.sl2; exact rfl; exact (by first | omega | (simp <;> omega)); first | exact rfl | exact dt_full (by first | omega | (simp <;> omega)) | assumption) | apply Fz.agg | (apply Fz.ptrL; exact rfl; exact rfl) | apply Fz.fnL)); done))); (try simp only [put, rowsOf, plR, List.all_cons, selE, ovr, setH, del, cellsA, splice, isV, List.nil_append, List.cons_append, List.map_cons, List.map_nil, List.length_cons, List.length_nil, List.set_cons_zero, List.set_cons_succ, List.take_succ_cons, List.take_zero, List.take_nil, List.drop_succ_cons, List.drop_zero, List.drop_nil, List.append_nil, List.all_cons, List.all_nil, Bool.and_true, Bool.true_and, Bool.and_false, Bool.false_and, Nat.reduceAdd, Nat.zero_add, Nat.add_zero, Nat.reduceEqDiff, if_true, if_false, reduceIte]))
    | (show AW _ _ _ _ _ _ _ _; first | refine aw_region ?_ | (refine aw_seqk ?_; intro K hK) | refine aw_block ?_ | (apply aw_cond_t; exact rfl; exact rfl) | (apply aw_cond_f; exact rfl; exact rfl) | (apply aw_cond_t; exact rfl; exact (by assumption)) | (apply aw_cond_f; exact rfl; exact (by assumption)) | refine aw_ret ?_ | refine aw_exit ?_ | refine aw_skip ?_ | (apply aw_ite; exact rfl; all_goals intro h))
    | refine thn_n ?_
    | (refine hK _ _ _ ?_; clear hK K)
    | refine thn_e ?_
    | refine thn_r ?_
    | refine inb_same ?_
    | refine inb_ne rfl ?_
    | refine inb_n ?_
    | refine inb_r ?_
    | (clear hK K; refine hK _ _ _ ?_; clear hK K)
    | (clear hK K; clear hK K; refine hK _ _ _ ?_; clear hK K)
    | (clear hK K; clear hK K; clear hK K; refine hK _ _ _ ?_; clear hK K))); all_goals (repeat (clear hK K)))
      refine ⟨i + 1, id, ⟨c2, takeS c2 hp c3⟩, by omega, ⟨lk_i rfl (by rw [IntWalk.i64_in _ (by omega)]; rfl), lk_i rfl rfl, lk_f rfl (renL_id caps) hcap, lk_d rfl rfl, trivial⟩, trivial, rfl, pin_0⟩
  · have b2 : decide ((i : Int) < (xs.length : Int)) = false := by simpa using c2
    ((repeat' (first
    | (show SQ _ _ _ _ _ _ _ _; first | apply sq_nil | (apply q_move; exact rfl; exact rfl) | (apply q_assign; exact rfl; exact rfl) | (apply q_lens; exact rfl; exact rfl; exact (ty rfl); exact rfl) | (apply q_lend; exact rfl; exact rfl; exact (ty rfl); exact rfl) | (apply q_lenl; exact rfl; exact rfl; exact (ty rfl); exact rfl) | (apply q_lenn; exact rfl; exact rfl; exact (ty rfl); exact rfl) | (apply q_add; exact rfl; exact rfl; exact rfl) | (apply q_lss; exact rfl; exact rfl; exact rfl) | (apply q_slss; exact rfl; exact rfl; exact rfl) | (apply q_cat; exact rfl; exact rfl; exact rfl; exact (by first | omega | (simp <;> omega))) | (apply q_ixd; exact rfl; exact rfl; exact rfl; exact (ty rfl); exact rfl; exact (by first | omega | (simp <;> omega)); exact (by first | omega | (simp <;> omega)); exact (by first | rfl | assumption)) | (apply q_ixa; exact rfl; exact rfl; exact rfl; exact (ty rfl); exact rfl; exact (by first | omega | (simp <;> omega)); exact (by first | omega | (simp <;> omega)); exact rfl) | (apply q_ixl; exact rfl; exact rfl; exact rfl; exact (ty rfl); exact rfl; exact rfl; exact rfl; exact (by first | omega | (simp <;> omega)); exact (by first | omega | (simp <;> omega))) | (apply q_ld1d; exact rfl; exact rfl; exact (ty rfl); exact rfl; exact rfl) | (apply q_ld1p; exact rfl; exact rfl; exact (ty rfl); exact rfl; exact rfl; exact (by first | rfl | assumption); exact rfl))
    | (show SQ _ _ _ _ _ _ _ _; (first | (apply q_ldad; exact rfl; exact rfl; exact (ty rfl); exact rfl; exact rfl) | (apply q_ldap; exact rfl; exact rfl; exact (ty rfl); exact rfl; exact rfl; exact (by first | rfl | assumption); exact rfl)); (try simp only [put, rowsOf, plR, List.all_cons, selE, ovr, setH, del, cellsA, splice, isV, List.nil_append, List.cons_append, List.map_cons, List.map_nil, List.length_cons, List.length_nil, List.set_cons_zero, List.set_cons_succ, List.take_succ_cons, List.take_zero, List.take_nil, List.drop_succ_cons, List.drop_zero, List.drop_nil, List.append_nil, List.all_cons, List.all_nil, Bool.and_true, Bool.true_and, Bool.and_false, Bool.false_and, Nat.reduceAdd, Nat.zero_add, Nat.add_zero, Nat.reduceEqDiff, if_true, if_false, reduceIte]))
    | (show AW _ _ _ _ _ _ _ _; first | refine aw_region ?_ | (refine aw_seqk ?_; intro K hK) | refine aw_block ?_ | (apply aw_cond_t; exact rfl; exact rfl) | (apply aw_cond_f; exact rfl; exact rfl) | (apply aw_cond_t; exact rfl; exact (by assumption)) | (apply aw_cond_f; exact rfl; exact (by assumption)) | refine aw_ret ?_ | refine aw_exit ?_ | refine aw_skip ?_ | (apply aw_ite; exact rfl; all_goals intro h))
    | refine thn_n ?_
    | (refine hK _ _ _ ?_; clear hK K)
    | refine thn_e ?_
    | refine thn_r ?_
    | refine inb_same ?_
    | refine inb_ne rfl ?_
    | refine inb_n ?_
    | refine inb_r ?_
    | (clear hK K; refine hK _ _ _ ?_; clear hK K)
    | (clear hK K; clear hK K; refine hK _ _ _ ?_; clear hK K)
    | (clear hK K; clear hK K; clear hK K; refine hK _ _ _ ?_; clear hK K))); all_goals (repeat (clear hK K)))
    all_goals refine fin_r (fin_i rfl ?_)
    rw [List.take_of_length_le (by omega)] at hp
    exact (ixG_none p xs hp).symm
set_option maxHeartbeats 4000000 in
theorem ContainsFuncInt_ro (xs : List Int) (rows : List (List AV)) (f : FuncId) (caps : List AV) (p : Int → Bool) (hcap : idsOkL 0 caps = true) (hz : FzC caps) (hrows : rows = xs.map inL) (hf : ∀ x ∈ xs, ∀ m, RO Try.prog f (.v (.int .i64 x) :: caps) m (.v (.bool (p x))) [] m) (hn : xs.length ≤ 1048576) (k : Nat) :
    RO Try.prog 70 [.dsl 1 rows, .fn f caps] k (.v (.bool (xs.any p))) [] k := by
  refine RO.ofv' Try.func70 Try.ntmps70 rfl (goFn_of Try.func70 rfl (by kernel_rfl)) rfl rfl ?_
  ((repeat' (first
    | (show SQ _ _ _ _ _ _ _ _; first | apply sq_nil | (apply q_move; exact rfl; exact rfl) | (apply q_assign; exact rfl; exact rfl) | (apply q_geq; exact rfl; exact rfl; exact rfl) | (apply q_sgeq; exact rfl; exact rfl; exact rfl))
    | (show SQ _ _ _ _ _ _ _ _; (first | (apply q_callU; exact rfl; exact rfl; exact rfl; exact FzL.of rfl; exact IndexFuncInt_ro xs rows f caps p hcap hz hrows hf hn _) | (apply q_callU; exact rfl; exact rfl; exact rfl; rotate_left; exact IndexFuncInt_ro xs rows f caps p hcap hz hrows hf hn _; rotate_right; focus ((repeat' (first | exact FzL.nil | exact (by assumption : FzC _) _ | refine FzL.cons ?_ ?_ | exact Fz.of rfl | exact Fz.nil | exact Fz.emp | (apply Fz.fnC; assumption) | (apply Fz.sl2; exact rfl; exact (by first | omega | (simp <;> omega)); first | exact rfl | exact dt_full (by first | omega | (simp <;> omega)) | assumption) | apply Fz.agg | (apply Fz.ptrL; exact rfl; exact rfl) | apply Fz.fnL)); done))); (try simp only [put, rowsOf, plR, List.all_cons, selE, ovr, setH, del, cellsA, splice, isV, List.nil_append, List.cons_append, List.map_cons, List.map_nil, List.length_cons, List.length_nil, List.set_cons_zero, List.set_cons_succ, List.take_succ_cons, List.take_zero, List.take_nil, List.drop_succ_cons, List.drop_zero, List.drop_nil, List.append_nil, List.all_cons, List.all_nil, Bool.and_true, Bool.true_and, Bool.and_false, Bool.false_and, Nat.reduceAdd, Nat.zero_add, Nat.add_zero, Nat.reduceEqDiff, if_true, if_false, reduceIte]))
    | (show AW _ _ _ _ _ _ _ _; first | refine aw_region ?_ | (refine aw_seqk ?_; intro K hK) | refine aw_block ?_ | (apply aw_cond_t; exact rfl; exact rfl) | (apply aw_cond_f; exact rfl; exact rfl) | (apply aw_cond_t; exact rfl; exact (by assumption)) | (apply aw_cond_f; exact rfl; exact (by assumption)) | refine aw_ret ?_ | refine aw_exit ?_ | refine aw_skip ?_ | (apply aw_ite; exact rfl; all_goals intro h))
    | refine thn_n ?_
    | (refine hK _ _ _ ?_; clear hK K)
    | refine thn_e ?_
    | refine thn_r ?_
    | refine inb_same ?_
    | refine inb_ne rfl ?_
    | refine inb_n ?_
    | refine inb_r ?_
    | (clear hK K; refine hK _ _ _ ?_; clear hK K)
    | (clear hK K; clear hK K; refine hK _ _ _ ?_; clear hK K)
    | (clear hK K; clear hK K; clear hK K; refine hK _ _ _ ?_; clear hK K))); all_goals (repeat (clear hK K)))
  all_goals refine fin_r (fin_b rfl ?_)
  exact ixG_any p xs
set_option maxHeartbeats 4000000 in
theorem awClosure_ro (x lo hi : Int) (k : Nat) : RO Try.prog 71 [.v (.int .i64 x), .dptr [.v (.int .i64 lo)], .dptr [.v (.int .i64 hi)]] k (.v (.bool (!inB x lo hi))) [] k := by
  refine RO.ofv' Try.func71 Try.ntmps71 rfl (goFn_of Try.func71 rfl (by kernel_rfl)) rfl rfl ?_
  ((repeat' (first
    | (show SQ _ _ _ _ _ _ _ _; first | apply sq_nil | (apply q_move; exact rfl; exact rfl) | (apply q_assign; exact rfl; exact rfl) | (apply q_not; exact rfl; exact rfl) | (apply q_ld1d; exact rfl; exact rfl; exact (ty rfl); exact rfl; exact rfl) | (apply q_ld1p; exact rfl; exact rfl; exact (ty rfl); exact rfl; exact rfl; exact (by first | rfl | assumption); exact rfl))
    | (show SQ _ _ _ _ _ _ _ _; (first | (apply q_ldad; exact rfl; exact rfl; exact (ty rfl); exact rfl; exact rfl) | (apply q_ldap; exact rfl; exact rfl; exact (ty rfl); exact rfl; exact rfl; exact (by first | rfl | assumption); exact rfl) | (apply q_callU; exact rfl; exact rfl; exact rfl; exact FzL.of rfl; exact within_ro _ _ _ _)); (try simp only [put, rowsOf, plR, List.all_cons, selE, ovr, setH, del, cellsA, splice, isV, List.nil_append, List.cons_append, List.map_cons, List.map_nil, List.length_cons, List.length_nil, List.set_cons_zero, List.set_cons_succ, List.take_succ_cons, List.take_zero, List.take_nil, List.drop_succ_cons, List.drop_zero, List.drop_nil, List.append_nil, List.all_cons, List.all_nil, Bool.and_true, Bool.true_and, Bool.and_false, Bool.false_and, Nat.reduceAdd, Nat.zero_add, Nat.add_zero, Nat.reduceEqDiff, if_true, if_false, reduceIte]))
    | (show AW _ _ _ _ _ _ _ _; first | refine aw_region ?_ | (refine aw_seqk ?_; intro K hK) | refine aw_block ?_ | (apply aw_cond_t; exact rfl; exact rfl) | (apply aw_cond_f; exact rfl; exact rfl) | (apply aw_cond_t; exact rfl; exact (by assumption)) | (apply aw_cond_f; exact rfl; exact (by assumption)) | refine aw_ret ?_ | refine aw_exit ?_ | refine aw_skip ?_ | (apply aw_ite; exact rfl; all_goals intro h))
    | refine thn_n ?_
    | (refine hK _ _ _ ?_; clear hK K)
    | refine thn_e ?_
    | refine thn_r ?_
    | refine inb_same ?_
    | refine inb_ne rfl ?_
    | refine inb_n ?_
    | refine inb_r ?_
    | (clear hK K; refine hK _ _ _ ?_; clear hK K)
    | (clear hK K; clear hK K; refine hK _ _ _ ?_; clear hK K)
    | (clear hK K; clear hK K; clear hK K; refine hK _ _ _ ?_; clear hK K))); all_goals (repeat (clear hK K)))
  all_goals exact fin_r (fin_b rfl rfl)
set_option maxHeartbeats 4000000 in
theorem allWithin_ro (xs : List Int) (rows : List (List AV)) (lo hi : Int) (hrows : rows = xs.map inL) (hn : xs.length ≤ 1048576) (k : Nat) : RO Try.prog 65 [.dsl 1 rows, .v (.int .i64 lo), .v (.int .i64 hi)] k (.v (.bool (!xs.any fun x => !inB x lo hi))) [] k := by
  have hC := ContainsFuncInt_ro xs rows 71 [.dptr [.v (.int .i64 lo)], .dptr [.v (.int .i64 hi)]] (fun x => !inB x lo hi) rfl (fun H => FzL.of rfl) hrows (fun x _ m => awClosure_ro x lo hi m) hn
  refine RO.ofv' Try.func65 Try.ntmps65 rfl (goFn_of Try.func65 rfl (by kernel_rfl)) rfl rfl ?_
  ((repeat' (first
    | (show SQ _ _ _ _ _ _ _ _; first | apply sq_nil | (apply q_move; exact rfl; exact rfl) | (apply q_assign; exact rfl; exact rfl) | (apply q_not; exact rfl; exact rfl) | (apply q_mkf; exact rfl; exact rfl))
    | (show SQ _ _ _ _ _ _ _ _; (first | (apply q_box; exact rfl; exact rfl; exact rfl) | (apply q_callU; exact rfl; exact rfl; exact rfl; exact FzL.of rfl; exact hC _) | (apply q_callU; exact rfl; exact rfl; exact rfl; rotate_left; exact hC _; rotate_right; focus ((repeat' (first | exact FzL.nil | exact (by assumption : FzC _) _ | refine FzL.cons ?_ ?_ | exact Fz.of rfl | exact Fz.nil | exact Fz.emp | (apply Fz.fnC; assumption) | (apply Fz.sl2; exact rfl; exact (by first | omega | (simp <;> omega)); first | exact rfl | exact dt_full (by first | omega | (simp <;> omega)) | assumption) | apply Fz.agg | (apply Fz.ptrL; exact rfl; exact rfl) | apply Fz.fnL)); done))); (try simp only [put, rowsOf, plR, List.all_cons, selE, ovr, setH, del, cellsA, splice, isV, List.nil_append, List.cons_append, List.map_cons, List.map_nil, List.length_cons, List.length_nil, List.set_cons_zero, List.set_cons_succ, List.take_succ_cons, List.take_zero, List.take_nil, List.drop_succ_cons, List.drop_zero, List.drop_nil, List.append_nil, List.all_cons, List.all_nil, Bool.and_true, Bool.true_and, Bool.and_false, Bool.false_and, Nat.reduceAdd, Nat.zero_add, Nat.add_zero, Nat.reduceEqDiff, if_true, if_false, reduceIte]))
    | (show AW _ _ _ _ _ _ _ _; first | refine aw_region ?_ | (refine aw_seqk ?_; intro K hK) | refine aw_block ?_ | (apply aw_cond_t; exact rfl; exact rfl) | (apply aw_cond_f; exact rfl; exact rfl) | (apply aw_cond_t; exact rfl; exact (by assumption)) | (apply aw_cond_f; exact rfl; exact (by assumption)) | refine aw_ret ?_ | refine aw_exit ?_ | refine aw_skip ?_ | (apply aw_ite; exact rfl; all_goals intro h))
    | refine thn_n ?_
    | (refine hK _ _ _ ?_; clear hK K)
    | refine thn_e ?_
    | refine thn_r ?_
    | refine inb_same ?_
    | refine inb_ne rfl ?_
    | refine inb_n ?_
    | refine inb_r ?_
    | (clear hK K; refine hK _ _ _ ?_; clear hK K)
    | (clear hK K; clear hK K; refine hK _ _ _ ?_; clear hK K)
    | (clear hK K; clear hK K; clear hK K; refine hK _ _ _ ?_; clear hK K))); all_goals (repeat (clear hK K)))
  all_goals exact fin_r (fin_b rfl rfl)
end Go.Proofs.Ytmnklmaefoidbaa.Il
