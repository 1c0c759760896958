/-
  Lists of numbers: what the laws do with them.
-/
import Derived.Test.YtglfcaioapdiaaaBkD
namespace Go.Proofs.Ytglfcaioapdiaaa.Bk
open Go Go.RowKit Go.Proofs.Ytglfcaioapdiaaa.Aw
set_option linter.unusedSimpArgs false
set_option linter.unusedVariables false
attribute [local irreducible] AW SQ Step RO RC DE Thn InB

def inL (x : Int) : List AV := [.v (.int .i64 x)]
theorem inL_eq (x : Int) : inL x = [.v (.int .i64 x)] := rfl
def ramp {α : Type} (f : Nat → α) (xs : List α) (i : Nat) : List α := (List.range i).map f ++ xs.drop i
theorem ramp_get {α : Type} {f : Nat → α} {xs : List α} {i : Nat} (h : i < xs.length) : (ramp f xs i)[i]? = some xs[i] := by
  unfold ramp; rw [List.getElem?_append_right (by simp)]; simp [h]
theorem ramp_set {α : Type} {f : Nat → α} {xs : List α} {i : Nat} (h : i < xs.length) : (ramp f xs i).set i (f i) = ramp f xs (i + 1) := by
  unfold ramp
  rw [List.drop_eq_getElem_cons h, List.set_append_right _ _ (by simp), List.range_succ]
  simp only [List.length_map, List.length_range, Nat.sub_self, List.set_cons_zero, List.map_append, List.map_cons, List.map_nil, List.append_assoc, List.singleton_append]
theorem ramp_zero {α : Type} {f : Nat → α} {xs : List α} : ramp f xs 0 = xs := by simp [ramp]
theorem ramp_full {α : Type} {f : Nat → α} {xs : List α} : ramp f xs xs.length = (List.range xs.length).map f := by simp [ramp]
def inRows (xs : List Int) (i : Nat) : List (List AV) := (partR xs 0 i).map inL
theorem inRows_get {xs : List Int} {i : Nat} (h : i < xs.length) : (inRows xs i)[i]? = some (inL 0) := by
  unfold inRows; rw [List.getElem?_map, partR_get h]; rfl
theorem inRows_set {xs : List Int} {i : Nat} (h : i < xs.length) : (inRows xs i).set i (inL xs[i]) = inRows xs (i + 1) := by
  unfold inRows; rw [← List.map_set, partR_set h]
set_option maxHeartbeats 4000000 in
theorem toInt64S_ro (xs : List Int) (hn : xs.length ≤ 1048576) (k : Nat) : RO Try.prog 26 [.dsl 1 (xs.map inL)] k (.sl k 0 xs.length) [(k, ⟨2, 1, true, xs.map inL⟩)] (k + 1) := by
  refine RO.ofm (.sl 0 0 xs.length) ([(0, ⟨2, 1, true, xs.map inL⟩)]) 1 Try.func26 Try.ntmps26 rfl (goFn_of Try.func26 rfl (by kernel_rfl)) rfl rfl (by simp [renA, renL]) (by simp [shH, renB]) rfl ?_
  ((repeat' (first
    | (show SQ _ _ _ _ _ _ _ _; first | apply sq_nil | (apply q_move; exact rfl; exact rfl) | (apply q_assign; exact rfl; exact rfl) | (apply q_lend; exact rfl; exact rfl; exact (ty rfl); exact rfl))
    | (show SQ _ _ _ _ _ _ _ _; (first | (apply q_mks; exact rfl; exact rfl; exact rfl; exact (ty rfl); exact rfl; exact (by first | omega | (simp; done) | (simp; omega)); exact (by first | omega | (simp; done) | (simp; omega)); exact (by first | omega | (simp; done) | (simp; omega)); exact (by first | omega | (simp; done) | (simp; omega)); exact rfl; exact rfl)); (try simp only [put, rowsOf, plR, List.all_cons, selE, ovr, setH, del, cellsA, splice, isV, List.nil_append, List.cons_append, List.map_cons, List.map_nil, List.length_cons, List.length_nil, List.set_cons_zero, List.set_cons_succ, List.take_succ_cons, List.take_zero, List.take_nil, List.drop_succ_cons, List.drop_zero, List.drop_nil, List.append_nil, List.all_cons, List.all_nil, Bool.and_true, Bool.true_and, Bool.and_false, Bool.false_and, Nat.reduceAdd, Nat.zero_add, Nat.add_zero, Nat.reduceEqDiff, if_true, if_false, reduceIte]))
    | (show AW _ _ _ _ _ _ _ _; first | refine aw_region ?_ | (refine aw_seqk ?_; intro K hK) | refine aw_block ?_)
    | refine thn_n ?_
    | (refine hK _ _ _ ?_; clear hK K))); all_goals (repeat (clear hK K)))
  refine aw_loop (ρ := id) (ι := Nat) (fun i => ([(4, .v (.int .i64 i)), (3, .sl 0 0 xs.length), (0, .dsl 1 (xs.map inL))], [(0, ⟨2, 1, true, inRows xs i⟩)], 1))
    (fun i => i ≤ xs.length) (fun i => xs.length - i) 0 (Nat.zero_le _) ⟨by (repeat (refine ⟨by first | exact lk_i rfl rfl | exact lk_d rfl rfl | exact lk_s rfl rfl (by (try dsimp only); first | rfl | omega | (rw [IntWalk.i64_in _ (by omega)]; first | rfl | omega | (push_cast; omega)) | (simp; done) | (simp; omega)) rfl, ?_⟩)); exact trivial, by (repeat (refine ⟨by first | exact lkb rfl rfl rfl (by (try dsimp only); first | rfl | (simp only [inRows, partR_zero, List.length_map, List.map_replicate]; rfl) | (simp only [inRows, partR_zero, List.length_map, List.map_replicate, Int.toNat_natCast]; rfl)) rfl, ?_⟩)); exact trivial, by rfl, by exact pin_0⟩ ?_
  intro i hi
  by_cases c2 : i < xs.length
  · have b2 : decide ((i : Int) < ((xs.map inL).length : Int)) = true := by simpa using c2
    have hrow : (xs.map inL)[((i : Int)).toNat]? = some (inL xs[i]) := by simp [c2]
    rw [inL_eq] at hrow
    have hr2 : (inRows xs i)[0 + ((i : Int)).toNat]? = some (inL 0) := by simpa using inRows_get c2
    rw [inL_eq] at hr2
    ((repeat' (first
    | (show SQ _ _ _ _ _ _ _ _; first | apply sq_nil | (apply q_move; exact rfl; exact rfl) | (apply q_assign; exact rfl; exact rfl) | (apply q_lend; exact rfl; exact rfl; exact (ty rfl); exact rfl) | (apply q_add; exact rfl; exact rfl; exact rfl) | (apply q_lss; exact rfl; exact rfl; exact rfl) | (apply q_ixd; exact rfl; exact rfl; exact rfl; exact (ty rfl); exact rfl; exact (by first | omega | (simp; done) | (simp; omega)); exact (by first | omega | (simp; done) | (simp; omega)); exact (by first | rfl | assumption)) | (apply q_ixl; exact rfl; exact rfl; exact rfl; exact (ty rfl); exact rfl; exact rfl; exact rfl; exact (by first | omega | (simp; done) | (simp; omega)); exact (by first | omega | (simp; done) | (simp; omega))) | (apply q_ld1d; exact rfl; exact rfl; exact (ty rfl); exact rfl; exact rfl))
    | (show SQ _ _ _ _ _ _ _ _; (first | (apply q_store; exact rfl; exact rfl; exact (ty rfl); exact rfl; exact (by first | rfl | assumption | ((try simp only [Nat.zero_add]); refine List.getElem?_set_self ?_; (try simp only [List.length_set]); assumption)); exact rfl; exact rfl; exact rfl)); (try simp only [put, rowsOf, plR, List.all_cons, selE, ovr, setH, del, cellsA, splice, isV, List.nil_append, List.cons_append, List.map_cons, List.map_nil, List.length_cons, List.length_nil, List.set_cons_zero, List.set_cons_succ, List.take_succ_cons, List.take_zero, List.take_nil, List.drop_succ_cons, List.drop_zero, List.drop_nil, List.append_nil, List.all_cons, List.all_nil, Bool.and_true, Bool.true_and, Bool.and_false, Bool.false_and, Nat.reduceAdd, Nat.zero_add, Nat.add_zero, Nat.reduceEqDiff, if_true, if_false, reduceIte]))
    | (show AW _ _ _ _ _ _ _ _; first | refine aw_region ?_ | (refine aw_seqk ?_; intro K hK) | refine aw_block ?_ | (apply aw_cond_t; exact rfl; exact (by assumption)) | refine aw_skip ?_)
    | refine thn_n ?_
    | (refine hK _ _ _ ?_; clear hK K)
    | refine inb_n ?_)); all_goals (repeat (clear hK K)))
    exact ⟨i + 1, id, c2, by omega, ⟨by (repeat (refine ⟨by first | exact lk_i rfl (by (try dsimp only); first | rfl | omega | (rw [IntWalk.i64_in _ (by omega)]; first | rfl | omega | (push_cast; omega)) | (simp; done) | (simp; omega)) | exact lk_d rfl rfl | exact lk_s rfl rfl rfl rfl, ?_⟩)); exact trivial, by (repeat (refine ⟨by first | exact lkb rfl rfl rfl (by rw [← inRows_set c2]; simp; rfl) rfl, ?_⟩)); exact trivial, by rfl, by exact pin_0⟩⟩
  · have b2 : decide ((i : Int) < ((xs.map inL).length : Int)) = false := by simpa using c2
    ((repeat' (first
    | (show SQ _ _ _ _ _ _ _ _; first | apply sq_nil | (apply q_move; exact rfl; exact rfl) | (apply q_assign; exact rfl; exact rfl) | (apply q_lend; exact rfl; exact rfl; exact (ty rfl); exact rfl) | (apply q_lss; exact rfl; exact rfl; exact rfl))
    | (show AW _ _ _ _ _ _ _ _; first | refine aw_region ?_ | (refine aw_seqk ?_; intro K hK) | (apply aw_cond_f; exact rfl; exact (by assumption)) | refine aw_ret ?_ | refine aw_exit ?_)
    | refine thn_n ?_
    | (refine hK _ _ _ ?_; clear hK K)
    | refine thn_e ?_
    | refine inb_same ?_
    | (clear hK K; refine hK _ _ _ ?_; clear hK K))); all_goals (repeat (clear hK K)))
    exact fin_r (fin_m rfl rfl _ _ rfl (by simp only [inRows]; rw [partR_full (by omega)]))
set_option maxHeartbeats 4000000 in
theorem eqInt64S_ro (xs : List Int) (hn : xs.length ≤ 1048576) (k : Nat) : RO Try.prog 16 [.dsl 1 (xs.map inL), .dsl 1 (xs.map inL)] k (.v (.bool true)) [] k := by
  have b1 : (((xs.map inL).length : Int) != ((xs.map inL).length : Int)) = false := by simp
  refine RO.ofv' Try.func16 Try.ntmps16 rfl (goFn_of Try.func16 rfl (by kernel_rfl)) rfl rfl ?_
  ((repeat' (first
    | (show SQ _ _ _ _ _ _ _ _; first | apply sq_nil | (apply q_move; exact rfl; exact rfl) | (apply q_assign; exact rfl; exact rfl) | (apply q_lend; exact rfl; exact rfl; exact (ty rfl); exact rfl) | (apply q_neq; exact rfl; exact rfl; exact rfl))
    | (show AW _ _ _ _ _ _ _ _; first | refine aw_region ?_ | (refine aw_seqk ?_; intro K hK) | refine aw_block ?_ | (apply aw_cond_f; exact rfl; exact (by assumption)) | refine aw_skip ?_)
    | refine thn_n ?_
    | (refine hK _ _ _ ?_; clear hK K))); all_goals (repeat (clear hK K)))
  refine aw_loop (ρ := id) (ι := Nat) (fun i => ([(5, .v (.int .i64 i)), (1, .dsl 1 (xs.map inL)), (0, .dsl 1 (xs.map inL))], [], 0))
    (fun i => i ≤ xs.length) (fun i => xs.length - i) 0 (Nat.zero_le _) ⟨by (repeat (refine ⟨by first | exact lk_i rfl rfl | exact lk_d rfl rfl, ?_⟩)); exact trivial, by exact trivial, by rfl, by exact pin_0⟩ ?_
  intro i hi
  by_cases c2 : i < xs.length
  · have b2 : decide ((i : Int) < ((xs.map inL).length : Int)) = true := by simpa using c2
    have hrow : (xs.map inL)[((i : Int)).toNat]? = some (inL xs[i]) := by simp [c2]
    rw [inL_eq] at hrow
    have b3 : (xs[i] != xs[i]) = false := by simp
    ((repeat' (first
    | (show SQ _ _ _ _ _ _ _ _; first | apply sq_nil | (apply q_move; exact rfl; exact rfl) | (apply q_assign; exact rfl; exact rfl) | (apply q_lend; exact rfl; exact rfl; exact (ty rfl); exact rfl) | (apply q_add; exact rfl; exact rfl; exact rfl) | (apply q_lss; exact rfl; exact rfl; exact rfl))
    | (show DE _ _ _ _ _ _ _ _ _ _ _ _; first | (apply e_move; exact rfl; exact rfl; exact rfl) | (apply e_neq; exact rfl; exact rfl; exact rfl; exact rfl) | (apply e_ixd; exact rfl; exact rfl; exact rfl; exact (ty rfl); exact rfl; exact (by first | omega | (simp; done) | (simp; omega)); exact (by first | omega | (simp; done) | (simp; omega)); exact (by first | rfl | assumption); exact rfl) | (apply e_ld1d; exact rfl; exact rfl; exact (ty rfl); exact rfl; exact rfl; exact rfl))
    | (show DE _ _ _ _ _ _ _ _ _ _ _ _; (first | (apply dr_nil; exact trivial)); (try simp only [put, rowsOf, plR, List.all_cons, selE, ovr, setH, del, cellsA, splice, isV, List.nil_append, List.cons_append, List.map_cons, List.map_nil, List.length_cons, List.length_nil, List.set_cons_zero, List.set_cons_succ, List.take_succ_cons, List.take_zero, List.take_nil, List.drop_succ_cons, List.drop_zero, List.drop_nil, List.append_nil, List.all_cons, List.all_nil, Bool.and_true, Bool.true_and, Bool.and_false, Bool.false_and, Nat.reduceAdd, Nat.zero_add, Nat.add_zero, Nat.reduceEqDiff, if_true, if_false, reduceIte]))
    | (show AW _ _ _ _ _ _ _ _; first | refine aw_region ?_ | (refine aw_seqk ?_; intro K hK) | refine aw_block ?_ | (apply aw_cond_t; exact rfl; exact (by assumption)) | (apply aw_cond_f; exact rfl; exact (by assumption)) | refine aw_skip ?_ | refine aw_drawE (id := 6) [0, 0, 3, 7, 0, 0, 48, 112, 255] [0, 0, 0, 1, 0, 0, 0, 1, 0] mixed (by kernel_rfl) ?_)
    | refine thn_n ?_
    | (refine hK _ _ _ ?_; clear hK K)
    | refine inb_n ?_)); all_goals (repeat (clear hK K)))
    exact ⟨i + 1, id, c2, by omega, ⟨by (repeat (refine ⟨by first | exact lk_i rfl (by (try dsimp only); first | rfl | omega | (rw [IntWalk.i64_in _ (by omega)]; first | rfl | omega | (push_cast; omega)) | (simp; done) | (simp; omega)) | exact lk_d rfl rfl, ?_⟩)); exact trivial, by exact trivial, by rfl, by exact pin_0⟩⟩
  · have b2 : decide ((i : Int) < ((xs.map inL).length : Int)) = false := by simpa using c2
    ((repeat' (first
    | (show SQ _ _ _ _ _ _ _ _; first | apply sq_nil | (apply q_move; exact rfl; exact rfl) | (apply q_assign; exact rfl; exact rfl) | (apply q_lend; exact rfl; exact rfl; exact (ty rfl); exact rfl) | (apply q_lss; exact rfl; exact rfl; exact rfl))
    | (show AW _ _ _ _ _ _ _ _; first | refine aw_region ?_ | (refine aw_seqk ?_; intro K hK) | (apply aw_cond_f; exact rfl; exact (by assumption)) | refine aw_ret ?_ | refine aw_exit ?_)
    | refine thn_n ?_
    | (refine hK _ _ _ ?_; clear hK K)
    | refine thn_e ?_
    | refine inb_same ?_
    | (clear hK K; refine hK _ _ _ ?_; clear hK K))); all_goals (repeat (clear hK K)))
    exact fin_r (fin_b rfl rfl)
def up (z : Int) (i : Nat) : Int := z + (i : Int)
set_option maxHeartbeats 4000000 in
theorem heldInt64S_ro (l : Nat) (z : Int) (hn : l ≤ 1048576) (h0 : 0 ≤ z) (h1 : z ≤ 1073741824) (k : Nat) : RO Try.prog 20 [.dsl 1 (((List.range l).map (up z)).map inL), .v (.int .i64 z)] k (.v (.int .i64 (z + (l : Int)))) [] k := by
  generalize hx : (List.range l).map (up z) = xs
  have hl : l = xs.length := by rw [← hx]; simp
  refine RO.ofv' Try.func20 Try.ntmps20 rfl (goFn_of Try.func20 rfl (by kernel_rfl)) rfl rfl ?_
  ((repeat' (first
    | (show SQ _ _ _ _ _ _ _ _; first | apply sq_nil | (apply q_assign; exact rfl; exact rfl))
    | (show AW _ _ _ _ _ _ _ _; first | refine aw_region ?_ | (refine aw_seqk ?_; intro K hK) | refine aw_block ?_)
    | refine thn_n ?_
    | (refine hK _ _ _ ?_; clear hK K))); all_goals (repeat (clear hK K)))
  refine aw_loop (ρ := id) (ι := Nat) (fun i => ([(5, .v (.int .i64 i)), (1, .v (.int .i64 (z + (i : Int)))), (0, .dsl 1 (xs.map inL))], [], 0))
    (fun i => i ≤ xs.length) (fun i => xs.length - i) 0 (Nat.zero_le _) ⟨by (repeat (refine ⟨by first | exact lk_i rfl rfl | exact lk_i rfl (by (try dsimp only); first | rfl | omega | (rw [IntWalk.i64_in _ (by omega)]; first | rfl | omega | (push_cast; omega)) | (simp; done) | (simp; omega)) | exact lk_d rfl rfl, ?_⟩)); exact trivial, by exact trivial, by rfl, by exact pin_0⟩ ?_
  intro i hi
  by_cases c2 : i < xs.length
  · have b2 : decide ((i : Int) < ((xs.map inL).length : Int)) = true := by simpa using c2
    have hrow : (xs.map inL)[((i : Int)).toNat]? = some (inL (z + (i : Int))) := by subst hx; simp at c2; simp [c2, up]
    rw [inL_eq] at hrow
    have b3 : (z + (i : Int) != z + (i : Int)) = false := by simp
    have hw : IntKind.i64.wrap (z + (i : Int) + 1) = z + ((i + 1 : Nat) : Int) := by rw [IntWalk.i64_in _ (by omega)]; omega
    ((repeat' (first
    | (show SQ _ _ _ _ _ _ _ _; first | apply sq_nil | (apply q_move; exact rfl; exact rfl) | (apply q_assign; exact rfl; exact rfl) | (apply q_lend; exact rfl; exact rfl; exact (ty rfl); exact rfl) | (apply q_add; exact rfl; exact rfl; exact rfl) | (apply q_neq; exact rfl; exact rfl; exact rfl) | (apply q_lss; exact rfl; exact rfl; exact rfl) | (apply q_ixd; exact rfl; exact rfl; exact rfl; exact (ty rfl); exact rfl; exact (by first | omega | (simp; done) | (simp; omega)); exact (by first | omega | (simp; done) | (simp; omega)); exact (by first | rfl | assumption)) | (apply q_ld1d; exact rfl; exact rfl; exact (ty rfl); exact rfl; exact rfl))
    | (show AW _ _ _ _ _ _ _ _; first | refine aw_region ?_ | (refine aw_seqk ?_; intro K hK) | refine aw_block ?_ | (apply aw_cond_t; exact rfl; exact (by assumption)) | (apply aw_cond_f; exact rfl; exact (by assumption)) | refine aw_skip ?_)
    | refine thn_n ?_
    | (refine hK _ _ _ ?_; clear hK K)
    | refine inb_n ?_)); all_goals (repeat (clear hK K)))
    exact ⟨i + 1, id, c2, by omega, ⟨by (repeat (refine ⟨by first | exact lk_i rfl (by (try dsimp only); first | rfl | omega | (rw [IntWalk.i64_in _ (by omega)]; first | rfl | omega | (push_cast; omega)) | (simp; done) | (simp; omega)) | exact lk_d rfl rfl, ?_⟩)); exact trivial, by exact trivial, by rfl, by exact pin_0⟩⟩
  · have b2 : decide ((i : Int) < ((xs.map inL).length : Int)) = false := by simpa using c2
    ((repeat' (first
    | (show SQ _ _ _ _ _ _ _ _; first | apply sq_nil | (apply q_move; exact rfl; exact rfl) | (apply q_assign; exact rfl; exact rfl) | (apply q_lend; exact rfl; exact rfl; exact (ty rfl); exact rfl) | (apply q_lss; exact rfl; exact rfl; exact rfl))
    | (show AW _ _ _ _ _ _ _ _; first | refine aw_region ?_ | (refine aw_seqk ?_; intro K hK) | (apply aw_cond_f; exact rfl; exact (by assumption)) | refine aw_ret ?_ | refine aw_exit ?_)
    | refine thn_n ?_
    | (refine hK _ _ _ ?_; clear hK K)
    | refine thn_e ?_
    | refine inb_same ?_
    | (clear hK K; refine hK _ _ _ ?_; clear hK K))); all_goals (repeat (clear hK K)))
    all_goals refine fin_r (fin_i rfl ?_)
    all_goals (simp; omega)
end Go.Proofs.Ytglfcaioapdiaaa.Bk
