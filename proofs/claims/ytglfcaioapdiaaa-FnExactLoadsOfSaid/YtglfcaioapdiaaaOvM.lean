/-
  Marks: what the laws write into blocks of their own.
-/
import Derived.Test.YtglfcaioapdiaaaOvA
namespace Go.Proofs.Ytglfcaioapdiaaa.Bk
open Go Go.RowKit Go.Proofs.Ytglfcaioapdiaaa.Aw
set_option linter.unusedSimpArgs false
set_option linter.unusedVariables false
attribute [local irreducible] AW SQ Step RO RC DE Thn InB

theorem mkI_get {z : Int} {xs : List Int} {i : Nat} (h : i < xs.length) : ((ramp (up z) xs i).map inL)[i]? = some (inL xs[i]) := by
  rw [List.getElem?_map, ramp_get h]; rfl
theorem mkI_set {z : Int} {xs : List Int} {i : Nat} (h : i < xs.length) : ((ramp (up z) xs i).map inL).set i (inL (z + (i : Int))) = (ramp (up z) xs (i + 1)).map inL := by
  rw [← ramp_set h, List.map_set]; rfl
set_option maxHeartbeats 4000000 in
theorem markInt64S_rc (b : Nat) (xs : List Int) (z : Int) (hn : xs.length ≤ 1048576) (h0 : 0 ≤ z) (h1 : z ≤ 1073741824) (k : Nat) :
    RC Try.prog 19 [.sl b 0 xs.length, .v (.int .i64 z)] [(b, ⟨2, 1, true, xs.map inL⟩)] k (.v (.int .i64 (z + (xs.length : Int)))) [(b, some ⟨2, 1, true, ((List.range xs.length).map (up z)).map inL⟩)] k := by
  refine RC.ofc [b] 0 [.sl 0 0 xs.length, .v (.int .i64 z)] [(0, ⟨2, 1, true, xs.map inL⟩)] (.v (.int .i64 (z + (xs.length : Int)))) [(0, some ⟨2, 1, true, ((List.range xs.length).map (up z)).map inL⟩)] Try.func19 Try.ntmps19 rfl (goFn_of Try.func19 rfl (by kernel_rfl)) rfl rfl rfl rfl rfl rfl rfl rfl (by simp_all) rfl ?_
  ((repeat' (first
    | (show SQ _ _ _ _ _ _ _ _; first | apply sq_nil | (apply q_assign; exact rfl; exact rfl))
    | (show AW _ _ _ _ _ _ _ _; first | refine aw_region ?_ | (refine aw_seqk ?_; intro K hK) | refine aw_block ?_)
    | refine thn_n ?_
    | (refine hK _ _ _ ?_; clear hK K))); all_goals (repeat (clear hK K)))
  refine aw_loop (ρ := id) (ι := Nat) (fun i => ([(5, .v (.int .i64 i)), (1, .v (.int .i64 (z + (i : Int)))), (0, .sl 0 0 xs.length)], [(0, ⟨2, 1, true, (ramp (up z) xs i).map inL⟩)], 1))
    (fun i => i ≤ xs.length) (fun i => xs.length - i) 0 (Nat.zero_le _) ⟨by (repeat (refine ⟨by first | exact lk_i rfl rfl | exact lk_i rfl (by (try dsimp only); first | rfl | omega | (rw [IntWalk.i64_in _ (by omega)]; first | rfl | omega | (push_cast; omega)) | (simp; done) | (simp; omega)) | exact lk_s rfl rfl rfl rfl, ?_⟩)); exact trivial, by (repeat (refine ⟨by first | exact ⟨rfl, rfl, rfl⟩, ?_⟩)); exact trivial, by rfl, by (intro i hi; (try dsimp only); refine ⟨?_, ?_⟩ <;> first | rfl | omega | (simp at hi; omega) | (simp; omega))⟩ ?_
  intro i hi
  by_cases c2 : i < xs.length
  · have b2 : decide ((i : Int) < ((xs.length : Nat) : Int)) = true := by simpa using c2
    have hr2 : ((ramp (up z) xs i).map inL)[0 + ((i : Int)).toNat]? = some (inL xs[i]) := by simpa using mkI_get (z := z) c2
    rw [inL_eq] at hr2
    have hw : IntKind.i64.wrap (z + (i : Int) + 1) = z + ((i + 1 : Nat) : Int) := by rw [IntWalk.i64_in _ (by omega)]; omega
    ((repeat' (first
    | (show SQ _ _ _ _ _ _ _ _; first | apply sq_nil | (apply q_move; exact rfl; exact rfl) | (apply q_assign; exact rfl; exact rfl) | (apply q_lenl; exact rfl; exact rfl; exact (ty rfl); exact rfl) | (apply q_add; exact rfl; exact rfl; exact rfl) | (apply q_lss; exact rfl; exact rfl; exact rfl) | (apply q_ixl; exact rfl; exact rfl; exact rfl; exact (ty rfl); exact rfl; exact rfl; exact rfl; exact (by first | omega | (simp; done) | (simp; omega)); exact (by first | omega | (simp; done) | (simp; omega))))
    | (show SQ _ _ _ _ _ _ _ _; (first | (apply q_store; exact rfl; exact rfl; exact (ty rfl); exact rfl; exact (by first | rfl | assumption | ((try simp only [Nat.zero_add]); refine List.getElem?_set_self ?_; (try simp only [List.length_set]); assumption)); exact rfl; exact rfl; exact rfl)); (try simp only [put, rowsOf, plR, List.all_cons, selE, ovr, setH, del, cellsA, splice, isV, List.nil_append, List.cons_append, List.map_cons, List.map_nil, List.length_cons, List.length_nil, List.set_cons_zero, List.set_cons_succ, List.take_succ_cons, List.take_zero, List.take_nil, List.drop_succ_cons, List.drop_zero, List.drop_nil, List.append_nil, List.all_cons, List.all_nil, Bool.and_true, Bool.true_and, Bool.and_false, Bool.false_and, Nat.reduceAdd, Nat.zero_add, Nat.add_zero, Nat.reduceEqDiff, if_true, if_false, reduceIte]))
    | (show AW _ _ _ _ _ _ _ _; first | refine aw_region ?_ | (refine aw_seqk ?_; intro K hK) | refine aw_block ?_ | (apply aw_cond_t; exact rfl; exact (by assumption)) | refine aw_skip ?_)
    | refine thn_n ?_
    | (refine hK _ _ _ ?_; clear hK K)
    | refine inb_n ?_)); all_goals (repeat (clear hK K)))
    exact ⟨i + 1, id, c2, by omega, ⟨by (repeat (refine ⟨by first | exact lk_i rfl (by (try dsimp only); first | rfl | omega | (rw [IntWalk.i64_in _ (by omega)]; first | rfl | omega | (push_cast; omega)) | (simp; done) | (simp; omega)) | exact lk_s rfl rfl rfl rfl, ?_⟩)); exact trivial, by (repeat (refine ⟨by first | exact lkb rfl rfl rfl (by rw [← mkI_set c2]; simp; rfl) rfl, ?_⟩)); exact trivial, by rfl, by (intro i hi; (try dsimp only); refine ⟨?_, ?_⟩ <;> first | rfl | omega | (simp at hi; omega) | (simp; omega))⟩⟩
  · have b2 : decide ((i : Int) < ((xs.length : Nat) : Int)) = false := by simpa using c2
    obtain rfl : i = xs.length := by omega
    ((repeat' (first
    | (show SQ _ _ _ _ _ _ _ _; first | apply sq_nil | (apply q_move; exact rfl; exact rfl) | (apply q_assign; exact rfl; exact rfl) | (apply q_lenl; exact rfl; exact rfl; exact (ty rfl); exact rfl) | (apply q_lss; exact rfl; exact rfl; exact rfl))
    | (show AW _ _ _ _ _ _ _ _; first | refine aw_region ?_ | (refine aw_seqk ?_; intro K hK) | (apply aw_cond_f; exact rfl; exact (by assumption)) | refine aw_ret ?_ | refine aw_exit ?_)
    | refine thn_n ?_
    | (refine hK _ _ _ ?_; clear hK K)
    | refine thn_e ?_
    | refine inb_same ?_
    | (clear hK K; refine hK _ _ _ ?_; clear hK K))); all_goals (repeat (clear hK K)))
    exact finc (fun i => i) (.r1 _ _ (.tmp _ _ rfl)) rfl (fun _ _ => rfl) ⟨by rw [ramp_full]; rfl, trivial⟩ rfl
def up4 (z : Int) (i : Nat) : Ln := ⟨z + 4 * (i : Int), z + 4 * (i : Int) + 1, z + 4 * (i : Int) + 2, z + 4 * (i : Int) + 3⟩
theorem mkL_get {z : Int} {xs : List Ln} {i : Nat} (h : i < xs.length) : ((ramp (up4 z) xs i).map lnL)[i]? = some (lnL xs[i]) := by
  rw [List.getElem?_map, ramp_get h]; rfl
theorem mkL_set {z : Int} {xs : List Ln} {i : Nat} (h : i < xs.length) : ((ramp (up4 z) xs i).map lnL).set i (lnL (up4 z i)) = (ramp (up4 z) xs (i + 1)).map lnL := by
  rw [← ramp_set h, List.map_set]
theorem set_get {α : Type} {l : List α} {i : Nat} {x y : α} (h : l[i]? = some y) : (l.set i x)[i]? = some x := by
  obtain ⟨h, _⟩ := List.getElem?_eq_some_iff.1 h
  simp [h]
set_option maxHeartbeats 4000000 in
theorem markLinkS_rc (b : Nat) (xs : List Ln) (z : Int) (hn : xs.length ≤ 1048576) (h0 : 0 ≤ z) (h1 : z ≤ 1073741824) (k : Nat) :
    RC Try.prog 52 [.sl b 0 xs.length, .v (.int .i64 z)] [(b, ⟨56, 4, true, xs.map lnL⟩)] k (.v (.int .i64 (z + 4 * (xs.length : Int)))) [(b, some ⟨56, 4, true, ((List.range xs.length).map (up4 z)).map lnL⟩)] k := by
  refine RC.ofc [b] 0 [.sl 0 0 xs.length, .v (.int .i64 z)] [(0, ⟨56, 4, true, xs.map lnL⟩)] (.v (.int .i64 (z + 4 * (xs.length : Int)))) [(0, some ⟨56, 4, true, ((List.range xs.length).map (up4 z)).map lnL⟩)] Try.func52 Try.ntmps52 rfl (goFn_of Try.func52 rfl (by kernel_rfl)) rfl rfl rfl rfl rfl rfl rfl rfl (by simp_all) rfl ?_
  ((repeat' (first
    | (show SQ _ _ _ _ _ _ _ _; first | apply sq_nil | (apply q_assign; exact rfl; exact rfl))
    | (show AW _ _ _ _ _ _ _ _; first | refine aw_region ?_ | (refine aw_seqk ?_; intro K hK) | refine aw_block ?_)
    | refine thn_n ?_
    | (refine hK _ _ _ ?_; clear hK K))); all_goals (repeat (clear hK K)))
  refine aw_loop (ρ := id) (ι := Nat) (fun i => ([(5, .v (.int .i64 i)), (1, .v (.int .i64 (z + 4 * (i : Int)))), (0, .sl 0 0 xs.length)], [(0, ⟨56, 4, true, (ramp (up4 z) xs i).map lnL⟩)], 1))
    (fun i => i ≤ xs.length) (fun i => xs.length - i) 0 (Nat.zero_le _) ⟨by (repeat (refine ⟨by first | exact lk_i rfl rfl | exact lk_i rfl (by (try dsimp only); first | rfl | omega | (rw [IntWalk.i64_in _ (by omega)]; first | rfl | omega | (push_cast; omega)) | (simp; done) | (simp; omega)) | exact lk_s rfl rfl rfl rfl, ?_⟩)); exact trivial, by (repeat (refine ⟨by first | exact ⟨rfl, rfl, rfl⟩, ?_⟩)); exact trivial, by rfl, by (intro i hi; (try dsimp only); refine ⟨?_, ?_⟩ <;> first | rfl | omega | (simp at hi; omega) | (simp; omega))⟩ ?_
  intro i hi
  by_cases c2 : i < xs.length
  · have b2 : decide ((i : Int) < ((xs.length : Nat) : Int)) = true := by simpa using c2
    have hr2 : ((ramp (up4 z) xs i).map lnL)[0 + ((i : Int)).toNat]? = some (lnL xs[i]) := by simpa using mkL_get (z := z) c2
    have hlen : ((i : Int)).toNat < ((ramp (up4 z) xs i).map lnL).length := by have := (List.getElem?_eq_some_iff.1 hr2).1; omega
    rw [lnL_eq] at hr2
    have hw1 : IntKind.i64.wrap (z + 4 * (i : Int) + 1) = z + 4 * (i : Int) + 1 := IntWalk.i64_in _ (by omega)
    have hw2 : IntKind.i64.wrap (z + 4 * (i : Int) + 1 + 1) = z + 4 * (i : Int) + 2 := by rw [IntWalk.i64_in _ (by omega)]; omega
    have hw3 : IntKind.i64.wrap (z + 4 * (i : Int) + 2 + 1) = z + 4 * (i : Int) + 3 := by rw [IntWalk.i64_in _ (by omega)]; omega
    have hw4 : IntKind.i64.wrap (z + 4 * (i : Int) + 3 + 1) = z + 4 * ((i + 1 : Nat) : Int) := by rw [IntWalk.i64_in _ (by omega)]; omega
    ((repeat' (first
    | (show SQ _ _ _ _ _ _ _ _; first | apply sq_nil | (apply q_move; exact rfl; exact rfl) | (apply q_assign; exact rfl; exact rfl) | (apply q_fieldAddr; exact rfl; exact rfl; exact (ty rfl); exact rfl; exact rfl; exact rfl; exact rfl) | (apply q_lenl; exact rfl; exact rfl; exact (ty rfl); exact rfl) | (apply q_add; exact rfl; exact rfl; exact rfl) | (apply q_lss; exact rfl; exact rfl; exact rfl) | (apply q_ixl; exact rfl; exact rfl; exact rfl; exact (ty rfl); exact rfl; exact rfl; exact rfl; exact (by first | omega | (simp; done) | (simp; omega)); exact (by first | omega | (simp; done) | (simp; omega))))
    | (show SQ _ _ _ _ _ _ _ _; (first | (apply q_store; exact rfl; exact rfl; exact (ty rfl); exact rfl; exact (by first | rfl | assumption | ((try simp only [Nat.zero_add]); refine List.getElem?_set_self ?_; (try simp only [List.length_set]); assumption)); exact rfl; exact rfl; exact rfl)); (try simp only [put, rowsOf, plR, List.all_cons, selE, ovr, setH, del, cellsA, splice, isV, List.nil_append, List.cons_append, List.map_cons, List.map_nil, List.length_cons, List.length_nil, List.set_cons_zero, List.set_cons_succ, List.take_succ_cons, List.take_zero, List.take_nil, List.drop_succ_cons, List.drop_zero, List.drop_nil, List.append_nil, List.all_cons, List.all_nil, Bool.and_true, Bool.true_and, Bool.and_false, Bool.false_and, Nat.reduceAdd, Nat.zero_add, Nat.add_zero, Nat.reduceEqDiff, if_true, if_false, reduceIte]))
    | (show AW _ _ _ _ _ _ _ _; first | refine aw_region ?_ | (refine aw_seqk ?_; intro K hK) | refine aw_block ?_ | (apply aw_cond_t; exact rfl; exact (by assumption)) | refine aw_skip ?_)
    | refine thn_n ?_
    | (refine hK _ _ _ ?_; clear hK K)
    | refine inb_n ?_)); all_goals (repeat (clear hK K)))
    simp only [hw1, hw2, hw3, hw4, List.set_set]
    exact ⟨i + 1, id, c2, by omega, ⟨by (repeat (refine ⟨by first | exact lk_i rfl rfl | exact lk_i rfl (by (try dsimp only); first | rfl | omega | (rw [IntWalk.i64_in _ (by omega)]; first | rfl | omega | (push_cast; omega)) | (simp; done) | (simp; omega)) | exact lk_s rfl rfl rfl rfl, ?_⟩)); exact trivial, by (repeat (refine ⟨by first | exact lkb rfl rfl rfl (by rw [← mkL_set c2]; simp only [List.set_set, Nat.zero_add, Int.toNat_natCast]; rfl) rfl, ?_⟩)); exact trivial, by rfl, by (intro i hi; (try dsimp only); refine ⟨?_, ?_⟩ <;> first | rfl | omega | (simp at hi; omega) | (simp; omega))⟩⟩
  · have b2 : decide ((i : Int) < ((xs.length : Nat) : Int)) = false := by simpa using c2
    obtain rfl : i = xs.length := by omega
    ((repeat' (first
    | (show SQ _ _ _ _ _ _ _ _; first | apply sq_nil | (apply q_move; exact rfl; exact rfl) | (apply q_assign; exact rfl; exact rfl) | (apply q_lenl; exact rfl; exact rfl; exact (ty rfl); exact rfl) | (apply q_lss; exact rfl; exact rfl; exact rfl))
    | (show AW _ _ _ _ _ _ _ _; first | refine aw_region ?_ | (refine aw_seqk ?_; intro K hK) | (apply aw_cond_f; exact rfl; exact (by assumption)) | refine aw_ret ?_ | refine aw_exit ?_)
    | refine thn_n ?_
    | (refine hK _ _ _ ?_; clear hK K)
    | refine thn_e ?_
    | refine inb_same ?_
    | (clear hK K; refine hK _ _ _ ?_; clear hK K))); all_goals (repeat (clear hK K)))
    exact finc (fun i => i) (.r1 _ _ (.tmp _ _ rfl)) rfl (fun _ _ => rfl) ⟨by rw [ramp_full]; rfl, trivial⟩ rfl
set_option maxHeartbeats 4000000 in
theorem markBackhaul_rc (b : Nat) (n : Int) (xs : List Ln) (z : Int) (hn : xs.length ≤ 1048576) (h0 : 0 ≤ z) (h1 : z ≤ 1073741824) (k : Nat) :
    RC Try.prog 18 [.agg [.v (.int .i64 n), .sl b 0 xs.length], .v (.int .i64 z)] [(b, ⟨56, 4, true, xs.map lnL⟩)] k (.v (.int .i64 (z + 4 * (xs.length : Int)))) [(b, some ⟨56, 4, true, ((List.range xs.length).map (up4 z)).map lnL⟩)] k := by
  refine RC.ofc [b] 0 [.agg [.v (.int .i64 n), .sl 0 0 xs.length], .v (.int .i64 z)] [(0, ⟨56, 4, true, xs.map lnL⟩)] (.v (.int .i64 (z + 4 * (xs.length : Int)))) [(0, some ⟨56, 4, true, ((List.range xs.length).map (up4 z)).map lnL⟩)] Try.func18 Try.ntmps18 rfl (goFn_of Try.func18 rfl (by kernel_rfl)) rfl rfl rfl rfl rfl rfl rfl rfl (by simp_all) rfl ?_
  ((repeat' (first
    | (show SQ _ _ _ _ _ _ _ _; first | apply sq_nil | (apply q_move; exact rfl; exact rfl) | (apply q_assign; exact rfl; exact rfl) | (apply q_fieldAddr; exact rfl; exact rfl; exact (ty rfl); exact rfl; exact rfl; exact rfl; exact rfl) | (apply q_ld1p; exact rfl; exact rfl; exact (ty rfl); exact rfl; exact rfl; exact (by first | rfl | assumption | ((try simp only [Nat.zero_add]); refine List.getElem?_set_self ?_; (try simp only [List.length_set]); assumption)); exact rfl))
    | (show SQ _ _ _ _ _ _ _ _; (first | (apply q_box; exact rfl; exact rfl; exact rfl) | (apply q_callC; exact rfl; exact rfl; exact rfl; exact markLinkS_rc 0 xs z hn h0 h1 _; (focus ((repeat (first | exact trivial | refine ⟨by first | exact rfl | assumption, ?_⟩)); done)); skip)); (try simp only [put, rowsOf, plR, List.all_cons, selE, ovr, setH, del, cellsA, splice, isV, List.nil_append, List.cons_append, List.map_cons, List.map_nil, List.length_cons, List.length_nil, List.set_cons_zero, List.set_cons_succ, List.take_succ_cons, List.take_zero, List.take_nil, List.drop_succ_cons, List.drop_zero, List.drop_nil, List.append_nil, List.all_cons, List.all_nil, Bool.and_true, Bool.true_and, Bool.and_false, Bool.false_and, Nat.reduceAdd, Nat.zero_add, Nat.add_zero, Nat.reduceEqDiff, if_true, if_false, reduceIte]))
    | (show AW _ _ _ _ _ _ _ _; first | refine aw_region ?_ | (refine aw_seqk ?_; intro K hK) | refine aw_ret ?_)
    | refine thn_n ?_
    | (refine hK _ _ _ ?_; clear hK K))); all_goals (repeat (clear hK K)))
  exact finc (fun i => i) (.r1 _ _ (.tmp _ _ rfl)) rfl (fun _ _ => rfl) ⟨rfl, trivial⟩ rfl
end Go.Proofs.Ytglfcaioapdiaaa.Bk

-- Nil lists of numbers.
namespace Go.Proofs.Ytglfcaioapdiaaa.Bk
open Go Go.RowKit Go.Proofs.Ytglfcaioapdiaaa.Aw
set_option linter.unusedSimpArgs false
set_option linter.unusedVariables false
attribute [local irreducible] AW SQ Step RO RC DE Thn InB

set_option maxHeartbeats 4000000 in
theorem markNil_ro (z : Int) (k : Nat) : RO Try.prog 19 [.dsl 1 [], .v (.int .i64 z)] k (.v (.int .i64 z)) [] k := by
  refine RO.ofv' Try.func19 Try.ntmps19 rfl (goFn_of Try.func19 rfl (by kernel_rfl)) rfl rfl ?_
  ((repeat' (first
    | (show SQ _ _ _ _ _ _ _ _; first | apply sq_nil | (apply q_assign; exact rfl; exact rfl))
    | (show AW _ _ _ _ _ _ _ _; first | refine aw_region ?_ | (refine aw_seqk ?_; intro K hK) | refine aw_block ?_)
    | refine thn_n ?_
    | (refine hK _ _ _ ?_; clear hK K))); all_goals (repeat (clear hK K)))
  refine aw_loop (ρ := id) (ι := Nat) (fun i => ([(5, .v (.int .i64 0)), (1, .v (.int .i64 z)), (0, .dsl 1 [])], [], 0))
    (fun i => i = 0) (fun i => i) 0 rfl ⟨by (repeat (refine ⟨by first | exact lk_i rfl rfl | exact lk_d rfl rfl, ?_⟩)); exact trivial, by exact trivial, by rfl, by exact pin_0⟩ ?_
  rintro i rfl
  ((repeat' (first
    | (show SQ _ _ _ _ _ _ _ _; first | apply sq_nil | (apply q_move; exact rfl; exact rfl) | (apply q_assign; exact rfl; exact rfl) | (apply q_lend; exact rfl; exact rfl; exact (ty rfl); exact rfl) | (apply q_lss; exact rfl; exact rfl; exact rfl))
    | (show AW _ _ _ _ _ _ _ _; first | refine aw_region ?_ | (refine aw_seqk ?_; intro K hK) | (apply aw_cond_f; exact rfl; exact rfl) | refine aw_ret ?_ | refine aw_exit ?_)
    | refine thn_n ?_
    | (refine hK _ _ _ ?_; clear hK K)
    | refine thn_e ?_
    | refine inb_same ?_
    | (clear hK K; refine hK _ _ _ ?_; clear hK K))); all_goals (repeat (clear hK K)))
  all_goals first | (exfalso; simp_all; done) | (exact fin_r (fin_i rfl rfl))
set_option maxHeartbeats 4000000 in
theorem heldNil_ro (z : Int) (h0 : 0 ≤ z) (h1 : z ≤ 1073741824) (k : Nat) : RO Try.prog 20 [.dsl 1 [], .v (.int .i64 z)] k (.v (.int .i64 z)) [] k := by
  have := heldInt64S_ro 0 z (by omega) h0 h1 k
  simpa using this
set_option maxHeartbeats 4000000 in
theorem eqNil_ro (k : Nat) : RO Try.prog 16 [.dsl 1 [], .dsl 1 []] k (.v (.bool true)) [] k := eqInt64S_ro [] (by simp) k
end Go.Proofs.Ytglfcaioapdiaaa.Bk
