/-
  A licence put into a list of the caller's own.
-/
import Derived.Test.YtiificaolakgdaaLnC
namespace Go.Proofs.Ytiificaolakgdaa.Li
open Go Go.RowKit Go.Proofs.Ytiificaolakgdaa.Aw Go.Proofs.Ytiificaolakgdaa.Ar
set_option linter.unusedSimpArgs false
set_option linter.unusedVariables false
attribute [local irreducible] AW SQ Step RO RC DE Thn InB

theorem ins1 {α : Type} (A Z : List α) (x : α) (a : Nat) (h : A.length = a) : List.take a (A ++ Z) ++ [x] ++ List.drop (a + 1) (A ++ Z) = A ++ x :: Z.drop 1 := by
  subst h
  rw [List.take_left', List.drop_append, List.drop_of_length_le (by omega), List.nil_append, List.append_assoc]
  · simp
  · rfl
theorem ins2 {α : Type} (A R D : List α) (x : α) (a : Nat) (h : A.length = a) (h2 : R.length ≤ D.length) : List.take (a + 1) (A ++ x :: R) ++ D ++ List.drop (a + 1 + D.length) (A ++ x :: R) = A ++ x :: D := by
  subst h
  rw [List.drop_of_length_le (by simp; omega), List.append_nil, List.take_append, List.take_of_length_le (by omega), show A.length + 1 - A.length = 1 by omega]
  simp
theorem ins3 {α : Type} (B : List α) (y : α) (a : Nat) (h : a < B.length) : List.take a (List.take (a + 1) B ++ List.drop a B ++ List.drop (a + 1 + (List.drop a B).length) B) ++ [y] ++ List.drop (a + 1) (List.take (a + 1) B ++ List.drop a B ++ List.drop (a + 1 + (List.drop a B).length) B) = List.take a B ++ y :: List.drop a B := by
  rw [List.drop_of_length_le (i := a + 1 + (List.drop a B).length) (by simp; omega), List.append_nil, List.take_append_of_le_length (by simp; omega), List.take_take, show min a (a + 1) = a by omega, List.drop_left' (by simp; omega), List.append_assoc]
  rfl
theorem insL_map (xs : List Lic) (a : Nat) (x : Lic) : (insL xs a x).map licL = List.take a (xs.map licL) ++ licL x :: (xs.drop a).map licL := by
  simp [insL, List.map_take]
set_option maxHeartbeats 4000000 in
theorem Insert_rc (b c : Nat) (xs : List Lic) (x : Lic) (a : Nat) (hbc : b ≠ c) (ha : a ≤ xs.length) (hn : xs.length ≤ 1048576) (k : Nat) :
    RC Try.prog 70 [.sl b 0 xs.length, .v (.int .i64 (a : Int)), .sl c 0 1] [(b, ⟨29, 11, true, xs.map licL⟩), (c, ⟨29, 11, true, [licL x]⟩)] k (.sl k 0 (xs.length + 1)) [(k, some ⟨29, 11, true, (insL xs a x).map licL⟩), (b, none), (c, none)] (k + 1) := by
  have hl : (xs.map licL).length = xs.length := List.length_map _
  have b1 : (((1 : Nat) : Int) == 0) = false := by decide
  have p1 : plR [licL x] = true := rfl
  refine RC.ofc [b, c] 1 [.sl 0 0 xs.length, .v (.int .i64 (a : Int)), .sl 1 0 1] [(0, ⟨29, 11, true, xs.map licL⟩), (1, ⟨29, 11, true, [licL x]⟩)] (.sl 2 0 (xs.length + 1)) [(2, some ⟨29, 11, true, (insL xs a x).map licL⟩), (0, none), (1, none)] Try.func70 Try.ntmps70 rfl (goFn_of Try.func70 rfl (by kernel_rfl)) rfl rfl rfl rfl rfl rfl rfl rfl (by simp_all) rfl ?_
  by_cases c0 : a = xs.length
  · subst c0
    have b2 : ((xs.length : Int) == (xs.length : Int)) = true := by simp
    ((repeat' (first
    | (show SQ _ _ _ _ _ _ _ _; first | apply sq_nil | (apply q_move; exact rfl; exact rfl) | (apply q_assign; exact rfl; exact rfl) | (apply q_lenl; exact rfl; exact rfl; exact (ty rfl); exact rfl) | (apply q_eql; exact rfl; exact rfl; exact rfl) | (apply q_ssl_l; exact rfl; exact rfl; exact rfl; exact (ty rfl); exact rfl; exact rfl; exact (by first | omega | (simp; done) | (simp; omega)); exact (by first | omega | (simp; done) | (simp; omega)); exact (by first | omega | (simp; done) | (simp; omega))))
    | (show SQ _ _ _ _ _ _ _ _; (first | (apply q_apo_s; exact rfl; exact rfl; exact rfl; exact (ty rfl); exact rfl; exact rfl; exact (by first | omega | (simp; done) | (simp; omega)); exact (by first | exact List.take_of_length_le (by first | omega | (simp; done) | (simp; omega)) | rfl); exact (ty rfl); exact rfl; exact rfl; exact (by first | omega | (simp; done) | (simp; omega)); exact (by first | exact dt_full (by first | omega | (simp; done) | (simp; omega)) | assumption | rfl); exact rfl; exact (by first | omega | (simp; done) | (simp; omega)); exact (by first | omega | (simp; done) | (simp; omega)); exact (by first | assumption | exact rfl))); (try simp only [put, rowsOf, plR, List.all_cons, selE, ovr, setH, del, cellsA, splice, isV, List.nil_append, List.cons_append, List.map_cons, List.map_nil, List.length_cons, List.length_nil, List.set_cons_zero, List.set_cons_succ, List.take_succ_cons, List.take_zero, List.take_nil, List.drop_succ_cons, List.drop_zero, List.drop_nil, List.append_nil, List.all_cons, List.all_nil, Bool.and_true, Bool.true_and, Bool.and_false, Bool.false_and, Nat.reduceAdd, Nat.zero_add, Nat.add_zero, Nat.reduceEqDiff, if_true, if_false, reduceIte]))
    | (show AW _ _ _ _ _ _ _ _; first | refine aw_region ?_ | (refine aw_seqk ?_; intro K hK) | (apply aw_cond_f; exact rfl; exact rfl) | (apply aw_cond_t; exact rfl; exact (by assumption)) | refine aw_ret ?_ | refine aw_skip ?_)
    | refine thn_n ?_
    | (refine hK _ _ _ ?_; clear hK K)
    | refine thn_r ?_)); all_goals (repeat (clear hK K)))
    refine finc (fun i => i) (.r1 _ _ (.tmp _ _ rfl)) rfl (fun i hi => rfl) ⟨?_, trivial⟩ rfl
    simp [look, insL, renB]
    rfl
  · have b2 : ((a : Int) == (xs.length : Int)) = false := by simp; omega
    refine aw_sx (t := 0) rfl rfl (by omega) ?_
    intro C hC hC2
    rw [hl] at hC
    have w1 : IntKind.i64.wrap ((xs.length : Int) + ((1 : Nat) : Int)) = ((xs.length + 1 : Nat) : Int) := by rw [IntWalk.i64_in _ (by omega)]; simp
    have w2 : IntKind.i64.wrap ((a : Int) + ((1 : Nat) : Int)) = ((a + 1 : Nat) : Int) := by rw [IntWalk.i64_in _ (by omega)]; simp
    have w2' : IntKind.i64.wrap ((a : Int) + 1) = ((a + 1 : Nat) : Int) := by rw [IntWalk.i64_in _ (by omega)]; simp
    have w3 : IntKind.i64.wrap (IntKind.i64.wrap ((xs.length : Int) + ((1 : Nat) : Int)) - (a : Int)) = ((xs.length + 1 - a : Nat) : Int) := by rw [w1, IntWalk.i64_in _ (by omega)]; omega
    by_cases c1 : C < xs.length + 1
    · have b3 : decide (((C - 0 : Nat) : Int) < IntKind.i64.wrap ((xs.length : Int) + ((1 : Nat) : Int))) = true := by rw [w1]; simp; omega
      ((repeat' (first
    | (show SQ _ _ _ _ _ _ _ _; first | apply sq_nil | (apply q_move; exact rfl; exact rfl) | (apply q_assign; exact rfl; exact rfl) | (apply q_lenl; exact rfl; exact rfl; exact (ty rfl); exact rfl) | (apply q_add; exact rfl; exact rfl; exact rfl) | (apply q_sub; exact rfl; exact rfl; exact rfl) | (apply q_eql; exact rfl; exact rfl; exact rfl) | (apply q_gtr; exact rfl; exact rfl; exact rfl) | (apply q_ssl_l; exact rfl; exact rfl; exact rfl; exact (ty rfl); exact rfl; exact rfl; exact (by first | omega | (simp; done) | (simp; omega)); exact (by first | omega | (simp; done) | (simp; omega)); exact (by first | omega | (simp; done) | (simp; omega))) | (apply q_lenx; exact rfl; exact rfl; exact (ty rfl); exact rfl) | (apply q_capx; exact rfl; exact rfl; exact (ty rfl); exact rfl) | (apply q_sxs_h; exact rfl; exact rfl; exact rfl; exact (ty rfl); exact rfl; exact rfl; exact (by first | omega | (simp; done) | (simp; omega)); exact (by first | omega | (simp; done) | (simp; omega))) | (apply q_sxs_l; exact rfl; exact rfl; exact rfl; exact (ty rfl); exact rfl; exact rfl; exact (by first | omega | (simp; done) | (simp; omega)); exact (by first | omega | (simp; done) | (simp; omega)); exact (by first | omega | (simp; done) | (simp; omega)); exact (by first | omega | (simp; done) | (simp; omega))))
    | (show SQ _ _ _ _ _ _ _ _; (first | (apply q_cpy_ss; exact rfl; exact rfl; exact rfl; exact (ty rfl); exact rfl; exact rfl; exact (by first | omega | (simp; done) | (simp; omega)); exact (by first | omega | (simp; done) | (simp; omega)); exact rfl; exact (by first | omega | (simp; done) | (simp; omega)); exact (by first | omega | (simp; done) | (simp; omega)); exact rfl; exact (by first | omega | (simp; done) | (simp; omega)); exact (by first | exact dt_full (by first | omega | (simp; done) | (simp; omega)) | assumption | rfl); exact (by first | omega | (simp; done) | (simp; omega)); exact (by first | assumption | exact rfl))); (try simp only [put, rowsOf, plR, List.all_cons, selE, ovr, setH, del, cellsA, splice, isV, List.nil_append, List.cons_append, List.map_cons, List.map_nil, List.length_cons, List.length_nil, List.set_cons_zero, List.set_cons_succ, List.take_succ_cons, List.take_zero, List.take_nil, List.drop_succ_cons, List.drop_zero, List.drop_nil, List.append_nil, List.all_cons, List.all_nil, Bool.and_true, Bool.true_and, Bool.and_false, Bool.false_and, Nat.reduceAdd, Nat.zero_add, Nat.add_zero, Nat.reduceEqDiff, if_true, if_false, reduceIte]))
    | (show AW _ _ _ _ _ _ _ _; first | refine aw_region ?_ | (refine aw_seqk ?_; intro K hK) | (apply aw_cond_f; exact rfl; exact rfl) | (apply aw_cond_t; exact rfl; exact (by assumption)) | (apply aw_cond_f; exact rfl; exact (by assumption)) | refine aw_skip ?_)
    | refine thn_n ?_
    | (refine hK _ _ _ ?_; clear hK K)
    | (show SQ _ _ _ _ _ _ _ _; apply q_apz; exact rfl; exact rfl; exact rfl; exact (ty rfl); exact rfl; exact (ty rfl); exact rfl; exact rfl; exact w3; omega; omega; omega; omega; omega; exact rfl; exact rfl; exact rfl))); all_goals (repeat (clear hK K)))
      refine aw_weak (ρ := id) (T' := [(9, .sl 2 0 (xs.length + 1)), (0, .sx 0 0 xs.length C), (1, .v (.int .i64 (a : Int))), (7, .v (.int .i64 ((1 : Nat) : Int)))]) (H' := [(0, ⟨29, 11, true, xs.map licL⟩), (1, ⟨29, 11, true, [licL x]⟩), (2, ⟨29, 11, true, List.take a (xs.map licL) ++ licL x :: List.replicate (xs.length - a) (licL lz)⟩)]) (n' := 3) ⟨by (repeat (refine ⟨by first | exact lk_i rfl rfl | exact lk_s rfl rfl (by (try dsimp only); first | rfl | omega | (rw [IntWalk.i64_in _ (by omega)]; first | rfl | omega | (push_cast; omega)) | (simp; done) | (simp; omega)) rfl | exact lk_x rfl rfl rfl rfl, ?_⟩)); exact trivial, by (repeat (refine ⟨by first | exact ⟨rfl, rfl, rfl⟩ | exact lkb rfl rfl rfl (by (try simp only [Nat.zero_add, Int.toNat_natCast]); rw [ins1 _ _ _ _ (by simp; omega), List.drop_replicate, show xs.length + 1 - a - 1 = xs.length - a by omega]; rfl) rfl, ?_⟩)); exact trivial, by rfl, by (intro i hi; (try dsimp only); refine ⟨?_, ?_⟩ <;> first | rfl | omega | (simp at hi; omega) | (simp; omega))⟩ ?_
      have hr : List.take (min (xs.length - ((a : Int)).toNat) (xs.length + 1 - (IntKind.i64.wrap ((a : Int) + ((1 : Nat) : Int))).toNat)) (List.drop (0 + ((a : Int)).toNat) (xs.map licL)) = (xs.drop a).map licL := by
        rw [w2, Nat.zero_add, Int.toNat_natCast, Int.toNat_natCast, ← List.map_drop]
        exact List.take_of_length_le (by simp)
      have p2 := licPl (xs.drop a)
      ((repeat' (first
    | (show SQ _ _ _ _ _ _ _ _; first | apply sq_nil | (apply q_move; exact rfl; exact rfl) | (apply q_assign; exact rfl; exact rfl))
    | (show DE _ _ _ _ _ _ _ _ _ _ _ _; first | (apply e_move; exact rfl; exact rfl; exact rfl) | (apply e_add; exact rfl; exact rfl; exact rfl; exact rfl) | (apply e_ssl_l; exact rfl; exact rfl; exact rfl; exact (ty rfl); exact rfl; exact rfl; exact (by first | omega | (simp; done) | (simp; omega)); exact (by first | omega | (simp; done) | (simp; omega)); exact (by first | omega | (simp; done) | (simp; omega)); exact rfl) | (apply e_sxs_l; exact rfl; exact rfl; exact rfl; exact (ty rfl); exact rfl; exact rfl; exact (by first | omega | (simp; done) | (simp; omega)); exact (by first | omega | (simp; done) | (simp; omega)); exact (by first | omega | (simp; done) | (simp; omega)); exact (by first | omega | (simp; done) | (simp; omega)); exact rfl))
    | (show DE _ _ _ _ _ _ _ _ _ _ _ _; (first | (apply dr_nil; exact rfl) | (apply e_cpy_sx; exact rfl; exact rfl; exact rfl; exact (ty rfl); exact rfl; exact rfl; exact (by first | omega | (simp; done) | (simp; omega)); exact (by first | omega | (simp; done) | (simp; omega)); exact rfl; exact rfl; exact (by first | omega | (simp; done) | (simp; omega)); exact (by first | exact dt_full (by first | omega | (simp; done) | (simp; omega)) | assumption | rfl); exact (by first | omega | (simp; done) | (simp; omega)); exact (by first | assumption | exact rfl); exact rfl)); (try simp only [put, rowsOf, plR, List.all_cons, selE, ovr, setH, del, cellsA, splice, isV, List.nil_append, List.cons_append, List.map_cons, List.map_nil, List.length_cons, List.length_nil, List.set_cons_zero, List.set_cons_succ, List.take_succ_cons, List.take_zero, List.take_nil, List.drop_succ_cons, List.drop_zero, List.drop_nil, List.append_nil, List.all_cons, List.all_nil, Bool.and_true, Bool.true_and, Bool.and_false, Bool.false_and, Nat.reduceAdd, Nat.zero_add, Nat.add_zero, Nat.reduceEqDiff, if_true, if_false, reduceIte]))
    | (show AW _ _ _ _ _ _ _ _; first | refine aw_region ?_ | (refine aw_seqk ?_; intro K hK) | refine aw_ret ?_ | refine aw_drawE (id := 11) [0, 0, 0, 6, 15, 0, 0, 96, 255] [0, 0, 0, 0, 1, 0, 0, 1, 2] mixed (by kernel_rfl) ?_)
    | refine thn_n ?_
    | (refine hK _ _ _ ?_; clear hK K)
    | refine thn_r ?_)); all_goals (repeat (clear hK K)))
      have e2 : (List.drop ((a : Int)).toNat (xs.map licL)) = (xs.drop a).map licL := by rw [Int.toNat_natCast, ← List.map_drop]
      refine finc (fun i => i) (.r1 _ _ (.tmp _ _ rfl)) rfl (fun i hi => rfl) ⟨?_, trivial⟩ rfl
      show some (Blk.mk _ _ _ _) = some (Blk.mk _ _ _ _)
      rw [Option.some.injEq, Blk.mk.injEq]
      refine ⟨rfl, rfl, ?_, ?_⟩
      · rw [e2]; exact p2
      · rw [e2, w2, Int.toNat_natCast, ins2 _ _ _ _ _ (by simp; omega) (by simp), insL_map]
    · have hb1 : a < (xs.map licL).length := by omega
      have hb0 : 0 < (xs.map licL).length := by omega
      have hov : ∀ (args : Array Value) (w : World), (callFunc 88 args).run Try.prog w = ((Extern.SlicesOverlaps.overlaps #[24, 24] #[4] args).run Try.prog w).andThen fun v w' => .ok (.value v) w' := fun args w =>
        run_callFunc_extern Try.func88 (by kernel_rfl) (by kernel_rfl) (by kernel_rfl) (e := Extern.SlicesOverlaps.overlaps #[24, 24] #[4]) (by kernel_rfl) args w
      have b3 : decide (((C - 0 : Nat) : Int) < IntKind.i64.wrap ((xs.length : Int) + ((1 : Nat) : Int))) = false := by rw [w1]; simp; omega
      ((repeat' (first
    | (show SQ _ _ _ _ _ _ _ _; first | apply sq_nil | (apply q_move; exact rfl; exact rfl) | (apply q_assign; exact rfl; exact rfl) | (apply q_not; exact rfl; exact rfl) | (apply q_lenl; exact rfl; exact rfl; exact (ty rfl); exact rfl) | (apply q_add; exact rfl; exact rfl; exact rfl) | (apply q_eql; exact rfl; exact rfl; exact rfl) | (apply q_gtr; exact rfl; exact rfl; exact rfl) | (apply q_lenx; exact rfl; exact rfl; exact (ty rfl); exact rfl) | (apply q_capx; exact rfl; exact rfl; exact (ty rfl); exact rfl) | (apply q_sxs_h; exact rfl; exact rfl; exact rfl; exact (ty rfl); exact rfl; exact rfl; exact (by first | omega | (simp; done) | (simp; omega)); exact (by first | omega | (simp; done) | (simp; omega))) | (apply q_sxs_l; exact rfl; exact rfl; exact rfl; exact (ty rfl); exact rfl; exact rfl; exact (by first | omega | (simp; done) | (simp; omega)); exact (by first | omega | (simp; done) | (simp; omega)); exact (by first | omega | (simp; done) | (simp; omega)); exact (by first | omega | (simp; done) | (simp; omega))))
    | (show AW _ _ _ _ _ _ _ _; first | refine aw_region ?_ | (refine aw_seqk ?_; intro K hK) | (apply aw_cond_t; exact rfl; exact rfl) | (apply aw_cond_f; exact rfl; exact rfl) | (apply aw_cond_f; exact rfl; exact (by assumption)) | refine aw_skip ?_)
    | refine thn_n ?_
    | (refine hK _ _ _ ?_; clear hK K)
    | (show SQ _ _ _ _ _ _ _ _; apply q_ovl (hrun := hov); exact rfl; exact rfl; exact rfl; exact (ty rfl); exact rfl; exact rfl; exact rfl; exact rfl; omega; exact hb0; exact rfl))); all_goals (repeat (clear hK K)))
      refine aw_weak (ρ := id) (T' := [(0, .sx 0 0 (xs.length + 1) C), (1, .v (.int .i64 (a : Int))), (2, .sl 1 0 1), (7, .v (.int .i64 ((1 : Nat) : Int)))]) (H' := [(0, ⟨29, 11, true, xs.map licL⟩), (1, ⟨29, 11, true, [licL x]⟩)]) (n' := 2) ⟨by (repeat (refine ⟨by first | exact lk_i rfl rfl | exact lk_s rfl rfl rfl rfl | exact lk_x rfl rfl (by (try dsimp only); first | rfl | omega | (rw [IntWalk.i64_in _ (by omega)]; first | rfl | omega | (push_cast; omega)) | (simp; done) | (simp; omega)) rfl, ?_⟩)); exact trivial, by (repeat (refine ⟨by first | exact ⟨rfl, rfl, rfl⟩, ?_⟩)); exact trivial, by rfl, by (intro i hi; (try dsimp only); refine ⟨?_, ?_⟩ <;> first | rfl | omega | (simp at hi; omega) | (simp; omega))⟩ ?_
      have hr : List.take (min (xs.length + 1 - ((a : Int)).toNat) (xs.length + 1 - (IntKind.i64.wrap ((a : Int) + ((1 : Nat) : Int))).toNat)) (List.drop (0 + ((a : Int)).toNat) (xs.map licL)) = (xs.drop a).map licL := by
        rw [w2, Nat.zero_add, Int.toNat_natCast, Int.toNat_natCast, ← List.map_drop]
        exact List.take_of_length_le (by simp; omega)
      have p2 := licPl (xs.drop a)
      have e2 : (List.drop ((a : Int)).toNat (xs.map licL)) = (xs.drop a).map licL := by rw [Int.toNat_natCast, ← List.map_drop]
      ((repeat' (first
    | (show SQ _ _ _ _ _ _ _ _; first | apply sq_nil | (apply q_move; exact rfl; exact rfl) | (apply q_assign; exact rfl; exact rfl) | (apply q_sxs_l; exact rfl; exact rfl; exact rfl; exact (ty rfl); exact rfl; exact rfl; exact (by first | omega | (simp; done) | (simp; omega)); exact (by first | omega | (simp; done) | (simp; omega)); exact (by first | omega | (simp; done) | (simp; omega)); exact (by first | omega | (simp; done) | (simp; omega))))
    | (show SQ _ _ _ _ _ _ _ _; (first | (apply q_cpy_xs; exact rfl; exact rfl; exact rfl; exact (ty rfl); exact rfl; exact rfl; exact (by first | omega | (simp; done) | (simp; omega)); exact (by first | omega | (simp; done) | (simp; omega)); exact rfl; exact (by first | omega | (simp; done) | (simp; omega)); exact (by first | omega | (simp; done) | (simp; omega)); exact rfl; exact (by first | omega | (simp; done) | (simp; omega)); exact (by first | exact dt_full (by first | omega | (simp; done) | (simp; omega)) | assumption | rfl); exact (by first | omega | (simp; done) | (simp; omega)); exact (by first | assumption | exact rfl))); (try simp only [put, rowsOf, plR, List.all_cons, selE, ovr, setH, del, cellsA, splice, isV, List.nil_append, List.cons_append, List.map_cons, List.map_nil, List.length_cons, List.length_nil, List.set_cons_zero, List.set_cons_succ, List.take_succ_cons, List.take_zero, List.take_nil, List.drop_succ_cons, List.drop_zero, List.drop_nil, List.append_nil, List.all_cons, List.all_nil, Bool.and_true, Bool.true_and, Bool.and_false, Bool.false_and, Nat.reduceAdd, Nat.zero_add, Nat.add_zero, Nat.reduceEqDiff, if_true, if_false, reduceIte]))
    | (show DE _ _ _ _ _ _ _ _ _ _ _ _; first | (apply e_move; exact rfl; exact rfl; exact rfl) | (apply e_add; exact rfl; exact rfl; exact rfl; exact rfl) | (apply e_sxs_l; exact rfl; exact rfl; exact rfl; exact (ty rfl); exact rfl; exact rfl; exact (by first | omega | (simp; done) | (simp; omega)); exact (by first | omega | (simp; done) | (simp; omega)); exact (by first | omega | (simp; done) | (simp; omega)); exact (by first | omega | (simp; done) | (simp; omega)); exact rfl))
    | (show DE _ _ _ _ _ _ _ _ _ _ _ _; (first | (apply dr_nil; exact rfl) | (apply e_cpy_xx; exact rfl; exact rfl; exact rfl; exact (ty rfl); exact rfl; exact rfl; exact (by first | omega | (simp; done) | (simp; omega)); exact (by first | omega | (simp; done) | (simp; omega)); exact rfl; exact rfl; exact (by first | omega | (simp; done) | (simp; omega)); exact (by first | exact dt_full (by first | omega | (simp; done) | (simp; omega)) | assumption | rfl); exact (by first | omega | (simp; done) | (simp; omega)); exact (by first | assumption | exact rfl); exact rfl)); (try simp only [put, rowsOf, plR, List.all_cons, selE, ovr, setH, del, cellsA, splice, isV, List.nil_append, List.cons_append, List.map_cons, List.map_nil, List.length_cons, List.length_nil, List.set_cons_zero, List.set_cons_succ, List.take_succ_cons, List.take_zero, List.take_nil, List.drop_succ_cons, List.drop_zero, List.drop_nil, List.append_nil, List.all_cons, List.all_nil, Bool.and_true, Bool.true_and, Bool.and_false, Bool.false_and, Nat.reduceAdd, Nat.zero_add, Nat.add_zero, Nat.reduceEqDiff, if_true, if_false, reduceIte]))
    | (show AW _ _ _ _ _ _ _ _; first | refine aw_region ?_ | (refine aw_seqk ?_; intro K hK) | refine aw_drawE (id := 15) [0, 0, 0, 6, 15, 0, 0, 96, 255] [0, 0, 0, 0, 1, 0, 0, 1, 2] mixed (by kernel_rfl) ?_)
    | refine thn_n ?_
    | (refine hK _ _ _ ?_; clear hK K))); all_goals (repeat (clear hK K)))
      refine aw_wk (t := 6) rfl ?_
      ((repeat' (first
    | (show AW _ _ _ _ _ _ _ _; first | refine aw_ret ?_)
    | refine thn_r ?_)); all_goals (repeat (clear hK K)))
      refine finc (fun i => if i = 2 then 0 else i) (.r1 _ _ (.tmp _ _ rfl)) rfl (fun i hi => by simp at hi; simp; omega) ⟨?_, trivial⟩ rfl
      show some (Blk.mk _ _ _ _) = some (Blk.mk _ _ _ _)
      rw [Option.some.injEq, Blk.mk.injEq]
      refine ⟨rfl, rfl, ?_, ?_⟩
      · have p3 := p2
        unfold plR at p3
        rw [e2]; simp only [p3]; try rfl
      · rw [insL_map]
        simp only [e2, w2, Int.toNat_natCast]
        rw [ins3 _ _ _ hb1, List.map_drop]
end Go.Proofs.Ytiificaolakgdaa.Li
